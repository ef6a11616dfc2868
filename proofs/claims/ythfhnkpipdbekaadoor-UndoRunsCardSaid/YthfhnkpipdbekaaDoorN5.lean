-- CUT by a program of this session: what the claim does not use is left out
import Derived.Test.YthfhnkpipdbekaaDoorN3
import Derived.Test.YthfhnkpipdbekaaDoorN4
namespace Go.Proofs.YthfhnkpipdbekaaDoor.Giv
set_option linter.unusedVariables false
set_option linter.unusedSimpArgs false
open Go.RowKit Go.Shelf Go.Proofs.YthfhnkpipdbekaaDoorW.PrintWords Go.Proofs.YthfhnkpipdbekaaDoorW.PrintLast Go.Proofs.YthfhnkpipdbekaaDoorW.PrintMore
open Go.Proofs.YthfhnkpipdbekaaDoor.Ua (S67 k67 z67 rd_T67 at_T67 k67_open k67_mk k67_openM k67_mkM)
def undo_Run.f (a0_0 : Int) (l0_1 : List S67) (l1 : List Bool) : Option (List Bool × Int) :=
 some (if validB a0_0 l0_1 = true then (if (l1.length : Int) = a0_0 then (runL l1 l0_1, 0) else ([], 2)) else ([], 1))
theorem validB_all {n : Int} {l : List S67} (h : validB n l = true) : (1 ≤ n ∧ n ≤ 1024 ∧ l.length ≤ 200000) ∧ ∀ o ∈ l, rightB n o = true := by
 simp only [validB, Bool.and_eq_true, decide_eq_true_eq, List.all_eq_true] at h
 exact h
theorem box25 (w : World) (n : Int) (A : Option Addr) (m c : Nat) : (w.alloc (.cells #[.int .i64 n, .slice A m c] 25)).cell? ⟨w.heap.size, 0, none⟩ = some (.int .i64 n) ∧ (w.alloc (.cells #[.int .i64 n, .slice A m c] 25)).cell? ⟨w.heap.size, 1, none⟩ = some (.slice A m c) := by
 constructor <;> simp
set_option maxHeartbeats 4000000 in
theorem undo_Run.calls (a0_0 : Int) (A0_1 : Option Addr) (c0_1 : Nat) (l0_1 : List S67) (A1 : Option Addr) (c1 : Nat) (l1 : List Bool) (r1 : List Bool) (r2 : Int) (w : World) (hr0_1 : Kd.C k67 w A0_1 l0_1.length l0_1) (hc0_1 : l0_1.length ≤ c0_1) (hr1 : Kd.C Kd.bool w A1 l1.length l1) (hc1 : l1.length ≤ c1) (h : undo_Run.f a0_0 l0_1 l1 = some (r1, r2)) :
  Calls Tryd.prog 30 #[.agg #[.int .i64 a0_0, .slice A0_1 l0_1.length c0_1], .slice A1 l1.length c1] w fun e w' => ∃ v0_ : Value, e = .returned (.tuple #[v0_, .int .i64 r2]) ∧ Kd.R Kd.bool 4 w' w.heap.size (fun _ => True) v0_ r1 ∧ Below w.heap.size w w' := by
 have HB := Aside0.mk (Below.refl w.heap.size w)
 have HC := Aside0.mk hr0_1
 have HL := Aside0.mk hc0_1
 have HC1 := Aside0.mk hr1
 have HL1 := Aside0.mk hc1
 clear hr0_1 hc0_1 hr1 hc1
 have H := Option.some.inj h
 clear h
 cases hv : validB a0_0 l0_1 with
 | false =>
  rw [hv, if_neg (by simp)] at H
  obtain ⟨rfl, rfl⟩ := Prod.mk.inj H
  have hvf : undo_Valid.f a0_0 l0_1 = some false := congrArg some hv
  go_enter Tryd.func30, Tryd.ntmps30
  go_wp2_with (go_at_call 28; refine (undo_Valid.calls a0_0 A0_1 c0_1 l0_1 false _ (Kd.C_alloc HC.out _) HL.out hvf).mono ?_; rintro e w2 ⟨rfl, hb⟩; have HB2 := Aside0.mk (below_step (by repeat (first | exact HB.out | apply below_alloc) : Below w.heap.size w _) hb); have hz0 := pw_cell_below hb (box25 w a0_0 A0_1 l0_1.length c0_1).1; have hz1 := pw_cell_below hb (box25 w a0_0 A0_1 l0_1.length c0_1).2; clear hb)
  refine bodyPost_ret (v := .tuple #[.slice none 0 0, .int .i64 1]) (by simp [results, Tryd.results30, go_sem]) rfl ?_
  exact ⟨_, rfl, Kd.R_nil _ _ _ _ _, HB2.out⟩
 | true =>
  rw [hv, if_pos rfl] at H
  have hvf : undo_Valid.f a0_0 l0_1 = some true := congrArg some hv
  have HV := Aside0.mk (validB_all hv)
  clear hv
  by_cases hl : (l1.length : Int) = a0_0
  ·rw [if_pos hl] at H
   obtain ⟨rfl, rfl⟩ := Prod.mk.inj H
   subst hl
   have hcf : slices_Clone_bools.f l1 = some l1 := if_pos (by have := HV.out.1; omega)
   have HP : Aside0 (0 < l1.length) := ⟨by have := HV.out.1; omega⟩
   go_enter Tryd.func30, Tryd.ntmps30
   go_wp2_with (first
    | (go_at_call 28; refine (undo_Valid.calls _ A0_1 c0_1 l0_1 true _ (Kd.C_alloc HC.out _) HL.out hvf).mono ?_; rintro e w2 ⟨rfl, hb⟩; have HB2 := Aside0.mk (below_step (by repeat (first | exact HB.out | apply below_alloc) : Below w.heap.size w _) hb); have hz0 := pw_cell_below hb (box25 w (l1.length : Int) A0_1 l0_1.length c0_1).1; have hz1 := pw_cell_below hb (box25 w (l1.length : Int) A0_1 l0_1.length c0_1).2; clear hb)
    | (go_at_call 55; refine (slices_Clone_bools.calls A1 c1 l1 l1 _ (Kd.C_below HC1.out HB2.out) HL1.out hcf).mono ?_; rintro e w3 ⟨v3, rfl, ho, hb⟩; have HB3 := Aside0.mk (below_step HB2.out hb); replace hz0 := pw_cell_below hb hz0; replace hz1 := pw_cell_below hb hz1; have HO3 := Aside0.mk (Kd.R_lower ho (below_size HB2.out)); clear ho hb; obtain ⟨g, cp, e3, hg3, hg4, _⟩ := Kd.R_form HO3.out HP.out; subst e3; have HG3 := Aside0.mk hg3; have HG4 := Aside0.mk hg4; clear hg3 hg4)
    | (go_at_call 56; refine (run_walk A0_1 c0_1 l0_1 g cp l1 w w3 HC.out HO3.out HB3.out HG3.out HG4.out HV.out.2).mono ?_; rintro e w4 ⟨rfl, hrun⟩))
   refine bodyPost_ret (v := .tuple #[.slice (some ⟨g, 0, none⟩) l1.length cp, .int .i64 0]) (by simp [results, Tryd.results30, go_sem]) rfl ?_
   exact ⟨_, rfl, by have := hrun.row; rw [runL_len] at this; exact this, hrun.below⟩
  ·rw [if_neg hl] at H
   obtain ⟨rfl, rfl⟩ := Prod.mk.inj H
   have hlb : ((l1.length : Int) != a0_0) = true := bne_iff_ne.2 hl
   clear hl
   go_enter Tryd.func30, Tryd.ntmps30
   go_wp2_with (go_at_call 28; refine (undo_Valid.calls a0_0 A0_1 c0_1 l0_1 true _ (Kd.C_alloc HC.out _) HL.out hvf).mono ?_; rintro e w2 ⟨rfl, hb⟩; have HB2 := Aside0.mk (below_step (by repeat (first | exact HB.out | apply below_alloc) : Below w.heap.size w _) hb); have hz0 := pw_cell_below hb (box25 w a0_0 A0_1 l0_1.length c0_1).1; have hz1 := pw_cell_below hb (box25 w a0_0 A0_1 l0_1.length c0_1).2; clear hb)
   refine bodyPost_ret (v := .tuple #[.slice none 0 0, .int .i64 2]) (by simp [results, Tryd.results30, go_sem]) rfl ?_
   exact ⟨_, rfl, Kd.R_nil _ _ _ _ _, HB2.out⟩
end Go.Proofs.YthfhnkpipdbekaaDoor.Giv
