-- CUT by a program of this session: what the claim does not use is left out
import Derived.Test.YthfhnkpipdbekaaDoorN1
import Derived.Deep.LoopGhost
namespace Go.Proofs.YthfhnkpipdbekaaDoor.Giv
set_option linter.unusedVariables false
set_option linter.unusedSimpArgs false
open Go.RowKit Go.Shelf Go.Proofs.YthfhnkpipdbekaaDoorW.PrintWords Go.Proofs.YthfhnkpipdbekaaDoorW.PrintLast Go.Proofs.YthfhnkpipdbekaaDoorW.PrintMore
open Go.Proofs.YthfhnkpipdbekaaDoor.Ua (S67 k67 z67 rd_T67 at_T67 k67_open k67_openM k67_mkM)
abbrev opV (o : S67) : Value := .agg #[.int .i64 o.f0, .int .i64 o.f1, .int .i64 o.f2, .int .i64 o.f3]
theorem pred65 (n : Int) (B : Nat) (w : World) (hc : w.cell? ⟨B, 0, none⟩ = some (.int .i64 n)) (o : S67) :
  Calls Tryd.prog 65 #[opV o, .pointer (some ⟨B, 0, none⟩)] w fun e w' => e = .returned (.bool (!rightB n o)) ∧ Below w.heap.size w w' := by
 obtain ⟨k, a, b, c⟩ := o
 have HB := Aside0.mk (Below.refl w.heap.size w)
 have hlt : B < w.heap.size := World.block_lt_of_cell? w _ hc
 go_enter Tryd.func65, Tryd.ntmps65
 go_wp2_with (go_at_call 66; refine (right_calls n k a b c _ _ rfl).mono ?_; rintro e w' ⟨rfl, hb⟩)
 go_ret
 refine ⟨by simp [results, Tryd.results65, go_sem], ?_⟩
 exact below_step (by repeat (first | exact HB.out | apply below_alloc)) hb
theorem any_next {α : Type} {l : List α} {p : α → Bool} {i : Nat} (hl : i < l.length) : (l.take (i + 1)).any p = ((l.take i).any p || p l[i]) := by
 rw [List.take_succ_eq_append_getElem hl, List.any_append]
 simp
theorem rd_T67_at (l : List S67) (i : Nat) (h : i < l.length) : rd_T67 l (i : Int) = l[i] := by
 simp [rd_T67, List.getD_eq_getElem?_getD, List.getElem?_eq_getElem h]
set_option maxHeartbeats 2000000 in
theorem index_ops (n : Int) (B : Nat) (A : Option Addr) (c : Nat) (l : List S67) (w : World) (hC : Kd.C k67 w A l.length l) (hcl : l.length ≤ c) (hc : w.cell? ⟨B, 0, none⟩ = some (.int .i64 n)) :
  Calls Tryd.prog 90 #[.slice A l.length c, .func (.func 65) #[] #[.pointer (some ⟨B, 0, none⟩)]] w fun e w' => (∃ i : Int, e = .returned (.int .i64 i) ∧ decide (0 ≤ i) = (l.any fun o => !rightB n o)) ∧ Below w.heap.size w w' := by
 have HC := Aside0.mk hC
 have hlen : l.length ≤ maxLen := hC.2.1
 have HL := Aside0.mk hlen
 have hB : B < w.heap.size := World.block_lt_of_cell? w _ hc
 have HX := Aside0.mk hc
 clear hC hc hlen hcl
 have eg := eg65
 go_enter Tryd.func90, Tryd.ntmps90
 go_wp2
 go_loopg [5, 8] l.length (fun gg _ s8 wr => ∃ i : Nat, s8 = .int .i64 (i : Int) ∧ Aside0 (i ≤ l.length) ∧ Aside0 (l.length - i = gg) ∧ Aside0 (Below w.heap.size w wr) ∧ Aside0 ((l.take i).any (fun o => !rightB n o) = false))
 case atStart => exact ⟨0, rfl, ⟨by omega⟩, ⟨by omega⟩, ⟨Below.refl _ _⟩, ⟨by simp⟩⟩
 case round =>
  obtain ⟨i, rfl, HI, HG, HB, HA⟩ := hrel
  by_cases cl : i < l.length
  ·have clb : decide ((i : Int) < (l.length : Int)) = true := decide_eq_true (by omega)
   obtain ⟨ad, e1, h0, h1, h2, h3⟩ := at_T67 (Kd.C_below HC.out HB.out) (i : Int) (by omega) (by omega)
   rw [rd_T67_at l i cl] at h0 h1 h2 h3
   subst e1
   have p1 : (0 ≤ (i : Int)) = True := eq_true (by omega)
   have q1 : ((i : Int) < (l.length : Int)) = True := eq_true (by omega)
   have HN := Aside0.mk (any_next (p := fun o => !rightB n o) cl)
   rw [Int.toNat_natCast] at h0 h1 h2 h3
   have HM := Aside0.mk (List.getElem_mem cl)
   obtain ⟨o, ho⟩ : ∃ o, o = l[i] := ⟨_, rfl⟩
   rw [← ho] at h0 h1 h2 h3 HN HM
   clear ho
   have hcall := pred65 n B wr (pw_cell_below HB.out HX.out) o
   cases hq : rightB n o with
   | false =>
    rw [hq] at hcall
    have HF : Aside0 ((l.any fun o => !rightB n o) = true) := ⟨by
     rw [List.any_eq_true]
     exact ⟨o, HM.out, by simp [hq]⟩⟩
    have CL := Aside0.mk cl
    clear cl
    go_wp2_with (go_at_fn 65; refine hcall.mono ?_; rintro e w' ⟨rfl, hb⟩)
    go_ret
    exact ⟨⟨i, by simp [results, Tryd.results90, go_sem], by rw [HF.out]; exact decide_eq_true (by omega)⟩, below_step HB.out hb⟩
   | true =>
    rw [hq] at hcall
    have CL := Aside0.mk cl
    clear cl
    go_wp2_with (go_at_fn 65; refine hcall.mono ?_; rintro e w' ⟨rfl, hb⟩)
    go_roundg (l.length - (i + 1))
    case measure => have := HG.out; have := CL.out; omega
    case rel =>
     have := CL.out
     refine ⟨i + 1, ?_, ⟨by omega⟩, ⟨by omega⟩, ⟨below_step HB.out hb⟩, ⟨by rw [HN.out, HA.out, hq]; rfl⟩⟩
     rw [show wrap64 ((i : Int) + 1) = ((i + 1 : Nat) : Int) by have := HL.out; unfold maxLen at this; unfold wrap64; omega]
  ·have clb : decide ((i : Int) < (l.length : Int)) = false := decide_eq_false (by omega)
   go_wp2
   go_ret
   refine ⟨⟨-1, by simp [results, Tryd.results90, go_sem], ?_⟩, HB.out⟩
   have := HA.out
   rw [List.take_of_length_le (by omega)] at this
   rw [this]; rfl
theorem contains_ops (n : Int) (B : Nat) (A : Option Addr) (c : Nat) (l : List S67) (w : World) (hC : Kd.C k67 w A l.length l) (hcl : l.length ≤ c) (hc : w.cell? ⟨B, 0, none⟩ = some (.int .i64 n)) :
  Calls Tryd.prog 64 #[.slice A l.length c, .func (.func 65) #[] #[.pointer (some ⟨B, 0, none⟩)]] w fun e w' => e = .returned (.bool (l.any fun o => !rightB n o)) ∧ Below w.heap.size w w' := by
 have HX := Aside0.mk (index_ops n B A c l w hC hcl hc)
 clear hC hcl hc
 go_enter Tryd.func64, Tryd.ntmps64
 go_wp2_with (go_at_call 90; refine HX.out.mono ?_; rintro e w' ⟨⟨i, rfl, hi⟩, hb⟩)
 go_ret
 exact ⟨by rw [← hi]; simp [results, Tryd.results64, go_sem], hb⟩
theorem any_not (n : Int) (l : List S67) : (!(l.any fun o => !rightB n o)) = l.all (rightB n) := by
 rw [List.any_eq_not_all_not]; simp
def undo_Valid.f (a0_0 : Int) (l0_1 : List S67) : Option Bool := some (validB a0_0 l0_1)
set_option maxHeartbeats 2000000 in
theorem undo_Valid.calls (a0_0 : Int) (A0_1 : Option Addr) (c0_1 : Nat) (l0_1 : List S67) (r : Bool) (w : World) (hr0_1 : Kd.C k67 w A0_1 l0_1.length l0_1) (hc0_1 : l0_1.length ≤ c0_1) (h : undo_Valid.f a0_0 l0_1 = some r) :
  Calls Tryd.prog 28 #[.agg #[.int .i64 a0_0, .slice A0_1 l0_1.length c0_1]] w fun e w' => e = .returned (.bool r) ∧ Below w.heap.size w w' := by
 obtain rfl := Option.some.inj h
 have HB := Aside0.mk (Below.refl w.heap.size w)
 have HC := Aside0.mk hr0_1
 have HL := Aside0.mk hc0_1
 clear hr0_1 hc0_1 h
 by_cases h : 1 ≤ a0_0 ∧ a0_0 ≤ 1024 ∧ l0_1.length ≤ 200000
 ·have HV : Aside0 (validB a0_0 l0_1 = (!(l0_1.any fun o => !rightB a0_0 o))) := ⟨by rw [any_not, validB, decide_eq_true h, Bool.true_and]⟩
  obtain ⟨h1, h2, h3⟩ := h
  have d1 : decide (a0_0 < 1) = false := decide_eq_false (by omega)
  have d2 : decide (1024 < a0_0) = false := decide_eq_false (by omega)
  have d3 : decide (200000 < (l0_1.length : Int)) = false := decide_eq_false (by omega)
  clear h1 h2 h3
  go_enter Tryd.func28, Tryd.ntmps28
  go_wp2_with (go_at_call 64; refine (contains_ops a0_0 w.heap.size A0_1 c0_1 l0_1 _ (Kd.C_alloc HC.out _) HL.out (by simp)).mono ?_; rintro e w' ⟨rfl, hb⟩)
  go_ret
  refine ⟨by rw [HV.out]; simp [results, Tryd.results28, go_sem], ?_⟩
  exact below_step (by repeat (first | exact HB.out | apply below_alloc)) hb
 ·have HV : Aside0 (validB a0_0 l0_1 = false) := ⟨by rw [validB, decide_eq_false h, Bool.false_and]⟩
  have HN := Aside0.mk h
  clear h
  go_enter Tryd.func28, Tryd.ntmps28
  go_wp2
  all_goals first
   | (go_ret; refine ⟨by rw [HV.out]; simp_all [results, Tryd.results28, go_sem], ?_⟩; repeat (first | exact HB.out | apply below_alloc))
   | (exfalso; have := HN.out; omega)
end Go.Proofs.YthfhnkpipdbekaaDoor.Giv
