-- CUT by a program of this session: what the claim does not use is left out
import Derived.Test.YtfoodfhhdbaieaaT7
import Derived.Test.YtfoodfhhdbaieaaT4
namespace Go.Proofs.Ytfoodfhhdbaieaa.Giv
set_option linter.unusedVariables false
set_option linter.unusedSimpArgs false
open Go.RowKit Go.Shelf Go.Proofs.YtfoodfhhdbaieaaW.PrintWords Go.Proofs.YtfoodfhhdbaieaaW.PrintLast Go.Proofs.YtfoodfhhdbaieaaW.PrintMore
open Go.Proofs.Ytfoodfhhdbaieaa.Ka (S54 k54 z54 rd_T54 at_T54 k54_open k54_mk rd_L1 at_L1 info3 info25 info54)

theorem valid_calls (a0 a1 a2 : Int) (A : Option Addr) (c : Nat) (l : List S54) (w : World) (hr : Kd.C k54 w A l.length l) :
    Calls Try.prog 39 #[.agg #[.int .i64 a0, .int .i64 a1, .int .i64 a2, .slice A l.length c]] w fun e w' => e = .returned (.bool (validM a0 a1 a2 l)) ∧ Below w.heap.size w w' := by
  cases h : headB a0 a1 a2 with
  | false =>
    rw [show validM a0 a1 a2 l = false by unfold validM; rw [h]; rfl]
    exact valid_head a0 a1 a2 A c l w h
  | true =>
    rw [show validM a0 a1 a2 l = rulesB a0 a1 a2 [] l by unfold validM; rw [h]; rfl]
    exact valid_walk a0 a1 a2 A c l w hr h _ ⟨rfl⟩
theorem bcell {W w1 : World} (hb : Below W.heap.size W w1) : (∀ b o, b < W.heap.size → w1.cell? ⟨b, o, none⟩ = W.cell? ⟨b, o, none⟩) ∧ (∀ b o, b < W.heap.size → w1.frozen? ⟨b, o, none⟩ = W.frozen? ⟨b, o, none⟩) :=
  ⟨fun b o h => hb.cell (p := ⟨b, o, none⟩) h, fun b o h => hb.frozen (p := ⟨b, o, none⟩) h⟩
def sceneB (a0 a1 a2 : Int) (l : List S54) (s : Int) (at_ : List Int) (tp : List (List Int)) : Bool :=
  (validM a0 a1 a2 l && !decide (s < 0) && !decide (a0 ≤ s) && ((at_.length : Int) == a2) && ((tp.length : Int) == a2)) && !at_.any outP && !tp.any (rowB a1)
theorem five {p : Prop} {c1 c2 c3 c4 c5 : Bool} (h : (c1 && !c2 && !c3 && c4 && c5) = false) (k1 : c1 = false → p) (k2 : c1 = true → c2 = true → p) (k3 : c1 = true → c2 = false → c3 = true → p) (k4 : c1 = true → c2 = false → c3 = false → c4 = false → p)
    (k5 : c1 = true → c2 = false → c3 = false → c4 = true → c5 = false → p) : p := by
  cases c1 <;> cases c2 <;> cases c3 <;> cases c4 <;> cases c5 <;> simp_all
theorem five_t {c1 c2 c3 c4 c5 : Bool} (h : (c1 && !c2 && !c3 && c4 && c5) = true) : c1 = true ∧ c2 = false ∧ c3 = false ∧ c4 = true ∧ c5 = true := by
  cases c1 <;> cases c2 <;> cases c3 <;> cases c4 <;> cases c5 <;> simp_all
set_option maxHeartbeats 2000000 in
theorem scene_calls (a0 a1 a2 : Int) (A : Option Addr) (c : Nat) (l : List S54) (s : Int) (A1 : Option Addr) (c1 : Nat) (at_ : List Int) (A2 : Option Addr) (c2 : Nat) (tp : List (List Int)) (w : World) (hr : Kd.C k54 w A l.length l) (h1 : Kd.C (Kd.int .i64) w A1 at_.length at_) (h2 : Kd.C (Kd.slice 3 (Kd.int .i64)) w A2 tp.length tp) :
    Calls Try.prog 27 #[.agg #[.int .i64 a0, .int .i64 a1, .int .i64 a2, .slice A l.length c], .agg #[.int .i64 s, .slice A1 at_.length c1, .slice A2 tp.length c2]] w fun e w' => e = .returned (.bool (sceneB a0 a1 a2 l s at_ tp)) ∧ Below w.heap.size w w' := by
  obtain ⟨W, hW⟩ : ∃ W, (w.alloc (Obj.cells #[.int .i64 a0, .int .i64 a1, .int .i64 a2, .slice A l.length c] 24)).alloc (Obj.cells #[.int .i64 s, .slice A1 at_.length c1, .slice A2 tp.length c2] 32) = W := ⟨_, rfl⟩
  have hBW : Below w.heap.size w W := by rw [← hW]; exact ((Below.refl _ _).alloc (Nat.le_refl _) _).alloc (by simp) _
  have HBW := Aside0.mk hBW
  have HV := Aside0.mk (valid_calls a0 a1 a2 A c l W (Kd.C_below hr hBW))
  have H1 := Aside0.mk h1
  have H2 := Aside0.mk h2
  have HW := Aside0.mk hW
  have z1 : w.heap.size + 1 < W.heap.size := by rw [← hW]; simp
  have z0 : w.heap.size < W.heap.size := by omega
  have m0 : W.cell? ⟨w.heap.size, 0, none⟩ = some (.int .i64 a0) := by subst hW; go_simp
  have m1 : W.cell? ⟨w.heap.size, 1, none⟩ = some (.int .i64 a1) := by subst hW; go_simp
  have m2 : W.cell? ⟨w.heap.size, 2, none⟩ = some (.int .i64 a2) := by subst hW; go_simp
  have n0 : W.cell? ⟨w.heap.size + 1, 0, none⟩ = some (.int .i64 s) := by subst hW; go_simp
  have n1 : W.cell? ⟨w.heap.size + 1, 1, none⟩ = some (.slice A1 at_.length c1) := by subst hW; go_simp
  have n2 : W.cell? ⟨w.heap.size + 1, 2, none⟩ = some (.slice A2 tp.length c2) := by subst hW; go_simp
  clear hr h1 h2 hW hBW
  cases hc : (validM a0 a1 a2 l && !decide (s < 0) && !decide (a0 ≤ s) && ((at_.length : Int) == a2) && ((tp.length : Int) == a2)) with
  | false =>
    have HO : Aside0 (sceneB a0 a1 a2 l s at_ tp = false) := ⟨by unfold sceneB; rw [hc]; rfl⟩
    refine five hc ?_ ?_ ?_ ?_ ?_ <;> clear hc
    · intro k1
      go_enter Try.func27, Try.ntmps27
      go_wp2_with fail
      rw [HW.out]
      go_wp2_with (go_at_call 39; refine HV.out.mono ?_; rintro e w1 ⟨rfl, hb⟩; obtain ⟨hcc, hff⟩ := bcell hb; have HB := Aside0.mk hb; clear hb)
      go_ret
      exact ⟨by rw [HO.out]; rfl, HBW.out.trans (HB.out.mono (by omega))⟩
    · intro k1 k2
      go_enter Try.func27, Try.ntmps27
      go_wp2_with fail
      rw [HW.out]
      go_wp2_with (go_at_call 39; refine HV.out.mono ?_; rintro e w1 ⟨rfl, hb⟩; obtain ⟨hcc, hff⟩ := bcell hb; have HB := Aside0.mk hb; clear hb)
      go_ret
      exact ⟨by rw [HO.out]; rfl, HBW.out.trans (HB.out.mono (by omega))⟩
    · intro k1 k2 k3
      go_enter Try.func27, Try.ntmps27
      go_wp2_with fail
      rw [HW.out]
      go_wp2_with (go_at_call 39; refine HV.out.mono ?_; rintro e w1 ⟨rfl, hb⟩; obtain ⟨hcc, hff⟩ := bcell hb; have HB := Aside0.mk hb; clear hb)
      go_ret
      exact ⟨by rw [HO.out]; rfl, HBW.out.trans (HB.out.mono (by omega))⟩
    · intro k1 k2 k3 k4
      have k4' : ((at_.length : Int) != a2) = true := by simp only [bne, k4, Bool.not_false]
      go_enter Try.func27, Try.ntmps27
      go_wp2_with fail
      rw [HW.out]
      go_wp2_with (go_at_call 39; refine HV.out.mono ?_; rintro e w1 ⟨rfl, hb⟩; obtain ⟨hcc, hff⟩ := bcell hb; have HB := Aside0.mk hb; clear hb)
      go_ret
      exact ⟨by rw [HO.out]; rfl, HBW.out.trans (HB.out.mono (by omega))⟩
    · intro k1 k2 k3 k4 k5
      have k4' : ((at_.length : Int) != a2) = false := by simp only [bne, k4, Bool.not_true]
      have k5' : ((tp.length : Int) != a2) = true := by simp only [bne, k5, Bool.not_false]
      go_enter Try.func27, Try.ntmps27
      go_wp2_with fail
      rw [HW.out]
      go_wp2_with (go_at_call 39; refine HV.out.mono ?_; rintro e w1 ⟨rfl, hb⟩; obtain ⟨hcc, hff⟩ := bcell hb; have HB := Aside0.mk hb; clear hb)
      go_ret
      exact ⟨by rw [HO.out]; rfl, HBW.out.trans (HB.out.mono (by omega))⟩
  | true =>
    have HO : Aside0 (sceneB a0 a1 a2 l s at_ tp = (!at_.any outP && !tp.any (rowB a1))) := ⟨by unfold sceneB; rw [hc]; rfl⟩
    obtain ⟨k1, k2, k3, k4, k5⟩ := five_t hc
    have k4' : ((at_.length : Int) != a2) = false := by simp only [bne, k4, Bool.not_true]
    have k5' : ((tp.length : Int) != a2) = false := by simp only [bne, k5, Bool.not_true]
    clear hc k4 k5
    cases g1 : at_.any outP with
    | true =>
      have HG : Aside0 (at_.any outP = true) := ⟨g1⟩
      rw [g1] at HO
      go_enter Try.func27, Try.ntmps27
      go_wp2_with fail
      rw [HW.out]
      go_wp2_with (first
        | (go_at_call 39; refine HV.out.mono ?_; rintro e w1 ⟨rfl, hb⟩; obtain ⟨hcc, hff⟩ := bcell hb; have HB := Aside0.mk hb; clear hb)
        | (go_at_call 40; refine (contains_int outP 49 #[] eg49 A1 c1 at_ _ (Kd.C_below (Kd.C_below H1.out HBW.out) HB.out) (fun x => pred49 _ x)).mono ?_; rintro e w2 ⟨rfl, rfl⟩))
      go_ret
      exact ⟨by rw [HO.out]; rfl, HBW.out.trans (HB.out.mono (by omega))⟩
    | false =>
      rw [g1] at HO
      go_enter Try.func27, Try.ntmps27
      go_wp2_with fail
      rw [HW.out]
      go_wp2_with (first
        | (go_at_call 39; refine HV.out.mono ?_; rintro e w1 ⟨rfl, hb⟩; obtain ⟨hcc, hff⟩ := bcell hb; have HB := Aside0.mk hb; clear hb)
        | (go_at_call 40; refine (contains_int outP 49 #[] eg49 A1 c1 at_ _ (Kd.C_below (Kd.C_below H1.out HBW.out) HB.out) (fun x => pred49 _ x)).mono ?_; rintro e w2 ⟨rfl, rfl⟩)
        | (go_at_call 50; refine (contains_rows (rowB a1) 51 #[.pointer (some ⟨w.heap.size, 0, none⟩)] eg51 A2 c2 tp _ (Kd.C_below (Kd.C_below H2.out HBW.out) HB.out) (fun x => pred51 a1 w.heap.size _ ((hcc _ _ z0).trans m1) x)).mono ?_; rintro e w2 ⟨rfl, rfl⟩))
      go_ret
      exact ⟨by rw [HO.out]; rfl, HBW.out.trans (HB.out.mono (by omega))⟩
end Go.Proofs.Ytfoodfhhdbaieaa.Giv
