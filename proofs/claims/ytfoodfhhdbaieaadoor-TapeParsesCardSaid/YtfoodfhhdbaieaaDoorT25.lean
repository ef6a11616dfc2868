-- CUT by a program of this session: what the claim does not use is left out
import Derived.Test.YtfoodfhhdbaieaaDoorT23
import Derived.Test.YtfoodfhhdbaieaaDoorT21
import Derived.Test.YtfoodfhhdbaieaaDoorKax1
namespace Go.Proofs.YtfoodfhhdbaieaaDoor.Giv
set_option maxRecDepth 100000
set_option linter.unusedSimpArgs false
set_option linter.unusedVariables false
open Go.RowKit Go.Shelf Go.Proofs.YtfoodfhhdbaieaaDoorW.PrintWords Go.Proofs.YtfoodfhhdbaieaaDoorW.PrintLast Go.Proofs.YtfoodfhhdbaieaaDoorW.PrintMore
open Go.Proofs.YtfoodfhhdbaieaaDoor.Ka (S40 k40 z40 rd_T40 at_T40 k40_open k40_mk rd_L1 at_L1 info3 info38 info40)

def rsA : List S40 := [(⟨0, (([1] : List Int)), 0, (([1] : List Int)), (([1] : List Int))⟩ : S40), (⟨0, (([0] : List Int)), 1, (([0] : List Int)), (([0] : List Int))⟩ : S40)]
theorem qa1 : (runQ 3 2 1 rsA [1, 1] 10).2.1 = 3 := by decide +kernel
theorem qa2 : (runQ 3 2 1 rsA [1, 1] 10).2.2 = 0 := by decide +kernel
theorem qa3 : (runQ 3 2 1 rsA [1, 1] 10).1.s = 1 := by decide +kernel
theorem qa4 : acceptsQ 3 2 1 rsA [1, 1] 3 = (true, 0) := by decide +kernel
theorem lit_C (W : World) : Kd.C (Kd.int .i64) (W.alloc (.cells #[.int .i64 1, .int .i64 1] 3)) (some ⟨W.heap.size, 0, none⟩) 2 [1, 1] := by
 obtain ⟨A, c, e, _, h⟩ := own_C (l := [1, 1]) (World.ownsRow_lit (base := 0) (size := 1) (e := 3) W #[.int .i64 1, .int .i64 1] 2 (Nat.zero_le _) (by decide) rfl)
 injection e with e1 _ _
 subst e1
 exact h
theorem runner_C (w : World) : Calls Tryd.prog 17 #[] w fun e w' => ∃ B cb, e = .returned (.agg #[.int .i64 3, .int .i64 2, .int .i64 1, .slice B 2 cb]) ∧ Kd.C k40 w' B 2 rsA ∧ Below w.heap.size w w' := by
 refine (Ka.commodatumlaw20_runner.calls 3 2 1 rsA w rfl).mono ?_
 rintro e w' ⟨v, rfl, hN, hb⟩
 obtain ⟨B, cb, rfl⟩ := Kd.N_slice hN
 obtain ⟨_, _, h⟩ := Kd.N_reads' hN
 exact ⟨B, cb, rfl, h, hb⟩
theorem run_A (W : World) (B : Option Addr) (cb : Nat) (hC : Kd.C k40 W B 2 rsA) : Calls Tryd.prog 16 #[.agg #[.int .i64 3, .int .i64 2, .int .i64 1, .slice B 2 cb], .slice (some ⟨W.heap.size, 0, none⟩) 2 2, .int .i64 10] (W.alloc (.cells #[.int .i64 1, .int .i64 1] 3)) fun e w' =>
  ∃ A1 n1 c1 A2 n2 c2, e = .returned (.tuple #[.agg #[.int .i64 1, .slice A1 n1 c1, .slice A2 n2 c2], .int .i64 3, .int .i64 0]) ∧ Below (W.heap.size + 1) (W.alloc (.cells #[.int .i64 1, .int .i64 1] 3)) w' := by
 refine (Run_walk 3 2 1 B cb rsA _ 2 [1, 1] 10 _ (Kd.C_alloc hC _) (lit_C W) (Nat.le_refl _)).mono ?_
 rintro e w' ⟨v, rfl, ⟨A1, c1, A2, c2, rfl, _⟩, hb⟩
 rw [qa1, qa2, qa3]
 exact ⟨_, _, _, _, _, _, rfl, by simpa using hb⟩
theorem acc_A (W : World) (B : Option Addr) (cb : Nat) (hC : Kd.C k40 W B 2 rsA) : Calls Tryd.prog 18 #[.agg #[.int .i64 3, .int .i64 2, .int .i64 1, .slice B 2 cb], .slice (some ⟨W.heap.size, 0, none⟩) 2 2, .int .i64 3] (W.alloc (.cells #[.int .i64 1, .int .i64 1] 3)) fun e w' =>
  e = .returned (.tuple #[.bool true, .int .i64 0]) ∧ Below (W.heap.size + 1) (W.alloc (.cells #[.int .i64 1, .int .i64 1] 3)) w' := by
 refine (Accepts_walk 3 2 1 B cb rsA _ 2 [1, 1] 3 _ (Kd.C_alloc hC _) (lit_C W) (Nat.le_refl _)).mono ?_
 rintro e w' ⟨rfl, hb⟩
 rw [qa4]
 exact ⟨rfl, by simpa using hb⟩
set_option maxHeartbeats 1000000 in
set_option maxRecDepth 100000 in
theorem awake_walk (w : World) : Calls Tryd.prog 7 #[] w fun e w' => e = .returned (.bool true) ∧ Below w.heap.size w w' := by
  have HB := Aside0.mk (Below.refl w.heap.size w)
  go_enter Tryd.func7, Tryd.ntmps7
  go_wp2_with (first
    | (go_at_call 17
       have hRS := HRS.out
       clear hRS
       refine (runner_C _).mono ?_
       rintro e wB ⟨B, cb, rfl, hC, hb⟩
       have n0 := Aside0.mk (below_step (below_alloc HB.out _) hb)
       have HB2 := Aside0.mk (show Below (wR.heap.size + 1) (wR.alloc (Obj.cells #[.int .i64 1, .slice A1 n1 c1, .slice A2 n2 c2] 43)) wB from hb.mono (by simp))
       have HC := Aside0.mk hC
       clear hC hb HB
       have HB := n0
       clear n0)
    | (go_at_call 17
       refine (runner_C _).mono ?_
       rintro e wA ⟨B, cb, rfl, hC, hb⟩
       have n0 := Aside0.mk (below_step HB.out hb)
       have HC := Aside0.mk hC
       clear hC hb HB
       have HB := n0
       clear n0)
    | (go_at_call 16
       refine (run_A _ _ _ HC.out).mono ?_
       rintro e wR ⟨A1, n1, c1, A2, n2, c2, rfl, hb⟩
       have n0 := Aside0.mk (below_step (below_alloc HB.out _) (hb.mono (by simp)))
       have HRS : Aside0 (∀ X, Below (wR.heap.size + 1) (wR.alloc (Obj.cells #[.int .i64 1, .slice A1 n1 c1, .slice A2 n2 c2] 43)) X → X.cell? ⟨wR.heap.size, 0, none⟩ = some (.int .i64 1)) := ⟨fun X hX => (trio_cells ((hX.block wR.heap.size (by omega)).trans (heap_alloc_new _ _))).1⟩
       clear hb HB
       have HB := n0
       clear n0)
    | (go_at_call 18
       refine (acc_A _ _ _ HC.out).mono ?_
       rintro e wF ⟨rfl, hb⟩
       have n0 := Aside0.mk (below_step (below_alloc HB.out _) (hb.mono (by simp)))
       have hsz : wR.heap.size + 1 ≤ wB.heap.size := (by have := HB2.out.size; simpa using this)
       have hcell := HRS.out wF ((HB2.out.trans (((Below.refl wB.heap.size wB).alloc (Nat.le_refl _) (Obj.cells #[.int .i64 1, .int .i64 1] 3)).mono hsz)).trans (hb.mono (Nat.le_trans hsz (Nat.le_succ _))))
       clear hsz
       clear hb HB
       have HB := n0
       clear n0))
  go_ret
  exact ⟨rfl, HB.out⟩
end Go.Proofs.YtfoodfhhdbaieaaDoor.Giv
