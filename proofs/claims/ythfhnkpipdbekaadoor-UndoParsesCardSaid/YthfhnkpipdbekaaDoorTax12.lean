-- CUT by a program of this session: what the claim does not use is left out
import Derived.Test.YthfhnkpipdbekaaDoorUax0
import Derived.Test.YthfhnkpipdbekaaDoorProg
import Derived.Below
import Derived.Deep.Draws
import Derived.Deep.AppendLies
import Derived.Maps.AppendAt
import Derived.OwnWalk
import Derived.Laws.BytesArg
import Derived.Laws.MakeOwn
import Derived.Laws.OwnMore
import Derived.Deep.OwnRows
import Derived.Tactics
import Derived.Lib.ConvBytes
import Derived.Laws.Slices
import Derived.WalkKit
import Derived.KernelRfl
import Derived.RowKit3
import Derived.Deep.LoopGhost
import Derived.Deep.QuietTactic
import Derived.BigQuiet
import Derived.WideLaws
import Derived.Deep.DeepCutAuto
import Derived.Deep.CutBlock
import Derived.Deep.RegionHeld3
import Derived.Laws.Rows
import Derived.Lib.AppendStr
import Derived.ArgAppend
import Derived.Laws.IdiomCopy
import Derived.OrdersHeld
import Derived.Laws.BitsLemmas
import Derived.RowKit
import Derived.Test.YthfhnkpipdbekaaDoorN6
import Derived.Test.YthfhnkpipdbekaaDoorWAll
import Derived.Test.YthfhnkpipdbekaaDoorTax1
namespace Go.Proofs.YthfhnkpipdbekaaDoor.Ta
open Go.Proofs.YthfhnkpipdbekaaDoor.Ua
open Go.Proofs.YthfhnkpipdbekaaDoor.Giv
open Go.RowKit Go.Proofs.YthfhnkpipdbekaaDoorW.PrintWords Go.Proofs.YthfhnkpipdbekaaDoorW.PrintLast Go.Proofs.YthfhnkpipdbekaaDoorW.PrintMore
attribute [local go_sem] max2_int min2_int max_two min_two max_three min_three max_four min_four   -- for this text's walks alone
set_option linter.unusedVariables false
set_option linter.unusedSimpArgs false

attribute [local go_sem high] eqA67
open Bool renaming true → T, false → F
open Go.Proofs.YthfhnkpipdbekaaDoorW.PrintWords renaming blk_drewN → bA, blk_drew → bB, blk_alloc → bC, below_set → sT, Aside0.mk → aM, pw_below_drewN → pD, below_drew1 → pE, below_alloc → pA, blk_cell → bE, blk_frozen → bF, below_step → pS_
mutual
def commodatumref12_Same.j0 : Nat → Bool → Int → List (S67) → Int → List (S67) → Option (Bool)
 | 0, _, _, _, _, _ => none
 | k + 1, x19, x279000, x279001, x280000, x280001 => if x19 = true then (some false) else (commodatumref12_Same.l0 k 0 x279000 x279001 x280000 x280001)
def commodatumref12_Same.l0 : Nat → Int → Int → List (S67) → Int → List (S67) → Option (Bool)
 | 0, _, _, _, _, _ => none
 | k + 1, x5, x279000, x279001, x280000, x280001 => if x5 < (x279001.length : Int) then (if 0 ≤ x5 then (if x5 < (x280001.length : Int) then (if (!(((rd_T67 x279001 x5).f0) == ((rd_T67 x280001 x5).f0)) || (!(((rd_T67 x279001 x5).f1) == ((rd_T67 x280001 x5).f1)) || (!(((rd_T67 x279001 x5).f2) == ((rd_T67 x280001 x5).f2)) || (!(((rd_T67 x279001 x5).f3) == ((rd_T67 x280001 x5).f3)))))) = true then (some false) else (commodatumref12_Same.l0 k (wrap64 (x5 + 1)) x279000 x279001 x280000 x280001)) else (none)) else (none)) else (some true)
end
def commodatumref12_Same.f (k : Nat) (a0_0 : Int) (l0_1 : List (S67)) (a1_0 : Int) (l1_1 : List (S67)) : Option (Bool) := if a0_0 = a1_0 then (commodatumref12_Same.j0 k ((l0_1.length : Int) != (l1_1.length : Int)) a0_0 l0_1 a1_0 l1_1) else (commodatumref12_Same.j0 k true a0_0 l0_1 a1_0 l1_1)
set_option maxHeartbeats 8000000 in
set_option maxRecDepth 100000 in
theorem commodatumref12_Same.calls (k : Nat) (a0_0 : Int) (A0_1 : Option Addr) (c0_1 : Nat) (l0_1 : List (S67)) (a1_0 : Int) (A1_1 : Option Addr) (c1_1 : Nat) (l1_1 : List (S67)) (r : Bool) (w : World) (hr0_1 : Kd.C k67 w A0_1 l0_1.length l0_1) (hc0_1 : l0_1.length ≤ c0_1) (hr1_1 : Kd.C k67 w A1_1 l1_1.length l1_1) (hc1_1 : l1_1.length ≤ c1_1) (h : commodatumref12_Same.f k a0_0 l0_1 a1_0 l1_1 = some r) :
  Calls Tryd.prog 16 #[.agg #[.int .i64 a0_0, .slice A0_1 l0_1.length c0_1], .agg #[.int .i64 a1_0, .slice A1_1 l1_1.length c1_1]] w fun e w' => e = .returned (.bool r) ∧ Below w.heap.size w w' := by
 have hu25 := Tryd.underlying25
 have hu67 := Tryd.underlying67
 have HR0_1 := aM hr0_1
 have HC0_1 := aM hc0_1
 clear hr0_1 hc0_1
 have HR1_1 := aM hr1_1
 have HC1_1 := aM hc1_1
 clear hr1_1 hc1_1
 have HB := aM (Below.refl w.heap.size w)
 have H : (if a0_0 = a1_0 then (commodatumref12_Same.j0 k ((l0_1.length : Int) != (l1_1.length : Int)) a0_0 l0_1 a1_0 l1_1) else (commodatumref12_Same.j0 k true a0_0 l0_1 a1_0 l1_1)) = some r := h
 clear h
 have HC3 := aM H
 clear H
 go_enter Tryd.func16, Tryd.ntmps16
 go_upto_region 1 with (first | ((with_reducible refine gate_dst (N := 2) rfl ?_); (try (refine gate_guard (by rfl) ?_; dsimp only)); refine box_event ?hg (N := 2) ?hd (cs := #[.int .i64 a0_0, .slice A0_1 l0_1.length c0_1]) (t := 25) ?hr ?_; (case hd => rfl); (case hg => rfl); (case hr => first | (go_simp; done) | (go_simp; rfl)); intro gb278 hg w4 hbox hb; have B78 := aM (hbox); have GW278 := aM ((by rw [hg]; exact (below_size (by (with_reducible apply_rules [HB.out, pA, pD, pE]))) : w.heap.size ≤ gb278)); have GE278 := aM ((by rw [hg]; exact (below_size (by (with_reducible apply_rules [HB.out, pA, pD, pE]))) : w.heap.size ≤ gb278)); replace HB := aM (pS_ (by (with_reducible apply_rules [HB.out, pA, pD, pE])) hb); clear hb hbox hg) | ((with_reducible refine gate_dst (N := 3) rfl ?_); (try (refine gate_guard (by rfl) ?_; dsimp only)); refine box_event ?hg (N := 3) ?hd (cs := #[.int .i64 a1_0, .slice A1_1 l1_1.length c1_1]) (t := 25) ?hr ?_; (case hd => rfl); (case hg => rfl); (case hr => first | (go_simp; done) | (go_simp; rfl)); intro gb279 hg w5 hbox hb; have B79 := aM (hbox); have GW279 := aM ((by rw [hg]; exact (below_size (by (with_reducible apply_rules [HB.out, pA, pD, pE, sT, GE278.out]))) : w.heap.size ≤ gb279)); have GE279 := aM ((by rw [hg]; exact (below_size (by (with_reducible apply_rules [HB.out, pA, pD, pE, sT, GE278.out]))) : w.heap.size ≤ gb279)); replace HB := aM (pS_ (by (with_reducible apply_rules [HB.out, pA, pD, pE, sT, GE278.out])) hb); have NB278_279 := aM ((by rw [hg]; exact Nat.ne_of_lt (blk_lt (g := gb278) (o := .cells #[.int .i64 a0_0, .slice A0_1 l0_1.length c0_1] 25 (0, 0)) (by with_reducible apply_rules [B78.out, bA, bB, bC])) : gb278 ≠ gb279)); have NB279_278 := aM ((by rw [hg]; exact Nat.ne_of_gt (blk_lt (g := gb278) (o := .cells #[.int .i64 a0_0, .slice A0_1 l0_1.length c0_1] 25 (0, 0)) (by with_reducible apply_rules [B78.out, bA, bB, bC])) : gb279 ≠ gb278)); replace B78 := aM (blk_below (g := gb278) (o := .cells #[.int .i64 a0_0, .slice A0_1 l0_1.length c0_1] 25 (0, 0)) (by with_reducible apply_rules [B78.out, bA, bB, bC]) hb); clear hb hbox hg))
 repeat (go_quiet (fail)); try go_wp2
 (try simp only [Act.put, List.setIfInBounds_toArray, List.set_cons_zero, List.set_cons_succ])
 go_cut [19] (fun v19 wc => ∃ (kq : Nat) (x19_2 : Bool), v19 = .bool x19_2 ∧ Aside0 (commodatumref12_Same.j0 kq x19_2 a0_0 l0_1 a1_0 l1_1 = some r) ∧ Aside0 (kq ≤ k) ∧ Aside0 (wc.heap[gb278]? = some (.cells #[.int .i64 a0_0, (.slice A0_1 l0_1.length c0_1)] 25 (0, 0))) ∧ Aside0 (wc.heap[gb279]? = some (.cells #[.int .i64 a1_0, (.slice A1_1 l1_1.length c1_1)] 25 (0, 0))) ∧ Aside0 (Below w.heap.size w wc))
 case first =>
  have H := HC3.out
  clear HC3
  by_cases c6 : a0_0 = a1_0
  ·rw [if_pos c6] at H
   have c6b0 : (a0_0 == a1_0) = true := beq_iff_eq.mpr c6
   have c6b1 : (a0_0 != a1_0) = false := bne_eq_false_iff_eq.mpr c6
   clear c6
   (first | rw [c6b0] | (simp only [i64_w, i32_w]; rw [c6b0]) | skip)
   have H' := aM H
   clear H
   have hnb7 := NB278_279.out
   have hnc7 := NB279_278.out
   have hcz8_0 : w5.cell? ⟨gb278, 0, none⟩ = some (.int .i64 a0_0) := (bE B78.out 0).trans rfl
   have hcz8_1 : w5.cell? ⟨gb278, 1, none⟩ = some (.slice A0_1 l0_1.length c0_1) := (bE B78.out 1).trans rfl
   have hfz8_0 := bF B78.out 0
   have hfz8_1 := bF B78.out 1
   have hcz9_0 : w5.cell? ⟨gb279, 0, none⟩ = some (.int .i64 a1_0) := (bE B79.out 0).trans rfl
   have hcz9_1 : w5.cell? ⟨gb279, 1, none⟩ = some (.slice A1_1 l1_1.length c1_1) := (bE B79.out 1).trans rfl
   have hfz9_0 := bF B79.out 0
   have hfz9_1 := bF B79.out 1
   go_wp2
   repeat (go_quiet (fail); try go_wp2)
   go_meet
   case rel => exact ⟨_, (((l0_1.length : Int) != (l1_1.length : Int))), (by first | rfl | (simp; done) | (simp [*]; done)), H', ⟨by first | omega | exact Nat.le_refl _⟩, ⟨by with_reducible apply_rules [B78.out, bA, bB, bC]⟩, ⟨by with_reducible apply_rules [B79.out, bA, bB, bC]⟩, ⟨by (with_reducible apply_rules [HB.out, pA, pD, pE, sT, GE278.out, GE279.out])⟩⟩
  ·rw [if_neg c6] at H
   have c6b0 : (a0_0 == a1_0) = false := beq_eq_false_iff_ne.mpr c6
   have c6b1 : (a0_0 != a1_0) = true := bne_iff_ne.mpr c6
   (first | rw [c6b0] | (simp only [i64_w, i32_w]; rw [c6b0]) | skip)
   have H' := aM H
   clear H
   have hnb10 := NB278_279.out
   have hnc10 := NB279_278.out
   have hcz11_0 : w5.cell? ⟨gb278, 0, none⟩ = some (.int .i64 a0_0) := (bE B78.out 0).trans rfl
   have hcz11_1 : w5.cell? ⟨gb278, 1, none⟩ = some (.slice A0_1 l0_1.length c0_1) := (bE B78.out 1).trans rfl
   have hfz11_0 := bF B78.out 0
   have hfz11_1 := bF B78.out 1
   have hcz12_0 : w5.cell? ⟨gb279, 0, none⟩ = some (.int .i64 a1_0) := (bE B79.out 0).trans rfl
   have hcz12_1 : w5.cell? ⟨gb279, 1, none⟩ = some (.slice A1_1 l1_1.length c1_1) := (bE B79.out 1).trans rfl
   have hfz12_0 := bF B79.out 0
   have hfz12_1 := bF B79.out 1
   go_wp2
   repeat (go_quiet (fail); try go_wp2)
   go_meet
   case rel => exact ⟨_, (true), (by first | rfl | (simp; done) | (simp [*]; done)), H', ⟨by first | omega | exact Nat.le_refl _⟩, ⟨by with_reducible apply_rules [B78.out, bA, bB, bC]⟩, ⟨by with_reducible apply_rules [B79.out, bA, bB, bC]⟩, ⟨by (with_reducible apply_rules [HB.out, pA, pD, pE, sT, GE278.out, GE279.out])⟩⟩
 case rest =>
  clear HC3
  try clear c1
  try clear p2
  try clear c6
  try clear c6b0
  try clear c6b1
  try clear c7
  try clear c10
  try clear hcz11_0
  try clear hcz11_1
  try clear hcz12_0
  try clear hcz12_1
  try clear hcz8_0
  try clear hcz8_1
  try clear hcz9_0
  try clear hcz9_1
  try clear hfz11_0
  try clear hfz11_1
  try clear hfz12_0
  try clear hfz12_1
  try clear hfz8_0
  try clear hfz8_1
  try clear hfz9_0
  try clear hfz9_1
  obtain ⟨kq, x19_2, rfl, HA, HJ2, B78, B79, HB⟩ := hcut
  cases kq with
  | zero => exact absurd HA.out (by simp [commodatumref12_Same.j0])
  | succ kj2 =>
   have H := HA.out
   clear HA
   simp only [commodatumref12_Same.j0] at H
   by_cases c13 : x19_2 = true
   ·subst c13
    have H1 : (some false) = some r := by rw [if_pos rfl] at H; exact H
    clear H
    have H := H1
    clear H1
    obtain rfl := Option.some.inj H
    go_wp2
    repeat (go_quiet (fail); try go_wp2)
    go_ret
    exact ⟨by first | rfl | (simp [errW_none, errW_some] <;> rfl) | (simp [*, errW_none, errW_some] <;> rfl), by (with_reducible apply_rules [HB.out, pA, pD, pE, sT, GE278.out, GE279.out])⟩
   ·replace c13 := Bool.eq_false_iff.mpr c13
    subst c13
    have H1 : (commodatumref12_Same.l0 kj2 0 a0_0 l0_1 a1_0 l1_1) = some r := by rw [if_neg (show ¬ (false = true) by decide)] at H; exact H
    clear H
    have H := H1
    clear H1
    have H' := aM H
    clear H
    go_wp2
    repeat (go_quiet (fail); try go_wp2)
    go_loopg [5] kj2 (fun kq v5 w' => ∃ (x5_2 : Int), v5 = .int .i64 x5_2 ∧ Aside0 (commodatumref12_Same.l0 kq x5_2 a0_0 l0_1 a1_0 l1_1 = some r) ∧ Aside0 (kq ≤ kj2) ∧ Aside0 (w'.heap[gb278]? = some (.cells #[.int .i64 a0_0, (.slice A0_1 l0_1.length c0_1)] 25 (0, 0))) ∧ Aside0 (w'.heap[gb279]? = some (.cells #[.int .i64 a1_0, (.slice A1_1 l1_1.length c1_1)] 25 (0, 0))) ∧ Aside0 (Below w.heap.size w w'))
    case atStart => exact ⟨(0), (by first | rfl | (simp; done) | (simp [*]; done)), H', ⟨Nat.le_refl _⟩, ⟨by with_reducible apply_rules [B78.out, bA, bB, bC]⟩, ⟨by with_reducible apply_rules [B79.out, bA, bB, bC]⟩, ⟨by (with_reducible apply_rules [HB.out, pA, pD, pE, sT, GE278.out, GE279.out])⟩⟩
    case round =>
     clear H'
     try clear c1
     try clear p2
     try clear c6
     try clear c6b0
     try clear c6b1
     try clear c7
     try clear c10
     try clear c13
     try clear hcz11_0
     try clear hcz11_1
     try clear hcz12_0
     try clear hcz12_1
     try clear hcz8_0
     try clear hcz8_1
     try clear hcz9_0
     try clear hcz9_1
     try clear hfz11_0
     try clear hfz11_1
     try clear hfz12_0
     try clear hfz12_1
     try clear hfz8_0
     try clear hfz8_1
     try clear hfz9_0
     try clear hfz9_1
     try clear p2
     obtain ⟨x5_2, rfl, HA, HK2, B78, B79, HB⟩ := hrel
     cases gk with
     | zero => exact absurd HA.out (by simp [commodatumref12_Same.l0])
     | succ k2 =>
      have H := HA.out
      clear HA
      simp only [commodatumref12_Same.l0] at H
      by_cases c14 : x5_2 < (l0_1.length : Int)
      ·rw [if_pos c14] at H
       have c14b0 : decide (x5_2 < (l0_1.length : Int)) = true := decide_eq_true c14
       clear c14
       by_cases c15 : 0 ≤ x5_2
       ·rw [if_pos c15] at H
        have c15b0 : decide (0 ≤ x5_2) = true := decide_eq_true c15
        clear c15
        by_cases c16 : x5_2 < (l1_1.length : Int)
        ·rw [if_pos c16] at H
         have c16b0 : decide (x5_2 < (l1_1.length : Int)) = true := decide_eq_true c16
         clear c16
         by_cases c17 : (!(((rd_T67 l0_1 x5_2).f0) == ((rd_T67 l1_1 x5_2).f0)) || (!(((rd_T67 l0_1 x5_2).f1) == ((rd_T67 l1_1 x5_2).f1)) || (!(((rd_T67 l0_1 x5_2).f2) == ((rd_T67 l1_1 x5_2).f2)) || (!(((rd_T67 l0_1 x5_2).f3) == ((rd_T67 l1_1 x5_2).f3)))))) = true
         ·rw [if_pos c17] at H
          have c17b0 : (!(((rd_T67 l0_1 x5_2).f0) == ((rd_T67 l1_1 x5_2).f0)) || (!(((rd_T67 l0_1 x5_2).f1) == ((rd_T67 l1_1 x5_2).f1)) || (!(((rd_T67 l0_1 x5_2).f2) == ((rd_T67 l1_1 x5_2).f2)) || (!(((rd_T67 l0_1 x5_2).f3) == ((rd_T67 l1_1 x5_2).f3)))))) = true := c17
          clear c17
          obtain rfl := Option.some.inj H
          have hnb18 := NB278_279.out
          have hnc18 := NB279_278.out
          have hcz19_0 : wr.cell? ⟨gb278, 0, none⟩ = some (.int .i64 a0_0) := (bE B78.out 0).trans rfl
          have hcz19_1 : wr.cell? ⟨gb278, 1, none⟩ = some (.slice A0_1 l0_1.length c0_1) := (bE B78.out 1).trans rfl
          have hfz19_0 := bF B78.out 0
          have hfz19_1 := bF B78.out 1
          have p280 : 0 ≤ (x5_2 : Int) := of_decide_eq_true (by assumption)
          have q280 : x5_2 < (l0_1.length : Int) := of_decide_eq_true (by assumption)
          obtain ⟨ad280, e280, hx280_0, hx280_1, hx280_2, hx280_3⟩ := at_T67 HR0_1.out x5_2 p280 q280
          cases e280
          replace hx280_0 := (HB.out.cell (World.block_lt_of_cell? w _ hx280_0)).trans hx280_0
          replace hx280_1 := (HB.out.cell (World.block_lt_of_cell? w _ hx280_1)).trans hx280_1
          replace hx280_2 := (HB.out.cell (World.block_lt_of_cell? w _ hx280_2)).trans hx280_2
          replace hx280_3 := (HB.out.cell (World.block_lt_of_cell? w _ hx280_3)).trans hx280_3
          replace p280 := eq_true p280
          replace q280 := eq_true q280
          have hcz20_0 : wr.cell? ⟨gb279, 0, none⟩ = some (.int .i64 a1_0) := (bE B79.out 0).trans rfl
          have hcz20_1 : wr.cell? ⟨gb279, 1, none⟩ = some (.slice A1_1 l1_1.length c1_1) := (bE B79.out 1).trans rfl
          have hfz20_0 := bF B79.out 0
          have hfz20_1 := bF B79.out 1
          have p281 : 0 ≤ (x5_2 : Int) := of_decide_eq_true (by assumption)
          have q281 : x5_2 < (l1_1.length : Int) := of_decide_eq_true (by assumption)
          obtain ⟨ad281, e281, hx281_0, hx281_1, hx281_2, hx281_3⟩ := at_T67 HR1_1.out x5_2 p281 q281
          cases e281
          replace hx281_0 := (HB.out.cell (World.block_lt_of_cell? w _ hx281_0)).trans hx281_0
          replace hx281_1 := (HB.out.cell (World.block_lt_of_cell? w _ hx281_1)).trans hx281_1
          replace hx281_2 := (HB.out.cell (World.block_lt_of_cell? w _ hx281_2)).trans hx281_2
          replace hx281_3 := (HB.out.cell (World.block_lt_of_cell? w _ hx281_3)).trans hx281_3
          replace p281 := eq_true p281
          replace q281 := eq_true q281
          go_wp2
          repeat (go_quiet (fail); try go_wp2)
          go_ret
          exact ⟨by first | rfl | (simp [errW_none, errW_some] <;> rfl) | (simp [*, errW_none, errW_some] <;> rfl), by (with_reducible apply_rules [HB.out, pA, pD, pE, sT, GE278.out, GE279.out])⟩
         ·rw [if_neg c17] at H
          have c17b0 : (!(((rd_T67 l0_1 x5_2).f0) == ((rd_T67 l1_1 x5_2).f0)) || (!(((rd_T67 l0_1 x5_2).f1) == ((rd_T67 l1_1 x5_2).f1)) || (!(((rd_T67 l0_1 x5_2).f2) == ((rd_T67 l1_1 x5_2).f2)) || (!(((rd_T67 l0_1 x5_2).f3) == ((rd_T67 l1_1 x5_2).f3)))))) = false := by simpa using c17
          clear c17
          have H' := aM H
          clear H
          have hnb21 := NB278_279.out
          have hnc21 := NB279_278.out
          have hcz22_0 : wr.cell? ⟨gb278, 0, none⟩ = some (.int .i64 a0_0) := (bE B78.out 0).trans rfl
          have hcz22_1 : wr.cell? ⟨gb278, 1, none⟩ = some (.slice A0_1 l0_1.length c0_1) := (bE B78.out 1).trans rfl
          have hfz22_0 := bF B78.out 0
          have hfz22_1 := bF B78.out 1
          have p280 : 0 ≤ (x5_2 : Int) := of_decide_eq_true (by assumption)
          have q280 : x5_2 < (l0_1.length : Int) := of_decide_eq_true (by assumption)
          obtain ⟨ad280, e280, hx280_0, hx280_1, hx280_2, hx280_3⟩ := at_T67 HR0_1.out x5_2 p280 q280
          cases e280
          replace hx280_0 := (HB.out.cell (World.block_lt_of_cell? w _ hx280_0)).trans hx280_0
          replace hx280_1 := (HB.out.cell (World.block_lt_of_cell? w _ hx280_1)).trans hx280_1
          replace hx280_2 := (HB.out.cell (World.block_lt_of_cell? w _ hx280_2)).trans hx280_2
          replace hx280_3 := (HB.out.cell (World.block_lt_of_cell? w _ hx280_3)).trans hx280_3
          replace p280 := eq_true p280
          replace q280 := eq_true q280
          have hcz23_0 : wr.cell? ⟨gb279, 0, none⟩ = some (.int .i64 a1_0) := (bE B79.out 0).trans rfl
          have hcz23_1 : wr.cell? ⟨gb279, 1, none⟩ = some (.slice A1_1 l1_1.length c1_1) := (bE B79.out 1).trans rfl
          have hfz23_0 := bF B79.out 0
          have hfz23_1 := bF B79.out 1
          have p281 : 0 ≤ (x5_2 : Int) := of_decide_eq_true (by assumption)
          have q281 : x5_2 < (l1_1.length : Int) := of_decide_eq_true (by assumption)
          obtain ⟨ad281, e281, hx281_0, hx281_1, hx281_2, hx281_3⟩ := at_T67 HR1_1.out x5_2 p281 q281
          cases e281
          replace hx281_0 := (HB.out.cell (World.block_lt_of_cell? w _ hx281_0)).trans hx281_0
          replace hx281_1 := (HB.out.cell (World.block_lt_of_cell? w _ hx281_1)).trans hx281_1
          replace hx281_2 := (HB.out.cell (World.block_lt_of_cell? w _ hx281_2)).trans hx281_2
          replace hx281_3 := (HB.out.cell (World.block_lt_of_cell? w _ hx281_3)).trans hx281_3
          replace p281 := eq_true p281
          replace q281 := eq_true q281
          go_wp2
          repeat (go_quiet (fail); try go_wp2)
          go_roundg k2
          case measure => have := HJ2.out; have := HK2.out; omega
          case rel => exact ⟨(wrap64 (x5_2 + 1)), (by first | rfl | (simp; done) | (simp [*]; done)), H', ⟨by have := HJ2.out; have := HK2.out; omega⟩, ⟨by with_reducible apply_rules [B78.out, bA, bB, bC]⟩, ⟨by with_reducible apply_rules [B79.out, bA, bB, bC]⟩, ⟨by (with_reducible apply_rules [HB.out, pA, pD, pE, sT, GE278.out, GE279.out])⟩⟩
        ·rw [if_neg c16] at H
         exact absurd H (by simp)
       ·rw [if_neg c15] at H
        exact absurd H (by simp)
      ·rw [if_neg c14] at H
       have c14b0 : decide (x5_2 < (l0_1.length : Int)) = false := decide_eq_false c14
       clear c14
       obtain rfl := Option.some.inj H
       have hnb24 := NB278_279.out
       have hnc24 := NB279_278.out
       have hcz25_0 : wr.cell? ⟨gb278, 0, none⟩ = some (.int .i64 a0_0) := (bE B78.out 0).trans rfl
       have hcz25_1 : wr.cell? ⟨gb278, 1, none⟩ = some (.slice A0_1 l0_1.length c0_1) := (bE B78.out 1).trans rfl
       have hfz25_0 := bF B78.out 0
       have hfz25_1 := bF B78.out 1
       go_wp2
       repeat (go_quiet (fail); try go_wp2)
       go_ret
       exact ⟨by first | rfl | (simp [errW_none, errW_some] <;> rfl) | (simp [*, errW_none, errW_some] <;> rfl), by (with_reducible apply_rules [HB.out, pA, pD, pE, sT, GE278.out, GE279.out])⟩

end Go.Proofs.YthfhnkpipdbekaaDoor.Ta
