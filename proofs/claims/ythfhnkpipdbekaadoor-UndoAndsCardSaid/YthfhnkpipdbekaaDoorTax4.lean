-- CUT by a program of this session: what the claim does not use is left out
import Derived.Test.YthfhnkpipdbekaaDoorUax0
import Derived.Test.YthfhnkpipdbekaaDoorProg
import Derived.Below
import Derived.Deep.Draws
import Derived.Deep.AppendLies
import Derived.Maps.AppendAt
import Derived.OwnWalk
import Derived.Laws.BytesArg
import Derived.Laws.MakeOwn
import Derived.Laws.OwnMore
import Derived.Deep.OwnRows
import Derived.Tactics
import Derived.Lib.ConvBytes
import Derived.Laws.Slices
import Derived.WalkKit
import Derived.KernelRfl
import Derived.RowKit3
import Derived.Deep.LoopGhost
import Derived.Deep.QuietTactic
import Derived.BigQuiet
import Derived.WideLaws
import Derived.Deep.DeepCutAuto
import Derived.Deep.CutBlock
import Derived.Deep.RegionHeld3
import Derived.Laws.Rows
import Derived.Lib.AppendStr
import Derived.ArgAppend
import Derived.Laws.IdiomCopy
import Derived.OrdersHeld
import Derived.Laws.BitsLemmas
import Derived.RowKit
import Derived.Test.YthfhnkpipdbekaaDoorN6
import Derived.Test.YthfhnkpipdbekaaDoorWAll
namespace Go.Proofs.YthfhnkpipdbekaaDoor.Ta
open Go.Proofs.YthfhnkpipdbekaaDoor.Ua
open Go.Proofs.YthfhnkpipdbekaaDoor.Giv
open Go.RowKit Go.Proofs.YthfhnkpipdbekaaDoorW.PrintWords Go.Proofs.YthfhnkpipdbekaaDoorW.PrintLast Go.Proofs.YthfhnkpipdbekaaDoorW.PrintMore
attribute [local go_sem] max2_int min2_int max_two min_two max_three min_three max_four min_four   -- for this text's walks alone
set_option linter.unusedVariables false
set_option linter.unusedSimpArgs false

def commodatumref12_fields.j0 : Nat → Int → Bool → Option (Int)
 | 0, _, _ => none
 | k + 1, x3, x6 => if x6 = true then (some 2) else (if x3 = 2 then (some 3) else (some 0))
def commodatumref12_fields.f (k : Nat) (a0 : Int) : Option (Int) := if a0 = 0 then (some 1) else (if a0 = 1 then (commodatumref12_fields.j0 k a0 (a0 == 1)) else (commodatumref12_fields.j0 k a0 (a0 == 3)))
open Go.Proofs.YthfhnkpipdbekaaDoorW.PrintWords renaming Kd.R_alloc → rA, Kd.R_drewN → rB, Kd.R_drew → rC, blk_drewN → bA, blk_drew → bB, blk_alloc → bC, below_set → sT, Aside0.mk → aM, pw_below_drewN → pD, below_drew1 → pE, below_alloc → pA
set_option maxHeartbeats 8000000 in
set_option maxRecDepth 100000 in
theorem commodatumref12_fields.calls (k : Nat) (a0 : Int) (r : Int) (w : World) (h : commodatumref12_fields.f k a0 = some r) :
  Calls Tryd.prog 80 #[.int .i64 a0] w fun e w' => e = .returned (.int .i64 r) ∧ Drawn0 w w' := by
 have H : (if a0 = 0 then (some 1) else (if a0 = 1 then (commodatumref12_fields.j0 k a0 (a0 == 1)) else (commodatumref12_fields.j0 k a0 (a0 == 3)))) = some r := h
 clear h
 by_cases c2 : a0 = 0
 ·rw [if_pos c2] at H
  have c2b0 : (a0 == 0) = true := beq_iff_eq.mpr c2
  have c2b1 : (a0 != 0) = false := bne_eq_false_iff_eq.mpr c2
  clear c2
  obtain rfl := Option.some.inj H
  go_enter Tryd.func80, Tryd.ntmps80
  go_wp2
  go_ret
  exact ⟨by first | rfl | (simp; done) | (simp [*]; done), by repeat (first | exact Drawn0.refl _ | apply Drawn0.step)⟩
 ·rw [if_neg c2] at H
  have c2b0 : (a0 == 0) = false := beq_eq_false_iff_ne.mpr c2
  have c2b1 : (a0 != 0) = true := bne_iff_ne.mpr c2
  have HC3 := aM H
  clear H
  go_enter Tryd.func80, Tryd.ntmps80
  go_upto_if 6 with (fail)
  go_cut [6] (fun v6 wc => ∃ (kq : Nat) (x6_2 : Bool), v6 = .bool x6_2 ∧ Aside0 (commodatumref12_fields.j0 kq a0 x6_2 = some r) ∧ Aside0 (kq ≤ k) ∧ Drawn0 w wc)
  case first =>
   have H := HC3.out
   clear HC3
   by_cases c4 : a0 = 1
   ·rw [if_pos c4] at H
    have c4b0 : (a0 == 1) = true := beq_iff_eq.mpr c4
    have c4b1 : (a0 != 1) = false := bne_eq_false_iff_eq.mpr c4
    clear c4
    (first | rw [c4b0] | (simp only [i64_w, i32_w]; rw [c4b0]) | skip)
    have H' := aM H
    clear H
    go_wp2
    go_meet
    case rel => exact ⟨_, ((a0 == 1)), (by first | rfl | (simp; done) | (simp [*]; done)), H', ⟨by first | omega | exact Nat.le_refl _⟩, by repeat (first | exact Drawn0.refl _ | apply Drawn0.step)⟩
   ·rw [if_neg c4] at H
    have c4b0 : (a0 == 1) = false := beq_eq_false_iff_ne.mpr c4
    have c4b1 : (a0 != 1) = true := bne_iff_ne.mpr c4
    (first | rw [c4b0] | (simp only [i64_w, i32_w]; rw [c4b0]) | skip)
    have H' := aM H
    clear H
    go_wp2
    go_meet
    case rel => exact ⟨_, ((a0 == 3)), (by first | rfl | (simp; done) | (simp [*]; done)), H', ⟨by first | omega | exact Nat.le_refl _⟩, by repeat (first | exact Drawn0.refl _ | apply Drawn0.step)⟩
  case rest =>
   clear HC3
   try clear c2
   try clear c2b0
   try clear c2b1
   try clear p2
   try clear c4
   try clear c4b0
   try clear c4b1
   obtain ⟨kq, x6_2, rfl, HA, HJ2, ⟨mc2, rfl⟩⟩ := hcut
   cases kq with
   | zero => exact absurd HA.out (by simp [commodatumref12_fields.j0])
   | succ kj2 =>
    have H := HA.out
    clear HA
    simp only [commodatumref12_fields.j0] at H
    by_cases c5 : x6_2 = true
    ·subst c5
     have H1 : (some 2) = some r := by rw [if_pos rfl] at H; exact H
     clear H
     have H := H1
     clear H1
     obtain rfl := Option.some.inj H
     go_wp2
     go_ret
     exact ⟨by first | rfl | (simp; done) | (simp [*]; done), by repeat (first | exact Drawn0.refl _ | apply Drawn0.step)⟩
    ·replace c5 := Bool.eq_false_iff.mpr c5
     subst c5
     have H1 : (if a0 = 2 then (some 3) else (some 0)) = some r := by rw [if_neg (show ¬ (false = true) by decide)] at H; exact H
     clear H
     have H := H1
     clear H1
     by_cases c6 : a0 = 2
     ·rw [if_pos c6] at H
      have c6b0 : (a0 == 2) = true := beq_iff_eq.mpr c6
      have c6b1 : (a0 != 2) = false := bne_eq_false_iff_eq.mpr c6
      clear c6
      obtain rfl := Option.some.inj H
      go_wp2
      go_ret
      exact ⟨by first | rfl | (simp; done) | (simp [*]; done), by repeat (first | exact Drawn0.refl _ | apply Drawn0.step)⟩
     ·rw [if_neg c6] at H
      have c6b0 : (a0 == 2) = false := beq_eq_false_iff_ne.mpr c6
      have c6b1 : (a0 != 2) = true := bne_iff_ne.mpr c6
      obtain rfl := Option.some.inj H
      go_wp2
      go_ret
      exact ⟨by first | rfl | (simp; done) | (simp [*]; done), by repeat (first | exact Drawn0.refl _ | apply Drawn0.step)⟩

mutual
def commodatumref12_op.l0 : Nat → Int → Int → List Int → Int → Option (Bool)
 | 0, _, _, _, _ => none
 | k + 1, x1, x5, x6, x7 => if x7 < 3 then (if x7 ≥ x5 then (if 0 ≤ x7 then (if x7 < (x6.length : Int) then (if (rd x6 x7) = 0 then (if x7 < x5 then (if (rd x6 x7) < 0 then (commodatumref12_op.j1 k x1 x5 x6 x7 true) else (commodatumref12_op.j1 k x1 x5 x6 x7 (decide ((rd x6 x7) ≥ x1)))) else (commodatumref12_op.j1 k x1 x5 x6 x7 false)) else (commodatumref12_op.j1 k x1 x5 x6 x7 true)) else (none)) else (none)) else (if x7 < x5 then (if 0 ≤ x7 then (if x7 < (x6.length : Int) then (if (rd x6 x7) < 0 then (commodatumref12_op.j1 k x1 x5 x6 x7 true) else (commodatumref12_op.j1 k x1 x5 x6 x7 (decide ((rd x6 x7) ≥ x1)))) else (none)) else (none)) else (commodatumref12_op.j1 k x1 x5 x6 x7 false))) else (some (decide (x5 > 0)))
def commodatumref12_op.j1 : Nat → Int → Int → List Int → Int → Bool → Option (Bool)
 | 0, _, _, _, _, _ => none
 | k + 1, x1, x5, x6, x7, x52 => if x52 = true then (some false) else (commodatumref12_op.l1 k x1 x5 x6 x7 0)
def commodatumref12_op.l1 : Nat → Int → Int → List Int → Int → Int → Option (Bool)
 | 0, _, _, _, _, _ => none
 | k + 1, x1, x5, x6, x7, x8 => if x8 < x7 then (commodatumref12_op.j3 k x1 x5 x6 x7 x8 (decide (x7 < x5))) else (commodatumref12_op.j3 k x1 x5 x6 x7 x8 false)
def commodatumref12_op.j3 : Nat → Int → Int → List Int → Int → Int → Bool → Option (Bool)
 | 0, _, _, _, _, _, _ => none
 | k + 1, x1, x5, x6, x7, x8, x60 => if x60 = true then (if 0 ≤ x8 then (if x8 < (x6.length : Int) then (if 0 ≤ x7 then (if x7 < (x6.length : Int) then (if (rd x6 x8) = (rd x6 x7) then (some false) else (commodatumref12_op.l1 k x1 x5 x6 x7 (wrap64 (x8 + 1)))) else (none)) else (none)) else (none)) else (none)) else (commodatumref12_op.l0 k x1 x5 x6 (wrap64 (x7 + 1)))
end
def commodatumref12_op.f (k : Nat) (a0_0 : Int) (a0_1 : Int) (a0_2 : Int) (a0_3 : Int) (a1 : Int) : Option (Bool) := (commodatumref12_fields.f k a0_0).bind fun t143 => (commodatumref12_op.l0 k a1 t143 (([a0_1, a0_2, a0_3] : List Int)) 0)
set_option maxHeartbeats 8000000 in
set_option maxRecDepth 100000 in
theorem commodatumref12_op.calls (k : Nat) (a0_0 : Int) (a0_1 : Int) (a0_2 : Int) (a0_3 : Int) (a1 : Int) (r : Bool) (w : World) (h : commodatumref12_op.f k a0_0 a0_1 a0_2 a0_3 a1 = some r) :
  Calls Tryd.prog 52 #[.agg #[.int .i64 a0_0, .int .i64 a0_1, .int .i64 a0_2, .int .i64 a0_3], .int .i64 a1] w fun e w' => e = .returned (.bool r) ∧ Below w.heap.size w w' := by
 have hu67 := Tryd.underlying67
 have HB := aM (Below.refl w.heap.size w)
 have H : ((commodatumref12_fields.f k a0_0).bind fun t143 => (commodatumref12_op.l0 k a1 t143 (([a0_1, a0_2, a0_3] : List Int)) 0)) = some r := h
 clear h
 replace H := Option.bind_eq_some_iff.mp H
 obtain ⟨t143, A30, H⟩ := H
 replace H : (commodatumref12_op.l0 k a1 t143 (([a0_1, a0_2, a0_3] : List Int)) 0) = some r := H
 have A3 := aM A30
 clear A30
 obtain ⟨y144, hy144⟩ : ∃ y_ : List Int, y_ = (([a0_1, a0_2, a0_3] : List Int)) := ⟨_, rfl⟩
 replace H : (commodatumref12_op.l0 k a1 t143 y144 0) = some r := by first | (rw [hy144]; with_reducible exact H) | (have H2_ := (Option.bind_some _ _).symm.trans H; rw [hy144]; with_reducible exact H2_) | (have H2_ := (Option.bind_some _ _).symm.trans H; with_reducible exact H2_) | with_reducible exact H | (rw [hy144]; exact H) | exact H
 have Ny144 := aM hy144
 clear hy144
 have H' := aM H
 clear H
 go_enter Tryd.func52, Tryd.ntmps52
 go_wp2_with (first | ((with_reducible refine gate_dst (N := 2) rfl ?_); refine box_event ?hg (N := 2) ?hd (cs := #[.int .i64 a0_0, .int .i64 a0_1, .int .i64 a0_2, .int .i64 a0_3]) (t := 67) ?hr ?_; (case hd => rfl); (case hg => rfl); (case hr => first | (go_simp; done) | (go_simp; rfl)); intro gb142 hg w4 hbox hb; have B42 := aM (hbox); have GW142 := aM ((by rw [hg]; exact (below_size (by (with_reducible apply_rules [HB.out, pA, pD, pE]))) : w.heap.size ≤ gb142)); have GE142 := aM ((by rw [hg]; exact (below_size (by (with_reducible apply_rules [HB.out, pA, pD, pE]))) : w.heap.size ≤ gb142)); replace HB := aM (below_step (by (with_reducible apply_rules [HB.out, pA, pD, pE])) hb); clear hb hbox hg; have hcz5_0 : w4.cell? ⟨gb142, 0, none⟩ = some (.int .i64 a0_0) := (blk_cell B42.out 0).trans rfl; have hcz5_1 : w4.cell? ⟨gb142, 1, none⟩ = some (.int .i64 a0_1) := (blk_cell B42.out 1).trans rfl; have hcz5_2 : w4.cell? ⟨gb142, 2, none⟩ = some (.int .i64 a0_2) := (blk_cell B42.out 2).trans rfl; have hcz5_3 : w4.cell? ⟨gb142, 3, none⟩ = some (.int .i64 a0_3) := (blk_cell B42.out 3).trans rfl; have hfz5_0 := blk_frozen B42.out 0; have hfz5_1 := blk_frozen B42.out 1; have hfz5_2 := blk_frozen B42.out 2; have hfz5_3 := blk_frozen B42.out 3) | (go_at_call 80; (with_reducible refine (commodatumref12_fields.calls k a0_0 t143 _ A3.out).mono ?_); rintro e w' ⟨rfl, ⟨nd, rfl⟩⟩; (try first | exact ⟨rfl, _, World.drewN_drewN _ _ _⟩ | exact ⟨rfl, _, Eq.trans (World.drewN_drewN _ _ _) (congrArg (World.drewN _) (Nat.add_assoc _ _ _))⟩)) | ((with_reducible refine gate_dst (N := 18) rfl ?_); refine Kd.R_lit (Kd.int .i64) _ 3 ?hg (N := 18) ?hd (xs := ([a0_1, a0_2, a0_3] : List Int)) (inner := [.int .i64 a0_1, .int .i64 a0_2, .int .i64 a0_3]) (ok := fun _ => True) (okp := fun _ => True) ?hr ?hp (fun _ hk => hk) trivial (Below.refl _ _) (Nat.le_refl _) (by simp) ?_; (case hd => rfl); (case hg => rfl); (case hr => first | (go_simp; done) | (go_simp; rfl)); (case hp => exact (Reps.one (show Kd.M (Kd.int .i64) _ _ _ a0_1 [.int .i64 a0_1] from rfl) (Reps.one (show Kd.M (Kd.int .i64) _ _ _ a0_2 [.int .i64 a0_2] from rfl) (Reps.one (show Kd.M (Kd.int .i64) _ _ _ a0_3 [.int .i64 a0_3] from rfl) (Reps.none _ _))))); intro v145 w6 ho7 hb hg_ hnew_; clear hg_ hnew_; (first | rw [← Ny144.out] at ho7 | (simp only [Int.reduceToNat] at ho7; rw [← Ny144.out] at ho7)); have HO146 := aM (Kd.R_lower ho7 (below_size (by (with_reducible apply_rules [HB.out, pA, pD, pE, sT, GE142.out])))); replace B42 := aM (blk_below (g := gb142) (o := .cells #[.int .i64 a0_0, .int .i64 a0_1, .int .i64 a0_2, .int .i64 a0_3] 67 (0, 0)) (by with_reducible apply_rules [B42.out, bA, bB, bC]) hb); replace HB := aM (below_step (by (with_reducible apply_rules [HB.out, pA, pD, pE, sT, GE142.out])) hb); clear hb ho7))
 repeat (go_quiet (fail)); try go_wp2
 go_loopg [7] k (fun kq v7 w' => ∃ (x7_1 : Int), v7 = .int .i64 x7_1 ∧ Aside0 (commodatumref12_op.l0 kq a1 t143 y144 x7_1 = some r) ∧ Aside0 (kq ≤ k) ∧ Aside0 (Kd.R (Kd.int .i64) 3 w' w.heap.size (fun _ => True) v145 y144) ∧ Aside0 (w'.heap[gb142]? = some (.cells #[.int .i64 a0_0, .int .i64 a0_1, .int .i64 a0_2, .int .i64 a0_3] 67 (0, 0))) ∧ Aside0 (Below w.heap.size w w'))
 case atStart => exact ⟨(0), (by first | rfl | (simp; done) | (simp [*]; done)), H', ⟨Nat.le_refl _⟩, ⟨by with_reducible apply_rules [HO146.out, rA, rB, rC]⟩, ⟨by with_reducible apply_rules [B42.out, bA, bB, bC]⟩, ⟨by (with_reducible apply_rules [HB.out, pA, pD, pE, sT, GE142.out])⟩⟩
 case round =>
  clear H'
  try clear p2
  try clear c5
  try clear hcz5_0
  try clear hcz5_1
  try clear hcz5_2
  try clear hcz5_3
  try clear hfz5_0
  try clear hfz5_1
  try clear hfz5_2
  try clear hfz5_3
  obtain ⟨x7_1, rfl, HA, HK1, HO_6, B42, HB⟩ := hrel
  cases gk with
  | zero => exact absurd HA.out (by simp [commodatumref12_op.l0])
  | succ k1 =>
   have H := HA.out
   clear HA
   simp only [commodatumref12_op.l0] at H
   by_cases c8 : x7_1 < 3
   ·rw [if_pos c8] at H
    have c8b0 : decide (x7_1 < 3) = true := decide_eq_true c8
    clear c8
    have HC9 := aM H
    clear H
    go_upto_region 6 with (fail)
    repeat (go_quiet (fail); go_upto_region 6 with (fail))
    go_cut [52] (fun v52 wc => ∃ (kq : Nat) (x52_8 : Bool), v52 = .bool x52_8 ∧ Aside0 (commodatumref12_op.j1 kq a1 t143 y144 x7_1 x52_8 = some r) ∧ Aside0 (kq ≤ k1) ∧ Aside0 (Kd.R (Kd.int .i64) 3 wc w.heap.size (fun _ => True) v145 y144) ∧ Aside0 (wc.heap[gb142]? = some (.cells #[.int .i64 a0_0, .int .i64 a0_1, .int .i64 a0_2, .int .i64 a0_3] 67 (0, 0))) ∧ Aside0 (Below w.heap.size w wc))
    case first =>
     have H := HC9.out
     clear HC9
     by_cases c10 : x7_1 ≥ t143
     ·rw [if_pos c10] at H
      have c10b0 : decide (t143 ≤ x7_1) = true := decide_eq_true c10
      clear c10
      (first | rw [c10b0] | (simp only [i64_w, i32_w]; rw [c10b0]) | skip)
      by_cases c11 : 0 ≤ x7_1
      ·rw [if_pos c11] at H
       have c11b0 : decide (0 ≤ x7_1) = true := decide_eq_true c11
       clear c11
       by_cases c12 : x7_1 < (y144.length : Int)
       ·rw [if_pos c12] at H
        have c12b0 : decide (x7_1 < (y144.length : Int)) = true := decide_eq_true c12
        clear c12
        by_cases c13 : (rd y144 x7_1) = 0
        ·rw [if_pos c13] at H
         have c13b0 : ((rd y144 x7_1) == 0) = true := beq_iff_eq.mpr c13
         have c13b1 : ((rd y144 x7_1) != 0) = false := bne_eq_false_iff_eq.mpr c13
         clear c13
         by_cases c14 : x7_1 < t143
         ·rw [if_pos c14] at H
          have c14b0 : decide (x7_1 < t143) = true := decide_eq_true c14
          clear c14
          by_cases c15 : (rd y144 x7_1) < 0
          ·rw [if_pos c15] at H
           have c15b0 : decide ((rd y144 x7_1) < 0) = true := decide_eq_true c15
           clear c15
           have H' := aM H
           clear H
           obtain ⟨Ao16, co16, eo16⟩ := Kd.R_slice HO_6.out
           subst eo16
           have p147 : 0 ≤ (x7_1 : Int) := of_decide_eq_true (by assumption)
           have q147 : x7_1 < (y144.length : Int) := of_decide_eq_true (by assumption)
           obtain ⟨ad147, e147, hx147_0⟩ := Kd.at_int (Kd.R_reads' HO_6.out).2.2 x7_1 p147 q147
           cases e147
           replace p147 := eq_true p147
           replace q147 := eq_true q147
           have p148 : 0 ≤ (x7_1 : Int) := of_decide_eq_true (by assumption)
           have q148 : x7_1 < (y144.length : Int) := of_decide_eq_true (by assumption)
           obtain ⟨ad148, e148, hx148_0⟩ := Kd.at_int (Kd.R_reads' HO_6.out).2.2 x7_1 p148 q148
           obtain rfl : ad147 = ad148 := (by injection e148)
           replace p148 := eq_true p148
           replace q148 := eq_true q148
           go_wp2
           repeat (go_quiet (fail); try go_wp2)
           go_meet
           case rel => exact ⟨_, (true), (by first | rfl | (simp; done) | (simp [*]; done)), H', ⟨by have := HK1.out; first | omega | exact Nat.le_refl _⟩, ⟨by with_reducible apply_rules [HO_6.out, rA, rB, rC]⟩, ⟨by with_reducible apply_rules [B42.out, bA, bB, bC]⟩, ⟨by (with_reducible apply_rules [HB.out, pA, pD, pE, sT, GE142.out])⟩⟩
          ·rw [if_neg c15] at H
           have c15b0 : decide ((rd y144 x7_1) < 0) = false := decide_eq_false c15
           clear c15
           have H' := aM H
           clear H
           obtain ⟨Ao17, co17, eo17⟩ := Kd.R_slice HO_6.out
           subst eo17
           have p147 : 0 ≤ (x7_1 : Int) := of_decide_eq_true (by assumption)
           have q147 : x7_1 < (y144.length : Int) := of_decide_eq_true (by assumption)
           obtain ⟨ad147, e147, hx147_0⟩ := Kd.at_int (Kd.R_reads' HO_6.out).2.2 x7_1 p147 q147
           cases e147
           replace p147 := eq_true p147
           replace q147 := eq_true q147
           have p148 : 0 ≤ (x7_1 : Int) := of_decide_eq_true (by assumption)
           have q148 : x7_1 < (y144.length : Int) := of_decide_eq_true (by assumption)
           obtain ⟨ad148, e148, hx148_0⟩ := Kd.at_int (Kd.R_reads' HO_6.out).2.2 x7_1 p148 q148
           obtain rfl : ad147 = ad148 := (by injection e148)
           replace p148 := eq_true p148
           replace q148 := eq_true q148
           have p149 : 0 ≤ (x7_1 : Int) := of_decide_eq_true (by assumption)
           have q149 : x7_1 < (y144.length : Int) := of_decide_eq_true (by assumption)
           obtain ⟨ad149, e149, hx149_0⟩ := Kd.at_int (Kd.R_reads' HO_6.out).2.2 x7_1 p149 q149
           obtain rfl : ad147 = ad149 := (by injection e149)
           replace p149 := eq_true p149
           replace q149 := eq_true q149
           go_wp2
           repeat (go_quiet (fail); try go_wp2)
           go_meet
           case rel => exact ⟨_, (decide ((rd y144 x7_1) ≥ a1)), (by first | rfl | (simp; done) | (simp [*]; done)), H', ⟨by have := HK1.out; first | omega | exact Nat.le_refl _⟩, ⟨by with_reducible apply_rules [HO_6.out, rA, rB, rC]⟩, ⟨by with_reducible apply_rules [B42.out, bA, bB, bC]⟩, ⟨by (with_reducible apply_rules [HB.out, pA, pD, pE, sT, GE142.out])⟩⟩
         ·rw [if_neg c14] at H
          have c14b0 : decide (x7_1 < t143) = false := decide_eq_false c14
          clear c14
          have H' := aM H
          clear H
          obtain ⟨Ao18, co18, eo18⟩ := Kd.R_slice HO_6.out
          subst eo18
          have p147 : 0 ≤ (x7_1 : Int) := of_decide_eq_true (by assumption)
          have q147 : x7_1 < (y144.length : Int) := of_decide_eq_true (by assumption)
          obtain ⟨ad147, e147, hx147_0⟩ := Kd.at_int (Kd.R_reads' HO_6.out).2.2 x7_1 p147 q147
          cases e147
          replace p147 := eq_true p147
          replace q147 := eq_true q147
          go_wp2
          repeat (go_quiet (fail); try go_wp2)
          go_meet
          case rel => exact ⟨_, (false), (by first | rfl | (simp; done) | (simp [*]; done)), H', ⟨by have := HK1.out; first | omega | exact Nat.le_refl _⟩, ⟨by with_reducible apply_rules [HO_6.out, rA, rB, rC]⟩, ⟨by with_reducible apply_rules [B42.out, bA, bB, bC]⟩, ⟨by (with_reducible apply_rules [HB.out, pA, pD, pE, sT, GE142.out])⟩⟩
        ·rw [if_neg c13] at H
         have c13b0 : ((rd y144 x7_1) == 0) = false := beq_eq_false_iff_ne.mpr c13
         have c13b1 : ((rd y144 x7_1) != 0) = true := bne_iff_ne.mpr c13
         have H' := aM H
         clear H
         obtain ⟨Ao19, co19, eo19⟩ := Kd.R_slice HO_6.out
         subst eo19
         have p147 : 0 ≤ (x7_1 : Int) := of_decide_eq_true (by assumption)
         have q147 : x7_1 < (y144.length : Int) := of_decide_eq_true (by assumption)
         obtain ⟨ad147, e147, hx147_0⟩ := Kd.at_int (Kd.R_reads' HO_6.out).2.2 x7_1 p147 q147
         cases e147
         replace p147 := eq_true p147
         replace q147 := eq_true q147
         go_wp2
         repeat (go_quiet (fail); try go_wp2)
         go_meet
         case rel => exact ⟨_, (true), (by first | rfl | (simp; done) | (simp [*]; done)), H', ⟨by have := HK1.out; first | omega | exact Nat.le_refl _⟩, ⟨by with_reducible apply_rules [HO_6.out, rA, rB, rC]⟩, ⟨by with_reducible apply_rules [B42.out, bA, bB, bC]⟩, ⟨by (with_reducible apply_rules [HB.out, pA, pD, pE, sT, GE142.out])⟩⟩
       ·rw [if_neg c12] at H
        exact absurd H (by simp)
      ·rw [if_neg c11] at H
       exact absurd H (by simp)
     ·rw [if_neg c10] at H
      have c10b0 : decide (t143 ≤ x7_1) = false := decide_eq_false c10
      clear c10
      (first | rw [c10b0] | (simp only [i64_w, i32_w]; rw [c10b0]) | skip)
      by_cases c20 : x7_1 < t143
      ·rw [if_pos c20] at H
       have c20b0 : decide (x7_1 < t143) = true := decide_eq_true c20
       clear c20
       by_cases c21 : 0 ≤ x7_1
       ·rw [if_pos c21] at H
        have c21b0 : decide (0 ≤ x7_1) = true := decide_eq_true c21
        clear c21
        by_cases c22 : x7_1 < (y144.length : Int)
        ·rw [if_pos c22] at H
         have c22b0 : decide (x7_1 < (y144.length : Int)) = true := decide_eq_true c22
         clear c22
         by_cases c23 : (rd y144 x7_1) < 0
         ·rw [if_pos c23] at H
          have c23b0 : decide ((rd y144 x7_1) < 0) = true := decide_eq_true c23
          clear c23
          have H' := aM H
          clear H
          obtain ⟨Ao24, co24, eo24⟩ := Kd.R_slice HO_6.out
          subst eo24
          have p150 : 0 ≤ (x7_1 : Int) := of_decide_eq_true (by assumption)
          have q150 : x7_1 < (y144.length : Int) := of_decide_eq_true (by assumption)
          obtain ⟨ad150, e150, hx150_0⟩ := Kd.at_int (Kd.R_reads' HO_6.out).2.2 x7_1 p150 q150
          cases e150
          replace p150 := eq_true p150
          replace q150 := eq_true q150
          go_wp2
          repeat (go_quiet (fail); try go_wp2)
          go_meet
          case rel => exact ⟨_, (true), (by first | rfl | (simp; done) | (simp [*]; done)), H', ⟨by have := HK1.out; first | omega | exact Nat.le_refl _⟩, ⟨by with_reducible apply_rules [HO_6.out, rA, rB, rC]⟩, ⟨by with_reducible apply_rules [B42.out, bA, bB, bC]⟩, ⟨by (with_reducible apply_rules [HB.out, pA, pD, pE, sT, GE142.out])⟩⟩
         ·rw [if_neg c23] at H
          have c23b0 : decide ((rd y144 x7_1) < 0) = false := decide_eq_false c23
          clear c23
          have H' := aM H
          clear H
          obtain ⟨Ao25, co25, eo25⟩ := Kd.R_slice HO_6.out
          subst eo25
          have p150 : 0 ≤ (x7_1 : Int) := of_decide_eq_true (by assumption)
          have q150 : x7_1 < (y144.length : Int) := of_decide_eq_true (by assumption)
          obtain ⟨ad150, e150, hx150_0⟩ := Kd.at_int (Kd.R_reads' HO_6.out).2.2 x7_1 p150 q150
          cases e150
          replace p150 := eq_true p150
          replace q150 := eq_true q150
          have p151 : 0 ≤ (x7_1 : Int) := of_decide_eq_true (by assumption)
          have q151 : x7_1 < (y144.length : Int) := of_decide_eq_true (by assumption)
          obtain ⟨ad151, e151, hx151_0⟩ := Kd.at_int (Kd.R_reads' HO_6.out).2.2 x7_1 p151 q151
          obtain rfl : ad150 = ad151 := (by injection e151)
          replace p151 := eq_true p151
          replace q151 := eq_true q151
          go_wp2
          repeat (go_quiet (fail); try go_wp2)
          go_meet
          case rel => exact ⟨_, (decide ((rd y144 x7_1) ≥ a1)), (by first | rfl | (simp; done) | (simp [*]; done)), H', ⟨by have := HK1.out; first | omega | exact Nat.le_refl _⟩, ⟨by with_reducible apply_rules [HO_6.out, rA, rB, rC]⟩, ⟨by with_reducible apply_rules [B42.out, bA, bB, bC]⟩, ⟨by (with_reducible apply_rules [HB.out, pA, pD, pE, sT, GE142.out])⟩⟩
        ·rw [if_neg c22] at H
         exact absurd H (by simp)
       ·rw [if_neg c21] at H
        exact absurd H (by simp)
      ·rw [if_neg c20] at H
       have c20b0 : decide (x7_1 < t143) = false := decide_eq_false c20
       clear c20
       have H' := aM H
       clear H
       go_wp2
       repeat (go_quiet (fail); try go_wp2)
       go_meet
       case rel => exact ⟨_, (false), (by first | rfl | (simp; done) | (simp [*]; done)), H', ⟨by have := HK1.out; first | omega | exact Nat.le_refl _⟩, ⟨by with_reducible apply_rules [HO_6.out, rA, rB, rC]⟩, ⟨by with_reducible apply_rules [B42.out, bA, bB, bC]⟩, ⟨by (with_reducible apply_rules [HB.out, pA, pD, pE, sT, GE142.out])⟩⟩
    case rest =>
     clear HC9
     try clear c1
     try clear p1
     try clear q1
     try clear hx1
     try clear c2
     try clear p2
     try clear c5
     try clear c8
     try clear c8b0
     try clear c10
     try clear c10b0
     try clear c11
     try clear c11b0
     try clear c12
     try clear c12b0
     try clear c13
     try clear c13b0
     try clear c13b1
     try clear c14
     try clear c14b0
     try clear p14
     try clear q14
     try clear hx14
     try clear c15
     try clear c15b0
     try clear p15
     try clear q15
     try clear hx15
     try clear c20
     try clear c20b0
     try clear c21
     try clear c21b0
     try clear c22
     try clear c22b0
     try clear c23
     try clear c23b0
     try clear hcz5_0
     try clear hcz5_1
     try clear hcz5_2
     try clear hcz5_3
     try clear hfz5_0
     try clear hfz5_1
     try clear hfz5_2
     try clear hfz5_3
     try clear hx147_0
     try clear hx148_0
     try clear hx149_0
     try clear hx150_0
     try clear hx151_0
     try clear p147
     try clear p148
     try clear p149
     try clear p150
     try clear p151
     try clear p2
     try clear q147
     try clear q148
     try clear q149
     try clear q150
     try clear q151
     obtain ⟨kq, x52_8, rfl, HA, HJ8, HO_6, B42, HB⟩ := hcut
     cases kq with
     | zero => exact absurd HA.out (by simp [commodatumref12_op.j1])
     | succ kj8 =>
      have H := HA.out
      clear HA
      simp only [commodatumref12_op.j1] at H
      by_cases c26 : x52_8 = true
      ·subst c26
       have H1 : (some false) = some r := by rw [if_pos rfl] at H; exact H
       clear H
       have H := H1
       clear H1
       obtain rfl := Option.some.inj H
       go_wp2
       repeat (go_quiet (fail); try go_wp2)
       go_ret
       exact ⟨by first | rfl | (simp [errW_none, errW_some] <;> rfl) | (simp [*, errW_none, errW_some] <;> rfl), by (with_reducible apply_rules [HB.out, pA, pD, pE, sT, GE142.out])⟩
      ·replace c26 := Bool.eq_false_iff.mpr c26
       subst c26
       have H1 : (commodatumref12_op.l1 kj8 a1 t143 y144 x7_1 0) = some r := by rw [if_neg (show ¬ (false = true) by decide)] at H; exact H
       clear H
       have H := H1
       clear H1
       have H' := aM H
       clear H
       go_wp2
       repeat (go_quiet (fail); try go_wp2)
       go_loopg [8] kj8 (fun kq v8 w' => ∃ (x8_3 : Int), v8 = .int .i64 x8_3 ∧ Aside0 (commodatumref12_op.l1 kq a1 t143 y144 x7_1 x8_3 = some r) ∧ Aside0 (kq ≤ kj8) ∧ Aside0 (Kd.R (Kd.int .i64) 3 w' w.heap.size (fun _ => True) v145 y144) ∧ Aside0 (w'.heap[gb142]? = some (.cells #[.int .i64 a0_0, .int .i64 a0_1, .int .i64 a0_2, .int .i64 a0_3] 67 (0, 0))) ∧ Aside0 (Below w.heap.size w w'))
       case atStart => exact ⟨(0), (by first | rfl | (simp; done) | (simp [*]; done)), H', ⟨Nat.le_refl _⟩, ⟨by with_reducible apply_rules [HO_6.out, rA, rB, rC]⟩, ⟨by with_reducible apply_rules [B42.out, bA, bB, bC]⟩, ⟨by (with_reducible apply_rules [HB.out, pA, pD, pE, sT, GE142.out])⟩⟩
       case round =>
        clear H'
        try clear c1
        try clear p1
        try clear q1
        try clear hx1
        try clear c2
        try clear p2
        try clear c5
        try clear c8
        try clear c8b0
        try clear c10
        try clear c10b0
        try clear c11
        try clear c11b0
        try clear c12
        try clear c12b0
        try clear c13
        try clear c13b0
        try clear c13b1
        try clear c14
        try clear c14b0
        try clear p14
        try clear q14
        try clear hx14
        try clear c15
        try clear c15b0
        try clear p15
        try clear q15
        try clear hx15
        try clear c20
        try clear c20b0
        try clear c21
        try clear c21b0
        try clear c22
        try clear c22b0
        try clear c23
        try clear c23b0
        try clear c26
        try clear hcz5_0
        try clear hcz5_1
        try clear hcz5_2
        try clear hcz5_3
        try clear hfz5_0
        try clear hfz5_1
        try clear hfz5_2
        try clear hfz5_3
        try clear hx147_0
        try clear hx148_0
        try clear hx149_0
        try clear hx150_0
        try clear hx151_0
        try clear p1
        try clear p14
        try clear p147
        try clear p148
        try clear p149
        try clear p15
        try clear p150
        try clear p151
        try clear p2
        try clear q1
        try clear q14
        try clear q147
        try clear q148
        try clear q149
        try clear q15
        try clear q150
        try clear q151
        obtain ⟨x8_3, rfl, HA, HK3, HO_6, B42, HB⟩ := hrel
        cases gk with
        | zero => exact absurd HA.out (by simp [commodatumref12_op.l1])
        | succ k3 =>
         have H := HA.out
         clear HA
         simp only [commodatumref12_op.l1] at H
         have HC27 := aM H
         clear H
         go_upto_region 9 with (fail)
         repeat (go_quiet (fail); go_upto_region 9 with (fail))
         go_cut [60] (fun v60 wc => ∃ (kq : Nat) (x60_26 : Bool), v60 = .bool x60_26 ∧ Aside0 (commodatumref12_op.j3 kq a1 t143 y144 x7_1 x8_3 x60_26 = some r) ∧ Aside0 (kq ≤ k3) ∧ Aside0 (Kd.R (Kd.int .i64) 3 wc w.heap.size (fun _ => True) v145 y144) ∧ Aside0 (wc.heap[gb142]? = some (.cells #[.int .i64 a0_0, .int .i64 a0_1, .int .i64 a0_2, .int .i64 a0_3] 67 (0, 0))) ∧ Aside0 (Below w.heap.size w wc))
         case first =>
          have H := HC27.out
          clear HC27
          by_cases c28 : x8_3 < x7_1
          ·rw [if_pos c28] at H
           have c28b0 : decide (x8_3 < x7_1) = true := decide_eq_true c28
           clear c28
           (first | rw [c28b0] | (simp only [i64_w, i32_w]; rw [c28b0]) | skip)
           have H' := aM H
           clear H
           go_wp2
           repeat (go_quiet (fail); try go_wp2)
           go_meet
           case rel => exact ⟨_, (decide (x7_1 < t143)), (by first | rfl | (simp; done) | (simp [*]; done)), H', ⟨by have := HK1.out; have := HJ8.out; have := HK3.out; first | omega | exact Nat.le_refl _⟩, ⟨by with_reducible apply_rules [HO_6.out, rA, rB, rC]⟩, ⟨by with_reducible apply_rules [B42.out, bA, bB, bC]⟩, ⟨by (with_reducible apply_rules [HB.out, pA, pD, pE, sT, GE142.out])⟩⟩
          ·rw [if_neg c28] at H
           have c28b0 : decide (x8_3 < x7_1) = false := decide_eq_false c28
           clear c28
           (first | rw [c28b0] | (simp only [i64_w, i32_w]; rw [c28b0]) | skip)
           have H' := aM H
           clear H
           go_wp2
           repeat (go_quiet (fail); try go_wp2)
           go_meet
           case rel => exact ⟨_, (false), (by first | rfl | (simp; done) | (simp [*]; done)), H', ⟨by have := HK1.out; have := HJ8.out; have := HK3.out; first | omega | exact Nat.le_refl _⟩, ⟨by with_reducible apply_rules [HO_6.out, rA, rB, rC]⟩, ⟨by with_reducible apply_rules [B42.out, bA, bB, bC]⟩, ⟨by (with_reducible apply_rules [HB.out, pA, pD, pE, sT, GE142.out])⟩⟩
         case rest =>
          clear HC27
          try clear c1
          try clear p1
          try clear q1
          try clear hx1
          try clear c2
          try clear p2
          try clear c5
          try clear c8
          try clear c8b0
          try clear c10
          try clear c10b0
          try clear c11
          try clear c11b0
          try clear c12
          try clear c12b0
          try clear c13
          try clear c13b0
          try clear c13b1
          try clear c14
          try clear c14b0
          try clear p14
          try clear q14
          try clear hx14
          try clear c15
          try clear c15b0
          try clear p15
          try clear q15
          try clear hx15
          try clear c20
          try clear c20b0
          try clear c21
          try clear c21b0
          try clear c22
          try clear c22b0
          try clear c23
          try clear c23b0
          try clear c26
          try clear c28
          try clear c28b0
          try clear hcz5_0
          try clear hcz5_1
          try clear hcz5_2
          try clear hcz5_3
          try clear hfz5_0
          try clear hfz5_1
          try clear hfz5_2
          try clear hfz5_3
          try clear hx147_0
          try clear hx148_0
          try clear hx149_0
          try clear hx150_0
          try clear hx151_0
          try clear p1
          try clear p14
          try clear p147
          try clear p148
          try clear p149
          try clear p15
          try clear p150
          try clear p151
          try clear p2
          try clear q1
          try clear q14
          try clear q147
          try clear q148
          try clear q149
          try clear q15
          try clear q150
          try clear q151
          obtain ⟨kq, x60_26, rfl, HA, HJ26, HO_6, B42, HB⟩ := hcut
          cases kq with
          | zero => exact absurd HA.out (by simp [commodatumref12_op.j3])
          | succ kj26 =>
           have H := HA.out
           clear HA
           simp only [commodatumref12_op.j3] at H
           by_cases c29 : x60_26 = true
           ·subst c29
            have H1 : (if 0 ≤ x8_3 then (if x8_3 < (y144.length : Int) then (if 0 ≤ x7_1 then (if x7_1 < (y144.length : Int) then (if (rd y144 x8_3) = (rd y144 x7_1) then (some false) else (commodatumref12_op.l1 kj26 a1 t143 y144 x7_1 (wrap64 (x8_3 + 1)))) else (none)) else (none)) else (none)) else (none)) = some r := by rw [if_pos rfl] at H; exact H
            clear H
            have H := H1
            clear H1
            by_cases c30 : 0 ≤ x8_3
            ·rw [if_pos c30] at H
             have c30b0 : decide (0 ≤ x8_3) = true := decide_eq_true c30
             clear c30
             by_cases c31 : x8_3 < (y144.length : Int)
             ·rw [if_pos c31] at H
              have c31b0 : decide (x8_3 < (y144.length : Int)) = true := decide_eq_true c31
              clear c31
              by_cases c32 : 0 ≤ x7_1
              ·rw [if_pos c32] at H
               have c32b0 : decide (0 ≤ x7_1) = true := decide_eq_true c32
               clear c32
               by_cases c33 : x7_1 < (y144.length : Int)
               ·rw [if_pos c33] at H
                have c33b0 : decide (x7_1 < (y144.length : Int)) = true := decide_eq_true c33
                clear c33
                by_cases c34 : (rd y144 x8_3) = (rd y144 x7_1)
                ·rw [if_pos c34] at H
                 have c34b0 : ((rd y144 x8_3) == (rd y144 x7_1)) = true := beq_iff_eq.mpr c34
                 have c34b1 : ((rd y144 x8_3) != (rd y144 x7_1)) = false := bne_eq_false_iff_eq.mpr c34
                 clear c34
                 obtain rfl := Option.some.inj H
                 obtain ⟨Ao35, co35, eo35⟩ := Kd.R_slice HO_6.out
                 subst eo35
                 have p152 : 0 ≤ (x8_3 : Int) := of_decide_eq_true (by assumption)
                 have q152 : x8_3 < (y144.length : Int) := of_decide_eq_true (by assumption)
                 obtain ⟨ad152, e152, hx152_0⟩ := Kd.at_int (Kd.R_reads' HO_6.out).2.2 x8_3 p152 q152
                 cases e152
                 replace p152 := eq_true p152
                 replace q152 := eq_true q152
                 have p153 : 0 ≤ (x7_1 : Int) := of_decide_eq_true (by assumption)
                 have q153 : x7_1 < (y144.length : Int) := of_decide_eq_true (by assumption)
                 obtain ⟨ad153, e153, hx153_0⟩ := Kd.at_int (Kd.R_reads' HO_6.out).2.2 x7_1 p153 q153
                 obtain rfl : ad152 = ad153 := (by injection e153)
                 replace p153 := eq_true p153
                 replace q153 := eq_true q153
                 go_wp2
                 repeat (go_quiet (fail); try go_wp2)
                 go_ret
                 exact ⟨by first | rfl | (simp [errW_none, errW_some] <;> rfl) | (simp [*, errW_none, errW_some] <;> rfl), by (with_reducible apply_rules [HB.out, pA, pD, pE, sT, GE142.out])⟩
                ·rw [if_neg c34] at H
                 have c34b0 : ((rd y144 x8_3) == (rd y144 x7_1)) = false := beq_eq_false_iff_ne.mpr c34
                 have c34b1 : ((rd y144 x8_3) != (rd y144 x7_1)) = true := bne_iff_ne.mpr c34
                 have H' := aM H
                 clear H
                 obtain ⟨Ao36, co36, eo36⟩ := Kd.R_slice HO_6.out
                 subst eo36
                 have p152 : 0 ≤ (x8_3 : Int) := of_decide_eq_true (by assumption)
                 have q152 : x8_3 < (y144.length : Int) := of_decide_eq_true (by assumption)
                 obtain ⟨ad152, e152, hx152_0⟩ := Kd.at_int (Kd.R_reads' HO_6.out).2.2 x8_3 p152 q152
                 cases e152
                 replace p152 := eq_true p152
                 replace q152 := eq_true q152
                 have p153 : 0 ≤ (x7_1 : Int) := of_decide_eq_true (by assumption)
                 have q153 : x7_1 < (y144.length : Int) := of_decide_eq_true (by assumption)
                 obtain ⟨ad153, e153, hx153_0⟩ := Kd.at_int (Kd.R_reads' HO_6.out).2.2 x7_1 p153 q153
                 obtain rfl : ad152 = ad153 := (by injection e153)
                 replace p153 := eq_true p153
                 replace q153 := eq_true q153
                 go_wp2
                 repeat (go_quiet (fail); try go_wp2)
                 go_roundg kj26
                 case measure => have := HK1.out; have := HJ8.out; have := HK3.out; have := HJ26.out; omega
                 case rel => exact ⟨(wrap64 (x8_3 + 1)), (by first | rfl | (simp; done) | (simp [*]; done)), H', ⟨by have := HK1.out; have := HJ8.out; have := HK3.out; have := HJ26.out; omega⟩, ⟨by with_reducible apply_rules [HO_6.out, rA, rB, rC]⟩, ⟨by with_reducible apply_rules [B42.out, bA, bB, bC]⟩, ⟨by (with_reducible apply_rules [HB.out, pA, pD, pE, sT, GE142.out])⟩⟩
               ·rw [if_neg c33] at H
                exact absurd H (by simp)
              ·rw [if_neg c32] at H
               exact absurd H (by simp)
             ·rw [if_neg c31] at H
              exact absurd H (by simp)
            ·rw [if_neg c30] at H
             exact absurd H (by simp)
           ·replace c29 := Bool.eq_false_iff.mpr c29
            subst c29
            have H1 : (commodatumref12_op.l0 kj26 a1 t143 y144 (wrap64 (x7_1 + 1))) = some r := by rw [if_neg (show ¬ (false = true) by decide)] at H; exact H
            clear H
            have H := H1
            clear H1
            have H' := aM H
            clear H
            go_wp2
            repeat (go_quiet (fail); try go_wp2)
            go_roundg kj26
            case measure => have := HK1.out; have := HJ8.out; have := HK3.out; have := HJ26.out; omega
            case rel => exact ⟨(wrap64 (x7_1 + 1)), (by first | rfl | (simp; done) | (simp [*]; done)), H', ⟨by have := HK1.out; have := HJ8.out; have := HK3.out; have := HJ26.out; omega⟩, ⟨by with_reducible apply_rules [HO_6.out, rA, rB, rC]⟩, ⟨by with_reducible apply_rules [B42.out, bA, bB, bC]⟩, ⟨by (with_reducible apply_rules [HB.out, pA, pD, pE, sT, GE142.out])⟩⟩
   ·rw [if_neg c8] at H
    have c8b0 : decide (x7_1 < 3) = false := decide_eq_false c8
    clear c8
    obtain rfl := Option.some.inj H
    go_wp2
    repeat (go_quiet (fail); try go_wp2)
    go_ret
    exact ⟨by first | rfl | (simp [errW_none, errW_some] <;> rfl) | (simp [*, errW_none, errW_some] <;> rfl), by (with_reducible apply_rules [HB.out, pA, pD, pE, sT, GE142.out])⟩

end Go.Proofs.YthfhnkpipdbekaaDoor.Ta
