-- CUT by a program of this session: what the claim does not use is left out
import Derived.Test.YthfhnkpipdbekaaDoorUax0
import Derived.Test.YthfhnkpipdbekaaDoorProg
import Derived.Below
import Derived.Deep.Draws
import Derived.Deep.AppendLies
import Derived.Maps.AppendAt
import Derived.OwnWalk
import Derived.Laws.BytesArg
import Derived.Laws.MakeOwn
import Derived.Laws.OwnMore
import Derived.Deep.OwnRows
import Derived.Tactics
import Derived.Lib.ConvBytes
import Derived.Laws.Slices
import Derived.WalkKit
import Derived.KernelRfl
import Derived.RowKit3
import Derived.Deep.LoopGhost
import Derived.Deep.QuietTactic
import Derived.BigQuiet
import Derived.WideLaws
import Derived.Deep.DeepCutAuto
import Derived.Deep.CutBlock
import Derived.Deep.RegionHeld3
import Derived.Laws.Rows
import Derived.Lib.AppendStr
import Derived.ArgAppend
import Derived.Laws.IdiomCopy
import Derived.OrdersHeld
import Derived.Laws.BitsLemmas
import Derived.RowKit
import Derived.Test.YthfhnkpipdbekaaDoorN6
import Derived.Test.YthfhnkpipdbekaaDoorWAll
import Derived.Test.YthfhnkpipdbekaaDoorTax5
import Derived.Test.YthfhnkpipdbekaaDoorTax6
namespace Go.Proofs.YthfhnkpipdbekaaDoor.Ta
open Go.Proofs.YthfhnkpipdbekaaDoor.Ua
open Go.Proofs.YthfhnkpipdbekaaDoor.Giv
open Go.RowKit Go.Proofs.YthfhnkpipdbekaaDoorW.PrintWords Go.Proofs.YthfhnkpipdbekaaDoorW.PrintLast Go.Proofs.YthfhnkpipdbekaaDoorW.PrintMore
attribute [local go_sem] max2_int min2_int max_two min_two max_three min_three max_four min_four   -- for this text's walks alone
set_option linter.unusedVariables false
set_option linter.unusedSimpArgs false

theorem pSa1 {α : Type} : (∀ (l : List α) (i : Nat) (a : α), l.toArray.setIfInBounds i a = (l.set i a).toArray) ∧ (∀ (l : List α) (x y : α), (x :: l).set 0 y = y :: l) ∧ (∀ (l : List α) (x y : α) (n : Nat), (x :: l).set (n + 1) y = x :: l.set n y) :=
 ⟨fun _ _ _ => List.setIfInBounds_toArray .., fun _ _ _ => rfl, fun _ _ _ _ => rfl⟩
open Bool renaming true → T, false → F
open Go.Proofs.YthfhnkpipdbekaaDoorW.PrintWords renaming blk_drewN → bA, blk_drew → bB, blk_alloc → bC, below_set → sT, Aside0.mk → aM, pw_below_drewN → pD, below_drew1 → pE, below_alloc → pA, blk_cell → bE, blk_frozen → bF
abbrev z0a1 : Array Bool := #[F,F,F,F,F,F,F,F,F,F,F]
abbrev z1a1 : Array Bool := #[T,F,F,F,F,F,F,F,F,F,F]
abbrev z5a1 : Array Bool := #[T,T,T,T,T,F,F,F,F,F,F]
abbrev z6a1 : Array Bool := #[T,T,T,T,T,T,F,F,F,F,F]
abbrev z7a1 : Array Bool := #[T,T,T,T,T,T,T,F,F,F,F]
abbrev z8a1 : Array Bool := #[T,T,T,T,T,T,T,T,F,F,F]
abbrev z9a1 : Array Bool := #[T,T,T,T,T,T,T,T,T,F,F]
abbrev z10a1 : Array Bool := #[T,T,T,T,T,T,T,T,T,T,F]
abbrev z11a1 : Array Bool := #[T,T,T,T,T,T,T,T,T,T,T]
abbrev z12a1 : Array Bool := #[T,F,T,F,F,F,F,F,F,F,F]
abbrev z13a1 : Array Bool := #[T,F,T,F,T,F,F,F,F,F,F]
abbrev z14a1 : Array Bool := #[T,T,T,F,T,F,F,F,F,F,F]
def commodatumref12_Inverse.l0 : Nat → Int → Int → List (S67) → Int → List (S67) → Option (Int × (List (S67)))
 | 0, _, _, _, _, _ => none
 | k + 1, x4, x250000, x250001, x252000, x252001 => if x4 ≥ 0 then (if 0 ≤ x4 then (if x4 < (x250001.length : Int) then (if x252001.length < 4398046511104 then (commodatumref12_Inverse.l0 k (wrap64 (x4 - 1)) x250000 x250001 x252000 (x252001 ++ [(⟨(rd_T67 x250001 x4).f0, (rd_T67 x250001 x4).f1, (rd_T67 x250001 x4).f2, (rd_T67 x250001 x4).f3⟩ : S67)])) else (none)) else (none)) else (none)) else (some (x252000, x252001))
def commodatumref12_Inverse.f (k : Nat) (a0_0 : Int) (l0_1 : List (S67)) : Option (Int × (List (S67))) := commodatumref12_Inverse.l0 k (wrap64 ((l0_1.length : Int) - 1)) a0_0 l0_1 a0_0 ([] : List (S67))
def commodatumref12_Inverse.T5 : Bool × List (List Nat × List Nat) := (true, [([], []), ([0], [0]), ([], []), ([2], [2]), ([], []), ([3, 4], [3, 4]), ([5], [5]), ([6], [6]), ([1, 7], [1, 7]), ([0, 1, 2, 3, 4, 5, 6, 7, 8], []), ([9, 8, 8, 0, 1, 2, 3, 4, 5, 6, 7, 8], [8, 9])])
def commodatumref12_Inverse.B5 : List Nat := [0, 1, 0, 4, 0, 28, 60, 124, 255, 511, 1023]
theorem commodatumref12_Inverse.tab5 : rtab .any (opsOf Tryd.f39 5) = commodatumref12_Inverse.T5 := by kernel_rfl
theorem commodatumref12_Inverse.bits5 : waitsOk commodatumref12_Inverse.T5.2 commodatumref12_Inverse.B5 = true := by kernel_rfl
set_option maxHeartbeats 8000000 in
set_option maxRecDepth 100000 in
theorem commodatumref12_Inverse.calls (k : Nat) (a0_0 : Int) (A0_1 : Option Addr) (c0_1 : Nat) (l0_1 : List (S67)) (r1 : Int) (r2 : List (S67)) (w : World) (hr0_1 : Kd.C k67 w A0_1 l0_1.length l0_1) (hc0_1 : l0_1.length ≤ c0_1) (h : commodatumref12_Inverse.f k a0_0 l0_1 = some (r1, r2)) :
  Calls Tryd.prog 39 #[.agg #[.int .i64 a0_0, .slice A0_1 l0_1.length c0_1]] w fun e w' => ∃ v1_ : Value, e = .returned (.agg #[.int .i64 r1, v1_]) ∧ Kd.R k67 67 w' w.heap.size (fun _ => True) v1_ r2 ∧ Below w.heap.size w w' := by
 have hu25 := Tryd.underlying25
 have hu67 := Tryd.underlying67
 have HR0_1 := aM hr0_1
 have HC0_1 := aM hc0_1
 clear hr0_1 hc0_1
 have HB := aM (Below.refl w.heap.size w)
 have H : (commodatumref12_Inverse.l0 k (wrap64 ((l0_1.length : Int) - 1)) a0_0 l0_1 a0_0 ([] : List (S67))) = some (r1, r2) := h
 clear h
 have H' := aM H
 clear H
 go_enter Tryd.func39, Tryd.ntmps39
 go_wp2_with (first | ((with_reducible refine gate_dst (N := 1) rfl ?_); refine box_event ?hg (N := 1) ?hd (cs := #[.int .i64 a0_0, .slice A0_1 l0_1.length c0_1]) (t := 25) ?hr ?_; (case hd => rfl); (case hg => rfl); (case hr => first | (go_simp; done) | (go_simp; rfl)); intro gb249 hg w2 hbox hb; have B49 := aM (hbox); have GW249 := aM ((by rw [hg]; exact (below_size (by (with_reducible apply_rules [HB.out, pA, pD, pE]))) : w.heap.size ≤ gb249)); have GE249 := aM ((by rw [hg]; exact (below_size (by (with_reducible apply_rules [HB.out, pA, pD, pE]))) : w.heap.size ≤ gb249)); replace HB := aM (below_step (by (with_reducible apply_rules [HB.out, pA, pD, pE])) hb); clear hb hbox hg) | ((with_reducible refine gate_dst (N := 2) rfl ?_); refine box_event ?hg (N := 2) ?hd (cs := #[.int .i64 0, .slice none 0 0]) (t := 25) ?hr ?_; (case hd => rfl); (case hg => rfl); (case hr => first | (go_simp; done) | (go_simp; rfl)); intro gb250 hg w3 hbox hb; have B50 := aM (hbox); have GW250 := aM ((by rw [hg]; exact (below_size (by (with_reducible apply_rules [HB.out, pA, pD, pE, sT, GE249.out]))) : w.heap.size ≤ gb250)); have GE250 := aM ((by rw [hg]; exact (below_size (by (with_reducible apply_rules [HB.out, pA, pD, pE, sT, GE249.out]))) : w.heap.size ≤ gb250)); replace HB := aM (below_step (by (with_reducible apply_rules [HB.out, pA, pD, pE, sT, GE249.out])) hb); have NB249_250 := aM ((by rw [hg]; exact Nat.ne_of_lt (blk_lt (g := gb249) (o := .cells #[.int .i64 a0_0, .slice A0_1 l0_1.length c0_1] 25 (0, 0)) (by with_reducible apply_rules [B49.out, bA, bB, bC])) : gb249 ≠ gb250)); have NB250_249 := aM ((by rw [hg]; exact Nat.ne_of_gt (blk_lt (g := gb249) (o := .cells #[.int .i64 a0_0, .slice A0_1 l0_1.length c0_1] 25 (0, 0)) (by with_reducible apply_rules [B49.out, bA, bB, bC])) : gb250 ≠ gb249)); replace B49 := aM (blk_below (g := gb249) (o := .cells #[.int .i64 a0_0, .slice A0_1 l0_1.length c0_1] 25 (0, 0)) (by with_reducible apply_rules [B49.out, bA, bB, bC]) hb); clear hb hbox hg; have hnb4 := NB249_250.out; have hnc4 := NB250_249.out; have hcz5_0 : w3.cell? ⟨gb249, 0, none⟩ = some (.int .i64 a0_0) := (bE B49.out 0).trans rfl; have hcz5_1 : w3.cell? ⟨gb249, 1, none⟩ = some (.slice A0_1 l0_1.length c0_1) := (bE B49.out 1).trans rfl; have hfz5_0 := bF B49.out 0; have hfz5_1 := bF B49.out 1) | ((with_reducible refine gate_dst (N := 3) rfl ?_); refine box_event ?hg (N := 3) ?hd (cs := #[.int .i64 0, .slice none 0 0]) (t := 25) ?hr ?_; (case hd => rfl); (case hg => rfl); (case hr => first | (go_simp; done) | (go_simp; rfl)); intro gb251 hg w6 hbox hb; have B51 := aM (hbox); have GW251 := aM ((by rw [hg]; exact (below_size (by (with_reducible apply_rules [HB.out, pA, pD, pE, sT, GE249.out, GE250.out]))) : w.heap.size ≤ gb251)); have GE251 := aM ((by rw [hg]; exact (below_size (by (with_reducible apply_rules [HB.out, pA, pD, pE, sT, GE249.out, GE250.out]))) : w.heap.size ≤ gb251)); replace HB := aM (below_step (by (with_reducible apply_rules [HB.out, pA, pD, pE, sT, GE249.out, GE250.out])) hb); have NB249_251 := aM ((by rw [hg]; exact Nat.ne_of_lt (blk_lt (g := gb249) (o := .cells #[.int .i64 a0_0, .slice A0_1 l0_1.length c0_1] 25 (0, 0)) (by with_reducible apply_rules [B49.out, bA, bB, bC])) : gb249 ≠ gb251)); have NB251_249 := aM ((by rw [hg]; exact Nat.ne_of_gt (blk_lt (g := gb249) (o := .cells #[.int .i64 a0_0, .slice A0_1 l0_1.length c0_1] 25 (0, 0)) (by with_reducible apply_rules [B49.out, bA, bB, bC])) : gb251 ≠ gb249)); replace B49 := aM (blk_below (g := gb249) (o := .cells #[.int .i64 a0_0, .slice A0_1 l0_1.length c0_1] 25 (0, 0)) (by with_reducible apply_rules [B49.out, bA, bB, bC]) hb); have NB250_251 := aM ((by rw [hg]; exact Nat.ne_of_lt (blk_lt (g := gb250) (o := .cells #[.int .i64 0, .slice none 0 0] 25 (0, 0)) (by with_reducible apply_rules [B50.out, bA, bB, bC])) : gb250 ≠ gb251)); have NB251_250 := aM ((by rw [hg]; exact Nat.ne_of_gt (blk_lt (g := gb250) (o := .cells #[.int .i64 0, .slice none 0 0] 25 (0, 0)) (by with_reducible apply_rules [B50.out, bA, bB, bC])) : gb251 ≠ gb250)); replace B50 := aM (blk_below (g := gb250) (o := .cells #[.int .i64 0, .slice none 0 0] 25 (0, 0)) (by with_reducible apply_rules [B50.out, bA, bB, bC]) hb); clear hb hbox hg; have hnb7 := NB251_249.out; have hnc7 := NB249_251.out; have hnb8 := NB251_250.out; have hnc8 := NB250_251.out; have hcz9_0 : w6.cell? ⟨gb251, 0, none⟩ = some (.int .i64 0) := (bE B51.out 0).trans rfl; have hcz9_1 : w6.cell? ⟨gb251, 1, none⟩ = some (.slice none 0 0) := (bE B51.out 1).trans rfl; have hfz9_0 := bF B51.out 0; have hfz9_1 := bF B51.out 1; have hcz10_0 : w6.cell? ⟨gb249, 0, none⟩ = some (.int .i64 a0_0) := (bE B49.out 0).trans rfl; have hcz10_1 : w6.cell? ⟨gb249, 1, none⟩ = some (.slice A0_1 l0_1.length c0_1) := (bE B49.out 1).trans rfl; have hfz10_0 := bF B49.out 0; have hfz10_1 := bF B49.out 1))
 go_loopg [4] k (fun kq v4 w' => ∃ (x4_1 : Int) (x252001_1 : List (S67)) (u252001 : Value), v4 = .int .i64 x4_1 ∧ Aside0 (commodatumref12_Inverse.l0 kq x4_1 a0_0 l0_1 a0_0 x252001_1 = some (r1, r2)) ∧ Aside0 (kq ≤ k) ∧ Aside0 (Kd.R k67 67 w' w.heap.size (fun _ => True) u252001 x252001_1) ∧ Aside0 (w'.heap[gb249]? = some (.cells #[.int .i64 a0_0, (.slice A0_1 l0_1.length c0_1)] 25 (0, 0))) ∧ Aside0 (w'.heap[gb250]? = some (.cells #[.int .i64 0, (.slice none 0 0)] 25 (0, 0))) ∧ Aside0 (w'.heap[gb251]? = some (.cells #[.int .i64 a0_0, u252001] 25 (0, 0))) ∧ Aside0 (Below w.heap.size w w'))
 case atStart => exact ⟨(wrap64 ((l0_1.length : Int) - 1)), (([] : List (S67))), (.slice none 0 0), (by first | rfl | (simp; done) | (simp [*]; done)), H', ⟨Nat.le_refl _⟩, ⟨by first | exact Kd.R_nil _ _ _ _ _ | exact Kd.N_nil _ _ _ _ _ | exact Kd.V_nil _ _ _ _ _ | exact Kd.Q_nil _ _ _ _ _ | exact Kd.S_nil _ _ _ _ _⟩, ⟨by (with_reducible repeat (first | refine bA ?_ _ | refine bB ?_ | refine bC ?_ _)); refine blk_far ?_ NB249_251.out _; (with_reducible repeat (first | refine bA ?_ _ | refine bB ?_ | refine bC ?_ _)); refine blk_far ?_ NB249_251.out _; with_reducible apply_rules [B49.out, bA, bB, bC]⟩, ⟨by (with_reducible repeat (first | refine bA ?_ _ | refine bB ?_ | refine bC ?_ _)); refine blk_far ?_ NB250_251.out _; (with_reducible repeat (first | refine bA ?_ _ | refine bB ?_ | refine bC ?_ _)); refine blk_far ?_ NB250_251.out _; with_reducible apply_rules [B50.out, bA, bB, bC]⟩, ⟨by (with_reducible repeat (first | refine bA ?_ _ | refine bB ?_ | refine bC ?_ _)); refine blk_put (cs := #[.int .i64 a0_0, .slice none 0 0]) ?_ 1 _ rfl; (with_reducible repeat (first | refine bA ?_ _ | refine bB ?_ | refine bC ?_ _)); refine blk_put (cs := #[.int .i64 0, .slice none 0 0]) ?_ 0 _ rfl; with_reducible apply_rules [B51.out, bA, bB, bC]⟩, ⟨by (with_reducible apply_rules [HB.out, pA, pD, pE, sT, GE249.out, GE250.out, GE251.out])⟩⟩
 case round =>
  clear H'
  try clear p2
  try clear c3
  try clear c4
  try clear p6
  try clear c7
  try clear c8
  try clear hcz10_0
  try clear hcz10_1
  try clear hcz5_0
  try clear hcz5_1
  try clear hcz9_0
  try clear hcz9_1
  try clear hfz10_0
  try clear hfz10_1
  try clear hfz5_0
  try clear hfz5_1
  try clear hfz9_0
  try clear hfz9_1
  obtain ⟨x4_1, x252001_1, u252001, rfl, HA, HK1, HO_252001, B49, B50, B51, HB⟩ := hrel
  cases gk with
  | zero => exact absurd HA.out (by simp [commodatumref12_Inverse.l0])
  | succ k1 =>
   have H := HA.out
   clear HA
   simp only [commodatumref12_Inverse.l0] at H
   by_cases c11 : x4_1 ≥ 0
   ·rw [if_pos c11] at H
    have c11b0 : decide (0 ≤ x4_1) = true := decide_eq_true c11
    clear c11
    by_cases c12 : 0 ≤ x4_1
    ·rw [if_pos c12] at H
     have c12b0 : decide (0 ≤ x4_1) = true := decide_eq_true c12
     clear c12
     by_cases c13 : x4_1 < (l0_1.length : Int)
     ·rw [if_pos c13] at H
      have c13b0 : decide (x4_1 < (l0_1.length : Int)) = true := decide_eq_true c13
      clear c13
      by_cases c14 : x252001_1.length < 4398046511104
      ·rw [if_pos c14] at H
       have LMc14 := aM c14
       clear c14
       obtain ⟨y253, hy253⟩ : ∃ y_ : List (S67), y_ = (x252001_1 ++ [(⟨(rd_T67 l0_1 x4_1).f0, (rd_T67 l0_1 x4_1).f1, (rd_T67 l0_1 x4_1).f2, (rd_T67 l0_1 x4_1).f3⟩ : S67)]) := ⟨_, rfl⟩
       replace H : (commodatumref12_Inverse.l0 k1 (wrap64 (x4_1 - 1)) a0_0 l0_1 a0_0 y253) = some (r1, r2) := by first | (rw [hy253]; with_reducible exact H) | (have H2_ := (Option.bind_some _ _).symm.trans H; rw [hy253]; with_reducible exact H2_) | (have H2_ := (Option.bind_some _ _).symm.trans H; with_reducible exact H2_) | with_reducible exact H | (rw [hy253]; exact H) | exact H
       have Ny253 := aM hy253
       clear hy253
       have H' := aM H
       clear H
       try go_wp2
       replace HO_252001 := aM (Kd.R_drew HO_252001.out)
       replace B49 := aM (bB B49.out)
       replace B50 := aM (bB B50.out)
       replace B51 := aM (bB B51.out)
       replace HB := aM (pE HB.out)
       have p252 : 0 ≤ (x4_1 : Int) := of_decide_eq_true (by assumption)
       have q252 : x4_1 < (l0_1.length : Int) := of_decide_eq_true (by assumption)
       obtain ⟨ad252, e252, hx252_0, hx252_1, hx252_2, hx252_3⟩ := at_T67 HR0_1.out x4_1 p252 q252
       have hw252_3 := hx252_3
       have hw252_2 := hx252_2
       have hw252_1 := hx252_1
       have hw252_0 := hx252_0
       cases e252
       replace hx252_0 := (HB.out.cell (World.block_lt_of_cell? w _ hx252_0)).trans hx252_0
       replace hx252_1 := (HB.out.cell (World.block_lt_of_cell? w _ hx252_1)).trans hx252_1
       replace hx252_2 := (HB.out.cell (World.block_lt_of_cell? w _ hx252_2)).trans hx252_2
       replace hx252_3 := (HB.out.cell (World.block_lt_of_cell? w _ hx252_3)).trans hx252_3
       replace p252 := eq_true p252
       replace q252 := eq_true q252
       refine start_ (n := 11) (S := fun w' => w'.cell? ⟨gb251, 0, none⟩ = some (.int .i64 a0_0) ∧ w'.cell? ⟨gb251, 1, none⟩ = some (u252001) ∧ w'.cell? ⟨gb249, 0, none⟩ = some (.int .i64 a0_0) ∧ w'.cell? ⟨gb249, 1, none⟩ = some (.slice (some ad252) l0_1.length c0_1) ∧ w'.cell? (ad252.add ((x4_1).toNat * 4)) = some (.int .i64 ((rd_T67 l0_1 x4_1).f0)) ∧ w'.cell? ⟨(ad252.add ((x4_1).toNat * 4)).block, (ad252.add ((x4_1).toNat * 4)).off + 1, none⟩ = some (.int .i64 ((rd_T67 l0_1 x4_1).f1)) ∧ w'.cell? ⟨(ad252.add ((x4_1).toNat * 4)).block, (ad252.add ((x4_1).toNat * 4)).off + 2, none⟩ = some (.int .i64 ((rd_T67 l0_1 x4_1).f2)) ∧ w'.cell? ⟨(ad252.add ((x4_1).toNat * 4)).block, (ad252.add ((x4_1).toNat * 4)).off + 3, none⟩ = some (.int .i64 ((rd_T67 l0_1 x4_1).f3))) (ds := [10]) z0a1 (by kernel_rfl) rfl rfl ⟨(bE B51.out 0).trans rfl, (bE B51.out 1).trans rfl, (bE B49.out 0).trans rfl, (bE B49.out 1).trans rfl, ((HB.out.cell (World.block_lt_of_cell? w _ hw252_0)).trans hw252_0), ((HB.out.cell (World.block_lt_of_cell? w _ hw252_1)).trans hw252_1), ((HB.out.cell (World.block_lt_of_cell? w _ hw252_2)).trans hw252_2), ((HB.out.cell (World.block_lt_of_cell? w _ hw252_3)).trans hw252_3)⟩ (fun hHeld => ?_); refine with_tabW commodatumref12_Inverse.tab5 commodatumref12_Inverse.bits5 (fun HT_ HW_ => ?_)
       generalize wr.drew = w15 at HO_252001 B49 B50 B51 HB hx252_0 hx252_1 hx252_2 hx252_3 hHeld ⊢
       refine pure_ (i := 0) (N := some 16) (v := ?_) (a' := ?_) z1a1 rfl rfl (any_of HT_.out (by kernel_rfl)) (fun _ _ _ h => h) (Or.inl ⟨by rfl, ?_⟩) ?_ ?_; rotate_left; (intro w'; go_simp; with_reducible rfl); rotate_left; (simp only [Act.put, pSa1, i64_w]; rfl)
       refine pure_ (i := 2) (N := some 18) (v := ?_) (a' := ?_) z12a1 rfl rfl (any_of HT_.out (by kernel_rfl)) (fun _ _ _ h => h) (Or.inl ⟨by rfl, ?_⟩) ?_ ?_; rotate_left; (intro w'; go_simp; with_reducible rfl); rotate_left; (simp only [Act.put, pSa1, i64_w]; rfl)
       refine pure_ (i := 4) (N := some 20) (v := ?_) (a' := ?_) z13a1 rfl rfl (any_of HT_.out (by kernel_rfl)) (fun _ _ _ h => h) (Or.inl ⟨by rfl, ?_⟩) ?_ ?_; rotate_left; (intro w'; go_simp; with_reducible rfl); rotate_left; (simp only [Act.put, pSa1, i64_w]; rfl)
       refine take_ (i := 1) (N := some 17) (v := ?_) (a' := ?_) z14a1 rfl rfl (take_ofW HT_.out HW_.out (by kernel_rfl)) (fun _ _ _ h => h) (Or.inl ⟨by rfl, ?_⟩) hHeld ?_ ?_; rotate_left; (rintro w' ⟨s0, s1, s2, s3, s4, s5, s6, s7⟩; go_simp; with_reducible rfl); rotate_left; (simp only [Act.put, pSa1, i64_w]; rfl)
       refine take_ (i := 3) (N := some 19) (v := ?_) (a' := ?_) z5a1 rfl rfl (take_ofW HT_.out HW_.out (by kernel_rfl)) (fun _ _ _ h => h) (Or.inl ⟨by rfl, ?_⟩) hHeld ?_ ?_; rotate_left; (rintro w' ⟨s0, s1, s2, s3, s4, s5, s6, s7⟩; go_simp; with_reducible rfl); rotate_left; (simp only [Act.put, pSa1, i64_w]; rfl)
       refine pure_ (i := 5) (N := some 21) (v := ?_) (a' := ?_) z6a1 rfl rfl (any_of HT_.out (by kernel_rfl)) (fun _ _ _ h => h) (Or.inl ⟨by rfl, ?_⟩) ?_ ?_; rotate_left; (intro w'; go_simp; with_reducible rfl); rotate_left; (simp only [Act.put, pSa1, i64_w]; rfl)
       refine take_ (i := 6) (N := some 22) (v := ?_) (a' := ?_) z7a1 rfl rfl (take_ofW HT_.out HW_.out (by kernel_rfl)) (fun _ _ _ h => h) (Or.inl ⟨by rfl, ?_⟩) hHeld ?_ ?_; rotate_left; (rintro w' ⟨s0, s1, s2, s3, s4, s5, s6, s7⟩; go_simp; with_reducible rfl); rotate_left; (simp only [Act.put, pSa1, i64_w]; rfl)
       refine one_ (i := 7) (N := some 23) z8a1 rfl rfl (one_of HT_.out (by kernel_rfl)) (by decide) (fun K hK => ?_)
       refine value_ (w1 := ?_) (v := ?_) (by rfl) rfl ?_ ?_
       rotate_left 2
       ·go_simp
        constructor
        ·rfl
        ·rfl
       refine hK.out _ _ ⟨(bE (bC B51.out _) 0).trans rfl, (bE (bC B51.out _) 1).trans rfl, (bE (bC B49.out _) 0).trans rfl, (bE (bC B49.out _) 1).trans rfl, (World.cell?_alloc_lt _ _ _ (World.block_lt_of_cell? _ _ (((HB.out.cell (World.block_lt_of_cell? w _ hw252_0)).trans hw252_0)))).trans (((HB.out.cell (World.block_lt_of_cell? w _ hw252_0)).trans hw252_0)), (World.cell?_alloc_lt _ _ _ (World.block_lt_of_cell? _ _ (((HB.out.cell (World.block_lt_of_cell? w _ hw252_1)).trans hw252_1)))).trans (((HB.out.cell (World.block_lt_of_cell? w _ hw252_1)).trans hw252_1)), (World.cell?_alloc_lt _ _ _ (World.block_lt_of_cell? _ _ (((HB.out.cell (World.block_lt_of_cell? w _ hw252_2)).trans hw252_2)))).trans (((HB.out.cell (World.block_lt_of_cell? w _ hw252_2)).trans hw252_2)), (World.cell?_alloc_lt _ _ _ (World.block_lt_of_cell? _ _ (((HB.out.cell (World.block_lt_of_cell? w _ hw252_3)).trans hw252_3)))).trans (((HB.out.cell (World.block_lt_of_cell? w _ hw252_3)).trans hw252_3))⟩ (fun hHeld => ?_)
       clear hK K
       refine norm_ (a' := ?_) ?_ ?_
       rotate_left
       ·show Act.put _ (some 23) _ = _
        simp only [Act.put, pSa1, i64_w]
        rfl
       refine one_ (i := 8) (N := some 24) z9a1 rfl rfl (one_of HT_.out (by kernel_rfl)) (by decide) (fun K hK => ?_)
       refine Kd.R_append_step k67 (w0 := w) w.heap.size (by rfl) (.tmp 17) (.tmp 23) 23 67 (.agg #[(.int .i64 0), (.int .i64 0), (.int .i64 0), (.int .i64 0)]) 32 rfl Tryd.underlying23 info67 rfl (by decide) (by omega) u252001 x252001_1 (⟨(rd_T67 l0_1 x4_1).f0, (rd_T67 l0_1 x4_1).f1, (rd_T67 l0_1 x4_1).f2, (rd_T67 l0_1 x4_1).f3⟩ : S67) [.int .i64 ((rd_T67 l0_1 x4_1).f0), .int .i64 ((rd_T67 l0_1 x4_1).f1), .int .i64 ((rd_T67 l0_1 x4_1).f2), .int .i64 ((rd_T67 l0_1 x4_1).f3)] (fun _ => True) (fun _ => False) rfl rfl ?aP (fun _ hk => hk.elim) ?aF ?aO ?aB ?aS ?aL ?_
       (case aP => exact k67_mkM _ _ _ (⟨(rd_T67 l0_1 x4_1).f0, (rd_T67 l0_1 x4_1).f1, (rd_T67 l0_1 x4_1).f2, (rd_T67 l0_1 x4_1).f3⟩ : S67))
       (case aB => exact (by (with_reducible apply_rules [HB.out, pA, pD, pE, sT, GE249.out, GE250.out, GE251.out])))
       (case aF => exact (fun _ _ => trivial))
       (case aO => exact (by with_reducible apply_rules [HO_252001.out, Kd.R_alloc, Kd.R_drewN, Kd.R_drew]))
       (case aS => exact (below_size (by (with_reducible apply_rules [HB.out, pA, pD, pE, sT, GE249.out, GE250.out, GE251.out]))))
       (case aL => have := LMc14.out; omega)
       intro v254 w16 ho hb hg hat
       rw [← Ny253.out] at ho
       replace B49 := aM (blk_grown (g := gb249) (o := .cells #[.int .i64 a0_0, .slice (some ad252) l0_1.length c0_1] 25 (0, 0)) (by with_reducible apply_rules [B49.out, bA, bB, bC]) hg (Kd.R_ne HO_252001.out B49.out (by decide)))
       replace B50 := aM (blk_grown (g := gb250) (o := .cells #[.int .i64 0, .slice none 0 0] 25 (0, 0)) (by with_reducible apply_rules [B50.out, bA, bB, bC]) hg (Kd.R_ne HO_252001.out B50.out (by decide)))
       replace B51 := aM (blk_grown (g := gb251) (o := .cells #[.int .i64 a0_0, u252001] 25 (0, 0)) (by with_reducible apply_rules [B51.out, bA, bB, bC]) hg (Kd.R_ne HO_252001.out B51.out (by decide)))
       replace HB := aM (hb)
       have HO255 := aM (ho)
       clear HO_252001
       clear ho hb hg hat
       obtain ⟨Ao17, co17, eo17⟩ := Kd.R_slice HO255.out
       (first | subst eo17 | (injection eo17 with f1_ f2_ f3_; have f4_ := f1_.symm; have f5_ := f3_.symm; clear f1_ f2_ f3_; subst f4_; subst f5_))
       refine hK.out _ _ ⟨(bE B51.out 0).trans rfl, (bE B51.out 1).trans rfl, (bE B49.out 0).trans rfl, (bE B49.out 1).trans rfl, ((HB.out.cell (World.block_lt_of_cell? w _ hw252_0)).trans hw252_0), ((HB.out.cell (World.block_lt_of_cell? w _ hw252_1)).trans hw252_1), ((HB.out.cell (World.block_lt_of_cell? w _ hw252_2)).trans hw252_2), ((HB.out.cell (World.block_lt_of_cell? w _ hw252_3)).trans hw252_3)⟩ (fun hHeld => ?_)
       clear hK K
       refine norm_ (a' := ?_) ?_ ?_
       rotate_left
       ·show Act.put _ (some 24) _ = _
        simp only [Act.put, pSa1, i64_w]
        rfl
       refine pure_ (i := 9) (N := some 25) (v := ?_) (a' := ?_) z10a1 rfl rfl (any_of HT_.out (by kernel_rfl)) (fun _ _ _ h => h) (Or.inl ⟨by rfl, ?_⟩) ?_ ?_; rotate_left; (intro w'; go_simp; with_reducible rfl); rotate_left; (simp only [Act.put, pSa1, i64_w]; rfl)
       refine last_ (i := 10) (N := none) z11a1 rfl rfl (one_of HT_.out (by kernel_rfl)) (by decide) (fun K hK => ?_)
       have hs18 : w16.cell? ⟨gb251, 1, none⟩ = some (u252001) := (bE B51.out 1).trans rfl
       have hfs18 := bF B51.out 1
       have hns18_0 := NB249_251.out
       have hns18_1 := NB250_251.out
       have hms18_0 := NB251_249.out
       have hms18_1 := NB251_250.out
       refine skip_ (w1 := ?_) (by rfl) rfl ?_ ?_
       rotate_left
       ·go_simp
        rfl
       refine hK.out _ _ ?_
       clear hK K
       refine done_ (done_of HT_.out (by kernel_rfl)) ?_
       try go_wp2
       go_roundg k1
       case measure => have := HK1.out; omega
       case rel => exact ⟨(wrap64 (x4_1 - 1)), (y253), (.slice Ao17 y253.length co17), (by first | rfl | (simp; done) | (simp [*]; done)), H', ⟨by have := HK1.out; omega⟩, ⟨by (with_reducible repeat (first | apply Kd.R_alloc | apply Kd.R_drewN | apply Kd.R_drew)); exact Kd.R_mono (Kd.R_far (p := ⟨gb251, 1, none⟩) (Kd.R_types HO255.out B51.out (by decide)) (fun _ hk => hk.2) (.slice Ao17 y253.length co17)) (fun _ hk => trivial)⟩, ⟨by (with_reducible repeat (first | refine bA ?_ _ | refine bB ?_ | refine bC ?_ _)); refine blk_far ?_ NB249_251.out _; with_reducible apply_rules [B49.out, bA, bB, bC]⟩, ⟨by (with_reducible repeat (first | refine bA ?_ _ | refine bB ?_ | refine bC ?_ _)); refine blk_far ?_ NB250_251.out _; with_reducible apply_rules [B50.out, bA, bB, bC]⟩, ⟨by (with_reducible repeat (first | refine bA ?_ _ | refine bB ?_ | refine bC ?_ _)); refine blk_put (cs := #[.int .i64 a0_0, u252001]) ?_ 1 _ rfl; with_reducible apply_rules [B51.out, bA, bB, bC]⟩, ⟨by (with_reducible apply_rules [HB.out, pA, pD, pE, sT, GE249.out, GE250.out, GE251.out])⟩⟩
      ·rw [if_neg c14] at H
       exact absurd H (by simp)
     ·rw [if_neg c13] at H
      exact absurd H (by simp)
    ·rw [if_neg c12] at H
     exact absurd H (by simp)
   ·rw [if_neg c11] at H
    have c11b0 : decide (0 ≤ x4_1) = false := decide_eq_false c11
    clear c11
    simp only [Option.some.injEq, Prod.mk.injEq] at H
    obtain ⟨rfl, rfl⟩ := H
    have hnb19 := NB251_249.out
    have hnc19 := NB249_251.out
    have hnb20 := NB251_250.out
    have hnc20 := NB250_251.out
    have hcz21_0 : wr.cell? ⟨gb251, 0, none⟩ = some (.int .i64 a0_0) := (bE B51.out 0).trans rfl
    have hcz21_1 : wr.cell? ⟨gb251, 1, none⟩ = some (u252001) := (bE B51.out 1).trans rfl
    have hfz21_0 := bF B51.out 0
    have hfz21_1 := bF B51.out 1
    have hnb22 := NB250_249.out
    have hnc22 := NB249_250.out
    have hcz23_0 : wr.cell? ⟨gb250, 0, none⟩ = some (.int .i64 0) := (bE B50.out 0).trans rfl
    have hcz23_1 : wr.cell? ⟨gb250, 1, none⟩ = some (.slice none 0 0) := (bE B50.out 1).trans rfl
    have hfz23_0 := bF B50.out 0
    have hfz23_1 := bF B50.out 1
    obtain ⟨Ao24, co24, eo24⟩ := Kd.R_slice HO_252001.out
    subst eo24
    go_wp2
    refine bodyPost_ret (results_cell_row rfl _ _ gb250 25 #[.int .i64 a0_0, .slice Ao24 x252001_1.length co24] (0, 0) _ rfl (by (with_reducible repeat (first | refine bA ?_ _ | refine bB ?_ | refine bC ?_ _)); refine blk_put (cs := #[.int .i64 a0_0, .slice none 0 0]) ?_ 1 _ rfl; (with_reducible repeat (first | refine bA ?_ _ | refine bB ?_ | refine bC ?_ _)); refine blk_put (cs := #[.int .i64 0, .slice none 0 0]) ?_ 0 _ rfl; with_reducible apply_rules [B50.out, bA, bB, bC]) Tryd.underlying25 rfl (by kernel_rfl)) rfl ?_
    exact ⟨_, by first | rfl | (simp [errW_none, errW_some] <;> rfl) | (simp [*, errW_none, errW_some] <;> rfl), by (with_reducible repeat (first | apply Kd.R_alloc | apply Kd.R_drewN | apply Kd.R_drew)); exact Kd.R_mono (Kd.R_far (p := ⟨gb250, 1, none⟩) (Kd.R_far (p := ⟨gb250, 0, none⟩) (Kd.R_types HO_252001.out B50.out (by decide)) (fun _ hk => hk.2) (.int .i64 a0_0)) (fun _ hk => hk.2) (.slice Ao24 x252001_1.length co24)) (fun _ hk => trivial), by (with_reducible apply_rules [HB.out, pA, pD, pE, sT, GE249.out, GE250.out, GE251.out])⟩

end Go.Proofs.YthfhnkpipdbekaaDoor.Ta
