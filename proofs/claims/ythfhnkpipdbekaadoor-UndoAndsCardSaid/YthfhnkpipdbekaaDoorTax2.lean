-- CUT by a program of this session: what the claim does not use is left out
import Derived.Test.YthfhnkpipdbekaaDoorUax0
import Derived.Test.YthfhnkpipdbekaaDoorProg
import Derived.Below
import Derived.Deep.Draws
import Derived.Deep.AppendLies
import Derived.Maps.AppendAt
import Derived.OwnWalk
import Derived.Laws.BytesArg
import Derived.Laws.MakeOwn
import Derived.Laws.OwnMore
import Derived.Deep.OwnRows
import Derived.Tactics
import Derived.Lib.ConvBytes
import Derived.Laws.Slices
import Derived.WalkKit
import Derived.KernelRfl
import Derived.RowKit3
import Derived.Deep.LoopGhost
import Derived.Deep.QuietTactic
import Derived.BigQuiet
import Derived.WideLaws
import Derived.Deep.DeepCutAuto
import Derived.Deep.CutBlock
import Derived.Deep.RegionHeld3
import Derived.Laws.Rows
import Derived.Lib.AppendStr
import Derived.ArgAppend
import Derived.Laws.IdiomCopy
import Derived.OrdersHeld
import Derived.Laws.BitsLemmas
import Derived.RowKit
import Derived.Test.YthfhnkpipdbekaaDoorN6
import Derived.Test.YthfhnkpipdbekaaDoorWAll
namespace Go.Proofs.YthfhnkpipdbekaaDoor.Ta
open Go.Proofs.YthfhnkpipdbekaaDoor.Ua
open Go.Proofs.YthfhnkpipdbekaaDoor.Giv
open Go.RowKit Go.Proofs.YthfhnkpipdbekaaDoorW.PrintWords Go.Proofs.YthfhnkpipdbekaaDoorW.PrintLast Go.Proofs.YthfhnkpipdbekaaDoorW.PrintMore
attribute [local go_sem] max2_int min2_int max_two min_two max_three min_three max_four min_four   -- for this text's walks alone
set_option linter.unusedVariables false
set_option linter.unusedSimpArgs false


def undo_enumerable.f (a0_0 : Int) (l0_1 : List (S67)) : Option (Int) := (undo_Valid.f a0_0 l0_1).bind fun t102 => (if t102 = true then (if a0_0 > 20 then (some 5) else (if 0 ≤ a0_0 then (if (shl .i64 (wrap64 (1 + (l0_1.length : Int))) a0_0) > 16777216 then (some 5) else (some 0)) else (none))) else (some 1))
open Go.Proofs.YthfhnkpipdbekaaDoorW.PrintWords renaming Kd.R_alloc → rA, Kd.R_drewN → rB, Kd.R_drew → rC, blk_drewN → bA, blk_drew → bB, blk_alloc → bC, below_set → sT, Aside0.mk → aM, pw_below_drewN → pD, below_drew1 → pE, below_alloc → pA, blk_below → bD, Kd.R_below → rD, blk_cell → bE, blk_frozen → bF, below_step → pS_, Kd.C_alloc → cA, Kd.C_drewN → cB, Kd.C_drew → cC, Kd.C_below → cD
set_option maxHeartbeats 8000000 in
set_option maxRecDepth 100000 in
theorem undo_enumerable.calls (a0_0 : Int) (A0_1 : Option Addr) (c0_1 : Nat) (l0_1 : List (S67)) (r : Int) (w : World) (hr0_1 : Kd.C k67 w A0_1 l0_1.length l0_1) (hc0_1 : l0_1.length ≤ c0_1) (h : undo_enumerable.f a0_0 l0_1 = some r) :
  Calls Tryd.prog 58 #[.agg #[.int .i64 a0_0, .slice A0_1 l0_1.length c0_1]] w fun e w' => e = .returned (.int .i64 r) ∧ Below w.heap.size w w' := by
 have hu25 := Tryd.underlying25
 have HR0_1 := aM hr0_1
 have HC0_1 := aM hc0_1
 clear hr0_1 hc0_1
 have HB := aM (Below.refl w.heap.size w)
 have H : ((undo_Valid.f a0_0 l0_1).bind fun t102 => (if t102 = true then (if a0_0 > 20 then (some 5) else (if 0 ≤ a0_0 then (if (shl .i64 (wrap64 (1 + (l0_1.length : Int))) a0_0) > 16777216 then (some 5) else (some 0)) else (none))) else (some 1))) = some r := h
 clear h
 replace H := Option.bind_eq_some_iff.mp H
 obtain ⟨t102, A20, H⟩ := H
 replace H : (if t102 = true then (if a0_0 > 20 then (some 5) else (if 0 ≤ a0_0 then (if (shl .i64 (wrap64 (1 + (l0_1.length : Int))) a0_0) > 16777216 then (some 5) else (some 0)) else (none))) else (some 1)) = some r := H
 have A2 := aM A20
 clear A20
 by_cases c3 : t102 = true
 ·subst c3
  have H1 : (if a0_0 > 20 then (some 5) else (if 0 ≤ a0_0 then (if (shl .i64 (wrap64 (1 + (l0_1.length : Int))) a0_0) > 16777216 then (some 5) else (some 0)) else (none))) = some r := by rw [if_pos rfl] at H; exact H
  clear H
  have H := H1
  clear H1
  by_cases c4 : a0_0 > 20
  ·rw [if_pos c4] at H
   have c4b0 : decide (20 < a0_0) = true := decide_eq_true c4
   clear c4
   obtain rfl := Option.some.inj H
   go_enter Tryd.func58, Tryd.ntmps58
   go_wp2_with (first | ((with_reducible refine gate_dst (N := 1) rfl ?_); (try (refine gate_guard (by rfl) ?_; dsimp only)); refine box_event ?hg (N := 1) ?hd (cs := #[.int .i64 a0_0, .slice A0_1 l0_1.length c0_1]) (t := 25) ?hr ?_; (case hd => rfl); (case hg => rfl); (case hr => first | (go_simp; done) | (go_simp; rfl)); intro gb101 hg w5 hbox hb; have B01 := aM (hbox); have GW101 := aM ((by rw [hg]; exact (below_size (by (with_reducible apply_rules [HB.out, pA, pD, pE]))) : w.heap.size ≤ gb101)); have GE101 := aM ((by rw [hg]; exact (below_size (by (with_reducible apply_rules [HB.out, pA, pD, pE]))) : w.heap.size ≤ gb101)); replace HB := aM (pS_ (by (with_reducible apply_rules [HB.out, pA, pD, pE])) hb); clear hb hbox hg; have hcz6_0 : w5.cell? ⟨gb101, 0, none⟩ = some (.int .i64 a0_0) := (bE B01.out 0).trans rfl; have hcz6_1 : w5.cell? ⟨gb101, 1, none⟩ = some (.slice A0_1 l0_1.length c0_1) := (bE B01.out 1).trans rfl; have hfz6_0 := bF B01.out 0; have hfz6_1 := bF B01.out 1) | ((with_reducible refine gate_callee (f := 28) rfl ?_); refine goesL_ (some 5) rfl rfl Tryd.func28 (by kernel_rfl) rfl #[.agg #[.int .i64 a0_0, .slice A0_1 l0_1.length c0_1]] rfl (by (try simp only [List.map_toArray, List.map_cons, List.map_nil]); first | done | rfl | (simp only [List.length_drop, List.length_take]; rfl)) ?_; (with_reducible refine (undo_Valid.calls a0_0 _ _ l0_1 true _ ?side1 ?side2 A2.out).mono ?_); (case side1 => with_reducible apply_rules [(cD HR0_1.out HB.out), cA, cB, cC]); (case side2 => exact HC0_1.out); rintro e w7 ⟨rfl, hb⟩; refine ⟨_, rfl, ?_⟩; replace B01 := aM (bD (g := gb101) (o := .cells #[.int .i64 a0_0, .slice A0_1 l0_1.length c0_1] 25 (0, 0)) (by with_reducible apply_rules [B01.out, bA, bB, bC]) hb); replace HB := aM (pS_ (by (with_reducible apply_rules [HB.out, pA, pD, pE, sT, GE101.out])) hb); (try clear hb); (try clear hb2); (try clear hk); (try clear hi); have hcz8_0 : w7.cell? ⟨gb101, 0, none⟩ = some (.int .i64 a0_0) := (bE B01.out 0).trans rfl; have hcz8_1 : w7.cell? ⟨gb101, 1, none⟩ = some (.slice A0_1 l0_1.length c0_1) := (bE B01.out 1).trans rfl; have hfz8_0 := bF B01.out 0; have hfz8_1 := bF B01.out 1))
   go_ret
   exact ⟨by first | rfl | (simp [errW_none, errW_some] <;> rfl) | (simp [*, errW_none, errW_some] <;> rfl), by (with_reducible apply_rules [HB.out, pA, pD, pE, sT, GE101.out])⟩
  ·rw [if_neg c4] at H
   have c4b0 : decide (20 < a0_0) = false := decide_eq_false c4
   clear c4
   by_cases c9 : 0 ≤ a0_0
   ·rw [if_pos c9] at H
    have c9b0 := eq_true c9
    have c9b1 : decide (0 ≤ a0_0) = true := decide_eq_true c9
    clear c9
    obtain ⟨ji10, hji10⟩ : ∃ j_ : Int, (shl .i64 (wrap64 (1 + (l0_1.length : Int))) a0_0) = j_ := ⟨_, rfl⟩
    replace H : (if (ji10) > 16777216 then (some 5) else (some 0)) = some r := by first | (rw [hji10] at H; exact H) | (simp only [hji10] at H ⊢; exact H)
    (try rw [hji10] at A2)
    have hji10_ : (IntKind.i64.wrap ((wrap64 (1 + (l0_1.length : Int))) * 2 ^ min a0_0.toNat 64)) = ji10 := hji10
    have hji10z : a0_0 ≤ 64 → (IntKind.i64.wrap ((wrap64 (1 + (l0_1.length : Int))) * 2 ^ a0_0.toNat)) = ji10 := shl_small hji10
    have hji10y : (wrap64 ((wrap64 (1 + (l0_1.length : Int))) * 2 ^ min a0_0.toNat 64)) = ji10 := (i64_w _).symm.trans hji10_
    have hji10x : a0_0 ≤ 64 → (wrap64 ((wrap64 (1 + (l0_1.length : Int))) * 2 ^ a0_0.toNat)) = ji10 := fun h_ => (i64_w _).symm.trans (hji10z h_)
    by_cases c11 : (ji10) > 16777216
    ·rw [if_pos c11] at H
     have c11b0 : decide (16777216 < (ji10)) = true := decide_eq_true c11
     clear c11
     obtain rfl := Option.some.inj H
     go_enter Tryd.func58, Tryd.ntmps58
     go_wp2_with (first | ((with_reducible refine gate_dst (N := 1) rfl ?_); (try (refine gate_guard (by rfl) ?_; dsimp only)); refine box_event ?hg (N := 1) ?hd (cs := #[.int .i64 a0_0, .slice A0_1 l0_1.length c0_1]) (t := 25) ?hr ?_; (case hd => rfl); (case hg => rfl); (case hr => first | (go_simp; done) | (go_simp; rfl)); intro gb101 hg w12 hbox hb; have B01 := aM (hbox); have GW101 := aM ((by rw [hg]; exact (below_size (by (with_reducible apply_rules [HB.out, pA, pD, pE]))) : w.heap.size ≤ gb101)); have GE101 := aM ((by rw [hg]; exact (below_size (by (with_reducible apply_rules [HB.out, pA, pD, pE]))) : w.heap.size ≤ gb101)); replace HB := aM (pS_ (by (with_reducible apply_rules [HB.out, pA, pD, pE])) hb); clear hb hbox hg; have hcz13_0 : w12.cell? ⟨gb101, 0, none⟩ = some (.int .i64 a0_0) := (bE B01.out 0).trans rfl; have hcz13_1 : w12.cell? ⟨gb101, 1, none⟩ = some (.slice A0_1 l0_1.length c0_1) := (bE B01.out 1).trans rfl; have hfz13_0 := bF B01.out 0; have hfz13_1 := bF B01.out 1) | ((with_reducible refine gate_callee (f := 28) rfl ?_); refine goesL_ (some 5) rfl rfl Tryd.func28 (by kernel_rfl) rfl #[.agg #[.int .i64 a0_0, .slice A0_1 l0_1.length c0_1]] rfl (by (try simp only [List.map_toArray, List.map_cons, List.map_nil]); first | done | rfl | (simp only [List.length_drop, List.length_take]; rfl)) ?_; (with_reducible refine (undo_Valid.calls a0_0 _ _ l0_1 true _ ?side1 ?side2 A2.out).mono ?_); (case side1 => with_reducible apply_rules [(cD HR0_1.out HB.out), cA, cB, cC]); (case side2 => exact HC0_1.out); rintro e w14 ⟨rfl, hb⟩; refine ⟨_, rfl, ?_⟩; replace B01 := aM (bD (g := gb101) (o := .cells #[.int .i64 a0_0, .slice A0_1 l0_1.length c0_1] 25 (0, 0)) (by with_reducible apply_rules [B01.out, bA, bB, bC]) hb); replace HB := aM (pS_ (by (with_reducible apply_rules [HB.out, pA, pD, pE, sT, GE101.out])) hb); (try clear hb); (try clear hb2); (try clear hk); (try clear hi); have hcz15_0 : w14.cell? ⟨gb101, 0, none⟩ = some (.int .i64 a0_0) := (bE B01.out 0).trans rfl; have hcz15_1 : w14.cell? ⟨gb101, 1, none⟩ = some (.slice A0_1 l0_1.length c0_1) := (bE B01.out 1).trans rfl; have hfz15_0 := bF B01.out 0; have hfz15_1 := bF B01.out 1))
     go_ret
     exact ⟨by first | rfl | (simp [errW_none, errW_some] <;> rfl) | (simp only [← hji10]; first | rfl | (simp [errW_none, errW_some] <;> rfl)) | (simp [*, errW_none, errW_some] <;> rfl), by (with_reducible apply_rules [HB.out, pA, pD, pE, sT, GE101.out])⟩
    ·rw [if_neg c11] at H
     have c11b0 : decide (16777216 < (ji10)) = false := decide_eq_false c11
     clear c11
     obtain rfl := Option.some.inj H
     go_enter Tryd.func58, Tryd.ntmps58
     go_wp2_with (first | ((with_reducible refine gate_dst (N := 1) rfl ?_); (try (refine gate_guard (by rfl) ?_; dsimp only)); refine box_event ?hg (N := 1) ?hd (cs := #[.int .i64 a0_0, .slice A0_1 l0_1.length c0_1]) (t := 25) ?hr ?_; (case hd => rfl); (case hg => rfl); (case hr => first | (go_simp; done) | (go_simp; rfl)); intro gb101 hg w16 hbox hb; have B01 := aM (hbox); have GW101 := aM ((by rw [hg]; exact (below_size (by (with_reducible apply_rules [HB.out, pA, pD, pE]))) : w.heap.size ≤ gb101)); have GE101 := aM ((by rw [hg]; exact (below_size (by (with_reducible apply_rules [HB.out, pA, pD, pE]))) : w.heap.size ≤ gb101)); replace HB := aM (pS_ (by (with_reducible apply_rules [HB.out, pA, pD, pE])) hb); clear hb hbox hg; have hcz17_0 : w16.cell? ⟨gb101, 0, none⟩ = some (.int .i64 a0_0) := (bE B01.out 0).trans rfl; have hcz17_1 : w16.cell? ⟨gb101, 1, none⟩ = some (.slice A0_1 l0_1.length c0_1) := (bE B01.out 1).trans rfl; have hfz17_0 := bF B01.out 0; have hfz17_1 := bF B01.out 1) | ((with_reducible refine gate_callee (f := 28) rfl ?_); refine goesL_ (some 5) rfl rfl Tryd.func28 (by kernel_rfl) rfl #[.agg #[.int .i64 a0_0, .slice A0_1 l0_1.length c0_1]] rfl (by (try simp only [List.map_toArray, List.map_cons, List.map_nil]); first | done | rfl | (simp only [List.length_drop, List.length_take]; rfl)) ?_; (with_reducible refine (undo_Valid.calls a0_0 _ _ l0_1 true _ ?side1 ?side2 A2.out).mono ?_); (case side1 => with_reducible apply_rules [(cD HR0_1.out HB.out), cA, cB, cC]); (case side2 => exact HC0_1.out); rintro e w18 ⟨rfl, hb⟩; refine ⟨_, rfl, ?_⟩; replace B01 := aM (bD (g := gb101) (o := .cells #[.int .i64 a0_0, .slice A0_1 l0_1.length c0_1] 25 (0, 0)) (by with_reducible apply_rules [B01.out, bA, bB, bC]) hb); replace HB := aM (pS_ (by (with_reducible apply_rules [HB.out, pA, pD, pE, sT, GE101.out])) hb); (try clear hb); (try clear hb2); (try clear hk); (try clear hi); have hcz19_0 : w18.cell? ⟨gb101, 0, none⟩ = some (.int .i64 a0_0) := (bE B01.out 0).trans rfl; have hcz19_1 : w18.cell? ⟨gb101, 1, none⟩ = some (.slice A0_1 l0_1.length c0_1) := (bE B01.out 1).trans rfl; have hfz19_0 := bF B01.out 0; have hfz19_1 := bF B01.out 1))
     go_ret
     exact ⟨by first | rfl | (simp [errW_none, errW_some] <;> rfl) | (simp only [← hji10]; first | rfl | (simp [errW_none, errW_some] <;> rfl)) | (simp [*, errW_none, errW_some] <;> rfl), by (with_reducible apply_rules [HB.out, pA, pD, pE, sT, GE101.out])⟩
   ·rw [if_neg c9] at H
    exact absurd H (by simp)
 ·replace c3 := Bool.eq_false_iff.mpr c3
  subst c3
  have H1 : (some 1) = some r := by rw [if_neg (show ¬ (false = true) by decide)] at H; exact H
  clear H
  have H := H1
  clear H1
  obtain rfl := Option.some.inj H
  go_enter Tryd.func58, Tryd.ntmps58
  go_wp2_with (first | ((with_reducible refine gate_dst (N := 1) rfl ?_); (try (refine gate_guard (by rfl) ?_; dsimp only)); refine box_event ?hg (N := 1) ?hd (cs := #[.int .i64 a0_0, .slice A0_1 l0_1.length c0_1]) (t := 25) ?hr ?_; (case hd => rfl); (case hg => rfl); (case hr => first | (go_simp; done) | (go_simp; rfl)); intro gb101 hg w20 hbox hb; have B01 := aM (hbox); have GW101 := aM ((by rw [hg]; exact (below_size (by (with_reducible apply_rules [HB.out, pA, pD, pE]))) : w.heap.size ≤ gb101)); have GE101 := aM ((by rw [hg]; exact (below_size (by (with_reducible apply_rules [HB.out, pA, pD, pE]))) : w.heap.size ≤ gb101)); replace HB := aM (pS_ (by (with_reducible apply_rules [HB.out, pA, pD, pE])) hb); clear hb hbox hg; have hcz21_0 : w20.cell? ⟨gb101, 0, none⟩ = some (.int .i64 a0_0) := (bE B01.out 0).trans rfl; have hcz21_1 : w20.cell? ⟨gb101, 1, none⟩ = some (.slice A0_1 l0_1.length c0_1) := (bE B01.out 1).trans rfl; have hfz21_0 := bF B01.out 0; have hfz21_1 := bF B01.out 1) | ((with_reducible refine gate_callee (f := 28) rfl ?_); refine goesL_ (some 5) rfl rfl Tryd.func28 (by kernel_rfl) rfl #[.agg #[.int .i64 a0_0, .slice A0_1 l0_1.length c0_1]] rfl (by (try simp only [List.map_toArray, List.map_cons, List.map_nil]); first | done | rfl | (simp only [List.length_drop, List.length_take]; rfl)) ?_; (with_reducible refine (undo_Valid.calls a0_0 _ _ l0_1 false _ ?side1 ?side2 A2.out).mono ?_); (case side1 => with_reducible apply_rules [(cD HR0_1.out HB.out), cA, cB, cC]); (case side2 => exact HC0_1.out); rintro e w22 ⟨rfl, hb⟩; refine ⟨_, rfl, ?_⟩; replace B01 := aM (bD (g := gb101) (o := .cells #[.int .i64 a0_0, .slice A0_1 l0_1.length c0_1] 25 (0, 0)) (by with_reducible apply_rules [B01.out, bA, bB, bC]) hb); replace HB := aM (pS_ (by (with_reducible apply_rules [HB.out, pA, pD, pE, sT, GE101.out])) hb); (try clear hb); (try clear hb2); (try clear hk); (try clear hi)))
  go_ret
  exact ⟨by first | rfl | (simp [errW_none, errW_some] <;> rfl) | (simp [*, errW_none, errW_some] <;> rfl), by (with_reducible apply_rules [HB.out, pA, pD, pE, sT, GE101.out])⟩

def undo_final.l0 : Nat → Int → List (S67) → Int → Int → Option (Int)
 | 0, _, _, _, _ => none
 | k + 1, x1, x8, x9, x10 => if x10 < x9 then (if 0 ≤ x10 then (if x10 < (x8.length : Int) then (if ((rd_T67 x8 x10).f0) = 0 then (if 0 ≤ ((rd_T67 x8 x10).f1) then (undo_final.l0 k (Go.bits .xor .i64 x1 (shl .i64 1 ((rd_T67 x8 x10).f1))) x8 x9 (wrap64 (x10 + 1))) else (none)) else (if ((rd_T67 x8 x10).f0) = 1 then (if 0 ≤ ((rd_T67 x8 x10).f2) then (if 0 ≤ ((rd_T67 x8 x10).f1) then (undo_final.l0 k (Go.bits .xor .i64 x1 (shl .i64 (Go.bits .and .i64 (shr .i64 x1 ((rd_T67 x8 x10).f2)) 1) ((rd_T67 x8 x10).f1))) x8 x9 (wrap64 (x10 + 1))) else (none)) else (none)) else (if ((rd_T67 x8 x10).f0) = 2 then (if 0 ≤ ((rd_T67 x8 x10).f2) then (if 0 ≤ ((rd_T67 x8 x10).f3) then (if 0 ≤ ((rd_T67 x8 x10).f1) then (undo_final.l0 k (Go.bits .xor .i64 x1 (shl .i64 (Go.bits .and .i64 (Go.bits .and .i64 (shr .i64 x1 ((rd_T67 x8 x10).f2)) (shr .i64 x1 ((rd_T67 x8 x10).f3))) 1) ((rd_T67 x8 x10).f1))) x8 x9 (wrap64 (x10 + 1))) else (none)) else (none)) else (none)) else (if 0 ≤ ((rd_T67 x8 x10).f1) then (if 0 ≤ ((rd_T67 x8 x10).f2) then (undo_final.l0 k (Go.bits .xor .i64 x1 (Go.bits .or .i64 (shl .i64 (Go.bits .and .i64 (Go.bits .xor .i64 (shr .i64 x1 ((rd_T67 x8 x10).f1)) (shr .i64 x1 ((rd_T67 x8 x10).f2))) 1) ((rd_T67 x8 x10).f1)) (shl .i64 (Go.bits .and .i64 (Go.bits .xor .i64 (shr .i64 x1 ((rd_T67 x8 x10).f1)) (shr .i64 x1 ((rd_T67 x8 x10).f2))) 1) ((rd_T67 x8 x10).f2)))) x8 x9 (wrap64 (x10 + 1))) else (none)) else (none))))) else (none)) else (none)) else (some x1)
def undo_final.f (k : Nat) (l0 : List (S67)) (a1 : Int) : Option (Int) := undo_final.l0 k a1 l0 (l0.length : Int) 0
theorem undo_final.mono_l : ∀ k, (∀ y0 y1 y2 y3, LeO (undo_final.l0 k y0 y1 y2 y3) (undo_final.l0 (k + 1) y0 y1 y2 y3))
 | 0 => fun _ _ _ _ r h => by simp [undo_final.l0] at h
 | k + 1 => by
  have ih0 := undo_final.mono_l k
  ·intro y0 y1 y2 y3
   unfold undo_final.l0
   repeat' first
   | (with_reducible exact ih0 _ _ _ _)
   | (with_reducible exact LeO.refl _)
   | (with_reducible exact LeO.none _)
   | (with_reducible refine LeO.ite ?_ ?_)
   | (with_reducible refine LeO.bind ?_ (fun _ => ?_))
   | exact ih0 _ _ _ _
   | exact LeO.none _
   | refine LeO.ite ?_ ?_
   | refine LeO.bind ?_ (fun _ => ?_)
theorem undo_final.mono : ∀ a0 a1 k, LeO (undo_final.f k a0 a1) (undo_final.f (k + 1) a0 a1) := by
 intro a0 a1 k
 have ih0 := undo_final.mono_l k
 unfold undo_final.f
 repeat' first
   | (with_reducible exact ih0 _ _ _ _)
   | (with_reducible exact LeO.refl _)
   | (with_reducible exact LeO.none _)
   | (with_reducible refine LeO.ite ?_ ?_)
   | (with_reducible refine LeO.bind ?_ (fun _ => ?_))
   | exact ih0 _ _ _ _
   | exact LeO.none _
   | refine LeO.ite ?_ ?_
   | refine LeO.bind ?_ (fun _ => ?_)
set_option maxHeartbeats 8000000 in
set_option maxRecDepth 100000 in
theorem undo_final.calls (k : Nat) (A0 : Option Addr) (c0 : Nat) (l0 : List (S67)) (a1 : Int) (r : Int) (w : World) (hr0 : Kd.C k67 w A0 l0.length l0) (hc0 : l0.length ≤ c0) (h : undo_final.f k l0 a1 = some r) :
  Calls Tryd.prog 59 #[.slice A0 l0.length c0, .int .i64 a1] w fun e w' => e = .returned (.int .i64 r) ∧ Below w.heap.size w w' := by
 have hu67 := Tryd.underlying67
 have HR0 := aM hr0
 have HC0 := aM hc0
 clear hr0 hc0
 have HB := aM (Below.refl w.heap.size w)
 have H : (undo_final.l0 k a1 l0 (l0.length : Int) 0) = some r := h
 clear h
 have H' := aM H
 clear H
 go_enter Tryd.func59, Tryd.ntmps59
 go_wp2
 repeat (go_quiet (fail); try go_wp2)
 go_loopg [1, 10] k (fun kq v1 v10 w' => ∃ (x1_1 : Int) (x10_1 : Int), v1 = .int .i64 x1_1 ∧ v10 = .int .i64 x10_1 ∧ Aside0 (undo_final.l0 kq x1_1 l0 (l0.length : Int) x10_1 = some r) ∧ Aside0 (kq ≤ k) ∧ Aside0 (Below w.heap.size w w'))
 case atStart => exact ⟨(a1), (0), (by first | rfl | (simp; done) | (simp [*]; done)), (by first | rfl | (simp; done) | (simp [*]; done)), H', ⟨Nat.le_refl _⟩, ⟨by (with_reducible apply_rules [HB.out, pA, pD, pE])⟩⟩
 case round =>
  clear H'
  try clear p2
  obtain ⟨x1_1, x10_1, rfl, rfl, HA, HK1, HB⟩ := hrel
  cases gk with
  | zero => exact absurd HA.out (by simp [undo_final.l0])
  | succ k1 =>
   have H := HA.out
   clear HA
   simp only [undo_final.l0] at H
   by_cases c3 : x10_1 < (l0.length : Int)
   ·rw [if_pos c3] at H
    have c3b0 : decide (x10_1 < (l0.length : Int)) = true := decide_eq_true c3
    clear c3
    by_cases c4 : 0 ≤ x10_1
    ·rw [if_pos c4] at H
     have c4b0 : decide (0 ≤ x10_1) = true := decide_eq_true c4
     clear c4
     by_cases c5 : x10_1 < (l0.length : Int)
     ·rw [if_pos c5] at H
      have c5b0 : decide (x10_1 < (l0.length : Int)) = true := decide_eq_true c5
      clear c5
      by_cases c6 : ((rd_T67 l0 x10_1).f0) = 0
      ·rw [if_pos c6] at H
       have c6b0 : (((rd_T67 l0 x10_1).f0) == 0) = true := beq_iff_eq.mpr c6
       have c6b1 : (((rd_T67 l0 x10_1).f0) != 0) = false := bne_eq_false_iff_eq.mpr c6
       clear c6
       by_cases c7 : 0 ≤ ((rd_T67 l0 x10_1).f1)
       ·rw [if_pos c7] at H
        have c7b0 := eq_true c7
        have c7b1 : decide (0 ≤ ((rd_T67 l0 x10_1).f1)) = true := decide_eq_true c7
        clear c7
        obtain ⟨ji8, hji8⟩ : ∃ j_ : Int, (shl .i64 1 ((rd_T67 l0 x10_1).f1)) = j_ := ⟨_, rfl⟩
        replace H : (undo_final.l0 k1 (Go.bits .xor .i64 x1_1 (ji8)) l0 (l0.length : Int) (wrap64 (x10_1 + 1))) = some r := by first | (rw [hji8] at H; exact H) | (simp only [hji8] at H ⊢; exact H)
        have hji8_ : (IntKind.i64.wrap (1 * 2 ^ min ((rd_T67 l0 x10_1).f1).toNat 64)) = ji8 := hji8
        have hji8z : ((rd_T67 l0 x10_1).f1) ≤ 64 → (IntKind.i64.wrap (1 * 2 ^ ((rd_T67 l0 x10_1).f1).toNat)) = ji8 := shl_small hji8
        have hji8u : (IntKind.i64.wrap (2 ^ min ((rd_T67 l0 x10_1).f1).toNat 64)) = ji8 := by have h_ := hji8_; rw [Int.one_mul] at h_; exact h_
        have hji8v : ((rd_T67 l0 x10_1).f1) ≤ 64 → (IntKind.i64.wrap (2 ^ ((rd_T67 l0 x10_1).f1).toNat)) = ji8 := fun hle_ => by have h_ := hji8z hle_; rw [Int.one_mul] at h_; exact h_
        have hji8y : (wrap64 (1 * 2 ^ min ((rd_T67 l0 x10_1).f1).toNat 64)) = ji8 := (i64_w _).symm.trans hji8_
        have hji8x : ((rd_T67 l0 x10_1).f1) ≤ 64 → (wrap64 (1 * 2 ^ ((rd_T67 l0 x10_1).f1).toNat)) = ji8 := fun h_ => (i64_w _).symm.trans (hji8z h_)
        have H' := aM H
        clear H
        have p103 : 0 ≤ (x10_1 : Int) := of_decide_eq_true (by assumption)
        have q103 : x10_1 < (l0.length : Int) := of_decide_eq_true (by assumption)
        obtain ⟨ad103, e103, hx103_0, hx103_1, hx103_2, hx103_3⟩ := at_T67 HR0.out x10_1 p103 q103
        cases e103
        replace hx103_0 := (HB.out.cell (World.block_lt_of_cell? w _ hx103_0)).trans hx103_0
        replace hx103_1 := (HB.out.cell (World.block_lt_of_cell? w _ hx103_1)).trans hx103_1
        replace hx103_2 := (HB.out.cell (World.block_lt_of_cell? w _ hx103_2)).trans hx103_2
        replace hx103_3 := (HB.out.cell (World.block_lt_of_cell? w _ hx103_3)).trans hx103_3
        replace p103 := eq_true p103
        replace q103 := eq_true q103
        go_wp2_with (first | ((with_reducible refine gate_dst (N := 6) rfl ?_); refine box_event ?hg (N := 6) ?hd (cs := #[.int .i64 0, .int .i64 0, .int .i64 0, .int .i64 0]) (t := 67) ?hr ?_; (case hd => rfl); (case hg => rfl); (case hr => first | (go_simp; done) | (go_simp; rfl)); intro gb104 hg w9 hbox hb; have B04 := aM (hbox); have GW104 := aM ((by rw [hg]; exact (below_size (by (with_reducible apply_rules [HB.out, pA, pD, pE]))) : w.heap.size ≤ gb104)); have GE104 := aM ((by rw [hg]; exact (below_size (by (with_reducible apply_rules [HB.out, pA, pD, pE]))) : w.heap.size ≤ gb104)); replace HB := aM (pS_ (by (with_reducible apply_rules [HB.out, pA, pD, pE])) hb); clear hb hbox hg; have hcz10_0 : w9.cell? ⟨gb104, 0, none⟩ = some (.int .i64 0) := (bE B04.out 0).trans rfl; have hcz10_1 : w9.cell? ⟨gb104, 1, none⟩ = some (.int .i64 0) := (bE B04.out 1).trans rfl; have hcz10_2 : w9.cell? ⟨gb104, 2, none⟩ = some (.int .i64 0) := (bE B04.out 2).trans rfl; have hcz10_3 : w9.cell? ⟨gb104, 3, none⟩ = some (.int .i64 0) := (bE B04.out 3).trans rfl; have hfz10_0 := bF B04.out 0; have hfz10_1 := bF B04.out 1; have hfz10_2 := bF B04.out 2; have hfz10_3 := bF B04.out 3))
        repeat (go_quiet (fail)); try go_wp2
        go_roundg k1
        case measure => have := HK1.out; omega
        case rel => exact ⟨(Go.bits .xor .i64 x1_1 (ji8)), (wrap64 (x10_1 + 1)), (by first | rfl | (simp; done) | (simp only [← hji8] <;> (first | rfl | simp)) | (simp [*]; done)), (by first | rfl | (simp; done) | (simp [*]; done)), H', ⟨by have := HK1.out; omega⟩, ⟨by (with_reducible apply_rules [HB.out, pA, pD, pE, sT, GE104.out])⟩⟩
       ·rw [if_neg c7] at H
        exact absurd H (by simp)
      ·rw [if_neg c6] at H
       have c6b0 : (((rd_T67 l0 x10_1).f0) == 0) = false := beq_eq_false_iff_ne.mpr c6
       have c6b1 : (((rd_T67 l0 x10_1).f0) != 0) = true := bne_iff_ne.mpr c6
       by_cases c11 : ((rd_T67 l0 x10_1).f0) = 1
       ·rw [if_pos c11] at H
        have c11b0 : (((rd_T67 l0 x10_1).f0) == 1) = true := beq_iff_eq.mpr c11
        have c11b1 : (((rd_T67 l0 x10_1).f0) != 1) = false := bne_eq_false_iff_eq.mpr c11
        clear c11
        by_cases c12 : 0 ≤ ((rd_T67 l0 x10_1).f2)
        ·rw [if_pos c12] at H
         have c12b0 := eq_true c12
         have c12b1 : decide (0 ≤ ((rd_T67 l0 x10_1).f2)) = true := decide_eq_true c12
         clear c12
         obtain ⟨ji13, hji13⟩ : ∃ j_ : Int, (shr .i64 x1_1 ((rd_T67 l0 x10_1).f2)) = j_ := ⟨_, rfl⟩
         replace H : (if 0 ≤ ((rd_T67 l0 x10_1).f1) then (undo_final.l0 k1 (Go.bits .xor .i64 x1_1 (shl .i64 (Go.bits .and .i64 (ji13) 1) ((rd_T67 l0 x10_1).f1))) l0 (l0.length : Int) (wrap64 (x10_1 + 1))) else (none)) = some r := by first | (rw [hji13] at H; exact H) | (simp only [hji13] at H ⊢; exact H)
         have hji13_ : (x1_1 / 2 ^ min ((rd_T67 l0 x10_1).f2).toNat 64) = ji13 := hji13
         have hji13z : ((rd_T67 l0 x10_1).f2) ≤ 64 → (x1_1 / 2 ^ ((rd_T67 l0 x10_1).f2).toNat) = ji13 := shr_small hji13
         by_cases c14 : 0 ≤ ((rd_T67 l0 x10_1).f1)
         ·rw [if_pos c14] at H
          have c14b0 := eq_true c14
          have c14b1 : decide (0 ≤ ((rd_T67 l0 x10_1).f1)) = true := decide_eq_true c14
          clear c14
          obtain ⟨ji15, hji15⟩ : ∃ j_ : Int, (shl .i64 (Go.bits .and .i64 (ji13) 1) ((rd_T67 l0 x10_1).f1)) = j_ := ⟨_, rfl⟩
          replace H : (undo_final.l0 k1 (Go.bits .xor .i64 x1_1 (ji15)) l0 (l0.length : Int) (wrap64 (x10_1 + 1))) = some r := by first | (rw [hji15] at H; exact H) | (simp only [hji15] at H ⊢; exact H)
          have hji15_ : (IntKind.i64.wrap ((Go.bits .and .i64 (ji13) 1) * 2 ^ min ((rd_T67 l0 x10_1).f1).toNat 64)) = ji15 := hji15
          have hji15z : ((rd_T67 l0 x10_1).f1) ≤ 64 → (IntKind.i64.wrap ((Go.bits .and .i64 (ji13) 1) * 2 ^ ((rd_T67 l0 x10_1).f1).toNat)) = ji15 := shl_small hji15
          have hji15y : (wrap64 ((Go.bits .and .i64 (ji13) 1) * 2 ^ min ((rd_T67 l0 x10_1).f1).toNat 64)) = ji15 := (i64_w _).symm.trans hji15_
          have hji15x : ((rd_T67 l0 x10_1).f1) ≤ 64 → (wrap64 ((Go.bits .and .i64 (ji13) 1) * 2 ^ ((rd_T67 l0 x10_1).f1).toNat)) = ji15 := fun h_ => (i64_w _).symm.trans (hji15z h_)
          have H' := aM H
          clear H
          have p103 : 0 ≤ (x10_1 : Int) := of_decide_eq_true (by assumption)
          have q103 : x10_1 < (l0.length : Int) := of_decide_eq_true (by assumption)
          obtain ⟨ad103, e103, hx103_0, hx103_1, hx103_2, hx103_3⟩ := at_T67 HR0.out x10_1 p103 q103
          cases e103
          replace hx103_0 := (HB.out.cell (World.block_lt_of_cell? w _ hx103_0)).trans hx103_0
          replace hx103_1 := (HB.out.cell (World.block_lt_of_cell? w _ hx103_1)).trans hx103_1
          replace hx103_2 := (HB.out.cell (World.block_lt_of_cell? w _ hx103_2)).trans hx103_2
          replace hx103_3 := (HB.out.cell (World.block_lt_of_cell? w _ hx103_3)).trans hx103_3
          replace p103 := eq_true p103
          replace q103 := eq_true q103
          go_wp2_with (first | ((with_reducible refine gate_dst (N := 6) rfl ?_); refine box_event ?hg (N := 6) ?hd (cs := #[.int .i64 0, .int .i64 0, .int .i64 0, .int .i64 0]) (t := 67) ?hr ?_; (case hd => rfl); (case hg => rfl); (case hr => first | (go_simp; done) | (go_simp; rfl)); intro gb104 hg w16 hbox hb; have B04 := aM (hbox); have GW104 := aM ((by rw [hg]; exact (below_size (by (with_reducible apply_rules [HB.out, pA, pD, pE]))) : w.heap.size ≤ gb104)); have GE104 := aM ((by rw [hg]; exact (below_size (by (with_reducible apply_rules [HB.out, pA, pD, pE]))) : w.heap.size ≤ gb104)); replace HB := aM (pS_ (by (with_reducible apply_rules [HB.out, pA, pD, pE])) hb); clear hb hbox hg; have hcz17_0 : w16.cell? ⟨gb104, 0, none⟩ = some (.int .i64 0) := (bE B04.out 0).trans rfl; have hcz17_1 : w16.cell? ⟨gb104, 1, none⟩ = some (.int .i64 0) := (bE B04.out 1).trans rfl; have hcz17_2 : w16.cell? ⟨gb104, 2, none⟩ = some (.int .i64 0) := (bE B04.out 2).trans rfl; have hcz17_3 : w16.cell? ⟨gb104, 3, none⟩ = some (.int .i64 0) := (bE B04.out 3).trans rfl; have hfz17_0 := bF B04.out 0; have hfz17_1 := bF B04.out 1; have hfz17_2 := bF B04.out 2; have hfz17_3 := bF B04.out 3))
          repeat (go_quiet (fail)); try go_wp2
          go_roundg k1
          case measure => have := HK1.out; omega
          case rel => exact ⟨(Go.bits .xor .i64 x1_1 (ji15)), (wrap64 (x10_1 + 1)), (by first | rfl | (simp; done) | (simp only [← hji15] <;> (first | rfl | simp)) | (simp [*]; done)), (by first | rfl | (simp; done) | (simp [*]; done)), H', ⟨by have := HK1.out; omega⟩, ⟨by (with_reducible apply_rules [HB.out, pA, pD, pE, sT, GE104.out])⟩⟩
         ·rw [if_neg c14] at H
          exact absurd H (by simp)
        ·rw [if_neg c12] at H
         exact absurd H (by simp)
       ·rw [if_neg c11] at H
        have c11b0 : (((rd_T67 l0 x10_1).f0) == 1) = false := beq_eq_false_iff_ne.mpr c11
        have c11b1 : (((rd_T67 l0 x10_1).f0) != 1) = true := bne_iff_ne.mpr c11
        by_cases c18 : ((rd_T67 l0 x10_1).f0) = 2
        ·rw [if_pos c18] at H
         have c18b0 : (((rd_T67 l0 x10_1).f0) == 2) = true := beq_iff_eq.mpr c18
         have c18b1 : (((rd_T67 l0 x10_1).f0) != 2) = false := bne_eq_false_iff_eq.mpr c18
         clear c18
         by_cases c19 : 0 ≤ ((rd_T67 l0 x10_1).f2)
         ·rw [if_pos c19] at H
          have c19b0 := eq_true c19
          have c19b1 : decide (0 ≤ ((rd_T67 l0 x10_1).f2)) = true := decide_eq_true c19
          clear c19
          obtain ⟨ji20, hji20⟩ : ∃ j_ : Int, (shr .i64 x1_1 ((rd_T67 l0 x10_1).f2)) = j_ := ⟨_, rfl⟩
          replace H : (if 0 ≤ ((rd_T67 l0 x10_1).f3) then (if 0 ≤ ((rd_T67 l0 x10_1).f1) then (undo_final.l0 k1 (Go.bits .xor .i64 x1_1 (shl .i64 (Go.bits .and .i64 (Go.bits .and .i64 (ji20) (shr .i64 x1_1 ((rd_T67 l0 x10_1).f3))) 1) ((rd_T67 l0 x10_1).f1))) l0 (l0.length : Int) (wrap64 (x10_1 + 1))) else (none)) else (none)) = some r := by first | (rw [hji20] at H; exact H) | (simp only [hji20] at H ⊢; exact H)
          have hji20_ : (x1_1 / 2 ^ min ((rd_T67 l0 x10_1).f2).toNat 64) = ji20 := hji20
          have hji20z : ((rd_T67 l0 x10_1).f2) ≤ 64 → (x1_1 / 2 ^ ((rd_T67 l0 x10_1).f2).toNat) = ji20 := shr_small hji20
          by_cases c21 : 0 ≤ ((rd_T67 l0 x10_1).f3)
          ·rw [if_pos c21] at H
           have c21b0 := eq_true c21
           have c21b1 : decide (0 ≤ ((rd_T67 l0 x10_1).f3)) = true := decide_eq_true c21
           clear c21
           obtain ⟨ji22, hji22⟩ : ∃ j_ : Int, (shr .i64 x1_1 ((rd_T67 l0 x10_1).f3)) = j_ := ⟨_, rfl⟩
           replace H : (if 0 ≤ ((rd_T67 l0 x10_1).f1) then (undo_final.l0 k1 (Go.bits .xor .i64 x1_1 (shl .i64 (Go.bits .and .i64 (Go.bits .and .i64 (ji20) (ji22)) 1) ((rd_T67 l0 x10_1).f1))) l0 (l0.length : Int) (wrap64 (x10_1 + 1))) else (none)) = some r := by first | (rw [hji22] at H; exact H) | (simp only [hji22] at H ⊢; exact H)
           have hji22_ : (x1_1 / 2 ^ min ((rd_T67 l0 x10_1).f3).toNat 64) = ji22 := hji22
           have hji22z : ((rd_T67 l0 x10_1).f3) ≤ 64 → (x1_1 / 2 ^ ((rd_T67 l0 x10_1).f3).toNat) = ji22 := shr_small hji22
           by_cases c23 : 0 ≤ ((rd_T67 l0 x10_1).f1)
           ·rw [if_pos c23] at H
            have c23b0 := eq_true c23
            have c23b1 : decide (0 ≤ ((rd_T67 l0 x10_1).f1)) = true := decide_eq_true c23
            clear c23
            obtain ⟨ji24, hji24⟩ : ∃ j_ : Int, (shl .i64 (Go.bits .and .i64 (Go.bits .and .i64 (ji20) (ji22)) 1) ((rd_T67 l0 x10_1).f1)) = j_ := ⟨_, rfl⟩
            replace H : (undo_final.l0 k1 (Go.bits .xor .i64 x1_1 (ji24)) l0 (l0.length : Int) (wrap64 (x10_1 + 1))) = some r := by first | (rw [hji24] at H; exact H) | (simp only [hji24] at H ⊢; exact H)
            have hji24_ : (IntKind.i64.wrap ((Go.bits .and .i64 (Go.bits .and .i64 (ji20) (ji22)) 1) * 2 ^ min ((rd_T67 l0 x10_1).f1).toNat 64)) = ji24 := hji24
            have hji24z : ((rd_T67 l0 x10_1).f1) ≤ 64 → (IntKind.i64.wrap ((Go.bits .and .i64 (Go.bits .and .i64 (ji20) (ji22)) 1) * 2 ^ ((rd_T67 l0 x10_1).f1).toNat)) = ji24 := shl_small hji24
            have hji24y : (wrap64 ((Go.bits .and .i64 (Go.bits .and .i64 (ji20) (ji22)) 1) * 2 ^ min ((rd_T67 l0 x10_1).f1).toNat 64)) = ji24 := (i64_w _).symm.trans hji24_
            have hji24x : ((rd_T67 l0 x10_1).f1) ≤ 64 → (wrap64 ((Go.bits .and .i64 (Go.bits .and .i64 (ji20) (ji22)) 1) * 2 ^ ((rd_T67 l0 x10_1).f1).toNat)) = ji24 := fun h_ => (i64_w _).symm.trans (hji24z h_)
            have H' := aM H
            clear H
            have p103 : 0 ≤ (x10_1 : Int) := of_decide_eq_true (by assumption)
            have q103 : x10_1 < (l0.length : Int) := of_decide_eq_true (by assumption)
            obtain ⟨ad103, e103, hx103_0, hx103_1, hx103_2, hx103_3⟩ := at_T67 HR0.out x10_1 p103 q103
            cases e103
            replace hx103_0 := (HB.out.cell (World.block_lt_of_cell? w _ hx103_0)).trans hx103_0
            replace hx103_1 := (HB.out.cell (World.block_lt_of_cell? w _ hx103_1)).trans hx103_1
            replace hx103_2 := (HB.out.cell (World.block_lt_of_cell? w _ hx103_2)).trans hx103_2
            replace hx103_3 := (HB.out.cell (World.block_lt_of_cell? w _ hx103_3)).trans hx103_3
            replace p103 := eq_true p103
            replace q103 := eq_true q103
            go_wp2_with (first | ((with_reducible refine gate_dst (N := 6) rfl ?_); refine box_event ?hg (N := 6) ?hd (cs := #[.int .i64 0, .int .i64 0, .int .i64 0, .int .i64 0]) (t := 67) ?hr ?_; (case hd => rfl); (case hg => rfl); (case hr => first | (go_simp; done) | (go_simp; rfl)); intro gb104 hg w25 hbox hb; have B04 := aM (hbox); have GW104 := aM ((by rw [hg]; exact (below_size (by (with_reducible apply_rules [HB.out, pA, pD, pE]))) : w.heap.size ≤ gb104)); have GE104 := aM ((by rw [hg]; exact (below_size (by (with_reducible apply_rules [HB.out, pA, pD, pE]))) : w.heap.size ≤ gb104)); replace HB := aM (pS_ (by (with_reducible apply_rules [HB.out, pA, pD, pE])) hb); clear hb hbox hg; have hcz26_0 : w25.cell? ⟨gb104, 0, none⟩ = some (.int .i64 0) := (bE B04.out 0).trans rfl; have hcz26_1 : w25.cell? ⟨gb104, 1, none⟩ = some (.int .i64 0) := (bE B04.out 1).trans rfl; have hcz26_2 : w25.cell? ⟨gb104, 2, none⟩ = some (.int .i64 0) := (bE B04.out 2).trans rfl; have hcz26_3 : w25.cell? ⟨gb104, 3, none⟩ = some (.int .i64 0) := (bE B04.out 3).trans rfl; have hfz26_0 := bF B04.out 0; have hfz26_1 := bF B04.out 1; have hfz26_2 := bF B04.out 2; have hfz26_3 := bF B04.out 3))
            repeat (go_quiet (fail)); try go_wp2
            go_roundg k1
            case measure => have := HK1.out; omega
            case rel => exact ⟨(Go.bits .xor .i64 x1_1 (ji24)), (wrap64 (x10_1 + 1)), (by first | rfl | (simp; done) | (simp only [← hji24] <;> (first | rfl | simp)) | (simp [*]; done)), (by first | rfl | (simp; done) | (simp [*]; done)), H', ⟨by have := HK1.out; omega⟩, ⟨by (with_reducible apply_rules [HB.out, pA, pD, pE, sT, GE104.out])⟩⟩
           ·rw [if_neg c23] at H
            exact absurd H (by simp)
          ·rw [if_neg c21] at H
           exact absurd H (by simp)
         ·rw [if_neg c19] at H
          exact absurd H (by simp)
        ·rw [if_neg c18] at H
         have c18b0 : (((rd_T67 l0 x10_1).f0) == 2) = false := beq_eq_false_iff_ne.mpr c18
         have c18b1 : (((rd_T67 l0 x10_1).f0) != 2) = true := bne_iff_ne.mpr c18
         by_cases c27 : 0 ≤ ((rd_T67 l0 x10_1).f1)
         ·rw [if_pos c27] at H
          have c27b0 := eq_true c27
          have c27b1 : decide (0 ≤ ((rd_T67 l0 x10_1).f1)) = true := decide_eq_true c27
          clear c27
          obtain ⟨ji28, hji28⟩ : ∃ j_ : Int, (shr .i64 x1_1 ((rd_T67 l0 x10_1).f1)) = j_ := ⟨_, rfl⟩
          replace H : (if 0 ≤ ((rd_T67 l0 x10_1).f2) then (undo_final.l0 k1 (Go.bits .xor .i64 x1_1 (Go.bits .or .i64 (shl .i64 (Go.bits .and .i64 (Go.bits .xor .i64 (ji28) (shr .i64 x1_1 ((rd_T67 l0 x10_1).f2))) 1) ((rd_T67 l0 x10_1).f1)) (shl .i64 (Go.bits .and .i64 (Go.bits .xor .i64 (ji28) (shr .i64 x1_1 ((rd_T67 l0 x10_1).f2))) 1) ((rd_T67 l0 x10_1).f2)))) l0 (l0.length : Int) (wrap64 (x10_1 + 1))) else (none)) = some r := by first | (rw [hji28] at H; exact H) | (simp only [hji28] at H ⊢; exact H)
          have hji28_ : (x1_1 / 2 ^ min ((rd_T67 l0 x10_1).f1).toNat 64) = ji28 := hji28
          have hji28z : ((rd_T67 l0 x10_1).f1) ≤ 64 → (x1_1 / 2 ^ ((rd_T67 l0 x10_1).f1).toNat) = ji28 := shr_small hji28
          by_cases c29 : 0 ≤ ((rd_T67 l0 x10_1).f2)
          ·rw [if_pos c29] at H
           have c29b0 := eq_true c29
           have c29b1 : decide (0 ≤ ((rd_T67 l0 x10_1).f2)) = true := decide_eq_true c29
           clear c29
           obtain ⟨ji30, hji30⟩ : ∃ j_ : Int, (shr .i64 x1_1 ((rd_T67 l0 x10_1).f2)) = j_ := ⟨_, rfl⟩
           replace H : (undo_final.l0 k1 (Go.bits .xor .i64 x1_1 (Go.bits .or .i64 (shl .i64 (Go.bits .and .i64 (Go.bits .xor .i64 (ji28) (ji30)) 1) ((rd_T67 l0 x10_1).f1)) (shl .i64 (Go.bits .and .i64 (Go.bits .xor .i64 (ji28) (ji30)) 1) ((rd_T67 l0 x10_1).f2)))) l0 (l0.length : Int) (wrap64 (x10_1 + 1))) = some r := by first | (rw [hji30] at H; exact H) | (simp only [hji30] at H ⊢; exact H)
           have hji30_ : (x1_1 / 2 ^ min ((rd_T67 l0 x10_1).f2).toNat 64) = ji30 := hji30
           have hji30z : ((rd_T67 l0 x10_1).f2) ≤ 64 → (x1_1 / 2 ^ ((rd_T67 l0 x10_1).f2).toNat) = ji30 := shr_small hji30
           have c31b0 := eq_true (of_decide_eq_true (by assumption) : 0 ≤ ((rd_T67 l0 x10_1).f1))
           obtain ⟨ji32, hji32⟩ : ∃ j_ : Int, (shl .i64 (Go.bits .and .i64 (Go.bits .xor .i64 (ji28) (ji30)) 1) ((rd_T67 l0 x10_1).f1)) = j_ := ⟨_, rfl⟩
           replace H : (undo_final.l0 k1 (Go.bits .xor .i64 x1_1 (Go.bits .or .i64 (ji32) (shl .i64 (Go.bits .and .i64 (Go.bits .xor .i64 (ji28) (ji30)) 1) ((rd_T67 l0 x10_1).f2)))) l0 (l0.length : Int) (wrap64 (x10_1 + 1))) = some r := by first | (rw [hji32] at H; exact H) | (simp only [hji32] at H ⊢; exact H)
           have hji32_ : (IntKind.i64.wrap ((Go.bits .and .i64 (Go.bits .xor .i64 (ji28) (ji30)) 1) * 2 ^ min ((rd_T67 l0 x10_1).f1).toNat 64)) = ji32 := hji32
           have hji32z : ((rd_T67 l0 x10_1).f1) ≤ 64 → (IntKind.i64.wrap ((Go.bits .and .i64 (Go.bits .xor .i64 (ji28) (ji30)) 1) * 2 ^ ((rd_T67 l0 x10_1).f1).toNat)) = ji32 := shl_small hji32
           have hji32y : (wrap64 ((Go.bits .and .i64 (Go.bits .xor .i64 (ji28) (ji30)) 1) * 2 ^ min ((rd_T67 l0 x10_1).f1).toNat 64)) = ji32 := (i64_w _).symm.trans hji32_
           have hji32x : ((rd_T67 l0 x10_1).f1) ≤ 64 → (wrap64 ((Go.bits .and .i64 (Go.bits .xor .i64 (ji28) (ji30)) 1) * 2 ^ ((rd_T67 l0 x10_1).f1).toNat)) = ji32 := fun h_ => (i64_w _).symm.trans (hji32z h_)
           have c33b0 := eq_true (of_decide_eq_true (by assumption) : 0 ≤ ((rd_T67 l0 x10_1).f2))
           obtain ⟨ji34, hji34⟩ : ∃ j_ : Int, (shl .i64 (Go.bits .and .i64 (Go.bits .xor .i64 (ji28) (ji30)) 1) ((rd_T67 l0 x10_1).f2)) = j_ := ⟨_, rfl⟩
           replace H : (undo_final.l0 k1 (Go.bits .xor .i64 x1_1 (Go.bits .or .i64 (ji32) (ji34))) l0 (l0.length : Int) (wrap64 (x10_1 + 1))) = some r := by first | (rw [hji34] at H; exact H) | (simp only [hji34] at H ⊢; exact H)
           have hji34_ : (IntKind.i64.wrap ((Go.bits .and .i64 (Go.bits .xor .i64 (ji28) (ji30)) 1) * 2 ^ min ((rd_T67 l0 x10_1).f2).toNat 64)) = ji34 := hji34
           have hji34z : ((rd_T67 l0 x10_1).f2) ≤ 64 → (IntKind.i64.wrap ((Go.bits .and .i64 (Go.bits .xor .i64 (ji28) (ji30)) 1) * 2 ^ ((rd_T67 l0 x10_1).f2).toNat)) = ji34 := shl_small hji34
           have hji34y : (wrap64 ((Go.bits .and .i64 (Go.bits .xor .i64 (ji28) (ji30)) 1) * 2 ^ min ((rd_T67 l0 x10_1).f2).toNat 64)) = ji34 := (i64_w _).symm.trans hji34_
           have hji34x : ((rd_T67 l0 x10_1).f2) ≤ 64 → (wrap64 ((Go.bits .and .i64 (Go.bits .xor .i64 (ji28) (ji30)) 1) * 2 ^ ((rd_T67 l0 x10_1).f2).toNat)) = ji34 := fun h_ => (i64_w _).symm.trans (hji34z h_)
           have H' := aM H
           clear H
           have p103 : 0 ≤ (x10_1 : Int) := of_decide_eq_true (by assumption)
           have q103 : x10_1 < (l0.length : Int) := of_decide_eq_true (by assumption)
           obtain ⟨ad103, e103, hx103_0, hx103_1, hx103_2, hx103_3⟩ := at_T67 HR0.out x10_1 p103 q103
           cases e103
           replace hx103_0 := (HB.out.cell (World.block_lt_of_cell? w _ hx103_0)).trans hx103_0
           replace hx103_1 := (HB.out.cell (World.block_lt_of_cell? w _ hx103_1)).trans hx103_1
           replace hx103_2 := (HB.out.cell (World.block_lt_of_cell? w _ hx103_2)).trans hx103_2
           replace hx103_3 := (HB.out.cell (World.block_lt_of_cell? w _ hx103_3)).trans hx103_3
           replace p103 := eq_true p103
           replace q103 := eq_true q103
           go_wp2_with (first | ((with_reducible refine gate_dst (N := 6) rfl ?_); refine box_event ?hg (N := 6) ?hd (cs := #[.int .i64 0, .int .i64 0, .int .i64 0, .int .i64 0]) (t := 67) ?hr ?_; (case hd => rfl); (case hg => rfl); (case hr => first | (go_simp; done) | (go_simp; rfl)); intro gb104 hg w35 hbox hb; have B04 := aM (hbox); have GW104 := aM ((by rw [hg]; exact (below_size (by (with_reducible apply_rules [HB.out, pA, pD, pE]))) : w.heap.size ≤ gb104)); have GE104 := aM ((by rw [hg]; exact (below_size (by (with_reducible apply_rules [HB.out, pA, pD, pE]))) : w.heap.size ≤ gb104)); replace HB := aM (pS_ (by (with_reducible apply_rules [HB.out, pA, pD, pE])) hb); clear hb hbox hg; have hcz36_0 : w35.cell? ⟨gb104, 0, none⟩ = some (.int .i64 0) := (bE B04.out 0).trans rfl; have hcz36_1 : w35.cell? ⟨gb104, 1, none⟩ = some (.int .i64 0) := (bE B04.out 1).trans rfl; have hcz36_2 : w35.cell? ⟨gb104, 2, none⟩ = some (.int .i64 0) := (bE B04.out 2).trans rfl; have hcz36_3 : w35.cell? ⟨gb104, 3, none⟩ = some (.int .i64 0) := (bE B04.out 3).trans rfl; have hfz36_0 := bF B04.out 0; have hfz36_1 := bF B04.out 1; have hfz36_2 := bF B04.out 2; have hfz36_3 := bF B04.out 3))
           repeat (go_quiet (fail)); try go_wp2
           go_roundg k1
           case measure => have := HK1.out; omega
           case rel => exact ⟨(Go.bits .xor .i64 x1_1 (Go.bits .or .i64 (ji32) (ji34))), (wrap64 (x10_1 + 1)), (by first | rfl | (simp; done) | (simp only [← hji32, ← hji34] <;> (first | rfl | simp)) | (simp [*]; done)), (by first | rfl | (simp; done) | (simp [*]; done)), H', ⟨by have := HK1.out; omega⟩, ⟨by (with_reducible apply_rules [HB.out, pA, pD, pE, sT, GE104.out])⟩⟩
          ·rw [if_neg c29] at H
           exact absurd H (by simp)
         ·rw [if_neg c27] at H
          exact absurd H (by simp)
     ·rw [if_neg c5] at H
      exact absurd H (by simp)
    ·rw [if_neg c4] at H
     exact absurd H (by simp)
   ·rw [if_neg c3] at H
    have c3b0 : decide (x10_1 < (l0.length : Int)) = false := decide_eq_false c3
    clear c3
    obtain rfl := Option.some.inj H
    go_wp2
    repeat (go_quiet (fail); try go_wp2)
    go_ret
    exact ⟨by first | rfl | (simp [errW_none, errW_some] <;> rfl) | (simp [*, errW_none, errW_some] <;> rfl), by (with_reducible apply_rules [HB.out, pA, pD, pE])⟩

mutual
def undo_Dirty.j0 : Nat → Int → Int → Bool → Int → List (S67) → Option (List Bool × Int)
 | 0, _, _, _, _, _ => none
 | k + 1, x1, x6, x17, x106000, x106001 => if x17 = true then (some (([] : List Bool), 2)) else (if x1 > 12 then (some (([] : List Bool), 5)) else (if x6 = 0 then (if 0 ≤ x1 then (if 0 ≤ (shl .i64 1 x1) then (if (shl .i64 1 x1 : Int).toNat ≤ 281474976710656 then (if 0 ≤ x106000 then (undo_Dirty.l0 k x1 (List.replicate (shl .i64 1 x1 : Int).toNat false) (shl .i64 1 x106000) 0 x106000 x106001) else (none)) else (none)) else (none)) else (none)) else (some (([] : List Bool), 5))))
def undo_Dirty.l0 : Nat → Int → List Bool → Int → Int → Int → List (S67) → Option (List Bool × Int)
 | 0, _, _, _, _, _, _ => none
 | k + 1, x1, x7, x38, x39, x106000, x106001 => if x39 < x38 then ((undo_final.f k x106001 x39).bind fun t110 => (if x39 < (x7.length : Int) then (if 0 ≤ x1 then (if 0 ≤ (Go.bits .and .i64 x39 (wrap64 ((x7.length : Int) - 1))) then (if (Go.bits .and .i64 x39 (wrap64 ((x7.length : Int) - 1))) < (x7.length : Int) then ((some (x7.set ((Go.bits .and .i64 x39 (wrap64 ((x7.length : Int) - 1))) : Int).toNat ((Go.bits .and .i64 (shr .i64 (Go.bits .xor .i64 x39 t110) x1) 1) == 1) : List Bool)).bind fun y111 => (if (Go.bits .andNot .i64 (Go.bits .xor .i64 x39 t110) (shl .i64 1 x1)) = 0 then (if ((rdOf false y111 (Go.bits .and .i64 x39 (wrap64 ((x7.length : Int) - 1)))) != ((Go.bits .and .i64 (shr .i64 (Go.bits .xor .i64 x39 t110) x1) 1) == 1)) = true then (some (([] : List Bool), 6)) else (undo_Dirty.l0 k x1 y111 x38 (wrap64 (x39 + 1)) x106000 x106001)) else (some (([] : List Bool), 6)))) else (none)) else (none)) else (none)) else (if 0 ≤ x1 then (if (Go.bits .andNot .i64 (Go.bits .xor .i64 x39 t110) (shl .i64 1 x1)) = 0 then (if 0 ≤ (Go.bits .and .i64 x39 (wrap64 ((x7.length : Int) - 1))) then (if (Go.bits .and .i64 x39 (wrap64 ((x7.length : Int) - 1))) < (x7.length : Int) then (if ((rdOf false x7 (Go.bits .and .i64 x39 (wrap64 ((x7.length : Int) - 1)))) != ((Go.bits .and .i64 (shr .i64 (Go.bits .xor .i64 x39 t110) x1) 1) == 1)) = true then (some (([] : List Bool), 6)) else (undo_Dirty.l0 k x1 x7 x38 (wrap64 (x39 + 1)) x106000 x106001)) else (none)) else (none)) else (some (([] : List Bool), 6))) else (none)))) else (some (x7, 0))
end
def undo_Dirty.f (k : Nat) (a0_0 : Int) (l0_1 : List (S67)) (a1 : Int) : Option (List Bool × Int) := (undo_enumerable.f a0_0 l0_1).bind fun t106 => (if t106 = 1 then (some (([] : List Bool), t106)) else (if a1 < 0 then (undo_Dirty.j0 k a1 t106 true a0_0 l0_1) else (undo_Dirty.j0 k a1 t106 (decide (a1 ≥ a0_0)) a0_0 l0_1)))
theorem undo_Dirty.mono_l : ∀ k, (∀ y0 y1 y2 y3 y4, LeO (undo_Dirty.j0 k y0 y1 y2 y3 y4) (undo_Dirty.j0 (k + 1) y0 y1 y2 y3 y4)) ∧ (∀ y0 y1 y2 y3 y4 y5, LeO (undo_Dirty.l0 k y0 y1 y2 y3 y4 y5) (undo_Dirty.l0 (k + 1) y0 y1 y2 y3 y4 y5))
 | 0 => ⟨fun _ _ _ _ _ r h => by simp [undo_Dirty.j0] at h, fun _ _ _ _ _ _ r h => by simp [undo_Dirty.l0] at h⟩
 | k + 1 => by
  obtain ⟨ih0, ih1⟩ := undo_Dirty.mono_l k
  refine ⟨?_, ?_⟩
  ·intro y0 y1 y2 y3 y4
   unfold undo_Dirty.j0
   repeat' first
   | (with_reducible exact ih0 _ _ _ _ _)
   | (with_reducible exact ih1 _ _ _ _ _ _)
   | (with_reducible exact undo_final.mono _ _ _)
   | (with_reducible exact LeO.refl _)
   | (with_reducible exact LeO.none _)
   | (with_reducible refine LeO.ite ?_ ?_)
   | (with_reducible refine LeO.bind ?_ (fun _ => ?_))
   | exact ih0 _ _ _ _ _
   | exact ih1 _ _ _ _ _ _
   | exact undo_final.mono _ _ _
   | exact LeO.none _
   | refine LeO.ite ?_ ?_
   | refine LeO.bind ?_ (fun _ => ?_)
  ·intro y0 y1 y2 y3 y4 y5
   unfold undo_Dirty.l0
   repeat' first
   | (with_reducible exact ih0 _ _ _ _ _)
   | (with_reducible exact ih1 _ _ _ _ _ _)
   | (with_reducible exact undo_final.mono _ _ _)
   | (with_reducible exact LeO.refl _)
   | (with_reducible exact LeO.none _)
   | (with_reducible refine LeO.ite ?_ ?_)
   | (with_reducible refine LeO.bind ?_ (fun _ => ?_))
   | exact ih0 _ _ _ _ _
   | exact ih1 _ _ _ _ _ _
   | exact undo_final.mono _ _ _
   | exact LeO.none _
   | refine LeO.ite ?_ ?_
   | refine LeO.bind ?_ (fun _ => ?_)
theorem undo_Dirty.mono : ∀ a0 a1 a2 k, LeO (undo_Dirty.f k a0 a1 a2) (undo_Dirty.f (k + 1) a0 a1 a2) := by
 intro a0 a1 a2 k
 obtain ⟨ih0, ih1⟩ := undo_Dirty.mono_l k
 unfold undo_Dirty.f
 repeat' first
   | (with_reducible exact ih0 _ _ _ _ _)
   | (with_reducible exact ih1 _ _ _ _ _ _)
   | (with_reducible exact undo_final.mono _ _ _)
   | (with_reducible exact LeO.refl _)
   | (with_reducible exact LeO.none _)
   | (with_reducible refine LeO.ite ?_ ?_)
   | (with_reducible refine LeO.bind ?_ (fun _ => ?_))
   | exact ih0 _ _ _ _ _
   | exact ih1 _ _ _ _ _ _
   | exact undo_final.mono _ _ _
   | exact LeO.none _
   | refine LeO.ite ?_ ?_
   | refine LeO.bind ?_ (fun _ => ?_)
set_option maxHeartbeats 8000000 in
set_option maxRecDepth 100000 in
theorem undo_Dirty.calls (k : Nat) (a0_0 : Int) (A0_1 : Option Addr) (c0_1 : Nat) (l0_1 : List (S67)) (a1 : Int) (r1 : List Bool) (r2 : Int) (w : World) (hr0_1 : Kd.C k67 w A0_1 l0_1.length l0_1) (hc0_1 : l0_1.length ≤ c0_1) (h : undo_Dirty.f k a0_0 l0_1 a1 = some (r1, r2)) :
  Calls Tryd.prog 25 #[.agg #[.int .i64 a0_0, .slice A0_1 l0_1.length c0_1], .int .i64 a1] w fun e w' => ∃ v0_ : Value, e = .returned (.tuple #[v0_, .int .i64 r2]) ∧ Kd.R Kd.bool 4 w' w.heap.size (fun _ => True) v0_ r1 ∧ Below w.heap.size w w' := by
 have hu25 := Tryd.underlying25
 have HR0_1 := aM hr0_1
 have HC0_1 := aM hc0_1
 clear hr0_1 hc0_1
 have HB := aM (Below.refl w.heap.size w)
 have H : ((undo_enumerable.f a0_0 l0_1).bind fun t106 => (if t106 = 1 then (some (([] : List Bool), t106)) else (if a1 < 0 then (undo_Dirty.j0 k a1 t106 true a0_0 l0_1) else (undo_Dirty.j0 k a1 t106 (decide (a1 ≥ a0_0)) a0_0 l0_1)))) = some (r1, r2) := h
 clear h
 replace H := Option.bind_eq_some_iff.mp H
 obtain ⟨t106, A30, H⟩ := H
 replace H : (if t106 = 1 then (some (([] : List Bool), t106)) else (if a1 < 0 then (undo_Dirty.j0 k a1 t106 true a0_0 l0_1) else (undo_Dirty.j0 k a1 t106 (decide (a1 ≥ a0_0)) a0_0 l0_1))) = some (r1, r2) := H
 have A3 := aM A30
 clear A30
 by_cases c4 : t106 = 1
 ·rw [if_pos c4] at H
  have c4b0 : (t106 == 1) = true := beq_iff_eq.mpr c4
  have c4b1 : (t106 != 1) = false := bne_eq_false_iff_eq.mpr c4
  clear c4
  simp only [Option.some.injEq, Prod.mk.injEq] at H
  obtain ⟨rfl, rfl⟩ := H
  go_enter Tryd.func25, Tryd.ntmps25
  go_wp2_with (first | ((with_reducible refine gate_dst (N := 2) rfl ?_); refine box_event ?hg (N := 2) ?hd (cs := #[.int .i64 a0_0, .slice A0_1 l0_1.length c0_1]) (t := 25) ?hr ?_; (case hd => rfl); (case hg => rfl); (case hr => first | (go_simp; done) | (go_simp; rfl)); intro gb105 hg w5 hbox hb; have B05 := aM (hbox); have GW105 := aM ((by rw [hg]; exact (below_size (by (with_reducible apply_rules [HB.out, pA, pD, pE]))) : w.heap.size ≤ gb105)); have GE105 := aM ((by rw [hg]; exact (below_size (by (with_reducible apply_rules [HB.out, pA, pD, pE]))) : w.heap.size ≤ gb105)); replace HB := aM (pS_ (by (with_reducible apply_rules [HB.out, pA, pD, pE])) hb); clear hb hbox hg; have hcz6_0 : w5.cell? ⟨gb105, 0, none⟩ = some (.int .i64 a0_0) := (bE B05.out 0).trans rfl; have hcz6_1 : w5.cell? ⟨gb105, 1, none⟩ = some (.slice A0_1 l0_1.length c0_1) := (bE B05.out 1).trans rfl; have hfz6_0 := bF B05.out 0; have hfz6_1 := bF B05.out 1) | (go_at_call 58; (with_reducible refine (undo_enumerable.calls a0_0 _ _ l0_1 t106 _ ?side1 ?side2 A3.out).mono ?_); (case side1 => with_reducible apply_rules [(cD HR0_1.out HB.out), cA, cB, cC]); (case side2 => exact HC0_1.out); rintro e w7 ⟨rfl, hb⟩; replace B05 := aM (bD (g := gb105) (o := .cells #[.int .i64 a0_0, .slice A0_1 l0_1.length c0_1] 25 (0, 0)) (by with_reducible apply_rules [B05.out, bA, bB, bC]) hb); replace HB := aM (pS_ (by (with_reducible apply_rules [HB.out, pA, pD, pE, sT, GE105.out])) hb); (try clear hb); (try clear hb2); (try clear hk); (try clear hi)))
  repeat (go_quiet (fail)); try go_wp2
  go_ret2
  exact ⟨_, by first | rfl | (simp [errW_none, errW_some] <;> rfl) | (simp [*, errW_none, errW_some] <;> rfl), by first | exact Kd.R_nil _ _ _ _ _ | exact Kd.N_nil _ _ _ _ _ | exact Kd.V_nil _ _ _ _ _ | exact Kd.Q_nil _ _ _ _ _ | exact Kd.S_nil _ _ _ _ _, by (with_reducible apply_rules [HB.out, pA, pD, pE, sT, GE105.out])⟩
 ·rw [if_neg c4] at H
  have c4b0 : (t106 == 1) = false := beq_eq_false_iff_ne.mpr c4
  have c4b1 : (t106 != 1) = true := bne_iff_ne.mpr c4
  have HC8 := aM H
  clear H
  go_enter Tryd.func25, Tryd.ntmps25
  go_upto_region 4 with (first | ((with_reducible refine gate_dst (N := 2) rfl ?_); refine box_event ?hg (N := 2) ?hd (cs := #[.int .i64 a0_0, .slice A0_1 l0_1.length c0_1]) (t := 25) ?hr ?_; (case hd => rfl); (case hg => rfl); (case hr => first | (go_simp; done) | (go_simp; rfl)); intro gb105 hg w9 hbox hb; have B05 := aM (hbox); have GW105 := aM ((by rw [hg]; exact (below_size (by (with_reducible apply_rules [HB.out, pA, pD, pE]))) : w.heap.size ≤ gb105)); have GE105 := aM ((by rw [hg]; exact (below_size (by (with_reducible apply_rules [HB.out, pA, pD, pE]))) : w.heap.size ≤ gb105)); replace HB := aM (pS_ (by (with_reducible apply_rules [HB.out, pA, pD, pE])) hb); clear hb hbox hg; have hcz10_0 : w9.cell? ⟨gb105, 0, none⟩ = some (.int .i64 a0_0) := (bE B05.out 0).trans rfl; have hcz10_1 : w9.cell? ⟨gb105, 1, none⟩ = some (.slice A0_1 l0_1.length c0_1) := (bE B05.out 1).trans rfl; have hfz10_0 := bF B05.out 0; have hfz10_1 := bF B05.out 1) | (go_at_call 58; (with_reducible refine (undo_enumerable.calls a0_0 _ _ l0_1 t106 _ ?side1 ?side2 A3.out).mono ?_); (case side1 => with_reducible apply_rules [(cD HR0_1.out HB.out), cA, cB, cC]); (case side2 => exact HC0_1.out); rintro e w11 ⟨rfl, hb⟩; replace B05 := aM (bD (g := gb105) (o := .cells #[.int .i64 a0_0, .slice A0_1 l0_1.length c0_1] 25 (0, 0)) (by with_reducible apply_rules [B05.out, bA, bB, bC]) hb); replace HB := aM (pS_ (by (with_reducible apply_rules [HB.out, pA, pD, pE, sT, GE105.out])) hb); (try clear hb); (try clear hb2); (try clear hk); (try clear hi)))
  repeat (go_quiet (fail)); try go_wp2
  (try simp only [Act.put, List.setIfInBounds_toArray, List.set_cons_zero, List.set_cons_succ])
  go_cut [17] (fun v17 wc => ∃ (kq : Nat) (x17_7 : Bool), v17 = .bool x17_7 ∧ Aside0 (undo_Dirty.j0 kq a1 t106 x17_7 a0_0 l0_1 = some (r1, r2)) ∧ Aside0 (kq ≤ k) ∧ Aside0 (wc.heap[gb105]? = some (.cells #[.int .i64 a0_0, (.slice A0_1 l0_1.length c0_1)] 25 (0, 0))) ∧ Aside0 (Below w.heap.size w wc))
  case first =>
   have H := HC8.out
   clear HC8
   by_cases c12 : a1 < 0
   ·rw [if_pos c12] at H
    have c12b0 : decide (a1 < 0) = true := decide_eq_true c12
    clear c12
    (first | rw [c12b0] | (simp only [i64_w, i32_w]; rw [c12b0]) | skip)
    have H' := aM H
    clear H
    go_wp2
    repeat (go_quiet (fail); try go_wp2)
    go_meet
    case rel => exact ⟨_, (true), (by first | rfl | (simp; done) | (simp [*]; done)), H', ⟨by first | omega | exact Nat.le_refl _⟩, ⟨by with_reducible apply_rules [B05.out, bA, bB, bC]⟩, ⟨by (with_reducible apply_rules [HB.out, pA, pD, pE, sT, GE105.out])⟩⟩
   ·rw [if_neg c12] at H
    have c12b0 : decide (a1 < 0) = false := decide_eq_false c12
    clear c12
    (first | rw [c12b0] | (simp only [i64_w, i32_w]; rw [c12b0]) | skip)
    have H' := aM H
    clear H
    have hcz13_0 : w11.cell? ⟨gb105, 0, none⟩ = some (.int .i64 a0_0) := (bE B05.out 0).trans rfl
    have hcz13_1 : w11.cell? ⟨gb105, 1, none⟩ = some (.slice A0_1 l0_1.length c0_1) := (bE B05.out 1).trans rfl
    have hfz13_0 := bF B05.out 0
    have hfz13_1 := bF B05.out 1
    go_wp2
    repeat (go_quiet (fail); try go_wp2)
    go_meet
    case rel => exact ⟨_, (decide (a1 ≥ a0_0)), (by first | rfl | (simp; done) | (simp [*]; done)), H', ⟨by first | omega | exact Nat.le_refl _⟩, ⟨by with_reducible apply_rules [B05.out, bA, bB, bC]⟩, ⟨by (with_reducible apply_rules [HB.out, pA, pD, pE, sT, GE105.out])⟩⟩
  case rest =>
   clear HC8
   try clear c1
   try clear c2
   try clear p2
   try clear c4
   try clear c4b0
   try clear c4b1
   try clear c12
   try clear c12b0
   try clear hcz10_0
   try clear hcz10_1
   try clear hcz13_0
   try clear hcz13_1
   try clear hcz6_0
   try clear hcz6_1
   try clear hfz10_0
   try clear hfz10_1
   try clear hfz13_0
   try clear hfz13_1
   try clear hfz6_0
   try clear hfz6_1
   obtain ⟨kq, x17_7, rfl, HA, HJ7, B05, HB⟩ := hcut
   cases kq with
   | zero => exact absurd HA.out (by simp [undo_Dirty.j0])
   | succ kj7 =>
    have H := HA.out
    clear HA
    simp only [undo_Dirty.j0] at H
    by_cases c14 : x17_7 = true
    ·subst c14
     have H1 : (some (([] : List Bool), 2)) = some (r1, r2) := by rw [if_pos rfl] at H; exact H
     clear H
     have H := H1
     clear H1
     simp only [Option.some.injEq, Prod.mk.injEq] at H
     obtain ⟨rfl, rfl⟩ := H
     go_wp2
     repeat (go_quiet (fail); try go_wp2)
     go_ret2
     exact ⟨_, by first | rfl | (simp [errW_none, errW_some] <;> rfl) | (simp [*, errW_none, errW_some] <;> rfl), by first | exact Kd.R_nil _ _ _ _ _ | exact Kd.N_nil _ _ _ _ _ | exact Kd.V_nil _ _ _ _ _ | exact Kd.Q_nil _ _ _ _ _ | exact Kd.S_nil _ _ _ _ _, by (with_reducible apply_rules [HB.out, pA, pD, pE, sT, GE105.out])⟩
    ·replace c14 := Bool.eq_false_iff.mpr c14
     subst c14
     have H1 : (if a1 > 12 then (some (([] : List Bool), 5)) else (if t106 = 0 then (if 0 ≤ a1 then (if 0 ≤ (shl .i64 1 a1) then (if (shl .i64 1 a1 : Int).toNat ≤ 281474976710656 then (if 0 ≤ a0_0 then (undo_Dirty.l0 kj7 a1 (List.replicate (shl .i64 1 a1 : Int).toNat false) (shl .i64 1 a0_0) 0 a0_0 l0_1) else (none)) else (none)) else (none)) else (none)) else (some (([] : List Bool), 5)))) = some (r1, r2) := by rw [if_neg (show ¬ (false = true) by decide)] at H; exact H
     clear H
     have H := H1
     clear H1
     by_cases c15 : a1 > 12
     ·rw [if_pos c15] at H
      have c15b0 : decide (12 < a1) = true := decide_eq_true c15
      clear c15
      simp only [Option.some.injEq, Prod.mk.injEq] at H
      obtain ⟨rfl, rfl⟩ := H
      go_wp2
      repeat (go_quiet (fail); try go_wp2)
      go_ret2
      exact ⟨_, by first | rfl | (simp [errW_none, errW_some] <;> rfl) | (simp [*, errW_none, errW_some] <;> rfl), by first | exact Kd.R_nil _ _ _ _ _ | exact Kd.N_nil _ _ _ _ _ | exact Kd.V_nil _ _ _ _ _ | exact Kd.Q_nil _ _ _ _ _ | exact Kd.S_nil _ _ _ _ _, by (with_reducible apply_rules [HB.out, pA, pD, pE, sT, GE105.out])⟩
     ·rw [if_neg c15] at H
      have c15b0 : decide (12 < a1) = false := decide_eq_false c15
      clear c15
      by_cases c16 : t106 = 0
      ·rw [if_pos c16] at H
       have c16b0 : (t106 == 0) = true := beq_iff_eq.mpr c16
       have c16b1 : (t106 != 0) = false := bne_eq_false_iff_eq.mpr c16
       clear c16
       by_cases c17 : 0 ≤ a1
       ·rw [if_pos c17] at H
        have c17b0 := eq_true c17
        have c17b1 : decide (0 ≤ a1) = true := decide_eq_true c17
        clear c17
        obtain ⟨ji18, hji18⟩ : ∃ j_ : Int, (shl .i64 1 a1) = j_ := ⟨_, rfl⟩
        replace H : (if 0 ≤ (ji18) then (if (ji18 : Int).toNat ≤ 281474976710656 then (if 0 ≤ a0_0 then (undo_Dirty.l0 kj7 a1 (List.replicate (ji18 : Int).toNat false) (shl .i64 1 a0_0) 0 a0_0 l0_1) else (none)) else (none)) else (none)) = some (r1, r2) := by first | (rw [hji18] at H; exact H) | (simp only [hji18] at H ⊢; exact H)
        have hji18_ : (IntKind.i64.wrap (1 * 2 ^ min a1.toNat 64)) = ji18 := hji18
        have hji18z : a1 ≤ 64 → (IntKind.i64.wrap (1 * 2 ^ a1.toNat)) = ji18 := shl_small hji18
        have hji18u : (IntKind.i64.wrap (2 ^ min a1.toNat 64)) = ji18 := by have h_ := hji18_; rw [Int.one_mul] at h_; exact h_
        have hji18v : a1 ≤ 64 → (IntKind.i64.wrap (2 ^ a1.toNat)) = ji18 := fun hle_ => by have h_ := hji18z hle_; rw [Int.one_mul] at h_; exact h_
        have hji18y : (wrap64 (1 * 2 ^ min a1.toNat 64)) = ji18 := (i64_w _).symm.trans hji18_
        have hji18x : a1 ≤ 64 → (wrap64 (1 * 2 ^ a1.toNat)) = ji18 := fun h_ => (i64_w _).symm.trans (hji18z h_)
        by_cases c19 : 0 ≤ (ji18)
        ·rw [if_pos c19] at H
         have c19b0 := eq_true c19
         have c19b1 : decide (0 ≤ (ji18)) = true := decide_eq_true c19
         clear c19
         by_cases c20 : (ji18 : Int).toNat ≤ 281474976710656
         ·rw [if_pos c20] at H
          have c20b0 := eq_true c20
          have c20b1 : decide ((ji18 : Int).toNat ≤ 281474976710656) = true := decide_eq_true c20
          clear c20
          obtain ⟨y107, hy107⟩ : ∃ y_ : List Bool, y_ = (List.replicate (ji18 : Int).toNat false) := ⟨_, rfl⟩
          replace H : (if 0 ≤ a0_0 then (undo_Dirty.l0 kj7 a1 y107 (shl .i64 1 a0_0) 0 a0_0 l0_1) else (none)) = some (r1, r2) := by first | (rw [hy107]; with_reducible exact H) | (have H2_ := (Option.bind_some _ _).symm.trans H; rw [hy107]; with_reducible exact H2_) | (have H2_ := (Option.bind_some _ _).symm.trans H; with_reducible exact H2_) | with_reducible exact H | (rw [hy107]; exact H) | exact H
          have Ny107 := aM hy107
          clear hy107
          by_cases c21 : 0 ≤ a0_0
          ·rw [if_pos c21] at H
           have c21b0 := eq_true c21
           have c21b1 : decide (0 ≤ a0_0) = true := decide_eq_true c21
           clear c21
           obtain ⟨ji22, hji22⟩ : ∃ j_ : Int, (shl .i64 1 a0_0) = j_ := ⟨_, rfl⟩
           replace H : (undo_Dirty.l0 kj7 a1 y107 ji22 0 a0_0 l0_1) = some (r1, r2) := by first | (rw [hji22] at H; exact H) | (simp only [hji22] at H ⊢; exact H)
           have hji22_ : (IntKind.i64.wrap (1 * 2 ^ min a0_0.toNat 64)) = ji22 := hji22
           have hji22z : a0_0 ≤ 64 → (IntKind.i64.wrap (1 * 2 ^ a0_0.toNat)) = ji22 := shl_small hji22
           have hji22u : (IntKind.i64.wrap (2 ^ min a0_0.toNat 64)) = ji22 := by have h_ := hji22_; rw [Int.one_mul] at h_; exact h_
           have hji22v : a0_0 ≤ 64 → (IntKind.i64.wrap (2 ^ a0_0.toNat)) = ji22 := fun hle_ => by have h_ := hji22z hle_; rw [Int.one_mul] at h_; exact h_
           have hji22y : (wrap64 (1 * 2 ^ min a0_0.toNat 64)) = ji22 := (i64_w _).symm.trans hji22_
           have hji22x : a0_0 ≤ 64 → (wrap64 (1 * 2 ^ a0_0.toNat)) = ji22 := fun h_ => (i64_w _).symm.trans (hji22z h_)
           have H' := aM H
           clear H
           go_wp2_with (first | ((with_reducible refine gate_dst (N := 35) rfl ?_); refine Kd.R_make Kd.bool _ 4 rfl (N := 35) rfl 34 _ _ rfl ji18 rfl rfl Tryd.underlying34 (.bool false) 1 info4 rfl (by decide) (by omega) false (ok := fun _ => True) (okp := fun _ => True) rfl (fun _ hk => hk) trivial (of_decide_eq_true (by assumption)) (Nat.le_trans (Nat.mul_le_mul_right _ (of_decide_eq_true (by assumption) : ji18.toNat ≤ 281474976710656)) (by omega)) (Below.refl _ _) (Nat.le_refl _) ?_; intro v108 w23 ho24 hb hg_ hnew_; clear hg_ hnew_; (first | rw [← Ny107.out] at ho24 | (simp only [Int.reduceToNat] at ho24; rw [← Ny107.out] at ho24)); have HO109 := aM (Kd.R_lower ho24 (below_size (by (with_reducible apply_rules [HB.out, pA, pD, pE, sT, GE105.out])))); replace B05 := aM (bD (g := gb105) (o := .cells #[.int .i64 a0_0, .slice A0_1 l0_1.length c0_1] 25 (0, 0)) (by with_reducible apply_rules [B05.out, bA, bB, bC]) hb); replace HB := aM (pS_ (by (with_reducible apply_rules [HB.out, pA, pD, pE, sT, GE105.out])) hb); clear hb ho24; have hcz25_0 : w23.cell? ⟨gb105, 0, none⟩ = some (.int .i64 a0_0) := (bE B05.out 0).trans rfl; have hcz25_1 : w23.cell? ⟨gb105, 1, none⟩ = some (.slice A0_1 l0_1.length c0_1) := (bE B05.out 1).trans rfl; have hfz25_0 := bF B05.out 0; have hfz25_1 := bF B05.out 1))
           repeat (go_quiet (fail)); try go_wp2
           go_loopg [39] kj7 (fun kq v39 w' => ∃ (x7_2 : List Bool) (x39_2 : Int), v39 = .int .i64 x39_2 ∧ Aside0 (undo_Dirty.l0 kq a1 x7_2 ji22 x39_2 a0_0 l0_1 = some (r1, r2)) ∧ Aside0 (kq ≤ kj7) ∧ Aside0 (Kd.R Kd.bool 4 w' w.heap.size (fun _ => True) v108 x7_2) ∧ Aside0 (w'.heap[gb105]? = some (.cells #[.int .i64 a0_0, (.slice A0_1 l0_1.length c0_1)] 25 (0, 0))) ∧ Aside0 (Below w.heap.size w w'))
           case atStart => exact ⟨(y107), (0), (by first | rfl | (simp; done) | (simp [*]; done)), H', ⟨Nat.le_refl _⟩, ⟨by with_reducible apply_rules [HO109.out, rA, rB, rC]⟩, ⟨by with_reducible apply_rules [B05.out, bA, bB, bC]⟩, ⟨by (with_reducible apply_rules [HB.out, pA, pD, pE, sT, GE105.out])⟩⟩
           case round =>
            clear H'
            try clear c1
            try clear c2
            try clear p2
            try clear c4
            try clear c4b0
            try clear c4b1
            try clear p6
            try clear c12
            try clear c12b0
            try clear c14
            try clear c15
            try clear c15b0
            try clear c16
            try clear c16b0
            try clear c16b1
            try clear c17
            try clear c17b0
            try clear c17b1
            try clear c19
            try clear c19b0
            try clear c19b1
            try clear c20
            try clear c20b0
            try clear c20b1
            try clear c21
            try clear c21b0
            try clear c21b1
            try clear c25
            try clear hcz10_0
            try clear hcz10_1
            try clear hcz13_0
            try clear hcz13_1
            try clear hcz25_0
            try clear hcz25_1
            try clear hcz6_0
            try clear hcz6_1
            try clear hfz10_0
            try clear hfz10_1
            try clear hfz13_0
            try clear hfz13_1
            try clear hfz25_0
            try clear hfz25_1
            try clear hfz6_0
            try clear hfz6_1
            try clear p2
            obtain ⟨x7_2, x39_2, rfl, HA, HK2, HO_7, B05, HB⟩ := hrel
            cases gk with
            | zero => exact absurd HA.out (by simp [undo_Dirty.l0])
            | succ k2 =>
             have H := HA.out
             clear HA
             simp only [undo_Dirty.l0] at H
             by_cases c26 : x39_2 < ji22
             ·rw [if_pos c26] at H
              have c26b0 : decide (x39_2 < ji22) = true := decide_eq_true c26
              clear c26
              replace H := Option.bind_eq_some_iff.mp H
              obtain ⟨t110, A270, H⟩ := H
              replace H : (if x39_2 < (x7_2.length : Int) then (if 0 ≤ a1 then (if 0 ≤ (Go.bits .and .i64 x39_2 (wrap64 ((x7_2.length : Int) - 1))) then (if (Go.bits .and .i64 x39_2 (wrap64 ((x7_2.length : Int) - 1))) < (x7_2.length : Int) then ((some (x7_2.set ((Go.bits .and .i64 x39_2 (wrap64 ((x7_2.length : Int) - 1))) : Int).toNat ((Go.bits .and .i64 (shr .i64 (Go.bits .xor .i64 x39_2 t110) a1) 1) == 1) : List Bool)).bind fun y111 => (if (Go.bits .andNot .i64 (Go.bits .xor .i64 x39_2 t110) (shl .i64 1 a1)) = 0 then (if ((rdOf false y111 (Go.bits .and .i64 x39_2 (wrap64 ((x7_2.length : Int) - 1)))) != ((Go.bits .and .i64 (shr .i64 (Go.bits .xor .i64 x39_2 t110) a1) 1) == 1)) = true then (some (([] : List Bool), 6)) else (undo_Dirty.l0 k2 a1 y111 ji22 (wrap64 (x39_2 + 1)) a0_0 l0_1)) else (some (([] : List Bool), 6)))) else (none)) else (none)) else (none)) else (if 0 ≤ a1 then (if (Go.bits .andNot .i64 (Go.bits .xor .i64 x39_2 t110) (shl .i64 1 a1)) = 0 then (if 0 ≤ (Go.bits .and .i64 x39_2 (wrap64 ((x7_2.length : Int) - 1))) then (if (Go.bits .and .i64 x39_2 (wrap64 ((x7_2.length : Int) - 1))) < (x7_2.length : Int) then (if ((rdOf false x7_2 (Go.bits .and .i64 x39_2 (wrap64 ((x7_2.length : Int) - 1)))) != ((Go.bits .and .i64 (shr .i64 (Go.bits .xor .i64 x39_2 t110) a1) 1) == 1)) = true then (some (([] : List Bool), 6)) else (undo_Dirty.l0 k2 a1 x7_2 ji22 (wrap64 (x39_2 + 1)) a0_0 l0_1)) else (none)) else (none)) else (some (([] : List Bool), 6))) else (none))) = some (r1, r2) := H
              have A27 := aM A270
              clear A270
              by_cases c28 : x39_2 < (x7_2.length : Int)
              ·rw [if_pos c28] at H
               have c28b0 : decide (x39_2 < (x7_2.length : Int)) = true := decide_eq_true c28
               clear c28
               by_cases c29 : 0 ≤ a1
               ·rw [if_pos c29] at H
                have c29b0 := eq_true c29
                have c29b1 : decide (0 ≤ a1) = true := decide_eq_true c29
                clear c29
                obtain ⟨ji30, hji30⟩ : ∃ j_ : Int, (shr .i64 (Go.bits .xor .i64 x39_2 t110) a1) = j_ := ⟨_, rfl⟩
                replace H : (if 0 ≤ (Go.bits .and .i64 x39_2 (wrap64 ((x7_2.length : Int) - 1))) then (if (Go.bits .and .i64 x39_2 (wrap64 ((x7_2.length : Int) - 1))) < (x7_2.length : Int) then ((some (x7_2.set ((Go.bits .and .i64 x39_2 (wrap64 ((x7_2.length : Int) - 1))) : Int).toNat ((Go.bits .and .i64 (ji30) 1) == 1) : List Bool)).bind fun y111 => (if (Go.bits .andNot .i64 (Go.bits .xor .i64 x39_2 t110) (shl .i64 1 a1)) = 0 then (if ((rdOf false y111 (Go.bits .and .i64 x39_2 (wrap64 ((x7_2.length : Int) - 1)))) != ((Go.bits .and .i64 (ji30) 1) == 1)) = true then (some (([] : List Bool), 6)) else (undo_Dirty.l0 k2 a1 y111 ji22 (wrap64 (x39_2 + 1)) a0_0 l0_1)) else (some (([] : List Bool), 6)))) else (none)) else (none)) = some (r1, r2) := by first | (rw [hji30] at H; exact H) | (simp only [hji30] at H ⊢; exact H)
                (try rw [hji30] at A27)
                have hji30_ : ((Go.bits .xor .i64 x39_2 t110) / 2 ^ min a1.toNat 64) = ji30 := hji30
                have hji30z : a1 ≤ 64 → ((Go.bits .xor .i64 x39_2 t110) / 2 ^ a1.toNat) = ji30 := shr_small hji30
                obtain ⟨ji31, hji31⟩ : ∃ j_ : Int, (Go.bits .and .i64 x39_2 (wrap64 ((x7_2.length : Int) - 1))) = j_ := ⟨_, rfl⟩
                replace H : (if 0 ≤ (ji31) then (if (ji31) < (x7_2.length : Int) then ((some (x7_2.set ((ji31) : Int).toNat ((Go.bits .and .i64 (ji30) 1) == 1) : List Bool)).bind fun y111 => (if (Go.bits .andNot .i64 (Go.bits .xor .i64 x39_2 t110) (shl .i64 1 a1)) = 0 then (if ((rdOf false y111 (ji31)) != ((Go.bits .and .i64 (ji30) 1) == 1)) = true then (some (([] : List Bool), 6)) else (undo_Dirty.l0 k2 a1 y111 ji22 (wrap64 (x39_2 + 1)) a0_0 l0_1)) else (some (([] : List Bool), 6)))) else (none)) else (none)) = some (r1, r2) := by first | (rw [hji31] at H; exact H) | (simp only [hji31] at H ⊢; exact H)
                (try rw [hji31] at A27)
                by_cases c32 : 0 ≤ (ji31)
                ·rw [if_pos c32] at H
                 have c32b0 : decide (0 ≤ (ji31)) = true := decide_eq_true c32
                 clear c32
                 by_cases c33 : (ji31) < (x7_2.length : Int)
                 ·rw [if_pos c33] at H
                  have c33b0 : decide ((ji31) < (x7_2.length : Int)) = true := decide_eq_true c33
                  clear c33
                  obtain ⟨y111, hy111⟩ : ∃ y_ : List Bool, y_ = (x7_2.set ((ji31) : Int).toNat ((Go.bits .and .i64 (ji30) 1) == 1)) := ⟨_, rfl⟩
                  replace H : (if (Go.bits .andNot .i64 (Go.bits .xor .i64 x39_2 t110) (shl .i64 1 a1)) = 0 then (if ((rdOf false y111 (ji31)) != ((Go.bits .and .i64 (ji30) 1) == 1)) = true then (some (([] : List Bool), 6)) else (undo_Dirty.l0 k2 a1 y111 ji22 (wrap64 (x39_2 + 1)) a0_0 l0_1)) else (some (([] : List Bool), 6))) = some (r1, r2) := by first | (rw [hy111]; with_reducible exact H) | (have H2_ := (Option.bind_some _ _).symm.trans H; rw [hy111]; with_reducible exact H2_) | (have H2_ := (Option.bind_some _ _).symm.trans H; with_reducible exact H2_) | with_reducible exact H | (rw [hy111]; exact H) | exact H
                  have Ny111 := aM hy111
                  clear hy111
                  have c35b0 := eq_true (of_decide_eq_true (by assumption) : 0 ≤ a1)
                  obtain ⟨ji36, hji36⟩ : ∃ j_ : Int, (shl .i64 1 a1) = j_ := ⟨_, rfl⟩
                  obtain rfl : ji36 = ji18 := hji36.symm.trans hji18
                  replace H : (if (Go.bits .andNot .i64 (Go.bits .xor .i64 x39_2 t110) (ji36)) = 0 then (if ((rdOf false y111 (ji31)) != ((Go.bits .and .i64 (ji30) 1) == 1)) = true then (some (([] : List Bool), 6)) else (undo_Dirty.l0 k2 a1 y111 ji22 (wrap64 (x39_2 + 1)) a0_0 l0_1)) else (some (([] : List Bool), 6))) = some (r1, r2) := by first | (rw [hji36] at H; exact H) | (simp only [hji36] at H ⊢; exact H)
                  (try rw [hji36] at A27)
                  have hji36_ : (IntKind.i64.wrap (1 * 2 ^ min a1.toNat 64)) = ji36 := hji36
                  have hji36z : a1 ≤ 64 → (IntKind.i64.wrap (1 * 2 ^ a1.toNat)) = ji36 := shl_small hji36
                  have hji36u : (IntKind.i64.wrap (2 ^ min a1.toNat 64)) = ji36 := by have h_ := hji36_; rw [Int.one_mul] at h_; exact h_
                  have hji36v : a1 ≤ 64 → (IntKind.i64.wrap (2 ^ a1.toNat)) = ji36 := fun hle_ => by have h_ := hji36z hle_; rw [Int.one_mul] at h_; exact h_
                  have hji36y : (wrap64 (1 * 2 ^ min a1.toNat 64)) = ji36 := (i64_w _).symm.trans hji36_
                  have hji36x : a1 ≤ 64 → (wrap64 (1 * 2 ^ a1.toNat)) = ji36 := fun h_ => (i64_w _).symm.trans (hji36z h_)
                  by_cases c37 : (Go.bits .andNot .i64 (Go.bits .xor .i64 x39_2 t110) (ji36)) = 0
                  ·rw [if_pos c37] at H
                   have c37b0 : ((Go.bits .andNot .i64 (Go.bits .xor .i64 x39_2 t110) (ji36)) == 0) = true := beq_iff_eq.mpr c37
                   have c37b1 : ((Go.bits .andNot .i64 (Go.bits .xor .i64 x39_2 t110) (ji36)) != 0) = false := bne_eq_false_iff_eq.mpr c37
                   clear c37
                   have c38b0 := eq_true (of_decide_eq_true (by assumption) : 0 ≤ a1)
                   have c39b0 := eq_true (of_decide_eq_true (by assumption) : 0 ≤ (ji31))
                   by_cases c40 : ((rdOf false y111 (ji31)) != ((Go.bits .and .i64 (ji30) 1) == 1)) = true
                   ·rw [if_pos c40] at H
                    have c40b0 : ((rdOf false y111 (ji31)) != ((Go.bits .and .i64 (ji30) 1) == 1)) = true := c40
                    (try (have c40b1 : decide ((rdOf false y111 (ji31)) = ((Go.bits .and .i64 (ji30) 1) == 1)) = false := by simpa using c40))
                    (try (have c40b2 : ((rdOf false y111 (ji31)) == ((Go.bits .and .i64 (ji30) 1) == 1)) = false := by simpa using c40))
                    (try (have c40b3 : ¬ ((rdOf false y111 (ji31)) = ((Go.bits .and .i64 (ji30) 1) == 1)) := by simpa using c40))
                    clear c40
                    simp only [Option.some.injEq, Prod.mk.injEq] at H
                    obtain ⟨rfl, rfl⟩ := H
                    have hcz41_0 : wr.cell? ⟨gb105, 0, none⟩ = some (.int .i64 a0_0) := (bE B05.out 0).trans rfl
                    have hcz41_1 : wr.cell? ⟨gb105, 1, none⟩ = some (.slice A0_1 l0_1.length c0_1) := (bE B05.out 1).trans rfl
                    have hfz41_0 := bF B05.out 0
                    have hfz41_1 := bF B05.out 1
                    go_wp2_with (first | (go_at_call 59; (with_reducible refine (undo_final.calls k2 _ _ l0_1 x39_2 t110 _ ?side1 ?side2 A27.out).mono ?_); (case side1 => with_reducible apply_rules [(cD HR0_1.out HB.out), cA, cB, cC]); (case side2 => exact HC0_1.out); rintro e w42 ⟨rfl, hb⟩; replace HO_7 := aM (rD (by with_reducible apply_rules [HO_7.out, rA, rB, rC]) hb); replace B05 := aM (bD (g := gb105) (o := .cells #[.int .i64 a0_0, .slice A0_1 l0_1.length c0_1] 25 (0, 0)) (by with_reducible apply_rules [B05.out, bA, bB, bC]) hb); replace HB := aM (pS_ (by (with_reducible apply_rules [HB.out, pA, pD, pE, sT, GE105.out])) hb); (try clear hb); (try clear hb2); (try clear hk); (try clear hi); obtain ⟨Ao43, co43, eo43⟩ := Kd.R_slice HO_7.out; subst eo43; have p34 : 0 ≤ ((ji31) : Int) := of_decide_eq_true (by assumption); have q34 : ((ji31) : Int) < ((x7_2.length : Int) : Int) := of_decide_eq_true (by assumption); obtain ⟨go34, co34, eo34, gb34, gl34, cl34, HG34⟩ := Kd.R_form HO_7.out (by omega); (first | cases eo34 | (injection eo34 with ea_ en_ ec_; (first | subst ea_ | (injection ea_ with ea_; subst ea_)); subst ec_; clear en_)); have GB34 := aM gb34; have GG34 := aM HG34; clear gb34 gl34 HG34; obtain ⟨hx34_0, hf34_0⟩ := Kd.R_celln false HO_7.out ((ji31) : Int) p34 q34; replace p34 := eq_true p34; replace q34 := eq_true q34; obtain ⟨hy44_, hz44_⟩ := Kd.R_celln false HO_7.out ((ji31) : Int) (of_decide_eq_true (by assumption)) (of_decide_eq_true (by assumption)); have HP44 := Kd.R_putg HO_7.out ((ji31) : Int) ((Go.bits .and .i64 (ji30) 1) == 1)) | ((with_reducible refine gate_store (t := 4) (p := 64) rfl ?_); (try (rw [drewN_self w42]; generalize hq_ : World.drewN w42 _ = w42; replace HO_7 := aM (Kd.R_at hq_ HO_7.out); replace B05 := aM (blk_at hq_ B05.out); replace HB := aM (below_at hq_ HB.out); clear hq_; (try (obtain ⟨hy44_, hz44_⟩ := Kd.R_celln false HO_7.out ((ji31) : Int) (of_decide_eq_true (by assumption)) (of_decide_eq_true (by assumption)))); (try (have HP44 := Kd.R_putg HO_7.out ((ji31) : Int) ((Go.bits .and .i64 (ji30) 1) == 1))))); refine store_event (t := 4) (p := 64) (v := ?vo_w45) (w1 := (w42.setCell ⟨go34, ((ji31) : Int).toNat, none⟩ (.bool ((Go.bits .and .i64 (ji30) 1) == 1)))) ?hg ?ho ?hn ?hr ?_; (case ho => rfl); (case hg => rfl); (case hn => rfl); (case hr => first | (go_simp; done) | (go_simp; rfl)); intro w45 hw; have hg : w42.grownBy w45 (some go34) := (by rw [hw]; exact HP44.2); have hp_ : Kd.R Kd.bool 4 w45 w.heap.size (fun _ => True) (.slice (some ⟨go34, 0, none⟩) x7_2.length co43) y111 := (by rw [hw, Ny111.out]; exact HP44.1); clear HP44; have n0_ := aM (hp_); have n1_ := aM (blk_grown (g := gb105) (o := .cells #[.int .i64 a0_0, .slice A0_1 l0_1.length c0_1] 25 (0, 0)) (by with_reducible apply_rules [B05.out, bA, bB, bC]) hg (Kd.R_ne HO_7.out B05.out (by decide))); have n2_ := aM ((by rw [hw]; exact sT (HB.out) GB34.out : Below w.heap.size w w45)); clear HO_7 B05 HB; have HO_7 := n0_; have B05 := n1_; have HB := n2_; clear n0_ n1_ n2_; clear hg hw hp_; have p112 : 0 ≤ ((ji31) : Int) := of_decide_eq_true (by assumption); have q112 : (ji31) < (y111.length : Int) := (by have h_ : ((ji31) : Int) < ((x7_2.length : Int) : Int) := of_decide_eq_true (by assumption); first | (have e_ := (Kd.R_reads' HO_7.out).1; omega) | simpa only [Ny111.out, List.length_set] using h_); have ql112 : (((ji31) : Int) < ((x7_2.length : Int) : Int)) = True := eq_true (of_decide_eq_true (by assumption)); obtain ⟨ad112, e112, hx112_0⟩ := Kd.at_bool (Kd.R_reads' HO_7.out).2.2 (ji31) p112 q112; obtain rfl : (⟨go34, 0, none⟩ : Addr) = ad112 := (by injection e112); (first | simp only [add_plain] at hx112_0 | simp only [add_at] at hx112_0 | simp only [Addr.add, Nat.zero_add] at hx112_0 | skip); replace p112 := eq_true p112; replace q112 := eq_true q112))
                    repeat (go_quiet (fail)); try go_wp2
                    go_ret2
                    exact ⟨_, by first | rfl | (simp [errW_none, errW_some] <;> rfl) | (simp only [← hji18, ← hji22, ← hji30, ← hji31, ← hji36]; first | rfl | (simp [errW_none, errW_some] <;> rfl)) | (simp [*, errW_none, errW_some] <;> rfl), by first | exact Kd.R_nil _ _ _ _ _ | exact Kd.N_nil _ _ _ _ _ | exact Kd.V_nil _ _ _ _ _ | exact Kd.Q_nil _ _ _ _ _ | exact Kd.S_nil _ _ _ _ _, by (with_reducible apply_rules [HB.out, pA, pD, pE, sT, GE105.out])⟩
                   ·rw [if_neg c40] at H
                    have c40b0 : ((rdOf false y111 (ji31)) != ((Go.bits .and .i64 (ji30) 1) == 1)) = false := by simpa using c40
                    (try (have c40b1 : decide ((rdOf false y111 (ji31)) = ((Go.bits .and .i64 (ji30) 1) == 1)) = true := by simpa using c40))
                    (try (have c40b2 : ((rdOf false y111 (ji31)) == ((Go.bits .and .i64 (ji30) 1) == 1)) = true := by simpa using c40))
                    clear c40
                    have H' := aM H
                    clear H
                    have hcz46_0 : wr.cell? ⟨gb105, 0, none⟩ = some (.int .i64 a0_0) := (bE B05.out 0).trans rfl
                    have hcz46_1 : wr.cell? ⟨gb105, 1, none⟩ = some (.slice A0_1 l0_1.length c0_1) := (bE B05.out 1).trans rfl
                    have hfz46_0 := bF B05.out 0
                    have hfz46_1 := bF B05.out 1
                    go_wp2_with (first | (go_at_call 59; (with_reducible refine (undo_final.calls k2 _ _ l0_1 x39_2 t110 _ ?side1 ?side2 A27.out).mono ?_); (case side1 => with_reducible apply_rules [(cD HR0_1.out HB.out), cA, cB, cC]); (case side2 => exact HC0_1.out); rintro e w47 ⟨rfl, hb⟩; replace HO_7 := aM (rD (by with_reducible apply_rules [HO_7.out, rA, rB, rC]) hb); replace B05 := aM (bD (g := gb105) (o := .cells #[.int .i64 a0_0, .slice A0_1 l0_1.length c0_1] 25 (0, 0)) (by with_reducible apply_rules [B05.out, bA, bB, bC]) hb); replace HB := aM (pS_ (by (with_reducible apply_rules [HB.out, pA, pD, pE, sT, GE105.out])) hb); (try clear hb); (try clear hb2); (try clear hk); (try clear hi); obtain ⟨Ao48, co48, eo48⟩ := Kd.R_slice HO_7.out; subst eo48; have p34 : 0 ≤ ((ji31) : Int) := of_decide_eq_true (by assumption); have q34 : ((ji31) : Int) < ((x7_2.length : Int) : Int) := of_decide_eq_true (by assumption); obtain ⟨go34, co34, eo34, gb34, gl34, cl34, HG34⟩ := Kd.R_form HO_7.out (by omega); (first | cases eo34 | (injection eo34 with ea_ en_ ec_; (first | subst ea_ | (injection ea_ with ea_; subst ea_)); subst ec_; clear en_)); have GB34 := aM gb34; have GG34 := aM HG34; clear gb34 gl34 HG34; obtain ⟨hx34_0, hf34_0⟩ := Kd.R_celln false HO_7.out ((ji31) : Int) p34 q34; replace p34 := eq_true p34; replace q34 := eq_true q34; obtain ⟨hy49_, hz49_⟩ := Kd.R_celln false HO_7.out ((ji31) : Int) (of_decide_eq_true (by assumption)) (of_decide_eq_true (by assumption)); have HP49 := Kd.R_putg HO_7.out ((ji31) : Int) ((Go.bits .and .i64 (ji30) 1) == 1)) | ((with_reducible refine gate_store (t := 4) (p := 64) rfl ?_); (try (rw [drewN_self w47]; generalize hq_ : World.drewN w47 _ = w47; replace HO_7 := aM (Kd.R_at hq_ HO_7.out); replace B05 := aM (blk_at hq_ B05.out); replace HB := aM (below_at hq_ HB.out); clear hq_; (try (obtain ⟨hy49_, hz49_⟩ := Kd.R_celln false HO_7.out ((ji31) : Int) (of_decide_eq_true (by assumption)) (of_decide_eq_true (by assumption)))); (try (have HP49 := Kd.R_putg HO_7.out ((ji31) : Int) ((Go.bits .and .i64 (ji30) 1) == 1))))); refine store_event (t := 4) (p := 64) (v := ?vo_w50) (w1 := (w47.setCell ⟨go34, ((ji31) : Int).toNat, none⟩ (.bool ((Go.bits .and .i64 (ji30) 1) == 1)))) ?hg ?ho ?hn ?hr ?_; (case ho => rfl); (case hg => rfl); (case hn => rfl); (case hr => first | (go_simp; done) | (go_simp; rfl)); intro w50 hw; have hg : w47.grownBy w50 (some go34) := (by rw [hw]; exact HP49.2); have hp_ : Kd.R Kd.bool 4 w50 w.heap.size (fun _ => True) (.slice (some ⟨go34, 0, none⟩) x7_2.length co48) y111 := (by rw [hw, Ny111.out]; exact HP49.1); clear HP49; have n0_ := aM (hp_); have n1_ := aM (blk_grown (g := gb105) (o := .cells #[.int .i64 a0_0, .slice A0_1 l0_1.length c0_1] 25 (0, 0)) (by with_reducible apply_rules [B05.out, bA, bB, bC]) hg (Kd.R_ne HO_7.out B05.out (by decide))); have n2_ := aM ((by rw [hw]; exact sT (HB.out) GB34.out : Below w.heap.size w w50)); clear HO_7 B05 HB; have HO_7 := n0_; have B05 := n1_; have HB := n2_; clear n0_ n1_ n2_; clear hg hw hp_; have p112 : 0 ≤ ((ji31) : Int) := of_decide_eq_true (by assumption); have q112 : (ji31) < (y111.length : Int) := (by have h_ : ((ji31) : Int) < ((x7_2.length : Int) : Int) := of_decide_eq_true (by assumption); first | (have e_ := (Kd.R_reads' HO_7.out).1; omega) | simpa only [Ny111.out, List.length_set] using h_); have ql112 : (((ji31) : Int) < ((x7_2.length : Int) : Int)) = True := eq_true (of_decide_eq_true (by assumption)); obtain ⟨ad112, e112, hx112_0⟩ := Kd.at_bool (Kd.R_reads' HO_7.out).2.2 (ji31) p112 q112; obtain rfl : (⟨go34, 0, none⟩ : Addr) = ad112 := (by injection e112); (first | simp only [add_plain] at hx112_0 | simp only [add_at] at hx112_0 | simp only [Addr.add, Nat.zero_add] at hx112_0 | skip); replace p112 := eq_true p112; replace q112 := eq_true q112))
                    repeat (go_quiet (fail)); try go_wp2
                    go_roundg k2
                    case measure => have := HJ7.out; have := HK2.out; omega
                    case rel => exact ⟨(y111), (wrap64 (x39_2 + 1)), (by first | rfl | (simp; done) | (simp [*]; done)), H', ⟨by have := HJ7.out; have := HK2.out; omega⟩, ⟨by with_reducible apply_rules [HO_7.out, rA, rB, rC]⟩, ⟨by with_reducible apply_rules [B05.out, bA, bB, bC]⟩, ⟨by (with_reducible apply_rules [HB.out, pA, pD, pE, sT, GE105.out])⟩⟩
                  ·rw [if_neg c37] at H
                   have c37b0 : ((Go.bits .andNot .i64 (Go.bits .xor .i64 x39_2 t110) (ji36)) == 0) = false := beq_eq_false_iff_ne.mpr c37
                   have c37b1 : ((Go.bits .andNot .i64 (Go.bits .xor .i64 x39_2 t110) (ji36)) != 0) = true := bne_iff_ne.mpr c37
                   simp only [Option.some.injEq, Prod.mk.injEq] at H
                   obtain ⟨rfl, rfl⟩ := H
                   have hcz51_0 : wr.cell? ⟨gb105, 0, none⟩ = some (.int .i64 a0_0) := (bE B05.out 0).trans rfl
                   have hcz51_1 : wr.cell? ⟨gb105, 1, none⟩ = some (.slice A0_1 l0_1.length c0_1) := (bE B05.out 1).trans rfl
                   have hfz51_0 := bF B05.out 0
                   have hfz51_1 := bF B05.out 1
                   go_wp2_with (first | (go_at_call 59; (with_reducible refine (undo_final.calls k2 _ _ l0_1 x39_2 t110 _ ?side1 ?side2 A27.out).mono ?_); (case side1 => with_reducible apply_rules [(cD HR0_1.out HB.out), cA, cB, cC]); (case side2 => exact HC0_1.out); rintro e w52 ⟨rfl, hb⟩; replace HO_7 := aM (rD (by with_reducible apply_rules [HO_7.out, rA, rB, rC]) hb); replace B05 := aM (bD (g := gb105) (o := .cells #[.int .i64 a0_0, .slice A0_1 l0_1.length c0_1] 25 (0, 0)) (by with_reducible apply_rules [B05.out, bA, bB, bC]) hb); replace HB := aM (pS_ (by (with_reducible apply_rules [HB.out, pA, pD, pE, sT, GE105.out])) hb); (try clear hb); (try clear hb2); (try clear hk); (try clear hi); obtain ⟨Ao53, co53, eo53⟩ := Kd.R_slice HO_7.out; subst eo53; have p34 : 0 ≤ ((ji31) : Int) := of_decide_eq_true (by assumption); have q34 : ((ji31) : Int) < ((x7_2.length : Int) : Int) := of_decide_eq_true (by assumption); obtain ⟨go34, co34, eo34, gb34, gl34, cl34, HG34⟩ := Kd.R_form HO_7.out (by omega); (first | cases eo34 | (injection eo34 with ea_ en_ ec_; (first | subst ea_ | (injection ea_ with ea_; subst ea_)); subst ec_; clear en_)); have GB34 := aM gb34; have GG34 := aM HG34; clear gb34 gl34 HG34; obtain ⟨hx34_0, hf34_0⟩ := Kd.R_celln false HO_7.out ((ji31) : Int) p34 q34; replace p34 := eq_true p34; replace q34 := eq_true q34; obtain ⟨hy54_, hz54_⟩ := Kd.R_celln false HO_7.out ((ji31) : Int) (of_decide_eq_true (by assumption)) (of_decide_eq_true (by assumption)); have HP54 := Kd.R_putg HO_7.out ((ji31) : Int) ((Go.bits .and .i64 (ji30) 1) == 1)) | ((with_reducible refine gate_store (t := 4) (p := 64) rfl ?_); (try (rw [drewN_self w52]; generalize hq_ : World.drewN w52 _ = w52; replace HO_7 := aM (Kd.R_at hq_ HO_7.out); replace B05 := aM (blk_at hq_ B05.out); replace HB := aM (below_at hq_ HB.out); clear hq_; (try (obtain ⟨hy54_, hz54_⟩ := Kd.R_celln false HO_7.out ((ji31) : Int) (of_decide_eq_true (by assumption)) (of_decide_eq_true (by assumption)))); (try (have HP54 := Kd.R_putg HO_7.out ((ji31) : Int) ((Go.bits .and .i64 (ji30) 1) == 1))))); refine store_event (t := 4) (p := 64) (v := ?vo_w55) (w1 := (w52.setCell ⟨go34, ((ji31) : Int).toNat, none⟩ (.bool ((Go.bits .and .i64 (ji30) 1) == 1)))) ?hg ?ho ?hn ?hr ?_; (case ho => rfl); (case hg => rfl); (case hn => rfl); (case hr => first | (go_simp; done) | (go_simp; rfl)); intro w55 hw; have hg : w52.grownBy w55 (some go34) := (by rw [hw]; exact HP54.2); have hp_ : Kd.R Kd.bool 4 w55 w.heap.size (fun _ => True) (.slice (some ⟨go34, 0, none⟩) x7_2.length co53) y111 := (by rw [hw, Ny111.out]; exact HP54.1); clear HP54; have n0_ := aM (hp_); have n1_ := aM (blk_grown (g := gb105) (o := .cells #[.int .i64 a0_0, .slice A0_1 l0_1.length c0_1] 25 (0, 0)) (by with_reducible apply_rules [B05.out, bA, bB, bC]) hg (Kd.R_ne HO_7.out B05.out (by decide))); have n2_ := aM ((by rw [hw]; exact sT (HB.out) GB34.out : Below w.heap.size w w55)); clear HO_7 B05 HB; have HO_7 := n0_; have B05 := n1_; have HB := n2_; clear n0_ n1_ n2_; clear hg hw hp_))
                   repeat (go_quiet (fail)); try go_wp2
                   go_ret2
                   exact ⟨_, by first | rfl | (simp [errW_none, errW_some] <;> rfl) | (simp only [← hji18, ← hji22, ← hji30, ← hji31, ← hji36]; first | rfl | (simp [errW_none, errW_some] <;> rfl)) | (simp [*, errW_none, errW_some] <;> rfl), by first | exact Kd.R_nil _ _ _ _ _ | exact Kd.N_nil _ _ _ _ _ | exact Kd.V_nil _ _ _ _ _ | exact Kd.Q_nil _ _ _ _ _ | exact Kd.S_nil _ _ _ _ _, by (with_reducible apply_rules [HB.out, pA, pD, pE, sT, GE105.out])⟩
                 ·rw [if_neg c33] at H
                  exact absurd H (by simp)
                ·rw [if_neg c32] at H
                 exact absurd H (by simp)
               ·rw [if_neg c29] at H
                exact absurd H (by simp)
              ·rw [if_neg c28] at H
               have c28b0 : decide (x39_2 < (x7_2.length : Int)) = false := decide_eq_false c28
               clear c28
               by_cases c56 : 0 ≤ a1
               ·rw [if_pos c56] at H
                have c56b0 := eq_true c56
                have c56b1 : decide (0 ≤ a1) = true := decide_eq_true c56
                clear c56
                obtain ⟨ji57, hji57⟩ : ∃ j_ : Int, (shl .i64 1 a1) = j_ := ⟨_, rfl⟩
                obtain rfl : ji57 = ji18 := hji57.symm.trans hji18
                replace H : (if (Go.bits .andNot .i64 (Go.bits .xor .i64 x39_2 t110) (ji57)) = 0 then (if 0 ≤ (Go.bits .and .i64 x39_2 (wrap64 ((x7_2.length : Int) - 1))) then (if (Go.bits .and .i64 x39_2 (wrap64 ((x7_2.length : Int) - 1))) < (x7_2.length : Int) then (if ((rdOf false x7_2 (Go.bits .and .i64 x39_2 (wrap64 ((x7_2.length : Int) - 1)))) != ((Go.bits .and .i64 (shr .i64 (Go.bits .xor .i64 x39_2 t110) a1) 1) == 1)) = true then (some (([] : List Bool), 6)) else (undo_Dirty.l0 k2 a1 x7_2 ji22 (wrap64 (x39_2 + 1)) a0_0 l0_1)) else (none)) else (none)) else (some (([] : List Bool), 6))) = some (r1, r2) := by first | (rw [hji57] at H; exact H) | (simp only [hji57] at H ⊢; exact H)
                (try rw [hji57] at A27)
                have hji57_ : (IntKind.i64.wrap (1 * 2 ^ min a1.toNat 64)) = ji57 := hji57
                have hji57z : a1 ≤ 64 → (IntKind.i64.wrap (1 * 2 ^ a1.toNat)) = ji57 := shl_small hji57
                have hji57u : (IntKind.i64.wrap (2 ^ min a1.toNat 64)) = ji57 := by have h_ := hji57_; rw [Int.one_mul] at h_; exact h_
                have hji57v : a1 ≤ 64 → (IntKind.i64.wrap (2 ^ a1.toNat)) = ji57 := fun hle_ => by have h_ := hji57z hle_; rw [Int.one_mul] at h_; exact h_
                have hji57y : (wrap64 (1 * 2 ^ min a1.toNat 64)) = ji57 := (i64_w _).symm.trans hji57_
                have hji57x : a1 ≤ 64 → (wrap64 (1 * 2 ^ a1.toNat)) = ji57 := fun h_ => (i64_w _).symm.trans (hji57z h_)
                by_cases c58 : (Go.bits .andNot .i64 (Go.bits .xor .i64 x39_2 t110) (ji57)) = 0
                ·rw [if_pos c58] at H
                 have c58b0 : ((Go.bits .andNot .i64 (Go.bits .xor .i64 x39_2 t110) (ji57)) == 0) = true := beq_iff_eq.mpr c58
                 have c58b1 : ((Go.bits .andNot .i64 (Go.bits .xor .i64 x39_2 t110) (ji57)) != 0) = false := bne_eq_false_iff_eq.mpr c58
                 clear c58
                 obtain ⟨ji59, hji59⟩ : ∃ j_ : Int, (Go.bits .and .i64 x39_2 (wrap64 ((x7_2.length : Int) - 1))) = j_ := ⟨_, rfl⟩
                 replace H : (if 0 ≤ (ji59) then (if (ji59) < (x7_2.length : Int) then (if ((rdOf false x7_2 (ji59)) != ((Go.bits .and .i64 (shr .i64 (Go.bits .xor .i64 x39_2 t110) a1) 1) == 1)) = true then (some (([] : List Bool), 6)) else (undo_Dirty.l0 k2 a1 x7_2 ji22 (wrap64 (x39_2 + 1)) a0_0 l0_1)) else (none)) else (none)) = some (r1, r2) := by first | (rw [hji59] at H; exact H) | (simp only [hji59] at H ⊢; exact H)
                 (try rw [hji59] at A27)
                 by_cases c60 : 0 ≤ (ji59)
                 ·rw [if_pos c60] at H
                  have c60b0 : decide (0 ≤ (ji59)) = true := decide_eq_true c60
                  clear c60
                  by_cases c61 : (ji59) < (x7_2.length : Int)
                  ·rw [if_pos c61] at H
                   have c61b0 : decide ((ji59) < (x7_2.length : Int)) = true := decide_eq_true c61
                   clear c61
                   have c62b0 := eq_true (of_decide_eq_true (by assumption) : 0 ≤ a1)
                   obtain ⟨ji63, hji63⟩ : ∃ j_ : Int, (shr .i64 (Go.bits .xor .i64 x39_2 t110) a1) = j_ := ⟨_, rfl⟩
                   replace H : (if ((rdOf false x7_2 (ji59)) != ((Go.bits .and .i64 (ji63) 1) == 1)) = true then (some (([] : List Bool), 6)) else (undo_Dirty.l0 k2 a1 x7_2 ji22 (wrap64 (x39_2 + 1)) a0_0 l0_1)) = some (r1, r2) := by first | (rw [hji63] at H; exact H) | (simp only [hji63] at H ⊢; exact H)
                   (try rw [hji63] at A27)
                   have hji63_ : ((Go.bits .xor .i64 x39_2 t110) / 2 ^ min a1.toNat 64) = ji63 := hji63
                   have hji63z : a1 ≤ 64 → ((Go.bits .xor .i64 x39_2 t110) / 2 ^ a1.toNat) = ji63 := shr_small hji63
                   by_cases c64 : ((rdOf false x7_2 (ji59)) != ((Go.bits .and .i64 (ji63) 1) == 1)) = true
                   ·rw [if_pos c64] at H
                    have c64b0 : ((rdOf false x7_2 (ji59)) != ((Go.bits .and .i64 (ji63) 1) == 1)) = true := c64
                    (try (have c64b1 : decide ((rdOf false x7_2 (ji59)) = ((Go.bits .and .i64 (ji63) 1) == 1)) = false := by simpa using c64))
                    (try (have c64b2 : ((rdOf false x7_2 (ji59)) == ((Go.bits .and .i64 (ji63) 1) == 1)) = false := by simpa using c64))
                    (try (have c64b3 : ¬ ((rdOf false x7_2 (ji59)) = ((Go.bits .and .i64 (ji63) 1) == 1)) := by simpa using c64))
                    clear c64
                    simp only [Option.some.injEq, Prod.mk.injEq] at H
                    obtain ⟨rfl, rfl⟩ := H
                    have hcz65_0 : wr.cell? ⟨gb105, 0, none⟩ = some (.int .i64 a0_0) := (bE B05.out 0).trans rfl
                    have hcz65_1 : wr.cell? ⟨gb105, 1, none⟩ = some (.slice A0_1 l0_1.length c0_1) := (bE B05.out 1).trans rfl
                    have hfz65_0 := bF B05.out 0
                    have hfz65_1 := bF B05.out 1
                    go_wp2_with (first | (go_at_call 59; (with_reducible refine (undo_final.calls k2 _ _ l0_1 x39_2 t110 _ ?side1 ?side2 A27.out).mono ?_); (case side1 => with_reducible apply_rules [(cD HR0_1.out HB.out), cA, cB, cC]); (case side2 => exact HC0_1.out); rintro e w66 ⟨rfl, hb⟩; replace HO_7 := aM (rD (by with_reducible apply_rules [HO_7.out, rA, rB, rC]) hb); replace B05 := aM (bD (g := gb105) (o := .cells #[.int .i64 a0_0, .slice A0_1 l0_1.length c0_1] 25 (0, 0)) (by with_reducible apply_rules [B05.out, bA, bB, bC]) hb); replace HB := aM (pS_ (by (with_reducible apply_rules [HB.out, pA, pD, pE, sT, GE105.out])) hb); (try clear hb); (try clear hb2); (try clear hk); (try clear hi); obtain ⟨Ao67, co67, eo67⟩ := Kd.R_slice HO_7.out; subst eo67; have p113 : 0 ≤ ((ji59) : Int) := of_decide_eq_true (by assumption); have q113 : (ji59) < (x7_2.length : Int) := of_decide_eq_true (by assumption); obtain ⟨ad113, e113, hx113_0⟩ := Kd.at_bool (Kd.R_reads' HO_7.out).2.2 (ji59) p113 q113; cases e113; replace p113 := eq_true p113; replace q113 := eq_true q113))
                    repeat (go_quiet (fail)); try go_wp2
                    go_ret2
                    exact ⟨_, by first | rfl | (simp [errW_none, errW_some] <;> rfl) | (simp only [← hji18, ← hji22, ← hji57, ← hji59, ← hji63]; first | rfl | (simp [errW_none, errW_some] <;> rfl)) | (simp [*, errW_none, errW_some] <;> rfl), by first | exact Kd.R_nil _ _ _ _ _ | exact Kd.N_nil _ _ _ _ _ | exact Kd.V_nil _ _ _ _ _ | exact Kd.Q_nil _ _ _ _ _ | exact Kd.S_nil _ _ _ _ _, by (with_reducible apply_rules [HB.out, pA, pD, pE, sT, GE105.out])⟩
                   ·rw [if_neg c64] at H
                    have c64b0 : ((rdOf false x7_2 (ji59)) != ((Go.bits .and .i64 (ji63) 1) == 1)) = false := by simpa using c64
                    (try (have c64b1 : decide ((rdOf false x7_2 (ji59)) = ((Go.bits .and .i64 (ji63) 1) == 1)) = true := by simpa using c64))
                    (try (have c64b2 : ((rdOf false x7_2 (ji59)) == ((Go.bits .and .i64 (ji63) 1) == 1)) = true := by simpa using c64))
                    clear c64
                    have H' := aM H
                    clear H
                    have hcz68_0 : wr.cell? ⟨gb105, 0, none⟩ = some (.int .i64 a0_0) := (bE B05.out 0).trans rfl
                    have hcz68_1 : wr.cell? ⟨gb105, 1, none⟩ = some (.slice A0_1 l0_1.length c0_1) := (bE B05.out 1).trans rfl
                    have hfz68_0 := bF B05.out 0
                    have hfz68_1 := bF B05.out 1
                    go_wp2_with (first | (go_at_call 59; (with_reducible refine (undo_final.calls k2 _ _ l0_1 x39_2 t110 _ ?side1 ?side2 A27.out).mono ?_); (case side1 => with_reducible apply_rules [(cD HR0_1.out HB.out), cA, cB, cC]); (case side2 => exact HC0_1.out); rintro e w69 ⟨rfl, hb⟩; replace HO_7 := aM (rD (by with_reducible apply_rules [HO_7.out, rA, rB, rC]) hb); replace B05 := aM (bD (g := gb105) (o := .cells #[.int .i64 a0_0, .slice A0_1 l0_1.length c0_1] 25 (0, 0)) (by with_reducible apply_rules [B05.out, bA, bB, bC]) hb); replace HB := aM (pS_ (by (with_reducible apply_rules [HB.out, pA, pD, pE, sT, GE105.out])) hb); (try clear hb); (try clear hb2); (try clear hk); (try clear hi); obtain ⟨Ao70, co70, eo70⟩ := Kd.R_slice HO_7.out; subst eo70; have p113 : 0 ≤ ((ji59) : Int) := of_decide_eq_true (by assumption); have q113 : (ji59) < (x7_2.length : Int) := of_decide_eq_true (by assumption); obtain ⟨ad113, e113, hx113_0⟩ := Kd.at_bool (Kd.R_reads' HO_7.out).2.2 (ji59) p113 q113; cases e113; replace p113 := eq_true p113; replace q113 := eq_true q113))
                    repeat (go_quiet (fail)); try go_wp2
                    go_roundg k2
                    case measure => have := HJ7.out; have := HK2.out; omega
                    case rel => exact ⟨(x7_2), (wrap64 (x39_2 + 1)), (by first | rfl | (simp; done) | (simp [*]; done)), H', ⟨by have := HJ7.out; have := HK2.out; omega⟩, ⟨by with_reducible apply_rules [HO_7.out, rA, rB, rC]⟩, ⟨by with_reducible apply_rules [B05.out, bA, bB, bC]⟩, ⟨by (with_reducible apply_rules [HB.out, pA, pD, pE, sT, GE105.out])⟩⟩
                  ·rw [if_neg c61] at H
                   exact absurd H (by simp)
                 ·rw [if_neg c60] at H
                  exact absurd H (by simp)
                ·rw [if_neg c58] at H
                 have c58b0 : ((Go.bits .andNot .i64 (Go.bits .xor .i64 x39_2 t110) (ji57)) == 0) = false := beq_eq_false_iff_ne.mpr c58
                 have c58b1 : ((Go.bits .andNot .i64 (Go.bits .xor .i64 x39_2 t110) (ji57)) != 0) = true := bne_iff_ne.mpr c58
                 simp only [Option.some.injEq, Prod.mk.injEq] at H
                 obtain ⟨rfl, rfl⟩ := H
                 have hcz71_0 : wr.cell? ⟨gb105, 0, none⟩ = some (.int .i64 a0_0) := (bE B05.out 0).trans rfl
                 have hcz71_1 : wr.cell? ⟨gb105, 1, none⟩ = some (.slice A0_1 l0_1.length c0_1) := (bE B05.out 1).trans rfl
                 have hfz71_0 := bF B05.out 0
                 have hfz71_1 := bF B05.out 1
                 go_wp2_with (first | (go_at_call 59; (with_reducible refine (undo_final.calls k2 _ _ l0_1 x39_2 t110 _ ?side1 ?side2 A27.out).mono ?_); (case side1 => with_reducible apply_rules [(cD HR0_1.out HB.out), cA, cB, cC]); (case side2 => exact HC0_1.out); rintro e w72 ⟨rfl, hb⟩; replace HO_7 := aM (rD (by with_reducible apply_rules [HO_7.out, rA, rB, rC]) hb); replace B05 := aM (bD (g := gb105) (o := .cells #[.int .i64 a0_0, .slice A0_1 l0_1.length c0_1] 25 (0, 0)) (by with_reducible apply_rules [B05.out, bA, bB, bC]) hb); replace HB := aM (pS_ (by (with_reducible apply_rules [HB.out, pA, pD, pE, sT, GE105.out])) hb); (try clear hb); (try clear hb2); (try clear hk); (try clear hi); obtain ⟨Ao73, co73, eo73⟩ := Kd.R_slice HO_7.out; subst eo73))
                 repeat (go_quiet (fail)); try go_wp2
                 go_ret2
                 exact ⟨_, by first | rfl | (simp [errW_none, errW_some] <;> rfl) | (simp only [← hji18, ← hji22, ← hji57]; first | rfl | (simp [errW_none, errW_some] <;> rfl)) | (simp [*, errW_none, errW_some] <;> rfl), by first | exact Kd.R_nil _ _ _ _ _ | exact Kd.N_nil _ _ _ _ _ | exact Kd.V_nil _ _ _ _ _ | exact Kd.Q_nil _ _ _ _ _ | exact Kd.S_nil _ _ _ _ _, by (with_reducible apply_rules [HB.out, pA, pD, pE, sT, GE105.out])⟩
               ·rw [if_neg c56] at H
                exact absurd H (by simp)
             ·rw [if_neg c26] at H
              have c26b0 : decide (x39_2 < ji22) = false := decide_eq_false c26
              clear c26
              simp only [Option.some.injEq, Prod.mk.injEq] at H
              obtain ⟨rfl, rfl⟩ := H
              go_wp2
              repeat (go_quiet (fail); try go_wp2)
              go_ret2
              exact ⟨_, by first | rfl | (simp [errW_none, errW_some] <;> rfl) | (simp only [← hji18, ← hji22]; first | rfl | (simp [errW_none, errW_some] <;> rfl)) | (simp [*, errW_none, errW_some] <;> rfl), by with_reducible apply_rules [HO_7.out, rA, rB, rC], by (with_reducible apply_rules [HB.out, pA, pD, pE, sT, GE105.out])⟩
          ·rw [if_neg c21] at H
           exact absurd H (by simp)
         ·rw [if_neg c20] at H
          exact absurd H (by simp)
        ·rw [if_neg c19] at H
         exact absurd H (by simp)
       ·rw [if_neg c17] at H
        exact absurd H (by simp)
      ·rw [if_neg c16] at H
       have c16b0 : (t106 == 0) = false := beq_eq_false_iff_ne.mpr c16
       have c16b1 : (t106 != 0) = true := bne_iff_ne.mpr c16
       simp only [Option.some.injEq, Prod.mk.injEq] at H
       obtain ⟨rfl, rfl⟩ := H
       go_wp2
       repeat (go_quiet (fail); try go_wp2)
       go_ret2
       exact ⟨_, by first | rfl | (simp [errW_none, errW_some] <;> rfl) | (simp [*, errW_none, errW_some] <;> rfl), by first | exact Kd.R_nil _ _ _ _ _ | exact Kd.N_nil _ _ _ _ _ | exact Kd.V_nil _ _ _ _ _ | exact Kd.Q_nil _ _ _ _ _ | exact Kd.S_nil _ _ _ _ _, by (with_reducible apply_rules [HB.out, pA, pD, pE, sT, GE105.out])⟩

end Go.Proofs.YthfhnkpipdbekaaDoor.Ta
