-- CUT by a program of this session: what the claim does not use is left out
import Derived.Test.YthfhnkpipdbekaaDoorUax0
import Derived.Test.YthfhnkpipdbekaaDoorProg
import Derived.Below
import Derived.Deep.Draws
import Derived.Deep.AppendLies
import Derived.Maps.AppendAt
import Derived.OwnWalk
import Derived.Laws.BytesArg
import Derived.Laws.MakeOwn
import Derived.Laws.OwnMore
import Derived.Deep.OwnRows
import Derived.Tactics
import Derived.Lib.ConvBytes
import Derived.Laws.Slices
import Derived.WalkKit
import Derived.KernelRfl
import Derived.RowKit3
import Derived.Deep.LoopGhost
import Derived.Deep.QuietTactic
import Derived.BigQuiet
import Derived.WideLaws
import Derived.Deep.DeepCutAuto
import Derived.Deep.CutBlock
import Derived.Deep.RegionHeld3
import Derived.Laws.Rows
import Derived.Lib.AppendStr
import Derived.ArgAppend
import Derived.Laws.IdiomCopy
import Derived.OrdersHeld
import Derived.Laws.BitsLemmas
import Derived.RowKit
import Derived.Test.YthfhnkpipdbekaaDoorN12
import Derived.Test.YthfhnkpipdbekaaDoorN6
import Derived.Test.YthfhnkpipdbekaaDoorWAll
import Derived.Test.YthfhnkpipdbekaaDoorTax5
import Derived.Test.YthfhnkpipdbekaaDoorTax6
import Derived.Test.YthfhnkpipdbekaaDoorTax1
import Derived.Test.YthfhnkpipdbekaaDoorTax13
import Derived.Test.YthfhnkpipdbekaaDoorTax2
import Derived.Test.YthfhnkpipdbekaaDoorTax3
import Derived.Test.YthfhnkpipdbekaaDoorTax4
import Derived.Test.YthfhnkpipdbekaaDoorTax7
import Derived.Test.YthfhnkpipdbekaaDoorTxx1
import Derived.Test.YthfhnkpipdbekaaDoorTxx2
import Derived.Test.YthfhnkpipdbekaaDoorTbx1
import Derived.Test.YthfhnkpipdbekaaDoorN15
namespace Go.Proofs.YthfhnkpipdbekaaDoor.Tj
open Go.Proofs.YthfhnkpipdbekaaDoor.Ua
open Go.Proofs.YthfhnkpipdbekaaDoor.Giv
open Go.Proofs.YthfhnkpipdbekaaDoor.Ta (api_RevOp_68.f api_RevOp_68.calls undo_enumerable.f undo_enumerable.calls undo_final.f undo_final.calls undo_final.mono undo_Dirty.f undo_Dirty.calls undo_Dirty.mono undo_Inverse.f undo_Permutation.f undo_Restores.f commodatumref12_op.f commodatumref12_op.calls commodatumref12_Bits.f commodatumref12_Bits.calls commodatumref12_Valid.f commodatumref12_Valid.calls commodatumref12_Run.f commodatumref12_Run.calls commodatumref12_Flips.f commodatumref12_Flips.calls commodatumlaw12_none.f commodatumlaw12_none.calls commodatumlaw12_spread.f commodatumlaw12_spread.calls commodatumref12_Equal.f commodatumref12_Equal.calls commodatumref12_Equal.mono)
open Go.Proofs.YthfhnkpipdbekaaDoor.Tx (slices_Index_string_string.f slices_Index_string_string.calls undo_numbers.f undo_numbers.calls commodatumlaw12_all.f commodatumlaw12_all.calls)
open Go.Proofs.YthfhnkpipdbekaaDoor.Ui (bits_Input.f bits_Input.calls bits_Input.mono slices_Equal_bool_bool.f slices_Equal_bool_bool.calls slices_Equal_bool_bool.mono)
open Go.Proofs.YthfhnkpipdbekaaDoor.Tb (commodatumlaw12_Awake.f commodatumlaw12_Awake.calls commodatumlaw12_Awake.mono)
open Go.RowKit Go.Proofs.YthfhnkpipdbekaaDoorW.PrintWords Go.Proofs.YthfhnkpipdbekaaDoorW.PrintLast Go.Proofs.YthfhnkpipdbekaaDoorW.PrintMore
attribute [local go_sem] max2_int min2_int max_two min_two max_three min_three max_four min_four   -- for this text's walks alone
set_option linter.unusedVariables false
set_option linter.unusedSimpArgs false

def undo_Controlled.l0 : Nat → List Int → List Int → List (S67) → Int → Int → Option ((List (S67)))
 | 0, _, _, _, _, _ => none
 | k + 1, x1, x2, x8, x9, x10 => if x10 ≥ 2 then (if 0 ≤ x10 then (if x10 < (x1.length : Int) then (if 0 ≤ (wrap64 (x10 - 2)) then (if (wrap64 (x10 - 2)) < (x2.length : Int) then (if x8.length < 4398046511104 then (undo_Controlled.l0 k x1 x2 (x8 ++ [(⟨2, x9, rd x1 x10, rd x2 (wrap64 (x10 - 2))⟩ : S67)]) (rd x2 (wrap64 (x10 - 2))) (wrap64 (x10 - 1))) else (none)) else (none)) else (none)) else (none)) else (none)) else (if 0 < (x1.length : Int) then (if 1 < (x1.length : Int) then ((slices_Clone_ops.f x8).bind fun t251 => ((api_RevOp_68.f k t251).bind fun t254 => (if 1 ≤ (x8.length : Int) then (if 0 ≤ (wrap64 ((t251.length : Int) - 1)) then (if (wrap64 ((t251.length : Int) - 1)) ≤ (t251.length : Int) then ((slices_Concat_ops.f (([x8, (([(⟨2, x9, rd x1 0, rd x1 1⟩ : S67)] : List (S67))), t254, (x8.drop 1), (([(⟨2, x9, rd x1 0, rd x1 1⟩ : S67)] : List (S67))), (t254.take ((wrap64 ((t251.length : Int) - 1)) : Int).toNat)] : List (List (S67))))).bind fun t274 => (some t274)) else (none)) else (none)) else (none)))) else (none)) else (none))
def undo_Controlled.f (k : Nat) (a0 : Int) (l1 : List Int) (l2 : List Int) : Option ((List (S67))) := if (l1.length : Int) = 0 then (some (([(⟨0, a0, 0, 0⟩ : S67)] : List (S67)))) else (if (l1.length : Int) = 1 then (if 0 < (l1.length : Int) then (some (([(⟨1, a0, rd l1 0, 0⟩ : S67)] : List (S67)))) else (none)) else (if (l1.length : Int) = 2 then (if 0 < (l1.length : Int) then (if 1 < (l1.length : Int) then (some (([(⟨2, a0, rd l1 0, rd l1 1⟩ : S67)] : List (S67)))) else (none)) else (none)) else (undo_Controlled.l0 k l1 l2 ([] : List (S67)) a0 (wrap64 ((l1.length : Int) - 1)))))
def undo_Controlled.T8 : Bool × List (List Nat × List Nat) := (true, [([], []), ([], []), ([1], [1]), ([2], [2]), ([], []), ([4], [4]), ([5], [5]), ([0, 3, 6], [0, 3, 6]), ([7], [7]), ([8, 0, 1, 2, 3, 4, 5, 6, 7, 8], [8])])
def undo_Controlled.B8 : List Nat := [0, 0, 2, 6, 0, 16, 48, 127, 255, 511]
theorem undo_Controlled.tab8 : rtab .any (opsOf Tryd.f72 8) = undo_Controlled.T8 := by kernel_rfl
theorem undo_Controlled.bits8 : waitsOk undo_Controlled.T8.2 undo_Controlled.B8 = true := by kernel_rfl
def undo_Controlled.T14 : Bool × List (List Nat × List Nat) := (true, [([], []), ([], []), ([], []), ([], []), ([2, 3], [2, 3]), ([4], [4]), ([], []), ([], []), ([7], [7]), ([6, 8], [6, 8]), ([9], [9]), ([1, 5, 10], [1, 5, 10]), ([11], [11]), ([0, 12], [0, 12]), ([13, 13, 0, 1, 2, 3, 4, 5, 6, 7, 8, 9, 10, 11, 12, 13], [0, 13])])
def undo_Controlled.B14 : List Nat := [0, 0, 0, 0, 12, 28, 0, 0, 128, 448, 960, 2046, 4094, 8191, 16383]
theorem undo_Controlled.tab14 : rtab .any (opsOf Tryd.f72 14) = undo_Controlled.T14 := by kernel_rfl
theorem undo_Controlled.bits14 : waitsOk undo_Controlled.T14.2 undo_Controlled.B14 = true := by kernel_rfl
def undo_Controlled.T16 : Bool × List (List Nat × List Nat) := (true, [([], []), ([], []), ([1], [1]), ([2], [2]), ([], []), ([4], [4]), ([5], [5]), ([0, 3, 6], [0, 3, 6]), ([], []), ([8, 7, 0, 1, 2, 3, 4, 5, 6, 7, 8], [7, 8])])
def undo_Controlled.B16 : List Nat := [0, 0, 2, 6, 0, 16, 48, 127, 0, 511]
theorem undo_Controlled.tab16 : rtab .any (opsOf Tryd.f72 16) = undo_Controlled.T16 := by kernel_rfl
theorem undo_Controlled.bits16 : waitsOk undo_Controlled.T16.2 undo_Controlled.B16 = true := by kernel_rfl
def undo_Controlled.T19 : Bool × List (List Nat × List Nat) := (true, [([], []), ([], []), ([1], [1]), ([], []), ([], []), ([4], [4]), ([], []), ([6], [6]), ([], []), ([], []), ([9], [9]), ([10], [10]), ([8, 11], [8, 11]), ([0, 2, 3, 5, 7, 12], [0, 2, 3, 5, 7, 12]), ([13], [13]), ([14, 14, 0, 1, 2, 3, 4, 5, 6, 7, 8, 9, 10, 11, 12, 13, 14], [14])])
def undo_Controlled.B19 : List Nat := [0, 0, 2, 0, 0, 16, 0, 64, 0, 0, 512, 1536, 3840, 8191, 16383, 32767]
theorem undo_Controlled.tab19 : rtab .any (opsOf Tryd.f72 19) = undo_Controlled.T19 := by kernel_rfl
theorem undo_Controlled.bits19 : waitsOk undo_Controlled.T19.2 undo_Controlled.B19 = true := by kernel_rfl
theorem pSj4 {α : Type} : (∀ (l : List α) (i : Nat) (a : α), l.toArray.setIfInBounds i a = (l.set i a).toArray) ∧ (∀ (l : List α) (x y : α), (x :: l).set 0 y = y :: l) ∧ (∀ (l : List α) (x y : α) (n : Nat), (x :: l).set (n + 1) y = x :: l.set n y) :=
 ⟨fun _ _ _ => List.setIfInBounds_toArray .., fun _ _ _ => rfl, fun _ _ _ _ => rfl⟩
open Bool renaming true → T, false → F
open Go.Proofs.YthfhnkpipdbekaaDoorW.PrintWords renaming Kd.R_alloc → rA, Kd.R_drewN → rB, Kd.R_drew → rC, blk_drewN → bA, blk_drew → bB, blk_alloc → bC, below_set → sT, Aside0.mk → aM, pw_below_drewN → pD, below_drew1 → pE, below_alloc → pA, blk_cell → bE, Kd.R_mono → rE
abbrev z0j4 : Array Bool := #[F,F,F,F,F,F,F,F,F,F]
abbrev z1j4 : Array Bool := #[T,F,F,F,F,F,F,F,F,F]
abbrev z2j4 : Array Bool := #[T,T,F,F,F,F,F,F,F,F]
abbrev z3j4 : Array Bool := #[T,T,T,F,F,F,F,F,F,F]
abbrev z4j4 : Array Bool := #[T,T,T,F,T,F,F,F,F,F]
abbrev z5j4 : Array Bool := #[T,T,T,F,T,T,F,F,F,F]
abbrev z6j4 : Array Bool := #[T,T,T,T,T,T,F,F,F,F]
abbrev z7j4 : Array Bool := #[T,T,T,T,T,T,T,F,F,F]
abbrev z8j4 : Array Bool := #[T,T,T,T,T,T,T,T,F,F]
abbrev z9j4 : Array Bool := #[T,T,T,T,T,T,T,T,T,F]
abbrev z10j4 : Array Bool := #[T,T,T,T,T,T,T,T,T,T]
abbrev z11j4 : Array Bool := #[F,F,F,F,F,F,F,F,F,F,F,F,F,F,F]
abbrev z12j4 : Array Bool := #[T,F,F,F,F,F,F,F,F,F,F,F,F,F,F]
abbrev z13j4 : Array Bool := #[T,T,F,F,F,F,F,F,F,F,F,F,F,F,F]
abbrev z14j4 : Array Bool := #[T,T,T,F,F,F,F,F,F,F,F,F,F,F,F]
abbrev z15j4 : Array Bool := #[T,T,T,T,F,F,F,F,F,F,F,F,F,F,F]
abbrev z16j4 : Array Bool := #[T,T,T,T,T,F,F,F,F,F,F,F,F,F,F]
abbrev z17j4 : Array Bool := #[T,T,T,T,T,F,T,F,F,F,F,F,F,F,F]
abbrev z18j4 : Array Bool := #[T,T,T,T,T,F,T,T,F,F,F,F,F,F,F]
abbrev z19j4 : Array Bool := #[T,T,T,T,T,F,T,T,T,F,F,F,F,F,F]
abbrev z20j4 : Array Bool := #[T,T,T,T,T,F,T,T,T,T,F,F,F,F,F]
abbrev z21j4 : Array Bool := #[T,T,T,T,T,T,T,T,T,T,F,F,F,F,F]
abbrev z22j4 : Array Bool := #[T,T,T,T,T,T,T,T,T,T,T,F,F,F,F]
abbrev z23j4 : Array Bool := #[T,T,T,T,T,T,T,T,T,T,T,T,F,F,F]
abbrev z24j4 : Array Bool := #[T,T,T,T,T,T,T,T,T,T,T,T,T,F,F]
abbrev z25j4 : Array Bool := #[T,T,T,T,T,T,T,T,T,T,T,T,T,T,F]
abbrev z26j4 : Array Bool := #[T,T,T,T,T,T,T,T,T,T,T,T,T,T,T]
abbrev z27j4 : Array Bool := #[F,F,F,F,F,F,F,F,F,F,F,F,F,F,F,F]
abbrev z28j4 : Array Bool := #[T,F,F,F,F,F,F,F,F,F,F,F,F,F,F,F]
abbrev z29j4 : Array Bool := #[T,F,F,T,F,F,F,F,F,F,F,F,F,F,F,F]
abbrev z30j4 : Array Bool := #[T,F,F,T,T,F,F,F,F,F,F,F,F,F,F,F]
abbrev z31j4 : Array Bool := #[T,F,F,T,T,T,F,F,F,F,F,F,F,F,F,F]
abbrev z32j4 : Array Bool := #[T,F,F,T,T,T,F,F,T,F,F,F,F,F,F,F]
abbrev z33j4 : Array Bool := #[T,F,F,T,T,T,F,F,T,T,F,F,F,F,F,F]
abbrev z34j4 : Array Bool := #[T,F,F,T,T,T,F,F,T,T,T,F,F,F,F,F]
abbrev z35j4 : Array Bool := #[T,F,F,T,T,T,F,F,T,T,T,T,F,F,F,F]
abbrev z36j4 : Array Bool := #[T,F,F,T,T,T,F,F,T,T,T,T,T,F,F,F]
abbrev z37j4 : Array Bool := #[T,T,F,T,T,T,F,F,T,T,T,T,T,F,F,F]
abbrev z38j4 : Array Bool := #[T,T,F,T,T,T,T,F,T,T,T,T,T,F,F,F]
abbrev z39j4 : Array Bool := #[T,T,T,T,T,T,T,T,T,T,T,T,T,F,F,F]
abbrev z40j4 : Array Bool := #[T,T,T,T,T,T,T,F,T,T,T,T,T,F,F,F]
abbrev z41j4 : Array Bool := #[T,T,F,T,T,T,T,T,T,T,T,T,T,F,F,F]
abbrev z42j4 : Array Bool := #[T,T,T,T,T,T,T,T,T,T,T,T,T,T,F,F]
abbrev z43j4 : Array Bool := #[T,T,T,T,T,T,T,T,T,T,T,T,T,T,T,F]
abbrev z44j4 : Array Bool := #[T,T,T,T,T,T,T,T,T,T,T,T,T,T,T,T]
set_option maxHeartbeats 8000000 in
set_option maxRecDepth 100000 in
theorem undo_Controlled.calls (k : Nat) (a0 : Int) (A1 : Option Addr) (c1 : Nat) (l1 : List Int) (A2 : Option Addr) (c2 : Nat) (l2 : List Int) (r : List (S67)) (w : World) (hr1 : Kd.C (Kd.int .i64) w A1 l1.length l1) (hc1 : l1.length ≤ c1) (hr2 : Kd.C (Kd.int .i64) w A2 l2.length l2) (hc2 : l2.length ≤ c2) (h : undo_Controlled.f k a0 l1 l2 = some r) :
  Calls Tryd.prog 72 #[.int .i64 a0, .slice A1 l1.length c1, .slice A2 l2.length c2] w fun e w' => ∃ v0_ : Value, e = .returned (v0_) ∧ Kd.R k67 67 w' w.heap.size (fun _ => True) v0_ r ∧ Below w.heap.size w w' := by
 have hu67 := Tryd.underlying67
 have HR1 := aM hr1
 have HC1 := aM hc1
 clear hr1 hc1
 have HR2 := aM hr2
 have HC2 := aM hc2
 clear hr2 hc2
 have HB := aM (Below.refl w.heap.size w)
 have H : (if (l1.length : Int) = 0 then (some (([(⟨0, a0, 0, 0⟩ : S67)] : List (S67)))) else (if (l1.length : Int) = 1 then (if 0 < (l1.length : Int) then (some (([(⟨1, a0, rd l1 0, 0⟩ : S67)] : List (S67)))) else (none)) else (if (l1.length : Int) = 2 then (if 0 < (l1.length : Int) then (if 1 < (l1.length : Int) then (some (([(⟨2, a0, rd l1 0, rd l1 1⟩ : S67)] : List (S67)))) else (none)) else (none)) else (undo_Controlled.l0 k l1 l2 ([] : List (S67)) a0 (wrap64 ((l1.length : Int) - 1)))))) = some r := h
 clear h
 by_cases c4 : (l1.length : Int) = 0
 ·rw [if_pos c4] at H
  have c4b0 : ((l1.length : Int) == 0) = true := beq_iff_eq.mpr c4
  have c4b1 : ((l1.length : Int) != 0) = false := bne_eq_false_iff_eq.mpr c4
  clear c4
  obtain ⟨y230, hy230⟩ : ∃ y_ : List (S67), y_ = (([(⟨0, a0, 0, 0⟩ : S67)] : List (S67))) := ⟨_, rfl⟩
  replace H : (some y230) = some r := by first | (rw [hy230]; with_reducible exact H) | (have H2_ := (Option.bind_some _ _).symm.trans H; rw [hy230]; with_reducible exact H2_) | (have H2_ := (Option.bind_some _ _).symm.trans H; with_reducible exact H2_) | with_reducible exact H | (rw [hy230]; exact H) | exact H
  have Ny230 := aM hy230
  clear hy230
  obtain rfl := Option.some.inj H
  go_enter Tryd.func72, Tryd.ntmps72
  go_wp2_with (first | ((with_reducible refine gate_dst (N := 20) rfl ?_); refine Kd.R_lit k67 _ 67 ?hg (N := 20) ?hd (xs := ([(⟨0, a0, 0, 0⟩ : S67)] : List (S67))) (inner := [.int .i64 0, .int .i64 a0, .int .i64 0, .int .i64 0]) (ok := fun _ => True) (okp := fun _ => True) ?hr ?hp (fun _ hk => hk) trivial (Below.refl _ _) (Nat.le_refl _) (by simp) ?_; (case hd => rfl); (case hg => rfl); (case hr => first | (go_simp; done) | (go_simp; rfl)); (case hp => exact (Reps.c4 (show Kd.M k67 _ _ _ (⟨0, a0, 0, 0⟩ : S67) [.int .i64 0, .int .i64 a0, .int .i64 0, .int .i64 0] from (k67_mkM _ _ _ (⟨0, a0, 0, 0⟩ : S67) )) (Reps.none _ _))); intro v231 w5 ho6 hb hg_ hnew_; clear hg_ hnew_; (first | rw [← Ny230.out] at ho6 | (simp only [Int.reduceToNat] at ho6; rw [← Ny230.out] at ho6)); have HO232 := aM (Kd.R_lower ho6 (below_size (by (with_reducible apply_rules [HB.out, pA, pD, pE])))); replace HB := aM (below_step (by (with_reducible apply_rules [HB.out, pA, pD, pE])) hb); clear hb ho6))
  go_ret
  exact ⟨_, by first | rfl | (simp [errW_none, errW_some] <;> rfl) | (simp [*, errW_none, errW_some] <;> rfl), by with_reducible apply_rules [HO232.out, rA, rB, rC], by (with_reducible apply_rules [HB.out, pA, pD, pE])⟩
 ·rw [if_neg c4] at H
  have c4b0 : ((l1.length : Int) == 0) = false := beq_eq_false_iff_ne.mpr c4
  have c4b1 : ((l1.length : Int) != 0) = true := bne_iff_ne.mpr c4
  have c4b2 : ¬ (l1 = []) := fun h_ => c4 (by rw [h_]; rfl)
  by_cases c7 : (l1.length : Int) = 1
  ·rw [if_pos c7] at H
   have c7b0 : ((l1.length : Int) == 1) = true := beq_iff_eq.mpr c7
   have c7b1 : ((l1.length : Int) != 1) = false := bne_eq_false_iff_eq.mpr c7
   clear c7
   by_cases c8 : 0 < (l1.length : Int)
   ·rw [if_pos c8] at H
    have c8b0 : decide (0 < (l1.length : Int)) = true := decide_eq_true c8
    have c8b1 : decide (0 < l1.length) = true := decide_eq_true (by omega)
    clear c8
    obtain ⟨y234, hy234⟩ : ∃ y_ : List (S67), y_ = (([(⟨1, a0, rd l1 0, 0⟩ : S67)] : List (S67))) := ⟨_, rfl⟩
    replace H : (some y234) = some r := by first | (rw [hy234]; with_reducible exact H) | (have H2_ := (Option.bind_some _ _).symm.trans H; rw [hy234]; with_reducible exact H2_) | (have H2_ := (Option.bind_some _ _).symm.trans H; with_reducible exact H2_) | with_reducible exact H | (rw [hy234]; exact H) | exact H
    have Ny234 := aM hy234
    clear hy234
    obtain rfl := Option.some.inj H
    have p233 : 0 ≤ (0 : Int) := (by omega)
    have q233 : 0 < (l1.length : Int) := of_decide_eq_true (by assumption)
    obtain ⟨ad233, e233, hx233_0⟩ := Kd.at_int HR1.out 0 p233 q233
    cases e233
    have qi233 : (0 < l1.length) = True := eq_true (by omega)
    (try rw [show ((0 : Int)).toNat = 0 from rfl] at hx233_0)
    (try rw [Addr.add_zero'] at hx233_0)
    replace p233 := eq_true p233
    replace q233 := eq_true q233
    go_enter Tryd.func72, Tryd.ntmps72
    go_wp2_with (first | ((with_reducible refine gate_dst (N := 28) rfl ?_); refine Kd.R_lit k67 _ 67 ?hg (N := 28) ?hd (xs := ([(⟨1, a0, rd l1 0, 0⟩ : S67)] : List (S67))) (inner := [.int .i64 1, .int .i64 a0, .int .i64 (rd l1 0), .int .i64 0]) (ok := fun _ => True) (okp := fun _ => True) ?hr ?hp (fun _ hk => hk) trivial (Below.refl _ _) (Nat.le_refl _) (by simp) ?_; (case hd => rfl); (case hg => rfl); (case hr => first | (go_simp; done) | (go_simp; rfl)); (case hp => exact (Reps.c4 (show Kd.M k67 _ _ _ (⟨1, a0, rd l1 0, 0⟩ : S67) [.int .i64 1, .int .i64 a0, .int .i64 (rd l1 0), .int .i64 0] from (k67_mkM _ _ _ (⟨1, a0, rd l1 0, 0⟩ : S67) )) (Reps.none _ _))); intro v235 w9 ho10 hb hg_ hnew_; clear hg_ hnew_; (first | rw [← Ny234.out] at ho10 | (simp only [Int.reduceToNat] at ho10; rw [← Ny234.out] at ho10)); have HO236 := aM (Kd.R_lower ho10 (below_size (by (with_reducible apply_rules [HB.out, pA, pD, pE])))); replace HB := aM (below_step (by (with_reducible apply_rules [HB.out, pA, pD, pE])) hb); clear hb ho10))
    go_ret
    exact ⟨_, by first | rfl | (simp [errW_none, errW_some] <;> rfl) | (simp [*, errW_none, errW_some] <;> rfl), by with_reducible apply_rules [HO236.out, rA, rB, rC], by (with_reducible apply_rules [HB.out, pA, pD, pE])⟩
   ·rw [if_neg c8] at H
    exact absurd H (by simp)
  ·rw [if_neg c7] at H
   have c7b0 : ((l1.length : Int) == 1) = false := beq_eq_false_iff_ne.mpr c7
   have c7b1 : ((l1.length : Int) != 1) = true := bne_iff_ne.mpr c7
   by_cases c11 : (l1.length : Int) = 2
   ·rw [if_pos c11] at H
    have c11b0 : ((l1.length : Int) == 2) = true := beq_iff_eq.mpr c11
    have c11b1 : ((l1.length : Int) != 2) = false := bne_eq_false_iff_eq.mpr c11
    clear c11
    by_cases c12 : 0 < (l1.length : Int)
    ·rw [if_pos c12] at H
     have c12b0 : decide (0 < (l1.length : Int)) = true := decide_eq_true c12
     have c12b1 : decide (0 < l1.length) = true := decide_eq_true (by omega)
     clear c12
     by_cases c13 : 1 < (l1.length : Int)
     ·rw [if_pos c13] at H
      have c13b0 : decide (1 < (l1.length : Int)) = true := decide_eq_true c13
      have c13b1 : decide (1 < l1.length) = true := decide_eq_true (by omega)
      clear c13
      obtain ⟨y239, hy239⟩ : ∃ y_ : List (S67), y_ = (([(⟨2, a0, rd l1 0, rd l1 1⟩ : S67)] : List (S67))) := ⟨_, rfl⟩
      replace H : (some y239) = some r := by first | (rw [hy239]; with_reducible exact H) | (have H2_ := (Option.bind_some _ _).symm.trans H; rw [hy239]; with_reducible exact H2_) | (have H2_ := (Option.bind_some _ _).symm.trans H; with_reducible exact H2_) | with_reducible exact H | (rw [hy239]; exact H) | exact H
      have Ny239 := aM hy239
      clear hy239
      obtain rfl := Option.some.inj H
      go_enter Tryd.func72, Tryd.ntmps72
      try go_wp2
      replace HB := aM (pE HB.out)
      have p237 : 0 ≤ (0 : Int) := (by omega)
      have q237 : 0 < (l1.length : Int) := of_decide_eq_true (by assumption)
      obtain ⟨ad237, e237, hx237_0⟩ := Kd.at_int HR1.out 0 p237 q237
      have hw237_0 := hx237_0
      (try rw [show ((0 : Int)).toNat = 0 from rfl] at hw237_0)
      (try rw [show 0 * 1 = 0 from rfl] at hw237_0)
      (try rw [Addr.add_zero'] at hw237_0)
      cases e237
      have qi237 : (0 < l1.length) = True := eq_true (by omega)
      (try rw [show ((0 : Int)).toNat = 0 from rfl] at hx237_0)
      (try rw [Addr.add_zero'] at hx237_0)
      replace hx237_0 := (HB.out.cell (World.block_lt_of_cell? w _ hx237_0)).trans hx237_0
      replace p237 := eq_true p237
      replace q237 := eq_true q237
      have p238 : 0 ≤ (1 : Int) := (by omega)
      have q238 : 1 < (l1.length : Int) := of_decide_eq_true (by assumption)
      obtain ⟨ad238, e238, hx238_0⟩ := Kd.at_int HR1.out 1 p238 q238
      have hw238_0 := hx238_0
      (try rw [show ((1 : Int)).toNat = 1 from rfl] at hw238_0)
      (try rw [show 1 * 1 = 1 from rfl] at hw238_0)
      (try simp only [Nat.reduceMul, Nat.reduceEqDiff, Go.Addr.add, ↓reduceIte] at hw238_0)
      obtain rfl : ad237 = ad238 := (by injection e238)
      (try simp only [show (1 : Int).toNat = 1 from rfl, Nat.reduceMul, Nat.reduceEqDiff, Go.Addr.add, ↓reduceIte] at hx238_0)
      have qi238 : (1 < l1.length) = True := eq_true (by omega)
      (try rw [show ((1 : Int)).toNat = 1 from rfl] at hx238_0)
      replace hx238_0 := (HB.out.cell (World.block_lt_of_cell? w _ hx238_0)).trans hx238_0
      replace p238 := eq_true p238
      replace q238 := eq_true q238
      refine start_ (n := 10) (S := fun w' => w'.cell? ad237 = some (.int .i64 (rd l1 0)) ∧ w'.cell? ⟨ad237.block, ad237.off + 1, none⟩ = some (.int .i64 (rd l1 1))) (ds := []) z0j4 (by kernel_rfl) rfl rfl ⟨((HB.out.cell (World.block_lt_of_cell? w _ hw237_0)).trans hw237_0), ((HB.out.cell (World.block_lt_of_cell? w _ hw238_0)).trans hw238_0)⟩ (fun hHeld => ?_); refine with_tabW undo_Controlled.tab8 undo_Controlled.bits8 (fun HT_ HW_ => ?_)
      generalize w.drew = w14 at HB hx237_0 hx238_0 hHeld ⊢
      refine pure_ (i := 0) (N := some 31) (v := ?_) (a' := ?_) z1j4 rfl rfl (any_of HT_.out (by kernel_rfl)) (fun _ _ _ h => h) (Or.inl ⟨by rfl, ?_⟩) ?_ ?_; rotate_left; (intro w'; go_simp; with_reducible rfl); rotate_left; (simp only [Act.put, pSj4, i64_w]; rfl)
      refine pure_ (i := 1) (N := some 32) (v := ?_) (a' := ?_) z2j4 rfl rfl (any_of HT_.out (by kernel_rfl)) (fun _ _ _ h => h) (Or.inl ⟨by rfl, ?_⟩) ?_ ?_; rotate_left; (intro w'; go_simp; with_reducible rfl); rotate_left; (simp only [Act.put, pSj4, i64_w]; rfl)
      refine pure_ (i := 2) (N := some 33) (v := ?_) (a' := ?_) z3j4 rfl rfl (any_of HT_.out (by kernel_rfl)) (fun _ _ _ h => h) (Or.inl ⟨by rfl, ?_⟩) ?_ ?_; rotate_left; (intro w'; go_simp; with_reducible rfl); rotate_left; (simp only [Act.put, pSj4, i64_w]; rfl)
      refine pure_ (i := 4) (N := some 35) (v := ?_) (a' := ?_) z4j4 rfl rfl (any_of HT_.out (by kernel_rfl)) (fun _ _ _ h => h) (Or.inl ⟨by rfl, ?_⟩) ?_ ?_; rotate_left; (intro w'; go_simp; with_reducible rfl); rotate_left; (simp only [Act.put, pSj4, i64_w]; rfl)
      refine pure_ (i := 5) (N := some 36) (v := ?_) (a' := ?_) z5j4 rfl rfl (any_of HT_.out (by kernel_rfl)) (fun _ _ _ h => h) (Or.inl ⟨by rfl, ?_⟩) ?_ ?_; rotate_left; (intro w'; go_simp; with_reducible rfl); rotate_left; (simp only [Act.put, pSj4, i64_w]; rfl)
      refine take_ (i := 3) (N := some 34) (v := ?_) (a' := ?_) z6j4 rfl rfl (take_ofW HT_.out HW_.out (by kernel_rfl)) (fun _ _ _ h => h) (Or.inl ⟨by rfl, ?_⟩) hHeld ?_ ?_; rotate_left; (rintro w' ⟨s0, s1⟩; go_simp; with_reducible rfl); rotate_left; (simp only [Act.put, pSj4, i64_w]; rfl)
      refine take_ (i := 6) (N := some 37) (v := ?_) (a' := ?_) z7j4 rfl rfl (take_ofW HT_.out HW_.out (by kernel_rfl)) (fun _ _ _ h => h) (Or.inl ⟨by rfl, ?_⟩) hHeld ?_ ?_; rotate_left; (rintro w' ⟨s0, s1⟩; go_simp; with_reducible rfl); rotate_left; (simp only [Act.put, pSj4, i64_w]; rfl)
      refine pure_ (i := 7) (N := some 38) (v := ?_) (a' := ?_) z8j4 rfl rfl (any_of HT_.out (by kernel_rfl)) (fun _ _ _ h => h) (Or.inl ⟨by rfl, ?_⟩) ?_ ?_; rotate_left; (intro w'; go_simp; with_reducible rfl); rotate_left; (simp only [Act.put, pSj4, i64_w]; rfl)
      refine one_ (i := 8) (N := some 39) z9j4 rfl rfl (one_of HT_.out (by kernel_rfl)) (by decide) (fun K hK => ?_)
      refine Kd.R_lit_step k67 _ 67 ?hg (N := 39) ?hd (xs := ([(⟨2, a0, rd l1 0, rd l1 1⟩ : S67)] : List (S67))) (inner := [.int .i64 2, .int .i64 a0, .int .i64 (rd l1 0), .int .i64 (rd l1 1)]) (ok := fun _ => True) (okp := fun _ => True) ?hr ?hp (fun _ hk => hk) trivial (Below.refl _ _) (Nat.le_refl _) (by simp) ?_; (case hd => rfl); (case hg => rfl); (case hr => first | (go_simp; done) | (go_simp; rfl)); (case hp => exact (Reps.c4 (show Kd.M k67 _ _ _ (⟨2, a0, rd l1 0, rd l1 1⟩ : S67) [.int .i64 2, .int .i64 a0, .int .i64 (rd l1 0), .int .i64 (rd l1 1)] from (k67_mkM _ _ _ (⟨2, a0, rd l1 0, rd l1 1⟩ : S67) )) (Reps.none _ _)))
      intro v240 w15 ho16 hb hg_ hnew_
      clear hg_ hnew_
      (first | rw [← Ny239.out] at ho16 | (simp only [Int.reduceToNat] at ho16; rw [← Ny239.out] at ho16))
      have HO241 := aM (Kd.R_lower ho16 (below_size (by (with_reducible apply_rules [HB.out, pA, pD, pE]))))
      replace HB := aM (below_step (by (with_reducible apply_rules [HB.out, pA, pD, pE])) hb)
      clear hb ho16
      refine hK.out _ _ ⟨((HB.out.cell (World.block_lt_of_cell? w _ hw237_0)).trans hw237_0), ((HB.out.cell (World.block_lt_of_cell? w _ hw238_0)).trans hw238_0)⟩ (fun hHeld => ?_)
      clear hK K
      refine norm_ (a' := ?_) ?_ ?_
      rotate_left
      ·show Act.put _ (some 39) _ = _
       simp only [Act.put, pSj4, i64_w]
       rfl
      refine pure_ (i := 9) (N := some 6) (v := ?_) (a' := ?_) z10j4 rfl rfl (any_of HT_.out (by kernel_rfl)) (fun _ _ _ h => h) (Or.inl ⟨by rfl, ?_⟩) ?_ ?_; rotate_left; (intro w'; go_simp; with_reducible rfl); rotate_left; (simp only [Act.put, pSj4, i64_w]; rfl)
      refine done_ (done_of HT_.out (by kernel_rfl)) ?_
      try go_wp2
      go_ret
      exact ⟨_, by first | rfl | (simp [errW_none, errW_some] <;> rfl) | (simp [*, errW_none, errW_some] <;> rfl), by with_reducible apply_rules [HO241.out, rA, rB, rC], by (with_reducible apply_rules [HB.out, pA, pD, pE])⟩
     ·rw [if_neg c13] at H
      exact absurd H (by simp)
    ·rw [if_neg c12] at H
     exact absurd H (by simp)
   ·rw [if_neg c11] at H
    have c11b0 : ((l1.length : Int) == 2) = false := beq_eq_false_iff_ne.mpr c11
    have c11b1 : ((l1.length : Int) != 2) = true := bne_iff_ne.mpr c11
    have H' := aM H
    clear H
    go_enter Tryd.func72, Tryd.ntmps72
    go_wp2
    go_loopg [8, 9, 10] k (fun kq v8 v9 v10 w' => ∃ (x8_1 : List (S67)) (x9_1 : Int) (x10_1 : Int), v9 = .int .i64 x9_1 ∧ v10 = .int .i64 x10_1 ∧ Aside0 (undo_Controlled.l0 kq l1 l2 x8_1 x9_1 x10_1 = some r) ∧ Aside0 (kq ≤ k) ∧ Aside0 (Kd.R k67 67 w' w.heap.size (fun _ => True) v8 x8_1) ∧ Aside0 (Below w.heap.size w w'))
    case atStart => exact ⟨(([] : List (S67))), (a0), (wrap64 ((l1.length : Int) - 1)), (by first | rfl | (simp; done) | (simp [*]; done)), (by first | rfl | (simp; done) | (simp [*]; done)), H', ⟨Nat.le_refl _⟩, ⟨by first | exact Kd.R_nil _ _ _ _ _ | exact Kd.N_nil _ _ _ _ _ | exact Kd.V_nil _ _ _ _ _ | exact Kd.Q_nil _ _ _ _ _ | exact Kd.S_nil _ _ _ _ _⟩, ⟨by (with_reducible apply_rules [HB.out, pA, pD, pE])⟩⟩
    case round =>
     clear H'
     try clear c1
     try clear c2
     try clear p2
     try clear q2
     try clear hx2
     try clear qi2
     try clear c4
     try clear c4b0
     try clear c4b1
     try clear c4b2
     try clear p6
     try clear c7
     try clear c7b0
     try clear c7b1
     try clear c8
     try clear c8b0
     try clear c8b1
     try clear c11
     try clear c11b0
     try clear c11b1
     try clear c12
     try clear c12b0
     try clear c12b1
     try clear c13
     try clear c13b0
     try clear c13b1
     try clear hx233_0
     try clear hx237_0
     try clear hx238_0
     try clear p233
     try clear p237
     try clear p238
     try clear q233
     try clear q237
     try clear q238
     obtain ⟨x8_1, x9_1, x10_1, rfl, rfl, HA, HK1, HO_8, HB⟩ := hrel
     cases gk with
     | zero => exact absurd HA.out (by simp [undo_Controlled.l0])
     | succ k1 =>
      have H := HA.out
      clear HA
      simp only [undo_Controlled.l0] at H
      by_cases c17 : x10_1 ≥ 2
      ·rw [if_pos c17] at H
       have c17b0 : decide (2 ≤ x10_1) = true := decide_eq_true c17
       clear c17
       by_cases c18 : 0 ≤ x10_1
       ·rw [if_pos c18] at H
        have c18b0 : decide (0 ≤ x10_1) = true := decide_eq_true c18
        clear c18
        by_cases c19 : x10_1 < (l1.length : Int)
        ·rw [if_pos c19] at H
         have c19b0 : decide (x10_1 < (l1.length : Int)) = true := decide_eq_true c19
         clear c19
         obtain ⟨ji20, hji20⟩ : ∃ j_ : Int, (wrap64 (x10_1 - 2)) = j_ := ⟨_, rfl⟩
         replace H : (if 0 ≤ (ji20) then (if (ji20) < (l2.length : Int) then (if x8_1.length < 4398046511104 then (undo_Controlled.l0 k1 l1 l2 (x8_1 ++ [(⟨2, x9_1, rd l1 x10_1, rd l2 (ji20)⟩ : S67)]) (rd l2 (ji20)) (wrap64 (x10_1 - 1))) else (none)) else (none)) else (none)) = some r := by first | (rw [hji20] at H; exact H) | (simp only [hji20] at H ⊢; exact H)
         have hji20w : (IntKind.i64.wrap (x10_1 - 2)) = ji20 := (i64_w _).trans hji20
         by_cases c21 : 0 ≤ (ji20)
         ·rw [if_pos c21] at H
          have c21b0 : decide (0 ≤ (ji20)) = true := decide_eq_true c21
          clear c21
          by_cases c22 : (ji20) < (l2.length : Int)
          ·rw [if_pos c22] at H
           have c22b0 : decide ((ji20) < (l2.length : Int)) = true := decide_eq_true c22
           clear c22
           by_cases c23 : x8_1.length < 4398046511104
           ·rw [if_pos c23] at H
            have LMc23 := aM c23
            clear c23
            obtain ⟨y244, hy244⟩ : ∃ y_ : List (S67), y_ = (x8_1 ++ [(⟨2, x9_1, rd l1 x10_1, rd l2 (ji20)⟩ : S67)]) := ⟨_, rfl⟩
            replace H : (undo_Controlled.l0 k1 l1 l2 y244 (rd l2 (ji20)) (wrap64 (x10_1 - 1))) = some r := by first | (rw [hy244]; with_reducible exact H) | (have H2_ := (Option.bind_some _ _).symm.trans H; rw [hy244]; with_reducible exact H2_) | (have H2_ := (Option.bind_some _ _).symm.trans H; with_reducible exact H2_) | with_reducible exact H | (rw [hy244]; exact H) | exact H
            have Ny244 := aM hy244
            clear hy244
            have H' := aM H
            clear H
            try go_wp2
            replace HO_8 := aM (rC HO_8.out)
            replace HB := aM (pE HB.out)
            have p242 : 0 ≤ (x10_1 : Int) := of_decide_eq_true (by assumption)
            have q242 : x10_1 < (l1.length : Int) := of_decide_eq_true (by assumption)
            obtain ⟨ad242, e242, hx242_0⟩ := Kd.at_int HR1.out x10_1 p242 q242
            have hw242_0 := hx242_0
            cases e242
            replace hx242_0 := (HB.out.cell (World.block_lt_of_cell? w _ hx242_0)).trans hx242_0
            replace p242 := eq_true p242
            replace q242 := eq_true q242
            have p243 : 0 ≤ ((ji20) : Int) := of_decide_eq_true (by assumption)
            have q243 : (ji20) < (l2.length : Int) := of_decide_eq_true (by assumption)
            obtain ⟨ad243, e243, hx243_0⟩ := Kd.at_int HR2.out (ji20) p243 q243
            have hw243_0 := hx243_0
            cases e243
            replace hx243_0 := (HB.out.cell (World.block_lt_of_cell? w _ hx243_0)).trans hx243_0
            replace p243 := eq_true p243
            replace q243 := eq_true q243
            refine start_ (n := 15) (S := fun w' => w'.cell? (ad242.add (x10_1).toNat) = some (.int .i64 (rd l1 x10_1)) ∧ w'.cell? (ad243.add ((ji20)).toNat) = some (.int .i64 (rd l2 (ji20)))) (ds := []) z11j4 (by kernel_rfl) rfl rfl ⟨((HB.out.cell (World.block_lt_of_cell? w _ hw242_0)).trans hw242_0), ((HB.out.cell (World.block_lt_of_cell? w _ hw243_0)).trans hw243_0)⟩ (fun hHeld => ?_); refine with_tabW undo_Controlled.tab14 undo_Controlled.bits14 (fun HT_ HW_ => ?_)
            generalize wr.drew = w24 at HO_8 HB hx242_0 hx243_0 hHeld ⊢
            refine pure_ (i := 0) (N := some 47) (v := ?_) (a' := ?_) z12j4 rfl rfl (any_of HT_.out (by kernel_rfl)) (fun _ _ _ h => h) (Or.inl ⟨by rfl, ?_⟩) ?_ ?_; rotate_left; (intro w'; go_simp; with_reducible rfl); rotate_left; (simp only [Act.put, pSj4, i64_w]; rfl)
            refine pure_ (i := 1) (N := some 48) (v := ?_) (a' := ?_) z13j4 rfl rfl (any_of HT_.out (by kernel_rfl)) (fun _ _ _ h => h) (Or.inl ⟨by rfl, ?_⟩) ?_ ?_; rotate_left; (intro w'; go_simp; with_reducible rfl); rotate_left; (simp only [Act.put, pSj4, i64_w]; rfl)
            refine pure_ (i := 2) (N := some 49) (v := ?_) (a' := ?_) z14j4 rfl rfl (any_of HT_.out (by kernel_rfl)) (fun _ _ _ h => h) (Or.inl ⟨by rfl, ?_⟩) ?_ ?_; rotate_left; (intro w'; go_simp; with_reducible rfl); rotate_left; (simp only [Act.put, pSj4, i64_w]; rfl)
            refine pure_ (i := 3) (N := some 50) (v := ?_) (a' := ?_) z15j4 rfl rfl (any_of HT_.out (by kernel_rfl)) (fun _ _ _ h => h) (Or.inl ⟨by rfl, ?_⟩) ?_ ?_; rotate_left; (intro w'; go_simp; with_reducible rfl); rotate_left; (simp only [Act.put, pSj4, i64_w]; rfl)
            refine pure_ (i := 4) (N := some 51) (v := ?_) (a' := ?_) z16j4 rfl rfl (any_of HT_.out (by kernel_rfl)) (fun _ _ _ h => h) (Or.inl ⟨by rfl, ?_⟩) ?_ ?_; rotate_left; (intro w'; go_simp; with_reducible rfl); rotate_left; (simp only [Act.put, pSj4, i64_w]; rfl)
            refine pure_ (i := 6) (N := some 53) (v := ?_) (a' := ?_) z17j4 rfl rfl (any_of HT_.out (by kernel_rfl)) (fun _ _ _ h => h) (Or.inl ⟨by rfl, ?_⟩) ?_ ?_; rotate_left; (intro w'; go_simp; with_reducible rfl); rotate_left; (simp only [Act.put, pSj4, i64_w]; rfl)
            refine pure_ (i := 7) (N := some 54) (v := ?_) (a' := ?_) z18j4 rfl rfl (any_of HT_.out (by kernel_rfl)) (fun _ _ _ h => h) (Or.inl ⟨by rfl, ?_⟩) ?_ ?_; rotate_left; (intro w'; go_simp; with_reducible rfl); rotate_left; (simp only [Act.put, pSj4, i64_w]; rfl)
            refine pure_ (i := 8) (N := some 55) (v := ?_) (a' := ?_) z19j4 rfl rfl (any_of HT_.out (by kernel_rfl)) (fun _ _ _ h => h) (Or.inl ⟨by rfl, ?_⟩) ?_ ?_; rotate_left; (intro w'; go_simp; with_reducible rfl); rotate_left; (simp only [Act.put, pSj4, i64_w]; rfl)
            refine pure_ (i := 9) (N := some 56) (v := ?_) (a' := ?_) z20j4 rfl rfl (any_of HT_.out (by kernel_rfl)) (fun _ _ _ h => h) (Or.inl ⟨by rfl, ?_⟩) ?_ ?_; rotate_left; (intro w'; go_simp; with_reducible rfl); rotate_left; (simp only [Act.put, pSj4, i64_w]; rfl)
            refine take_ (i := 5) (N := some 52) (v := ?_) (a' := ?_) z21j4 rfl rfl (take_ofW HT_.out HW_.out (by kernel_rfl)) (fun _ _ _ h => h) (Or.inl ⟨by rfl, ?_⟩) hHeld ?_ ?_; rotate_left; (rintro w' ⟨s0, s1⟩; go_simp; with_reducible rfl); rotate_left; (simp only [Act.put, pSj4, i64_w]; rfl)
            refine take_ (i := 10) (N := some 57) (v := ?_) (a' := ?_) z22j4 rfl rfl (take_ofW HT_.out HW_.out (by kernel_rfl)) (fun _ _ _ h => h) (Or.inl ⟨by rfl, ?_⟩) hHeld ?_ ?_; rotate_left; (rintro w' ⟨s0, s1⟩; go_simp; with_reducible rfl); rotate_left; (simp only [Act.put, pSj4, i64_w]; rfl)
            refine pure_ (i := 11) (N := some 58) (v := ?_) (a' := ?_) z23j4 rfl rfl (any_of HT_.out (by kernel_rfl)) (fun _ _ _ h => h) (Or.inl ⟨by rfl, ?_⟩) ?_ ?_; rotate_left; (intro w'; go_simp; with_reducible rfl); rotate_left; (simp only [Act.put, pSj4, i64_w]; rfl)
            refine one_ (i := 12) (N := some 59) z24j4 rfl rfl (one_of HT_.out (by kernel_rfl)) (by decide) (fun K hK => ?_)
            refine value_ (w1 := ?_) (v := ?_) (by rfl) rfl ?_ ?_
            rotate_left 2
            ·go_simp
             constructor
             ·rfl
             ·rfl
            refine hK.out _ _ ⟨(World.cell?_alloc_lt _ _ _ (World.block_lt_of_cell? _ _ (((HB.out.cell (World.block_lt_of_cell? w _ hw242_0)).trans hw242_0)))).trans (((HB.out.cell (World.block_lt_of_cell? w _ hw242_0)).trans hw242_0)), (World.cell?_alloc_lt _ _ _ (World.block_lt_of_cell? _ _ (((HB.out.cell (World.block_lt_of_cell? w _ hw243_0)).trans hw243_0)))).trans (((HB.out.cell (World.block_lt_of_cell? w _ hw243_0)).trans hw243_0))⟩ (fun hHeld => ?_)
            clear hK K
            refine norm_ (a' := ?_) ?_ ?_
            rotate_left
            ·show Act.put _ (some 59) _ = _
             simp only [Act.put, pSj4, i64_w]
             rfl
            refine one_ (i := 13) (N := some 60) z25j4 rfl rfl (one_of HT_.out (by kernel_rfl)) (by decide) (fun K hK => ?_)
            refine Kd.R_append_step k67 (w0 := w) w.heap.size (by rfl) (.tmp 47) (.tmp 59) 23 67 (.agg #[(.int .i64 0), (.int .i64 0), (.int .i64 0), (.int .i64 0)]) 32 rfl Tryd.underlying23 info67 rfl (by decide) (by omega) u8 x8_1 (⟨2, x9_1, rd l1 x10_1, rd l2 (ji20)⟩ : S67) [.int .i64 2, .int .i64 x9_1, .int .i64 (rd l1 x10_1), .int .i64 (rd l2 (ji20))] (fun _ => True) (fun _ => False) rfl rfl ?aP (fun _ hk => hk.elim) ?aF ?aO ?aB ?aS ?aL ?_
            (case aP => exact k67_mkM _ _ _ (⟨2, x9_1, rd l1 x10_1, rd l2 (ji20)⟩ : S67))
            (case aB => exact (by (with_reducible apply_rules [HB.out, pA, pD, pE])))
            (case aF => exact (fun _ _ => trivial))
            (case aO => exact (by with_reducible apply_rules [HO_8.out, rA, rB, rC]))
            (case aS => exact (below_size (by (with_reducible apply_rules [HB.out, pA, pD, pE]))))
            (case aL => have := LMc23.out; omega)
            intro v245 w25 ho hb hg hat
            rw [← Ny244.out] at ho
            replace HB := aM (hb)
            have HO246 := aM (ho)
            clear HO_8
            clear ho hb hg hat
            refine hK.out _ _ ⟨((HB.out.cell (World.block_lt_of_cell? w _ hw242_0)).trans hw242_0), ((HB.out.cell (World.block_lt_of_cell? w _ hw243_0)).trans hw243_0)⟩ (fun hHeld => ?_)
            clear hK K
            refine norm_ (a' := ?_) ?_ ?_
            rotate_left
            ·show Act.put _ (some 60) _ = _
             simp only [Act.put, pSj4, i64_w]
             rfl
            refine pure_ (i := 14) (N := some 8) (v := ?_) (a' := ?_) z26j4 rfl rfl (any_of HT_.out (by kernel_rfl)) (fun _ _ _ h => h) (Or.inl ⟨by rfl, ?_⟩) ?_ ?_; rotate_left; (intro w'; go_simp; with_reducible rfl); rotate_left; (simp only [Act.put, pSj4, i64_w]; rfl)
            refine done_ (done_of HT_.out (by kernel_rfl)) ?_
            have p247 : 0 ≤ ((ji20) : Int) := of_decide_eq_true (by assumption)
            have q247 : (ji20) < (l2.length : Int) := of_decide_eq_true (by assumption)
            obtain ⟨ad247, e247, hx247_0⟩ := Kd.at_int HR2.out (ji20) p247 q247
            obtain rfl : ad243 = ad247 := (by injection e247)
            replace hx247_0 := (HB.out.cell (World.block_lt_of_cell? w _ hx247_0)).trans hx247_0
            replace p247 := eq_true p247
            replace q247 := eq_true q247
            try go_wp2
            go_roundg k1
            case measure => have := HK1.out; omega
            case rel => exact ⟨(y244), (rd l2 (ji20)), (wrap64 (x10_1 - 1)), (by first | rfl | (simp; done) | (simp only [← hji20] <;> (first | rfl | simp)) | (simp [*]; done)), (by first | rfl | (simp; done) | (simp [*]; done)), H', ⟨by have := HK1.out; omega⟩, ⟨by with_reducible apply_rules [HO246.out, rA, rB, rC]⟩, ⟨by (with_reducible apply_rules [HB.out, pA, pD, pE])⟩⟩
           ·rw [if_neg c23] at H
            exact absurd H (by simp)
          ·rw [if_neg c22] at H
           exact absurd H (by simp)
         ·rw [if_neg c21] at H
          exact absurd H (by simp)
        ·rw [if_neg c19] at H
         exact absurd H (by simp)
       ·rw [if_neg c18] at H
        exact absurd H (by simp)
      ·rw [if_neg c17] at H
       have c17b0 : decide (2 ≤ x10_1) = false := decide_eq_false c17
       clear c17
       by_cases c26 : 0 < (l1.length : Int)
       ·rw [if_pos c26] at H
        have c26b0 : decide (0 < (l1.length : Int)) = true := decide_eq_true c26
        have c26b1 : decide (0 < l1.length) = true := decide_eq_true (by omega)
        clear c26
        by_cases c27 : 1 < (l1.length : Int)
        ·rw [if_pos c27] at H
         have c27b0 : decide (1 < (l1.length : Int)) = true := decide_eq_true c27
         have c27b1 : decide (1 < l1.length) = true := decide_eq_true (by omega)
         clear c27
         replace H := Option.bind_eq_some_iff.mp H
         obtain ⟨t251, A280, H⟩ := H
         replace H : ((api_RevOp_68.f k1 t251).bind fun t254 => (if 1 ≤ (x8_1.length : Int) then (if 0 ≤ (wrap64 ((t251.length : Int) - 1)) then (if (wrap64 ((t251.length : Int) - 1)) ≤ (t251.length : Int) then ((slices_Concat_ops.f (([x8_1, (([(⟨2, x9_1, rd l1 0, rd l1 1⟩ : S67)] : List (S67))), t254, (x8_1.drop 1), (([(⟨2, x9_1, rd l1 0, rd l1 1⟩ : S67)] : List (S67))), (t254.take ((wrap64 ((t251.length : Int) - 1)) : Int).toNat)] : List (List (S67))))).bind fun t274 => (some t274)) else (none)) else (none)) else (none))) = some r := H
         have A28 := aM A280
         clear A280
         replace H := Option.bind_eq_some_iff.mp H
         obtain ⟨t254, A290, H⟩ := H
         replace H : (if 1 ≤ (x8_1.length : Int) then (if 0 ≤ (wrap64 ((t251.length : Int) - 1)) then (if (wrap64 ((t251.length : Int) - 1)) ≤ (t251.length : Int) then ((slices_Concat_ops.f (([x8_1, (([(⟨2, x9_1, rd l1 0, rd l1 1⟩ : S67)] : List (S67))), t254, (x8_1.drop 1), (([(⟨2, x9_1, rd l1 0, rd l1 1⟩ : S67)] : List (S67))), (t254.take ((wrap64 ((t251.length : Int) - 1)) : Int).toNat)] : List (List (S67))))).bind fun t274 => (some t274)) else (none)) else (none)) else (none)) = some r := H
         have A29 := aM A290
         clear A290
         obtain ⟨y255, hy255⟩ : ∃ y_ : List (S67), y_ = (([(⟨2, x9_1, rd l1 0, rd l1 1⟩ : S67)] : List (S67))) := ⟨_, rfl⟩
         replace H : (if 1 ≤ (x8_1.length : Int) then (if 0 ≤ (wrap64 ((t251.length : Int) - 1)) then (if (wrap64 ((t251.length : Int) - 1)) ≤ (t251.length : Int) then ((slices_Concat_ops.f (([x8_1, y255, t254, (x8_1.drop 1), (([(⟨2, x9_1, rd l1 0, rd l1 1⟩ : S67)] : List (S67))), (t254.take ((wrap64 ((t251.length : Int) - 1)) : Int).toNat)] : List (List (S67))))).bind fun t274 => (some t274)) else (none)) else (none)) else (none)) = some r := by first | (rw [hy255]; with_reducible exact H) | (have H2_ := (Option.bind_some _ _).symm.trans H; rw [hy255]; with_reducible exact H2_) | (have H2_ := (Option.bind_some _ _).symm.trans H; with_reducible exact H2_) | with_reducible exact H | (rw [hy255]; exact H) | exact H
         have Ny255 := aM hy255
         clear hy255
         by_cases c30 : 1 ≤ (x8_1.length : Int)
         ·rw [if_pos c30] at H
          have c30b0 := eq_true c30
          have c30b1 : decide (1 ≤ (x8_1.length : Int)) = true := decide_eq_true c30
          clear c30
          obtain ⟨y258, hy258⟩ : ∃ y_ : List (S67), y_ = (x8_1.drop 1) := ⟨_, rfl⟩
          replace H : (if 0 ≤ (wrap64 ((t251.length : Int) - 1)) then (if (wrap64 ((t251.length : Int) - 1)) ≤ (t251.length : Int) then ((slices_Concat_ops.f (([x8_1, y255, t254, y258, (([(⟨2, x9_1, rd l1 0, rd l1 1⟩ : S67)] : List (S67))), (t254.take ((wrap64 ((t251.length : Int) - 1)) : Int).toNat)] : List (List (S67))))).bind fun t274 => (some t274)) else (none)) else (none)) = some r := by first | (rw [hy258]; with_reducible exact H) | (have H2_ := (Option.bind_some _ _).symm.trans H; rw [hy258]; with_reducible exact H2_) | (have H2_ := (Option.bind_some _ _).symm.trans H; with_reducible exact H2_) | with_reducible exact H | (rw [hy258]; exact H) | exact H
          have Ny258 := aM hy258
          clear hy258
          obtain ⟨y263, hy263⟩ : ∃ y_ : List (S67), y_ = (([(⟨2, x9_1, rd l1 0, rd l1 1⟩ : S67)] : List (S67))) := ⟨_, rfl⟩
          replace H : (if 0 ≤ (wrap64 ((t251.length : Int) - 1)) then (if (wrap64 ((t251.length : Int) - 1)) ≤ (t251.length : Int) then ((slices_Concat_ops.f (([x8_1, y255, t254, y258, y263, (t254.take ((wrap64 ((t251.length : Int) - 1)) : Int).toNat)] : List (List (S67))))).bind fun t274 => (some t274)) else (none)) else (none)) = some r := by first | (rw [hy263]; with_reducible exact H) | (have H2_ := (Option.bind_some _ _).symm.trans H; rw [hy263]; with_reducible exact H2_) | (have H2_ := (Option.bind_some _ _).symm.trans H; with_reducible exact H2_) | with_reducible exact H | (rw [hy263]; exact H) | exact H
          have Ny263 := aM hy263
          clear hy263
          obtain ⟨ji31, hji31⟩ : ∃ j_ : Int, (wrap64 ((t251.length : Int) - 1)) = j_ := ⟨_, rfl⟩
          replace H : (if 0 ≤ (ji31) then (if (ji31) ≤ (t251.length : Int) then ((slices_Concat_ops.f (([x8_1, y255, t254, y258, y263, (t254.take ((ji31) : Int).toNat)] : List (List (S67))))).bind fun t274 => (some t274)) else (none)) else (none)) = some r := by first | (rw [hji31] at H; exact H) | (simp only [hji31] at H ⊢; exact H)
          (try rw [hji31] at A28)
          (try rw [hji31] at A29)
          have hji31w : (IntKind.i64.wrap ((t251.length : Int) - 1)) = ji31 := (i64_w _).trans hji31
          by_cases c32 : 0 ≤ (ji31)
          ·rw [if_pos c32] at H
           have c32b0 := eq_true c32
           have c32b1 : decide (0 ≤ (ji31)) = true := decide_eq_true c32
           clear c32
           by_cases c33 : (ji31) ≤ (t251.length : Int)
           ·rw [if_pos c33] at H
            have c33b0 := eq_true c33
            have c33b1 : decide ((ji31) ≤ (t251.length : Int)) = true := decide_eq_true c33
            clear c33
            obtain ⟨y266, hy266⟩ : ∃ y_ : List (S67), y_ = (t254.take ((ji31) : Int).toNat) := ⟨_, rfl⟩
            replace H : ((slices_Concat_ops.f (([x8_1, y255, t254, y258, y263, y266] : List (List (S67))))).bind fun t274 => (some t274)) = some r := by first | (rw [hy266]; with_reducible exact H) | (have H2_ := (Option.bind_some _ _).symm.trans H; rw [hy266]; with_reducible exact H2_) | (have H2_ := (Option.bind_some _ _).symm.trans H; with_reducible exact H2_) | with_reducible exact H | (rw [hy266]; exact H) | exact H
            have Ny266 := aM hy266
            clear hy266
            obtain ⟨y271, hy271⟩ : ∃ y_ : List (List (S67)), y_ = (([x8_1, y255, t254, y258, y263, y266] : List (List (S67)))) := ⟨_, rfl⟩
            replace H : ((slices_Concat_ops.f y271).bind fun t274 => (some t274)) = some r := by first | (rw [hy271]; with_reducible exact H) | (have H2_ := (Option.bind_some _ _).symm.trans H; rw [hy271]; with_reducible exact H2_) | (have H2_ := (Option.bind_some _ _).symm.trans H; with_reducible exact H2_) | with_reducible exact H | (rw [hy271]; exact H) | exact H
            have Ny271 := aM hy271
            clear hy271
            replace H := Option.bind_eq_some_iff.mp H
            obtain ⟨t274, A340, H⟩ := H
            replace H : (some t274) = some r := H
            have A34 := aM A340
            clear A340
            obtain rfl := Option.some.inj H
            try go_wp2
            replace HO_8 := aM (rC HO_8.out)
            replace HB := aM (pE HB.out)
            have p248 : 0 ≤ (0 : Int) := (by omega)
            have q248 : 0 < (l1.length : Int) := of_decide_eq_true (by assumption)
            obtain ⟨ad248, e248, hx248_0⟩ := Kd.at_int HR1.out 0 p248 q248
            have hw248_0 := hx248_0
            (try rw [show ((0 : Int)).toNat = 0 from rfl] at hw248_0)
            (try rw [show 0 * 1 = 0 from rfl] at hw248_0)
            (try rw [Addr.add_zero'] at hw248_0)
            cases e248
            have qi248 : (0 < l1.length) = True := eq_true (by omega)
            (try rw [show ((0 : Int)).toNat = 0 from rfl] at hx248_0)
            (try rw [Addr.add_zero'] at hx248_0)
            replace hx248_0 := (HB.out.cell (World.block_lt_of_cell? w _ hx248_0)).trans hx248_0
            replace p248 := eq_true p248
            replace q248 := eq_true q248
            have p249 : 0 ≤ (1 : Int) := (by omega)
            have q249 : 1 < (l1.length : Int) := of_decide_eq_true (by assumption)
            obtain ⟨ad249, e249, hx249_0⟩ := Kd.at_int HR1.out 1 p249 q249
            have hw249_0 := hx249_0
            (try rw [show ((1 : Int)).toNat = 1 from rfl] at hw249_0)
            (try rw [show 1 * 1 = 1 from rfl] at hw249_0)
            (try simp only [Nat.reduceMul, Nat.reduceEqDiff, Go.Addr.add, ↓reduceIte] at hw249_0)
            obtain rfl : ad248 = ad249 := (by injection e249)
            (try simp only [show (1 : Int).toNat = 1 from rfl, Nat.reduceMul, Nat.reduceEqDiff, Go.Addr.add, ↓reduceIte] at hx249_0)
            have qi249 : (1 < l1.length) = True := eq_true (by omega)
            (try rw [show ((1 : Int)).toNat = 1 from rfl] at hx249_0)
            replace hx249_0 := (HB.out.cell (World.block_lt_of_cell? w _ hx249_0)).trans hx249_0
            replace p249 := eq_true p249
            replace q249 := eq_true q249
            refine start_ (n := 10) (S := fun w' => w'.cell? ad248 = some (.int .i64 (rd l1 0)) ∧ w'.cell? ⟨ad248.block, ad248.off + 1, none⟩ = some (.int .i64 (rd l1 1))) (ds := []) z0j4 (by kernel_rfl) rfl rfl ⟨((HB.out.cell (World.block_lt_of_cell? w _ hw248_0)).trans hw248_0), ((HB.out.cell (World.block_lt_of_cell? w _ hw249_0)).trans hw249_0)⟩ (fun hHeld => ?_); refine with_tabW undo_Controlled.tab16 undo_Controlled.bits16 (fun HT_ HW_ => ?_)
            generalize wr.drew = w35 at HO_8 HB hx248_0 hx249_0 hHeld ⊢
            refine pure_ (i := 0) (N := some 66) (v := ?_) (a' := ?_) z1j4 rfl rfl (any_of HT_.out (by kernel_rfl)) (fun _ _ _ h => h) (Or.inl ⟨by rfl, ?_⟩) ?_ ?_; rotate_left; (intro w'; go_simp; with_reducible rfl); rotate_left; (simp only [Act.put, pSj4, i64_w]; rfl)
            refine pure_ (i := 1) (N := some 67) (v := ?_) (a' := ?_) z2j4 rfl rfl (any_of HT_.out (by kernel_rfl)) (fun _ _ _ h => h) (Or.inl ⟨by rfl, ?_⟩) ?_ ?_; rotate_left; (intro w'; go_simp; with_reducible rfl); rotate_left; (simp only [Act.put, pSj4, i64_w]; rfl)
            refine pure_ (i := 2) (N := some 68) (v := ?_) (a' := ?_) z3j4 rfl rfl (any_of HT_.out (by kernel_rfl)) (fun _ _ _ h => h) (Or.inl ⟨by rfl, ?_⟩) ?_ ?_; rotate_left; (intro w'; go_simp; with_reducible rfl); rotate_left; (simp only [Act.put, pSj4, i64_w]; rfl)
            refine pure_ (i := 4) (N := some 70) (v := ?_) (a' := ?_) z4j4 rfl rfl (any_of HT_.out (by kernel_rfl)) (fun _ _ _ h => h) (Or.inl ⟨by rfl, ?_⟩) ?_ ?_; rotate_left; (intro w'; go_simp; with_reducible rfl); rotate_left; (simp only [Act.put, pSj4, i64_w]; rfl)
            refine pure_ (i := 5) (N := some 71) (v := ?_) (a' := ?_) z5j4 rfl rfl (any_of HT_.out (by kernel_rfl)) (fun _ _ _ h => h) (Or.inl ⟨by rfl, ?_⟩) ?_ ?_; rotate_left; (intro w'; go_simp; with_reducible rfl); rotate_left; (simp only [Act.put, pSj4, i64_w]; rfl)
            refine take_ (i := 3) (N := some 69) (v := ?_) (a' := ?_) z6j4 rfl rfl (take_ofW HT_.out HW_.out (by kernel_rfl)) (fun _ _ _ h => h) (Or.inl ⟨by rfl, ?_⟩) hHeld ?_ ?_; rotate_left; (rintro w' ⟨s0, s1⟩; go_simp; with_reducible rfl); rotate_left; (simp only [Act.put, pSj4, i64_w]; rfl)
            refine take_ (i := 6) (N := some 72) (v := ?_) (a' := ?_) z7j4 rfl rfl (take_ofW HT_.out HW_.out (by kernel_rfl)) (fun _ _ _ h => h) (Or.inl ⟨by rfl, ?_⟩) hHeld ?_ ?_; rotate_left; (rintro w' ⟨s0, s1⟩; go_simp; with_reducible rfl); rotate_left; (simp only [Act.put, pSj4, i64_w]; rfl)
            refine pure_ (i := 7) (N := some 73) (v := ?_) (a' := ?_) z8j4 rfl rfl (any_of HT_.out (by kernel_rfl)) (fun _ _ _ h => h) (Or.inl ⟨by rfl, ?_⟩) ?_ ?_; rotate_left; (intro w'; go_simp; with_reducible rfl); rotate_left; (simp only [Act.put, pSj4, i64_w]; rfl)
            refine one_ (i := 8) (N := some 11) z9j4 rfl rfl (one_of HT_.out (by kernel_rfl)) (by decide) (fun K hK => ?_)
            refine box_step ?hg (N := 11) ?hd (cs := #[.int .i64 0, .int .i64 0, .int .i64 0, .int .i64 0]) (t := 67) ?hr ?_; (case hd => rfl); (case hg => rfl); (case hr => first | (go_simp; done) | (go_simp; rfl))
            intro gb250 hg w36 hbox hb
            replace HO_8 := aM (Kd.R_below (Kd.R_elderB (by with_reducible apply_rules [HO_8.out, rA, rB, rC]) gb250 (Nat.le_of_eq hg.symm)) hb)
            have B50 := aM (hbox)
            have GW250 := aM ((by rw [hg]; exact (below_size (by (with_reducible apply_rules [HB.out, pA, pD, pE]))) : w.heap.size ≤ gb250))
            have GE250 := aM ((by rw [hg]; exact (below_size (by (with_reducible apply_rules [HB.out, pA, pD, pE]))) : w.heap.size ≤ gb250))
            replace HB := aM (below_step (by (with_reducible apply_rules [HB.out, pA, pD, pE])) hb)
            clear hb hbox hg
            refine hK.out _ _ ⟨((HB.out.cell (World.block_lt_of_cell? w _ hw248_0)).trans hw248_0), ((HB.out.cell (World.block_lt_of_cell? w _ hw249_0)).trans hw249_0)⟩ (fun hHeld => ?_)
            clear hK K
            refine norm_ (a' := ?_) ?_ ?_
            rotate_left
            ·show Act.put _ (some 11) _ = _
             simp only [Act.put, pSj4, i64_w]
             rfl
            refine one_ (i := 9) (N := none) z10j4 rfl rfl (one_of HT_.out (by kernel_rfl)) (by decide) (fun K hK => ?_)
            have hs37 : w36.cell? ⟨gb250, 0, none⟩ = some (.int .i64 0) := (bE B50.out 0).trans rfl
            have hfs37 := blk_frozen B50.out 0
            have hs38 : w36.cell? ⟨gb250, 1, none⟩ = some (.int .i64 0) := (bE B50.out 1).trans rfl
            have hfs38 := blk_frozen B50.out 1
            have hs39 : w36.cell? ⟨gb250, 2, none⟩ = some (.int .i64 0) := (bE B50.out 2).trans rfl
            have hfs39 := blk_frozen B50.out 2
            have hs40 : w36.cell? ⟨gb250, 3, none⟩ = some (.int .i64 0) := (bE B50.out 3).trans rfl
            have hfs40 := blk_frozen B50.out 3
            refine skip_ (w1 := ?_) (by rfl) rfl ?_ ?_
            rotate_left
            ·go_simp
             rfl
            refine hK.out _ _ ⟨((cell_far (p := ⟨gb250, _, none⟩) (by first | exact Nat.ne_of_lt (Nat.lt_of_lt_of_le (by have := World.block_lt_of_cell? _ _ hw248_0; first | rwa [add_block] at this | exact this) GW250.out) | (rw [add_block]; exact Nat.ne_of_lt (Nat.lt_of_lt_of_le (by have := World.block_lt_of_cell? _ _ hw248_0; first | rwa [add_block] at this | exact this) GW250.out)) | (show (Addr.add _ _).block ≠ _; rw [add_block]; exact Nat.ne_of_lt (Nat.lt_of_lt_of_le (by have := World.block_lt_of_cell? _ _ hw248_0; first | rwa [add_block] at this | exact this) GW250.out)) | (dsimp only; exact Nat.ne_of_lt (Nat.lt_of_lt_of_le (by have := World.block_lt_of_cell? _ _ hw248_0; first | rwa [add_block] at this | exact this) GW250.out))) _).trans (((cell_far (p := ⟨gb250, _, none⟩) (by first | exact Nat.ne_of_lt (Nat.lt_of_lt_of_le (by have := World.block_lt_of_cell? _ _ hw248_0; first | rwa [add_block] at this | exact this) GW250.out) | (rw [add_block]; exact Nat.ne_of_lt (Nat.lt_of_lt_of_le (by have := World.block_lt_of_cell? _ _ hw248_0; first | rwa [add_block] at this | exact this) GW250.out)) | (show (Addr.add _ _).block ≠ _; rw [add_block]; exact Nat.ne_of_lt (Nat.lt_of_lt_of_le (by have := World.block_lt_of_cell? _ _ hw248_0; first | rwa [add_block] at this | exact this) GW250.out)) | (dsimp only; exact Nat.ne_of_lt (Nat.lt_of_lt_of_le (by have := World.block_lt_of_cell? _ _ hw248_0; first | rwa [add_block] at this | exact this) GW250.out))) _).trans (((cell_far (p := ⟨gb250, _, none⟩) (by first | exact Nat.ne_of_lt (Nat.lt_of_lt_of_le (by have := World.block_lt_of_cell? _ _ hw248_0; first | rwa [add_block] at this | exact this) GW250.out) | (rw [add_block]; exact Nat.ne_of_lt (Nat.lt_of_lt_of_le (by have := World.block_lt_of_cell? _ _ hw248_0; first | rwa [add_block] at this | exact this) GW250.out)) | (show (Addr.add _ _).block ≠ _; rw [add_block]; exact Nat.ne_of_lt (Nat.lt_of_lt_of_le (by have := World.block_lt_of_cell? _ _ hw248_0; first | rwa [add_block] at this | exact this) GW250.out)) | (dsimp only; exact Nat.ne_of_lt (Nat.lt_of_lt_of_le (by have := World.block_lt_of_cell? _ _ hw248_0; first | rwa [add_block] at this | exact this) GW250.out))) _).trans (((cell_far (p := ⟨gb250, _, none⟩) (by first | exact Nat.ne_of_lt (Nat.lt_of_lt_of_le (by have := World.block_lt_of_cell? _ _ hw248_0; first | rwa [add_block] at this | exact this) GW250.out) | (rw [add_block]; exact Nat.ne_of_lt (Nat.lt_of_lt_of_le (by have := World.block_lt_of_cell? _ _ hw248_0; first | rwa [add_block] at this | exact this) GW250.out)) | (show (Addr.add _ _).block ≠ _; rw [add_block]; exact Nat.ne_of_lt (Nat.lt_of_lt_of_le (by have := World.block_lt_of_cell? _ _ hw248_0; first | rwa [add_block] at this | exact this) GW250.out)) | (dsimp only; exact Nat.ne_of_lt (Nat.lt_of_lt_of_le (by have := World.block_lt_of_cell? _ _ hw248_0; first | rwa [add_block] at this | exact this) GW250.out))) _).trans (hHeld.1)))))))), ((cell_far (p := ⟨gb250, _, none⟩) (by first | exact Nat.ne_of_lt (Nat.lt_of_lt_of_le (by have := World.block_lt_of_cell? _ _ hw249_0; first | rwa [add_block] at this | exact this) GW250.out) | (rw [add_block]; exact Nat.ne_of_lt (Nat.lt_of_lt_of_le (by have := World.block_lt_of_cell? _ _ hw249_0; first | rwa [add_block] at this | exact this) GW250.out)) | (show (Addr.add _ _).block ≠ _; rw [add_block]; exact Nat.ne_of_lt (Nat.lt_of_lt_of_le (by have := World.block_lt_of_cell? _ _ hw249_0; first | rwa [add_block] at this | exact this) GW250.out)) | (dsimp only; exact Nat.ne_of_lt (Nat.lt_of_lt_of_le (by have := World.block_lt_of_cell? _ _ hw249_0; first | rwa [add_block] at this | exact this) GW250.out))) _).trans (((cell_far (p := ⟨gb250, _, none⟩) (by first | exact Nat.ne_of_lt (Nat.lt_of_lt_of_le (by have := World.block_lt_of_cell? _ _ hw249_0; first | rwa [add_block] at this | exact this) GW250.out) | (rw [add_block]; exact Nat.ne_of_lt (Nat.lt_of_lt_of_le (by have := World.block_lt_of_cell? _ _ hw249_0; first | rwa [add_block] at this | exact this) GW250.out)) | (show (Addr.add _ _).block ≠ _; rw [add_block]; exact Nat.ne_of_lt (Nat.lt_of_lt_of_le (by have := World.block_lt_of_cell? _ _ hw249_0; first | rwa [add_block] at this | exact this) GW250.out)) | (dsimp only; exact Nat.ne_of_lt (Nat.lt_of_lt_of_le (by have := World.block_lt_of_cell? _ _ hw249_0; first | rwa [add_block] at this | exact this) GW250.out))) _).trans (((cell_far (p := ⟨gb250, _, none⟩) (by first | exact Nat.ne_of_lt (Nat.lt_of_lt_of_le (by have := World.block_lt_of_cell? _ _ hw249_0; first | rwa [add_block] at this | exact this) GW250.out) | (rw [add_block]; exact Nat.ne_of_lt (Nat.lt_of_lt_of_le (by have := World.block_lt_of_cell? _ _ hw249_0; first | rwa [add_block] at this | exact this) GW250.out)) | (show (Addr.add _ _).block ≠ _; rw [add_block]; exact Nat.ne_of_lt (Nat.lt_of_lt_of_le (by have := World.block_lt_of_cell? _ _ hw249_0; first | rwa [add_block] at this | exact this) GW250.out)) | (dsimp only; exact Nat.ne_of_lt (Nat.lt_of_lt_of_le (by have := World.block_lt_of_cell? _ _ hw249_0; first | rwa [add_block] at this | exact this) GW250.out))) _).trans (((cell_far (p := ⟨gb250, _, none⟩) (by first | exact Nat.ne_of_lt (Nat.lt_of_lt_of_le (by have := World.block_lt_of_cell? _ _ hw249_0; first | rwa [add_block] at this | exact this) GW250.out) | (rw [add_block]; exact Nat.ne_of_lt (Nat.lt_of_lt_of_le (by have := World.block_lt_of_cell? _ _ hw249_0; first | rwa [add_block] at this | exact this) GW250.out)) | (show (Addr.add _ _).block ≠ _; rw [add_block]; exact Nat.ne_of_lt (Nat.lt_of_lt_of_le (by have := World.block_lt_of_cell? _ _ hw249_0; first | rwa [add_block] at this | exact this) GW250.out)) | (dsimp only; exact Nat.ne_of_lt (Nat.lt_of_lt_of_le (by have := World.block_lt_of_cell? _ _ hw249_0; first | rwa [add_block] at this | exact this) GW250.out))) _).trans (hHeld.2))))))))⟩ (fun hHeld => ?_)
            clear hK K
            refine done_ (done_of HT_.out (by kernel_rfl)) ?_
            obtain ⟨Ao41, co41, eo41⟩ := Kd.R_slice HO_8.out
            subst eo41
            try go_wp2_with (first | ((with_reducible refine gate_callee (f := 67) rfl ?_); refine goesL_ (some 75) rfl rfl Tryd.func67 (by kernel_rfl) rfl #[.slice Ao41 x8_1.length co41] rfl (by (try simp only [List.map_toArray, List.map_cons, List.map_nil]); first | done | rfl | (simp only [List.length_drop, List.length_take]; rfl)) ?_; (with_reducible refine (slices_Clone_ops.calls _ _ x8_1 t251 _ ?side1 ?side2 A28.out).mono ?_); (case side1 => refine (Kd.R_reads' (e := 67) (base := w.heap.size) (ok := fun k_ => (True ∧ k_ ≠ gb250)) (n := x8_1.length) (c := co41) ?_).2.2; exact (by (with_reducible repeat (first | apply rA | apply rB | apply rC)); exact (rE (Kd.R_far (p := ⟨gb250, 3, none⟩) (Kd.R_far (p := ⟨gb250, 2, none⟩) (Kd.R_far (p := ⟨gb250, 1, none⟩) (Kd.R_far (p := ⟨gb250, 0, none⟩) (rE HO_8.out (fun k_ hk => (⟨hk, hk.2⟩ : _ ∧ k_ ≠ gb250))) (fun _ hk => hk.2) (.int .i64 2)) (fun _ hk => hk.2) (.int .i64 x9_1)) (fun _ hk => hk.2) (.int .i64 (rd l1 0))) (fun _ hk => hk.2) (.int .i64 (rd l1 1))) (fun _ h_ => h_.1)))); (case side2 => exact (Kd.R_reads' HO_8.out).2.1); rintro e w42 ⟨v252, rfl, ho0, hb⟩; refine ⟨_, rfl, ?_⟩; have HO253 := aM (Kd.R_lower (Kd.R_newB (Kd.R_new' ho0 (Kd.R_lt (by (with_reducible repeat (first | apply rA | apply rB | apply rC)); exact (rE (Kd.R_far (p := ⟨gb250, 3, none⟩) (Kd.R_far (p := ⟨gb250, 2, none⟩) (Kd.R_far (p := ⟨gb250, 1, none⟩) (Kd.R_far (p := ⟨gb250, 0, none⟩) (rE HO_8.out (fun k_ hk => (⟨hk, hk.2⟩ : _ ∧ k_ ≠ gb250))) (fun _ hk => hk.2) (.int .i64 2)) (fun _ hk => hk.2) (.int .i64 x9_1)) (fun _ hk => hk.2) (.int .i64 (rd l1 0))) (fun _ hk => hk.2) (.int .i64 (rd l1 1))) (fun _ h_ => h_.1))))) (g := gb250) (o := .cells #[.int .i64 2, .int .i64 x9_1, .int .i64 (rd l1 0), .int .i64 (rd l1 1)] 67 (0, 0)) (by (with_reducible repeat (first | refine bA ?_ _ | refine bB ?_ | refine bC ?_ _)); refine blk_put (cs := #[.int .i64 2, .int .i64 x9_1, .int .i64 (rd l1 0), .int .i64 0]) ?_ 3 _ rfl; (with_reducible repeat (first | refine bA ?_ _ | refine bB ?_ | refine bC ?_ _)); refine blk_put (cs := #[.int .i64 2, .int .i64 x9_1, .int .i64 0, .int .i64 0]) ?_ 2 _ rfl; (with_reducible repeat (first | refine bA ?_ _ | refine bB ?_ | refine bC ?_ _)); refine blk_put (cs := #[.int .i64 2, .int .i64 0, .int .i64 0, .int .i64 0]) ?_ 1 _ rfl; (with_reducible repeat (first | refine bA ?_ _ | refine bB ?_ | refine bC ?_ _)); refine blk_put (cs := #[.int .i64 0, .int .i64 0, .int .i64 0, .int .i64 0]) ?_ 0 _ rfl; with_reducible apply_rules [B50.out, bA, bB, bC])) (below_size (by (with_reducible apply_rules [HB.out, pA, pD, pE, sT, GE250.out])))); replace HO_8 := aM (Kd.R_elder' (by (with_reducible repeat (first | apply rA | apply rB | apply rC)); exact (rE (Kd.R_far (p := ⟨gb250, 3, none⟩) (Kd.R_far (p := ⟨gb250, 2, none⟩) (Kd.R_far (p := ⟨gb250, 1, none⟩) (Kd.R_far (p := ⟨gb250, 0, none⟩) (rE HO_8.out (fun k_ hk => (⟨hk, hk.2⟩ : _ ∧ k_ ≠ gb250))) (fun _ hk => hk.2) (.int .i64 2)) (fun _ hk => hk.2) (.int .i64 x9_1)) (fun _ hk => hk.2) (.int .i64 (rd l1 0))) (fun _ hk => hk.2) (.int .i64 (rd l1 1))) (fun _ h_ => h_.1))) (Kd.R_base ho0) hb); replace B50 := aM (blk_below (g := gb250) (o := .cells #[.int .i64 2, .int .i64 x9_1, .int .i64 (rd l1 0), .int .i64 (rd l1 1)] 67 (0, 0)) (by (with_reducible repeat (first | refine bA ?_ _ | refine bB ?_ | refine bC ?_ _)); refine blk_put (cs := #[.int .i64 2, .int .i64 x9_1, .int .i64 (rd l1 0), .int .i64 0]) ?_ 3 _ rfl; (with_reducible repeat (first | refine bA ?_ _ | refine bB ?_ | refine bC ?_ _)); refine blk_put (cs := #[.int .i64 2, .int .i64 x9_1, .int .i64 0, .int .i64 0]) ?_ 2 _ rfl; (with_reducible repeat (first | refine bA ?_ _ | refine bB ?_ | refine bC ?_ _)); refine blk_put (cs := #[.int .i64 2, .int .i64 0, .int .i64 0, .int .i64 0]) ?_ 1 _ rfl; (with_reducible repeat (first | refine bA ?_ _ | refine bB ?_ | refine bC ?_ _)); refine blk_put (cs := #[.int .i64 0, .int .i64 0, .int .i64 0, .int .i64 0]) ?_ 0 _ rfl; with_reducible apply_rules [B50.out, bA, bB, bC]) hb); replace HB := aM (below_step (by (with_reducible apply_rules [HB.out, pA, pD, pE, sT, GE250.out])) hb); (try clear hb); (try clear hb2); (try clear hk); (try clear hi); (try clear ho0); obtain ⟨Ao43, co43, eo43⟩ := Kd.R_slice HO253.out; subst eo43) | ((with_reducible refine gate_callee (f := 68) rfl ?_); refine goesL_ (some 77) rfl rfl Tryd.func68 (by kernel_rfl) rfl #[.slice Ao43 t251.length co43] rfl (by (try simp only [List.map_toArray, List.map_cons, List.map_nil]); first | done | rfl | (simp only [List.length_drop, List.length_take]; rfl)) ?_; (with_reducible refine (api_RevOp_68.calls k1 (fun k_ => some k_ = (.slice Ao43 t251.length co43 : Value).ownBlock) (.slice Ao43 t251.length co43) t251 t254 w _ ?side1 ?side2 A29.out).mono ?_); (case side1 => (with_reducible apply_rules [HB.out, pA, pD, pE, sT, GE250.out])); (case side2 => exact Kd.R_tight rfl HO253.out); rintro e w44 ⟨rfl, hy0, hb, hkp⟩; refine ⟨_, rfl, ?_⟩; replace HO_8 := aM (rE (ok' := fun k_ => some k_ ≠ (.slice Ao43 t251.length co43 : Value).ownBlock ∧ k_ ≠ gb250) (Kd.R_keptB (HO_8.out) hkp (fun k_ hk_ hs_ => (hk_.2) hs_)) (fun k_ hk_ => ⟨hk_.1.2, hk_.1.1.2⟩)); replace B50 := aM (blk_kept (by with_reducible apply_rules [B50.out, bA, bB, bC]) hkp (fun hs_ => (fun e_ => (Kd.R_away HO253.out (fun _ hk => hk.2)) e_) hs_)); replace HO253 := aM (Kd.R_reok rfl hy0 (fun k_ e_ => HO253.out.1 k_ e_)); replace HB := aM (hb); (try clear hb); (try clear hkp); (try clear hy0)))
            replace HO_8 := aM (rC HO_8.out)
            replace HO253 := aM (rC HO253.out)
            replace B50 := aM (bB B50.out)
            replace HB := aM (pE HB.out)
            have q46 : (1 : Int) ≤ ((x8_1.length : Int) : Int) := of_decide_eq_true (by assumption)
            obtain ⟨i046, hi046, _, hsz46, _⟩ := info_parts info67
            have hroom46 : x8_1.length ≤ co41 := (Kd.R_reads' HO_8.out).2.1
            have hC46 : Kd.F k67 _ _ Ao41 x8_1.length x8_1 := (Kd.V_at (base := w.heap.size) (Kd.R_V HO_8.out)).2.2
            have hcut46 := cut_from (P := Tryd.prog) 23 67 .i64 Tryd.underlying23 hi046 4 hsz46 Ao41 x8_1.length co41 1 (by omega) q46
            have hr46 := Kd.F_cut (m := (1 : Int).toNat) (c := co41) hC46 (by omega) hroom46
            obtain ⟨A46, hA46⟩ : ∃ A1, A1 = (if co41 = (1 : Int).toNat then Ao41 else (Ao41 : Option Addr).map (·.add ((1 : Int).toNat * 4))) := ⟨_, rfl⟩
            obtain ⟨c46, hc46⟩ : ∃ c1, c1 = co41 - (1 : Int).toNat := ⟨_, rfl⟩
            have hy46 : y258.length = x8_1.length - (1 : Int).toNat := (by rw [Ny258.out, List.length_drop] <;> omega)
            rw [show (x8_1).drop (1 : Int).toNat = y258 from Ny258.out.symm] at hr46
            replace hr46 : Kd.F k67 _ _ A46 y258.length y258 := (by rw [hA46]; exact hr46)
            rw [← hy46, ← hA46, ← hc46] at hcut46
            have HO262 := aM (show Kd.V k67 67 _ w.heap.size _ (.slice A46 y258.length c46) y258 from Kd.V_mk (by rw [hy46, hc46]; exact Nat.sub_le_sub_right hroom46 _) hr46)
            have HC262 := aM (show y258.length ≤ c46 from by rw [hy46, hc46]; exact Nat.sub_le_sub_right hroom46 _)
            clear hr46 hC46 hroom46 hi046 hsz46 hc46
            have KY46 := aM hy46
            have KA46 := aM hA46
            clear hy46 hA46
            replace q46 := eq_true q46
            have hlx47 := (Kd.R_reads' HO253.out).1
            have q47 : ((ji31) : Int) ≤ ((t251.length : Int) : Int) := of_decide_eq_true (by assumption)
            obtain ⟨i047, hi047, _, hsz47, _⟩ := info_parts info67
            have hroom47 : t251.length ≤ co43 := (Kd.R_reads' HO253.out).2.1
            have hroomc47 : t254.length ≤ co43 := (by rw [← hlx47]; exact hroom47)
            have hC47 : Kd.F k67 _ _ Ao43 t254.length t254 := (Kd.V_at (base := w.heap.size) (Kd.R_V HO253.out)).2.2
            have hcut47 := cut_to (P := Tryd.prog) 23 67 .i64 Tryd.underlying23 hi047 Ao43 t251.length co43 (ji31) (of_decide_eq_true (by assumption)) q47 hroom47
            have hr47 := Kd.F_take (m := ((ji31) : Int).toNat) hC47 (by omega)
            have hy47 : y266.length = ((ji31) : Int).toNat := (by rw [Ny266.out, List.length_take]; omega)
            rw [← Ny266.out] at hr47
            rw [← hy47] at hcut47
            have HO270 := aM (show Kd.V k67 67 _ w.heap.size _ (.slice Ao43 y266.length co43) y266 from Kd.V_mk (by omega) hr47)
            have HC270 := aM (show y266.length ≤ co43 from by omega)
            clear hr47 hC47 hroom47 hi047 hsz47 hroomc47
            have KY47 := aM hy47
            clear hy47
            clear hlx47
            replace q47 := eq_true q47
            refine start_ (n := 16) (S := fun w' => w'.cell? ⟨gb250, 0, none⟩ = some (.int .i64 2) ∧ w'.cell? ⟨gb250, 1, none⟩ = some (.int .i64 x9_1) ∧ w'.cell? ⟨gb250, 2, none⟩ = some (.int .i64 (rd l1 0)) ∧ w'.cell? ⟨gb250, 3, none⟩ = some (.int .i64 (rd l1 1))) (ds := []) z27j4 (by kernel_rfl) rfl rfl ⟨(bE B50.out 0).trans rfl, (bE B50.out 1).trans rfl, (bE B50.out 2).trans rfl, (bE B50.out 3).trans rfl⟩ (fun hHeld => ?_); refine with_tabW undo_Controlled.tab19 undo_Controlled.bits19 (fun HT_ HW_ => ?_)
            generalize w44.drew = w45 at HO_8 HO253 B50 HB HO262 HO270 hHeld ⊢
            refine pure_ (i := 0) (N := some 78) (v := ?_) (a' := ?_) z28j4 rfl rfl (any_of HT_.out (by kernel_rfl)) (fun _ _ _ h => h) (Or.inl ⟨by rfl, ?_⟩) ?_ ?_; rotate_left; (intro w'; go_simp; with_reducible rfl); rotate_left; (simp only [Act.put, pSj4, i64_w]; rfl)
            refine pure_ (i := 3) (N := some 81) (v := ?_) (a' := ?_) z29j4 rfl rfl (any_of HT_.out (by kernel_rfl)) (fun _ _ _ h => h) (Or.inl ⟨by rfl, ?_⟩) ?_ ?_; rotate_left; (intro w'; go_simp; with_reducible rfl); rotate_left; (simp only [Act.put, pSj4, i64_w]; rfl)
            refine pure_ (i := 4) (N := some 82) (v := ?_) (a' := ?_) z30j4 rfl rfl (any_of HT_.out (by kernel_rfl)) (fun _ _ _ h => h) (Or.inl ⟨by rfl, ?_⟩) ?_ ?_; rotate_left; (intro w'; go_simp; with_reducible rfl); rotate_left; (simp only [Act.put, pSj4, i64_w]; rfl)
            refine pure_ (i := 5) (N := some 83) (v := ?_) (a' := ?_) z31j4 rfl rfl (any_of HT_.out (by kernel_rfl)) (fun _ _ _ h => h) (Or.inl ⟨by rfl, ?_⟩) ?_ ?_; rotate_left; (intro w'; go_simp; with_reducible rfl); rotate_left; (simp only [Act.put, pSj4, i64_w]; rfl)
            refine pure_ (i := 8) (N := some 86) (v := ?_) (a' := ?_) z32j4 rfl rfl (any_of HT_.out (by kernel_rfl)) (fun _ _ _ h => h) (Or.inl ⟨by rfl, ?_⟩) ?_ ?_; rotate_left; (intro w'; go_simp; with_reducible rfl); rotate_left; (simp only [Act.put, pSj4, i64_w]; rfl)
            refine pure_ (i := 9) (N := some 87) (v := ?_) (a' := ?_) z33j4 rfl rfl (any_of HT_.out (by kernel_rfl)) (fun _ _ _ h => h) (Or.inl ⟨by rfl, ?_⟩) ?_ ?_; rotate_left; (intro w'; go_simp; with_reducible rfl); rotate_left; (simp only [Act.put, pSj4, i64_w]; rfl)
            refine pure_ (i := 10) (N := some 88) (v := ?_) (a' := ?_) z34j4 rfl rfl (any_of HT_.out (by kernel_rfl)) (fun _ _ _ h => h) (Or.inl ⟨by rfl, ?_⟩) ?_ ?_; rotate_left; (intro w'; go_simp; with_reducible rfl); rotate_left; (simp only [Act.put, pSj4, i64_w]; rfl)
            refine pure_ (i := 11) (N := some 89) (v := ?_) (a' := ?_) z35j4 rfl rfl (any_of HT_.out (by kernel_rfl)) (fun _ _ _ h => h) (Or.inl ⟨by rfl, ?_⟩) ?_ ?_; rotate_left; (intro w'; go_simp; with_reducible rfl); rotate_left; (simp only [Act.put, pSj4, i64_w]; rfl)
            refine pure_ (i := 12) (N := some 90) (v := ?_) (a' := ?_) z36j4 rfl rfl (any_of HT_.out (by kernel_rfl)) (fun _ _ _ h => h) (Or.inl ⟨by rfl, ?_⟩) ?_ ?_; rotate_left; (intro w'; go_simp; with_reducible rfl); rotate_left; (simp only [Act.put, pSj4, i64_w]; rfl)
            refine take_ (i := 1) (N := some 79) (v := ?_) (a' := ?_) z37j4 rfl rfl (take_ofW HT_.out HW_.out (by kernel_rfl)) (fun _ _ _ h => h) (Or.inl ⟨by rfl, ?_⟩) hHeld ?_ ?_; rotate_left; (rintro w' ⟨s0, s1, s2, s3⟩; go_simp; with_reducible rfl); rotate_left; (simp only [Act.put, pSj4, i64_w]; rfl)
            refine take_ (i := 6) (N := some 84) (v := ?_) (a' := ?_) z38j4 rfl rfl (take_ofW HT_.out HW_.out (by kernel_rfl)) (fun _ _ _ h => h) (Or.inl ⟨by rfl, ?_⟩) hHeld ?_ ?_; rotate_left; (rintro w' ⟨s0, s1, s2, s3⟩; go_simp; with_reducible rfl); rotate_left; (simp only [Act.put, pSj4, i64_w]; rfl)
            refine join_ (σ := Value × Value) 3 z39j4 (fun s_ => [(80, s_.1), (85, s_.2)]) (fun s_ w' => (w'.cell? ⟨gb250, 0, none⟩ = some (.int .i64 2) ∧ w'.cell? ⟨gb250, 1, none⟩ = some (.int .i64 x9_1) ∧ w'.cell? ⟨gb250, 2, none⟩ = some (.int .i64 (rd l1 0)) ∧ w'.cell? ⟨gb250, 3, none⟩ = some (.int .i64 (rd l1 1))) ∧ (Kd.R k67 67 w' w.heap.size (fun k_ => some k_ ≠ (s_.1 : Value).ownBlock ∧ some k_ ≠ (s_.2 : Value).ownBlock ∧ some k_ ≠ (.slice Ao41 x8_1.length co41 : Value).ownBlock ∧ k_ ≠ gb250) (.slice Ao43 t251.length co43) t254) ∧ (Kd.R k67 67 w' w.heap.size (fun k_ => some k_ ≠ (.slice Ao43 t251.length co43 : Value).ownBlock ∧ some k_ ≠ (s_.2 : Value).ownBlock ∧ some k_ ≠ (.slice Ao41 x8_1.length co41 : Value).ownBlock ∧ k_ ≠ gb250) s_.1 y255) ∧ (Kd.V k67 67 w' w.heap.size (fun k_ => some k_ ≠ (.slice Ao43 t251.length co43 : Value).ownBlock ∧ some k_ ≠ (s_.1 : Value).ownBlock ∧ some k_ ≠ (s_.2 : Value).ownBlock ∧ k_ ≠ gb250) (.slice A46 y258.length c46) y258) ∧ (Kd.R k67 67 w' w.heap.size (fun k_ => some k_ ≠ (.slice Ao43 t251.length co43 : Value).ownBlock ∧ some k_ ≠ (s_.1 : Value).ownBlock ∧ some k_ ≠ (.slice Ao41 x8_1.length co41 : Value).ownBlock ∧ k_ ≠ gb250) s_.2 y263) ∧ (Kd.V k67 67 w' w.heap.size (fun k_ => some k_ ≠ (s_.1 : Value).ownBlock ∧ some k_ ≠ (s_.2 : Value).ownBlock ∧ some k_ ≠ (.slice Ao41 x8_1.length co41 : Value).ownBlock ∧ k_ ≠ gb250) (.slice Ao43 y266.length co43) y266) ∧ (Kd.R k67 67 w' w.heap.size (fun k_ => some k_ ≠ (.slice Ao43 t251.length co43 : Value).ownBlock ∧ some k_ ≠ (s_.1 : Value).ownBlock ∧ some k_ ≠ (s_.2 : Value).ownBlock ∧ k_ ≠ gb250) (.slice Ao41 x8_1.length co41) x8_1) ∧ (w'.heap[gb250]? = some (.cells #[.int .i64 2, .int .i64 x9_1, .int .i64 (rd l1 0), .int .i64 (rd l1 1)] 67 (0, 0))) ∧ (Below w.heap.size w w')) ?_ ?_
            rotate_left
            ·intro hCont
             refine two_ (i := 2) (j := 7) (Ni := some 80) (Nj := some 85) z40j4 z41j4 rfl rfl rfl rfl (two_of HT_.out (by kernel_rfl)) (by decide) (by decide) (fun K hK => ?_) (fun K hK => ?_)
             ·skip
              refine Kd.R_lit_step k67 _ 67 ?hg (N := 80) ?hd (xs := ([(⟨2, x9_1, rd l1 0, rd l1 1⟩ : S67)] : List (S67))) (inner := [.int .i64 2, .int .i64 x9_1, .int .i64 (rd l1 0), .int .i64 (rd l1 1)]) (ok := fun _ => True) (okp := fun _ => True) ?hr ?hp (fun _ hk => hk) trivial (Below.refl _ _) (Nat.le_refl _) (by simp) ?_; (case hd => rfl); (case hg => rfl); (case hr => first | (go_simp; done) | (go_simp; rfl)); (case hp => exact (Reps.c4 (show Kd.M k67 _ _ _ (⟨2, x9_1, rd l1 0, rd l1 1⟩ : S67) [.int .i64 2, .int .i64 x9_1, .int .i64 (rd l1 0), .int .i64 (rd l1 1)] from (k67_mkM _ _ _ (⟨2, x9_1, rd l1 0, rd l1 1⟩ : S67) )) (Reps.none _ _)))
              intro v256 w48 ho49 hb hg_ hnew_
              clear hg_ hnew_
              (first | rw [← Ny255.out] at ho49 | (simp only [Int.reduceToNat] at ho49; rw [← Ny255.out] at ho49))
              replace HO262 := aM (Kd.V_elder' (by with_reducible apply_rules [HO262.out, Kd.V_alloc, Kd.V_drewN, Kd.V_drew]) (Kd.R_base ho49) hb)
              replace HO270 := aM (Kd.V_elder' (by with_reducible apply_rules [HO270.out, Kd.V_alloc, Kd.V_drewN, Kd.V_drew]) (Kd.R_base ho49) hb)
              have HO257 := aM (Kd.R_lower (Kd.R_newB (Kd.R_new' (Kd.R_new' ho49 (Kd.R_lt (by with_reducible apply_rules [HO_8.out, rA, rB, rC]))) (Kd.R_lt (by with_reducible apply_rules [HO253.out, rA, rB, rC]))) (g := gb250) (o := .cells #[.int .i64 2, .int .i64 x9_1, .int .i64 (rd l1 0), .int .i64 (rd l1 1)] 67 (0, 0)) (by with_reducible apply_rules [B50.out, bA, bB, bC])) (below_size (by (with_reducible apply_rules [HB.out, pA, pD, pE, sT, GE250.out]))))
              replace HO_8 := aM (Kd.R_elder' (by with_reducible apply_rules [HO_8.out, rA, rB, rC]) (Kd.R_base ho49) hb)
              replace HO253 := aM (Kd.R_elder' (by with_reducible apply_rules [HO253.out, rA, rB, rC]) (Kd.R_base ho49) hb)
              replace B50 := aM (blk_below (g := gb250) (o := .cells #[.int .i64 2, .int .i64 x9_1, .int .i64 (rd l1 0), .int .i64 (rd l1 1)] 67 (0, 0)) (by with_reducible apply_rules [B50.out, bA, bB, bC]) hb)
              replace HB := aM (below_step (by (with_reducible apply_rules [HB.out, pA, pD, pE, sT, GE250.out])) hb)
              clear hb ho49
              refine hK.out _ _ ⟨(bE B50.out 0).trans rfl, (bE B50.out 1).trans rfl, (bE B50.out 2).trans rfl, (bE B50.out 3).trans rfl⟩ (fun hHeld => ?_)
              clear hK K
              refine norm_ (a' := ?_) ?_ ?_
              rotate_left
              ·show Act.put _ (some 80) _ = _
               simp only [Act.put, pSj4, i64_w]
               rfl
              refine one_ (i := 7) (N := some 85) z39j4 rfl rfl (one_of HT_.out (by kernel_rfl)) (by decide) (fun K hK => ?_)
              refine Kd.R_lit_step k67 _ 67 ?hg (N := 85) ?hd (xs := ([(⟨2, x9_1, rd l1 0, rd l1 1⟩ : S67)] : List (S67))) (inner := [.int .i64 2, .int .i64 x9_1, .int .i64 (rd l1 0), .int .i64 (rd l1 1)]) (ok := fun _ => True) (okp := fun _ => True) ?hr ?hp (fun _ hk => hk) trivial (Below.refl _ _) (Nat.le_refl _) (by simp) ?_; (case hd => rfl); (case hg => rfl); (case hr => first | (go_simp; done) | (go_simp; rfl)); (case hp => exact (Reps.c4 (show Kd.M k67 _ _ _ (⟨2, x9_1, rd l1 0, rd l1 1⟩ : S67) [.int .i64 2, .int .i64 x9_1, .int .i64 (rd l1 0), .int .i64 (rd l1 1)] from (k67_mkM _ _ _ (⟨2, x9_1, rd l1 0, rd l1 1⟩ : S67) )) (Reps.none _ _)))
              intro v264 w50 ho51 hb hg_ hnew_
              clear hg_ hnew_
              (first | rw [← Ny263.out] at ho51 | (simp only [Int.reduceToNat] at ho51; rw [← Ny263.out] at ho51))
              replace HO262 := aM (Kd.V_elder' (by with_reducible apply_rules [HO262.out, Kd.V_alloc, Kd.V_drewN, Kd.V_drew]) (Kd.R_base ho51) hb)
              replace HO270 := aM (Kd.V_elder' (by with_reducible apply_rules [HO270.out, Kd.V_alloc, Kd.V_drewN, Kd.V_drew]) (Kd.R_base ho51) hb)
              have HO265 := aM (Kd.R_lower (Kd.R_newB (Kd.R_new' (Kd.R_new' (Kd.R_new' ho51 (Kd.R_lt (by with_reducible apply_rules [HO_8.out, rA, rB, rC]))) (Kd.R_lt (by with_reducible apply_rules [HO253.out, rA, rB, rC]))) (Kd.R_lt (by with_reducible apply_rules [HO257.out, rA, rB, rC]))) (g := gb250) (o := .cells #[.int .i64 2, .int .i64 x9_1, .int .i64 (rd l1 0), .int .i64 (rd l1 1)] 67 (0, 0)) (by with_reducible apply_rules [B50.out, bA, bB, bC])) (below_size (by (with_reducible apply_rules [HB.out, pA, pD, pE, sT, GE250.out]))))
              replace HO_8 := aM (Kd.R_elder' (by with_reducible apply_rules [HO_8.out, rA, rB, rC]) (Kd.R_base ho51) hb)
              replace HO253 := aM (Kd.R_elder' (by with_reducible apply_rules [HO253.out, rA, rB, rC]) (Kd.R_base ho51) hb)
              replace HO257 := aM (Kd.R_elder' (by with_reducible apply_rules [HO257.out, rA, rB, rC]) (Kd.R_base ho51) hb)
              replace B50 := aM (blk_below (g := gb250) (o := .cells #[.int .i64 2, .int .i64 x9_1, .int .i64 (rd l1 0), .int .i64 (rd l1 1)] 67 (0, 0)) (by with_reducible apply_rules [B50.out, bA, bB, bC]) hb)
              replace HB := aM (below_step (by (with_reducible apply_rules [HB.out, pA, pD, pE, sT, GE250.out])) hb)
              clear hb ho51
              refine hK.out _ _ ⟨(bE B50.out 0).trans rfl, (bE B50.out 1).trans rfl, (bE B50.out 2).trans rfl, (bE B50.out 3).trans rfl⟩ (fun hHeld => ?_)
              clear hK K
              refine norm_ (a' := ?_) ?_ ?_
              rotate_left
              ·show Act.put _ (some 85) _ = _
               simp only [Act.put, pSj4, i64_w]
               rfl
              exact norm_ (by simp only [putAll, Act.put, pSj4]) (hCont (v256, v264) _ ⟨hHeld, (by (with_reducible repeat (first | apply rA | apply rB | apply rC)); exact rE HO253.out (fun _ hk => ⟨hk.1.2, ⟨hk.2, ⟨hk.1.1.1.2, hk.1.1.2⟩⟩⟩)), (by (with_reducible repeat (first | apply rA | apply rB | apply rC)); exact rE HO257.out (fun _ hk => ⟨hk.1.1.2, ⟨hk.2, ⟨hk.1.1.1.2, hk.1.2⟩⟩⟩)), (by (with_reducible repeat (first | apply Kd.V_alloc | apply Kd.V_drewN | apply Kd.V_drew)); exact Kd.V_mono HO262.out (fun _ hk => ⟨hk.1.1.1, ⟨hk.1.2, ⟨hk.2, hk.1.1.2⟩⟩⟩)), (by (with_reducible repeat (first | apply rA | apply rB | apply rC)); exact rE HO265.out (fun _ hk => ⟨hk.1.1.2, ⟨hk.1.2, ⟨hk.1.1.1.2, hk.2⟩⟩⟩)), (by (with_reducible repeat (first | apply Kd.V_alloc | apply Kd.V_drewN | apply Kd.V_drew)); exact Kd.V_mono HO270.out (fun _ hk => ⟨hk.1.2, ⟨hk.2, ⟨hk.1.1.1.2, hk.1.1.2⟩⟩⟩)), (by (with_reducible repeat (first | apply rA | apply rB | apply rC)); exact rE HO_8.out (fun _ hk => ⟨hk.1.1.1, ⟨hk.1.2, ⟨hk.2, hk.1.1.2⟩⟩⟩)), (by with_reducible apply_rules [B50.out, bA, bB, bC]), (by (with_reducible apply_rules [HB.out, pA, pD, pE, sT, GE250.out]))⟩)
             ·skip
              refine Kd.R_lit_step k67 _ 67 ?hg (N := 85) ?hd (xs := ([(⟨2, x9_1, rd l1 0, rd l1 1⟩ : S67)] : List (S67))) (inner := [.int .i64 2, .int .i64 x9_1, .int .i64 (rd l1 0), .int .i64 (rd l1 1)]) (ok := fun _ => True) (okp := fun _ => True) ?hr ?hp (fun _ hk => hk) trivial (Below.refl _ _) (Nat.le_refl _) (by simp) ?_; (case hd => rfl); (case hg => rfl); (case hr => first | (go_simp; done) | (go_simp; rfl)); (case hp => exact (Reps.c4 (show Kd.M k67 _ _ _ (⟨2, x9_1, rd l1 0, rd l1 1⟩ : S67) [.int .i64 2, .int .i64 x9_1, .int .i64 (rd l1 0), .int .i64 (rd l1 1)] from (k67_mkM _ _ _ (⟨2, x9_1, rd l1 0, rd l1 1⟩ : S67) )) (Reps.none _ _)))
              intro v264 w48 ho49 hb hg_ hnew_
              clear hg_ hnew_
              (first | rw [← Ny263.out] at ho49 | (simp only [Int.reduceToNat] at ho49; rw [← Ny263.out] at ho49))
              replace HO262 := aM (Kd.V_elder' (by with_reducible apply_rules [HO262.out, Kd.V_alloc, Kd.V_drewN, Kd.V_drew]) (Kd.R_base ho49) hb)
              replace HO270 := aM (Kd.V_elder' (by with_reducible apply_rules [HO270.out, Kd.V_alloc, Kd.V_drewN, Kd.V_drew]) (Kd.R_base ho49) hb)
              have HO265 := aM (Kd.R_lower (Kd.R_newB (Kd.R_new' (Kd.R_new' ho49 (Kd.R_lt (by with_reducible apply_rules [HO_8.out, rA, rB, rC]))) (Kd.R_lt (by with_reducible apply_rules [HO253.out, rA, rB, rC]))) (g := gb250) (o := .cells #[.int .i64 2, .int .i64 x9_1, .int .i64 (rd l1 0), .int .i64 (rd l1 1)] 67 (0, 0)) (by with_reducible apply_rules [B50.out, bA, bB, bC])) (below_size (by (with_reducible apply_rules [HB.out, pA, pD, pE, sT, GE250.out]))))
              replace HO_8 := aM (Kd.R_elder' (by with_reducible apply_rules [HO_8.out, rA, rB, rC]) (Kd.R_base ho49) hb)
              replace HO253 := aM (Kd.R_elder' (by with_reducible apply_rules [HO253.out, rA, rB, rC]) (Kd.R_base ho49) hb)
              replace B50 := aM (blk_below (g := gb250) (o := .cells #[.int .i64 2, .int .i64 x9_1, .int .i64 (rd l1 0), .int .i64 (rd l1 1)] 67 (0, 0)) (by with_reducible apply_rules [B50.out, bA, bB, bC]) hb)
              replace HB := aM (below_step (by (with_reducible apply_rules [HB.out, pA, pD, pE, sT, GE250.out])) hb)
              clear hb ho49
              refine hK.out _ _ ⟨(bE B50.out 0).trans rfl, (bE B50.out 1).trans rfl, (bE B50.out 2).trans rfl, (bE B50.out 3).trans rfl⟩ (fun hHeld => ?_)
              clear hK K
              refine norm_ (a' := ?_) ?_ ?_
              rotate_left
              ·show Act.put _ (some 85) _ = _
               simp only [Act.put, pSj4, i64_w]
               rfl
              refine one_ (i := 2) (N := some 80) z39j4 rfl rfl (one_of HT_.out (by kernel_rfl)) (by decide) (fun K hK => ?_)
              refine Kd.R_lit_step k67 _ 67 ?hg (N := 80) ?hd (xs := ([(⟨2, x9_1, rd l1 0, rd l1 1⟩ : S67)] : List (S67))) (inner := [.int .i64 2, .int .i64 x9_1, .int .i64 (rd l1 0), .int .i64 (rd l1 1)]) (ok := fun _ => True) (okp := fun _ => True) ?hr ?hp (fun _ hk => hk) trivial (Below.refl _ _) (Nat.le_refl _) (by simp) ?_; (case hd => rfl); (case hg => rfl); (case hr => first | (go_simp; done) | (go_simp; rfl)); (case hp => exact (Reps.c4 (show Kd.M k67 _ _ _ (⟨2, x9_1, rd l1 0, rd l1 1⟩ : S67) [.int .i64 2, .int .i64 x9_1, .int .i64 (rd l1 0), .int .i64 (rd l1 1)] from (k67_mkM _ _ _ (⟨2, x9_1, rd l1 0, rd l1 1⟩ : S67) )) (Reps.none _ _)))
              intro v256 w50 ho51 hb hg_ hnew_
              clear hg_ hnew_
              (first | rw [← Ny255.out] at ho51 | (simp only [Int.reduceToNat] at ho51; rw [← Ny255.out] at ho51))
              replace HO262 := aM (Kd.V_elder' (by with_reducible apply_rules [HO262.out, Kd.V_alloc, Kd.V_drewN, Kd.V_drew]) (Kd.R_base ho51) hb)
              replace HO270 := aM (Kd.V_elder' (by with_reducible apply_rules [HO270.out, Kd.V_alloc, Kd.V_drewN, Kd.V_drew]) (Kd.R_base ho51) hb)
              have HO257 := aM (Kd.R_lower (Kd.R_newB (Kd.R_new' (Kd.R_new' (Kd.R_new' ho51 (Kd.R_lt (by with_reducible apply_rules [HO_8.out, rA, rB, rC]))) (Kd.R_lt (by with_reducible apply_rules [HO253.out, rA, rB, rC]))) (Kd.R_lt (by with_reducible apply_rules [HO265.out, rA, rB, rC]))) (g := gb250) (o := .cells #[.int .i64 2, .int .i64 x9_1, .int .i64 (rd l1 0), .int .i64 (rd l1 1)] 67 (0, 0)) (by with_reducible apply_rules [B50.out, bA, bB, bC])) (below_size (by (with_reducible apply_rules [HB.out, pA, pD, pE, sT, GE250.out]))))
              replace HO_8 := aM (Kd.R_elder' (by with_reducible apply_rules [HO_8.out, rA, rB, rC]) (Kd.R_base ho51) hb)
              replace HO253 := aM (Kd.R_elder' (by with_reducible apply_rules [HO253.out, rA, rB, rC]) (Kd.R_base ho51) hb)
              replace HO265 := aM (Kd.R_elder' (by with_reducible apply_rules [HO265.out, rA, rB, rC]) (Kd.R_base ho51) hb)
              replace B50 := aM (blk_below (g := gb250) (o := .cells #[.int .i64 2, .int .i64 x9_1, .int .i64 (rd l1 0), .int .i64 (rd l1 1)] 67 (0, 0)) (by with_reducible apply_rules [B50.out, bA, bB, bC]) hb)
              replace HB := aM (below_step (by (with_reducible apply_rules [HB.out, pA, pD, pE, sT, GE250.out])) hb)
              clear hb ho51
              refine hK.out _ _ ⟨(bE B50.out 0).trans rfl, (bE B50.out 1).trans rfl, (bE B50.out 2).trans rfl, (bE B50.out 3).trans rfl⟩ (fun hHeld => ?_)
              clear hK K
              refine norm_ (a' := ?_) ?_ ?_
              rotate_left
              ·show Act.put _ (some 80) _ = _
               simp only [Act.put, pSj4, i64_w]
               rfl
              exact norm_ (by simp only [putAll, Act.put, pSj4]) (hCont (v256, v264) _ ⟨hHeld, (by (with_reducible repeat (first | apply rA | apply rB | apply rC)); exact rE HO253.out (fun _ hk => ⟨hk.2, ⟨hk.1.2, ⟨hk.1.1.1.2, hk.1.1.2⟩⟩⟩)), (by (with_reducible repeat (first | apply rA | apply rB | apply rC)); exact rE HO257.out (fun _ hk => ⟨hk.1.1.2, ⟨hk.1.2, ⟨hk.1.1.1.2, hk.2⟩⟩⟩)), (by (with_reducible repeat (first | apply Kd.V_alloc | apply Kd.V_drewN | apply Kd.V_drew)); exact Kd.V_mono HO262.out (fun _ hk => ⟨hk.1.1.1, ⟨hk.2, ⟨hk.1.2, hk.1.1.2⟩⟩⟩)), (by (with_reducible repeat (first | apply rA | apply rB | apply rC)); exact rE HO265.out (fun _ hk => ⟨hk.1.1.2, ⟨hk.2, ⟨hk.1.1.1.2, hk.1.2⟩⟩⟩)), (by (with_reducible repeat (first | apply Kd.V_alloc | apply Kd.V_drewN | apply Kd.V_drew)); exact Kd.V_mono HO270.out (fun _ hk => ⟨hk.2, ⟨hk.1.2, ⟨hk.1.1.1.2, hk.1.1.2⟩⟩⟩)), (by (with_reducible repeat (first | apply rA | apply rB | apply rC)); exact rE HO_8.out (fun _ hk => ⟨hk.1.1.1, ⟨hk.2, ⟨hk.1.2, hk.1.1.2⟩⟩⟩)), (by with_reducible apply_rules [B50.out, bA, bB, bC]), (by (with_reducible apply_rules [HB.out, pA, pD, pE, sT, GE250.out]))⟩)
            rintro ⟨v256, v264⟩ w52 ⟨hS_, h0_, h1_, h2_, h3_, h4_, h5_, h6_, h7_⟩
            replace HO253 : Aside0 (Kd.R k67 67 w52 w.heap.size (fun k_ => some k_ ≠ (v256 : Value).ownBlock ∧ some k_ ≠ (v264 : Value).ownBlock ∧ some k_ ≠ (.slice Ao41 x8_1.length co41 : Value).ownBlock ∧ k_ ≠ gb250) (.slice Ao43 t251.length co43) t254) := ⟨h0_⟩
            have HO257 : Aside0 (Kd.R k67 67 w52 w.heap.size (fun k_ => some k_ ≠ (.slice Ao43 t251.length co43 : Value).ownBlock ∧ some k_ ≠ (v264 : Value).ownBlock ∧ some k_ ≠ (.slice Ao41 x8_1.length co41 : Value).ownBlock ∧ k_ ≠ gb250) v256 y255) := ⟨h1_⟩
            have HO262 : Aside0 (Kd.V k67 67 w52 w.heap.size (fun k_ => some k_ ≠ (.slice Ao43 t251.length co43 : Value).ownBlock ∧ some k_ ≠ (v256 : Value).ownBlock ∧ some k_ ≠ (v264 : Value).ownBlock ∧ k_ ≠ gb250) (.slice A46 y258.length c46) y258) := ⟨h2_⟩
            have HO265 : Aside0 (Kd.R k67 67 w52 w.heap.size (fun k_ => some k_ ≠ (.slice Ao43 t251.length co43 : Value).ownBlock ∧ some k_ ≠ (v256 : Value).ownBlock ∧ some k_ ≠ (.slice Ao41 x8_1.length co41 : Value).ownBlock ∧ k_ ≠ gb250) v264 y263) := ⟨h3_⟩
            have HO270 : Aside0 (Kd.V k67 67 w52 w.heap.size (fun k_ => some k_ ≠ (v256 : Value).ownBlock ∧ some k_ ≠ (v264 : Value).ownBlock ∧ some k_ ≠ (.slice Ao41 x8_1.length co41 : Value).ownBlock ∧ k_ ≠ gb250) (.slice Ao43 y266.length co43) y266) := ⟨h4_⟩
            replace HO_8 : Aside0 (Kd.R k67 67 w52 w.heap.size (fun k_ => some k_ ≠ (.slice Ao43 t251.length co43 : Value).ownBlock ∧ some k_ ≠ (v256 : Value).ownBlock ∧ some k_ ≠ (v264 : Value).ownBlock ∧ k_ ≠ gb250) (.slice Ao41 x8_1.length co41) x8_1) := ⟨h5_⟩
            replace B50 : Aside0 (w52.heap[gb250]? = some (.cells #[.int .i64 2, .int .i64 x9_1, .int .i64 (rd l1 0), .int .i64 (rd l1 1)] 67 (0, 0))) := ⟨h6_⟩
            replace HB : Aside0 (Below w.heap.size w w52) := ⟨h7_⟩
            clear h0_ h1_ h2_ h3_ h4_ h5_ h6_ h7_
            have hHeld : w52.cell? ⟨gb250, 0, none⟩ = some (.int .i64 2) ∧ w52.cell? ⟨gb250, 1, none⟩ = some (.int .i64 x9_1) ∧ w52.cell? ⟨gb250, 2, none⟩ = some (.int .i64 (rd l1 0)) ∧ w52.cell? ⟨gb250, 3, none⟩ = some (.int .i64 (rd l1 1)) := hS_
            obtain ⟨Ao53, co53, eo53⟩ := Kd.R_slice HO257.out
            (first | subst eo53 | (injection eo53 with f1_ f2_ f3_; have f4_ := f1_.symm; have f5_ := f3_.symm; clear f1_ f2_ f3_; subst f4_; subst f5_))
            obtain ⟨Ao54, co54, eo54⟩ := Kd.R_slice HO265.out
            (first | subst eo54 | (injection eo54 with f1_ f2_ f3_; have f4_ := f1_.symm; have f5_ := f3_.symm; clear f1_ f2_ f3_; subst f4_; subst f5_))
            refine norm_ (a' := ?_) ?_ ?_
            rotate_left
            ·simp only [putAll, Act.put, pSj4]
             rfl
            refine one_ (i := 13) (N := some 91) z42j4 rfl rfl (one_of HT_.out (by kernel_rfl)) (by decide) (fun K hK => ?_)
            refine Kd.N_lit_step (Kd.slice 67 k67) _ 23 ?hg (N' := 91) ?hd (xs := ([x8_1, y255, t254, y258, y263, y266] : List (List (S67)))) (inner := [.slice Ao41 x8_1.length co41, .slice Ao53 y255.length co53, .slice Ao43 t251.length co43, .slice A46 y258.length c46, .slice Ao54 y263.length co54, .slice Ao43 y266.length co43]) (ok := (fun k_ => k_ ≠ gb250)) (okp := (fun k_ => k_ ≠ gb250)) ?hr ?hp (fun _ hk => hk) ((show ∀ k_, w52.heap.size ≤ k_ → (fun k_ => k_ ≠ gb250) k_ from fun k_ hk => Kd.freshB (g := gb250) (o := .cells #[.int .i64 2, .int .i64 x9_1, .int .i64 (rd l1 0), .int .i64 (rd l1 1)] 67 (0, 0)) (by with_reducible apply_rules [B50.out, bA, bB, bC]) k_ hk) _ (Nat.le_refl _)) (Below.refl _ _) (Nat.le_refl _) (by simp) ?_; (case hd => rfl); (case hg => rfl); (case hr => first | (go_simp; done) | (go_simp; rfl)); (case hp => exact (Reps.one (show Kd.FK (Kd.slice 67 k67) _ _ x8_1 [.slice Ao41 x8_1.length co41] from (Kd.FK_slice_mk (Kd.R_reads' (rE (ok' := (fun k_ => k_ ≠ gb250)) (HO_8.out) (fun k_ hk => hk.2.2.2))).2.1 (Kd.R_F (rE (ok' := (fun k_ => k_ ≠ gb250)) (HO_8.out) (fun k_ hk => hk.2.2.2))))) (Reps.one (show Kd.FK (Kd.slice 67 k67) _ _ y255 [.slice Ao53 y255.length co53] from (Kd.FK_slice_mk (Kd.R_reads' (rE (ok' := (fun k_ => k_ ≠ gb250)) (HO257.out) (fun k_ hk => hk.2.2.2))).2.1 (Kd.R_F (rE (ok' := (fun k_ => k_ ≠ gb250)) (HO257.out) (fun k_ hk => hk.2.2.2))))) (Reps.one (show Kd.FK (Kd.slice 67 k67) _ _ t254 [.slice Ao43 t251.length co43] from (by have h_ := HO253.out; have e_ := (Kd.R_reads' h_).1; rw [e_] at h_ ⊢; exact Kd.FK_slice_mk (Kd.R_reads' (rE (ok' := (fun k_ => k_ ≠ gb250)) h_ (fun k_ hk => hk.2.2.2))).2.1 (Kd.R_F (rE (ok' := (fun k_ => k_ ≠ gb250)) h_ (fun k_ hk => hk.2.2.2))))) (Reps.one (show Kd.FK (Kd.slice 67 k67) _ _ y258 [.slice A46 y258.length c46] from (Kd.FK_slice_mk (Kd.V_reads' (Kd.V_mono (ok' := (fun k_ => k_ ≠ gb250)) (HO262.out) (fun k_ hk => hk.2.2.2))).2.1 (Kd.V_F (Kd.V_mono (ok' := (fun k_ => k_ ≠ gb250)) (HO262.out) (fun k_ hk => hk.2.2.2))))) (Reps.one (show Kd.FK (Kd.slice 67 k67) _ _ y263 [.slice Ao54 y263.length co54] from (Kd.FK_slice_mk (Kd.R_reads' (rE (ok' := (fun k_ => k_ ≠ gb250)) (HO265.out) (fun k_ hk => hk.2.2.2))).2.1 (Kd.R_F (rE (ok' := (fun k_ => k_ ≠ gb250)) (HO265.out) (fun k_ hk => hk.2.2.2))))) (Reps.one (show Kd.FK (Kd.slice 67 k67) _ _ y266 [.slice Ao43 y266.length co43] from (Kd.FK_slice_mk (Kd.V_reads' (Kd.V_mono (ok' := (fun k_ => k_ ≠ gb250)) (HO270.out) (fun k_ hk => hk.2.2.2))).2.1 (Kd.V_F (Kd.V_mono (ok' := (fun k_ => k_ ≠ gb250)) (HO270.out) (fun k_ hk => hk.2.2.2))))) (Reps.none _ _))))))))
            intro v272 w55 ho56 hb hg_ hnew_
            clear hg_ hnew_
            (first | rw [← Ny271.out] at ho56 | (simp only [Int.reduceToNat] at ho56; rw [← Ny271.out] at ho56))
            replace HO262 := aM (Kd.V_elder' (by with_reducible apply_rules [HO262.out, Kd.V_alloc, Kd.V_drewN, Kd.V_drew]) (Kd.N_base ho56) hb)
            replace HO270 := aM (Kd.V_elder' (by with_reducible apply_rules [HO270.out, Kd.V_alloc, Kd.V_drewN, Kd.V_drew]) (Kd.N_base ho56) hb)
            have HO273 := aM (Kd.N_lower ho56 (below_size (by (with_reducible apply_rules [HB.out, pA, pD, pE, sT, GE250.out]))))
            replace B50 := aM (blk_below (g := gb250) (o := .cells #[.int .i64 2, .int .i64 x9_1, .int .i64 (rd l1 0), .int .i64 (rd l1 1)] 67 (0, 0)) (by with_reducible apply_rules [B50.out, bA, bB, bC]) hb)
            replace HB := aM (below_step (by (with_reducible apply_rules [HB.out, pA, pD, pE, sT, GE250.out])) hb)
            clear HO253 HO257 HO265 HO_8
            clear hb ho56
            obtain ⟨Ao57, co57, eo57⟩ := Kd.N_slice HO273.out
            (first | subst eo57 | (injection eo57 with f1_ f2_ f3_; have f4_ := f1_.symm; have f5_ := f3_.symm; clear f1_ f2_ f3_; subst f4_; subst f5_))
            refine hK.out _ _ ⟨(bE B50.out 0).trans rfl, (bE B50.out 1).trans rfl, (bE B50.out 2).trans rfl, (bE B50.out 3).trans rfl⟩ (fun hHeld => ?_)
            clear hK K
            refine norm_ (a' := ?_) ?_ ?_
            rotate_left
            ·show Act.put _ (some 91) _ = _
             simp only [Act.put, pSj4, i64_w]
             rfl
            refine one_ (i := 14) (N := some 92) z43j4 rfl rfl (one_of HT_.out (by kernel_rfl)) (by decide) (fun K hK => ?_)
            refine goes_ Tryd.func71 (by kernel_rfl) rfl #[.slice Ao57 y271.length co57] (by rfl) rfl rfl (by (try simp only [List.map_toArray, List.map_cons, List.map_nil]); first | done | rfl | (simp only [List.length_drop, List.length_take]; rfl)) ?_
            with_reducible refine (slices_Concat_ops.calls _ _ y271 t274 _ ?side1 ?side2 A34.out).mono ?_
            (case side1 => repeat (first | exact (Kd.N_reads' HO273.out).2.2 | (with_reducible refine Kd.C_alloc ?_ _) | (with_reducible refine Kd.C_drewN ?_ _) | (with_reducible refine Kd.C_drew ?_)))
            (case side2 => exact (Kd.N_reads' HO273.out).2.1)
            rintro e w58 ⟨v275, rfl, ho0, hb⟩
            refine ⟨_, rfl, ?_⟩
            replace HO262 := aM (Kd.V_elder' (by with_reducible apply_rules [HO262.out, Kd.V_alloc, Kd.V_drewN, Kd.V_drew]) (Kd.R_base ho0) hb)
            replace HO270 := aM (Kd.V_elder' (by with_reducible apply_rules [HO270.out, Kd.V_alloc, Kd.V_drewN, Kd.V_drew]) (Kd.R_base ho0) hb)
            replace HO273 := aM (Kd.N_elder' (by with_reducible apply_rules [HO273.out, Kd.N_alloc, Kd.N_drewN, Kd.N_drew]) (Kd.R_base ho0) hb)
            have HO276 := aM (Kd.R_lower (Kd.R_newB ho0 (g := gb250) (o := .cells #[.int .i64 2, .int .i64 x9_1, .int .i64 (rd l1 0), .int .i64 (rd l1 1)] 67 (0, 0)) (by with_reducible apply_rules [B50.out, bA, bB, bC])) (below_size (by (with_reducible apply_rules [HB.out, pA, pD, pE, sT, GE250.out]))))
            replace B50 := aM (blk_below (g := gb250) (o := .cells #[.int .i64 2, .int .i64 x9_1, .int .i64 (rd l1 0), .int .i64 (rd l1 1)] 67 (0, 0)) (by with_reducible apply_rules [B50.out, bA, bB, bC]) hb)
            replace HB := aM (below_step (by (with_reducible apply_rules [HB.out, pA, pD, pE, sT, GE250.out])) hb)
            (try clear hb)
            (try clear hb2)
            (try clear hk)
            (try clear hi)
            (try clear ho0)
            refine hK.out _ _ ⟨(bE B50.out 0).trans rfl, (bE B50.out 1).trans rfl, (bE B50.out 2).trans rfl, (bE B50.out 3).trans rfl⟩ (fun hHeld => ?_)
            clear hK K
            refine norm_ (a' := ?_) ?_ ?_
            rotate_left
            ·show Act.put _ (some 92) _ = _
             simp only [Act.put, pSj4, i64_w]
             rfl
            refine pure_ (i := 15) (N := some 6) (v := ?_) (a' := ?_) z44j4 rfl rfl (any_of HT_.out (by kernel_rfl)) (fun _ _ _ h => h) (Or.inl ⟨by rfl, ?_⟩) ?_ ?_; rotate_left; (intro w'; go_simp; with_reducible rfl); rotate_left; (simp only [Act.put, pSj4, i64_w]; rfl)
            refine done_ (done_of HT_.out (by kernel_rfl)) ?_
            try go_wp2
            go_ret
            exact ⟨_, by first | rfl | (simp [errW_none, errW_some] <;> rfl) | (simp only [← hji31]; first | rfl | (simp [errW_none, errW_some] <;> rfl)) | (simp [*, errW_none, errW_some] <;> rfl), by (with_reducible repeat (first | apply rA | apply rB | apply rC)); exact rE HO276.out (fun _ hk => trivial), by (with_reducible apply_rules [HB.out, pA, pD, pE, sT, GE250.out])⟩
           ·rw [if_neg c33] at H
            exact absurd H (by simp)
          ·rw [if_neg c32] at H
           exact absurd H (by simp)
         ·rw [if_neg c30] at H
          exact absurd H (by simp)
        ·rw [if_neg c27] at H
         exact absurd H (by simp)
       ·rw [if_neg c26] at H
        exact absurd H (by simp)

end Go.Proofs.YthfhnkpipdbekaaDoor.Tj
