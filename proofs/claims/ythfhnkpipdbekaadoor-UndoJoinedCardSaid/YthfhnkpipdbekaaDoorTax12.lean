-- CUT by a program of this session: what the claim does not use is left out
import Derived.Test.YthfhnkpipdbekaaDoorUax0
import Derived.Test.YthfhnkpipdbekaaDoorProg
import Derived.Below
import Derived.Deep.Draws
import Derived.Deep.AppendLies
import Derived.Maps.AppendAt
import Derived.OwnWalk
import Derived.Laws.BytesArg
import Derived.Laws.MakeOwn
import Derived.Laws.OwnMore
import Derived.Deep.OwnRows
import Derived.Tactics
import Derived.Lib.ConvBytes
import Derived.Laws.Slices
import Derived.WalkKit
import Derived.KernelRfl
import Derived.RowKit3
import Derived.Deep.LoopGhost
import Derived.Deep.QuietTactic
import Derived.BigQuiet
import Derived.WideLaws
import Derived.Deep.DeepCutAuto
import Derived.Deep.CutBlock
import Derived.Deep.RegionHeld3
import Derived.Laws.Rows
import Derived.Lib.AppendStr
import Derived.ArgAppend
import Derived.Laws.IdiomCopy
import Derived.OrdersHeld
import Derived.Laws.BitsLemmas
import Derived.RowKit
import Derived.Test.YthfhnkpipdbekaaDoorN6
import Derived.Test.YthfhnkpipdbekaaDoorWAll
import Derived.Test.YthfhnkpipdbekaaDoorTax1
namespace Go.Proofs.YthfhnkpipdbekaaDoor.Ta
open Go.Proofs.YthfhnkpipdbekaaDoor.Ua
open Go.Proofs.YthfhnkpipdbekaaDoor.Giv
open Go.RowKit Go.Proofs.YthfhnkpipdbekaaDoorW.PrintWords Go.Proofs.YthfhnkpipdbekaaDoorW.PrintLast Go.Proofs.YthfhnkpipdbekaaDoorW.PrintMore
attribute [local go_sem] max2_int min2_int max_two min_two max_three min_three max_four min_four   -- for this text's walks alone
set_option linter.unusedVariables false
set_option linter.unusedSimpArgs false

attribute [local go_sem high] eqA67
def commodatumref12_Join.f (a0_0 : Int) (l0_1 : List (S67)) (a1_0 : Int) (l1_1 : List (S67)) : Option (Int × (List (S67))) := (some (([] : List (S67)) : List (S67))).bind fun y259 => (if y259.length + l0_1.length < 4398046511104 then ((some (y259 ++ l0_1 : List (S67))).bind fun y262 => (if y262.length + l1_1.length < 4398046511104 then (some (a0_0, (y262 ++ l1_1))) else (none))) else (none))
def commodatumref12_Join.T1 : Bool × List (List Nat × List Nat) := (true, [([], []), ([0], [0]), ([], []), ([], []), ([3], [3]), ([2, 4], [2, 4]), ([], []), ([6], [6]), ([5, 7, 5], [5, 7]), ([1, 8], [1, 8]), ([9, 8, 0, 1, 2, 3, 4, 5, 6, 7, 8, 9], [9])])
def commodatumref12_Join.B1 : List Nat := [0, 1, 0, 0, 8, 28, 0, 64, 252, 511, 1023]
theorem commodatumref12_Join.tab1 : rtab .any (opsOf Tryd.f37 1) = commodatumref12_Join.T1 := by kernel_rfl
theorem commodatumref12_Join.bits1 : waitsOk commodatumref12_Join.T1.2 commodatumref12_Join.B1 = true := by kernel_rfl
theorem pSa2 {α : Type} : (∀ (l : List α) (i : Nat) (a : α), l.toArray.setIfInBounds i a = (l.set i a).toArray) ∧ (∀ (l : List α) (x y : α), (x :: l).set 0 y = y :: l) ∧ (∀ (l : List α) (x y : α) (n : Nat), (x :: l).set (n + 1) y = x :: l.set n y) :=
 ⟨fun _ _ _ => List.setIfInBounds_toArray .., fun _ _ _ => rfl, fun _ _ _ _ => rfl⟩
open Bool renaming true → T, false → F
open Go.Proofs.YthfhnkpipdbekaaDoorW.PrintWords renaming blk_drewN → bA, blk_drew → bB, blk_alloc → bC, below_set → sT, Aside0.mk → aM, pw_below_drewN → pD, below_drew1 → pE, below_alloc → pA, blk_cell → bE, blk_frozen → bF, below_step → pS_
abbrev z0a2 : Array Bool := #[F,F,F,F,F,F,F,F,F,F,F]
abbrev z1a2 : Array Bool := #[T,F,F,F,F,F,F,F,F,F,F]
abbrev z2a2 : Array Bool := #[T,F,F,T,F,F,F,F,F,F,F]
abbrev z3a2 : Array Bool := #[T,F,F,T,F,F,T,F,F,F,F]
abbrev z4a2 : Array Bool := #[T,T,F,T,F,F,T,F,F,F,F]
abbrev z5a2 : Array Bool := #[T,T,F,T,T,F,T,F,F,F,F]
abbrev z6a2 : Array Bool := #[T,T,F,T,T,F,T,T,F,F,F]
abbrev z7a2 : Array Bool := #[T,T,T,T,T,F,T,T,F,F,F]
abbrev z8a2 : Array Bool := #[T,T,T,T,T,T,T,T,F,F,F]
abbrev z9a2 : Array Bool := #[T,T,T,T,T,T,T,T,T,F,F]
abbrev z10a2 : Array Bool := #[T,T,T,T,T,T,T,T,T,T,F]
abbrev z11a2 : Array Bool := #[T,T,T,T,T,T,T,T,T,T,T]
set_option maxHeartbeats 8000000 in
set_option maxRecDepth 100000 in
theorem commodatumref12_Join.calls (a0_0 : Int) (A0_1 : Option Addr) (c0_1 : Nat) (l0_1 : List (S67)) (a1_0 : Int) (A1_1 : Option Addr) (c1_1 : Nat) (l1_1 : List (S67)) (r1 : Int) (r2 : List (S67)) (w : World) (hr0_1 : Kd.C k67 w A0_1 l0_1.length l0_1) (hc0_1 : l0_1.length ≤ c0_1) (hr1_1 : Kd.C k67 w A1_1 l1_1.length l1_1) (hc1_1 : l1_1.length ≤ c1_1) (h : commodatumref12_Join.f a0_0 l0_1 a1_0 l1_1 = some (r1, r2)) :
  Calls Tryd.prog 37 #[.agg #[.int .i64 a0_0, .slice A0_1 l0_1.length c0_1], .agg #[.int .i64 a1_0, .slice A1_1 l1_1.length c1_1]] w fun e w' => ∃ v1_ : Value, e = .returned (.agg #[.int .i64 r1, v1_]) ∧ Kd.R k67 67 w' w.heap.size (fun _ => True) v1_ r2 ∧ Below w.heap.size w w' := by
 have hu25 := Tryd.underlying25
 have HR0_1 := aM hr0_1
 have HC0_1 := aM hc0_1
 clear hr0_1 hc0_1
 have HR1_1 := aM hr1_1
 have HC1_1 := aM hc1_1
 clear hr1_1 hc1_1
 have HB := aM (Below.refl w.heap.size w)
 have H : ((some (([] : List (S67)) : List (S67))).bind fun y259 => (if y259.length + l0_1.length < 4398046511104 then ((some (y259 ++ l0_1 : List (S67))).bind fun y262 => (if y262.length + l1_1.length < 4398046511104 then (some (a0_0, (y262 ++ l1_1))) else (none))) else (none))) = some (r1, r2) := h
 clear h
 obtain ⟨y259, hy259⟩ : ∃ y_ : List (S67), y_ = (([] : List (S67))) := ⟨_, rfl⟩
 replace H : (if y259.length + l0_1.length < 4398046511104 then ((some (y259 ++ l0_1 : List (S67))).bind fun y262 => (if y262.length + l1_1.length < 4398046511104 then (some (a0_0, (y262 ++ l1_1))) else (none))) else (none)) = some (r1, r2) := by first | (rw [hy259]; with_reducible exact H) | (have H2_ := (Option.bind_some _ _).symm.trans H; rw [hy259]; with_reducible exact H2_) | (have H2_ := (Option.bind_some _ _).symm.trans H; with_reducible exact H2_) | with_reducible exact H | (rw [hy259]; exact H) | exact H
 have Ny259 := aM hy259
 clear hy259
 by_cases c3 : y259.length + l0_1.length < 4398046511104
 ·rw [if_pos c3] at H
  have LMc3 := aM c3
  clear c3
  obtain ⟨y262, hy262⟩ : ∃ y_ : List (S67), y_ = (y259 ++ l0_1) := ⟨_, rfl⟩
  replace H : (if y262.length + l1_1.length < 4398046511104 then (some (a0_0, (y262 ++ l1_1))) else (none)) = some (r1, r2) := by first | (rw [hy262]; with_reducible exact H) | (have H2_ := (Option.bind_some _ _).symm.trans H; rw [hy262]; with_reducible exact H2_) | (have H2_ := (Option.bind_some _ _).symm.trans H; with_reducible exact H2_) | with_reducible exact H | (rw [hy262]; exact H) | exact H
  have Ny262 := aM hy262
  clear hy262
  by_cases c4 : y262.length + l1_1.length < 4398046511104
  ·rw [if_pos c4] at H
   have LMc4 := aM c4
   clear c4
   obtain ⟨y265, hy265⟩ : ∃ y_ : List (S67), y_ = (y262 ++ l1_1) := ⟨_, rfl⟩
   replace H : (some (a0_0, y265)) = some (r1, r2) := by first | (rw [hy265]; with_reducible exact H) | (have H2_ := (Option.bind_some _ _).symm.trans H; rw [hy265]; with_reducible exact H2_) | (have H2_ := (Option.bind_some _ _).symm.trans H; with_reducible exact H2_) | with_reducible exact H | (rw [hy265]; exact H) | exact H
   have Ny265 := aM hy265
   clear hy265
   simp only [Option.some.injEq, Prod.mk.injEq] at H
   obtain ⟨rfl, rfl⟩ := H
   go_enter Tryd.func37, Tryd.ntmps37
   try go_wp2_with (first | ((with_reducible refine gate_dst (N := 2) rfl ?_); refine box_event ?hg (N := 2) ?hd (cs := #[.int .i64 a0_0, .slice A0_1 l0_1.length c0_1]) (t := 25) ?hr ?_; (case hd => rfl); (case hg => rfl); (case hr => first | (go_simp; done) | (go_simp; rfl)); intro gb256 hg w5 hbox hb; have B56 := aM (hbox); have GW256 := aM ((by rw [hg]; exact (below_size (by (with_reducible apply_rules [HB.out, pA, pD, pE]))) : w.heap.size ≤ gb256)); have GE256 := aM ((by rw [hg]; exact (below_size (by (with_reducible apply_rules [HB.out, pA, pD, pE]))) : w.heap.size ≤ gb256)); replace HB := aM (pS_ (by (with_reducible apply_rules [HB.out, pA, pD, pE])) hb); clear hb hbox hg) | ((with_reducible refine gate_dst (N := 3) rfl ?_); refine box_event ?hg (N := 3) ?hd (cs := #[.int .i64 a1_0, .slice A1_1 l1_1.length c1_1]) (t := 25) ?hr ?_; (case hd => rfl); (case hg => rfl); (case hr => first | (go_simp; done) | (go_simp; rfl)); intro gb257 hg w6 hbox hb; have B57 := aM (hbox); have GW257 := aM ((by rw [hg]; exact (below_size (by (with_reducible apply_rules [HB.out, pA, pD, pE, sT, GE256.out]))) : w.heap.size ≤ gb257)); have GE257 := aM ((by rw [hg]; exact (below_size (by (with_reducible apply_rules [HB.out, pA, pD, pE, sT, GE256.out]))) : w.heap.size ≤ gb257)); replace HB := aM (pS_ (by (with_reducible apply_rules [HB.out, pA, pD, pE, sT, GE256.out])) hb); have NB256_257 := aM ((by rw [hg]; exact Nat.ne_of_lt (blk_lt (g := gb256) (o := .cells #[.int .i64 a0_0, .slice A0_1 l0_1.length c0_1] 25 (0, 0)) (by with_reducible apply_rules [B56.out, bA, bB, bC])) : gb256 ≠ gb257)); have NB257_256 := aM ((by rw [hg]; exact Nat.ne_of_gt (blk_lt (g := gb256) (o := .cells #[.int .i64 a0_0, .slice A0_1 l0_1.length c0_1] 25 (0, 0)) (by with_reducible apply_rules [B56.out, bA, bB, bC])) : gb257 ≠ gb256)); replace B56 := aM (blk_below (g := gb256) (o := .cells #[.int .i64 a0_0, .slice A0_1 l0_1.length c0_1] 25 (0, 0)) (by with_reducible apply_rules [B56.out, bA, bB, bC]) hb); clear hb hbox hg) | ((with_reducible refine gate_dst (N := 4) rfl ?_); refine box_event ?hg (N := 4) ?hd (cs := #[.int .i64 0, .slice none 0 0]) (t := 25) ?hr ?_; (case hd => rfl); (case hg => rfl); (case hr => first | (go_simp; done) | (go_simp; rfl)); intro gb258 hg w7 hbox hb; have B58 := aM (hbox); have GW258 := aM ((by rw [hg]; exact (below_size (by (with_reducible apply_rules [HB.out, pA, pD, pE, sT, GE256.out, GE257.out]))) : w.heap.size ≤ gb258)); have GE258 := aM ((by rw [hg]; exact (below_size (by (with_reducible apply_rules [HB.out, pA, pD, pE, sT, GE256.out, GE257.out]))) : w.heap.size ≤ gb258)); replace HB := aM (pS_ (by (with_reducible apply_rules [HB.out, pA, pD, pE, sT, GE256.out, GE257.out])) hb); have NB256_258 := aM ((by rw [hg]; exact Nat.ne_of_lt (blk_lt (g := gb256) (o := .cells #[.int .i64 a0_0, .slice A0_1 l0_1.length c0_1] 25 (0, 0)) (by with_reducible apply_rules [B56.out, bA, bB, bC])) : gb256 ≠ gb258)); have NB258_256 := aM ((by rw [hg]; exact Nat.ne_of_gt (blk_lt (g := gb256) (o := .cells #[.int .i64 a0_0, .slice A0_1 l0_1.length c0_1] 25 (0, 0)) (by with_reducible apply_rules [B56.out, bA, bB, bC])) : gb258 ≠ gb256)); replace B56 := aM (blk_below (g := gb256) (o := .cells #[.int .i64 a0_0, .slice A0_1 l0_1.length c0_1] 25 (0, 0)) (by with_reducible apply_rules [B56.out, bA, bB, bC]) hb); have NB257_258 := aM ((by rw [hg]; exact Nat.ne_of_lt (blk_lt (g := gb257) (o := .cells #[.int .i64 a1_0, .slice A1_1 l1_1.length c1_1] 25 (0, 0)) (by with_reducible apply_rules [B57.out, bA, bB, bC])) : gb257 ≠ gb258)); have NB258_257 := aM ((by rw [hg]; exact Nat.ne_of_gt (blk_lt (g := gb257) (o := .cells #[.int .i64 a1_0, .slice A1_1 l1_1.length c1_1] 25 (0, 0)) (by with_reducible apply_rules [B57.out, bA, bB, bC])) : gb258 ≠ gb257)); replace B57 := aM (blk_below (g := gb257) (o := .cells #[.int .i64 a1_0, .slice A1_1 l1_1.length c1_1] 25 (0, 0)) (by with_reducible apply_rules [B57.out, bA, bB, bC]) hb); clear hb hbox hg))
   replace B56 := aM (bB B56.out)
   replace B57 := aM (bB B57.out)
   replace B58 := aM (bB B58.out)
   replace HB := aM (pE HB.out)
   refine start_ (n := 11) (S := fun w' => w'.cell? ⟨gb256, 0, none⟩ = some (.int .i64 a0_0) ∧ w'.cell? ⟨gb256, 1, none⟩ = some (.slice A0_1 l0_1.length c0_1) ∧ w'.cell? ⟨gb257, 0, none⟩ = some (.int .i64 a1_0) ∧ w'.cell? ⟨gb257, 1, none⟩ = some (.slice A1_1 l1_1.length c1_1)) (ds := []) z0a2 (by kernel_rfl) rfl rfl ⟨(bE B56.out 0).trans rfl, (bE B56.out 1).trans rfl, (bE B57.out 0).trans rfl, (bE B57.out 1).trans rfl⟩ (fun hHeld => ?_); refine with_tabW commodatumref12_Join.tab1 commodatumref12_Join.bits1 (fun HT_ HW_ => ?_)
   generalize w7.drew = w8 at B56 B57 B58 HB hHeld ⊢
   refine pure_ (i := 0) (N := some 5) (v := ?_) (a' := ?_) z1a2 rfl rfl (any_of HT_.out (by kernel_rfl)) (fun _ _ _ h => h) (Or.inl ⟨by rfl, ?_⟩) ?_ ?_; rotate_left; (intro w'; go_simp; with_reducible rfl); rotate_left; (simp only [Act.put, pSa2, i64_w]; rfl)
   refine pure_ (i := 3) (N := some 8) (v := ?_) (a' := ?_) z2a2 rfl rfl (any_of HT_.out (by kernel_rfl)) (fun _ _ _ h => h) (Or.inl ⟨by rfl, ?_⟩) ?_ ?_; rotate_left; (intro w'; go_simp; with_reducible rfl); rotate_left; (simp only [Act.put, pSa2, i64_w]; rfl)
   refine pure_ (i := 6) (N := some 11) (v := ?_) (a' := ?_) z3a2 rfl rfl (any_of HT_.out (by kernel_rfl)) (fun _ _ _ h => h) (Or.inl ⟨by rfl, ?_⟩) ?_ ?_; rotate_left; (intro w'; go_simp; with_reducible rfl); rotate_left; (simp only [Act.put, pSa2, i64_w]; rfl)
   refine take_ (i := 1) (N := some 6) (v := ?_) (a' := ?_) z4a2 rfl rfl (take_ofW HT_.out HW_.out (by kernel_rfl)) (fun _ _ _ h => h) (Or.inl ⟨by rfl, ?_⟩) hHeld ?_ ?_; rotate_left; (rintro w' ⟨s0, s1, s2, s3⟩; go_simp; with_reducible rfl); rotate_left; (simp only [Act.put, pSa2, i64_w]; rfl)
   refine take_ (i := 4) (N := some 9) (v := ?_) (a' := ?_) z5a2 rfl rfl (take_ofW HT_.out HW_.out (by kernel_rfl)) (fun _ _ _ h => h) (Or.inl ⟨by rfl, ?_⟩) hHeld ?_ ?_; rotate_left; (rintro w' ⟨s0, s1, s2, s3⟩; go_simp; with_reducible rfl); rotate_left; (simp only [Act.put, pSa2, i64_w]; rfl)
   refine take_ (i := 7) (N := some 12) (v := ?_) (a' := ?_) z6a2 rfl rfl (take_ofW HT_.out HW_.out (by kernel_rfl)) (fun _ _ _ h => h) (Or.inl ⟨by rfl, ?_⟩) hHeld ?_ ?_; rotate_left; (rintro w' ⟨s0, s1, s2, s3⟩; go_simp; with_reducible rfl); rotate_left; (simp only [Act.put, pSa2, i64_w]; rfl)
   refine one_ (i := 2) (N := some 7) z7a2 rfl rfl (one_of HT_.out (by kernel_rfl)) (by decide) (fun K hK => ?_)
   refine Kd.R_lit_step k67 _ 67 ?hg (N := 7) ?hd (xs := ([] : List (S67))) (inner := []) (ok := fun _ => True) (okp := fun _ => True) ?hr ?hp (fun _ hk => hk) trivial (Below.refl _ _) (Nat.le_refl _) (by simp) ?_; (case hd => rfl); (case hg => rfl); (case hr => first | (go_simp; done) | (go_simp; rfl)); (case hp => exact (Reps.none _ _))
   intro v260 w9 ho10 hb hg_ hnew_
   clear hg_ hnew_
   (first | rw [← Ny259.out] at ho10 | (simp only [Int.reduceToNat] at ho10; rw [← Ny259.out] at ho10))
   have HO261 := aM (Kd.R_lower ho10 (below_size (by (with_reducible apply_rules [HB.out, pA, pD, pE, sT, GE256.out, GE257.out, GE258.out]))))
   replace B56 := aM (blk_below (g := gb256) (o := .cells #[.int .i64 a0_0, .slice A0_1 l0_1.length c0_1] 25 (0, 0)) (by with_reducible apply_rules [B56.out, bA, bB, bC]) hb)
   replace B57 := aM (blk_below (g := gb257) (o := .cells #[.int .i64 a1_0, .slice A1_1 l1_1.length c1_1] 25 (0, 0)) (by with_reducible apply_rules [B57.out, bA, bB, bC]) hb)
   replace B58 := aM (blk_below (g := gb258) (o := .cells #[.int .i64 0, .slice none 0 0] 25 (0, 0)) (by with_reducible apply_rules [B58.out, bA, bB, bC]) hb)
   replace HB := aM (pS_ (by (with_reducible apply_rules [HB.out, pA, pD, pE, sT, GE256.out, GE257.out, GE258.out])) hb)
   clear hb ho10
   refine hK.out _ _ ⟨(bE B56.out 0).trans rfl, (bE B56.out 1).trans rfl, (bE B57.out 0).trans rfl, (bE B57.out 1).trans rfl⟩ (fun hHeld => ?_)
   clear hK K
   refine norm_ (a' := ?_) ?_ ?_
   rotate_left
   ·show Act.put _ (some 7) _ = _
    simp only [Act.put, pSa2, i64_w]
    rfl
   refine one_ (i := 5) (N := some 10) z8a2 rfl rfl (one_of HT_.out (by kernel_rfl)) (by decide) (fun K hK => ?_)
   refine Kd.R_append_rows_step k67 (w0 := w) w.heap.size (by rfl) (.tmp 7) (.tmp 9) 23 67 (.agg #[(.int .i64 0), (.int .i64 0), (.int .i64 0), (.int .i64 0)]) 32 rfl Tryd.underlying23 info67 rfl (by decide) (by omega) v260 y259 l0_1 _ _ _ (fun _ => True) (fun _ => False) rfl rfl ?aO ?aR (fun _ _ h => h) (fun _ h => h.elim) ?aF ?aB ?aS ?aL ?_
   (case aR => with_reducible apply_rules [(Kd.C_below HR0_1.out HB.out), Kd.C_alloc, Kd.C_drewN, Kd.C_drew])
   (case aB => exact (by (with_reducible apply_rules [HB.out, pA, pD, pE, sT, GE256.out, GE257.out, GE258.out])))
   (case aF => exact (fun _ _ => trivial))
   (case aO => exact (by with_reducible apply_rules [HO261.out, Kd.R_alloc, Kd.R_drewN, Kd.R_drew]))
   (case aS => exact (below_size (by (with_reducible apply_rules [HB.out, pA, pD, pE, sT, GE256.out, GE257.out, GE258.out]))))
   (case aL => have := LMc3.out; omega)
   intro v263 w11 ho hb hg hat
   rw [← Ny262.out] at ho
   replace B56 := aM (blk_grown (g := gb256) (o := .cells #[.int .i64 a0_0, .slice A0_1 l0_1.length c0_1] 25 (0, 0)) (by with_reducible apply_rules [B56.out, bA, bB, bC]) hg (Kd.R_ne HO261.out B56.out (by decide)))
   replace B57 := aM (blk_grown (g := gb257) (o := .cells #[.int .i64 a1_0, .slice A1_1 l1_1.length c1_1] 25 (0, 0)) (by with_reducible apply_rules [B57.out, bA, bB, bC]) hg (Kd.R_ne HO261.out B57.out (by decide)))
   replace B58 := aM (blk_grown (g := gb258) (o := .cells #[.int .i64 0, .slice none 0 0] 25 (0, 0)) (by with_reducible apply_rules [B58.out, bA, bB, bC]) hg (Kd.R_ne HO261.out B58.out (by decide)))
   replace HB := aM (hb)
   have HO264 := aM (ho)
   clear HO261
   clear ho hb hg hat
   refine hK.out _ _ ⟨(bE B56.out 0).trans rfl, (bE B56.out 1).trans rfl, (bE B57.out 0).trans rfl, (bE B57.out 1).trans rfl⟩ (fun hHeld => ?_)
   clear hK K
   refine norm_ (a' := ?_) ?_ ?_
   rotate_left
   ·show Act.put _ (some 10) _ = _
    simp only [Act.put, pSa2, i64_w]
    rfl
   refine one_ (i := 8) (N := some 13) z9a2 rfl rfl (one_of HT_.out (by kernel_rfl)) (by decide) (fun K hK => ?_)
   refine Kd.R_append_rows_step k67 (w0 := w) w.heap.size (by rfl) (.tmp 10) (.tmp 12) 23 67 (.agg #[(.int .i64 0), (.int .i64 0), (.int .i64 0), (.int .i64 0)]) 32 rfl Tryd.underlying23 info67 rfl (by decide) (by omega) v263 y262 l1_1 _ _ _ (fun _ => True) (fun _ => False) rfl rfl ?aO ?aR (fun _ _ h => h) (fun _ h => h.elim) ?aF ?aB ?aS ?aL ?_
   (case aR => with_reducible apply_rules [(Kd.C_below HR1_1.out HB.out), Kd.C_alloc, Kd.C_drewN, Kd.C_drew])
   (case aB => exact (by (with_reducible apply_rules [HB.out, pA, pD, pE, sT, GE256.out, GE257.out, GE258.out])))
   (case aF => exact (fun _ _ => trivial))
   (case aO => exact (by with_reducible apply_rules [HO264.out, Kd.R_alloc, Kd.R_drewN, Kd.R_drew]))
   (case aS => exact (below_size (by (with_reducible apply_rules [HB.out, pA, pD, pE, sT, GE256.out, GE257.out, GE258.out]))))
   (case aL => have := LMc4.out; omega)
   intro v266 w12 ho hb hg hat
   rw [← Ny265.out] at ho
   replace B56 := aM (blk_grown (g := gb256) (o := .cells #[.int .i64 a0_0, .slice A0_1 l0_1.length c0_1] 25 (0, 0)) (by with_reducible apply_rules [B56.out, bA, bB, bC]) hg (Kd.R_ne HO264.out B56.out (by decide)))
   replace B57 := aM (blk_grown (g := gb257) (o := .cells #[.int .i64 a1_0, .slice A1_1 l1_1.length c1_1] 25 (0, 0)) (by with_reducible apply_rules [B57.out, bA, bB, bC]) hg (Kd.R_ne HO264.out B57.out (by decide)))
   replace B58 := aM (blk_grown (g := gb258) (o := .cells #[.int .i64 0, .slice none 0 0] 25 (0, 0)) (by with_reducible apply_rules [B58.out, bA, bB, bC]) hg (Kd.R_ne HO264.out B58.out (by decide)))
   replace HB := aM (hb)
   have HO267 := aM (ho)
   clear HO264
   clear ho hb hg hat
   obtain ⟨Ao13, co13, eo13⟩ := Kd.R_slice HO267.out
   (first | subst eo13 | (injection eo13 with f1_ f2_ f3_; have f4_ := f1_.symm; have f5_ := f3_.symm; clear f1_ f2_ f3_; subst f4_; subst f5_))
   refine hK.out _ _ ⟨(bE B56.out 0).trans rfl, (bE B56.out 1).trans rfl, (bE B57.out 0).trans rfl, (bE B57.out 1).trans rfl⟩ (fun hHeld => ?_)
   clear hK K
   refine norm_ (a' := ?_) ?_ ?_
   rotate_left
   ·show Act.put _ (some 13) _ = _
    simp only [Act.put, pSa2, i64_w]
    rfl
   refine pure_ (i := 9) (N := some 14) (v := ?_) (a' := ?_) z10a2 rfl rfl (any_of HT_.out (by kernel_rfl)) (fun _ _ _ h => h) (Or.inl ⟨by rfl, ?_⟩) ?_ ?_; rotate_left; (intro w'; go_simp; with_reducible rfl); rotate_left; (simp only [Act.put, pSa2, i64_w]; rfl)
   refine one_ (i := 10) (N := none) z11a2 rfl rfl (one_of HT_.out (by kernel_rfl)) (by decide) (fun K hK => ?_)
   have hs14 : w12.cell? ⟨gb258, 0, none⟩ = some (.int .i64 0) := (bE B58.out 0).trans rfl
   have hfs14 := bF B58.out 0
   have hns14_0 := NB256_258.out
   have hns14_1 := NB257_258.out
   have hms14_0 := NB258_256.out
   have hms14_1 := NB258_257.out
   have hs15 : w12.cell? ⟨gb258, 1, none⟩ = some (.slice none 0 0) := (bE B58.out 1).trans rfl
   have hfs15 := bF B58.out 1
   have hns15_0 := NB256_258.out
   have hns15_1 := NB257_258.out
   have hms15_0 := NB258_256.out
   have hms15_1 := NB258_257.out
   refine skip_ (w1 := ?_) (by rfl) rfl ?_ ?_
   rotate_left
   ·go_simp
    rfl
   refine hK.out _ _ ⟨((cell_far (p := ⟨gb258, _, none⟩) NB256_258.out _).trans (((cell_far (p := ⟨gb258, _, none⟩) NB256_258.out _).trans (hHeld.1)))), ((cell_far (p := ⟨gb258, _, none⟩) NB256_258.out _).trans (((cell_far (p := ⟨gb258, _, none⟩) NB256_258.out _).trans (hHeld.2.1)))), ((cell_far (p := ⟨gb258, _, none⟩) NB257_258.out _).trans (((cell_far (p := ⟨gb258, _, none⟩) NB257_258.out _).trans (hHeld.2.2.1)))), ((cell_far (p := ⟨gb258, _, none⟩) NB257_258.out _).trans (((cell_far (p := ⟨gb258, _, none⟩) NB257_258.out _).trans (hHeld.2.2.2))))⟩ (fun hHeld => ?_)
   clear hK K
   refine done_ (done_of HT_.out (by kernel_rfl)) ?_
   try go_wp2
   refine bodyPost_ret (results_cell_row rfl _ _ gb258 25 #[.int .i64 a0_0, .slice Ao13 y265.length co13] (0, 0) _ rfl (by (with_reducible repeat (first | refine bA ?_ _ | refine bB ?_ | refine bC ?_ _)); refine blk_put (cs := #[.int .i64 a0_0, .slice none 0 0]) ?_ 1 _ rfl; (with_reducible repeat (first | refine bA ?_ _ | refine bB ?_ | refine bC ?_ _)); refine blk_put (cs := #[.int .i64 0, .slice none 0 0]) ?_ 0 _ rfl; with_reducible apply_rules [B58.out, bA, bB, bC]) Tryd.underlying25 rfl (by kernel_rfl)) rfl ?_
   exact ⟨_, by first | rfl | (simp [errW_none, errW_some] <;> rfl) | (simp [*, errW_none, errW_some] <;> rfl), by (with_reducible repeat (first | apply Kd.R_alloc | apply Kd.R_drewN | apply Kd.R_drew)); exact Kd.R_mono (Kd.R_far (p := ⟨gb258, 1, none⟩) (Kd.R_far (p := ⟨gb258, 0, none⟩) (Kd.R_types HO267.out B58.out (by decide)) (fun _ hk => hk.2) (.int .i64 a0_0)) (fun _ hk => hk.2) (.slice Ao13 y265.length co13)) (fun _ hk => trivial), by (with_reducible apply_rules [HB.out, pA, pD, pE, sT, GE256.out, GE257.out, GE258.out])⟩
  ·rw [if_neg c4] at H
   exact absurd H (by simp)
 ·rw [if_neg c3] at H
  exact absurd H (by simp)

def commodatumlaw12_Copy.f (a0_0 : Int) (l0_1 : List (S67)) : Option (Int × (List (S67))) := (some (([] : List (S67)) : List (S67))).bind fun y272 => (if y272.length + l0_1.length < 4398046511104 then (some (a0_0, (y272 ++ l0_1))) else (none))
def commodatumlaw12_Copy.T1 : Bool × List (List Nat × List Nat) := (true, [([], []), ([0], [0]), ([], []), ([], []), ([3], [3]), ([2, 4], [2, 4]), ([1, 5], [1, 5]), ([6, 5, 0, 1, 2, 3, 4, 5, 6], [6])])
def commodatumlaw12_Copy.B1 : List Nat := [0, 1, 0, 0, 8, 28, 63, 127]
theorem commodatumlaw12_Copy.tab1 : rtab .any (opsOf Tryd.f24 1) = commodatumlaw12_Copy.T1 := by kernel_rfl
theorem commodatumlaw12_Copy.bits1 : waitsOk commodatumlaw12_Copy.T1.2 commodatumlaw12_Copy.B1 = true := by kernel_rfl
set_option maxHeartbeats 8000000 in
set_option maxRecDepth 100000 in
theorem commodatumlaw12_Copy.calls (a0_0 : Int) (A0_1 : Option Addr) (c0_1 : Nat) (l0_1 : List (S67)) (r1 : Int) (r2 : List (S67)) (w : World) (hr0_1 : Kd.C k67 w A0_1 l0_1.length l0_1) (hc0_1 : l0_1.length ≤ c0_1) (h : commodatumlaw12_Copy.f a0_0 l0_1 = some (r1, r2)) :
  Calls Tryd.prog 24 #[.agg #[.int .i64 a0_0, .slice A0_1 l0_1.length c0_1]] w fun e w' => ∃ v1_ : Value, e = .returned (.agg #[.int .i64 r1, v1_]) ∧ Kd.R k67 67 w' w.heap.size (fun _ => True) v1_ r2 ∧ Below w.heap.size w w' := by
 have hu25 := Tryd.underlying25
 have HR0_1 := aM hr0_1
 have HC0_1 := aM hc0_1
 clear hr0_1 hc0_1
 have HB := aM (Below.refl w.heap.size w)
 have H : ((some (([] : List (S67)) : List (S67))).bind fun y272 => (if y272.length + l0_1.length < 4398046511104 then (some (a0_0, (y272 ++ l0_1))) else (none))) = some (r1, r2) := h
 clear h
 obtain ⟨y272, hy272⟩ : ∃ y_ : List (S67), y_ = (([] : List (S67))) := ⟨_, rfl⟩
 replace H : (if y272.length + l0_1.length < 4398046511104 then (some (a0_0, (y272 ++ l0_1))) else (none)) = some (r1, r2) := by first | (rw [hy272]; with_reducible exact H) | (have H2_ := (Option.bind_some _ _).symm.trans H; rw [hy272]; with_reducible exact H2_) | (have H2_ := (Option.bind_some _ _).symm.trans H; with_reducible exact H2_) | with_reducible exact H | (rw [hy272]; exact H) | exact H
 have Ny272 := aM hy272
 clear hy272
 by_cases c2 : y272.length + l0_1.length < 4398046511104
 ·rw [if_pos c2] at H
  have LMc2 := aM c2
  clear c2
  obtain ⟨y275, hy275⟩ : ∃ y_ : List (S67), y_ = (y272 ++ l0_1) := ⟨_, rfl⟩
  replace H : (some (a0_0, y275)) = some (r1, r2) := by first | (rw [hy275]; with_reducible exact H) | (have H2_ := (Option.bind_some _ _).symm.trans H; rw [hy275]; with_reducible exact H2_) | (have H2_ := (Option.bind_some _ _).symm.trans H; with_reducible exact H2_) | with_reducible exact H | (rw [hy275]; exact H) | exact H
  have Ny275 := aM hy275
  clear hy275
  simp only [Option.some.injEq, Prod.mk.injEq] at H
  obtain ⟨rfl, rfl⟩ := H
  go_enter Tryd.func24, Tryd.ntmps24
  try go_wp2_with (first | ((with_reducible refine gate_dst (N := 1) rfl ?_); refine box_event ?hg (N := 1) ?hd (cs := #[.int .i64 a0_0, .slice A0_1 l0_1.length c0_1]) (t := 25) ?hr ?_; (case hd => rfl); (case hg => rfl); (case hr => first | (go_simp; done) | (go_simp; rfl)); intro gb270 hg w3 hbox hb; have B70 := aM (hbox); have GW270 := aM ((by rw [hg]; exact (below_size (by (with_reducible apply_rules [HB.out, pA, pD, pE]))) : w.heap.size ≤ gb270)); have GE270 := aM ((by rw [hg]; exact (below_size (by (with_reducible apply_rules [HB.out, pA, pD, pE]))) : w.heap.size ≤ gb270)); replace HB := aM (pS_ (by (with_reducible apply_rules [HB.out, pA, pD, pE])) hb); clear hb hbox hg) | ((with_reducible refine gate_dst (N := 2) rfl ?_); refine box_event ?hg (N := 2) ?hd (cs := #[.int .i64 0, .slice none 0 0]) (t := 25) ?hr ?_; (case hd => rfl); (case hg => rfl); (case hr => first | (go_simp; done) | (go_simp; rfl)); intro gb271 hg w4 hbox hb; have B71 := aM (hbox); have GW271 := aM ((by rw [hg]; exact (below_size (by (with_reducible apply_rules [HB.out, pA, pD, pE, sT, GE270.out]))) : w.heap.size ≤ gb271)); have GE271 := aM ((by rw [hg]; exact (below_size (by (with_reducible apply_rules [HB.out, pA, pD, pE, sT, GE270.out]))) : w.heap.size ≤ gb271)); replace HB := aM (pS_ (by (with_reducible apply_rules [HB.out, pA, pD, pE, sT, GE270.out])) hb); have NB270_271 := aM ((by rw [hg]; exact Nat.ne_of_lt (blk_lt (g := gb270) (o := .cells #[.int .i64 a0_0, .slice A0_1 l0_1.length c0_1] 25 (0, 0)) (by with_reducible apply_rules [B70.out, bA, bB, bC])) : gb270 ≠ gb271)); have NB271_270 := aM ((by rw [hg]; exact Nat.ne_of_gt (blk_lt (g := gb270) (o := .cells #[.int .i64 a0_0, .slice A0_1 l0_1.length c0_1] 25 (0, 0)) (by with_reducible apply_rules [B70.out, bA, bB, bC])) : gb271 ≠ gb270)); replace B70 := aM (blk_below (g := gb270) (o := .cells #[.int .i64 a0_0, .slice A0_1 l0_1.length c0_1] 25 (0, 0)) (by with_reducible apply_rules [B70.out, bA, bB, bC]) hb); clear hb hbox hg))
  replace B70 := aM (bB B70.out)
  replace B71 := aM (bB B71.out)
  replace HB := aM (pE HB.out)
  refine start_ (n := 8) (S := fun w' => w'.cell? ⟨gb270, 0, none⟩ = some (.int .i64 a0_0) ∧ w'.cell? ⟨gb270, 1, none⟩ = some (.slice A0_1 l0_1.length c0_1)) (ds := []) #[F,F,F,F,F,F,F,F] (by kernel_rfl) rfl rfl ⟨(bE B70.out 0).trans rfl, (bE B70.out 1).trans rfl⟩ (fun hHeld => ?_); refine with_tabW commodatumlaw12_Copy.tab1 commodatumlaw12_Copy.bits1 (fun HT_ HW_ => ?_)
  generalize w4.drew = w5 at B70 B71 HB hHeld ⊢
  refine pure_ (i := 0) (N := some 3) (v := ?_) (a' := ?_) #[T,F,F,F,F,F,F,F] rfl rfl (any_of HT_.out (by kernel_rfl)) (fun _ _ _ h => h) (Or.inl ⟨by rfl, ?_⟩) ?_ ?_; rotate_left; (intro w'; go_simp; with_reducible rfl); rotate_left; (simp only [Act.put, pSa2, i64_w]; rfl)
  refine pure_ (i := 3) (N := some 6) (v := ?_) (a' := ?_) #[T,F,F,T,F,F,F,F] rfl rfl (any_of HT_.out (by kernel_rfl)) (fun _ _ _ h => h) (Or.inl ⟨by rfl, ?_⟩) ?_ ?_; rotate_left; (intro w'; go_simp; with_reducible rfl); rotate_left; (simp only [Act.put, pSa2, i64_w]; rfl)
  refine take_ (i := 1) (N := some 4) (v := ?_) (a' := ?_) #[T,T,F,T,F,F,F,F] rfl rfl (take_ofW HT_.out HW_.out (by kernel_rfl)) (fun _ _ _ h => h) (Or.inl ⟨by rfl, ?_⟩) hHeld ?_ ?_; rotate_left; (rintro w' ⟨s0, s1⟩; go_simp; with_reducible rfl); rotate_left; (simp only [Act.put, pSa2, i64_w]; rfl)
  refine take_ (i := 4) (N := some 7) (v := ?_) (a' := ?_) #[T,T,F,T,T,F,F,F] rfl rfl (take_ofW HT_.out HW_.out (by kernel_rfl)) (fun _ _ _ h => h) (Or.inl ⟨by rfl, ?_⟩) hHeld ?_ ?_; rotate_left; (rintro w' ⟨s0, s1⟩; go_simp; with_reducible rfl); rotate_left; (simp only [Act.put, pSa2, i64_w]; rfl)
  refine one_ (i := 2) (N := some 5) #[T,T,T,T,T,F,F,F] rfl rfl (one_of HT_.out (by kernel_rfl)) (by decide) (fun K hK => ?_)
  refine Kd.R_lit_step k67 _ 67 ?hg (N := 5) ?hd (xs := ([] : List (S67))) (inner := []) (ok := fun _ => True) (okp := fun _ => True) ?hr ?hp (fun _ hk => hk) trivial (Below.refl _ _) (Nat.le_refl _) (by simp) ?_; (case hd => rfl); (case hg => rfl); (case hr => first | (go_simp; done) | (go_simp; rfl)); (case hp => exact (Reps.none _ _))
  intro v273 w6 ho7 hb hg_ hnew_
  clear hg_ hnew_
  (first | rw [← Ny272.out] at ho7 | (simp only [Int.reduceToNat] at ho7; rw [← Ny272.out] at ho7))
  have HO274 := aM (Kd.R_lower ho7 (below_size (by (with_reducible apply_rules [HB.out, pA, pD, pE, sT, GE270.out, GE271.out]))))
  replace B70 := aM (blk_below (g := gb270) (o := .cells #[.int .i64 a0_0, .slice A0_1 l0_1.length c0_1] 25 (0, 0)) (by with_reducible apply_rules [B70.out, bA, bB, bC]) hb)
  replace B71 := aM (blk_below (g := gb271) (o := .cells #[.int .i64 0, .slice none 0 0] 25 (0, 0)) (by with_reducible apply_rules [B71.out, bA, bB, bC]) hb)
  replace HB := aM (pS_ (by (with_reducible apply_rules [HB.out, pA, pD, pE, sT, GE270.out, GE271.out])) hb)
  clear hb ho7
  refine hK.out _ _ ⟨(bE B70.out 0).trans rfl, (bE B70.out 1).trans rfl⟩ (fun hHeld => ?_)
  clear hK K
  refine norm_ (a' := ?_) ?_ ?_
  rotate_left
  ·show Act.put _ (some 5) _ = _
   simp only [Act.put, pSa2, i64_w]
   rfl
  refine one_ (i := 5) (N := some 8) #[T,T,T,T,T,T,F,F] rfl rfl (one_of HT_.out (by kernel_rfl)) (by decide) (fun K hK => ?_)
  refine Kd.R_append_rows_step k67 (w0 := w) w.heap.size (by rfl) (.tmp 5) (.tmp 7) 23 67 (.agg #[(.int .i64 0), (.int .i64 0), (.int .i64 0), (.int .i64 0)]) 32 rfl Tryd.underlying23 info67 rfl (by decide) (by omega) v273 y272 l0_1 _ _ _ (fun _ => True) (fun _ => False) rfl rfl ?aO ?aR (fun _ _ h => h) (fun _ h => h.elim) ?aF ?aB ?aS ?aL ?_
  (case aR => with_reducible apply_rules [(Kd.C_below HR0_1.out HB.out), Kd.C_alloc, Kd.C_drewN, Kd.C_drew])
  (case aB => exact (by (with_reducible apply_rules [HB.out, pA, pD, pE, sT, GE270.out, GE271.out])))
  (case aF => exact (fun _ _ => trivial))
  (case aO => exact (by with_reducible apply_rules [HO274.out, Kd.R_alloc, Kd.R_drewN, Kd.R_drew]))
  (case aS => exact (below_size (by (with_reducible apply_rules [HB.out, pA, pD, pE, sT, GE270.out, GE271.out]))))
  (case aL => have := LMc2.out; omega)
  intro v276 w8 ho hb hg hat
  rw [← Ny275.out] at ho
  replace B70 := aM (blk_grown (g := gb270) (o := .cells #[.int .i64 a0_0, .slice A0_1 l0_1.length c0_1] 25 (0, 0)) (by with_reducible apply_rules [B70.out, bA, bB, bC]) hg (Kd.R_ne HO274.out B70.out (by decide)))
  replace B71 := aM (blk_grown (g := gb271) (o := .cells #[.int .i64 0, .slice none 0 0] 25 (0, 0)) (by with_reducible apply_rules [B71.out, bA, bB, bC]) hg (Kd.R_ne HO274.out B71.out (by decide)))
  replace HB := aM (hb)
  have HO277 := aM (ho)
  clear HO274
  clear ho hb hg hat
  obtain ⟨Ao9, co9, eo9⟩ := Kd.R_slice HO277.out
  (first | subst eo9 | (injection eo9 with f1_ f2_ f3_; have f4_ := f1_.symm; have f5_ := f3_.symm; clear f1_ f2_ f3_; subst f4_; subst f5_))
  refine hK.out _ _ ⟨(bE B70.out 0).trans rfl, (bE B70.out 1).trans rfl⟩ (fun hHeld => ?_)
  clear hK K
  refine norm_ (a' := ?_) ?_ ?_
  rotate_left
  ·show Act.put _ (some 8) _ = _
   simp only [Act.put, pSa2, i64_w]
   rfl
  refine pure_ (i := 6) (N := some 9) (v := ?_) (a' := ?_) #[T,T,T,T,T,T,T,F] rfl rfl (any_of HT_.out (by kernel_rfl)) (fun _ _ _ h => h) (Or.inl ⟨by rfl, ?_⟩) ?_ ?_; rotate_left; (intro w'; go_simp; with_reducible rfl); rotate_left; (simp only [Act.put, pSa2, i64_w]; rfl)
  refine one_ (i := 7) (N := none) #[T,T,T,T,T,T,T,T] rfl rfl (one_of HT_.out (by kernel_rfl)) (by decide) (fun K hK => ?_)
  have hs10 : w8.cell? ⟨gb271, 0, none⟩ = some (.int .i64 0) := (bE B71.out 0).trans rfl
  have hfs10 := bF B71.out 0
  have hns10_0 := NB270_271.out
  have hms10_0 := NB271_270.out
  have hs11 : w8.cell? ⟨gb271, 1, none⟩ = some (.slice none 0 0) := (bE B71.out 1).trans rfl
  have hfs11 := bF B71.out 1
  have hns11_0 := NB270_271.out
  have hms11_0 := NB271_270.out
  refine skip_ (w1 := ?_) (by rfl) rfl ?_ ?_
  rotate_left
  ·go_simp
   rfl
  refine hK.out _ _ ⟨((cell_far (p := ⟨gb271, _, none⟩) NB270_271.out _).trans (((cell_far (p := ⟨gb271, _, none⟩) NB270_271.out _).trans (hHeld.1)))), ((cell_far (p := ⟨gb271, _, none⟩) NB270_271.out _).trans (((cell_far (p := ⟨gb271, _, none⟩) NB270_271.out _).trans (hHeld.2))))⟩ (fun hHeld => ?_)
  clear hK K
  refine done_ (done_of HT_.out (by kernel_rfl)) ?_
  try go_wp2
  refine bodyPost_ret (results_cell_row rfl _ _ gb271 25 #[.int .i64 a0_0, .slice Ao9 y275.length co9] (0, 0) _ rfl (by (with_reducible repeat (first | refine bA ?_ _ | refine bB ?_ | refine bC ?_ _)); refine blk_put (cs := #[.int .i64 a0_0, .slice none 0 0]) ?_ 1 _ rfl; (with_reducible repeat (first | refine bA ?_ _ | refine bB ?_ | refine bC ?_ _)); refine blk_put (cs := #[.int .i64 0, .slice none 0 0]) ?_ 0 _ rfl; with_reducible apply_rules [B71.out, bA, bB, bC]) Tryd.underlying25 rfl (by kernel_rfl)) rfl ?_
  exact ⟨_, by first | rfl | (simp [errW_none, errW_some] <;> rfl) | (simp [*, errW_none, errW_some] <;> rfl), by (with_reducible repeat (first | apply Kd.R_alloc | apply Kd.R_drewN | apply Kd.R_drew)); exact Kd.R_mono (Kd.R_far (p := ⟨gb271, 1, none⟩) (Kd.R_far (p := ⟨gb271, 0, none⟩) (Kd.R_types HO277.out B71.out (by decide)) (fun _ hk => hk.2) (.int .i64 a0_0)) (fun _ hk => hk.2) (.slice Ao9 y275.length co9)) (fun _ hk => trivial), by (with_reducible apply_rules [HB.out, pA, pD, pE, sT, GE270.out, GE271.out])⟩
 ·rw [if_neg c2] at H
  exact absurd H (by simp)

end Go.Proofs.YthfhnkpipdbekaaDoor.Ta
