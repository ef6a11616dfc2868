-- CUT by a program of this session: what the claim does not use is left out
import Derived.Test.YthfhnkpipdbekaaDoorUax0
import Derived.Test.YthfhnkpipdbekaaDoorProg
import Derived.Below
import Derived.Deep.Draws
import Derived.Deep.AppendLies
import Derived.Maps.AppendAt
import Derived.OwnWalk
import Derived.Laws.BytesArg
import Derived.Laws.MakeOwn
import Derived.Laws.OwnMore
import Derived.Deep.OwnRows
import Derived.Tactics
import Derived.Lib.ConvBytes
import Derived.Laws.Slices
import Derived.WalkKit
import Derived.KernelRfl
import Derived.RowKit3
import Derived.Deep.LoopGhost
import Derived.Deep.QuietTactic
import Derived.BigQuiet
import Derived.WideLaws
import Derived.Deep.DeepCutAuto
import Derived.Deep.CutBlock
import Derived.Deep.RegionHeld3
import Derived.Laws.Rows
import Derived.Lib.AppendStr
import Derived.ArgAppend
import Derived.Laws.IdiomCopy
import Derived.OrdersHeld
import Derived.Laws.BitsLemmas
import Derived.RowKit
import Derived.Test.YthfhnkpipdbekaaDoorN6
import Derived.Test.YthfhnkpipdbekaaDoorWAll
import Derived.Test.YthfhnkpipdbekaaDoorTax1
namespace Go.Proofs.YthfhnkpipdbekaaDoor.Ta
open Go.Proofs.YthfhnkpipdbekaaDoor.Ua
open Go.Proofs.YthfhnkpipdbekaaDoor.Giv
open Go.RowKit Go.Proofs.YthfhnkpipdbekaaDoorW.PrintWords Go.Proofs.YthfhnkpipdbekaaDoorW.PrintLast Go.Proofs.YthfhnkpipdbekaaDoorW.PrintMore
attribute [local go_sem] max2_int min2_int max_two min_two max_three min_three max_four min_four   -- for this text's walks alone
set_option linter.unusedVariables false
set_option linter.unusedSimpArgs false

attribute [local go_sem high] eqA67
theorem pSa2 {α : Type} : (∀ (l : List α) (i : Nat) (a : α), l.toArray.setIfInBounds i a = (l.set i a).toArray) ∧ (∀ (l : List α) (x y : α), (x :: l).set 0 y = y :: l) ∧ (∀ (l : List α) (x y : α) (n : Nat), (x :: l).set (n + 1) y = x :: l.set n y) :=
 ⟨fun _ _ _ => List.setIfInBounds_toArray .., fun _ _ _ => rfl, fun _ _ _ _ => rfl⟩
open Bool renaming true → T, false → F
open Go.Proofs.YthfhnkpipdbekaaDoorW.PrintWords renaming blk_drewN → bA, blk_drew → bB, blk_alloc → bC, below_set → sT, Aside0.mk → aM, pw_below_drewN → pD, below_drew1 → pE, below_alloc → pA, blk_cell → bE, blk_frozen → bF, below_step → pS_
def commodatumlaw12_Copy.f (a0_0 : Int) (l0_1 : List (S67)) : Option (Int × (List (S67))) := (some (([] : List (S67)) : List (S67))).bind fun y272 => (if y272.length + l0_1.length < 4398046511104 then (some (a0_0, (y272 ++ l0_1))) else (none))
def commodatumlaw12_Copy.T1 : Bool × List (List Nat × List Nat) := (true, [([], []), ([0], [0]), ([], []), ([], []), ([3], [3]), ([2, 4], [2, 4]), ([1, 5], [1, 5]), ([6, 5, 0, 1, 2, 3, 4, 5, 6], [6])])
def commodatumlaw12_Copy.B1 : List Nat := [0, 1, 0, 0, 8, 28, 63, 127]
theorem commodatumlaw12_Copy.tab1 : rtab .any (opsOf Tryd.f24 1) = commodatumlaw12_Copy.T1 := by kernel_rfl
theorem commodatumlaw12_Copy.bits1 : waitsOk commodatumlaw12_Copy.T1.2 commodatumlaw12_Copy.B1 = true := by kernel_rfl
set_option maxHeartbeats 8000000 in
set_option maxRecDepth 100000 in
theorem commodatumlaw12_Copy.calls (a0_0 : Int) (A0_1 : Option Addr) (c0_1 : Nat) (l0_1 : List (S67)) (r1 : Int) (r2 : List (S67)) (w : World) (hr0_1 : Kd.C k67 w A0_1 l0_1.length l0_1) (hc0_1 : l0_1.length ≤ c0_1) (h : commodatumlaw12_Copy.f a0_0 l0_1 = some (r1, r2)) :
  Calls Tryd.prog 24 #[.agg #[.int .i64 a0_0, .slice A0_1 l0_1.length c0_1]] w fun e w' => ∃ v1_ : Value, e = .returned (.agg #[.int .i64 r1, v1_]) ∧ Kd.R k67 67 w' w.heap.size (fun _ => True) v1_ r2 ∧ Below w.heap.size w w' := by
 have hu25 := Tryd.underlying25
 have HR0_1 := aM hr0_1
 have HC0_1 := aM hc0_1
 clear hr0_1 hc0_1
 have HB := aM (Below.refl w.heap.size w)
 have H : ((some (([] : List (S67)) : List (S67))).bind fun y272 => (if y272.length + l0_1.length < 4398046511104 then (some (a0_0, (y272 ++ l0_1))) else (none))) = some (r1, r2) := h
 clear h
 obtain ⟨y272, hy272⟩ : ∃ y_ : List (S67), y_ = (([] : List (S67))) := ⟨_, rfl⟩
 replace H : (if y272.length + l0_1.length < 4398046511104 then (some (a0_0, (y272 ++ l0_1))) else (none)) = some (r1, r2) := by first | (rw [hy272]; with_reducible exact H) | (have H2_ := (Option.bind_some _ _).symm.trans H; rw [hy272]; with_reducible exact H2_) | (have H2_ := (Option.bind_some _ _).symm.trans H; with_reducible exact H2_) | with_reducible exact H | (rw [hy272]; exact H) | exact H
 have Ny272 := aM hy272
 clear hy272
 by_cases c2 : y272.length + l0_1.length < 4398046511104
 ·rw [if_pos c2] at H
  have LMc2 := aM c2
  clear c2
  obtain ⟨y275, hy275⟩ : ∃ y_ : List (S67), y_ = (y272 ++ l0_1) := ⟨_, rfl⟩
  replace H : (some (a0_0, y275)) = some (r1, r2) := by first | (rw [hy275]; with_reducible exact H) | (have H2_ := (Option.bind_some _ _).symm.trans H; rw [hy275]; with_reducible exact H2_) | (have H2_ := (Option.bind_some _ _).symm.trans H; with_reducible exact H2_) | with_reducible exact H | (rw [hy275]; exact H) | exact H
  have Ny275 := aM hy275
  clear hy275
  simp only [Option.some.injEq, Prod.mk.injEq] at H
  obtain ⟨rfl, rfl⟩ := H
  go_enter Tryd.func24, Tryd.ntmps24
  try go_wp2_with (first | ((with_reducible refine gate_dst (N := 1) rfl ?_); refine box_event ?hg (N := 1) ?hd (cs := #[.int .i64 a0_0, .slice A0_1 l0_1.length c0_1]) (t := 25) ?hr ?_; (case hd => rfl); (case hg => rfl); (case hr => first | (go_simp; done) | (go_simp; rfl)); intro gb270 hg w3 hbox hb; have B70 := aM (hbox); have GW270 := aM ((by rw [hg]; exact (below_size (by (with_reducible apply_rules [HB.out, pA, pD, pE]))) : w.heap.size ≤ gb270)); have GE270 := aM ((by rw [hg]; exact (below_size (by (with_reducible apply_rules [HB.out, pA, pD, pE]))) : w.heap.size ≤ gb270)); replace HB := aM (pS_ (by (with_reducible apply_rules [HB.out, pA, pD, pE])) hb); clear hb hbox hg) | ((with_reducible refine gate_dst (N := 2) rfl ?_); refine box_event ?hg (N := 2) ?hd (cs := #[.int .i64 0, .slice none 0 0]) (t := 25) ?hr ?_; (case hd => rfl); (case hg => rfl); (case hr => first | (go_simp; done) | (go_simp; rfl)); intro gb271 hg w4 hbox hb; have B71 := aM (hbox); have GW271 := aM ((by rw [hg]; exact (below_size (by (with_reducible apply_rules [HB.out, pA, pD, pE, sT, GE270.out]))) : w.heap.size ≤ gb271)); have GE271 := aM ((by rw [hg]; exact (below_size (by (with_reducible apply_rules [HB.out, pA, pD, pE, sT, GE270.out]))) : w.heap.size ≤ gb271)); replace HB := aM (pS_ (by (with_reducible apply_rules [HB.out, pA, pD, pE, sT, GE270.out])) hb); have NB270_271 := aM ((by rw [hg]; exact Nat.ne_of_lt (blk_lt (g := gb270) (o := .cells #[.int .i64 a0_0, .slice A0_1 l0_1.length c0_1] 25 (0, 0)) (by with_reducible apply_rules [B70.out, bA, bB, bC])) : gb270 ≠ gb271)); have NB271_270 := aM ((by rw [hg]; exact Nat.ne_of_gt (blk_lt (g := gb270) (o := .cells #[.int .i64 a0_0, .slice A0_1 l0_1.length c0_1] 25 (0, 0)) (by with_reducible apply_rules [B70.out, bA, bB, bC])) : gb271 ≠ gb270)); replace B70 := aM (blk_below (g := gb270) (o := .cells #[.int .i64 a0_0, .slice A0_1 l0_1.length c0_1] 25 (0, 0)) (by with_reducible apply_rules [B70.out, bA, bB, bC]) hb); clear hb hbox hg))
  replace B70 := aM (bB B70.out)
  replace B71 := aM (bB B71.out)
  replace HB := aM (pE HB.out)
  refine start_ (n := 8) (S := fun w' => w'.cell? ⟨gb270, 0, none⟩ = some (.int .i64 a0_0) ∧ w'.cell? ⟨gb270, 1, none⟩ = some (.slice A0_1 l0_1.length c0_1)) (ds := []) #[F,F,F,F,F,F,F,F] (by kernel_rfl) rfl rfl ⟨(bE B70.out 0).trans rfl, (bE B70.out 1).trans rfl⟩ (fun hHeld => ?_); refine with_tabW commodatumlaw12_Copy.tab1 commodatumlaw12_Copy.bits1 (fun HT_ HW_ => ?_)
  generalize w4.drew = w5 at B70 B71 HB hHeld ⊢
  refine pure_ (i := 0) (N := some 3) (v := ?_) (a' := ?_) #[T,F,F,F,F,F,F,F] rfl rfl (any_of HT_.out (by kernel_rfl)) (fun _ _ _ h => h) (Or.inl ⟨by rfl, ?_⟩) ?_ ?_; rotate_left; (intro w'; go_simp; with_reducible rfl); rotate_left; (simp only [Act.put, pSa2, i64_w]; rfl)
  refine pure_ (i := 3) (N := some 6) (v := ?_) (a' := ?_) #[T,F,F,T,F,F,F,F] rfl rfl (any_of HT_.out (by kernel_rfl)) (fun _ _ _ h => h) (Or.inl ⟨by rfl, ?_⟩) ?_ ?_; rotate_left; (intro w'; go_simp; with_reducible rfl); rotate_left; (simp only [Act.put, pSa2, i64_w]; rfl)
  refine take_ (i := 1) (N := some 4) (v := ?_) (a' := ?_) #[T,T,F,T,F,F,F,F] rfl rfl (take_ofW HT_.out HW_.out (by kernel_rfl)) (fun _ _ _ h => h) (Or.inl ⟨by rfl, ?_⟩) hHeld ?_ ?_; rotate_left; (rintro w' ⟨s0, s1⟩; go_simp; with_reducible rfl); rotate_left; (simp only [Act.put, pSa2, i64_w]; rfl)
  refine take_ (i := 4) (N := some 7) (v := ?_) (a' := ?_) #[T,T,F,T,T,F,F,F] rfl rfl (take_ofW HT_.out HW_.out (by kernel_rfl)) (fun _ _ _ h => h) (Or.inl ⟨by rfl, ?_⟩) hHeld ?_ ?_; rotate_left; (rintro w' ⟨s0, s1⟩; go_simp; with_reducible rfl); rotate_left; (simp only [Act.put, pSa2, i64_w]; rfl)
  refine one_ (i := 2) (N := some 5) #[T,T,T,T,T,F,F,F] rfl rfl (one_of HT_.out (by kernel_rfl)) (by decide) (fun K hK => ?_)
  refine Kd.R_lit_step k67 _ 67 ?hg (N := 5) ?hd (xs := ([] : List (S67))) (inner := []) (ok := fun _ => True) (okp := fun _ => True) ?hr ?hp (fun _ hk => hk) trivial (Below.refl _ _) (Nat.le_refl _) (by simp) ?_; (case hd => rfl); (case hg => rfl); (case hr => first | (go_simp; done) | (go_simp; rfl)); (case hp => exact (Reps.none _ _))
  intro v273 w6 ho7 hb hg_ hnew_
  clear hg_ hnew_
  (first | rw [← Ny272.out] at ho7 | (simp only [Int.reduceToNat] at ho7; rw [← Ny272.out] at ho7))
  have HO274 := aM (Kd.R_lower ho7 (below_size (by (with_reducible apply_rules [HB.out, pA, pD, pE, sT, GE270.out, GE271.out]))))
  replace B70 := aM (blk_below (g := gb270) (o := .cells #[.int .i64 a0_0, .slice A0_1 l0_1.length c0_1] 25 (0, 0)) (by with_reducible apply_rules [B70.out, bA, bB, bC]) hb)
  replace B71 := aM (blk_below (g := gb271) (o := .cells #[.int .i64 0, .slice none 0 0] 25 (0, 0)) (by with_reducible apply_rules [B71.out, bA, bB, bC]) hb)
  replace HB := aM (pS_ (by (with_reducible apply_rules [HB.out, pA, pD, pE, sT, GE270.out, GE271.out])) hb)
  clear hb ho7
  refine hK.out _ _ ⟨(bE B70.out 0).trans rfl, (bE B70.out 1).trans rfl⟩ (fun hHeld => ?_)
  clear hK K
  refine norm_ (a' := ?_) ?_ ?_
  rotate_left
  ·show Act.put _ (some 5) _ = _
   simp only [Act.put, pSa2, i64_w]
   rfl
  refine one_ (i := 5) (N := some 8) #[T,T,T,T,T,T,F,F] rfl rfl (one_of HT_.out (by kernel_rfl)) (by decide) (fun K hK => ?_)
  refine Kd.R_append_rows_step k67 (w0 := w) w.heap.size (by rfl) (.tmp 5) (.tmp 7) 23 67 (.agg #[(.int .i64 0), (.int .i64 0), (.int .i64 0), (.int .i64 0)]) 32 rfl Tryd.underlying23 info67 rfl (by decide) (by omega) v273 y272 l0_1 _ _ _ (fun _ => True) (fun _ => False) rfl rfl ?aO ?aR (fun _ _ h => h) (fun _ h => h.elim) ?aF ?aB ?aS ?aL ?_
  (case aR => with_reducible apply_rules [(Kd.C_below HR0_1.out HB.out), Kd.C_alloc, Kd.C_drewN, Kd.C_drew])
  (case aB => exact (by (with_reducible apply_rules [HB.out, pA, pD, pE, sT, GE270.out, GE271.out])))
  (case aF => exact (fun _ _ => trivial))
  (case aO => exact (by with_reducible apply_rules [HO274.out, Kd.R_alloc, Kd.R_drewN, Kd.R_drew]))
  (case aS => exact (below_size (by (with_reducible apply_rules [HB.out, pA, pD, pE, sT, GE270.out, GE271.out]))))
  (case aL => have := LMc2.out; omega)
  intro v276 w8 ho hb hg hat
  rw [← Ny275.out] at ho
  replace B70 := aM (blk_grown (g := gb270) (o := .cells #[.int .i64 a0_0, .slice A0_1 l0_1.length c0_1] 25 (0, 0)) (by with_reducible apply_rules [B70.out, bA, bB, bC]) hg (Kd.R_ne HO274.out B70.out (by decide)))
  replace B71 := aM (blk_grown (g := gb271) (o := .cells #[.int .i64 0, .slice none 0 0] 25 (0, 0)) (by with_reducible apply_rules [B71.out, bA, bB, bC]) hg (Kd.R_ne HO274.out B71.out (by decide)))
  replace HB := aM (hb)
  have HO277 := aM (ho)
  clear HO274
  clear ho hb hg hat
  obtain ⟨Ao9, co9, eo9⟩ := Kd.R_slice HO277.out
  (first | subst eo9 | (injection eo9 with f1_ f2_ f3_; have f4_ := f1_.symm; have f5_ := f3_.symm; clear f1_ f2_ f3_; subst f4_; subst f5_))
  refine hK.out _ _ ⟨(bE B70.out 0).trans rfl, (bE B70.out 1).trans rfl⟩ (fun hHeld => ?_)
  clear hK K
  refine norm_ (a' := ?_) ?_ ?_
  rotate_left
  ·show Act.put _ (some 8) _ = _
   simp only [Act.put, pSa2, i64_w]
   rfl
  refine pure_ (i := 6) (N := some 9) (v := ?_) (a' := ?_) #[T,T,T,T,T,T,T,F] rfl rfl (any_of HT_.out (by kernel_rfl)) (fun _ _ _ h => h) (Or.inl ⟨by rfl, ?_⟩) ?_ ?_; rotate_left; (intro w'; go_simp; with_reducible rfl); rotate_left; (simp only [Act.put, pSa2, i64_w]; rfl)
  refine one_ (i := 7) (N := none) #[T,T,T,T,T,T,T,T] rfl rfl (one_of HT_.out (by kernel_rfl)) (by decide) (fun K hK => ?_)
  have hs10 : w8.cell? ⟨gb271, 0, none⟩ = some (.int .i64 0) := (bE B71.out 0).trans rfl
  have hfs10 := bF B71.out 0
  have hns10_0 := NB270_271.out
  have hms10_0 := NB271_270.out
  have hs11 : w8.cell? ⟨gb271, 1, none⟩ = some (.slice none 0 0) := (bE B71.out 1).trans rfl
  have hfs11 := bF B71.out 1
  have hns11_0 := NB270_271.out
  have hms11_0 := NB271_270.out
  refine skip_ (w1 := ?_) (by rfl) rfl ?_ ?_
  rotate_left
  ·go_simp
   rfl
  refine hK.out _ _ ⟨((cell_far (p := ⟨gb271, _, none⟩) NB270_271.out _).trans (((cell_far (p := ⟨gb271, _, none⟩) NB270_271.out _).trans (hHeld.1)))), ((cell_far (p := ⟨gb271, _, none⟩) NB270_271.out _).trans (((cell_far (p := ⟨gb271, _, none⟩) NB270_271.out _).trans (hHeld.2))))⟩ (fun hHeld => ?_)
  clear hK K
  refine done_ (done_of HT_.out (by kernel_rfl)) ?_
  try go_wp2
  refine bodyPost_ret (results_cell_row rfl _ _ gb271 25 #[.int .i64 a0_0, .slice Ao9 y275.length co9] (0, 0) _ rfl (by (with_reducible repeat (first | refine bA ?_ _ | refine bB ?_ | refine bC ?_ _)); refine blk_put (cs := #[.int .i64 a0_0, .slice none 0 0]) ?_ 1 _ rfl; (with_reducible repeat (first | refine bA ?_ _ | refine bB ?_ | refine bC ?_ _)); refine blk_put (cs := #[.int .i64 0, .slice none 0 0]) ?_ 0 _ rfl; with_reducible apply_rules [B71.out, bA, bB, bC]) Tryd.underlying25 rfl (by kernel_rfl)) rfl ?_
  exact ⟨_, by first | rfl | (simp [errW_none, errW_some] <;> rfl) | (simp [*, errW_none, errW_some] <;> rfl), by (with_reducible repeat (first | apply Kd.R_alloc | apply Kd.R_drewN | apply Kd.R_drew)); exact Kd.R_mono (Kd.R_far (p := ⟨gb271, 1, none⟩) (Kd.R_far (p := ⟨gb271, 0, none⟩) (Kd.R_types HO277.out B71.out (by decide)) (fun _ hk => hk.2) (.int .i64 a0_0)) (fun _ hk => hk.2) (.slice Ao9 y275.length co9)) (fun _ hk => trivial), by (with_reducible apply_rules [HB.out, pA, pD, pE, sT, GE270.out, GE271.out])⟩
 ·rw [if_neg c2] at H
  exact absurd H (by simp)

end Go.Proofs.YthfhnkpipdbekaaDoor.Ta
