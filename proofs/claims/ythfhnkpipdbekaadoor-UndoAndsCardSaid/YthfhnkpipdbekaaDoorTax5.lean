-- CUT by a program of this session: what the claim does not use is left out
import Derived.Test.YthfhnkpipdbekaaDoorUax0
import Derived.Test.YthfhnkpipdbekaaDoorProg
import Derived.Below
import Derived.Deep.Draws
import Derived.Deep.AppendLies
import Derived.Maps.AppendAt
import Derived.OwnWalk
import Derived.Laws.BytesArg
import Derived.Laws.MakeOwn
import Derived.Laws.OwnMore
import Derived.Deep.OwnRows
import Derived.Tactics
import Derived.Lib.ConvBytes
import Derived.Laws.Slices
import Derived.WalkKit
import Derived.KernelRfl
import Derived.RowKit3
import Derived.Deep.LoopGhost
import Derived.Deep.QuietTactic
import Derived.BigQuiet
import Derived.WideLaws
import Derived.Deep.DeepCutAuto
import Derived.Deep.CutBlock
import Derived.Deep.RegionHeld3
import Derived.Laws.Rows
import Derived.Lib.AppendStr
import Derived.ArgAppend
import Derived.Laws.IdiomCopy
import Derived.OrdersHeld
import Derived.Laws.BitsLemmas
import Derived.RowKit
import Derived.Test.YthfhnkpipdbekaaDoorN6
import Derived.Test.YthfhnkpipdbekaaDoorWAll
import Derived.Test.YthfhnkpipdbekaaDoorTax4
namespace Go.Proofs.YthfhnkpipdbekaaDoor.Ta
open Go.Proofs.YthfhnkpipdbekaaDoor.Ua
open Go.Proofs.YthfhnkpipdbekaaDoor.Giv
open Go.RowKit Go.Proofs.YthfhnkpipdbekaaDoorW.PrintWords Go.Proofs.YthfhnkpipdbekaaDoorW.PrintLast Go.Proofs.YthfhnkpipdbekaaDoorW.PrintMore
attribute [local go_sem] max2_int min2_int max_two min_two max_three min_three max_four min_four   -- for this text's walks alone
set_option linter.unusedVariables false
set_option linter.unusedSimpArgs false

mutual
def commodatumref12_Valid.j0 : Nat → Bool → Int → List (S67) → Option (Bool)
 | 0, _, _, _ => none
 | k + 1, x17, x155000, x155001 => if x17 = true then (some false) else (commodatumref12_Valid.l0 k 0 x155000 x155001)
def commodatumref12_Valid.l0 : Nat → Int → Int → List (S67) → Option (Bool)
 | 0, _, _, _ => none
 | k + 1, x3, x155000, x155001 => if x3 < (x155001.length : Int) then (if 0 ≤ x3 then ((commodatumref12_op.f k ((rd_T67 x155001 x3).f0) ((rd_T67 x155001 x3).f1) ((rd_T67 x155001 x3).f2) ((rd_T67 x155001 x3).f3) x155000).bind fun t156 => (if t156 = true then (commodatumref12_Valid.l0 k (wrap64 (x3 + 1)) x155000 x155001) else (some false))) else (none)) else (some true)
end
def commodatumref12_Valid.f (k : Nat) (a0_0 : Int) (l0_1 : List (S67)) : Option (Bool) := if a0_0 < 1 then (commodatumref12_Valid.j0 k true a0_0 l0_1) else (if a0_0 > 1024 then (commodatumref12_Valid.j0 k true a0_0 l0_1) else (commodatumref12_Valid.j0 k (decide ((l0_1.length : Int) > 200000)) a0_0 l0_1))
def commodatumref12_Valid.T6 : Bool × List (List Nat × List Nat) := (true, [([], []), ([0], [0]), ([], []), ([1, 2], [1, 2]), ([3], [3]), ([], []), ([5], [5]), ([4, 6], [4, 6]), ([7], [7])])
def commodatumref12_Valid.B6 : List Nat := [0, 1, 0, 7, 15, 0, 32, 127, 255]
theorem commodatumref12_Valid.tab6 : rtab .any (opsOf Tryd.f18 6) = commodatumref12_Valid.T6 := by kernel_rfl
theorem commodatumref12_Valid.bits6 : waitsOk commodatumref12_Valid.T6.2 commodatumref12_Valid.B6 = true := by kernel_rfl
theorem pSa5 {α : Type} : (∀ (l : List α) (i : Nat) (a : α), l.toArray.setIfInBounds i a = (l.set i a).toArray) ∧ (∀ (l : List α) (x y : α), (x :: l).set 0 y = y :: l) ∧ (∀ (l : List α) (x y : α) (n : Nat), (x :: l).set (n + 1) y = x :: l.set n y) :=
 ⟨fun _ _ _ => List.setIfInBounds_toArray .., fun _ _ _ => rfl, fun _ _ _ _ => rfl⟩
open Bool renaming true → T, false → F
open Go.Proofs.YthfhnkpipdbekaaDoorW.PrintWords renaming below_set → sT, Aside0.mk → aM, pw_below_drewN → pD, below_drew1 → pE, below_alloc → pA, blk_cell → bE, blk_frozen → bF, below_step → pS_
abbrev z0a5 : Array Bool := #[F,F,F,F,F,F,F,F,F]
abbrev z1a5 : Array Bool := #[T,F,F,F,F,F,F,F,F]
abbrev z2a5 : Array Bool := #[T,F,T,F,F,F,F,F,F]
abbrev z3a5 : Array Bool := #[T,F,T,F,F,T,F,F,F]
abbrev z4a5 : Array Bool := #[T,T,T,F,F,T,F,F,F]
abbrev z5a5 : Array Bool := #[T,T,T,T,F,T,F,F,F]
abbrev z6a5 : Array Bool := #[T,T,T,T,T,T,F,F,F]
abbrev z7a5 : Array Bool := #[T,T,T,T,T,T,T,F,F]
abbrev z8a5 : Array Bool := #[T,T,T,T,T,T,T,T,F]
abbrev z9a5 : Array Bool := #[T,T,T,T,T,T,T,T,T]
set_option maxHeartbeats 8000000 in
set_option maxRecDepth 100000 in
theorem commodatumref12_Valid.calls (k : Nat) (a0_0 : Int) (A0_1 : Option Addr) (c0_1 : Nat) (l0_1 : List (S67)) (r : Bool) (w : World) (hr0_1 : Kd.C k67 w A0_1 l0_1.length l0_1) (hc0_1 : l0_1.length ≤ c0_1) (h : commodatumref12_Valid.f k a0_0 l0_1 = some r) :
  Calls Tryd.prog 18 #[.agg #[.int .i64 a0_0, .slice A0_1 l0_1.length c0_1]] w fun e w' => e = .returned (.bool r) ∧ Below w.heap.size w w' := by
 have hu25 := Tryd.underlying25
 have hu67 := Tryd.underlying67
 have HR0_1 := aM hr0_1
 have HC0_1 := aM hc0_1
 clear hr0_1 hc0_1
 have HB := aM (Below.refl w.heap.size w)
 have H : (if a0_0 < 1 then (commodatumref12_Valid.j0 k true a0_0 l0_1) else (if a0_0 > 1024 then (commodatumref12_Valid.j0 k true a0_0 l0_1) else (commodatumref12_Valid.j0 k (decide ((l0_1.length : Int) > 200000)) a0_0 l0_1))) = some r := h
 clear h
 have HC2 := aM H
 clear H
 go_enter Tryd.func18, Tryd.ntmps18
 go_upto_region 1 with (first | ((with_reducible refine gate_dst (N := 1) rfl ?_); (try (refine gate_guard (by rfl) ?_; dsimp only)); refine box_event ?hg (N := 1) ?hd (cs := #[.int .i64 a0_0, .slice A0_1 l0_1.length c0_1]) (t := 25) ?hr ?_; (case hd => rfl); (case hg => rfl); (case hr => first | (go_simp; done) | (go_simp; rfl)); intro gb154 hg w3 hbox hb; have B54 := aM (hbox); have GW154 := aM ((by rw [hg]; exact (below_size (by (with_reducible apply_rules [HB.out, pA, pD, pE]))) : w.heap.size ≤ gb154)); have GE154 := aM ((by rw [hg]; exact (below_size (by (with_reducible apply_rules [HB.out, pA, pD, pE]))) : w.heap.size ≤ gb154)); replace HB := aM (pS_ (by (with_reducible apply_rules [HB.out, pA, pD, pE])) hb); clear hb hbox hg))
 (try simp only [Act.put, List.setIfInBounds_toArray, List.set_cons_zero, List.set_cons_succ])
 go_cut [17] (fun v17 wc => ∃ (kq : Nat) (x17_1 : Bool), v17 = .bool x17_1 ∧ Aside0 (commodatumref12_Valid.j0 kq x17_1 a0_0 l0_1 = some r) ∧ Aside0 (kq ≤ k) ∧ Aside0 (wc.heap[gb154]? = some (.cells #[.int .i64 a0_0, (.slice A0_1 l0_1.length c0_1)] 25 (0, 0))) ∧ Aside0 (Below w.heap.size w wc))
 case first =>
  have H := HC2.out
  clear HC2
  by_cases c4 : a0_0 < 1
  ·rw [if_pos c4] at H
   have c4b0 : decide (a0_0 < 1) = true := decide_eq_true c4
   clear c4
   (first | rw [c4b0] | (simp only [i64_w, i32_w]; rw [c4b0]) | skip)
   have H' := aM H
   clear H
   have hcz5_0 : w3.cell? ⟨gb154, 0, none⟩ = some (.int .i64 a0_0) := (bE B54.out 0).trans rfl
   have hcz5_1 : w3.cell? ⟨gb154, 1, none⟩ = some (.slice A0_1 l0_1.length c0_1) := (bE B54.out 1).trans rfl
   have hfz5_0 := bF B54.out 0
   have hfz5_1 := bF B54.out 1
   go_wp2
   go_meet
   case rel => exact ⟨_, (true), (by first | rfl | (simp; done) | (simp [*]; done)), H', ⟨by first | omega | exact Nat.le_refl _⟩, ⟨by with_reducible apply_rules [B54.out, blk_drewN, blk_drew, blk_alloc]⟩, ⟨by (with_reducible apply_rules [HB.out, pA, pD, pE, sT, GE154.out])⟩⟩
  ·rw [if_neg c4] at H
   have c4b0 : decide (a0_0 < 1) = false := decide_eq_false c4
   clear c4
   (first | rw [c4b0] | (simp only [i64_w, i32_w]; rw [c4b0]) | skip)
   by_cases c6 : a0_0 > 1024
   ·rw [if_pos c6] at H
    have c6b0 : decide (1024 < a0_0) = true := decide_eq_true c6
    clear c6
    have H' := aM H
    clear H
    have hcz7_0 : w3.cell? ⟨gb154, 0, none⟩ = some (.int .i64 a0_0) := (bE B54.out 0).trans rfl
    have hcz7_1 : w3.cell? ⟨gb154, 1, none⟩ = some (.slice A0_1 l0_1.length c0_1) := (bE B54.out 1).trans rfl
    have hfz7_0 := bF B54.out 0
    have hfz7_1 := bF B54.out 1
    go_wp2
    go_meet
    case rel => exact ⟨_, (true), (by first | rfl | (simp; done) | (simp [*]; done)), H', ⟨by first | omega | exact Nat.le_refl _⟩, ⟨by with_reducible apply_rules [B54.out, blk_drewN, blk_drew, blk_alloc]⟩, ⟨by (with_reducible apply_rules [HB.out, pA, pD, pE, sT, GE154.out])⟩⟩
   ·rw [if_neg c6] at H
    have c6b0 : decide (1024 < a0_0) = false := decide_eq_false c6
    clear c6
    have H' := aM H
    clear H
    have hcz8_0 : w3.cell? ⟨gb154, 0, none⟩ = some (.int .i64 a0_0) := (bE B54.out 0).trans rfl
    have hcz8_1 : w3.cell? ⟨gb154, 1, none⟩ = some (.slice A0_1 l0_1.length c0_1) := (bE B54.out 1).trans rfl
    have hfz8_0 := bF B54.out 0
    have hfz8_1 := bF B54.out 1
    go_wp2
    go_meet
    case rel => exact ⟨_, (decide ((l0_1.length : Int) > 200000)), (by first | rfl | (simp; done) | (simp [*]; done)), H', ⟨by first | omega | exact Nat.le_refl _⟩, ⟨by with_reducible apply_rules [B54.out, blk_drewN, blk_drew, blk_alloc]⟩, ⟨by (with_reducible apply_rules [HB.out, pA, pD, pE, sT, GE154.out])⟩⟩
 case rest =>
  clear HC2
  try clear c1
  try clear p2
  try clear c4
  try clear c4b0
  try clear c6
  try clear c6b0
  try clear hcz5_0
  try clear hcz5_1
  try clear hcz7_0
  try clear hcz7_1
  try clear hcz8_0
  try clear hcz8_1
  try clear hfz5_0
  try clear hfz5_1
  try clear hfz7_0
  try clear hfz7_1
  try clear hfz8_0
  try clear hfz8_1
  obtain ⟨kq, x17_1, rfl, HA, HJ1, B54, HB⟩ := hcut
  cases kq with
  | zero => exact absurd HA.out (by simp [commodatumref12_Valid.j0])
  | succ kj1 =>
   have H := HA.out
   clear HA
   simp only [commodatumref12_Valid.j0] at H
   by_cases c9 : x17_1 = true
   ·subst c9
    have H1 : (some false) = some r := by rw [if_pos rfl] at H; exact H
    clear H
    have H := H1
    clear H1
    obtain rfl := Option.some.inj H
    go_wp2
    go_ret
    exact ⟨by first | rfl | (simp [errW_none, errW_some] <;> rfl) | (simp [*, errW_none, errW_some] <;> rfl), by (with_reducible apply_rules [HB.out, pA, pD, pE, sT, GE154.out])⟩
   ·replace c9 := Bool.eq_false_iff.mpr c9
    subst c9
    have H1 : (commodatumref12_Valid.l0 kj1 0 a0_0 l0_1) = some r := by rw [if_neg (show ¬ (false = true) by decide)] at H; exact H
    clear H
    have H := H1
    clear H1
    have H' := aM H
    clear H
    go_wp2
    go_loopg [3] kj1 (fun kq v3 w' => ∃ (x3_2 : Int), v3 = .int .i64 x3_2 ∧ Aside0 (commodatumref12_Valid.l0 kq x3_2 a0_0 l0_1 = some r) ∧ Aside0 (kq ≤ kj1) ∧ Aside0 (w'.heap[gb154]? = some (.cells #[.int .i64 a0_0, (.slice A0_1 l0_1.length c0_1)] 25 (0, 0))) ∧ Aside0 (Below w.heap.size w w'))
    case atStart => exact ⟨(0), (by first | rfl | (simp; done) | (simp [*]; done)), H', ⟨Nat.le_refl _⟩, ⟨by with_reducible apply_rules [B54.out, blk_drewN, blk_drew, blk_alloc]⟩, ⟨by (with_reducible apply_rules [HB.out, pA, pD, pE, sT, GE154.out])⟩⟩
    case round =>
     clear H'
     try clear c1
     try clear p2
     try clear c4
     try clear c4b0
     try clear c6
     try clear c6b0
     try clear c9
     try clear hcz5_0
     try clear hcz5_1
     try clear hcz7_0
     try clear hcz7_1
     try clear hcz8_0
     try clear hcz8_1
     try clear hfz5_0
     try clear hfz5_1
     try clear hfz7_0
     try clear hfz7_1
     try clear hfz8_0
     try clear hfz8_1
     try clear p2
     obtain ⟨x3_2, rfl, HA, HK2, B54, HB⟩ := hrel
     cases gk with
     | zero => exact absurd HA.out (by simp [commodatumref12_Valid.l0])
     | succ k2 =>
      have H := HA.out
      clear HA
      simp only [commodatumref12_Valid.l0] at H
      by_cases c10 : x3_2 < (l0_1.length : Int)
      ·rw [if_pos c10] at H
       have c10b0 : decide (x3_2 < (l0_1.length : Int)) = true := decide_eq_true c10
       clear c10
       by_cases c11 : 0 ≤ x3_2
       ·rw [if_pos c11] at H
        have c11b0 : decide (0 ≤ x3_2) = true := decide_eq_true c11
        clear c11
        replace H := Option.bind_eq_some_iff.mp H
        obtain ⟨t156, A120, H⟩ := H
        replace H : (if t156 = true then (commodatumref12_Valid.l0 k2 (wrap64 (x3_2 + 1)) a0_0 l0_1) else (some false)) = some r := H
        have A12 := aM A120
        clear A120
        by_cases c13 : t156 = true
        ·subst c13
         have H1 : (commodatumref12_Valid.l0 k2 (wrap64 (x3_2 + 1)) a0_0 l0_1) = some r := by rw [if_pos rfl] at H; exact H
         clear H
         have H := H1
         clear H1
         have H' := aM H
         clear H
         have hcz14_0 : wr.cell? ⟨gb154, 0, none⟩ = some (.int .i64 a0_0) := (bE B54.out 0).trans rfl
         have hcz14_1 : wr.cell? ⟨gb154, 1, none⟩ = some (.slice A0_1 l0_1.length c0_1) := (bE B54.out 1).trans rfl
         have hfz14_0 := bF B54.out 0
         have hfz14_1 := bF B54.out 1
         try go_wp2
         replace B54 := aM (blk_drew B54.out)
         replace HB := aM (pE HB.out)
         have p155 : 0 ≤ (x3_2 : Int) := of_decide_eq_true (by assumption)
         have q155 : x3_2 < (l0_1.length : Int) := of_decide_eq_true (by assumption)
         obtain ⟨ad155, e155, hx155_0, hx155_1, hx155_2, hx155_3⟩ := at_T67 HR0_1.out x3_2 p155 q155
         have hw155_3 := hx155_3
         have hw155_2 := hx155_2
         have hw155_1 := hx155_1
         have hw155_0 := hx155_0
         cases e155
         replace hx155_0 := (HB.out.cell (World.block_lt_of_cell? w _ hx155_0)).trans hx155_0
         replace hx155_1 := (HB.out.cell (World.block_lt_of_cell? w _ hx155_1)).trans hx155_1
         replace hx155_2 := (HB.out.cell (World.block_lt_of_cell? w _ hx155_2)).trans hx155_2
         replace hx155_3 := (HB.out.cell (World.block_lt_of_cell? w _ hx155_3)).trans hx155_3
         replace p155 := eq_true p155
         replace q155 := eq_true q155
         refine start_ (n := 9) (S := fun w' => w'.cell? ⟨gb154, 0, none⟩ = some (.int .i64 a0_0) ∧ w'.cell? ⟨gb154, 1, none⟩ = some (.slice (some ad155) l0_1.length c0_1) ∧ w'.cell? (ad155.add ((x3_2).toNat * 4)) = some (.int .i64 ((rd_T67 l0_1 x3_2).f0)) ∧ w'.cell? ⟨(ad155.add ((x3_2).toNat * 4)).block, (ad155.add ((x3_2).toNat * 4)).off + 1, none⟩ = some (.int .i64 ((rd_T67 l0_1 x3_2).f1)) ∧ w'.cell? ⟨(ad155.add ((x3_2).toNat * 4)).block, (ad155.add ((x3_2).toNat * 4)).off + 2, none⟩ = some (.int .i64 ((rd_T67 l0_1 x3_2).f2)) ∧ w'.cell? ⟨(ad155.add ((x3_2).toNat * 4)).block, (ad155.add ((x3_2).toNat * 4)).off + 3, none⟩ = some (.int .i64 ((rd_T67 l0_1 x3_2).f3))) (ds := []) z0a5 (by kernel_rfl) rfl rfl ⟨(bE B54.out 0).trans rfl, (bE B54.out 1).trans rfl, ((HB.out.cell (World.block_lt_of_cell? w _ hw155_0)).trans hw155_0), ((HB.out.cell (World.block_lt_of_cell? w _ hw155_1)).trans hw155_1), ((HB.out.cell (World.block_lt_of_cell? w _ hw155_2)).trans hw155_2), ((HB.out.cell (World.block_lt_of_cell? w _ hw155_3)).trans hw155_3)⟩ (fun hHeld => ?_); refine with_tabW commodatumref12_Valid.tab6 commodatumref12_Valid.bits6 (fun HT_ HW_ => ?_)
         generalize wr.drew = w15 at B54 HB hx155_0 hx155_1 hx155_2 hx155_3 hHeld ⊢
         refine pure_ (i := 0) (N := some 25) (v := ?_) (a' := ?_) z1a5 rfl rfl (any_of HT_.out (by kernel_rfl)) (fun _ _ _ h => h) (Or.inl ⟨by rfl, ?_⟩) ?_ ?_; rotate_left; (intro w'; go_simp; with_reducible rfl); rotate_left; (simp only [Act.put, pSa5, i64_w]; rfl)
         refine pure_ (i := 2) (N := some 27) (v := ?_) (a' := ?_) z2a5 rfl rfl (any_of HT_.out (by kernel_rfl)) (fun _ _ _ h => h) (Or.inl ⟨by rfl, ?_⟩) ?_ ?_; rotate_left; (intro w'; go_simp; with_reducible rfl); rotate_left; (simp only [Act.put, pSa5, i64_w]; rfl)
         refine pure_ (i := 5) (N := some 30) (v := ?_) (a' := ?_) z3a5 rfl rfl (any_of HT_.out (by kernel_rfl)) (fun _ _ _ h => h) (Or.inl ⟨by rfl, ?_⟩) ?_ ?_; rotate_left; (intro w'; go_simp; with_reducible rfl); rotate_left; (simp only [Act.put, pSa5, i64_w]; rfl)
         refine take_ (i := 1) (N := some 26) (v := ?_) (a' := ?_) z4a5 rfl rfl (take_ofW HT_.out HW_.out (by kernel_rfl)) (fun _ _ _ h => h) (Or.inl ⟨by rfl, ?_⟩) hHeld ?_ ?_; rotate_left; (rintro w' ⟨s0, s1, s2, s3, s4, s5⟩; go_simp; with_reducible rfl); rotate_left; (simp only [Act.put, pSa5, i64_w]; rfl)
         refine pure_ (i := 3) (N := some 28) (v := ?_) (a' := ?_) z5a5 rfl rfl (any_of HT_.out (by kernel_rfl)) (fun _ _ _ h => h) (Or.inl ⟨by rfl, ?_⟩) ?_ ?_; rotate_left; (intro w'; go_simp; with_reducible rfl); rotate_left; (simp only [Act.put, pSa5, i64_w]; rfl)
         refine take_ (i := 4) (N := some 29) (v := ?_) (a' := ?_) z6a5 rfl rfl (take_ofW HT_.out HW_.out (by kernel_rfl)) (fun _ _ _ h => h) (Or.inl ⟨by rfl, ?_⟩) hHeld ?_ ?_; rotate_left; (rintro w' ⟨s0, s1, s2, s3, s4, s5⟩; go_simp; with_reducible rfl); rotate_left; (simp only [Act.put, pSa5, i64_w]; rfl)
         refine take_ (i := 6) (N := some 31) (v := ?_) (a' := ?_) z7a5 rfl rfl (take_ofW HT_.out HW_.out (by kernel_rfl)) (fun _ _ _ h => h) (Or.inl ⟨by rfl, ?_⟩) hHeld ?_ ?_; rotate_left; (rintro w' ⟨s0, s1, s2, s3, s4, s5⟩; go_simp; with_reducible rfl); rotate_left; (simp only [Act.put, pSa5, i64_w]; rfl)
         refine one_ (i := 7) (N := some 32) z8a5 rfl rfl (one_of HT_.out (by kernel_rfl)) (by decide) (fun K hK => ?_)
         refine goes_ Tryd.func52 (by kernel_rfl) rfl #[.agg #[.int .i64 ((rd_T67 l0_1 x3_2).f0), .int .i64 ((rd_T67 l0_1 x3_2).f1), .int .i64 ((rd_T67 l0_1 x3_2).f2), .int .i64 ((rd_T67 l0_1 x3_2).f3)], .int .i64 a0_0] (by rfl) rfl rfl (by (try simp only [List.map_toArray, List.map_cons, List.map_nil]); first | done | rfl | (simp only [List.length_drop, List.length_take]; rfl)) ?_
         with_reducible refine (commodatumref12_op.calls k2 ((rd_T67 l0_1 x3_2).f0) ((rd_T67 l0_1 x3_2).f1) ((rd_T67 l0_1 x3_2).f2) ((rd_T67 l0_1 x3_2).f3) a0_0 true _ A12.out).mono ?_
         rintro e w16 ⟨rfl, hb⟩
         refine ⟨_, rfl, ?_⟩
         replace B54 := aM (blk_below (g := gb154) (o := .cells #[.int .i64 a0_0, .slice (some ad155) l0_1.length c0_1] 25 (0, 0)) (by with_reducible apply_rules [B54.out, blk_drewN, blk_drew, blk_alloc]) hb)
         replace HB := aM (pS_ (by (with_reducible apply_rules [HB.out, pA, pD, pE, sT, GE154.out])) hb)
         (try clear hb)
         (try clear hb2)
         (try clear hk)
         (try clear hi)
         refine hK.out _ _ ⟨(bE B54.out 0).trans rfl, (bE B54.out 1).trans rfl, ((HB.out.cell (World.block_lt_of_cell? w _ hw155_0)).trans hw155_0), ((HB.out.cell (World.block_lt_of_cell? w _ hw155_1)).trans hw155_1), ((HB.out.cell (World.block_lt_of_cell? w _ hw155_2)).trans hw155_2), ((HB.out.cell (World.block_lt_of_cell? w _ hw155_3)).trans hw155_3)⟩ (fun hHeld => ?_)
         clear hK K
         refine norm_ (a' := ?_) ?_ ?_
         rotate_left
         ·show Act.put _ (some 32) _ = _
          simp only [Act.put, pSa5, i64_w]
          rfl
         refine pure_ (i := 8) (N := some 33) (v := ?_) (a' := ?_) z9a5 rfl rfl (any_of HT_.out (by kernel_rfl)) (fun _ _ _ h => h) (Or.inl ⟨by rfl, ?_⟩) ?_ ?_; rotate_left; (intro w'; go_simp; with_reducible rfl); rotate_left; (simp only [Act.put, pSa5, i64_w]; rfl)
         refine done_ (done_of HT_.out (by kernel_rfl)) ?_
         try go_wp2
         go_roundg k2
         case measure => have := HJ1.out; have := HK2.out; omega
         case rel => exact ⟨(wrap64 (x3_2 + 1)), (by first | rfl | (simp; done) | (simp [*]; done)), H', ⟨by have := HJ1.out; have := HK2.out; omega⟩, ⟨by with_reducible apply_rules [B54.out, blk_drewN, blk_drew, blk_alloc]⟩, ⟨by (with_reducible apply_rules [HB.out, pA, pD, pE, sT, GE154.out])⟩⟩
        ·replace c13 := Bool.eq_false_iff.mpr c13
         subst c13
         have H1 : (some false) = some r := by rw [if_neg (show ¬ (false = true) by decide)] at H; exact H
         clear H
         have H := H1
         clear H1
         obtain rfl := Option.some.inj H
         have hcz17_0 : wr.cell? ⟨gb154, 0, none⟩ = some (.int .i64 a0_0) := (bE B54.out 0).trans rfl
         have hcz17_1 : wr.cell? ⟨gb154, 1, none⟩ = some (.slice A0_1 l0_1.length c0_1) := (bE B54.out 1).trans rfl
         have hfz17_0 := bF B54.out 0
         have hfz17_1 := bF B54.out 1
         try go_wp2
         replace B54 := aM (blk_drew B54.out)
         replace HB := aM (pE HB.out)
         have p155 : 0 ≤ (x3_2 : Int) := of_decide_eq_true (by assumption)
         have q155 : x3_2 < (l0_1.length : Int) := of_decide_eq_true (by assumption)
         obtain ⟨ad155, e155, hx155_0, hx155_1, hx155_2, hx155_3⟩ := at_T67 HR0_1.out x3_2 p155 q155
         have hw155_3 := hx155_3
         have hw155_2 := hx155_2
         have hw155_1 := hx155_1
         have hw155_0 := hx155_0
         cases e155
         replace hx155_0 := (HB.out.cell (World.block_lt_of_cell? w _ hx155_0)).trans hx155_0
         replace hx155_1 := (HB.out.cell (World.block_lt_of_cell? w _ hx155_1)).trans hx155_1
         replace hx155_2 := (HB.out.cell (World.block_lt_of_cell? w _ hx155_2)).trans hx155_2
         replace hx155_3 := (HB.out.cell (World.block_lt_of_cell? w _ hx155_3)).trans hx155_3
         replace p155 := eq_true p155
         replace q155 := eq_true q155
         refine start_ (n := 9) (S := fun w' => w'.cell? ⟨gb154, 0, none⟩ = some (.int .i64 a0_0) ∧ w'.cell? ⟨gb154, 1, none⟩ = some (.slice (some ad155) l0_1.length c0_1) ∧ w'.cell? (ad155.add ((x3_2).toNat * 4)) = some (.int .i64 ((rd_T67 l0_1 x3_2).f0)) ∧ w'.cell? ⟨(ad155.add ((x3_2).toNat * 4)).block, (ad155.add ((x3_2).toNat * 4)).off + 1, none⟩ = some (.int .i64 ((rd_T67 l0_1 x3_2).f1)) ∧ w'.cell? ⟨(ad155.add ((x3_2).toNat * 4)).block, (ad155.add ((x3_2).toNat * 4)).off + 2, none⟩ = some (.int .i64 ((rd_T67 l0_1 x3_2).f2)) ∧ w'.cell? ⟨(ad155.add ((x3_2).toNat * 4)).block, (ad155.add ((x3_2).toNat * 4)).off + 3, none⟩ = some (.int .i64 ((rd_T67 l0_1 x3_2).f3))) (ds := []) z0a5 (by kernel_rfl) rfl rfl ⟨(bE B54.out 0).trans rfl, (bE B54.out 1).trans rfl, ((HB.out.cell (World.block_lt_of_cell? w _ hw155_0)).trans hw155_0), ((HB.out.cell (World.block_lt_of_cell? w _ hw155_1)).trans hw155_1), ((HB.out.cell (World.block_lt_of_cell? w _ hw155_2)).trans hw155_2), ((HB.out.cell (World.block_lt_of_cell? w _ hw155_3)).trans hw155_3)⟩ (fun hHeld => ?_); refine with_tabW commodatumref12_Valid.tab6 commodatumref12_Valid.bits6 (fun HT_ HW_ => ?_)
         generalize wr.drew = w18 at B54 HB hx155_0 hx155_1 hx155_2 hx155_3 hHeld ⊢
         refine pure_ (i := 0) (N := some 25) (v := ?_) (a' := ?_) z1a5 rfl rfl (any_of HT_.out (by kernel_rfl)) (fun _ _ _ h => h) (Or.inl ⟨by rfl, ?_⟩) ?_ ?_; rotate_left; (intro w'; go_simp; with_reducible rfl); rotate_left; (simp only [Act.put, pSa5, i64_w]; rfl)
         refine pure_ (i := 2) (N := some 27) (v := ?_) (a' := ?_) z2a5 rfl rfl (any_of HT_.out (by kernel_rfl)) (fun _ _ _ h => h) (Or.inl ⟨by rfl, ?_⟩) ?_ ?_; rotate_left; (intro w'; go_simp; with_reducible rfl); rotate_left; (simp only [Act.put, pSa5, i64_w]; rfl)
         refine pure_ (i := 5) (N := some 30) (v := ?_) (a' := ?_) z3a5 rfl rfl (any_of HT_.out (by kernel_rfl)) (fun _ _ _ h => h) (Or.inl ⟨by rfl, ?_⟩) ?_ ?_; rotate_left; (intro w'; go_simp; with_reducible rfl); rotate_left; (simp only [Act.put, pSa5, i64_w]; rfl)
         refine take_ (i := 1) (N := some 26) (v := ?_) (a' := ?_) z4a5 rfl rfl (take_ofW HT_.out HW_.out (by kernel_rfl)) (fun _ _ _ h => h) (Or.inl ⟨by rfl, ?_⟩) hHeld ?_ ?_; rotate_left; (rintro w' ⟨s0, s1, s2, s3, s4, s5⟩; go_simp; with_reducible rfl); rotate_left; (simp only [Act.put, pSa5, i64_w]; rfl)
         refine pure_ (i := 3) (N := some 28) (v := ?_) (a' := ?_) z5a5 rfl rfl (any_of HT_.out (by kernel_rfl)) (fun _ _ _ h => h) (Or.inl ⟨by rfl, ?_⟩) ?_ ?_; rotate_left; (intro w'; go_simp; with_reducible rfl); rotate_left; (simp only [Act.put, pSa5, i64_w]; rfl)
         refine take_ (i := 4) (N := some 29) (v := ?_) (a' := ?_) z6a5 rfl rfl (take_ofW HT_.out HW_.out (by kernel_rfl)) (fun _ _ _ h => h) (Or.inl ⟨by rfl, ?_⟩) hHeld ?_ ?_; rotate_left; (rintro w' ⟨s0, s1, s2, s3, s4, s5⟩; go_simp; with_reducible rfl); rotate_left; (simp only [Act.put, pSa5, i64_w]; rfl)
         refine take_ (i := 6) (N := some 31) (v := ?_) (a' := ?_) z7a5 rfl rfl (take_ofW HT_.out HW_.out (by kernel_rfl)) (fun _ _ _ h => h) (Or.inl ⟨by rfl, ?_⟩) hHeld ?_ ?_; rotate_left; (rintro w' ⟨s0, s1, s2, s3, s4, s5⟩; go_simp; with_reducible rfl); rotate_left; (simp only [Act.put, pSa5, i64_w]; rfl)
         refine one_ (i := 7) (N := some 32) z8a5 rfl rfl (one_of HT_.out (by kernel_rfl)) (by decide) (fun K hK => ?_)
         refine goes_ Tryd.func52 (by kernel_rfl) rfl #[.agg #[.int .i64 ((rd_T67 l0_1 x3_2).f0), .int .i64 ((rd_T67 l0_1 x3_2).f1), .int .i64 ((rd_T67 l0_1 x3_2).f2), .int .i64 ((rd_T67 l0_1 x3_2).f3)], .int .i64 a0_0] (by rfl) rfl rfl (by (try simp only [List.map_toArray, List.map_cons, List.map_nil]); first | done | rfl | (simp only [List.length_drop, List.length_take]; rfl)) ?_
         with_reducible refine (commodatumref12_op.calls k2 ((rd_T67 l0_1 x3_2).f0) ((rd_T67 l0_1 x3_2).f1) ((rd_T67 l0_1 x3_2).f2) ((rd_T67 l0_1 x3_2).f3) a0_0 false _ A12.out).mono ?_
         rintro e w19 ⟨rfl, hb⟩
         refine ⟨_, rfl, ?_⟩
         replace B54 := aM (blk_below (g := gb154) (o := .cells #[.int .i64 a0_0, .slice (some ad155) l0_1.length c0_1] 25 (0, 0)) (by with_reducible apply_rules [B54.out, blk_drewN, blk_drew, blk_alloc]) hb)
         replace HB := aM (pS_ (by (with_reducible apply_rules [HB.out, pA, pD, pE, sT, GE154.out])) hb)
         (try clear hb)
         (try clear hb2)
         (try clear hk)
         (try clear hi)
         refine hK.out _ _ ⟨(bE B54.out 0).trans rfl, (bE B54.out 1).trans rfl, ((HB.out.cell (World.block_lt_of_cell? w _ hw155_0)).trans hw155_0), ((HB.out.cell (World.block_lt_of_cell? w _ hw155_1)).trans hw155_1), ((HB.out.cell (World.block_lt_of_cell? w _ hw155_2)).trans hw155_2), ((HB.out.cell (World.block_lt_of_cell? w _ hw155_3)).trans hw155_3)⟩ (fun hHeld => ?_)
         clear hK K
         refine norm_ (a' := ?_) ?_ ?_
         rotate_left
         ·show Act.put _ (some 32) _ = _
          simp only [Act.put, pSa5, i64_w]
          rfl
         refine pure_ (i := 8) (N := some 33) (v := ?_) (a' := ?_) z9a5 rfl rfl (any_of HT_.out (by kernel_rfl)) (fun _ _ _ h => h) (Or.inl ⟨by rfl, ?_⟩) ?_ ?_; rotate_left; (intro w'; go_simp; with_reducible rfl); rotate_left; (simp only [Act.put, pSa5, i64_w]; rfl)
         refine done_ (done_of HT_.out (by kernel_rfl)) ?_
         try go_wp2
         go_ret
         exact ⟨by first | rfl | (simp [errW_none, errW_some] <;> rfl) | (simp [*, errW_none, errW_some] <;> rfl), by (with_reducible apply_rules [HB.out, pA, pD, pE, sT, GE154.out])⟩
       ·rw [if_neg c11] at H
        exact absurd H (by simp)
      ·rw [if_neg c10] at H
       have c10b0 : decide (x3_2 < (l0_1.length : Int)) = false := decide_eq_false c10
       clear c10
       obtain rfl := Option.some.inj H
       have hcz20_0 : wr.cell? ⟨gb154, 0, none⟩ = some (.int .i64 a0_0) := (bE B54.out 0).trans rfl
       have hcz20_1 : wr.cell? ⟨gb154, 1, none⟩ = some (.slice A0_1 l0_1.length c0_1) := (bE B54.out 1).trans rfl
       have hfz20_0 := bF B54.out 0
       have hfz20_1 := bF B54.out 1
       go_wp2
       go_ret
       exact ⟨by first | rfl | (simp [errW_none, errW_some] <;> rfl) | (simp [*, errW_none, errW_some] <;> rfl), by (with_reducible apply_rules [HB.out, pA, pD, pE, sT, GE154.out])⟩

def commodatumref09_Bits.l0 : Nat → Int → Int → List Bool → Int → Option (List Bool)
 | 0, _, _, _, _ => none
 | k + 1, x0, x1, x5, x6 => if x6 < x1 then (if 0 ≤ x6 then (if x6 < (x5.length : Int) then (commodatumref09_Bits.l0 k x0 x1 (x5.set (x6 : Int).toNat ((Go.bits .and .i64 (shr .i64 x0 x6) 1) == 1)) (wrap64 (x6 + 1))) else (none)) else (none)) else (some x5)
def commodatumref09_Bits.f (k : Nat) (a0 : Int) (a1 : Int) : Option (List Bool) := if 0 ≤ a1 then (if (a1 : Int).toNat ≤ 281474976710656 then (commodatumref09_Bits.l0 k a0 a1 (List.replicate (a1 : Int).toNat false) 0) else (none)) else (none)
set_option maxHeartbeats 8000000 in
set_option maxRecDepth 100000 in
theorem commodatumref09_Bits.calls (k : Nat) (a0 : Int) (a1 : Int) (r : List Bool) (w : World) (h : commodatumref09_Bits.f k a0 a1 = some r) :
  Calls Tryd.prog 92 #[.int .i64 a0, .int .i64 a1] w fun e w' => ∃ v0_ : Value, e = .returned (v0_) ∧ Kd.R Kd.bool 4 w' w.heap.size (fun _ => True) v0_ r ∧ Below w.heap.size w w' := by
 have HB := aM (Below.refl w.heap.size w)
 have H : (if 0 ≤ a1 then (if (a1 : Int).toNat ≤ 281474976710656 then (commodatumref09_Bits.l0 k a0 a1 (List.replicate (a1 : Int).toNat false) 0) else (none)) else (none)) = some r := h
 clear h
 by_cases c3 : 0 ≤ a1
 ·rw [if_pos c3] at H
  have c3b0 := eq_true c3
  have c3b1 : decide (0 ≤ a1) = true := decide_eq_true c3
  clear c3
  by_cases c4 : (a1 : Int).toNat ≤ 281474976710656
  ·rw [if_pos c4] at H
   have c4b0 := eq_true c4
   have c4b1 : decide ((a1 : Int).toNat ≤ 281474976710656) = true := decide_eq_true c4
   clear c4
   obtain ⟨y160, hy160⟩ : ∃ y_ : List Bool, y_ = (List.replicate (a1 : Int).toNat false) := ⟨_, rfl⟩
   replace H : (commodatumref09_Bits.l0 k a0 a1 y160 0) = some r := by first | (rw [hy160]; with_reducible exact H) | (have H2_ := (Option.bind_some _ _).symm.trans H; rw [hy160]; with_reducible exact H2_) | (have H2_ := (Option.bind_some _ _).symm.trans H; with_reducible exact H2_) | with_reducible exact H | (rw [hy160]; exact H) | exact H
   have Ny160 := aM hy160
   clear hy160
   have H' := aM H
   clear H
   go_enter Tryd.func92, Tryd.ntmps92
   go_wp2_with (first | ((with_reducible refine gate_dst (N := 8) rfl ?_); refine Kd.R_make Kd.bool _ 4 rfl (N := 8) rfl 34 _ _ rfl a1 rfl rfl Tryd.underlying34 (.bool false) 1 info4 rfl (by decide) (by omega) false (ok := fun _ => True) (okp := fun _ => True) rfl (fun _ hk => hk) trivial (of_decide_eq_true (by assumption)) (Nat.le_trans (Nat.mul_le_mul_right _ (of_decide_eq_true (by assumption) : a1.toNat ≤ 281474976710656)) (by omega)) (Below.refl _ _) (Nat.le_refl _) ?_; intro v161 w5 ho6 hb hg_ hnew_; clear hg_ hnew_; (first | rw [← Ny160.out] at ho6 | (simp only [Int.reduceToNat] at ho6; rw [← Ny160.out] at ho6)); have HO162 := aM (Kd.R_lower ho6 (below_size (by (with_reducible apply_rules [HB.out, pA, pD, pE])))); replace HB := aM (pS_ (by (with_reducible apply_rules [HB.out, pA, pD, pE])) hb); clear hb ho6))
   go_loopg [6] k (fun kq v6 w' => ∃ (x5_1 : List Bool) (x6_1 : Int), v6 = .int .i64 x6_1 ∧ Aside0 (commodatumref09_Bits.l0 kq a0 a1 x5_1 x6_1 = some r) ∧ Aside0 (kq ≤ k) ∧ Aside0 (Kd.R Kd.bool 4 w' w.heap.size (fun _ => True) v161 x5_1) ∧ Aside0 (Below w.heap.size w w'))
   case atStart => exact ⟨(y160), (0), (by first | rfl | (simp; done) | (simp [*]; done)), H', ⟨Nat.le_refl _⟩, ⟨by with_reducible apply_rules [HO162.out, Kd.R_alloc, Kd.R_drewN, Kd.R_drew]⟩, ⟨by (with_reducible apply_rules [HB.out, pA, pD, pE])⟩⟩
   case round =>
    clear H'
    try clear p2
    try clear c3
    try clear c3b0
    try clear c3b1
    try clear c4
    try clear c4b0
    try clear c4b1
    obtain ⟨x5_1, x6_1, rfl, HA, HK1, HO_5, HB⟩ := hrel
    cases gk with
    | zero => exact absurd HA.out (by simp [commodatumref09_Bits.l0])
    | succ k1 =>
     have H := HA.out
     clear HA
     simp only [commodatumref09_Bits.l0] at H
     by_cases c7 : x6_1 < a1
     ·rw [if_pos c7] at H
      have c7b0 : decide (x6_1 < a1) = true := decide_eq_true c7
      clear c7
      by_cases c8 : 0 ≤ x6_1
      ·rw [if_pos c8] at H
       have c8b0 := eq_true c8
       have c8b1 : decide (0 ≤ x6_1) = true := decide_eq_true c8
       clear c8
       obtain ⟨ji9, hji9⟩ : ∃ j_ : Int, (shr .i64 a0 x6_1) = j_ := ⟨_, rfl⟩
       replace H : (if x6_1 < (x5_1.length : Int) then (commodatumref09_Bits.l0 k1 a0 a1 (x5_1.set (x6_1 : Int).toNat ((Go.bits .and .i64 (ji9) 1) == 1)) (wrap64 (x6_1 + 1))) else (none)) = some r := by first | (rw [hji9] at H; exact H) | (simp only [hji9] at H ⊢; exact H)
       have hji9_ : (a0 / 2 ^ min x6_1.toNat 64) = ji9 := hji9
       have hji9z : x6_1 ≤ 64 → (a0 / 2 ^ x6_1.toNat) = ji9 := shr_small hji9
       by_cases c10 : x6_1 < (x5_1.length : Int)
       ·rw [if_pos c10] at H
        have c10b0 : decide (x6_1 < (x5_1.length : Int)) = true := decide_eq_true c10
        clear c10
        obtain ⟨y163, hy163⟩ : ∃ y_ : List Bool, y_ = (x5_1.set (x6_1 : Int).toNat ((Go.bits .and .i64 (ji9) 1) == 1)) := ⟨_, rfl⟩
        replace H : (commodatumref09_Bits.l0 k1 a0 a1 y163 (wrap64 (x6_1 + 1))) = some r := by first | (rw [hy163]; with_reducible exact H) | (have H2_ := (Option.bind_some _ _).symm.trans H; rw [hy163]; with_reducible exact H2_) | (have H2_ := (Option.bind_some _ _).symm.trans H; with_reducible exact H2_) | with_reducible exact H | (rw [hy163]; exact H) | exact H
        have Ny163 := aM hy163
        clear hy163
        have H' := aM H
        clear H
        have p11 : 0 ≤ (x6_1 : Int) := of_decide_eq_true (by assumption)
        have q11 : (x6_1 : Int) < ((x5_1.length : Int) : Int) := of_decide_eq_true (by assumption)
        obtain ⟨go11, co11, eo11, gb11, gl11, cl11, HG11⟩ := Kd.R_form HO_5.out (by omega)
        (first | cases eo11 | (injection eo11 with ea_ en_ ec_; (first | subst ea_ | (injection ea_ with ea_; subst ea_)); subst ec_; clear en_))
        have GB11 := aM gb11
        have GG11 := aM HG11
        clear gb11 gl11 HG11
        obtain ⟨hx11_0, hf11_0⟩ := Kd.R_celln false HO_5.out (x6_1 : Int) p11 q11
        replace p11 := eq_true p11
        replace q11 := eq_true q11
        have HP12 := Kd.R_putg HO_5.out (x6_1 : Int) ((Go.bits .and .i64 (ji9) 1) == 1)
        go_wp2_with (first | ((with_reducible refine gate_store (t := 4) (p := 21) rfl ?_); refine store_event (t := 4) (p := 21) (v := ?vo_w13) (w1 := (wr.setCell ⟨go11, (x6_1 : Int).toNat, none⟩ (.bool ((Go.bits .and .i64 (ji9) 1) == 1)))) ?hg ?ho ?hn ?hr ?_; (case ho => rfl); (case hg => rfl); (case hn => rfl); (case hr => first | (go_simp; done) | (go_simp; rfl)); intro w13 hw; have hg : wr.grownBy w13 (some go11) := (by rw [hw]; exact HP12.2); have hp_ : Kd.R Kd.bool 4 w13 w.heap.size (fun _ => True) (.slice (some ⟨go11, 0, none⟩) x5_1.length co11) y163 := (by rw [hw, Ny163.out]; exact HP12.1); clear HP12; replace HO_5 := aM (hp_); replace HB := aM ((by rw [hw]; exact sT (HB.out) GB11.out : Below w.heap.size w w13)); clear hg hw hp_))
        go_roundg k1
        case measure => have := HK1.out; omega
        case rel => exact ⟨(y163), (wrap64 (x6_1 + 1)), (by first | rfl | (simp; done) | (simp [*]; done)), H', ⟨by have := HK1.out; omega⟩, ⟨by with_reducible apply_rules [HO_5.out, Kd.R_alloc, Kd.R_drewN, Kd.R_drew]⟩, ⟨by (with_reducible apply_rules [HB.out, pA, pD, pE])⟩⟩
       ·rw [if_neg c10] at H
        exact absurd H (by simp)
      ·rw [if_neg c8] at H
       exact absurd H (by simp)
     ·rw [if_neg c7] at H
      have c7b0 : decide (x6_1 < a1) = false := decide_eq_false c7
      clear c7
      obtain rfl := Option.some.inj H
      go_wp2
      go_ret
      exact ⟨_, by first | rfl | (simp [errW_none, errW_some] <;> rfl) | (simp [*, errW_none, errW_some] <;> rfl), by with_reducible apply_rules [HO_5.out, Kd.R_alloc, Kd.R_drewN, Kd.R_drew], by (with_reducible apply_rules [HB.out, pA, pD, pE])⟩
  ·rw [if_neg c4] at H
   exact absurd H (by simp)
 ·rw [if_neg c3] at H
  exact absurd H (by simp)

def commodatumref12_Bits.f (k : Nat) (a0 : Int) (a1 : Int) : Option (List Bool) := (commodatumref09_Bits.f k a0 a1).bind fun t164 => (some t164)
set_option maxHeartbeats 8000000 in
set_option maxRecDepth 100000 in
theorem commodatumref12_Bits.calls (k : Nat) (a0 : Int) (a1 : Int) (r : List Bool) (w : World) (h : commodatumref12_Bits.f k a0 a1 = some r) :
  Calls Tryd.prog 70 #[.int .i64 a0, .int .i64 a1] w fun e w' => ∃ v0_ : Value, e = .returned (v0_) ∧ Kd.R Kd.bool 4 w' w.heap.size (fun _ => True) v0_ r ∧ Below w.heap.size w w' := by
 have HB := aM (Below.refl w.heap.size w)
 have H : ((commodatumref09_Bits.f k a0 a1).bind fun t164 => (some t164)) = some r := h
 clear h
 replace H := Option.bind_eq_some_iff.mp H
 obtain ⟨t164, A30, H⟩ := H
 replace H : (some t164) = some r := H
 have A3 := aM A30
 clear A30
 obtain rfl := Option.some.inj H
 go_enter Tryd.func70, Tryd.ntmps70
 go_wp2_with (first | ((with_reducible refine gate_callee (f := 92) rfl ?_); refine goesL_ (some 7) rfl rfl Tryd.func92 (by kernel_rfl) rfl #[.int .i64 a0, .int .i64 a1] rfl (by (try simp only [List.map_toArray, List.map_cons, List.map_nil]); first | done | rfl | (simp only [List.length_drop, List.length_take]; rfl)) ?_; (with_reducible refine (commodatumref09_Bits.calls k a0 a1 t164 _ A3.out).mono ?_); rintro e w4 ⟨v165, rfl, ho0, hb⟩; refine ⟨_, rfl, ?_⟩; have HO166 := aM (Kd.R_lower ho0 (below_size (by (with_reducible apply_rules [HB.out, pA, pD, pE])))); replace HB := aM (pS_ (by (with_reducible apply_rules [HB.out, pA, pD, pE])) hb); (try clear hb); (try clear hb2); (try clear hk); (try clear hi); (try clear ho0)))
 go_ret
 exact ⟨_, by first | rfl | (simp [errW_none, errW_some] <;> rfl) | (simp [*, errW_none, errW_some] <;> rfl), by with_reducible apply_rules [HO166.out, Kd.R_alloc, Kd.R_drewN, Kd.R_drew], by (with_reducible apply_rules [HB.out, pA, pD, pE])⟩

end Go.Proofs.YthfhnkpipdbekaaDoor.Ta
