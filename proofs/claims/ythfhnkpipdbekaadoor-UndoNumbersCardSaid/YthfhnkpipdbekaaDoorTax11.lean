-- CUT by a program of this session: what the claim does not use is left out
import Derived.Test.YthfhnkpipdbekaaDoorTax0
import Derived.Test.YthfhnkpipdbekaaDoorTax5
import Derived.Test.YthfhnkpipdbekaaDoorTax6
namespace Go.Proofs.YthfhnkpipdbekaaDoor.Ta
open Go.Proofs.YthfhnkpipdbekaaDoor.Ua
open Go.Proofs.YthfhnkpipdbekaaDoor.Giv
open Go.RowKit Go.Proofs.YthfhnkpipdbekaaDoorW.PrintWords Go.Proofs.YthfhnkpipdbekaaDoorW.PrintLast Go.Proofs.YthfhnkpipdbekaaDoorW.PrintMore
attribute [local go_sem] max2_int min2_int max_two min_two max_three min_three max_four min_four   -- for this text's walks alone
set_option linter.unusedVariables false
set_option linter.unusedSimpArgs false

def commodatumref12_Number.l0 : Nat → List Bool → Int → Int → Option (Int)
 | 0, _, _, _ => none
 | k + 1, x0, x3, x4 => if x4 < (x0.length : Int) then (if 0 ≤ x4 then (if rdOf false x0 x4 = true then (commodatumref12_Number.l0 k x0 (wrap64 (x3 + (shl .i64 1 x4))) (wrap64 (x4 + 1))) else (commodatumref12_Number.l0 k x0 x3 (wrap64 (x4 + 1)))) else (none)) else (some x3)
def commodatumref12_Number.f (k : Nat) (l0 : List Bool) : Option (Int) := commodatumref12_Number.l0 k l0 0 0
theorem pSa1 {α : Type} : (∀ (l : List α) (i : Nat) (a : α), l.toArray.setIfInBounds i a = (l.set i a).toArray) ∧ (∀ (l : List α) (x y : α), (x :: l).set 0 y = y :: l) ∧ (∀ (l : List α) (x y : α) (n : Nat), (x :: l).set (n + 1) y = x :: l.set n y) :=
 ⟨fun _ _ _ => List.setIfInBounds_toArray .., fun _ _ _ => rfl, fun _ _ _ _ => rfl⟩
open Go.Proofs.YthfhnkpipdbekaaDoorW.PrintWords renaming blk_drewN → bA, blk_drew → bB, blk_alloc → bC, below_set → sT, Aside0.mk → aM, pw_below_drewN → pD, below_drew1 → pE, below_alloc → pA, blk_cell → bE, blk_frozen → bF
abbrev z0a1 : Array Bool := #[false, false, false, false, false, false, false, false, false, false, false]
abbrev z1a1 : Array Bool := #[true, false, false, false, false, false, false, false, false, false, false]
abbrev z2a1 : Array Bool := #[true, true, false, false, false, false, false, false, false, false, false]
abbrev z3a1 : Array Bool := #[true, true, false, true, false, false, false, false, false, false, false]
abbrev z4a1 : Array Bool := #[true, true, false, true, true, false, false, false, false, false, false]
abbrev z5a1 : Array Bool := #[true, true, true, true, true, false, false, false, false, false, false]
abbrev z6a1 : Array Bool := #[true, true, true, true, true, true, false, false, false, false, false]
abbrev z7a1 : Array Bool := #[true, true, true, true, true, true, true, false, false, false, false]
abbrev z8a1 : Array Bool := #[true, true, true, true, true, true, true, true, false, false, false]
abbrev z9a1 : Array Bool := #[true, true, true, true, true, true, true, true, true, false, false]
abbrev z10a1 : Array Bool := #[true, true, true, true, true, true, true, true, true, true, false]
abbrev z11a1 : Array Bool := #[true, true, true, true, true, true, true, true, true, true, true]
set_option maxHeartbeats 8000000 in
set_option maxRecDepth 100000 in
theorem commodatumref12_Number.calls (k : Nat) (A0 : Option Addr) (c0 : Nat) (l0 : List Bool) (r : Int) (w : World) (hr0 : Kd.C Kd.bool w A0 l0.length l0) (hc0 : l0.length ≤ c0) (h : commodatumref12_Number.f k l0 = some r) :
  Calls Tryd.prog 69 #[.slice A0 l0.length c0] w fun e w' => e = .returned (.int .i64 r) ∧ Drawn0 w w' := by
 have HR0 := aM hr0
 have HC0 := aM hc0
 clear hr0 hc0
 have H : (commodatumref12_Number.l0 k l0 0 0) = some r := h
 clear h
 have H' := aM H
 clear H
 go_enter Tryd.func69, Tryd.ntmps69
 go_wp2
 go_loopg [3, 4] k (fun kq v3 v4 w' => ∃ (x3_1 : Int) (x4_1 : Int), v3 = .int .i64 x3_1 ∧ v4 = .int .i64 x4_1 ∧ Aside0 (commodatumref12_Number.l0 kq l0 x3_1 x4_1 = some r) ∧ Aside0 (kq ≤ k) ∧ Drawn0 w w')
 case atStart => exact ⟨(0), (0), (by first | rfl | (simp; done) | (simp [*]; done)), (by first | rfl | (simp; done) | (simp [*]; done)), H', ⟨Nat.le_refl _⟩, by repeat (first | exact Drawn0.refl _ | apply Drawn0.step)⟩
 case round =>
  clear H'
  obtain ⟨x3_1, x4_1, rfl, rfl, HA, HK1, ⟨m1, rfl⟩⟩ := hrel
  cases gk with
  | zero => exact absurd HA.out (by simp [commodatumref12_Number.l0])
  | succ k1 =>
   have H := HA.out
   clear HA
   simp only [commodatumref12_Number.l0] at H
   by_cases c2 : x4_1 < (l0.length : Int)
   ·rw [if_pos c2] at H
    have c2b0 : decide (x4_1 < (l0.length : Int)) = true := decide_eq_true c2
    clear c2
    by_cases c3 : 0 ≤ x4_1
    ·rw [if_pos c3] at H
     have c3b0 : decide (0 ≤ x4_1) = true := decide_eq_true c3
     clear c3
     obtain ⟨bq4, hbq4⟩ : ∃ b_ : Bool, b_ = (rdOf false l0 x4_1) := ⟨_, rfl⟩
     replace H : (if bq4 = true then (commodatumref12_Number.l0 k1 l0 (wrap64 (x3_1 + (shl .i64 1 x4_1))) (wrap64 (x4_1 + 1))) else (commodatumref12_Number.l0 k1 l0 x3_1 (wrap64 (x4_1 + 1)))) = some r := by rw [← hbq4] at H; exact H
     have Nbq4 := aM hbq4
     clear hbq4
     by_cases c5 : bq4 = true
     ·subst c5
      have H1 : (commodatumref12_Number.l0 k1 l0 (wrap64 (x3_1 + (shl .i64 1 x4_1))) (wrap64 (x4_1 + 1))) = some r := by rw [if_pos rfl] at H; exact H
      clear H
      have H := H1
      clear H1
      have c6b0 := eq_true (of_decide_eq_true (by assumption) : 0 ≤ x4_1)
      obtain ⟨ji7, hji7⟩ : ∃ j_ : Int, (shl .i64 1 x4_1) = j_ := ⟨_, rfl⟩
      replace H : (commodatumref12_Number.l0 k1 l0 (wrap64 (x3_1 + (ji7))) (wrap64 (x4_1 + 1))) = some r := by first | (rw [hji7] at H; exact H) | (simp only [hji7] at H ⊢; exact H)
      have hji7_ : (IntKind.i64.wrap (1 * 2 ^ min x4_1.toNat 64)) = ji7 := hji7
      have hji7z : x4_1 ≤ 64 → (IntKind.i64.wrap (1 * 2 ^ x4_1.toNat)) = ji7 := shl_small hji7
      have hji7u : (IntKind.i64.wrap (2 ^ min x4_1.toNat 64)) = ji7 := by have h_ := hji7_; rw [Int.one_mul] at h_; exact h_
      have hji7v : x4_1 ≤ 64 → (IntKind.i64.wrap (2 ^ x4_1.toNat)) = ji7 := fun hle_ => by have h_ := hji7z hle_; rw [Int.one_mul] at h_; exact h_
      have hji7y : (wrap64 (1 * 2 ^ min x4_1.toNat 64)) = ji7 := (i64_w _).symm.trans hji7_
      have hji7x : x4_1 ≤ 64 → (wrap64 (1 * 2 ^ x4_1.toNat)) = ji7 := fun h_ => (i64_w _).symm.trans (hji7z h_)
      have H' := aM H
      clear H
      have p236 : 0 ≤ (x4_1 : Int) := of_decide_eq_true (by assumption)
      have q236 : x4_1 < (l0.length : Int) := of_decide_eq_true (by assumption)
      obtain ⟨ad236, e236, hx236_0⟩ := Kd.at_bool HR0.out x4_1 p236 q236
      (try rw [← Nbq4.out] at hx236_0)
      cases e236
      replace p236 := eq_true p236
      replace q236 := eq_true q236
      go_wp2
      go_roundg k1
      case measure => have := HK1.out; omega
      case rel => exact ⟨(wrap64 (x3_1 + (ji7))), (wrap64 (x4_1 + 1)), (by first | rfl | (simp; done) | (simp only [← hji7] <;> (first | rfl | simp)) | (simp [*]; done)), (by first | rfl | (simp; done) | (simp [*]; done)), H', ⟨by have := HK1.out; omega⟩, by repeat (first | exact Drawn0.refl _ | apply Drawn0.step)⟩
     ·replace c5 := Bool.eq_false_iff.mpr c5
      subst c5
      have H1 : (commodatumref12_Number.l0 k1 l0 x3_1 (wrap64 (x4_1 + 1))) = some r := by rw [if_neg (show ¬ (false = true) by decide)] at H; exact H
      clear H
      have H := H1
      clear H1
      have H' := aM H
      clear H
      have p236 : 0 ≤ (x4_1 : Int) := of_decide_eq_true (by assumption)
      have q236 : x4_1 < (l0.length : Int) := of_decide_eq_true (by assumption)
      obtain ⟨ad236, e236, hx236_0⟩ := Kd.at_bool HR0.out x4_1 p236 q236
      (try rw [← Nbq4.out] at hx236_0)
      cases e236
      replace p236 := eq_true p236
      replace q236 := eq_true q236
      go_wp2
      go_roundg k1
      case measure => have := HK1.out; omega
      case rel => exact ⟨(x3_1), (wrap64 (x4_1 + 1)), (by first | rfl | (simp; done) | (simp [*]; done)), (by first | rfl | (simp; done) | (simp [*]; done)), H', ⟨by have := HK1.out; omega⟩, by repeat (first | exact Drawn0.refl _ | apply Drawn0.step)⟩
    ·rw [if_neg c3] at H
     exact absurd H (by simp)
   ·rw [if_neg c2] at H
    have c2b0 : decide (x4_1 < (l0.length : Int)) = false := decide_eq_false c2
    clear c2
    obtain rfl := Option.some.inj H
    go_wp2
    go_ret
    exact ⟨by first | rfl | (simp; done) | (simp [*]; done), by repeat (first | exact Drawn0.refl _ | apply Drawn0.step)⟩

def commodatumref12_Permutation.l0 : Nat → List Int → Int → Int → List (S67) → Option (List Int)
 | 0, _, _, _, _ => none
 | k + 1, x3, x4, x238000, x238001 => if x4 < (x3.length : Int) then ((commodatumref12_Bits.f k x4 x238000).bind fun t241 => ((commodatumref12_Run.f k x238000 x238001 t241).bind fun t244 => ((commodatumref12_Number.f k t244).bind fun t247 => (if 0 ≤ x4 then (commodatumref12_Permutation.l0 k (x3.set (x4 : Int).toNat t247) (wrap64 (x4 + 1)) x238000 x238001) else (none))))) else (some x3)
def commodatumref12_Permutation.f (k : Nat) (a0_0 : Int) (l0_1 : List (S67)) : Option (List Int) := if 0 ≤ a0_0 then (if 0 ≤ (shl .i64 1 a0_0) then (if (shl .i64 1 a0_0 : Int).toNat ≤ 35184372088832 then (commodatumref12_Permutation.l0 k (List.replicate (shl .i64 1 a0_0 : Int).toNat 0) 0 a0_0 l0_1) else (none)) else (none)) else (none)
def commodatumref12_Permutation.T5 : Bool × List (List Nat × List Nat) := (true, [([], []), ([], []), ([], []), ([], []), ([], []), ([4], [4]), ([3, 5], [3, 5]), ([2, 6, 6], [2, 6]), ([7, 7], [7]), ([0, 1, 0, 1, 2, 3, 4, 5, 6, 7, 8], [0, 1]), ([9, 8, 8, 0, 1, 2, 3, 4, 5, 6, 7, 8], [8, 9])])
def commodatumref12_Permutation.B5 : List Nat := [0, 0, 0, 0, 0, 16, 56, 124, 252, 511, 1023]
theorem commodatumref12_Permutation.tab5 : rtab .any (opsOf Tryd.f32 5) = commodatumref12_Permutation.T5 := by kernel_rfl
theorem commodatumref12_Permutation.bits5 : waitsOk commodatumref12_Permutation.T5.2 commodatumref12_Permutation.B5 = true := by kernel_rfl
set_option maxHeartbeats 8000000 in
set_option maxRecDepth 100000 in
theorem commodatumref12_Permutation.calls (k : Nat) (a0_0 : Int) (A0_1 : Option Addr) (c0_1 : Nat) (l0_1 : List (S67)) (r : List Int) (w : World) (hr0_1 : Kd.C k67 w A0_1 l0_1.length l0_1) (hc0_1 : l0_1.length ≤ c0_1) (h : commodatumref12_Permutation.f k a0_0 l0_1 = some r) :
  Calls Tryd.prog 32 #[.agg #[.int .i64 a0_0, .slice A0_1 l0_1.length c0_1]] w fun e w' => ∃ v0_ : Value, e = .returned (v0_) ∧ Kd.R (Kd.int .i64) 3 w' w.heap.size (fun _ => True) v0_ r ∧ Below w.heap.size w w' := by
 have hu25 := Tryd.underlying25
 have HR0_1 := aM hr0_1
 have HC0_1 := aM hc0_1
 clear hr0_1 hc0_1
 have HB := aM (Below.refl w.heap.size w)
 have H : (if 0 ≤ a0_0 then (if 0 ≤ (shl .i64 1 a0_0) then (if (shl .i64 1 a0_0 : Int).toNat ≤ 35184372088832 then (commodatumref12_Permutation.l0 k (List.replicate (shl .i64 1 a0_0 : Int).toNat 0) 0 a0_0 l0_1) else (none)) else (none)) else (none)) = some r := h
 clear h
 by_cases c2 : 0 ≤ a0_0
 ·rw [if_pos c2] at H
  have c2b0 := eq_true c2
  have c2b1 : decide (0 ≤ a0_0) = true := decide_eq_true c2
  clear c2
  obtain ⟨ji3, hji3⟩ : ∃ j_ : Int, (shl .i64 1 a0_0) = j_ := ⟨_, rfl⟩
  replace H : (if 0 ≤ (ji3) then (if (ji3 : Int).toNat ≤ 35184372088832 then (commodatumref12_Permutation.l0 k (List.replicate (ji3 : Int).toNat 0) 0 a0_0 l0_1) else (none)) else (none)) = some r := by first | (rw [hji3] at H; exact H) | (simp only [hji3] at H ⊢; exact H)
  have hji3_ : (IntKind.i64.wrap (1 * 2 ^ min a0_0.toNat 64)) = ji3 := hji3
  have hji3z : a0_0 ≤ 64 → (IntKind.i64.wrap (1 * 2 ^ a0_0.toNat)) = ji3 := shl_small hji3
  have hji3u : (IntKind.i64.wrap (2 ^ min a0_0.toNat 64)) = ji3 := by have h_ := hji3_; rw [Int.one_mul] at h_; exact h_
  have hji3v : a0_0 ≤ 64 → (IntKind.i64.wrap (2 ^ a0_0.toNat)) = ji3 := fun hle_ => by have h_ := hji3z hle_; rw [Int.one_mul] at h_; exact h_
  have hji3y : (wrap64 (1 * 2 ^ min a0_0.toNat 64)) = ji3 := (i64_w _).symm.trans hji3_
  have hji3x : a0_0 ≤ 64 → (wrap64 (1 * 2 ^ a0_0.toNat)) = ji3 := fun h_ => (i64_w _).symm.trans (hji3z h_)
  by_cases c4 : 0 ≤ (ji3)
  ·rw [if_pos c4] at H
   have c4b0 := eq_true c4
   have c4b1 : decide (0 ≤ (ji3)) = true := decide_eq_true c4
   clear c4
   by_cases c5 : (ji3 : Int).toNat ≤ 35184372088832
   ·rw [if_pos c5] at H
    have c5b0 := eq_true c5
    have c5b1 : decide ((ji3 : Int).toNat ≤ 35184372088832) = true := decide_eq_true c5
    clear c5
    obtain ⟨y238, hy238⟩ : ∃ y_ : List Int, y_ = (List.replicate (ji3 : Int).toNat 0) := ⟨_, rfl⟩
    replace H : (commodatumref12_Permutation.l0 k y238 0 a0_0 l0_1) = some r := by first | (rw [hy238]; with_reducible exact H) | (have H2_ := (Option.bind_some _ _).symm.trans H; rw [hy238]; with_reducible exact H2_) | (have H2_ := (Option.bind_some _ _).symm.trans H; with_reducible exact H2_) | with_reducible exact H | (rw [hy238]; exact H) | exact H
    have Ny238 := aM hy238
    clear hy238
    have H' := aM H
    clear H
    go_enter Tryd.func32, Tryd.ntmps32
    go_wp2_with (first | ((with_reducible refine gate_dst (N := 1) rfl ?_); refine box_event ?hg (N := 1) ?hd (cs := #[.int .i64 a0_0, .slice A0_1 l0_1.length c0_1]) (t := 25) ?hr ?_; (case hd => rfl); (case hg => rfl); (case hr => first | (go_simp; done) | (go_simp; rfl)); intro gb237 hg w6 hbox hb; have n0_ := aM (below_step (by (with_reducible apply_rules [HB.out, pA, pD, pE])) hb); have n1_ := aM (hbox); have n2_ := aM ((by rw [hg]; exact (below_size (by (with_reducible apply_rules [HB.out, pA, pD, pE]))) : w.heap.size ≤ gb237)); have n3_ := aM ((by rw [hg]; exact (below_size (by (with_reducible apply_rules [HB.out, pA, pD, pE]))) : w.heap.size ≤ gb237)); clear HB; have HB := n0_; have B37 := n1_; have GW237 := n2_; have GE237 := n3_; clear n0_ n1_ n2_ n3_; clear hb hbox hg; have hcz7_0 : w6.cell? ⟨gb237, 0, none⟩ = some (.int .i64 a0_0) := (bE B37.out 0).trans rfl; have hcz7_1 : w6.cell? ⟨gb237, 1, none⟩ = some (.slice A0_1 l0_1.length c0_1) := (bE B37.out 1).trans rfl; have hfz7_0 := bF B37.out 0; have hfz7_1 := bF B37.out 1) | ((with_reducible refine gate_dst (N := 8) rfl ?_); refine Kd.R_make (Kd.int .i64) _ 3 rfl (N := 8) rfl 49 _ _ rfl ji3 rfl rfl Tryd.underlying49 (.int .i64 0) 8 info3 rfl (by decide) (by omega) 0 (ok := fun _ => True) (okp := fun _ => True) rfl (fun _ hk => hk) trivial (of_decide_eq_true (by assumption)) (Nat.le_trans (Nat.mul_le_mul_right _ (of_decide_eq_true (by assumption) : ji3.toNat ≤ 35184372088832)) (by omega)) (Below.refl _ _) (Nat.le_refl _) ?_; intro v239 w8 ho9 hb hg_ hnew_; clear hg_ hnew_; (first | rw [← Ny238.out] at ho9 | (simp only [Int.reduceToNat] at ho9; rw [← Ny238.out] at ho9)); have n0_ := aM (Kd.R_lower ho9 (below_size (by (with_reducible apply_rules [HB.out, pA, pD, pE, sT, GE237.out])))); have n1_ := aM (blk_below (g := gb237) (o := .cells #[.int .i64 a0_0, .slice A0_1 l0_1.length c0_1] 25 (0, 0)) (by with_reducible apply_rules [B37.out, bA, bB, bC]) hb); have n2_ := aM (below_step (by (with_reducible apply_rules [HB.out, pA, pD, pE, sT, GE237.out])) hb); clear B37; clear HB; have HO240 := n0_; have B37 := n1_; have HB := n2_; clear n0_ n1_ n2_; clear hb ho9))
    go_loopg [4] k (fun kq v4 w' => ∃ (x3_1 : List Int) (x4_1 : Int), v4 = .int .i64 x4_1 ∧ Aside0 (commodatumref12_Permutation.l0 kq x3_1 x4_1 a0_0 l0_1 = some r) ∧ Aside0 (kq ≤ k) ∧ Aside0 (Kd.R (Kd.int .i64) 3 w' w.heap.size (fun _ => True) v239 x3_1) ∧ Aside0 (w'.heap[gb237]? = some (.cells #[.int .i64 a0_0, (.slice A0_1 l0_1.length c0_1)] 25 (0, 0))) ∧ Aside0 (Below w.heap.size w w'))
    case atStart => exact ⟨(y238), (0), (by first | rfl | (simp; done) | (simp [*]; done)), H', ⟨Nat.le_refl _⟩, ⟨by with_reducible apply_rules [HO240.out, Kd.R_alloc, Kd.R_drewN, Kd.R_drew]⟩, ⟨by with_reducible apply_rules [B37.out, bA, bB, bC]⟩, ⟨by (with_reducible apply_rules [HB.out, pA, pD, pE, sT, GE237.out])⟩⟩
    case round =>
     clear H'
     try clear c2
     try clear c2b0
     try clear c2b1
     try clear p2
     try clear c3
     try clear c4
     try clear c4b0
     try clear c4b1
     try clear c5
     try clear c5b0
     try clear c5b1
     try clear p6
     try clear hcz7_0
     try clear hcz7_1
     try clear hfz7_0
     try clear hfz7_1
     obtain ⟨x3_1, x4_1, rfl, HA, HK1, HO_3, B37, HB⟩ := hrel
     cases gk with
     | zero => exact absurd HA.out (by simp [commodatumref12_Permutation.l0])
     | succ k1 =>
      have H := HA.out
      clear HA
      simp only [commodatumref12_Permutation.l0] at H
      by_cases c10 : x4_1 < (x3_1.length : Int)
      ·rw [if_pos c10] at H
       have c10b0 : decide (x4_1 < (x3_1.length : Int)) = true := decide_eq_true c10
       clear c10
       replace H := Option.bind_eq_some_iff.mp H
       obtain ⟨t241, A110, H⟩ := H
       replace H : ((commodatumref12_Run.f k1 a0_0 l0_1 t241).bind fun t244 => ((commodatumref12_Number.f k1 t244).bind fun t247 => (if 0 ≤ x4_1 then (commodatumref12_Permutation.l0 k1 (x3_1.set (x4_1 : Int).toNat t247) (wrap64 (x4_1 + 1)) a0_0 l0_1) else (none)))) = some r := H
       have A11 := aM A110
       clear A110
       replace H := Option.bind_eq_some_iff.mp H
       obtain ⟨t244, A120, H⟩ := H
       replace H : ((commodatumref12_Number.f k1 t244).bind fun t247 => (if 0 ≤ x4_1 then (commodatumref12_Permutation.l0 k1 (x3_1.set (x4_1 : Int).toNat t247) (wrap64 (x4_1 + 1)) a0_0 l0_1) else (none))) = some r := H
       have A12 := aM A120
       clear A120
       replace H := Option.bind_eq_some_iff.mp H
       obtain ⟨t247, A130, H⟩ := H
       replace H : (if 0 ≤ x4_1 then (commodatumref12_Permutation.l0 k1 (x3_1.set (x4_1 : Int).toNat t247) (wrap64 (x4_1 + 1)) a0_0 l0_1) else (none)) = some r := H
       have A13 := aM A130
       clear A130
       by_cases c14 : 0 ≤ x4_1
       ·rw [if_pos c14] at H
        have c14b0 : decide (0 ≤ x4_1) = true := decide_eq_true c14
        clear c14
        obtain ⟨y248, hy248⟩ : ∃ y_ : List Int, y_ = (x3_1.set (x4_1 : Int).toNat t247) := ⟨_, rfl⟩
        replace H : (commodatumref12_Permutation.l0 k1 y248 (wrap64 (x4_1 + 1)) a0_0 l0_1) = some r := by first | (rw [hy248]; with_reducible exact H) | (have H2_ := (Option.bind_some _ _).symm.trans H; rw [hy248]; with_reducible exact H2_) | (have H2_ := (Option.bind_some _ _).symm.trans H; with_reducible exact H2_) | with_reducible exact H | (rw [hy248]; exact H) | exact H
        have Ny248 := aM hy248
        clear hy248
        have H' := aM H
        clear H
        obtain ⟨Ao16, co16, eo16⟩ := Kd.R_slice HO_3.out
        subst eo16
        try go_wp2
        have n0_ := aM (Kd.R_drew HO_3.out)
        have n1_ := aM (bB B37.out)
        have n2_ := aM (pE HB.out)
        clear HO_3
        clear B37
        clear HB
        have HO_3 := n0_
        have B37 := n1_
        have HB := n2_
        clear n0_ n1_ n2_
        refine start_ (n := 11) (S := fun w' => w'.cell? ⟨gb237, 0, none⟩ = some (.int .i64 a0_0) ∧ w'.cell? ⟨gb237, 1, none⟩ = some (.slice A0_1 l0_1.length c0_1)) (ds := [10]) z0a1 (by kernel_rfl) rfl rfl ⟨(bE B37.out 0).trans rfl, (bE B37.out 1).trans rfl⟩ (fun hHeld => ?_); refine with_tabW commodatumref12_Permutation.tab5 commodatumref12_Permutation.bits5 (fun HT_ HW_ => ?_)
        generalize wr.drew = w17 at HO_3 B37 HB hHeld ⊢
        refine pure_ (i := 0) (N := some 15) (v := ?_) (a' := ?_) z1a1 rfl rfl (any_of HT_.out (by kernel_rfl)) (fun _ _ _ h => h) (Or.inl ⟨by rfl, ?_⟩) ?_ ?_
        rotate_left
        ·intro w'
         go_simp
         with_reducible rfl
        rotate_left
        ·simp only [Act.put, pSa1, i64_w]
         rfl
        refine pure_ (i := 1) (N := some 16) (v := ?_) (a' := ?_) z2a1 rfl rfl (any_of HT_.out (by kernel_rfl)) (fun _ _ _ h => h) (Or.inl ⟨by rfl, ?_⟩) ?_ ?_
        rotate_left
        ·intro w'
         go_simp
         with_reducible rfl
        rotate_left
        ·simp only [Act.put, pSa1, i64_w]
         rfl
        refine pure_ (i := 3) (N := some 18) (v := ?_) (a' := ?_) z3a1 rfl rfl (any_of HT_.out (by kernel_rfl)) (fun _ _ _ h => h) (Or.inl ⟨by rfl, ?_⟩) ?_ ?_
        rotate_left
        ·intro w'
         go_simp
         with_reducible rfl
        rotate_left
        ·simp only [Act.put, pSa1, i64_w]
         rfl
        refine pure_ (i := 4) (N := some 19) (v := ?_) (a' := ?_) z4a1 rfl rfl (any_of HT_.out (by kernel_rfl)) (fun _ _ _ h => h) (Or.inl ⟨by rfl, ?_⟩) ?_ ?_
        rotate_left
        ·intro w'
         go_simp
         with_reducible rfl
        rotate_left
        ·simp only [Act.put, pSa1, i64_w]
         rfl
        refine take_ (i := 2) (N := some 17) (v := ?_) (a' := ?_) z5a1 rfl rfl (take_ofW HT_.out HW_.out (by kernel_rfl)) (fun _ _ _ h => h) (Or.inl ⟨by rfl, ?_⟩) hHeld ?_ ?_
        rotate_left
        ·rintro w' ⟨s0, s1⟩
         go_simp
         with_reducible rfl
        rotate_left
        ·simp only [Act.put, pSa1, i64_w]
         rfl
        refine take_ (i := 5) (N := some 20) (v := ?_) (a' := ?_) z6a1 rfl rfl (take_ofW HT_.out HW_.out (by kernel_rfl)) (fun _ _ _ h => h) (Or.inl ⟨by rfl, ?_⟩) hHeld ?_ ?_
        rotate_left
        ·rintro w' ⟨s0, s1⟩
         go_simp
         with_reducible rfl
        rotate_left
        ·simp only [Act.put, pSa1, i64_w]
         rfl
        refine one_ (i := 6) (N := some 21) z7a1 rfl rfl (one_of HT_.out (by kernel_rfl)) (by decide) (fun K hK => ?_)
        refine goes_ Tryd.func70 (by kernel_rfl) rfl #[.int .i64 x4_1, .int .i64 a0_0] (by rfl) rfl rfl (by (try simp only [List.map_toArray, List.map_cons, List.map_nil]); first | done | rfl | (simp only [List.length_drop, List.length_take]; rfl)) ?_
        with_reducible refine (commodatumref12_Bits.calls k1 x4_1 a0_0 t241 _ A11.out).mono ?_
        rintro e w18 ⟨v242, rfl, ho0, hb⟩
        refine ⟨_, rfl, ?_⟩
        have n0_ := aM (Kd.R_below (by with_reducible apply_rules [HO_3.out, Kd.R_alloc, Kd.R_drewN, Kd.R_drew]) hb)
        have n1_ := aM (Kd.R_lower ho0 (below_size (by (with_reducible apply_rules [HB.out, pA, pD, pE, sT, GE237.out]))))
        have n2_ := aM (blk_below (g := gb237) (o := .cells #[.int .i64 a0_0, .slice A0_1 l0_1.length c0_1] 25 (0, 0)) (by with_reducible apply_rules [B37.out, bA, bB, bC]) hb)
        have n3_ := aM (below_step (by (with_reducible apply_rules [HB.out, pA, pD, pE, sT, GE237.out])) hb)
        clear HO_3
        clear B37
        clear HB
        have HO_3 := n0_
        have HO243 := n1_
        have B37 := n2_
        have HB := n3_
        clear n0_ n1_ n2_ n3_
        (try clear hb)
        (try clear hb2)
        (try clear hk)
        (try clear hi)
        (try clear ho0)
        obtain ⟨Ao19, co19, eo19⟩ := Kd.R_slice HO243.out
        (first | subst eo19 | (injection eo19 with f1_ f2_ f3_; have f4_ := f1_.symm; have f5_ := f3_.symm; clear f1_ f2_ f3_; subst f4_; subst f5_))
        refine hK.out _ _ ⟨(bE B37.out 0).trans rfl, (bE B37.out 1).trans rfl⟩ (fun hHeld => ?_)
        clear hK K
        refine norm_ (a' := ?_) ?_ ?_
        rotate_left
        ·show Act.put _ (some 21) _ = _
         simp only [Act.put, pSa1, i64_w]
         rfl
        refine one_ (i := 7) (N := some 22) z8a1 rfl rfl (one_of HT_.out (by kernel_rfl)) (by decide) (fun K hK => ?_)
        refine goes_ Tryd.func40 (by kernel_rfl) rfl #[.agg #[.int .i64 a0_0, .slice A0_1 l0_1.length c0_1], .slice Ao19 t241.length co19] (by rfl) rfl rfl (by (try simp only [List.map_toArray, List.map_cons, List.map_nil]); first | done | rfl | (simp only [List.length_drop, List.length_take]; rfl)) ?_
        with_reducible refine (commodatumref12_Run.calls k1 a0_0 _ _ l0_1 _ _ t241 t244 _ ?side1 ?side2 ?side3 ?side4 A12.out).mono ?_
        (case side1 => repeat (first | exact (Kd.C_below HR0_1.out HB.out) | (with_reducible refine Kd.C_alloc ?_ _) | (with_reducible refine Kd.C_drewN ?_ _) | (with_reducible refine Kd.C_drew ?_)))
        (case side2 => exact HC0_1.out)
        (case side3 => repeat (first | exact (Kd.R_reads' HO243.out).2.2 | (with_reducible refine Kd.C_alloc ?_ _) | (with_reducible refine Kd.C_drewN ?_ _) | (with_reducible refine Kd.C_drew ?_)))
        (case side4 => exact (Kd.R_reads' HO243.out).2.1)
        rintro e w20 ⟨v245, rfl, ho0, hb⟩
        refine ⟨_, rfl, ?_⟩
        have n0_ := aM (Kd.R_below (by with_reducible apply_rules [HO_3.out, Kd.R_alloc, Kd.R_drewN, Kd.R_drew]) hb)
        have n1_ := aM (Kd.R_elder' (by with_reducible apply_rules [HO243.out, Kd.R_alloc, Kd.R_drewN, Kd.R_drew]) (Kd.R_base ho0) hb)
        have n2_ := aM (Kd.R_lower (Kd.R_new' ho0 (Kd.R_lt (by with_reducible apply_rules [HO243.out, Kd.R_alloc, Kd.R_drewN, Kd.R_drew]))) (below_size (by (with_reducible apply_rules [HB.out, pA, pD, pE, sT, GE237.out]))))
        have n3_ := aM (blk_below (g := gb237) (o := .cells #[.int .i64 a0_0, .slice A0_1 l0_1.length c0_1] 25 (0, 0)) (by with_reducible apply_rules [B37.out, bA, bB, bC]) hb)
        have n4_ := aM (below_step (by (with_reducible apply_rules [HB.out, pA, pD, pE, sT, GE237.out])) hb)
        clear HO_3
        clear HO243
        clear B37
        clear HB
        have HO_3 := n0_
        have HO243 := n1_
        have HO246 := n2_
        have B37 := n3_
        have HB := n4_
        clear n0_ n1_ n2_ n3_ n4_
        (try clear hb)
        (try clear hb2)
        (try clear hk)
        (try clear hi)
        (try clear ho0)
        obtain ⟨Ao21, co21, eo21⟩ := Kd.R_slice HO246.out
        (first | subst eo21 | (injection eo21 with f1_ f2_ f3_; have f4_ := f1_.symm; have f5_ := f3_.symm; clear f1_ f2_ f3_; subst f4_; subst f5_))
        refine hK.out _ _ ⟨(bE B37.out 0).trans rfl, (bE B37.out 1).trans rfl⟩ (fun hHeld => ?_)
        clear hK K
        refine norm_ (a' := ?_) ?_ ?_
        rotate_left
        ·show Act.put _ (some 22) _ = _
         simp only [Act.put, pSa1, i64_w]
         rfl
        refine one_ (i := 8) (N := some 23) z9a1 rfl rfl (one_of HT_.out (by kernel_rfl)) (by decide) (fun K hK => ?_)
        refine goes_ Tryd.func69 (by kernel_rfl) rfl #[.slice Ao21 t244.length co21] (by rfl) rfl rfl (by (try simp only [List.map_toArray, List.map_cons, List.map_nil]); first | done | rfl | (simp only [List.length_drop, List.length_take]; rfl)) ?_
        with_reducible refine (commodatumref12_Number.calls k1 _ _ t244 t247 _ ?side1 ?side2 A13.out).mono ?_
        (case side1 => repeat (first | exact (Kd.R_reads' HO246.out).2.2 | (with_reducible refine Kd.C_alloc ?_ _) | (with_reducible refine Kd.C_drewN ?_ _) | (with_reducible refine Kd.C_drew ?_)))
        (case side2 => exact (Kd.R_reads' HO246.out).2.1)
        rintro e w' ⟨rfl, ⟨nd, rfl⟩⟩
        refine ⟨_, rfl, ?_⟩
        have p15 : 0 ≤ (x4_1 : Int) := of_decide_eq_true (by assumption)
        have q15 : (x4_1 : Int) < ((x3_1.length : Int) : Int) := of_decide_eq_true (by assumption)
        obtain ⟨go15, co15, eo15, gb15, gl15, cl15, HG15⟩ := Kd.R_form HO_3.out (by omega)
        (first | cases eo15 | (injection eo15 with ea_ en_ ec_; (first | subst ea_ | (injection ea_ with ea_; subst ea_)); subst ec_; clear en_))
        have GB15 := aM gb15
        have GG15 := aM HG15
        clear gb15 gl15 HG15
        obtain ⟨hx15_0, hf15_0⟩ := Kd.R_celln 0 HO_3.out (x4_1 : Int) p15 q15
        replace p15 := eq_true p15
        replace q15 := eq_true q15
        have HP22 := Kd.R_putn HO_3.out (x4_1 : Int) t247
        rw [← Ny248.out] at HP22
        have HQ22 := aM HP22
        clear HP22
        refine hK.out _ _ ⟨(bE B37.out 0).trans rfl, (bE B37.out 1).trans rfl⟩ (fun hHeld => ?_)
        clear hK K
        refine norm_ (a' := ?_) ?_ ?_
        rotate_left
        ·show Act.put _ (some 23) _ = _
         simp only [Act.put, pSa1, i64_w]
         rfl
        refine pure_ (i := 9) (N := some 24) (v := ?_) (a' := ?_) z10a1 rfl rfl (any_of HT_.out (by kernel_rfl)) (fun _ _ _ h => h) (Or.inl ⟨by rfl, ?_⟩) ?_ ?_
        rotate_left
        ·intro w'
         go_simp
         with_reducible rfl
        rotate_left
        ·simp only [Act.put, pSa1, i64_w]
         rfl
        refine last_ (i := 10) (N := none) z11a1 rfl rfl (one_of HT_.out (by kernel_rfl)) (by decide) (fun K hK => ?_)
        refine skip_ (w1 := ?_) (by rfl) rfl ?_ ?_
        rotate_left
        ·go_simp
         rfl
        refine hK.out _ _ ?_
        clear hK K
        refine done_ (done_of HT_.out (by kernel_rfl)) ?_
        try go_wp2
        go_roundg k1
        case measure => have := HK1.out; omega
        case rel => exact ⟨(y248), (wrap64 (x4_1 + 1)), (by first | rfl | (simp; done) | (simp [*]; done)), H', ⟨by have := HK1.out; omega⟩, ⟨by with_reducible apply_rules [HQ22.out, Kd.R_alloc, Kd.R_drewN, Kd.R_drew]⟩, ⟨by (with_reducible repeat (first | refine bA ?_ _ | refine bB ?_ | refine bC ?_ _)); refine blk_far ?_ (by have h_ := Kd.R_ne HO_3.out B37.out (by decide); intro e_; exact h_ (by rw [e_]; rfl)) _; with_reducible apply_rules [B37.out, bA, bB, bC]⟩, ⟨by (with_reducible apply_rules [HB.out, pA, pD, pE, sT, GB15.out, GE237.out])⟩⟩
       ·rw [if_neg c14] at H
        exact absurd H (by simp)
      ·rw [if_neg c10] at H
       have c10b0 : decide (x4_1 < (x3_1.length : Int)) = false := decide_eq_false c10
       clear c10
       obtain rfl := Option.some.inj H
       obtain ⟨Ao23, co23, eo23⟩ := Kd.R_slice HO_3.out
       subst eo23
       go_wp2
       go_ret
       exact ⟨_, by first | rfl | (simp [errW_none, errW_some] <;> rfl) | (simp only [← hji3]; first | rfl | (simp [errW_none, errW_some] <;> rfl)) | (simp [*, errW_none, errW_some] <;> rfl), by with_reducible apply_rules [HO_3.out, Kd.R_alloc, Kd.R_drewN, Kd.R_drew], by (with_reducible apply_rules [HB.out, pA, pD, pE, sT, GE237.out])⟩
   ·rw [if_neg c5] at H
    exact absurd H (by simp)
  ·rw [if_neg c4] at H
   exact absurd H (by simp)
 ·rw [if_neg c2] at H
  exact absurd H (by simp)

end Go.Proofs.YthfhnkpipdbekaaDoor.Ta
