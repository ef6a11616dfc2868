-- CUT by a program of this session: what the claim does not use is left out
import Derived.Test.YthfhnkpipdbekaaDoorTax0
import Derived.Test.YthfhnkpipdbekaaDoorTax5
import Derived.Test.YthfhnkpipdbekaaDoorTax6
namespace Go.Proofs.YthfhnkpipdbekaaDoor.Ta
open Go.Proofs.YthfhnkpipdbekaaDoor.Ua
open Go.Proofs.YthfhnkpipdbekaaDoor.Giv
open Go.RowKit Go.Proofs.YthfhnkpipdbekaaDoorW.PrintWords Go.Proofs.YthfhnkpipdbekaaDoorW.PrintLast Go.Proofs.YthfhnkpipdbekaaDoorW.PrintMore
attribute [local go_sem] max2_int min2_int max_two min_two max_three min_three max_four min_four   -- for this text's walks alone
set_option linter.unusedVariables false
set_option linter.unusedSimpArgs false

mutual
def commodatumref12_Restores.l0 : Nat → List Bool → Int → Int → List (S67) → Option (List Bool)
 | 0, _, _, _, _ => none
 | k + 1, x3, x4, x221000, x221001 => if x4 < x221000 then (if 0 ≤ x4 then (if x4 < (x3.length : Int) then (commodatumref12_Restores.l0 k (x3.set (x4 : Int).toNat true) (wrap64 (x4 + 1)) x221000 x221001) else (none)) else (none)) else (commodatumref12_Restores.l1 k x3 0 x221000 x221001)
def commodatumref12_Restores.l1 : Nat → List Bool → Int → Int → List (S67) → Option (List Bool)
 | 0, _, _, _, _ => none
 | k + 1, x3, x5, x221000, x221001 => if 0 ≤ x221000 then (if x5 < (shl .i64 1 x221000) then ((commodatumref12_Bits.f k x5 x221000).bind fun t225 => ((commodatumref12_Run.f k x221000 x221001 t225).bind fun t228 => (commodatumref12_Restores.l2 k x3 x5 t225 t228 0 x221000 x221001))) else (some x3)) else (none)
def commodatumref12_Restores.l2 : Nat → List Bool → Int → List Bool → List Bool → Int → Int → List (S67) → Option (List Bool)
 | 0, _, _, _, _, _, _, _ => none
 | k + 1, x3, x5, x6, x7, x8, x221000, x221001 => if x8 < x221000 then (if 0 ≤ x8 then (if x8 < (x3.length : Int) then (if rdOf false x3 x8 = true then (if x8 < (x6.length : Int) then (if x8 < (x7.length : Int) then (commodatumref12_Restores.l2 k (x3.set (x8 : Int).toNat ((rdOf false x6 x8) == (rdOf false x7 x8))) x5 x6 x7 (wrap64 (x8 + 1)) x221000 x221001) else (none)) else (none)) else (commodatumref12_Restores.l2 k (x3.set (x8 : Int).toNat false) x5 x6 x7 (wrap64 (x8 + 1)) x221000 x221001)) else (none)) else (none)) else (commodatumref12_Restores.l1 k x3 (wrap64 (x5 + 1)) x221000 x221001)
end
def commodatumref12_Restores.f (k : Nat) (a0_0 : Int) (l0_1 : List (S67)) : Option (List Bool) := if 0 ≤ a0_0 then (if (a0_0 : Int).toNat ≤ 281474976710656 then (commodatumref12_Restores.l0 k (List.replicate (a0_0 : Int).toNat false) 0 a0_0 l0_1) else (none)) else (none)
def commodatumref12_Restores.T14 : Bool × List (List Nat × List Nat) := (true, [([], []), ([], []), ([], []), ([], []), ([2, 3], [2, 3]), ([4], [4]), ([5], [5]), ([6], [6]), ([6], [6]), ([7, 8, 6], [6, 7, 8]), ([9, 6], [6, 9]), ([6], [6]), ([6], [6]), ([11, 12, 6], [6, 11, 12]), ([13, 6], [6, 13]), ([10, 14, 6], [6, 10, 14]), ([6, 15], [6, 15]), ([0, 1, 0, 1, 2, 3, 4, 5, 6, 7, 8, 9, 10, 11, 12, 13, 14, 15, 16], [0, 1]), ([17, 16, 6, 0, 1, 2, 3, 4, 5, 6, 7, 8, 9, 10, 11, 12, 13, 14, 15, 16], [16, 17])])
def commodatumref12_Restores.B14 : List Nat := [0, 0, 0, 0, 12, 28, 60, 124, 124, 508, 1020, 124, 124, 6268, 14460, 32764, 65532, 131071, 262143]
theorem commodatumref12_Restores.tab14 : rtab .any (opsOf Tryd.f33 14) = commodatumref12_Restores.T14 := by kernel_rfl
theorem commodatumref12_Restores.bits14 : waitsOk commodatumref12_Restores.T14.2 commodatumref12_Restores.B14 = true := by kernel_rfl
theorem pSa0 {α : Type} : (∀ (l : List α) (i : Nat) (a : α), l.toArray.setIfInBounds i a = (l.set i a).toArray) ∧ (∀ (l : List α) (x y : α), (x :: l).set 0 y = y :: l) ∧ (∀ (l : List α) (x y : α) (n : Nat), (x :: l).set (n + 1) y = x :: l.set n y) :=
 ⟨fun _ _ _ => List.setIfInBounds_toArray .., fun _ _ _ => rfl, fun _ _ _ _ => rfl⟩
open Go.Proofs.YthfhnkpipdbekaaDoorW.PrintWords renaming Kd.R_alloc → rA, Kd.R_drewN → rB, Kd.R_drew → rC, blk_drewN → bA, blk_drew → bB, blk_alloc → bC, below_set → sT, Aside0.mk → aM, pw_below_drewN → pD, below_drew1 → pE, below_alloc → pA, blk_cell → bE, blk_frozen → bF
abbrev z0a0 : Array Bool := #[false, false, false, false, false, false, false, false, false, false, false, false, false, false, false, false, false, false, false]
abbrev z1a0 : Array Bool := #[true, false, false, false, false, false, false, false, false, false, false, false, false, false, false, false, false, false, false]
abbrev z2a0 : Array Bool := #[true, true, false, false, false, false, false, false, false, false, false, false, false, false, false, false, false, false, false]
abbrev z3a0 : Array Bool := #[true, true, true, false, false, false, false, false, false, false, false, false, false, false, false, false, false, false, false]
abbrev z4a0 : Array Bool := #[true, true, true, true, false, false, false, false, false, false, false, false, false, false, false, false, false, false, false]
abbrev z5a0 : Array Bool := #[true, true, true, true, true, false, false, false, false, false, false, false, false, false, false, false, false, false, false]
abbrev z6a0 : Array Bool := #[true, true, true, true, true, true, false, false, false, false, false, false, false, false, false, false, false, false, false]
abbrev z7a0 : Array Bool := #[true, true, true, true, true, true, true, false, false, false, false, false, false, false, false, false, false, false, false]
abbrev z8a0 : Array Bool := #[true, true, true, true, true, true, true, true, false, false, false, false, false, false, false, false, false, false, false]
abbrev z9a0 : Array Bool := #[true, true, true, true, true, true, true, true, true, false, false, false, false, false, false, false, false, false, false]
abbrev z10a0 : Array Bool := #[true, true, true, true, true, true, true, true, true, true, false, false, false, false, false, false, false, false, false]
abbrev z11a0 : Array Bool := #[true, true, true, true, true, true, true, true, true, true, false, true, false, false, false, false, false, false, false]
abbrev z12a0 : Array Bool := #[true, true, true, true, true, true, true, true, true, true, false, true, true, false, false, false, false, false, false]
abbrev z13a0 : Array Bool := #[true, true, true, true, true, true, true, true, true, true, false, true, true, true, false, false, false, false, false]
abbrev z14a0 : Array Bool := #[true, true, true, true, true, true, true, true, true, true, true, true, true, true, false, false, false, false, false]
abbrev z15a0 : Array Bool := #[true, true, true, true, true, true, true, true, true, true, true, true, true, true, true, false, false, false, false]
abbrev z16a0 : Array Bool := #[true, true, true, true, true, true, true, true, true, true, true, true, true, true, true, true, false, false, false]
abbrev z17a0 : Array Bool := #[true, true, true, true, true, true, true, true, true, true, true, true, true, true, true, true, true, false, false]
abbrev z18a0 : Array Bool := #[true, true, true, true, true, true, true, true, true, true, true, true, true, true, true, true, true, true, false]
abbrev z19a0 : Array Bool := #[true, true, true, true, true, true, true, true, true, true, true, true, true, true, true, true, true, true, true]
abbrev z20a0 : Array Bool := #[true, true, true, true, true, true, true, true, true, true, true, false, false, false, false, false, false, false, false]
abbrev z21a0 : Array Bool := #[true, true, true, true, true, true, true, true, true, true, true, true, false, false, false, false, false, false, false]
abbrev z22a0 : Array Bool := #[true, true, true, true, true, true, true, true, true, true, true, true, true, false, false, false, false, false, false]
set_option maxHeartbeats 8000000 in
set_option maxRecDepth 100000 in
theorem commodatumref12_Restores.calls (k : Nat) (a0_0 : Int) (A0_1 : Option Addr) (c0_1 : Nat) (l0_1 : List (S67)) (r : List Bool) (w : World) (hr0_1 : Kd.C k67 w A0_1 l0_1.length l0_1) (hc0_1 : l0_1.length ≤ c0_1) (h : commodatumref12_Restores.f k a0_0 l0_1 = some r) :
  Calls Tryd.prog 33 #[.agg #[.int .i64 a0_0, .slice A0_1 l0_1.length c0_1]] w fun e w' => ∃ v0_ : Value, e = .returned (v0_) ∧ Kd.R Kd.bool 4 w' w.heap.size (fun _ => True) v0_ r ∧ Below w.heap.size w w' := by
 have hu25 := Tryd.underlying25
 have HR0_1 := aM hr0_1
 have HC0_1 := aM hc0_1
 clear hr0_1 hc0_1
 have HB := aM (Below.refl w.heap.size w)
 have H : (if 0 ≤ a0_0 then (if (a0_0 : Int).toNat ≤ 281474976710656 then (commodatumref12_Restores.l0 k (List.replicate (a0_0 : Int).toNat false) 0 a0_0 l0_1) else (none)) else (none)) = some r := h
 clear h
 by_cases c2 : 0 ≤ a0_0
 ·rw [if_pos c2] at H
  have c2b0 := eq_true c2
  have c2b1 : decide (0 ≤ a0_0) = true := decide_eq_true c2
  clear c2
  by_cases c3 : (a0_0 : Int).toNat ≤ 281474976710656
  ·rw [if_pos c3] at H
   have c3b0 := eq_true c3
   have c3b1 : decide ((a0_0 : Int).toNat ≤ 281474976710656) = true := decide_eq_true c3
   clear c3
   obtain ⟨y221, hy221⟩ : ∃ y_ : List Bool, y_ = (List.replicate (a0_0 : Int).toNat false) := ⟨_, rfl⟩
   replace H : (commodatumref12_Restores.l0 k y221 0 a0_0 l0_1) = some r := by first | (rw [hy221]; with_reducible exact H) | (have H2_ := (Option.bind_some _ _).symm.trans H; rw [hy221]; with_reducible exact H2_) | (have H2_ := (Option.bind_some _ _).symm.trans H; with_reducible exact H2_) | with_reducible exact H | (rw [hy221]; exact H) | exact H
   have Ny221 := aM hy221
   clear hy221
   have H' := aM H
   clear H
   go_enter Tryd.func33, Tryd.ntmps33
   go_wp2_with (first | ((with_reducible refine gate_dst (N := 1) rfl ?_); refine box_event ?hg (N := 1) ?hd (cs := #[.int .i64 a0_0, .slice A0_1 l0_1.length c0_1]) (t := 25) ?hr ?_; (case hd => rfl); (case hg => rfl); (case hr => first | (go_simp; done) | (go_simp; rfl)); intro gb220 hg w4 hbox hb; have n0_ := aM (below_step (by (with_reducible apply_rules [HB.out, pA, pD, pE])) hb); have n1_ := aM (hbox); have n2_ := aM ((by rw [hg]; exact (below_size (by (with_reducible apply_rules [HB.out, pA, pD, pE]))) : w.heap.size ≤ gb220)); have n3_ := aM ((by rw [hg]; exact (below_size (by (with_reducible apply_rules [HB.out, pA, pD, pE]))) : w.heap.size ≤ gb220)); clear HB; have HB := n0_; have B20 := n1_; have GW220 := n2_; have GE220 := n3_; clear n0_ n1_ n2_ n3_; clear hb hbox hg; have hcz5_0 : w4.cell? ⟨gb220, 0, none⟩ = some (.int .i64 a0_0) := (bE B20.out 0).trans rfl; have hcz5_1 : w4.cell? ⟨gb220, 1, none⟩ = some (.slice A0_1 l0_1.length c0_1) := (bE B20.out 1).trans rfl; have hfz5_0 := bF B20.out 0; have hfz5_1 := bF B20.out 1) | ((with_reducible refine gate_dst (N := 11) rfl ?_); refine Kd.R_make Kd.bool _ 4 rfl (N := 11) rfl 34 _ _ rfl a0_0 rfl rfl Tryd.underlying34 (.bool false) 1 info4 rfl (by decide) (by omega) false (ok := fun _ => True) (okp := fun _ => True) rfl (fun _ hk => hk) trivial (of_decide_eq_true (by assumption)) (Nat.le_trans (Nat.mul_le_mul_right _ (of_decide_eq_true (by assumption) : a0_0.toNat ≤ 281474976710656)) (by omega)) (Below.refl _ _) (Nat.le_refl _) ?_; intro v222 w6 ho7 hb hg_ hnew_; clear hg_ hnew_; (first | rw [← Ny221.out] at ho7 | (simp only [Int.reduceToNat] at ho7; rw [← Ny221.out] at ho7)); have n0_ := aM (Kd.R_lower ho7 (below_size (by (with_reducible apply_rules [HB.out, pA, pD, pE, sT, GE220.out])))); have n1_ := aM (blk_below (g := gb220) (o := .cells #[.int .i64 a0_0, .slice A0_1 l0_1.length c0_1] 25 (0, 0)) (by with_reducible apply_rules [B20.out, bA, bB, bC]) hb); have n2_ := aM (below_step (by (with_reducible apply_rules [HB.out, pA, pD, pE, sT, GE220.out])) hb); clear B20; clear HB; have HO223 := n0_; have B20 := n1_; have HB := n2_; clear n0_ n1_ n2_; clear hb ho7))
   go_loopg [4] k (fun kq v4 w' => ∃ (x3_1 : List Bool) (x4_1 : Int), v4 = .int .i64 x4_1 ∧ Aside0 (commodatumref12_Restores.l0 kq x3_1 x4_1 a0_0 l0_1 = some r) ∧ Aside0 (kq ≤ k) ∧ Aside0 (Kd.R Kd.bool 4 w' w.heap.size (fun _ => True) v222 x3_1) ∧ Aside0 (w'.heap[gb220]? = some (.cells #[.int .i64 a0_0, (.slice A0_1 l0_1.length c0_1)] 25 (0, 0))) ∧ Aside0 (Below w.heap.size w w'))
   case atStart => exact ⟨(y221), (0), (by first | rfl | (simp; done) | (simp [*]; done)), H', ⟨Nat.le_refl _⟩, ⟨by with_reducible apply_rules [HO223.out, rA, rB, rC]⟩, ⟨by with_reducible apply_rules [B20.out, bA, bB, bC]⟩, ⟨by (with_reducible apply_rules [HB.out, pA, pD, pE, sT, GE220.out])⟩⟩
   case round =>
    clear H'
    try clear c2
    try clear c2b0
    try clear c2b1
    try clear p2
    try clear c3
    try clear c3b0
    try clear c3b1
    try clear hcz5_0
    try clear hcz5_1
    try clear hfz5_0
    try clear hfz5_1
    obtain ⟨x3_1, x4_1, rfl, HA, HK1, HO_3, B20, HB⟩ := hrel
    cases gk with
    | zero => exact absurd HA.out (by simp [commodatumref12_Restores.l0])
    | succ k1 =>
     have H := HA.out
     clear HA
     simp only [commodatumref12_Restores.l0] at H
     by_cases c8 : x4_1 < a0_0
     ·rw [if_pos c8] at H
      have c8b0 : decide (x4_1 < a0_0) = true := decide_eq_true c8
      clear c8
      by_cases c9 : 0 ≤ x4_1
      ·rw [if_pos c9] at H
       have c9b0 : decide (0 ≤ x4_1) = true := decide_eq_true c9
       clear c9
       by_cases c10 : x4_1 < (x3_1.length : Int)
       ·rw [if_pos c10] at H
        have c10b0 : decide (x4_1 < (x3_1.length : Int)) = true := decide_eq_true c10
        clear c10
        obtain ⟨y224, hy224⟩ : ∃ y_ : List Bool, y_ = (x3_1.set (x4_1 : Int).toNat true) := ⟨_, rfl⟩
        replace H : (commodatumref12_Restores.l0 k1 y224 (wrap64 (x4_1 + 1)) a0_0 l0_1) = some r := by first | (rw [hy224]; with_reducible exact H) | (have H2_ := (Option.bind_some _ _).symm.trans H; rw [hy224]; with_reducible exact H2_) | (have H2_ := (Option.bind_some _ _).symm.trans H; with_reducible exact H2_) | with_reducible exact H | (rw [hy224]; exact H) | exact H
        have Ny224 := aM hy224
        clear hy224
        have H' := aM H
        clear H
        have hcz12_0 : wr.cell? ⟨gb220, 0, none⟩ = some (.int .i64 a0_0) := (bE B20.out 0).trans rfl
        have hcz12_1 : wr.cell? ⟨gb220, 1, none⟩ = some (.slice A0_1 l0_1.length c0_1) := (bE B20.out 1).trans rfl
        have hfz12_0 := bF B20.out 0
        have hfz12_1 := bF B20.out 1
        have p11 : 0 ≤ (x4_1 : Int) := of_decide_eq_true (by assumption)
        have q11 : (x4_1 : Int) < ((x3_1.length : Int) : Int) := of_decide_eq_true (by assumption)
        obtain ⟨go11, co11, eo11, gb11, gl11, cl11, HG11⟩ := Kd.R_form HO_3.out (by omega)
        (first | cases eo11 | (injection eo11 with ea_ en_ ec_; (first | subst ea_ | (injection ea_ with ea_; subst ea_)); subst ec_; clear en_))
        have GB11 := aM gb11
        have GG11 := aM HG11
        clear gb11 gl11 HG11
        obtain ⟨hx11_0, hf11_0⟩ := Kd.R_celln false HO_3.out (x4_1 : Int) p11 q11
        replace p11 := eq_true p11
        replace q11 := eq_true q11
        have HP13 := Kd.R_putg HO_3.out (x4_1 : Int) true
        go_wp2_with (first | ((with_reducible refine gate_store (t := 4) (p := 20) rfl ?_); refine store_event (t := 4) (p := 20) (v := ?vo_w14) (w1 := (wr.setCell ⟨go11, (x4_1 : Int).toNat, none⟩ (.bool true))) ?hg ?ho ?hn ?hr ?_; (case ho => rfl); (case hg => rfl); (case hn => rfl); (case hr => first | (go_simp; done) | (go_simp; rfl)); intro w14 hw; have hg : wr.grownBy w14 (some go11) := (by rw [hw]; exact HP13.2); have hp_ : Kd.R Kd.bool 4 w14 w.heap.size (fun _ => True) (.slice (some ⟨go11, 0, none⟩) x3_1.length co11) y224 := (by rw [hw, Ny224.out]; exact HP13.1); clear HP13; have n0_ := aM (hp_); have n1_ := aM (blk_grown (g := gb220) (o := .cells #[.int .i64 a0_0, .slice A0_1 l0_1.length c0_1] 25 (0, 0)) (by with_reducible apply_rules [B20.out, bA, bB, bC]) hg (Kd.R_ne HO_3.out B20.out (by decide))); have n2_ := aM ((by rw [hw]; exact sT (HB.out) GB11.out : Below w.heap.size w w14)); clear HO_3; clear B20; clear HB; have HO_3 := n0_; have B20 := n1_; have HB := n2_; clear n0_ n1_ n2_; clear hg hw hp_))
        go_roundg k1
        case measure => have := HK1.out; omega
        case rel => exact ⟨(y224), (wrap64 (x4_1 + 1)), (by first | rfl | (simp; done) | (simp [*]; done)), H', ⟨by have := HK1.out; omega⟩, ⟨by with_reducible apply_rules [HO_3.out, rA, rB, rC]⟩, ⟨by with_reducible apply_rules [B20.out, bA, bB, bC]⟩, ⟨by (with_reducible apply_rules [HB.out, pA, pD, pE, sT, GE220.out])⟩⟩
       ·rw [if_neg c10] at H
        exact absurd H (by simp)
      ·rw [if_neg c9] at H
       exact absurd H (by simp)
     ·rw [if_neg c8] at H
      have c8b0 : decide (x4_1 < a0_0) = false := decide_eq_false c8
      clear c8
      have H' := aM H
      clear H
      have hcz15_0 : wr.cell? ⟨gb220, 0, none⟩ = some (.int .i64 a0_0) := (bE B20.out 0).trans rfl
      have hcz15_1 : wr.cell? ⟨gb220, 1, none⟩ = some (.slice A0_1 l0_1.length c0_1) := (bE B20.out 1).trans rfl
      have hfz15_0 := bF B20.out 0
      have hfz15_1 := bF B20.out 1
      go_wp2
      go_loopg [5] k1 (fun kq v5 w' => ∃ (x3_2 : List Bool) (x5_2 : Int), v5 = .int .i64 x5_2 ∧ Aside0 (commodatumref12_Restores.l1 kq x3_2 x5_2 a0_0 l0_1 = some r) ∧ Aside0 (kq ≤ k1) ∧ Aside0 (Kd.R Kd.bool 4 w' w.heap.size (fun _ => True) v222 x3_2) ∧ Aside0 (w'.heap[gb220]? = some (.cells #[.int .i64 a0_0, (.slice A0_1 l0_1.length c0_1)] 25 (0, 0))) ∧ Aside0 (Below w.heap.size w w'))
      case atStart => exact ⟨(x3_1), (0), (by first | rfl | (simp; done) | (simp [*]; done)), H', ⟨Nat.le_refl _⟩, ⟨by with_reducible apply_rules [HO_3.out, rA, rB, rC]⟩, ⟨by with_reducible apply_rules [B20.out, bA, bB, bC]⟩, ⟨by (with_reducible apply_rules [HB.out, pA, pD, pE, sT, GE220.out])⟩⟩
      case round =>
       clear H'
       try clear c1
       try clear p1
       try clear q1
       try clear hx1
       try clear hf1
       try clear c2
       try clear c2b0
       try clear c2b1
       try clear p2
       try clear c3
       try clear c3b0
       try clear c3b1
       try clear p6
       try clear c8
       try clear c8b0
       try clear c9
       try clear c9b0
       try clear c10
       try clear c10b0
       try clear p11
       try clear q11
       try clear hx11
       try clear hf11
       try clear hcz12_0
       try clear hcz12_1
       try clear hcz15_0
       try clear hcz15_1
       try clear hcz5_0
       try clear hcz5_1
       try clear hfz12_0
       try clear hfz12_1
       try clear hfz15_0
       try clear hfz15_1
       try clear hfz5_0
       try clear hfz5_1
       try clear hx11_0
       try clear p11
       try clear p2
       try clear q11
       obtain ⟨x3_2, x5_2, rfl, HA, HK2, HO_3, B20, HB⟩ := hrel
       cases gk with
       | zero => exact absurd HA.out (by simp [commodatumref12_Restores.l1])
       | succ k2 =>
        have H := HA.out
        clear HA
        simp only [commodatumref12_Restores.l1] at H
        by_cases c16 : 0 ≤ a0_0
        ·rw [if_pos c16] at H
         have c16b0 := eq_true c16
         have c16b1 : decide (0 ≤ a0_0) = true := decide_eq_true c16
         clear c16
         obtain ⟨ji17, hji17⟩ : ∃ j_ : Int, (shl .i64 1 a0_0) = j_ := ⟨_, rfl⟩
         replace H : (if x5_2 < (ji17) then ((commodatumref12_Bits.f k2 x5_2 a0_0).bind fun t225 => ((commodatumref12_Run.f k2 a0_0 l0_1 t225).bind fun t228 => (commodatumref12_Restores.l2 k2 x3_2 x5_2 t225 t228 0 a0_0 l0_1))) else (some x3_2)) = some r := by first | (rw [hji17] at H; exact H) | (simp only [hji17] at H ⊢; exact H)
         have hji17_ : (IntKind.i64.wrap (1 * 2 ^ min a0_0.toNat 64)) = ji17 := hji17
         have hji17z : a0_0 ≤ 64 → (IntKind.i64.wrap (1 * 2 ^ a0_0.toNat)) = ji17 := shl_small hji17
         have hji17u : (IntKind.i64.wrap (2 ^ min a0_0.toNat 64)) = ji17 := by have h_ := hji17_; rw [Int.one_mul] at h_; exact h_
         have hji17v : a0_0 ≤ 64 → (IntKind.i64.wrap (2 ^ a0_0.toNat)) = ji17 := fun hle_ => by have h_ := hji17z hle_; rw [Int.one_mul] at h_; exact h_
         have hji17y : (wrap64 (1 * 2 ^ min a0_0.toNat 64)) = ji17 := (i64_w _).symm.trans hji17_
         have hji17x : a0_0 ≤ 64 → (wrap64 (1 * 2 ^ a0_0.toNat)) = ji17 := fun h_ => (i64_w _).symm.trans (hji17z h_)
         by_cases c18 : x5_2 < (ji17)
         ·rw [if_pos c18] at H
          have c18b0 : decide (x5_2 < (ji17)) = true := decide_eq_true c18
          clear c18
          replace H := Option.bind_eq_some_iff.mp H
          obtain ⟨t225, A190, H⟩ := H
          replace H : ((commodatumref12_Run.f k2 a0_0 l0_1 t225).bind fun t228 => (commodatumref12_Restores.l2 k2 x3_2 x5_2 t225 t228 0 a0_0 l0_1)) = some r := H
          have A19 := aM A190
          clear A190
          replace H := Option.bind_eq_some_iff.mp H
          obtain ⟨t228, A200, H⟩ := H
          replace H : (commodatumref12_Restores.l2 k2 x3_2 x5_2 t225 t228 0 a0_0 l0_1) = some r := H
          have A20 := aM A200
          clear A200
          have H' := aM H
          clear H
          have hcz21_0 : wr.cell? ⟨gb220, 0, none⟩ = some (.int .i64 a0_0) := (bE B20.out 0).trans rfl
          have hcz21_1 : wr.cell? ⟨gb220, 1, none⟩ = some (.slice A0_1 l0_1.length c0_1) := (bE B20.out 1).trans rfl
          have hfz21_0 := bF B20.out 0
          have hfz21_1 := bF B20.out 1
          go_wp2_with (first | ((with_reducible refine gate_callee (f := 70) rfl ?_); refine goesL_ (some 31) rfl rfl Tryd.func70 (by kernel_rfl) rfl #[.int .i64 x5_2, .int .i64 a0_0] rfl (by (try simp only [List.map_toArray, List.map_cons, List.map_nil]); first | done | rfl | (simp only [List.length_drop, List.length_take]; rfl)) ?_; (with_reducible refine (commodatumref12_Bits.calls k2 x5_2 a0_0 t225 _ A19.out).mono ?_); rintro e w22 ⟨v226, rfl, ho0, hb⟩; refine ⟨_, rfl, ?_⟩; have n0_ := aM (Kd.R_elder' (by with_reducible apply_rules [HO_3.out, rA, rB, rC]) (Kd.R_base ho0) hb); have n1_ := aM (Kd.R_lower (Kd.R_new' ho0 (Kd.R_lt (by with_reducible apply_rules [HO_3.out, rA, rB, rC]))) (below_size (by (with_reducible apply_rules [HB.out, pA, pD, pE, sT, GE220.out])))); have n2_ := aM (blk_below (g := gb220) (o := .cells #[.int .i64 a0_0, .slice A0_1 l0_1.length c0_1] 25 (0, 0)) (by with_reducible apply_rules [B20.out, bA, bB, bC]) hb); have n3_ := aM (below_step (by (with_reducible apply_rules [HB.out, pA, pD, pE, sT, GE220.out])) hb); clear HO_3; clear B20; clear HB; have HO_3 := n0_; have HO227 := n1_; have B20 := n2_; have HB := n3_; clear n0_ n1_ n2_ n3_; (try clear hb); (try clear hb2); (try clear hk); (try clear hi); (try clear ho0); have hcz23_0 : w22.cell? ⟨gb220, 0, none⟩ = some (.int .i64 a0_0) := (bE B20.out 0).trans rfl; have hcz23_1 : w22.cell? ⟨gb220, 1, none⟩ = some (.slice A0_1 l0_1.length c0_1) := (bE B20.out 1).trans rfl; have hfz23_0 := bF B20.out 0; have hfz23_1 := bF B20.out 1; obtain ⟨Ao24, co24, eo24⟩ := Kd.R_slice HO227.out; subst eo24) | ((with_reducible refine gate_callee (f := 40) rfl ?_); refine goesL_ (some 34) rfl rfl Tryd.func40 (by kernel_rfl) rfl #[.agg #[.int .i64 a0_0, .slice A0_1 l0_1.length c0_1], .slice Ao24 t225.length co24] rfl (by (try simp only [List.map_toArray, List.map_cons, List.map_nil]); first | done | rfl | (simp only [List.length_drop, List.length_take]; rfl)) ?_; (with_reducible refine (commodatumref12_Run.calls k2 a0_0 _ _ l0_1 _ _ t225 t228 _ ?side1 ?side2 ?side3 ?side4 A20.out).mono ?_); (case side1 => repeat (first | exact (Kd.C_below HR0_1.out HB.out) | (with_reducible refine Kd.C_alloc ?_ _) | (with_reducible refine Kd.C_drewN ?_ _) | (with_reducible refine Kd.C_drew ?_))); (case side2 => exact HC0_1.out); (case side3 => repeat (first | exact (Kd.R_reads' HO227.out).2.2 | (with_reducible refine Kd.C_alloc ?_ _) | (with_reducible refine Kd.C_drewN ?_ _) | (with_reducible refine Kd.C_drew ?_))); (case side4 => exact (Kd.R_reads' HO227.out).2.1); rintro e w25 ⟨v229, rfl, ho0, hb⟩; refine ⟨_, rfl, ?_⟩; have n0_ := aM (Kd.R_elder' (by with_reducible apply_rules [HO_3.out, rA, rB, rC]) (Kd.R_base ho0) hb); have n1_ := aM (Kd.R_elder' (by with_reducible apply_rules [HO227.out, rA, rB, rC]) (Kd.R_base ho0) hb); have n2_ := aM (Kd.R_lower (Kd.R_new' (Kd.R_new' ho0 (Kd.R_lt (by with_reducible apply_rules [HO_3.out, rA, rB, rC]))) (Kd.R_lt (by with_reducible apply_rules [HO227.out, rA, rB, rC]))) (below_size (by (with_reducible apply_rules [HB.out, pA, pD, pE, sT, GE220.out])))); have n3_ := aM (blk_below (g := gb220) (o := .cells #[.int .i64 a0_0, .slice A0_1 l0_1.length c0_1] 25 (0, 0)) (by with_reducible apply_rules [B20.out, bA, bB, bC]) hb); have n4_ := aM (below_step (by (with_reducible apply_rules [HB.out, pA, pD, pE, sT, GE220.out])) hb); clear HO_3; clear HO227; clear B20; clear HB; have HO_3 := n0_; have HO227 := n1_; have HO230 := n2_; have B20 := n3_; have HB := n4_; clear n0_ n1_ n2_ n3_ n4_; (try clear hb); (try clear hb2); (try clear hk); (try clear hi); (try clear ho0)))
          go_loopg [8] k2 (fun kq v8 w' => ∃ (x3_3 : List Bool) (x8_3 : Int), v8 = .int .i64 x8_3 ∧ Aside0 (commodatumref12_Restores.l2 kq x3_3 x5_2 t225 t228 x8_3 a0_0 l0_1 = some r) ∧ Aside0 (kq ≤ k2) ∧ Aside0 (Kd.R Kd.bool 4 w' w.heap.size (fun k_ => some k_ ≠ ((.slice Ao24 t225.length co24) : Value).ownBlock ∧ some k_ ≠ (v229 : Value).ownBlock) v222 x3_3) ∧ Aside0 (Kd.R Kd.bool 4 w' w.heap.size (fun k_ => some k_ ≠ (v222 : Value).ownBlock ∧ some k_ ≠ (v229 : Value).ownBlock) (.slice Ao24 t225.length co24) t225) ∧ Aside0 (Kd.R Kd.bool 4 w' w.heap.size (fun k_ => some k_ ≠ (v222 : Value).ownBlock ∧ some k_ ≠ ((.slice Ao24 t225.length co24) : Value).ownBlock) v229 t228) ∧ Aside0 (w'.heap[gb220]? = some (.cells #[.int .i64 a0_0, (.slice A0_1 l0_1.length c0_1)] 25 (0, 0))) ∧ Aside0 (Below w.heap.size w w'))
          case atStart => exact ⟨(x3_2), (0), (by first | rfl | (simp; done) | (simp [*]; done)), H', ⟨Nat.le_refl _⟩, ⟨by (with_reducible repeat (first | apply rA | apply rB | apply rC)); exact Kd.R_mono HO_3.out (fun _ hk => ⟨hk.1.2, hk.2⟩)⟩, ⟨by (with_reducible repeat (first | apply rA | apply rB | apply rC)); exact Kd.R_mono HO227.out (fun _ hk => ⟨hk.1.2, hk.2⟩)⟩, ⟨by (with_reducible repeat (first | apply rA | apply rB | apply rC)); exact Kd.R_mono HO230.out (fun _ hk => ⟨hk.1.2, hk.2⟩)⟩, ⟨by with_reducible apply_rules [B20.out, bA, bB, bC]⟩, ⟨by (with_reducible apply_rules [HB.out, pA, pD, pE, sT, GE220.out])⟩⟩
          case round =>
           clear H'
           try clear c1
           try clear p1
           try clear q1
           try clear hx1
           try clear hf1
           try clear c2
           try clear c2b0
           try clear c2b1
           try clear p2
           try clear c3
           try clear c3b0
           try clear c3b1
           try clear c4
           try clear p6
           try clear c7
           try clear c8
           try clear c8b0
           try clear c9
           try clear c9b0
           try clear c10
           try clear c10b0
           try clear p11
           try clear q11
           try clear hx11
           try clear hf11
           try clear c16
           try clear c16b0
           try clear c16b1
           try clear c18
           try clear c18b0
           try clear hcz12_0
           try clear hcz12_1
           try clear hcz15_0
           try clear hcz15_1
           try clear hcz21_0
           try clear hcz21_1
           try clear hcz23_0
           try clear hcz23_1
           try clear hcz5_0
           try clear hcz5_1
           try clear hfz12_0
           try clear hfz12_1
           try clear hfz15_0
           try clear hfz15_1
           try clear hfz21_0
           try clear hfz21_1
           try clear hfz23_0
           try clear hfz23_1
           try clear hfz5_0
           try clear hfz5_1
           try clear hx11_0
           try clear p1
           try clear p11
           try clear p2
           try clear p6
           try clear q1
           try clear q11
           obtain ⟨x3_3, x8_3, rfl, HA, HK3, HO_3, HO_6, HO_7, B20, HB⟩ := hrel
           cases gk with
           | zero => exact absurd HA.out (by simp [commodatumref12_Restores.l2])
           | succ k3 =>
            have H := HA.out
            clear HA
            simp only [commodatumref12_Restores.l2] at H
            by_cases c26 : x8_3 < a0_0
            ·rw [if_pos c26] at H
             have c26b0 : decide (x8_3 < a0_0) = true := decide_eq_true c26
             clear c26
             by_cases c27 : 0 ≤ x8_3
             ·rw [if_pos c27] at H
              have c27b0 : decide (0 ≤ x8_3) = true := decide_eq_true c27
              clear c27
              by_cases c28 : x8_3 < (x3_3.length : Int)
              ·rw [if_pos c28] at H
               have c28b0 : decide (x8_3 < (x3_3.length : Int)) = true := decide_eq_true c28
               clear c28
               obtain ⟨bq29, hbq29⟩ : ∃ b_ : Bool, b_ = (rdOf false x3_3 x8_3) := ⟨_, rfl⟩
               replace H : (if bq29 = true then (if x8_3 < (t225.length : Int) then (if x8_3 < (t228.length : Int) then (commodatumref12_Restores.l2 k3 (x3_3.set (x8_3 : Int).toNat ((rdOf false t225 x8_3) == (rdOf false t228 x8_3))) x5_2 t225 t228 (wrap64 (x8_3 + 1)) a0_0 l0_1) else (none)) else (none)) else (commodatumref12_Restores.l2 k3 (x3_3.set (x8_3 : Int).toNat false) x5_2 t225 t228 (wrap64 (x8_3 + 1)) a0_0 l0_1)) = some r := by rw [← hbq29] at H; exact H
               have Nbq29 := aM hbq29
               clear hbq29
               by_cases c30 : bq29 = true
               ·subst c30
                have H1 : (if x8_3 < (t225.length : Int) then (if x8_3 < (t228.length : Int) then (commodatumref12_Restores.l2 k3 (x3_3.set (x8_3 : Int).toNat ((rdOf false t225 x8_3) == (rdOf false t228 x8_3))) x5_2 t225 t228 (wrap64 (x8_3 + 1)) a0_0 l0_1) else (none)) else (none)) = some r := by rw [if_pos rfl] at H; exact H
                clear H
                have H := H1
                clear H1
                by_cases c31 : x8_3 < (t225.length : Int)
                ·rw [if_pos c31] at H
                 have c31b0 : decide (x8_3 < (t225.length : Int)) = true := decide_eq_true c31
                 clear c31
                 by_cases c32 : x8_3 < (t228.length : Int)
                 ·rw [if_pos c32] at H
                  have c32b0 : decide (x8_3 < (t228.length : Int)) = true := decide_eq_true c32
                  clear c32
                  obtain ⟨y234, hy234⟩ : ∃ y_ : List Bool, y_ = (x3_3.set (x8_3 : Int).toNat ((rdOf false t225 x8_3) == (rdOf false t228 x8_3))) := ⟨_, rfl⟩
                  replace H : (commodatumref12_Restores.l2 k3 y234 x5_2 t225 t228 (wrap64 (x8_3 + 1)) a0_0 l0_1) = some r := by first | (rw [hy234]; with_reducible exact H) | (have H2_ := (Option.bind_some _ _).symm.trans H; rw [hy234]; with_reducible exact H2_) | (have H2_ := (Option.bind_some _ _).symm.trans H; with_reducible exact H2_) | with_reducible exact H | (rw [hy234]; exact H) | exact H
                  have Ny234 := aM hy234
                  clear hy234
                  have H' := aM H
                  clear H
                  have hcz34_0 : wr.cell? ⟨gb220, 0, none⟩ = some (.int .i64 a0_0) := (bE B20.out 0).trans rfl
                  have hcz34_1 : wr.cell? ⟨gb220, 1, none⟩ = some (.slice A0_1 l0_1.length c0_1) := (bE B20.out 1).trans rfl
                  have hfz34_0 := bF B20.out 0
                  have hfz34_1 := bF B20.out 1
                  try go_wp2
                  have n0_ := aM (rC HO_3.out)
                  have n1_ := aM (rC HO_6.out)
                  have n2_ := aM (rC HO_7.out)
                  have n3_ := aM (bB B20.out)
                  have n4_ := aM (pE HB.out)
                  clear HO_3
                  clear HO_6
                  clear HO_7
                  clear B20
                  clear HB
                  have HO_3 := n0_
                  have HO_6 := n1_
                  have HO_7 := n2_
                  have B20 := n3_
                  have HB := n4_
                  clear n0_ n1_ n2_ n3_ n4_
                  obtain ⟨Ao36, co36, eo36⟩ := Kd.R_slice HO_3.out
                  (first | subst eo36 | (injection eo36 with f1_ f2_ f3_; have f4_ := f1_.symm; have f5_ := f3_.symm; clear f1_ f2_ f3_; subst f4_; subst f5_))
                  have p231 : 0 ≤ (x8_3 : Int) := of_decide_eq_true (by assumption)
                  have q231 : x8_3 < (x3_3.length : Int) := of_decide_eq_true (by assumption)
                  obtain ⟨ad231, e231, hx231_0⟩ := Kd.at_bool (Kd.R_reads' HO_3.out).2.2 x8_3 p231 q231
                  (try rw [← Nbq29.out] at hx231_0)
                  cases e231
                  replace p231 := eq_true p231
                  replace q231 := eq_true q231
                  have p232 : 0 ≤ (x8_3 : Int) := of_decide_eq_true (by assumption)
                  have q232 : x8_3 < (t225.length : Int) := of_decide_eq_true (by assumption)
                  obtain ⟨ad232, e232, hx232_0⟩ := Kd.at_bool (Kd.R_reads' HO_6.out).2.2 x8_3 p232 q232
                  (try rw [← Nbq29.out] at hx232_0)
                  cases e232
                  replace p232 := eq_true p232
                  replace q232 := eq_true q232
                  obtain ⟨Ao37, co37, eo37⟩ := Kd.R_slice HO_7.out
                  (first | subst eo37 | (injection eo37 with f1_ f2_ f3_; have f4_ := f1_.symm; have f5_ := f3_.symm; clear f1_ f2_ f3_; subst f4_; subst f5_))
                  have p233 : 0 ≤ (x8_3 : Int) := of_decide_eq_true (by assumption)
                  have q233 : x8_3 < (t228.length : Int) := of_decide_eq_true (by assumption)
                  obtain ⟨ad233, e233, hx233_0⟩ := Kd.at_bool (Kd.R_reads' HO_7.out).2.2 x8_3 p233 q233
                  (try rw [← Nbq29.out] at hx233_0)
                  cases e233
                  replace p233 := eq_true p233
                  replace q233 := eq_true q233
                  have p33 : 0 ≤ (x8_3 : Int) := of_decide_eq_true (by assumption)
                  have q33 : (x8_3 : Int) < ((x3_3.length : Int) : Int) := of_decide_eq_true (by assumption)
                  obtain ⟨go33, co33, eo33, gb33, gl33, cl33, HG33⟩ := Kd.R_form HO_3.out (by omega)
                  (first | cases eo33 | (injection eo33 with ea_ en_ ec_; (first | subst ea_ | (injection ea_ with ea_; subst ea_)); subst ec_; clear en_))
                  have GB33 := aM gb33
                  have GG33 := aM HG33
                  clear gb33 gl33 HG33
                  (first | simp only [add_plain] at hx231_0 | skip)
                  obtain ⟨hx33_0, hf33_0⟩ := Kd.R_celln false HO_3.out (x8_3 : Int) p33 q33
                  replace p33 := eq_true p33
                  replace q33 := eq_true q33
                  have HP38 := Kd.R_putn HO_3.out (x8_3 : Int) ((rdOf false t225 x8_3) == (rdOf false t228 x8_3))
                  rw [← Ny234.out] at HP38
                  have HQ38 := aM HP38
                  clear HP38
                  refine start_ (n := 19) (S := fun w' => w'.cell? ⟨go33, (x8_3).toNat, none⟩ = some (.bool true) ∧ w'.cell? (ad232.add (x8_3).toNat) = some (.bool (rdOf false t225 x8_3)) ∧ w'.cell? (ad233.add (x8_3).toNat) = some (.bool (rdOf false t228 x8_3))) (ds := [18]) z0a0 (by kernel_rfl) rfl rfl ⟨hx231_0, hx232_0, hx233_0⟩ (fun hHeld => ?_); refine with_tabW commodatumref12_Restores.tab14 commodatumref12_Restores.bits14 (fun HT_ HW_ => ?_)
                  generalize wr.drew = w35 at HO_3 HO_6 HO_7 B20 HB GG33 HQ38 hf33_0 hx231_0 hx232_0 hx233_0 hx33_0 hHeld ⊢
                  refine pure_ (i := 0) (N := some 41) (v := ?_) (a' := ?_) z1a0 rfl rfl (any_of HT_.out (by kernel_rfl)) (fun _ _ _ h => h) (Or.inl ⟨by rfl, ?_⟩) ?_ ?_
                  rotate_left
                  ·intro w'
                   go_simp
                   with_reducible rfl
                  rotate_left
                  ·simp only [Act.put, pSa0, i64_w]
                   rfl
                  refine pure_ (i := 1) (N := some 42) (v := ?_) (a' := ?_) z2a0 rfl rfl (any_of HT_.out (by kernel_rfl)) (fun _ _ _ h => h) (Or.inl ⟨by rfl, ?_⟩) ?_ ?_
                  rotate_left
                  ·intro w'
                   go_simp
                   with_reducible rfl
                  rotate_left
                  ·simp only [Act.put, pSa0, i64_w]
                   rfl
                  refine pure_ (i := 2) (N := some 43) (v := ?_) (a' := ?_) z3a0 rfl rfl (any_of HT_.out (by kernel_rfl)) (fun _ _ _ h => h) (Or.inl ⟨by rfl, ?_⟩) ?_ ?_
                  rotate_left
                  ·intro w'
                   go_simp
                   with_reducible rfl
                  rotate_left
                  ·simp only [Act.put, pSa0, i64_w]
                   rfl
                  refine pure_ (i := 3) (N := some 44) (v := ?_) (a' := ?_) z4a0 rfl rfl (any_of HT_.out (by kernel_rfl)) (fun _ _ _ h => h) (Or.inl ⟨by rfl, ?_⟩) ?_ ?_
                  rotate_left
                  ·intro w'
                   go_simp
                   with_reducible rfl
                  rotate_left
                  ·simp only [Act.put, pSa0, i64_w]
                   rfl
                  refine pure_ (i := 4) (N := some 45) (v := ?_) (a' := ?_) z5a0 rfl rfl (any_of HT_.out (by kernel_rfl)) (fun _ _ _ h => h) (Or.inl ⟨by rfl, ?_⟩) ?_ ?_
                  rotate_left
                  ·intro w'
                   go_simp
                   with_reducible rfl
                  rotate_left
                  ·simp only [Act.put, pSa0, i64_w]
                   rfl
                  refine take_ (i := 5) (N := some 46) (v := ?_) (a' := ?_) z6a0 rfl rfl (take_ofW HT_.out HW_.out (by kernel_rfl)) (fun _ _ _ h => h) (Or.inl ⟨by rfl, ?_⟩) hHeld ?_ ?_
                  rotate_left
                  ·rintro w' ⟨s0, s1, s2⟩
                   go_simp
                   with_reducible rfl
                  rotate_left
                  ·simp only [Act.put, pSa0, i64_w]
                   rfl
                  refine pure_ (i := 6) (N := some 47) (v := ?_) (a' := ?_) z7a0 rfl rfl (any_of HT_.out (by kernel_rfl)) (fun _ _ _ h => h) (Or.inl ⟨by rfl, ?_⟩) ?_ ?_
                  rotate_left
                  ·intro w'
                   go_simp
                   with_reducible rfl
                  rotate_left
                  ·simp only [Act.put, pSa0, i64_w]
                   rfl
                  refine pure_ (i := 7) (N := some 48) (v := ?_) (a' := ?_) z8a0 rfl rfl (any_of HT_.out (by kernel_rfl)) (fun _ _ _ h => h) (Or.inl ⟨by rfl, ?_⟩) ?_ ?_
                  rotate_left
                  ·intro w'
                   go_simp
                   with_reducible rfl
                  rotate_left
                  ·simp only [Act.put, pSa0, i64_w]
                   rfl
                  refine pure_ (i := 8) (N := some 49) (v := ?_) (a' := ?_) z9a0 rfl rfl (any_of HT_.out (by kernel_rfl)) (fun _ _ _ h => h) (Or.inl ⟨by rfl, ?_⟩) ?_ ?_
                  rotate_left
                  ·intro w'
                   go_simp
                   with_reducible rfl
                  rotate_left
                  ·simp only [Act.put, pSa0, i64_w]
                   rfl
                  refine pure_ (i := 9) (N := some 50) (v := ?_) (a' := ?_) z10a0 rfl rfl (any_of HT_.out (by kernel_rfl)) (fun _ _ _ h => h) (Or.inl ⟨by rfl, ?_⟩) ?_ ?_
                  rotate_left
                  ·intro w'
                   go_simp
                   with_reducible rfl
                  rotate_left
                  ·simp only [Act.put, pSa0, i64_w]
                   rfl
                  refine pure_ (i := 11) (N := some 52) (v := ?_) (a' := ?_) z11a0 rfl rfl (any_of HT_.out (by kernel_rfl)) (fun _ _ _ h => h) (Or.inl ⟨by rfl, ?_⟩) ?_ ?_
                  rotate_left
                  ·intro w'
                   go_simp
                   with_reducible rfl
                  rotate_left
                  ·simp only [Act.put, pSa0, i64_w]
                   rfl
                  refine pure_ (i := 12) (N := some 53) (v := ?_) (a' := ?_) z12a0 rfl rfl (any_of HT_.out (by kernel_rfl)) (fun _ _ _ h => h) (Or.inl ⟨by rfl, ?_⟩) ?_ ?_
                  rotate_left
                  ·intro w'
                   go_simp
                   with_reducible rfl
                  rotate_left
                  ·simp only [Act.put, pSa0, i64_w]
                   rfl
                  refine pure_ (i := 13) (N := some 54) (v := ?_) (a' := ?_) z13a0 rfl rfl (any_of HT_.out (by kernel_rfl)) (fun _ _ _ h => h) (Or.inl ⟨by rfl, ?_⟩) ?_ ?_
                  rotate_left
                  ·intro w'
                   go_simp
                   with_reducible rfl
                  rotate_left
                  ·simp only [Act.put, pSa0, i64_w]
                   rfl
                  refine take_ (i := 10) (N := some 51) (v := ?_) (a' := ?_) z14a0 rfl rfl (take_ofW HT_.out HW_.out (by kernel_rfl)) (fun _ _ _ h => h) (Or.inl ⟨by rfl, ?_⟩) hHeld ?_ ?_
                  rotate_left
                  ·rintro w' ⟨s0, s1, s2⟩
                   go_simp
                   with_reducible rfl
                  rotate_left
                  ·simp only [Act.put, pSa0, i64_w]
                   rfl
                  refine take_ (i := 14) (N := some 55) (v := ?_) (a' := ?_) z15a0 rfl rfl (take_ofW HT_.out HW_.out (by kernel_rfl)) (fun _ _ _ h => h) (Or.inl ⟨by rfl, ?_⟩) hHeld ?_ ?_
                  rotate_left
                  ·rintro w' ⟨s0, s1, s2⟩
                   go_simp
                   with_reducible rfl
                  rotate_left
                  ·simp only [Act.put, pSa0, i64_w]
                   rfl
                  refine pure_ (i := 15) (N := some 56) (v := ?_) (a' := ?_) z16a0 rfl rfl (any_of HT_.out (by kernel_rfl)) (fun _ _ _ h => h) (Or.inl ⟨by rfl, ?_⟩) ?_ ?_
                  rotate_left
                  ·intro w'
                   go_simp
                   with_reducible rfl
                  rotate_left
                  ·simp only [Act.put, pSa0, i64_w]
                   rfl
                  refine pure_ (i := 16) (N := some 57) (v := ?_) (a' := ?_) z17a0 rfl rfl (any_of HT_.out (by kernel_rfl)) (fun _ _ _ h => h) (Or.inl ⟨by rfl, ?_⟩) ?_ ?_
                  rotate_left
                  ·intro w'
                   go_simp
                   with_reducible rfl
                  rotate_left
                  ·simp only [Act.put, pSa0, i64_w]
                   rfl
                  refine pure_ (i := 17) (N := some 58) (v := ?_) (a' := ?_) z18a0 rfl rfl (any_of HT_.out (by kernel_rfl)) (fun _ _ _ h => h) (Or.inl ⟨by rfl, ?_⟩) ?_ ?_
                  rotate_left
                  ·intro w'
                   go_simp
                   with_reducible rfl
                  rotate_left
                  ·simp only [Act.put, pSa0, i64_w]
                   rfl
                  refine last_ (i := 18) (N := none) z19a0 rfl rfl (one_of HT_.out (by kernel_rfl)) (by decide) (fun K hK => ?_)
                  refine skip_ (w1 := ?_) (by rfl) rfl ?_ ?_
                  rotate_left
                  ·go_simp
                   rfl
                  refine hK.out _ _ ?_
                  clear hK K
                  refine done_ (done_of HT_.out (by kernel_rfl)) ?_
                  try go_wp2
                  go_roundg k3
                  case measure => have := HK1.out; have := HK2.out; have := HK3.out; omega
                  case rel => exact ⟨(y234), (wrap64 (x8_3 + 1)), (by first | rfl | (simp; done) | (simp [*]; done)), H', ⟨by have := HK1.out; have := HK2.out; have := HK3.out; omega⟩, ⟨by with_reducible apply_rules [HQ38.out, rA, rB, rC]⟩, ⟨by (with_reducible repeat (first | apply rA | apply rB | apply rC)); exact Kd.R_mono (Kd.R_far (p := ⟨go33, (x8_3 : Int).toNat, none⟩) (Kd.R_mono HO_6.out (fun k_ hk => (⟨hk, fun e_ => hk.1 (by rw [e_]; rfl)⟩ : _ ∧ k_ ≠ go33))) (fun _ hk => hk.2) (.bool ((rdOf false t225 x8_3) == (rdOf false t228 x8_3)))) (fun _ hk => ⟨hk.1.1, hk.1.2⟩)⟩, ⟨by (with_reducible repeat (first | apply rA | apply rB | apply rC)); exact Kd.R_mono (Kd.R_far (p := ⟨go33, (x8_3 : Int).toNat, none⟩) (Kd.R_mono HO_7.out (fun k_ hk => (⟨hk, fun e_ => hk.1 (by rw [e_]; rfl)⟩ : _ ∧ k_ ≠ go33))) (fun _ hk => hk.2) (.bool ((rdOf false t225 x8_3) == (rdOf false t228 x8_3)))) (fun _ hk => ⟨hk.1.1, hk.1.2⟩)⟩, ⟨by (with_reducible repeat (first | refine bA ?_ _ | refine bB ?_ | refine bC ?_ _)); refine blk_far ?_ (by have h_ := Kd.R_ne HO_3.out B20.out (by decide); intro e_; exact h_ (by rw [e_]; rfl)) _; with_reducible apply_rules [B20.out, bA, bB, bC]⟩, ⟨by (with_reducible apply_rules [HB.out, pA, pD, pE, sT, GB33.out, GE220.out])⟩⟩
                 ·rw [if_neg c32] at H
                  exact absurd H (by simp)
                ·rw [if_neg c31] at H
                 exact absurd H (by simp)
               ·replace c30 := Bool.eq_false_iff.mpr c30
                subst c30
                have H1 : (commodatumref12_Restores.l2 k3 (x3_3.set (x8_3 : Int).toNat false) x5_2 t225 t228 (wrap64 (x8_3 + 1)) a0_0 l0_1) = some r := by rw [if_neg (show ¬ (false = true) by decide)] at H; exact H
                clear H
                have H := H1
                clear H1
                obtain ⟨y235, hy235⟩ : ∃ y_ : List Bool, y_ = (x3_3.set (x8_3 : Int).toNat false) := ⟨_, rfl⟩
                replace H : (commodatumref12_Restores.l2 k3 y235 x5_2 t225 t228 (wrap64 (x8_3 + 1)) a0_0 l0_1) = some r := by first | (rw [hy235]; with_reducible exact H) | (have H2_ := (Option.bind_some _ _).symm.trans H; rw [hy235]; with_reducible exact H2_) | (have H2_ := (Option.bind_some _ _).symm.trans H; with_reducible exact H2_) | with_reducible exact H | (rw [hy235]; exact H) | exact H
                have Ny235 := aM hy235
                clear hy235
                have H' := aM H
                clear H
                have hcz40_0 : wr.cell? ⟨gb220, 0, none⟩ = some (.int .i64 a0_0) := (bE B20.out 0).trans rfl
                have hcz40_1 : wr.cell? ⟨gb220, 1, none⟩ = some (.slice A0_1 l0_1.length c0_1) := (bE B20.out 1).trans rfl
                have hfz40_0 := bF B20.out 0
                have hfz40_1 := bF B20.out 1
                try go_wp2
                have n0_ := aM (rC HO_3.out)
                have n1_ := aM (rC HO_6.out)
                have n2_ := aM (rC HO_7.out)
                have n3_ := aM (bB B20.out)
                have n4_ := aM (pE HB.out)
                clear HO_3
                clear HO_6
                clear HO_7
                clear B20
                clear HB
                have HO_3 := n0_
                have HO_6 := n1_
                have HO_7 := n2_
                have B20 := n3_
                have HB := n4_
                clear n0_ n1_ n2_ n3_ n4_
                obtain ⟨Ao42, co42, eo42⟩ := Kd.R_slice HO_3.out
                (first | subst eo42 | (injection eo42 with f1_ f2_ f3_; have f4_ := f1_.symm; have f5_ := f3_.symm; clear f1_ f2_ f3_; subst f4_; subst f5_))
                have p231 : 0 ≤ (x8_3 : Int) := of_decide_eq_true (by assumption)
                have q231 : x8_3 < (x3_3.length : Int) := of_decide_eq_true (by assumption)
                obtain ⟨ad231, e231, hx231_0⟩ := Kd.at_bool (Kd.R_reads' HO_3.out).2.2 x8_3 p231 q231
                (try rw [← Nbq29.out] at hx231_0)
                cases e231
                replace p231 := eq_true p231
                replace q231 := eq_true q231
                have p39 : 0 ≤ (x8_3 : Int) := of_decide_eq_true (by assumption)
                have q39 : (x8_3 : Int) < ((x3_3.length : Int) : Int) := of_decide_eq_true (by assumption)
                obtain ⟨go39, co39, eo39, gb39, gl39, cl39, HG39⟩ := Kd.R_form HO_3.out (by omega)
                (first | cases eo39 | (injection eo39 with ea_ en_ ec_; (first | subst ea_ | (injection ea_ with ea_; subst ea_)); subst ec_; clear en_))
                have GB39 := aM gb39
                have GG39 := aM HG39
                clear gb39 gl39 HG39
                (first | simp only [add_plain] at hx231_0 | skip)
                obtain ⟨hx39_0, hf39_0⟩ := Kd.R_celln false HO_3.out (x8_3 : Int) p39 q39
                replace p39 := eq_true p39
                replace q39 := eq_true q39
                have HP43 := Kd.R_putn HO_3.out (x8_3 : Int) false
                rw [← Ny235.out] at HP43
                have HQ43 := aM HP43
                clear HP43
                refine start_ (n := 19) (S := fun w' => w'.cell? ⟨go39, (x8_3).toNat, none⟩ = some (.bool false)) (ds := [18]) z0a0 (by kernel_rfl) rfl rfl (hx231_0) (fun hHeld => ?_); refine with_tabW commodatumref12_Restores.tab14 commodatumref12_Restores.bits14 (fun HT_ HW_ => ?_)
                generalize wr.drew = w41 at HO_3 HO_6 HO_7 B20 HB GG39 HQ43 hf39_0 hx231_0 hx39_0 hHeld ⊢
                refine pure_ (i := 0) (N := some 41) (v := ?_) (a' := ?_) z1a0 rfl rfl (any_of HT_.out (by kernel_rfl)) (fun _ _ _ h => h) (Or.inl ⟨by rfl, ?_⟩) ?_ ?_
                rotate_left
                ·intro w'
                 go_simp
                 with_reducible rfl
                rotate_left
                ·simp only [Act.put, pSa0, i64_w]
                 rfl
                refine pure_ (i := 1) (N := some 42) (v := ?_) (a' := ?_) z2a0 rfl rfl (any_of HT_.out (by kernel_rfl)) (fun _ _ _ h => h) (Or.inl ⟨by rfl, ?_⟩) ?_ ?_
                rotate_left
                ·intro w'
                 go_simp
                 with_reducible rfl
                rotate_left
                ·simp only [Act.put, pSa0, i64_w]
                 rfl
                refine pure_ (i := 2) (N := some 43) (v := ?_) (a' := ?_) z3a0 rfl rfl (any_of HT_.out (by kernel_rfl)) (fun _ _ _ h => h) (Or.inl ⟨by rfl, ?_⟩) ?_ ?_
                rotate_left
                ·intro w'
                 go_simp
                 with_reducible rfl
                rotate_left
                ·simp only [Act.put, pSa0, i64_w]
                 rfl
                refine pure_ (i := 3) (N := some 44) (v := ?_) (a' := ?_) z4a0 rfl rfl (any_of HT_.out (by kernel_rfl)) (fun _ _ _ h => h) (Or.inl ⟨by rfl, ?_⟩) ?_ ?_
                rotate_left
                ·intro w'
                 go_simp
                 with_reducible rfl
                rotate_left
                ·simp only [Act.put, pSa0, i64_w]
                 rfl
                refine pure_ (i := 4) (N := some 45) (v := ?_) (a' := ?_) z5a0 rfl rfl (any_of HT_.out (by kernel_rfl)) (fun _ _ _ h => h) (Or.inl ⟨by rfl, ?_⟩) ?_ ?_
                rotate_left
                ·intro w'
                 go_simp
                 with_reducible rfl
                rotate_left
                ·simp only [Act.put, pSa0, i64_w]
                 rfl
                refine take_ (i := 5) (N := some 46) (v := ?_) (a' := ?_) z6a0 rfl rfl (take_ofW HT_.out HW_.out (by kernel_rfl)) (fun _ _ _ h => h) (Or.inl ⟨by rfl, ?_⟩) hHeld ?_ ?_
                rotate_left
                ·intro w' s0
                 go_simp
                 with_reducible rfl
                rotate_left
                ·simp only [Act.put, pSa0, i64_w]
                 rfl
                refine pure_ (i := 6) (N := some 47) (v := ?_) (a' := ?_) z7a0 rfl rfl (any_of HT_.out (by kernel_rfl)) (fun _ _ _ h => h) (Or.inl ⟨by rfl, ?_⟩) ?_ ?_
                rotate_left
                ·intro w'
                 go_simp
                 with_reducible rfl
                rotate_left
                ·simp only [Act.put, pSa0, i64_w]
                 rfl
                refine pure_ (i := 7) (N := some 48) (v := undef) (a' := ?_) z8a0 rfl rfl (any_of HT_.out (by kernel_rfl)) (fun _ _ _ h => h) (Or.inr ⟨by rfl, rfl⟩) ?_ ?_
                rotate_left
                ·simp only [Act.put, pSa0, i64_w]
                 rfl
                refine pure_ (i := 8) (N := some 49) (v := undef) (a' := ?_) z9a0 rfl rfl (any_of HT_.out (by kernel_rfl)) (fun _ _ _ h => h) (Or.inr ⟨by rfl, rfl⟩) ?_ ?_
                rotate_left
                ·simp only [Act.put, pSa0, i64_w]
                 rfl
                refine pure_ (i := 9) (N := some 50) (v := undef) (a' := ?_) z10a0 rfl rfl (any_of HT_.out (by kernel_rfl)) (fun _ _ _ h => h) (Or.inr ⟨by rfl, rfl⟩) ?_ ?_
                rotate_left
                ·simp only [Act.put, pSa0, i64_w]
                 rfl
                refine pure_ (i := 10) (N := some 51) (v := undef) (a' := ?_) z20a0 rfl rfl (any_of HT_.out (by kernel_rfl)) (fun _ _ _ h => h) (Or.inr ⟨by rfl, rfl⟩) ?_ ?_
                rotate_left
                ·simp only [Act.put, pSa0, i64_w]
                 rfl
                refine pure_ (i := 11) (N := some 52) (v := undef) (a' := ?_) z21a0 rfl rfl (any_of HT_.out (by kernel_rfl)) (fun _ _ _ h => h) (Or.inr ⟨by rfl, rfl⟩) ?_ ?_
                rotate_left
                ·simp only [Act.put, pSa0, i64_w]
                 rfl
                refine pure_ (i := 12) (N := some 53) (v := undef) (a' := ?_) z22a0 rfl rfl (any_of HT_.out (by kernel_rfl)) (fun _ _ _ h => h) (Or.inr ⟨by rfl, rfl⟩) ?_ ?_
                rotate_left
                ·simp only [Act.put, pSa0, i64_w]
                 rfl
                refine pure_ (i := 13) (N := some 54) (v := undef) (a' := ?_) z14a0 rfl rfl (any_of HT_.out (by kernel_rfl)) (fun _ _ _ h => h) (Or.inr ⟨by rfl, rfl⟩) ?_ ?_
                rotate_left
                ·simp only [Act.put, pSa0, i64_w]
                 rfl
                refine pure_ (i := 14) (N := some 55) (v := undef) (a' := ?_) z15a0 rfl rfl (any_of HT_.out (by kernel_rfl)) (fun _ _ _ h => h) (Or.inr ⟨by rfl, rfl⟩) ?_ ?_
                rotate_left
                ·simp only [Act.put, pSa0, i64_w]
                 rfl
                refine pure_ (i := 15) (N := some 56) (v := undef) (a' := ?_) z16a0 rfl rfl (any_of HT_.out (by kernel_rfl)) (fun _ _ _ h => h) (Or.inr ⟨by rfl, rfl⟩) ?_ ?_
                rotate_left
                ·simp only [Act.put, pSa0, i64_w]
                 rfl
                refine pure_ (i := 16) (N := some 57) (v := ?_) (a' := ?_) z17a0 rfl rfl (any_of HT_.out (by kernel_rfl)) (fun _ _ _ h => h) (Or.inl ⟨by rfl, ?_⟩) ?_ ?_
                rotate_left
                ·intro w'
                 go_simp
                 with_reducible rfl
                rotate_left
                ·simp only [Act.put, pSa0, i64_w]
                 rfl
                refine pure_ (i := 17) (N := some 58) (v := ?_) (a' := ?_) z18a0 rfl rfl (any_of HT_.out (by kernel_rfl)) (fun _ _ _ h => h) (Or.inl ⟨by rfl, ?_⟩) ?_ ?_
                rotate_left
                ·intro w'
                 go_simp
                 with_reducible rfl
                rotate_left
                ·simp only [Act.put, pSa0, i64_w]
                 rfl
                refine last_ (i := 18) (N := none) z19a0 rfl rfl (one_of HT_.out (by kernel_rfl)) (by decide) (fun K hK => ?_)
                refine skip_ (w1 := ?_) (by rfl) rfl ?_ ?_
                rotate_left
                ·go_simp
                 rfl
                refine hK.out _ _ ?_
                clear hK K
                refine done_ (done_of HT_.out (by kernel_rfl)) ?_
                try go_wp2
                go_roundg k3
                case measure => have := HK1.out; have := HK2.out; have := HK3.out; omega
                case rel => exact ⟨(y235), (wrap64 (x8_3 + 1)), (by first | rfl | (simp; done) | (simp [*]; done)), H', ⟨by have := HK1.out; have := HK2.out; have := HK3.out; omega⟩, ⟨by with_reducible apply_rules [HQ43.out, rA, rB, rC]⟩, ⟨by (with_reducible repeat (first | apply rA | apply rB | apply rC)); exact Kd.R_mono (Kd.R_far (p := ⟨go39, (x8_3 : Int).toNat, none⟩) (Kd.R_mono HO_6.out (fun k_ hk => (⟨hk, fun e_ => hk.1 (by rw [e_]; rfl)⟩ : _ ∧ k_ ≠ go39))) (fun _ hk => hk.2) (.bool false)) (fun _ hk => ⟨hk.1.1, hk.1.2⟩)⟩, ⟨by (with_reducible repeat (first | apply rA | apply rB | apply rC)); exact Kd.R_mono (Kd.R_far (p := ⟨go39, (x8_3 : Int).toNat, none⟩) (Kd.R_mono HO_7.out (fun k_ hk => (⟨hk, fun e_ => hk.1 (by rw [e_]; rfl)⟩ : _ ∧ k_ ≠ go39))) (fun _ hk => hk.2) (.bool false)) (fun _ hk => ⟨hk.1.1, hk.1.2⟩)⟩, ⟨by (with_reducible repeat (first | refine bA ?_ _ | refine bB ?_ | refine bC ?_ _)); refine blk_far ?_ (by have h_ := Kd.R_ne HO_3.out B20.out (by decide); intro e_; exact h_ (by rw [e_]; rfl)) _; with_reducible apply_rules [B20.out, bA, bB, bC]⟩, ⟨by (with_reducible apply_rules [HB.out, pA, pD, pE, sT, GB39.out, GE220.out])⟩⟩
              ·rw [if_neg c28] at H
               exact absurd H (by simp)
             ·rw [if_neg c27] at H
              exact absurd H (by simp)
            ·rw [if_neg c26] at H
             have c26b0 : decide (x8_3 < a0_0) = false := decide_eq_false c26
             clear c26
             have H' := aM H
             clear H
             have hcz44_0 : wr.cell? ⟨gb220, 0, none⟩ = some (.int .i64 a0_0) := (bE B20.out 0).trans rfl
             have hcz44_1 : wr.cell? ⟨gb220, 1, none⟩ = some (.slice A0_1 l0_1.length c0_1) := (bE B20.out 1).trans rfl
             have hfz44_0 := bF B20.out 0
             have hfz44_1 := bF B20.out 1
             go_wp2
             go_roundg k3
             case measure => have := HK1.out; have := HK2.out; have := HK3.out; omega
             case rel => exact ⟨(x3_3), (wrap64 (x5_2 + 1)), (by first | rfl | (simp; done) | (simp [*]; done)), H', ⟨by have := HK1.out; have := HK2.out; have := HK3.out; omega⟩, ⟨by (with_reducible repeat (first | apply rA | apply rB | apply rC)); exact Kd.R_mono HO_3.out (fun _ hk => trivial)⟩, ⟨by with_reducible apply_rules [B20.out, bA, bB, bC]⟩, ⟨by (with_reducible apply_rules [HB.out, pA, pD, pE, sT, GE220.out])⟩⟩
         ·rw [if_neg c18] at H
          have c18b0 : decide (x5_2 < (ji17)) = false := decide_eq_false c18
          clear c18
          obtain rfl := Option.some.inj H
          have hcz45_0 : wr.cell? ⟨gb220, 0, none⟩ = some (.int .i64 a0_0) := (bE B20.out 0).trans rfl
          have hcz45_1 : wr.cell? ⟨gb220, 1, none⟩ = some (.slice A0_1 l0_1.length c0_1) := (bE B20.out 1).trans rfl
          have hfz45_0 := bF B20.out 0
          have hfz45_1 := bF B20.out 1
          go_wp2
          go_ret
          exact ⟨_, by first | rfl | (simp [errW_none, errW_some] <;> rfl) | (simp only [← hji17]; first | rfl | (simp [errW_none, errW_some] <;> rfl)) | (simp [*, errW_none, errW_some] <;> rfl), by with_reducible apply_rules [HO_3.out, rA, rB, rC], by (with_reducible apply_rules [HB.out, pA, pD, pE, sT, GE220.out])⟩
        ·rw [if_neg c16] at H
         exact absurd H (by simp)
  ·rw [if_neg c3] at H
   exact absurd H (by simp)
 ·rw [if_neg c2] at H
  exact absurd H (by simp)

end Go.Proofs.YthfhnkpipdbekaaDoor.Ta
