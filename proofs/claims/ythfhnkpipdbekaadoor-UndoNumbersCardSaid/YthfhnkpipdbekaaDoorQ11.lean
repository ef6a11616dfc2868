-- CUT by a program of this session: what the claim does not use is left out
import Derived.Test.YthfhnkpipdbekaaDoorQ10
namespace Go.Proofs.YthfhnkpipdbekaaDoor.Pure
set_option linter.unusedVariables false
set_option linter.unusedSimpArgs false
open Go.RowKit Go.Proofs.YthfhnkpipdbekaaDoorW.PrintWords Go.Proofs.YthfhnkpipdbekaaDoorW.PrintLast Go.Proofs.YthfhnkpipdbekaaDoorW.PrintMore
open Ua Ta Giv Tb
def chgN (l : List S67) : Nat → Nat
 | 0 => 0
 | i + 1 => chgN l i ||| (i ^^^ Giv.runN i l)
def okK (l : List S67) (i k : Nat) : Bool := !(chgN l i).testBit k
theorem okK_next (l : List S67) (i k : Nat) : okK l (i + 1) k = (okK l i k && (i.testBit k == (Giv.runN i l).testBit k)) := by
 show (!(chgN l i ||| (i ^^^ Giv.runN i l)).testBit k) = ((!(chgN l i).testBit k) && (i.testBit k == (Giv.runN i l).testBit k))
 rw [Nat.testBit_or, Nat.testBit_xor]
 cases (chgN l i).testBit k <;> cases i.testBit k <;> cases (Giv.runN i l).testBit k <;> rfl
def restL (n : Nat) (l : List S67) : List Bool := (List.range n).map (okK l (2 ^ n))
theorem chg_lt {n : Nat} {l : List S67} (hr : ∀ o ∈ l, rightB (n : Int) o = true) : ∀ i, i ≤ 2 ^ n → chgN l i < 2 ^ n
 | 0, _ => Nat.two_pow_pos n
 | i + 1, h => Nat.or_lt_two_pow (chg_lt hr i (by omega)) (Nat.xor_lt_two_pow (show i < 2 ^ n by omega) (runL_bits l hr (show i < 2 ^ n by omega)).2)
theorem permL_get {n : Nat} {l : List S67} {i : Nat} (hi : i < 2 ^ n) : rd (permL n l) (i : Int) = ((Giv.runN i l : Nat) : Int) := by
 rw [rd_at _ _ (by simp [permL]; exact hi)]
 simp [permL]
theorem permL_len (n : Nat) (l : List S67) : (permL n l).length = 2 ^ n := by simp [permL]
theorem rest_l1 {n : Nat} {l : List S67} (hr : ∀ o ∈ l, rightB (n : Int) o = true) (hn : n ≤ 20) : ∀ (d j : Nat), j + d = n → Ev (fun k => undo_Restores.l1 k ((chgN l (2 ^ n) : Nat) : Int) ((List.range j).map (okK l (2 ^ n)) ++ List.replicate (n - j) false) (n : Int) (j : Int)) (restL n l, 0)
 | 0, j, h => by
  obtain rfl : j = n := by omega
  refine EvS fun k => ?_
  simp only [undo_Restores.l1]
  rw [if_neg (by omega), fill_end]; rfl
 | d + 1, j, h => by
  refine Ev1 (rest_l1 hr hn d (j + 1) (by omega)) fun k => ?_
  have hc := chg_lt hr (2 ^ n) (Nat.le_refl _)
  have e : (Go.bits .and .i64 (shr .i64 ((chgN l (2 ^ n) : Nat) : Int) (j : Int)) 1 == 0) = okK l (2 ^ n) j := by
   have s := b_shr (chgN l (2 ^ n)) (j : Int) (by omega) (by omega)
   rw [s, Int.toNat_natCast, show (1 : Int) = ((1 : Nat) : Int) from rfl, b_and _ _ (lt62 (shr_lt hc j) hn) (by decide), Nat.and_one_is_mod, Nat.shiftRight_eq_div_pow]
   unfold okK
   rw [Nat.testBit_eq_decide_div_mod_eq, Bool.eq_iff_iff, beq_iff_eq, Bool.not_eq_true', decide_eq_false_iff_not]
   omega
  simp only [undo_Restores.l1]
  rw [if_pos (by omega), if_pos (by omega), if_pos (by simp; omega), w64 _ (by omega), e, Int.toNat_natCast, fill_set (okK l (2 ^ n)) false n j (by omega)]
theorem rest_l0 {n : Nat} {l : List S67} (hr : ∀ o ∈ l, rightB (n : Int) o = true) (hn : n ≤ 20) : ∀ (d i : Nat), i + d = 2 ^ n → Ev (fun k => undo_Restores.l0 k ((chgN l i : Nat) : Int) (permL n l) ((2 ^ n : Nat) : Int) (i : Int) (n : Int) l) (restL n l, 0)
 | 0, i, h => by
  obtain rfl : i = 2 ^ n := by omega
  refine Ev1 (rest_l1 hr hn n 0 (by omega)) fun k => ?_
  simp only [undo_Restores.l0]
  rw [if_neg (by omega), if_pos (by omega), Int.toNat_natCast, if_pos (by omega)]
  simp
 | d + 1, i, h => by
  have hp := pow_le n hn
  have hi : i < 2 ^ n := by omega
  refine Ev1 (rest_l0 hr hn d (i + 1) (by omega)) fun k => ?_
  have hrn := (runL_bits l hr hi).2
  simp only [undo_Restores.l0]
  rw [if_pos (by omega), if_pos (by omega), if_pos (by rw [permL_len]; omega), w64 _ (by omega), permL_get hi, b_xor _ _ (lt62 hi hn) (lt62 hrn hn), b_or _ _ (lt62 (chg_lt hr i (by omega)) hn) (lt62 (Nat.xor_lt_two_pow hi hrn) hn)]
  rfl
theorem restores_ev {n : Nat} {l : List S67} (hv : validB n l = true) (hn : n ≤ 20) (hc : (1 + l.length) * 2 ^ n ≤ 16777216) : Ev (fun k => undo_Restores.f k n l) (restL n l, 0) := by
 unfold undo_Restores.f
 refine Ev.bind (permutation_ev hv hn hc) ?_
 have h := rest_l0 (validB_all hv).2 hn (2 ^ n) 0 (by omega)
 refine EvC h fun k => ?_
 rw [if_pos rfl, permL_len]; rfl
def midL (n : Nat) (l : List S67) (i j : Nat) : List Bool := (List.range n).map fun k => if k < j then okK l (i + 1) k else okK l i k
theorem midL_get {n : Nat} {l : List S67} {i j : Nat} (hj : j < n) : rdOf false (midL n l i j) (j : Int) = okK l i j := by
 rw [rdb_at _ _ (by simp [midL]; exact hj)]
 simp [midL]
theorem midL_set {n : Nat} {l : List S67} {i j : Nat} (hj : j < n) : (midL n l i j).set j (okK l (i + 1) j) = midL n l i (j + 1) := by
 apply List.ext_getElem?
 intro k
 rw [List.getElem?_set]
 by_cases hk : k < n
 ·have e : ∀ j, (midL n l i j)[k]? = some (if k < j then okK l (i + 1) k else okK l i k) := fun j => by simp [midL, hk]
  rw [e, e]
  by_cases c : j = k
  ·subst c; rw [if_pos rfl, if_pos (by simp [midL]; exact hj), if_pos (by omega)]
  ·rw [if_neg c]
   by_cases c2 : k < j
   ·rw [if_pos c2, if_pos (by omega)]
   ·rw [if_neg c2, if_neg (by omega)]
 ·have e : ∀ j, (midL n l i j)[k]? = none := fun j => by simp [midL]; omega
  rw [e, e, if_neg (by omega)]
theorem midL_end (n : Nat) (l : List S67) (i : Nat) : midL n l i n = midL n l (i + 1) 0 := by
 unfold midL
 apply List.map_congr_left
 intro k hk
 rw [if_pos (List.mem_range.1 hk), if_neg (by omega)]
theorem refRest_l2 {n : Nat} {l : List S67} (hn : n ≤ 20) {i : Nat} (hi : i < 2 ^ n) (r : List Bool) (hr : Ev (fun k => commodatumref12_Restores.l1 k (midL n l (i + 1) 0) ((i + 1 : Nat) : Int) (n : Int) l) r) : ∀ (d j : Nat), j + d = n → Ev (fun k => commodatumref12_Restores.l2 k (midL n l i j) (i : Int) (bitsL n i) (bitsL n (Giv.runN i l)) (j : Int) (n : Int) l) r
 | 0, j, h => by
  obtain rfl : j = n := by omega
  rw [midL_end]
  have hp := pow_le j hn
  refine Ev1 hr fun k => ?_
  simp only [commodatumref12_Restores.l2]
  rw [if_neg (by omega), w64 _ (by omega)]
 | d + 1, j, h => by
  have hj : j < n := by omega
  have ih := refRest_l2 hn hi r hr d (j + 1) (by omega)
  rw [← midL_set hj, okK_next] at ih
  refine Ev1 ih fun k => ?_
  have hl : (midL n l i j).length = n := by simp [midL]
  simp only [commodatumref12_Restores.l2]
  rw [if_pos (by omega), if_pos (by omega), if_pos (by omega), midL_get hj, w64 _ (by omega), Int.toNat_natCast]
  have eb : ∀ t, rdOf false (bitsL n t) (j : Int) = t.testBit j := fun t => by rw [rd_bits (by rw [Int.toNat_natCast]; exact hj), Int.toNat_natCast]
  cases ho : okK l i j with
  | true => rw [if_pos rfl, if_pos (by rw [bitsL_len]; omega), if_pos (by rw [bitsL_len]; omega), eb, eb, Bool.true_and]
  | false => rw [if_neg (by simp), Bool.false_and]
theorem refRest_l1 {n : Nat} {l : List S67} (hr : ∀ o ∈ l, rightB (n : Int) o = true) (hn : n ≤ 20) (hl : l.length ≤ 200000) : ∀ (d i : Nat), i + d = 2 ^ n → Ev (fun k => commodatumref12_Restores.l1 k (midL n l i 0) (i : Int) (n : Int) l) (restL n l)
 | 0, i, h => by
  obtain rfl : i = 2 ^ n := by omega
  refine EvS fun k => ?_
  simp only [commodatumref12_Restores.l1]
  rw [if_pos (by omega), pow_int n hn, if_neg (by omega)]
  exact congrArg some (by unfold midL restL; exact List.map_congr_left (fun k _ => by rw [if_neg (by omega)]))
 | d + 1, i, h => by
  have hi : i < 2 ^ n := by omega
  have ih := refRest_l1 hr hn hl d (i + 1) (by omega)
  have h2 := refRest_l2 hn hi _ ih n 0 (by omega)
  obtain ⟨e1, e2⟩ := runL_bits l hr hi
  have hrun := refRun_ev (x := bitsL n i) (n : Int) hl (by rw [bitsL_len]; omega) (fun o ho => by rw [bitsL_len]; exact hr o ho)
  rw [e1] at hrun
  refine Ev1 (f := fun k => (commodatumref12_Bits.f k (i : Int) (n : Int)).bind fun t => (commodatumref12_Run.f k (n : Int) l t).bind fun t2 => commodatumref12_Restores.l2 k (midL n l i 0) (i : Int) t t2 0 (n : Int) l) (Ev.bind (refBits_ev hn hi) (Ev.bind hrun h2)) fun k => ?_
  simp only [commodatumref12_Restores.l1]
  rw [if_pos (by omega), pow_int n hn, if_pos (by omega)]
theorem refRest_l0 {n : Nat} {l : List S67} (hn : n ≤ 20) (r : List Bool) (h1 : Ev (fun k => commodatumref12_Restores.l1 k ((List.range n).map fun _ => true) 0 (n : Int) l) r) : ∀ (d j : Nat), j + d = n → Ev (fun k => commodatumref12_Restores.l0 k ((List.range j).map (fun _ => true) ++ List.replicate (n - j) false) (j : Int) (n : Int) l) r
 | 0, j, h => by
  obtain rfl : j = n := by omega
  refine Ev1 h1 fun k => ?_
  simp only [commodatumref12_Restores.l0]
  rw [if_neg (by omega), fill_end]
 | d + 1, j, h => by
  refine Ev1 (refRest_l0 hn r h1 d (j + 1) (by omega)) fun k => ?_
  simp only [commodatumref12_Restores.l0]
  rw [if_pos (by omega), if_pos (by omega), if_pos (by simp; omega), w64 _ (by omega), Int.toNat_natCast, fill_set (fun _ => true) false n j (by omega)]
theorem refRest_ev {n : Nat} {l : List S67} (hr : ∀ o ∈ l, rightB (n : Int) o = true) (hn : n ≤ 20) (hl : l.length ≤ 200000) : Ev (fun k => commodatumref12_Restores.f k n l) (restL n l) := by
 have h1 := refRest_l1 hr hn hl (2 ^ n) 0 (by omega)
 have e : midL n l 0 0 = (List.range n).map fun _ => true := by
  unfold midL
  apply List.map_congr_left
  intro k _
  simp [okK, chgN]
 rw [e] at h1
 have h := refRest_l0 hn _ h1 n 0 (by omega)
 refine EvC h fun k => ?_
 unfold commodatumref12_Restores.f
 rw [if_pos (by omega), Int.toNat_natCast, if_pos (by omega)]
 simp
end Go.Proofs.YthfhnkpipdbekaaDoor.Pure
