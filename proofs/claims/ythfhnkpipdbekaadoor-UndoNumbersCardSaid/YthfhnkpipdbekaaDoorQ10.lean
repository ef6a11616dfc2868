-- CUT by a program of this session: what the claim does not use is left out
import Derived.Test.YthfhnkpipdbekaaDoorQ9
namespace Go.Proofs.YthfhnkpipdbekaaDoor.Pure
set_option linter.unusedVariables false
set_option linter.unusedSimpArgs false
open Go.RowKit Go.Proofs.YthfhnkpipdbekaaDoorW.PrintWords Go.Proofs.YthfhnkpipdbekaaDoorW.PrintLast Go.Proofs.YthfhnkpipdbekaaDoorW.PrintMore
open Ua Ta Giv Tb
theorem refRun_l0 {l : List S67} (hl : l.length ≤ 200000) (m : Int) : ∀ (d j : Nat) (x : List Bool), (∀ o ∈ l, rightB x.length o = true) → j + d = l.length → Ev (fun k => commodatumref12_Run.l0 k x (j : Int) m l) (runL x (l.drop j))
 | 0, j, x, hr, h => by
  rw [List.drop_eq_nil_of_le (by omega)]
  refine EvS fun k => ?_
  simp only [commodatumref12_Run.l0]
  rw [if_neg (by omega)]; rfl
 | d + 1, j, x, hr, h => by
  have hj : j < l.length := by omega
  have ho := hr _ (List.getElem_mem hj)
  have ih := refRun_l0 hl m d (j + 1) (runOp x l[j]) (fun o h => by rw [runOp_len]; exact hr o h) (by omega)
  have er : runL x (l.drop j) = runL (runOp x l[j]) (l.drop (j + 1)) := by rw [List.drop_eq_getElem_cons hj]; rfl
  rw [er]
  refine Ev1 ih fun k => ?_
  obtain ⟨⟨a0, a1⟩, hb, hc, hk⟩ := rightB_in ho
  simp only [commodatumref12_Run.l0]
  rw [if_pos (by omega), if_pos (by omega), rdT_at _ _ hj, w64 _ (by omega)]
  generalize l[j] = o at *
  obtain ⟨k0, a, b, c⟩ := o
  dsimp only at *
  unfold runOp
  dsimp only
  by_cases e0 : k0 = 0
  ·rw [if_pos e0, if_pos a0, if_pos a1, if_pos e0]
  ·obtain ⟨b0, b1⟩ := hb e0
   rw [if_neg e0, if_neg e0]
   by_cases e1 : k0 = 1
   ·rw [if_pos e1, if_pos a0, if_pos a1, if_pos b0, if_pos b1, if_pos e1]
   ·rw [if_neg e1, if_neg e1]
    by_cases e2 : k0 = 2
    ·obtain ⟨c0, c1⟩ := hc e2
     rw [if_pos e2, if_pos a0, if_pos a1, if_pos b0, if_pos b1, if_pos e2]
     cases hB : rdOf false x b with
     | true => rw [if_pos rfl, if_pos c0, if_pos c1, Bool.true_and]
     | false => rw [if_neg (by simp), Bool.false_and]
    ·rw [if_neg e2, if_pos (show k0 = 3 by omega), if_pos a0, if_pos a1, if_pos b0, if_pos b1, if_neg e2]
theorem refRun_ev {l : List S67} {x : List Bool} (m : Int) (hl : l.length ≤ 200000) (hx : x.length < 10000000) (hr : ∀ o ∈ l, rightB x.length o = true) : Ev (fun k => commodatumref12_Run.f k m l x) (runL x l) := by
 have h := refRun_l0 hl m l.length 0 x hr (by omega)
 rw [List.drop_zero] at h
 refine EvC h fun k => ?_
 unfold commodatumref12_Run.f
 simp only [Option.bind_some, List.nil_append, List.length_nil]
 rw [if_pos (by omega)]; rfl
theorem bit_eq {i n : Nat} (hn : n ≤ 20) (hi : i < 2 ^ n) (j : Nat) (hj : j ≤ 40) : (Go.bits .and .i64 (shr .i64 (i : Int) (j : Int)) 1 == 1) = i.testBit j := by
 have s := b_shr i (j : Int) (by omega) (by omega)
 rw [s, Int.toNat_natCast, show (1 : Int) = ((1 : Nat) : Int) from rfl, b_and _ _ (lt62 (shr_lt hi j) hn) (by decide), Nat.and_one_is_mod, Nat.shiftRight_eq_div_pow]
 rw [Nat.testBit_eq_decide_div_mod_eq]
 rw [Bool.eq_iff_iff, beq_iff_eq, decide_eq_true_eq]
 omega
theorem refBits_l0 {i n : Nat} (hn : n ≤ 20) (hi : i < 2 ^ n) : ∀ (d j : Nat), j + d = n → Ev (fun k => commodatumref09_Bits.l0 k (i : Int) (n : Int) ((List.range j).map (fun t => i.testBit t) ++ List.replicate (n - j) false) (j : Int)) (bitsL n i)
 | 0, j, h => by
  obtain rfl : j = n := by omega
  refine EvS fun k => ?_
  simp only [commodatumref09_Bits.l0]
  rw [if_neg (by omega), fill_end]; rfl
 | d + 1, j, h => by
  refine Ev1 (refBits_l0 hn hi d (j + 1) (by omega)) fun k => ?_
  simp only [commodatumref09_Bits.l0]
  rw [if_pos (by omega), if_pos (by omega), if_pos (by simp; omega), w64 _ (by omega), bit_eq hn hi j (by omega), Int.toNat_natCast, fill_set (fun t => i.testBit t) false n j (by omega)]
theorem refBits_ev {i n : Nat} (hn : n ≤ 20) (hi : i < 2 ^ n) : Ev (fun k => commodatumref12_Bits.f k (i : Int) (n : Int)) (bitsL n i) := by
 unfold commodatumref12_Bits.f commodatumref09_Bits.f
 refine Ev.bind (a := bitsL n i) ?_ (Ev.now _)
 refine EvC (refBits_l0 hn hi n 0 (by omega)) fun k => ?_
 rw [if_pos (by omega), Int.toNat_natCast, if_pos (by omega)]
 simp
theorem numL_drop (x : List Bool) (j : Nat) (h : j < x.length) : numL (x.drop j) = (if x[j] then 1 else 0) + 2 * numL (x.drop (j + 1)) := by
 rw [List.drop_eq_getElem_cons h]; rfl
theorem refNum_l0 (x : List Bool) (hx : x.length ≤ 20) : ∀ (d j s : Nat), j + d = x.length → s < 2 ^ j → Ev (fun k => commodatumref12_Number.l0 k x (s : Int) (j : Int)) ((s + 2 ^ j * numL (x.drop j) : Nat) : Int)
 | 0, j, s, h, hs => by
  rw [List.drop_eq_nil_of_le (by omega)]
  refine EvS fun k => ?_
  simp only [commodatumref12_Number.l0]
  rw [if_neg (by omega)]; simp [numL]
 | d + 1, j, s, h, hs => by
  have hj : j < x.length := by omega
  have hp := pow_le j (by omega)
  have sh := (b_shl 1 (j : Int) (by omega) (by omega) (by decide)).1
  rw [Int.toNat_natCast, Nat.one_shiftLeft] at sh
  rw [numL_drop x j hj]
  by_cases hb : x[j] = true
  ·have ih := refNum_l0 x hx d (j + 1) (s + 2 ^ j) (by omega) (by rw [Nat.pow_succ]; omega)
   have e : s + 2 ^ j * ((if x[j] then 1 else 0) + 2 * numL (x.drop (j + 1))) = s + 2 ^ j + 2 ^ (j + 1) * numL (x.drop (j + 1)) := by
    rw [if_pos hb, Nat.pow_succ, Nat.mul_add, Nat.mul_one, Nat.mul_assoc, Nat.add_assoc]
   rw [e]
   refine Ev1 ih fun k => ?_
   simp only [commodatumref12_Number.l0]
   rw [if_pos (by omega), if_pos (by omega), rdb_at _ _ hj, if_pos hb, w64 _ (by omega), show (1 : Int) = ((1 : Nat) : Int) from rfl, sh]
   rw [show wrap64 ((s : Int) + ((2 ^ j : Nat) : Int)) = ((s + 2 ^ j : Nat) : Int) by unfold wrap64; omega]
  ·have ih := refNum_l0 x hx d (j + 1) s (by omega) (by rw [Nat.pow_succ]; omega)
   have e : s + 2 ^ j * ((if x[j] then 1 else 0) + 2 * numL (x.drop (j + 1))) = s + 2 ^ (j + 1) * numL (x.drop (j + 1)) := by
    rw [if_neg hb, Nat.pow_succ, Nat.zero_add, Nat.mul_assoc]
   rw [e]
   refine Ev1 ih fun k => ?_
   simp only [commodatumref12_Number.l0]
   rw [if_pos (by omega), if_pos (by omega), rdb_at _ _ hj, if_neg hb, w64 _ (by omega)]
theorem refNum_ev (x : List Bool) (hx : x.length ≤ 20) : Ev (fun k => commodatumref12_Number.f k x) ((numL x : Nat) : Int) := by
 have h := refNum_l0 x hx x.length 0 0 (by omega) (by decide)
 rw [List.drop_zero, Nat.zero_add, Nat.pow_zero, Nat.one_mul] at h
 exact h
theorem refPerm_l0 {n : Nat} {l : List S67} (hr : ∀ o ∈ l, rightB (n : Int) o = true) (hn : n ≤ 20) (hl : l.length ≤ 200000) : ∀ (d i : Nat), i + d = 2 ^ n → Ev (fun k => commodatumref12_Permutation.l0 k ((List.range i).map (fun i => ((Giv.runN i l : Nat) : Int)) ++ List.replicate (2 ^ n - i) 0) (i : Int) (n : Int) l) (permL n l)
 | 0, i, h => by
  obtain rfl : i = 2 ^ n := by omega
  refine EvS fun k => ?_
  simp only [commodatumref12_Permutation.l0]
  rw [if_neg (by simp), fill_end]; rfl
 | d + 1, i, h => by
  have hp := pow_le n hn
  have hi : i < 2 ^ n := by omega
  have ih := refPerm_l0 hr hn hl d (i + 1) (by omega)
  obtain ⟨e1, e2⟩ := runL_bits l hr hi
  have hrun := refRun_ev (x := bitsL n i) (n : Int) hl (by rw [bitsL_len]; omega) (fun o ho => by rw [bitsL_len]; exact hr o ho)
  rw [e1] at hrun
  have hnum := refNum_ev (bitsL n (Giv.runN i l)) (by rw [bitsL_len]; exact hn)
  rw [numL_of e2] at hnum
  refine Ev1 (f := fun k => (commodatumref12_Bits.f k (i : Int) (n : Int)).bind fun t => (commodatumref12_Run.f k (n : Int) l t).bind fun t => (commodatumref12_Number.f k t).bind fun t => commodatumref12_Permutation.l0 k (((List.range i).map (fun i => ((Giv.runN i l : Nat) : Int)) ++ List.replicate (2 ^ n - i) 0).set i t) ((i + 1 : Nat) : Int) (n : Int) l) ?_ fun k => ?_
  ·refine Ev.bind (refBits_ev hn hi) (Ev.bind hrun (Ev.bind hnum ?_))
   rw [fill_set (fun i => ((Giv.runN i l : Nat) : Int)) 0 (2 ^ n) i hi]
   exact ih
  ·simp only [commodatumref12_Permutation.l0]
   rw [if_pos (by simp; omega), w64 _ (by omega)]
   first
    | rfl
    | (congr 1; done)
    | (congr 1; funext t; congr 1; funext t; congr 1; funext t; rw [if_pos (by omega), Int.toNat_natCast])
theorem refPerm_ev {n : Nat} {l : List S67} (hr : ∀ o ∈ l, rightB (n : Int) o = true) (hn : n ≤ 20) (hl : l.length ≤ 200000) : Ev (fun k => commodatumref12_Permutation.f k n l) (permL n l) := by
 have h := refPerm_l0 hr hn hl (2 ^ n) 0 (by omega)
 have hp := pow_le n hn
 refine EvC h fun k => ?_
 unfold commodatumref12_Permutation.f
 rw [if_pos (by omega), pow_int n hn, if_pos (Int.natCast_nonneg _), Int.toNat_natCast, if_pos (by omega)]
 simp
theorem numbers_l0 (x : List Int) (hx : x.length < 10000000) : ∀ d i, i + d = x.length → Ev (fun k => commodatumlaw12_numbers.l0 k x x (i : Int)) true
 | 0, i, h => by
  refine EvS fun k => ?_
  simp only [commodatumlaw12_numbers.l0]
  rw [if_neg (by omega)]
 | d + 1, i, h => by
  refine Ev1 (numbers_l0 x hx d (i + 1) (by omega)) fun k => ?_
  simp only [commodatumlaw12_numbers.l0]
  rw [if_pos (by omega), if_pos (by omega), if_pos (by omega), if_pos trivial, w64 _ (by omega)]
theorem numbers_ev (x : List Int) (hx : x.length < 10000000) : Ev (fun k => commodatumlaw12_numbers.f k x x) true := by
 have h := numbers_l0 x hx x.length 0 (by omega)
 refine EvC h fun k => ?_
 unfold commodatumlaw12_numbers.f
 rw [if_pos rfl]; rfl
end Go.Proofs.YthfhnkpipdbekaaDoor.Pure
