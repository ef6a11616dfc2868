-- CUT by a program of this session: what the claim does not use is left out
import Derived.Laws.BitsLemmas
namespace Go.Proofs.YthfhnkpipdbekaaDoor.Giv
def bitsL (n i : Nat) : List Bool := (List.range n).map fun k => i.testBit k
theorem bitsL_len (n i : Nat) : (bitsL n i).length = n := by simp [bitsL]
theorem bitsL_get {n i k : Nat} (h : k < n) : (bitsL n i)[k]? = some (i.testBit k) := by simp [bitsL, h]
theorem bitsL_getD (n i k : Nat) (h : k < n) : (bitsL n i).getD k false = i.testBit k := by
 rw [List.getD_eq_getElem?_getD, bitsL_get h]; rfl
theorem tb_one (k : Nat) : (1 : Nat).testBit k = decide (k = 0) := by
 cases k with
 | zero => rfl
 | succ k => simp [Nat.testBit_succ]
theorem tb_bit (x a k : Nat) : ((x &&& 1) <<< a).testBit k = (decide (k = a) && x.testBit 0) := by
 rw [Nat.testBit_shiftLeft, Nat.testBit_and, tb_one]
 by_cases h : k = a
 ·subst h; simp
 ·by_cases h2 : a ≤ k
  ·have : k - a ≠ 0 := by omega
   simp [h, this]
  ·simp [h, h2]
def fopN (k a b c i : Nat) : Nat :=
 if k = 0 then i ^^^ (1 <<< a)
 else if k = 1 then i ^^^ (((i >>> b) &&& 1) <<< a)
 else if k = 2 then i ^^^ ((((i >>> b) &&& (i >>> c)) &&& 1) <<< a)
 else i ^^^ (((((i >>> a) ^^^ (i >>> b)) &&& 1) <<< a) ||| ((((i >>> a) ^^^ (i >>> b)) &&& 1) <<< b))
theorem tb_not (i a k : Nat) : (i ^^^ (1 <<< a)).testBit k = if k = a then !(i.testBit a) else i.testBit k := by
 have h := tb_bit 1 a k
 rw [show (1 : Nat) &&& 1 = 1 from rfl] at h
 rw [Nat.testBit_xor, h]
 by_cases e : k = a
 ·subst e; simp
 ·simp [e]
theorem tb_xor (i x a k : Nat) : (i ^^^ ((x &&& 1) <<< a)).testBit k = if k = a then i.testBit a != x.testBit 0 else i.testBit k := by
 rw [Nat.testBit_xor, tb_bit]
 by_cases e : k = a
 ·subst e; simp
 ·simp [e]
theorem tb_shr0 (i b : Nat) : (i >>> b).testBit 0 = i.testBit b := by rw [Nat.testBit_shiftRight]; simp
theorem bitsL_put {n i j a : Nat} {v : Bool} (h : ∀ k, k < n → j.testBit k = if k = a then v else i.testBit k) : bitsL n j = (bitsL n i).set a v := by
 apply List.ext_getElem?
 intro k
 by_cases hk : k < n
 ·rw [bitsL_get hk, List.getElem?_set, h k hk]
  by_cases e : a = k
  ·subst e; simp [bitsL_len, hk]
  ·rw [if_neg e, bitsL_get hk, if_neg (fun x => e x.symm)]
 ·rw [List.getElem?_eq_none (by simp [bitsL_len]; omega), List.getElem?_eq_none (by simp [bitsL_len]; omega)]
theorem fop0 (n a b c i : Nat) : bitsL n (fopN 0 a b c i) = (bitsL n i).set a (!(i.testBit a)) := bitsL_put (fun k _ => tb_not i a k)
theorem fop1 (n a b c i : Nat) : bitsL n (fopN 1 a b c i) = (bitsL n i).set a (i.testBit a != i.testBit b) := by
 refine bitsL_put (fun k _ => ?_)
 have := tb_xor i (i >>> b) a k
 rw [tb_shr0] at this
 exact this
theorem fop2 (n a b c i : Nat) : bitsL n (fopN 2 a b c i) = (bitsL n i).set a (i.testBit a != (i.testBit b && i.testBit c)) := by
 refine bitsL_put (fun k _ => ?_)
 have := tb_xor i ((i >>> b) &&& (i >>> c)) a k
 rw [Nat.testBit_and, tb_shr0, tb_shr0] at this
 exact this
theorem fop3 (n a b c i : Nat) (hab : a ≠ b) : bitsL n (fopN 3 a b c i) = ((bitsL n i).set a (i.testBit b)).set b (i.testBit a) := by
 have h : ∀ k, (fopN 3 a b c i).testBit k = if k = b then i.testBit a else if k = a then i.testBit b else i.testBit k := by
  intro k
  show (i ^^^ (((((i >>> a) ^^^ (i >>> b)) &&& 1) <<< a) ||| ((((i >>> a) ^^^ (i >>> b)) &&& 1) <<< b))).testBit k = _
  rw [Nat.testBit_xor, Nat.testBit_or, tb_bit, tb_bit, Nat.testBit_xor, tb_shr0, tb_shr0]
  by_cases e1 : k = b
  ·subst e1
   have : ¬ k = a := fun e => hab e.symm
   simp only [this, decide_false, decide_true, Bool.false_and, Bool.true_and, Bool.false_or, if_true]
   cases i.testBit a <;> cases i.testBit k <;> rfl
  ·by_cases e2 : k = a
   ·subst e2; simp [e1]
   ·simp [e1, e2]
 apply List.ext_getElem?
 intro k
 by_cases hk : k < n
 ·rw [bitsL_get hk, List.getElem?_set, List.getElem?_set, h k]
  by_cases e : b = k
  ·subst e; simp [bitsL_len, hk]
  ·rw [if_neg e, if_neg (fun x => e x.symm)]
   by_cases e2 : a = k
   ·subst e2; simp [bitsL_len, hk]
   ·rw [if_neg e2, if_neg (fun x => e2 x.symm), bitsL_get hk]
 ·rw [List.getElem?_eq_none (by simp [bitsL_len]; omega), List.getElem?_eq_none (by simp [bitsL_len]; omega)]
theorem fop_lt {n k a b c i : Nat} (hi : i < 2 ^ n) (ha : a < n) (hb : k = 3 → b < n) (hk : k ≤ 3) : fopN k a b c i < 2 ^ n := by
 have one : ∀ x a, a < n → ((x &&& 1) <<< a) < 2 ^ n := by
  intro x a ha
  rw [Nat.shiftLeft_eq]
  have : x &&& 1 ≤ 1 := Nat.and_le_right
  calc (x &&& 1) * 2 ^ a ≤ 1 * 2 ^ a := Nat.mul_le_mul_right _ this
   _ = 2 ^ a := Nat.one_mul _
   _ < 2 ^ n := Nat.pow_lt_pow_right (by decide) ha
 have one' : (1 <<< a : Nat) < 2 ^ n := by have := one 1 a ha; rwa [show (1 : Nat) &&& 1 = 1 from rfl] at this
 unfold fopN
 split
 ·exact Nat.xor_lt_two_pow hi one'
 ·split
  ·exact Nat.xor_lt_two_pow hi (one _ a ha)
  ·split
   ·exact Nat.xor_lt_two_pow hi (one _ a ha)
   ·exact Nat.xor_lt_two_pow hi (Nat.or_lt_two_pow (one _ a ha) (one _ b (hb (by omega))))
end Go.Proofs.YthfhnkpipdbekaaDoor.Giv
