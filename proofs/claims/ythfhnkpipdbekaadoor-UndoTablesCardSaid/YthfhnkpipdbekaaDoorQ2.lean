-- CUT by a program of this session: what the claim does not use is left out
import Derived.Test.YthfhnkpipdbekaaDoorN5
import Derived.Test.YthfhnkpipdbekaaDoorQ1
namespace Go.Proofs.YthfhnkpipdbekaaDoor.Giv
set_option linter.unusedVariables false
set_option linter.unusedSimpArgs false
open Go.RowKit Go.Shelf Go.Proofs.YthfhnkpipdbekaaDoorW.PrintWords Go.Proofs.YthfhnkpipdbekaaDoorW.PrintLast Go.Proofs.YthfhnkpipdbekaaDoorW.PrintMore
open Go.Proofs.YthfhnkpipdbekaaDoor.Ua (S67 k67 z67 rd_T67 at_T67)
theorem rightB_apart {n : Int} {o : S67} (h : rightB n o = true) : (o.f0 ≠ 0 → o.f1 ≠ o.f2) ∧ (o.f0 = 2 → o.f1 ≠ o.f3) := by
 unfold rightB inB at h
 repeat' split at h
 all_goals (simp at h; try omega)
theorem rd_set_same {x : List Bool} {a : Int} {v : Bool} (h : a.toNat < x.length) : rdOf false (x.set a.toNat v) a = v := by
 simp [rdOf, List.getD_eq_getElem?_getD, List.getElem?_set, h]
theorem rd_set_other {x : List Bool} {a b : Int} {v : Bool} (ha : 0 ≤ a) (hb : 0 ≤ b) (h : a ≠ b) : rdOf false (x.set a.toNat v) b = rdOf false x b := by
 have : ¬ a.toNat = b.toNat := by omega
 simp [rdOf, List.getD_eq_getElem?_getD, List.getElem?_set, this]
theorem rd_bits {n i : Nat} {a : Int} (h : a.toNat < n) : rdOf false (bitsL n i) a = i.testBit a.toNat := bitsL_getD n i _ h
def fopO (i : Nat) (o : S67) : Nat := fopN o.f0.toNat o.f1.toNat o.f2.toNat o.f3.toNat i
def runN (i : Nat) (l : List S67) : Nat := l.foldl fopO i
theorem runOp_bits {n i : Nat} {o : S67} (h : rightB n o = true) : runOp (bitsL n i) o = bitsL n (fopO i o) := by
 obtain ⟨⟨a0, a1⟩, hb, hc, hk⟩ := rightB_in h
 obtain ⟨hab, hac⟩ := rightB_apart h
 have ra := rd_bits (n := n) (i := i) (a := o.f1) (by omega)
 unfold runOp fopO
 by_cases k0 : o.f0 = 0
 ·rw [if_pos k0, k0, ra]; exact (fop0 _ _ _ _ _).symm
 ·obtain ⟨b0, b1⟩ := hb k0
  have nab := hab k0
  have rb := rd_bits (n := n) (i := i) (a := o.f2) (by omega)
  rw [if_neg k0]
  by_cases k1 : o.f0 = 1
  ·rw [if_pos k1, k1, ra, rb]; exact (fop1 _ _ _ _ _).symm
  ·rw [if_neg k1]
   by_cases k2 : o.f0 = 2
   ·obtain ⟨c0, c1⟩ := hc k2
    have rc := rd_bits (n := n) (i := i) (a := o.f3) (by omega)
    rw [if_pos k2, k2, ra, rb, rc]; exact (fop2 _ _ _ _ _).symm
   ·have k3 : o.f0 = 3 := by omega
    rw [if_neg k2, k3, ra, rb]; exact (fop3 _ _ _ _ _ (by omega)).symm
theorem fopO_lt {n i : Nat} {o : S67} (h : rightB n o = true) (hi : i < 2 ^ n) : fopO i o < 2 ^ n := by
 obtain ⟨⟨a0, a1⟩, hb, hc, hk⟩ := rightB_in h
 exact fop_lt hi (by omega) (fun e => by have := hb (by omega); omega) (by omega)
theorem runL_bits : ∀ (l : List S67) {n i : Nat}, (∀ o ∈ l, rightB n o = true) → i < 2 ^ n → runL (bitsL n i) l = bitsL n (runN i l) ∧ runN i l < 2 ^ n
 | [], _, _, _, hi => ⟨rfl, hi⟩
 | o :: l, n, i, h, hi => by
  have h0 := h o List.mem_cons_self
  obtain ⟨h1, h2⟩ := runL_bits l (n := n) (i := fopO i o) (fun p hp => h p (List.mem_cons_of_mem _ hp)) (fopO_lt h0 hi)
  refine ⟨?_, h2⟩
  have e : runL (bitsL n i) (o :: l) = runL (runOp (bitsL n i) o) l := rfl
  rw [e, runOp_bits h0, h1]
  rfl
end Go.Proofs.YthfhnkpipdbekaaDoor.Giv
