-- CUT by a program of this session: what the claim does not use is left out
import Derived.Test.YthfhnkpipdbekaaDoorQ20
namespace Go.Proofs.YthfhnkpipdbekaaDoor.Pure
set_option linter.unusedVariables false
set_option linter.unusedSimpArgs false
open Go.RowKit Go.Proofs.YthfhnkpipdbekaaDoorW.PrintWords Go.Proofs.YthfhnkpipdbekaaDoorW.PrintLast Go.Proofs.YthfhnkpipdbekaaDoorW.PrintMore
open Ua Ta Giv Tx
def fldN (k : Nat) : Nat := if k = 0 then 1 else if k = 2 then 3 else 2
def isK (ws : List ByteArray) (k : Nat) : Bool := ((ws.headD ByteArray.empty).toList == (wordS (k : Int)).toList) && decide (ws.length = 1 + fldN k)
def rdW (ws : List ByteArray) (j : Nat) : Int := if j < ws.length then readV (ws.getD j ByteArray.empty).data.toList else 0
def opK (ws : List ByteArray) (k : Nat) : S67 := ⟨(k : Int), rdW ws 1, rdW ws 2, rdW ws 3⟩
def kindR (ws : List ByteArray) : Nat → Nat → S67 × Bool
 | 0, _ => (⟨0, 0, 0, 0⟩, false)
 | d + 1, k => if isK ws k = true then (opK ws k, true) else kindR ws d (k + 1)
def readOpQ (s : ByteArray) : S67 × Bool := kindR (splR s Giv.blank 0 0) 4 0
theorem fields_nat {k : Nat} (hk : k < 4) : Ev (fun r => Ta.commodatumref12_fields.f r (k : Int)) (fldN k : Int) := by
 have h := fields_f (k : Int)
 have e : (if (k : Int) = 0 then 1 else if (k : Int) = 1 ∨ (k : Int) = 3 then 2 else if (k : Int) = 2 then 3 else 0 : Int) = (fldN k : Int) := by
  have : k = 0 ∨ k = 1 ∨ k = 2 ∨ k = 3 := by omega
  rcases this with rfl | rfl | rfl | rfl <;> rfl
 rw [← e]; exact h
theorem split_body {n : Int} {o : S67} (hn : n ≤ 1024) (h : rightB n o = true) : splR (Giv.bytesOf (bodyB o)) Giv.blank 0 0 = (wordB o.f0 :: (numsOf o).map Lib.itoa).map Giv.bytesOf := by
 refine splR_join (c := 32) (t := []) rfl ((numsOf o).map Lib.itoa) (wordB o.f0) 0 ?_ ?_
 ·rw [List.drop_zero]
  show bodyB o = _
  unfold bodyB
  rw [List.map_map]; rfl
 ·intro x hx b hb
  rcases List.mem_cons.1 hx with rfl | hx
  ·exact (word_no (rightB_in h).2.2.2).1 b hb
  ·obtain ⟨y, hy, rfl⟩ := List.mem_map.1 hx
   exact digits_no (itoa_digits (nums_small hn h y hy).1) 32 (by decide) b hb
theorem readOp_body {n : Int} {o : S67} (hn : n ≤ 1024) (h : rightB n o = true) : readOpQ (Giv.bytesOf (bodyB o)) = (o, true) := by
 unfold readOpQ
 rw [split_body hn h]
 have hs := nums_small hn h
 obtain ⟨_, hb, hc, hk⟩ := rightB_in h
 have hz : (o.f0 = 0 → o.f2 = 0 ∧ o.f3 = 0) ∧ (o.f0 = 1 ∨ o.f0 = 3 → o.f3 = 0) := by
  unfold rightB at h
  refine ⟨fun e => ?_, fun e => ?_⟩
  ·rw [if_pos e] at h; simp at h; exact ⟨h.1.2, h.2⟩
  ·rw [if_neg (by omega), if_pos e] at h; simp at h; exact h.2
 obtain ⟨k, a, b, c⟩ := o
 dsimp only at hk hz hb hc hs
 have rv : ∀ y : Int, 0 ≤ y ∧ y < 10000 → readV (Giv.bytesOf (Lib.itoa y)).data.toList = y := fun y hy => readV_itoa hy.1 hy.2
 have bo : ∀ l : List UInt8, (Giv.bytesOf l).toList = l := fun l => by
  rw [ByteArray.toList_eq]; rfl
 rcases hk with rfl | rfl | rfl | rfl
 ·obtain ⟨z1, z2⟩ := hz.1 rfl
  subst z1; subst z2
  have r1 := rv a (hs a (by simp [numsOf]))
  simp [kindR, isK, opK, rdW, numsOf, fldN, wordS, bo, r1, show (⟨(wordB 0).toArray⟩ : ByteArray) = Giv.bytesOf (wordB 0) from rfl]
 ·have z2 := hz.2 (.inl rfl)
  subst z2
  have r1 := rv a (hs a (by simp [numsOf]))
  have r2 := rv b (hs b (by simp [numsOf]))
  simp [kindR, isK, opK, rdW, numsOf, fldN, wordS, bo, r1, r2]
 ·have r1 := rv a (hs a (by simp [numsOf]))
  have r2 := rv b (hs b (by simp [numsOf]))
  have r3 := rv c (hs c (by simp [numsOf]))
  simp [kindR, isK, opK, rdW, numsOf, fldN, wordS, bo, r1, r2, r3]
 ·have z2 := hz.2 (.inr rfl)
  subst z2
  have r1 := rv a (hs a (by simp [numsOf]))
  have r2 := rv b (hs b (by simp [numsOf]))
  have d : ¬ wordB 3 = wordB 1 := by decide
  simp [kindR, isK, opK, rdW, numsOf, fldN, wordS, bo, r1, r2, d]
end Go.Proofs.YthfhnkpipdbekaaDoor.Pure
