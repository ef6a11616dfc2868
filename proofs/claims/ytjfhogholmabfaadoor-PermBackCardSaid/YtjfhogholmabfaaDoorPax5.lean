-- CUT by a program of this session: what the claim does not use is left out
import Derived.Test.YtjfhogholmabfaaDoorPax0
namespace Go.Proofs.YtjfhogholmabfaaDoor.Pa
open Go.Proofs.YtjfhogholmabfaaDoor.Giv
open Go.RowKit Go.Proofs.YtjfhogholmabfaaDoorW.PrintWords Go.Proofs.YtjfhogholmabfaaDoorW.PrintLast Go.Proofs.YtjfhogholmabfaaDoorW.PrintMore
attribute [local go_sem] max2_int min2_int max_two min_two max_three min_three max_four min_four   -- for this text's walks alone
set_option linter.unusedVariables false
set_option linter.unusedSimpArgs false

mutual
def commodatumref01_Cycles.l0 : Nat → List Int → List (List Int) → List Bool → Int → Option ((List (List Int)))
  | 0, _, _, _, _ => none
  | k + 1, x0, x3, x4, x5 => if x5 < (x0.length : Int) then (commodatumref01_Cycles.l1 k x0 x3 x4 x5 ([] : List Int) x5) else (some x3)
def commodatumref01_Cycles.l1 : Nat → List Int → List (List Int) → List Bool → Int → List Int → Int → Option ((List (List Int)))
  | 0, _, _, _, _, _, _ => none
  | k + 1, x0, x3, x4, x5, x6, x7 => if 0 ≤ x7 then (if x7 < (x4.length : Int) then (if rdOf false x4 x7 = true then (if (x6.length : Int) > 1 then (if x3.length < 5864062014805 then (commodatumref01_Cycles.l0 k x0 (x3 ++ [x6]) x4 (wrap64 (x5 + 1))) else (none)) else (commodatumref01_Cycles.l0 k x0 x3 x4 (wrap64 (x5 + 1)))) else (if x6.length < 17592186044416 then (if x7 < (x0.length : Int) then (commodatumref01_Cycles.l1 k x0 x3 (x4.set (x7 : Int).toNat true) x5 (x6 ++ [x7]) (rd x0 x7)) else (none)) else (none))) else (none)) else (none)
end
def commodatumref01_Cycles.f (k : Nat) (l0 : List Int) : Option ((List (List Int))) := if 0 ≤ (l0.length : Int) then (if ((l0.length : Int) : Int).toNat ≤ 281474976710656 then (commodatumref01_Cycles.l0 k l0 ([] : List (List Int)) (List.replicate ((l0.length : Int) : Int).toNat false) 0) else (none)) else (none)
mutual
def commodatumref01_Text.l0 : Nat → List (List Int) → ByteArray → Int → Option (ByteArray)
  | 0, _, _, _ => none
  | k + 1, x3, x4, x5 => if x5 < (x3.length : Int) then (commodatumref01_Text.l1 k x3 x4 x5 0) else (some x4)
def commodatumref01_Text.l1 : Nat → List (List Int) → ByteArray → Int → Int → Option (ByteArray)
  | 0, _, _, _, _ => none
  | k + 1, x3, x4, x5, x6 => if 0 ≤ x5 then (if x5 < (x3.length : Int) then (if x6 < ((rd_L1 x3 x5).length : Int) then (if x6 = 0 then (if x4.size + 1 ≤ 9223372036854775807 then (if 0 ≤ x6 then ((some (([(wrap64 (48 + (rd (rd_L1 x3 x5) x6))) % 256] : List Int) : List Int)).bind fun y236 => (if (x4 ++ (⟨#[40]⟩ : ByteArray)).size + (strOfNums y236).size ≤ 9223372036854775807 then (commodatumref01_Text.l1 k x3 ((x4 ++ (⟨#[40]⟩ : ByteArray)) ++ (strOfNums y236)) x5 (wrap64 (x6 + 1))) else (none))) else (none)) else (none)) else (if x4.size + 1 ≤ 9223372036854775807 then (if 0 ≤ x6 then ((some (([(wrap64 (48 + (rd (rd_L1 x3 x5) x6))) % 256] : List Int) : List Int)).bind fun y241 => (if (x4 ++ (⟨#[32]⟩ : ByteArray)).size + (strOfNums y241).size ≤ 9223372036854775807 then (commodatumref01_Text.l1 k x3 ((x4 ++ (⟨#[32]⟩ : ByteArray)) ++ (strOfNums y241)) x5 (wrap64 (x6 + 1))) else (none))) else (none)) else (none))) else (if x4.size + 1 ≤ 9223372036854775807 then (commodatumref01_Text.l0 k x3 (x4 ++ (⟨#[41]⟩ : ByteArray)) (wrap64 (x5 + 1))) else (none))) else (none)) else (none)
end
def commodatumref01_Text.f (k : Nat) (l0 : List Int) : Option (ByteArray) := (commodatumref01_Cycles.f k l0).bind fun t230 => (if (t230.length : Int) = 0 then (some (⟨#[40, 41]⟩ : ByteArray)) else (commodatumref01_Text.l0 k t230 (⟨#[]⟩ : ByteArray) 0))
def commodatumref01_Factorial.f : Nat → Int → Option (Int)
  | 0, _ => none
  | k + 1, a0 => if a0 < 2 then (some 1) else ((commodatumref01_Factorial.f k (wrap64 (a0 - 1))).bind fun t244 => (some (wrap64 (a0 * t244))))
theorem commodatumref01_Factorial.mono_l : ∀ k, (∀ y0, LeO (commodatumref01_Factorial.f k y0) (commodatumref01_Factorial.f (k + 1) y0))
  | 0 => fun _ r h => by simp [commodatumref01_Factorial.f] at h
  | k + 1 => by
    have ih0 := commodatumref01_Factorial.mono_l k
    · intro y0
      unfold commodatumref01_Factorial.f
      repeat' first
      | (with_reducible exact ih0 _)
      | (with_reducible exact LeO.refl _)
      | (with_reducible exact LeO.none _)
      | (with_reducible refine LeO.ite ?_ ?_)
      | (with_reducible refine LeO.bind ?_ (fun _ => ?_))
      | exact ih0 _
      | exact LeO.none _
      | refine LeO.ite ?_ ?_
      | refine LeO.bind ?_ (fun _ => ?_)
theorem commodatumref01_Factorial.mono : ∀ a0 k, LeO (commodatumref01_Factorial.f k a0) (commodatumref01_Factorial.f (k + 1) a0) := by
  intro a0 k
  have ih0 := commodatumref01_Factorial.mono_l k
  exact ih0 a0
mutual
def commodatumref01_Rank.l0 : Nat → List Int → Int → Int → Option (Int)
  | 0, _, _, _ => none
  | k + 1, x0, x3, x4 => if x4 < (x0.length : Int) then (commodatumref01_Rank.l1 k x0 x3 x4 0 (wrap64 (x4 + 1))) else (some x3)
def commodatumref01_Rank.l1 : Nat → List Int → Int → Int → Int → Int → Option (Int)
  | 0, _, _, _, _, _ => none
  | k + 1, x0, x3, x4, x5, x6 => if x6 < (x0.length : Int) then (if 0 ≤ x6 then (if 0 ≤ x4 then (if x4 < (x0.length : Int) then (if (rd x0 x6) < (rd x0 x4) then (commodatumref01_Rank.l1 k x0 x3 x4 (wrap64 (x5 + 1)) (wrap64 (x6 + 1))) else (commodatumref01_Rank.l1 k x0 x3 x4 x5 (wrap64 (x6 + 1)))) else (none)) else (none)) else (none)) else ((commodatumref01_Factorial.f k (wrap64 ((wrap64 ((x0.length : Int) - 1)) - x4))).bind fun t247 => (commodatumref01_Rank.l0 k x0 (wrap64 (x3 + (wrap64 (x5 * t247)))) (wrap64 (x4 + 1))))
end
def commodatumref01_Rank.f (k : Nat) (l0 : List Int) : Option (Int) := commodatumref01_Rank.l0 k l0 0 0
theorem commodatumref01_Rank.mono_l : ∀ k, (∀ y0 y1 y2, LeO (commodatumref01_Rank.l0 k y0 y1 y2) (commodatumref01_Rank.l0 (k + 1) y0 y1 y2)) ∧ (∀ y0 y1 y2 y3 y4, LeO (commodatumref01_Rank.l1 k y0 y1 y2 y3 y4) (commodatumref01_Rank.l1 (k + 1) y0 y1 y2 y3 y4))
  | 0 => ⟨fun _ _ _ r h => by simp [commodatumref01_Rank.l0] at h, fun _ _ _ _ _ r h => by simp [commodatumref01_Rank.l1] at h⟩
  | k + 1 => by
    obtain ⟨ih0, ih1⟩ := commodatumref01_Rank.mono_l k
    refine ⟨?_, ?_⟩
    · intro y0 y1 y2
      unfold commodatumref01_Rank.l0
      repeat' first
      | (with_reducible exact ih0 _ _ _)
      | (with_reducible exact ih1 _ _ _ _ _)
      | (with_reducible exact commodatumref01_Factorial.mono _ _)
      | (with_reducible exact LeO.refl _)
      | (with_reducible exact LeO.none _)
      | (with_reducible refine LeO.ite ?_ ?_)
      | (with_reducible refine LeO.bind ?_ (fun _ => ?_))
      | exact ih0 _ _ _
      | exact ih1 _ _ _ _ _
      | exact commodatumref01_Factorial.mono _ _
      | exact LeO.none _
      | refine LeO.ite ?_ ?_
      | refine LeO.bind ?_ (fun _ => ?_)
    · intro y0 y1 y2 y3 y4
      unfold commodatumref01_Rank.l1
      repeat' first
      | (with_reducible exact ih0 _ _ _)
      | (with_reducible exact ih1 _ _ _ _ _)
      | (with_reducible exact commodatumref01_Factorial.mono _ _)
      | (with_reducible exact LeO.refl _)
      | (with_reducible exact LeO.none _)
      | (with_reducible refine LeO.ite ?_ ?_)
      | (with_reducible refine LeO.bind ?_ (fun _ => ?_))
      | exact ih0 _ _ _
      | exact ih1 _ _ _ _ _
      | exact commodatumref01_Factorial.mono _ _
      | exact LeO.none _
      | refine LeO.ite ?_ ?_
      | refine LeO.bind ?_ (fun _ => ?_)
theorem commodatumref01_Rank.mono : ∀ a0 k, LeO (commodatumref01_Rank.f k a0) (commodatumref01_Rank.f (k + 1) a0) := by
  intro a0 k
  obtain ⟨ih0, ih1⟩ := commodatumref01_Rank.mono_l k
  unfold commodatumref01_Rank.f
  repeat' first
      | (with_reducible exact ih0 _ _ _)
      | (with_reducible exact ih1 _ _ _ _ _)
      | (with_reducible exact commodatumref01_Factorial.mono _ _)
      | (with_reducible exact LeO.refl _)
      | (with_reducible exact LeO.none _)
      | (with_reducible refine LeO.ite ?_ ?_)
      | (with_reducible refine LeO.bind ?_ (fun _ => ?_))
      | exact ih0 _ _ _
      | exact ih1 _ _ _ _ _
      | exact commodatumref01_Factorial.mono _ _
      | exact LeO.none _
      | refine LeO.ite ?_ ?_
      | refine LeO.bind ?_ (fun _ => ?_)
end Go.Proofs.YtjfhogholmabfaaDoor.Pa
