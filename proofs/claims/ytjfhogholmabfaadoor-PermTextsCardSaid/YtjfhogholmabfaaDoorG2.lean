-- CUT by a program of this session: what the claim does not use is left out
import Derived.Test.YtjfhogholmabfaaDoorG10
import Derived.Test.YtjfhogholmabfaaDoorG11
import Derived.Test.YtjfhogholmabfaaDoorG12
import Derived.Test.YtjfhogholmabfaaDoorG13
import Derived.Test.YtjfhogholmabfaaDoorG14
import Derived.Test.YtjfhogholmabfaaDoorG15
import Derived.Test.YtjfhogholmabfaaDoorG16
namespace Go.Proofs.YtjfhogholmabfaaDoor.Pure
set_option linter.unusedVariables false
set_option linter.unusedSimpArgs false
open Go.RowKit Go.Proofs.YtjfhogholmabfaaDoorW.PrintWords Go.Proofs.YtjfhogholmabfaaDoorW.PrintLast Go.Proofs.YtjfhogholmabfaaDoorW.PrintMore
open Pa Giv
theorem ch6 : allExt 6 chk 6 [] = true := allExt_of (fun i hi => by
  have : i = 0 ∨ i = 1 ∨ i = 2 ∨ i = 3 ∨ i = 4 ∨ i = 5 := by omega
  rcases this with rfl | rfl | rfl | rfl | rfl | rfl
  · exact .inr ch6_0
  · exact .inr ch6_1
  · exact .inr ch6_2
  · exact .inr ch6_3
  · exact .inr ch6_4
  · exact .inr ch6_5)
theorem ch7 : allExt 7 chk 7 [] = true := allExt_of (to6 (P := fun i => (i : Int) ∈ [] ∨ allExt 7 chk 6 ([] ++ [(i : Int)]) = true) (.inr ch7_0) (.inr ch7_1) (.inr ch7_2) (.inr ch7_3) (.inr ch7_4) (.inr ch7_5) (.inr ch7_6))
theorem chk_all {p : List Int} (hv : validB p = true) : chk p = true := by
  obtain ⟨h1, h7, hi, hn⟩ := of_decide_eq_true hv
  have key : ∀ n, p.length = n → allExt n chk n [] = true → chk p = true := fun n h ha =>
    allExt_mem h (by subst h; exact hi) hn n 0 (by omega) ha
  have : p.length = 1 ∨ p.length = 2 ∨ p.length = 3 ∨ p.length = 4 ∨ p.length = 5 ∨ p.length = 6 ∨ p.length = 7 := by omega
  rcases this with h | h | h | h | h | h | h
  · exact key _ h ch1
  · exact key _ h ch2
  · exact key _ h ch3
  · exact key _ h ch4
  · exact key _ h ch5
  · exact key _ h ch6
  · exact key _ h ch7
theorem cyc_eq : ∀ c : List Int, Into c 7 → Lib.join (c.map fun x => Lib.decDigits x.toNat) [32] ++ [41] = cycK c
  | [], _ => rfl
  | [x], h => by
    have := h x (by simp)
    simp [Lib.join, cycK, dec_small (show x.toNat < 10 by omega), List.intercalate, List.intersperse]
  | x :: y :: r, h => by
    have hx := h x (by simp)
    have ih := cyc_eq (y :: r) (fun z hz => h z (by simp [hz]))
    simp only [cycK]
    rw [← ih]
    simp [Lib.join, dec_small (show x.toNat < 10 by omega), List.intercalate, List.intersperse]
theorem textB_eq : ∀ l : List (List Int), (∀ c ∈ l, Into c 7) → textB l = (l.map fun c => 40 :: cycK c).flatten
  | [], _ => rfl
  | c :: r, h => by
    have ih := textB_eq r (fun d hd => h d (by simp [hd]))
    unfold textB at ih ⊢
    simp only [List.map_cons, List.flatten_cons, ih]
    rw [cycB, cyc_eq c (h c (by simp))]
theorem textR_eq {p : List Int} (hv : validB p = true) : textR p = ⟨(textKR p).toArray⟩ := by
  have h : textB (cycL p) = textK p := textB_eq _ fun c hc => ((cyc_all hv).2 c hc).1
  unfold textR textKR
  rw [h]
  split <;> rfl
theorem textR_list {p : List Int} (hv : validB p = true) : (textR p).data.toList = textKR p := by rw [textR_eq hv]
theorem chk_T {p : List Int} (hv : validB p = true) : ((((textKR p).map UInt8.toNat).foldl (stepP p.length) (idn p.length, [])).1 = p) ∧ ((((textKR p).map UInt8.toNat).foldl (stepQ p.length) (idn p.length, [])).1 = p) ∧ (((textKR p).map UInt8.toNat).any (badQ p.length)) = false ∧ (textKR p).length ≤ 28 := by
  have h := chk_all hv
  simp only [chk, chkT, Bool.and_eq_true, decide_eq_true_eq, Bool.not_eq_true', List.length_map] at h
  exact ⟨h.1.1.1.1.1, h.1.1.1.1.2, h.1.1.1.2, h.1.1.2⟩
theorem size_textR {p : List Int} (hv : validB p = true) : (textR p).size ≤ 28 := by
  rw [textR_eq hv]
  simpa [ByteArray.size] using (chk_T hv).2.2.2
theorem parse_text {p : List Int} (hv : validB p = true) : parseP p.length (textR p) = p := by
  have h := (chk_T hv).1
  unfold parseP parseN
  rw [show (textR p).data.toList.take (textR p).size = (textR p).data.toList from List.take_of_length_le (by simp), textR_list hv]
  exact h
theorem refText {p : List Int} (hv : validB p = true) : Ev (fun k => commodatumref01_Text.f k p) (textR p) := by
  refine Ev.of (k := 60) (commodatumref01_Text.mono _) ?_
  have h := chk_all hv
  simp only [chk, chkR, Bool.and_eq_true, beq_iff_eq] at h
  obtain ⟨s, hs, e⟩ := Option.map_eq_some_iff.1 h.1.2
  rw [hs, textR_eq hv, ← e]
theorem ranks {p : List Int} (hv : validB p = true) : ∃ a, Ev (fun k => commodatumref01_Rank.f k p) a ∧ Ev (fun k => perm_Rank.f k p) (a, 0) := by
  have h := chk_all hv
  simp only [chk, chkK, Bool.and_eq_true] at h
  have h := h.2
  split at h
  · rename_i a b e h1 h2
    simp only [Bool.and_eq_true, beq_iff_eq] at h
    obtain ⟨rfl, rfl⟩ := h
    exact ⟨_, Ev.of (commodatumref01_Rank.mono _) h1, Ev.of (perm_Rank.mono _) h2⟩
  · cases h
end Go.Proofs.YtjfhogholmabfaaDoor.Pure
