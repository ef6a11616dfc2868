-- CUT by a program of this session: what the claim does not use is left out
import Derived.Test.YtjfhogholmabfaaDoorG2
namespace Go.Proofs.YtjfhogholmabfaaDoor.Pure
set_option linter.unusedVariables false
set_option linter.unusedSimpArgs false
open Go.RowKit Go.Proofs.YtjfhogholmabfaaDoorW.PrintWords Go.Proofs.YtjfhogholmabfaaDoorW.PrintLast Go.Proofs.YtjfhogholmabfaaDoorW.PrintMore
open Pa Giv
def bytes (s : ByteArray) : List Nat := s.data.toList.map UInt8.toNat
def Said_ (n : Nat) (s : ByteArray) (p : List Int) : Prop := validB p = true ∧ p.length = n ∧ textR p = s
theorem parse_yes {n : Nat} {s : ByteArray} {p : List Int} (h : Said_ n s p) : perm_Parse.f s n = some (p, 0) := by
  obtain ⟨hv, rfl, rfl⟩ := h
  have h28 := size_textR hv
  obtain ⟨h1, h7, _⟩ := of_decide_eq_true hv
  unfold perm_Parse.f
  rw [if_pos (by omega), if_neg (by omega), Int.toNat_natCast, parse_text hv, if_pos ⟨hv, rfl⟩]
theorem parse_no {n : Nat} {s : ByteArray} (hs : s.size ≤ 100000) (h1 : 1 ≤ n) (h7 : n ≤ 7) (h : ∀ p, ¬ Said_ n s p) : perm_Parse.f s n = some ([], 3) := by
  unfold perm_Parse.f
  rw [if_pos hs, if_neg (by omega), Int.toNat_natCast, if_neg]
  rintro ⟨h1, h2⟩
  exact h _ ⟨h1, (points_parse n s s.size (Nat.le_refl _)).1, h2⟩
theorem parse_out {n : Int} {s : ByteArray} (hs : s.size ≤ 100000) (h : n < 1 ∨ 7 < n) : perm_Parse.f s n = some ([], 2) := by
  unfold perm_Parse.f
  rw [if_pos hs, if_pos h]
end Go.Proofs.YtjfhogholmabfaaDoor.Pure
