-- CUT by a program of this session: what the claim does not use is left out
import Derived.Lib.SplitLaws
import Derived.Lib.AtoiTie
import Derived.Lib.ItoaNum
namespace Go.Proofs.YtfoodfhhdbaieaaDoor.Giv
open Go.Lib
theorem idx_no {c : UInt8} {t : List UInt8} : ∀ {l : List UInt8}, (∀ b ∈ l, b ≠ c) → index l (c :: t) = -1
 | [], _ => rfl
 | b :: l, h => by
  have h0 := h b List.mem_cons_self
  rw [index, if_neg, if_pos]
  ·rw [idx_no (fun x hx => h x (List.mem_cons_of_mem _ hx))]; rfl
  ·simp [List.isPrefixOf, Ne.symm h0]
theorem idx_at {c : UInt8} {t r : List UInt8} : ∀ {a : List UInt8}, (∀ b ∈ a, b ≠ c) → index (a ++ ((c :: t) ++ r)) (c :: t) = (a.length : Int)
 | [], _ => by
  rw [List.nil_append, List.cons_append, index, if_pos]; rfl
  rw [List.isPrefixOf_iff_prefix]; exact ⟨r, rfl⟩
 | b :: a, h => by
  have h0 := h b List.mem_cons_self
  rw [List.cons_append, index, if_neg, idx_at (fun x hx => h x (List.mem_cons_of_mem _ hx)), if_neg]
  ·rw [List.length_cons]; omega
  ·simp
  ·simp [List.isPrefixOf, Ne.symm h0]
theorem split_no {c : UInt8} {t l : List UInt8} (h : ∀ b ∈ l, b ≠ c) : split l (c :: t) = [l] := by
 unfold split; rw [count_miss (idx_no h)]; rfl
theorem split_at {c : UInt8} {t a r : List UInt8} (h : ∀ b ∈ a, b ≠ c) : split (a ++ ((c :: t) ++ r)) (c :: t) = a :: split r (c :: t) := by
 have hi := idx_at (t := t) (r := r) h
 have hd : (a ++ ((c :: t) ++ r)).drop (a.length + (c :: t).length) = r := by
  rw [← List.append_assoc, List.drop_left' (by simp)]
 unfold split
 rw [count_hit (by simp) hi, hd, Nat.add_comm 1, splitK, if_neg, hi]
 ·rw [Int.toNat_natCast, hd, Nat.add_zero, List.take_left]
 ·rw [hi]; simp
theorem split_join {c : UInt8} {t : List UInt8} : ∀ {ps : List (List UInt8)} {p : List UInt8}, (∀ x ∈ p :: ps, ∀ b ∈ x, b ≠ c) → split (p ++ (ps.map fun x => (c :: t) ++ x).flatten) (c :: t) = p :: ps
 | [], p, h => by
  rw [List.map_nil, List.flatten_nil, List.append_nil]; exact split_no (h p List.mem_cons_self)
 | q :: ps, p, h => by
  rw [List.map_cons, List.flatten_cons, List.append_assoc, split_at (h p List.mem_cons_self), split_join (fun x hx => h x (List.mem_cons_of_mem _ hx))]
theorem digitVal_dg {d : Nat} (h : d < 10) : digitVal (UInt8.ofNat (48 + d)) = some d := by
 have : ∀ d : Fin 10, digitVal (UInt8.ofNat (48 + d.val)) = some d.val := by decide
 exact this ⟨d, h⟩
theorem decFrom_app : ∀ (l m : List UInt8) (acc n : Nat), decFrom acc l = some n → decFrom acc (l ++ m) = decFrom n m
 | [], m, acc, n, h => by simp [decFrom] at h; subst h; rfl
 | b :: l, m, acc, n, h => by
  rw [List.cons_append]
  rw [decFrom] at h ⊢
  cases hd : digitVal b with
  | none => rw [hd] at h; cases h
  | some d => rw [hd] at h; exact decFrom_app l m _ n h
theorem decFrom_dec (u : Nat) : decFrom 0 (decDigits u) = some u := by
 induction u using Nat.strongRecOn with
 | _ u ih =>
  rw [decDigits]
  split
  ·rename_i h
   unfold decFrom
   rw [digitVal_dg h]; simp [decFrom]
  ·rename_i h
   rw [decFrom_app _ _ _ _ (ih (u / 10) (by omega))]
   unfold decFrom
   rw [digitVal_dg (Nat.mod_lt _ (by decide))]
   simp [decFrom]; omega
theorem dec_ne (u : Nat) : decDigits u ≠ [] := by
 intro e
 have := decDigits_length u
 have := nDigits_pos u
 rw [e] at *; simp at *; omega
theorem dec_digits {u : Nat} : ∀ b ∈ decDigits u, 48 ≤ b.toNat ∧ b.toNat ≤ 57 := by
 induction u using Nat.strongRecOn with
 | _ u ih =>
  rw [decDigits]
  have one : ∀ d : Fin 10, 48 ≤ (UInt8.ofNat (48 + d.val)).toNat ∧ (UInt8.ofNat (48 + d.val)).toNat ≤ 57 := by decide
  split
  ·rename_i h
   intro b hb
   rw [List.mem_singleton.1 hb]
   exact one ⟨u, h⟩
  ·rename_i h
   intro b hb
   rcases List.mem_append.1 hb with hb | hb
   ·exact ih _ (by omega) b hb
   ·rw [List.mem_singleton.1 hb]
    exact one ⟨u % 10, Nat.mod_lt _ (by decide)⟩
theorem atoi_dec {u : Nat} (h : (decDigits u).length ≤ 18) : atoiAll (decDigits u) = .ok (u : Int) := by
 rw [atoiAll_short _ h]
 have hd := @dec_digits u
 have hf := decFrom_dec u
 have hne := dec_ne u
 generalize decDigits u = l at *
 cases l with
 | nil => exact absurd rfl hne
 | cons b r =>
  have hb := hd b List.mem_cons_self
  have h43 : ¬ b.toNat = 43 := by omega
  have h45 : ¬ b.toNat = 45 := by omega
  have n43 : ¬ b = 43 := fun e => by subst e; revert h43; decide
  have n45 : ¬ b = 45 := fun e => by subst e; revert h45; decide
  simp [atoi, decNat, n43, n45, hf, NumEnd.ofOption]
end Go.Proofs.YtfoodfhhdbaieaaDoor.Giv
