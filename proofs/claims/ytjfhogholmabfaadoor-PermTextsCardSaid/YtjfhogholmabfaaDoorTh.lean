-- CUT by a program of this session: what the claim does not use is left out
namespace Go.Proofs.YtjfhogholmabfaaDoor.Giv

def validB (l : List Int) : Bool := decide (1 ≤ l.length ∧ l.length ≤ 7 ∧ (∀ x ∈ l, 0 ≤ x ∧ x < (l.length : Int)) ∧ l.Nodup)
def fact : Nat → Nat
  | 0 => 1
  | n + 1 => (n + 1) * fact n
def unr : Nat → Nat → List Int → List Int
  | 0, _, _ => []
  | n + 1, r, l => l.getD (r / fact n) 0 :: unr n (r % fact n) (l.eraseIdx (r / fact n))
def idn (n : Nat) : List Int := (List.range n).map Int.ofNat
def Into (p : List Int) (n : Nat) : Prop := ∀ x ∈ p, 0 ≤ x ∧ x < (n : Int)

theorem idn_len (n : Nat) : (idn n).length = n := by simp [idn]
theorem getD_at (x : List Int) (i : Nat) (h : i < x.length) : x.getD i 0 = x[i] := by
  rw [List.getD_eq_getElem?_getD, List.getElem?_eq_getElem h]; rfl
theorem Into.at {p : List Int} {n : Nat} (h : Into p n) (i : Nat) (hi : i < p.length) : 0 ≤ p.getD i 0 ∧ p.getD i 0 < (n : Int) := by
  rw [getD_at p i hi]; exact h _ (List.getElem_mem hi)
theorem valid_into {p : List Int} (h : validB p = true) : Into p p.length ∧ 1 ≤ p.length ∧ p.length ≤ 7 ∧ p.Nodup := by
  obtain ⟨a, b, c, d⟩ := of_decide_eq_true h
  exact ⟨c, a, b, d⟩
theorem nodup_len {α : Type} [DecidableEq α] : ∀ (l m : List α), l.Nodup → (∀ x ∈ l, x ∈ m) → l.length ≤ m.length
  | [], _, _, _ => Nat.zero_le _
  | x :: l, m, hn, hs => by
    have hx := hs x List.mem_cons_self
    obtain ⟨h1, h2⟩ := List.nodup_cons.1 hn
    have h3 := nodup_len l (m.erase x) h2 (fun y hy => (List.mem_erase_of_ne (by rintro rfl; exact h1 hy)).2 (hs y (List.mem_cons_of_mem _ hy)))
    rw [List.length_erase_of_mem hx] at h3
    have : 1 ≤ m.length := List.length_pos_of_mem hx
    simp only [List.length_cons]; omega
theorem full {p : List Int} (hi : Into p p.length) (hn : p.Nodup) (y : Nat) (hy : y < p.length) : (y : Int) ∈ p := by
  refine Classical.byContradiction fun h => ?_
  have h1 := nodup_len ((y : Int) :: p) (idn p.length) (List.nodup_cons.2 ⟨h, hn⟩) (fun x hx => by
    have hb : 0 ≤ x ∧ x < (p.length : Int) := by
      rcases List.mem_cons.1 hx with rfl | hx
      · exact ⟨Int.natCast_nonneg y, Int.ofNat_lt.2 hy⟩
      · exact hi x hx
    simp only [idn, List.mem_map, List.mem_range]
    exact ⟨x.toNat, by omega, by simp; omega⟩)
  rw [idn_len] at h1
  simp only [List.length_cons] at h1
  omega
theorem nodup_at {p : List Int} (hn : p.Nodup) {i j : Nat} (hi : i < p.length) (hj : j < p.length) (h : p.getD i 0 = p.getD j 0) : i = j := by
  rw [getD_at p i hi, getD_at p j hj] at h
  rcases Nat.lt_trichotomy i j with hlt | rfl | hlt
  · exact absurd h (List.pairwise_iff_getElem.1 hn i j hi hj hlt)
  · rfl
  · exact absurd h.symm (List.pairwise_iff_getElem.1 hn j i hj hi hlt)
theorem fact_pos : ∀ n, 1 ≤ fact n
  | 0 => Nat.le_refl _
  | n + 1 => Nat.mul_le_mul (show 1 ≤ n + 1 by omega) (fact_pos n)
theorem fact_le (n : Nat) (h : n ≤ 6) : fact n ≤ 720 := by
  have : n = 0 ∨ n = 1 ∨ n = 2 ∨ n = 3 ∨ n = 4 ∨ n = 5 ∨ n = 6 := by omega
  rcases this with rfl | rfl | rfl | rfl | rfl | rfl | rfl <;> decide
end Go.Proofs.YtjfhogholmabfaaDoor.Giv
