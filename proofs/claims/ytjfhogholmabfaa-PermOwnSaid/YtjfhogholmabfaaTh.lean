-- CUT by a program of this session: what the claim does not use is left out
namespace Go.Proofs.Ytjfhogholmabfaa.Giv

def validB (l : List Int) : Bool := decide (1 ≤ l.length ∧ l.length ≤ 7 ∧ (∀ x ∈ l, 0 ≤ x ∧ x < (l.length : Int)) ∧ l.Nodup)
def fact : Nat → Nat
  | 0 => 1
  | n + 1 => (n + 1) * fact n
def unr : Nat → Nat → List Int → List Int
  | 0, _, _ => []
  | n + 1, r, l => l.getD (r / fact n) 0 :: unr n (r % fact n) (l.eraseIdx (r / fact n))
def idn (n : Nat) : List Int := (List.range n).map Int.ofNat
def mulL (p q : List Int) : List Int := p.map fun x => q.getD x.toNat 0
def setL : List Int → Nat → List Int → List Int
  | [], _, acc => acc
  | x :: r, i, acc => setL r (i + 1) (acc.set x.toNat (i : Int))
def invL (p : List Int) : List Int := setL p 0 (List.replicate p.length 0)
def Into (p : List Int) (n : Nat) : Prop := ∀ x ∈ p, 0 ≤ x ∧ x < (n : Int)

theorem mulL_len (p q : List Int) : (mulL p q).length = p.length := by simp [mulL]
theorem setL_len : ∀ (p : List Int) (i : Nat) (acc : List Int), (setL p i acc).length = acc.length
  | [], _, _ => rfl
  | x :: r, i, acc => by rw [setL, setL_len r]; simp
theorem invL_len (p : List Int) : (invL p).length = p.length := by rw [invL, setL_len]; simp
theorem idn_len (n : Nat) : (idn n).length = n := by simp [idn]
theorem idn_at (n i : Nat) (h : i < n) : (idn n).getD i 0 = (i : Int) := by
  simp [idn, List.getD_eq_getElem?_getD, h]
theorem getD_at (x : List Int) (i : Nat) (h : i < x.length) : x.getD i 0 = x[i] := by
  rw [List.getD_eq_getElem?_getD, List.getElem?_eq_getElem h]; rfl
theorem ext0 {x y : List Int} (hl : x.length = y.length) (h : ∀ i, i < x.length → x.getD i 0 = y.getD i 0) : x = y := by
  refine List.ext_getElem hl fun i h1 h2 => ?_
  have := h i h1
  rwa [getD_at x i h1, getD_at y i h2] at this
theorem mulL_at (p q : List Int) (i : Nat) (h : i < p.length) : (mulL p q).getD i 0 = q.getD (p.getD i 0).toNat 0 := by
  rw [getD_at _ _ (by rw [mulL_len]; exact h), getD_at p i h]
  simp [mulL]
theorem Into.at {p : List Int} {n : Nat} (h : Into p n) (i : Nat) (hi : i < p.length) : 0 ≤ p.getD i 0 ∧ p.getD i 0 < (n : Int) := by
  rw [getD_at p i hi]; exact h _ (List.getElem_mem hi)
theorem valid_into {p : List Int} (h : validB p = true) : Into p p.length ∧ 1 ≤ p.length ∧ p.length ≤ 7 ∧ p.Nodup := by
  obtain ⟨a, b, c, d⟩ := of_decide_eq_true h
  exact ⟨c, a, b, d⟩
theorem valid_mk {p : List Int} (h1 : 1 ≤ p.length) (h7 : p.length ≤ 7) (h : Into p p.length) (hn : p.Nodup) : validB p = true := decide_eq_true ⟨h1, h7, h, hn⟩
theorem into_mul {p q : List Int} {n : Nat} (hq : Into q n) (hn : 1 ≤ n) : Into (mulL p q) n := by
  intro x hx
  obtain ⟨y, _, rfl⟩ := List.mem_map.1 hx
  rw [List.getD_eq_getElem?_getD]
  cases h : q[y.toNat]? with
  | none => simp; omega
  | some z => simpa using hq z (List.mem_of_getElem? h)
theorem into_set : ∀ (p : List Int) (i : Nat) (acc : List Int) (n : Nat), i + p.length ≤ n → Into acc n → Into (setL p i acc) n
  | [], _, _, _, _, h => h
  | x :: r, i, acc, n, hi, h => by
    simp only [List.length_cons] at hi
    refine into_set r (i + 1) _ n (by omega) fun y hy => ?_
    rcases List.mem_or_eq_of_mem_set hy with h1 | h1
    · exact h y h1
    · omega
theorem into_inv {p : List Int} (h : 1 ≤ p.length) : Into (invL p) p.length := by
  refine into_set p 0 _ _ (by omega) fun x hx => ?_
  rw [(List.mem_replicate.1 hx).2]; omega
theorem into_idn (n : Nat) : Into (idn n) n := by
  intro x hx
  simp only [idn, List.mem_map, List.mem_range] at hx
  obtain ⟨a, h, rfl⟩ := hx
  exact ⟨Int.natCast_nonneg a, Int.ofNat_lt.2 h⟩

theorem nodup_len {α : Type} [DecidableEq α] : ∀ (l m : List α), l.Nodup → (∀ x ∈ l, x ∈ m) → l.length ≤ m.length
  | [], _, _, _ => Nat.zero_le _
  | x :: l, m, hn, hs => by
    have hx := hs x List.mem_cons_self
    obtain ⟨h1, h2⟩ := List.nodup_cons.1 hn
    have h3 := nodup_len l (m.erase x) h2 (fun y hy => (List.mem_erase_of_ne (by rintro rfl; exact h1 hy)).2 (hs y (List.mem_cons_of_mem _ hy)))
    rw [List.length_erase_of_mem hx] at h3
    have : 1 ≤ m.length := List.length_pos_of_mem hx
    simp only [List.length_cons]; omega
theorem full {p : List Int} (hi : Into p p.length) (hn : p.Nodup) (y : Nat) (hy : y < p.length) : (y : Int) ∈ p := by
  refine Classical.byContradiction fun h => ?_
  have h1 := nodup_len ((y : Int) :: p) (idn p.length) (List.nodup_cons.2 ⟨h, hn⟩) (fun x hx => by
    have hb : 0 ≤ x ∧ x < (p.length : Int) := by
      rcases List.mem_cons.1 hx with rfl | hx
      · exact ⟨Int.natCast_nonneg y, Int.ofNat_lt.2 hy⟩
      · exact hi x hx
    simp only [idn, List.mem_map, List.mem_range]
    exact ⟨x.toNat, by omega, by simp; omega⟩)
  rw [idn_len] at h1
  simp only [List.length_cons] at h1
  omega
theorem nodup_at {p : List Int} (hn : p.Nodup) {i j : Nat} (hi : i < p.length) (hj : j < p.length) (h : p.getD i 0 = p.getD j 0) : i = j := by
  rw [getD_at p i hi, getD_at p j hj] at h
  rcases Nat.lt_trichotomy i j with hlt | rfl | hlt
  · exact absurd h (List.pairwise_iff_getElem.1 hn i j hi hj hlt)
  · rfl
  · exact absurd h.symm (List.pairwise_iff_getElem.1 hn j i hj hi hlt)
theorem nodup_of {p : List Int} (h : ∀ i j, i < p.length → j < p.length → p.getD i 0 = p.getD j 0 → i = j) : p.Nodup := by
  refine List.pairwise_iff_getElem.2 fun i j hi hj hij he => ?_
  have := h i j hi hj (by rw [getD_at p i hi, getD_at p j hj, he])
  omega

theorem mul_assoc' {p q : List Int} (r : List Int) (hp : Into p q.length) : mulL (mulL p q) r = mulL p (mulL q r) := by
  refine ext0 (by simp only [mulL_len]) fun i hi => ?_
  simp only [mulL_len] at hi
  have := hp.at i hi
  rw [mulL_at _ _ _ (by rw [mulL_len]; exact hi), mulL_at _ _ _ hi, mulL_at p _ _ hi, mulL_at q _ _ (by omega)]
theorem id_mul (p : List Int) : mulL (idn p.length) p = p := by
  refine ext0 (by rw [mulL_len, idn_len]) fun i hi => ?_
  rw [mulL_len, idn_len] at hi
  rw [mulL_at _ _ _ (by rw [idn_len]; exact hi), idn_at _ _ hi]; rfl
theorem mul_id {p : List Int} {n : Nat} (hp : Into p n) : mulL p (idn n) = p := by
  refine ext0 (by rw [mulL_len]) fun i hi => ?_
  rw [mulL_len] at hi
  have := hp.at i hi
  rw [mulL_at _ _ _ hi, idn_at _ _ (by omega)]
  omega
theorem setL_other : ∀ (p : List Int) (i : Nat) (acc : List Int) (y : Nat), (∀ x ∈ p, x.toNat ≠ y) → (setL p i acc).getD y 0 = acc.getD y 0
  | [], _, _, _, _ => rfl
  | x :: r, i, acc, y, h => by
    rw [setL, setL_other r (i + 1) _ y (fun z hz => h z (List.mem_cons_of_mem _ hz))]
    have hx := h x List.mem_cons_self
    rw [List.getD_eq_getElem?_getD, List.getD_eq_getElem?_getD, List.getElem?_set_ne hx]
theorem setL_at : ∀ (p : List Int) (i : Nat) (acc : List Int), Into p acc.length → p.Nodup → ∀ j, j < p.length → (setL p i acc).getD (p.getD j 0).toNat 0 = ((i + j : Nat) : Int)
  | [], _, _, _, _, j, hj => by simp at hj
  | x :: r, i, acc, hp, hn, j, hj => by
    obtain ⟨h1, h2⟩ := List.nodup_cons.1 hn
    have hx := hp x List.mem_cons_self
    have hr : Into r acc.length := fun z hz => hp z (List.mem_cons_of_mem _ hz)
    cases j with
    | zero =>
      simp only [List.getD_cons_zero]
      rw [setL, setL_other r (i + 1) _ _ (fun z hz he => h1 (by have := hr z hz; rw [show x = z by omega]; exact hz))]
      rw [List.getD_eq_getElem?_getD, List.getElem?_set_self (by omega)]
      simp
    | succ j =>
      simp only [List.getD_cons_succ, List.length_cons] at hj ⊢
      rw [setL, setL_at r (i + 1) _ (by simpa using hr) h2 j (by omega)]
      congr 1; omega
theorem inv_at {p : List Int} (hi : Into p p.length) (hn : p.Nodup) (j : Nat) (hj : j < p.length) : (invL p).getD (p.getD j 0).toNat 0 = (j : Int) := by
  rw [invL, setL_at p 0 _ (by simpa using hi) hn j hj]; simp
theorem inv_mul {p : List Int} (hi : Into p p.length) (hn : p.Nodup) : mulL (invL p) p = idn p.length := by
  refine ext0 (by rw [mulL_len, idn_len, invL_len]) fun y hy => ?_
  rw [mulL_len, invL_len] at hy
  rw [mulL_at _ _ _ (by rw [invL_len]; exact hy), idn_at _ _ hy]
  obtain ⟨j, hj, he⟩ := List.getElem_of_mem (full hi hn y hy)
  have h1 := inv_at hi hn j hj
  rw [getD_at p j hj, he] at h1
  rw [show ((y : Int)).toNat = y from rfl] at h1
  rw [h1, show ((j : Int)).toNat = j from rfl, getD_at p j hj, he]
theorem valid_idn {n : Nat} (h1 : 1 ≤ n) (h7 : n ≤ 7) : validB (idn n) = true := by
  refine valid_mk (by rw [idn_len]; exact h1) (by rw [idn_len]; exact h7) (by rw [idn_len]; exact into_idn n) (nodup_of fun i j hi hj he => ?_)
  rw [idn_len] at hi hj
  rw [idn_at _ _ hi, idn_at _ _ hj] at he
  omega
theorem valid_mul {p q : List Int} (hp : validB p = true) (hq : validB q = true) (hl : p.length = q.length) : validB (mulL p q) = true := by
  obtain ⟨a, b, c, d⟩ := valid_into hp
  obtain ⟨a', b', c', d'⟩ := valid_into hq
  refine valid_mk (by rw [mulL_len]; exact b) (by rw [mulL_len]; exact c) (by rw [mulL_len, hl]; exact into_mul a' b') (nodup_of fun i j hi hj he => ?_)
  rw [mulL_len] at hi hj
  rw [mulL_at _ _ _ hi, mulL_at _ _ _ hj] at he
  have h1 := a.at i hi
  have h2 := a.at j hj
  have := nodup_at d' (by omega) (by omega) he
  exact nodup_at d hi hj (by omega)
theorem fact_pos : ∀ n, 1 ≤ fact n
  | 0 => Nat.le_refl _
  | n + 1 => Nat.mul_le_mul (show 1 ≤ n + 1 by omega) (fact_pos n)
theorem fact_le (n : Nat) (h : n ≤ 6) : fact n ≤ 720 := by
  have : n = 0 ∨ n = 1 ∨ n = 2 ∨ n = 3 ∨ n = 4 ∨ n = 5 ∨ n = 6 := by omega
  rcases this with rfl | rfl | rfl | rfl | rfl | rfl | rfl <;> decide
theorem fact_le7 (n : Nat) (h : n ≤ 7) : fact n ≤ 5040 := by
  have : n = 0 ∨ n = 1 ∨ n = 2 ∨ n = 3 ∨ n = 4 ∨ n = 5 ∨ n = 6 ∨ n = 7 := by omega
  rcases this with rfl | rfl | rfl | rfl | rfl | rfl | rfl | rfl <;> decide
theorem div_lt (n r : Nat) (h : r < fact (n + 1)) : r / fact n < n + 1 := (Nat.div_lt_iff_lt_mul (fact_pos n)).2 h
theorem eraseIdx_perm {α : Type} : ∀ (l : List α) (i : Nat) (h : i < l.length), (l[i] :: l.eraseIdx i).Perm l
  | [], i, h => by simp at h
  | x :: l, 0, h => by simp
  | x :: l, i + 1, h => by
    simp only [List.getElem_cons_succ, List.eraseIdx_cons_succ]
    exact (List.Perm.swap _ _ _).trans ((eraseIdx_perm l i (by simpa using h)).cons x)
theorem unr_perm : ∀ (n r : Nat) (l : List Int), l.length = n → r < fact n → (unr n r l).Perm l
  | 0, r, l, hl, _ => by rw [List.length_eq_zero_iff.1 hl]; exact List.Perm.refl _
  | n + 1, r, l, hl, hr => by
    have hq := div_lt n r hr
    rw [unr, getD_at l _ (by omega)]
    have h1 := unr_perm n (r % fact n) (l.eraseIdx (r / fact n)) (by rw [List.length_eraseIdx_of_lt (by omega)]; omega) (Nat.mod_lt _ (fact_pos n))
    exact (h1.cons _).trans (eraseIdx_perm l _ (by omega))
theorem valid_perm {p q : List Int} (h : p.Perm q) (hq : validB q = true) : validB p = true := by
  obtain ⟨a, b, c, d⟩ := valid_into hq
  have hl := h.length_eq
  exact valid_mk (by omega) (by omega) (fun x hx => by rw [hl]; exact a x (h.mem_iff.1 hx)) (h.nodup_iff.2 d)
theorem unr_len (n r : Nat) (hr : r < fact n) : (unr n r (idn n)).length = n := by
  rw [(unr_perm n r (idn n) (idn_len n) hr).length_eq, idn_len]
theorem valid_unr {n r : Nat} (h1 : 1 ≤ n) (h7 : n ≤ 7) (hr : r < fact n) : validB (unr n r (idn n)) = true :=
  valid_perm (unr_perm n r (idn n) (idn_len n) hr) (valid_idn h1 h7)
end Go.Proofs.Ytjfhogholmabfaa.Giv
