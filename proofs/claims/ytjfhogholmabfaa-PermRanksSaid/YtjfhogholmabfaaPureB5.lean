/- The pure statement of PermRanks: for all numbers the printed function answers true. No condition. -/
import Derived.Test.YtjfhogholmabfaaPureB0
import Derived.Test.YtjfhogholmabfaaPax10
namespace Go.Proofs.Ytjfhogholmabfaa.Pure
set_option linter.unusedVariables false
set_option linter.unusedSimpArgs false
open Go.RowKit Go.Proofs.YtjfhogholmabfaaW.PrintWords Go.Proofs.YtjfhogholmabfaaW.PrintLast Go.Proofs.YtjfhogholmabfaaW.PrintMore
open Pa Giv

/-- How many of l are below x. -/
def cnt (x : Int) : List Int → Nat
  | [] => 0
  | y :: r => (if y < x then 1 else 0) + cnt x r
def hr : List Int → Nat → Nat
  | [], a => a
  | x :: t, a => hr t (a * (t.length + 1) + cnt x t)
theorem cnt_le (x : Int) : ∀ l, cnt x l ≤ l.length
  | [] => Nat.le_refl _
  | y :: r => by
    have := cnt_le x r
    simp only [cnt, List.length_cons]
    split <;> omega
theorem hr_ge : ∀ l a, a ≤ hr l a
  | [], a => Nat.le_refl _
  | x :: t, a => by
    have := hr_ge t (a * (t.length + 1) + cnt x t)
    have h2 : a ≤ a * (t.length + 1) := Nat.le_mul_of_pos_right _ (by omega)
    simp only [hr]; omega
theorem w64' (x : Int) (h1 : 0 ≤ x) (h2 : x < 100000000) : wrap64 x = x := by unfold wrap64; omega
/-- The inner loop. -/
theorem rank_l1 (p : List Int) (a i : Nat) (x : Int) (hn : p.length ≤ 7) (hi : i < p.length) (r : Int × Int) (c : Nat)
    (hc : Ev (fun k => perm_Rank.l0 k p (wrap64 ((wrap64 ((a : Int) * (wrap64 ((p.length : Int) - i)))) + ((c : Nat) : Int))) p p.length ((i + 1 : Nat) : Int)) r) (t : List Int) (ht : t.length ≤ 7) :
    ∀ d j s, j + d = t.length → s + cnt x (t.drop j) = c → s ≤ j → Ev (fun k => perm_Rank.l1 k p a i x s p p.length i t t.length j) r
  | 0, j, s, h, hs, hsj => by
    rw [List.drop_of_length_le (by omega)] at hs
    simp only [cnt, Nat.add_zero] at hs
    subst hs
    refine Ev1 hc fun k => ?_
    simp only [perm_Rank.l1]
    rw [if_neg (by omega), w64 i (by omega)]
  | d + 1, j, s, h, hs, hsj => by
    have hj : j < t.length := by omega
    rw [List.drop_eq_getElem_cons hj, cnt] at hs
    by_cases hlt : t[j] < x
    · rw [if_pos hlt] at hs
      have ih := rank_l1 p a i x hn hi r c hc t ht d (j + 1) (s + 1) (by omega) (by omega) (by omega)
      refine Ev1 ih fun k => ?_
      simp only [perm_Rank.l1]
      rw [if_pos (by omega), if_pos (by omega), if_pos (by omega), rd_at _ _ hj, if_pos hlt, w64 s (by omega), w64 j (by omega)]
    · rw [if_neg hlt] at hs
      have ih := rank_l1 p a i x hn hi r c hc t ht d (j + 1) s (by omega) (by omega) (by omega)
      refine Ev1 ih fun k => ?_
      simp only [perm_Rank.l1]
      rw [if_pos (by omega), if_pos (by omega), if_pos (by omega), rd_at _ _ hj, if_neg hlt, w64 j (by omega)]
theorem rank_arith (n i a m c : Nat) (hn : n ≤ 7) (hi : i < n) (hm : m = a * (n - i)) (hb : m + c < 10000) : wrap64 ((wrap64 ((a : Int) * (wrap64 ((n : Int) - (i : Int))))) + (c : Int)) = ((m + c : Nat) : Int) := by
  have e1 : wrap64 ((n : Int) - (i : Int)) = ((n - i : Nat) : Int) := by
    rw [w64' _ (by omega) (by omega)]; omega
  have e3 : (a : Int) * ((n - i : Nat) : Int) = (m : Int) := by rw [hm]; exact (Int.natCast_mul a (n - i)).symm
  rw [e1, e3]
  clear e1 e3 hm
  rw [w64' (m : Int) (by omega) (by omega), w64' _ (by omega) (by omega)]
  omega
theorem rank_step (p : List Int) (hn : p.length ≤ 7) (R : Nat) (hR : R < 10000) (d i a : Nat) (h : i + (d + 1) = p.length) (hi : i < p.length) (htl : (p.drop (i + 1)).length = d) (hh : hr (p.drop (i + 1)) (a * (d + 1) + cnt p[i] (p.drop (i + 1))) = R)
    (ih : ∀ b, hr (p.drop (i + 1)) b = R → Ev (fun k => perm_Rank.l0 k p (b : Nat) p p.length ((i + 1 : Nat) : Int)) ((R : Int), 0)) : Ev (fun k => perm_Rank.l0 k p a p p.length i) ((R : Int), 0) := by
  have hb := hr_ge (p.drop (i + 1)) (a * (d + 1) + cnt p[i] (p.drop (i + 1)))
  have hc := cnt_le p[i] (p.drop (i + 1))
  have ih := ih _ hh
  rw [hh] at hb
  clear hh
  obtain ⟨c, hcc⟩ : ∃ c, c = cnt p[i] (p.drop (i + 1)) := ⟨_, rfl⟩
  obtain ⟨t, ht⟩ : ∃ t, t = p.drop (i + 1) := ⟨_, rfl⟩
  obtain ⟨m, hm⟩ : ∃ m, m = a * (d + 1) := ⟨_, rfl⟩
  rw [← hcc] at ih hb hc
  rw [← hm] at ih hb
  rw [htl] at hc
  have b0 : p.length - i = d + 1 := by omega
  have b1 : (i : Int) < (p.length : Int) := by omega
  have b2 : (0 : Int) ≤ (i : Int) := by omega
  have b3 : (0 : Int) ≤ ((i + 1 : Nat) : Int) := by omega
  have b4 : ((i + 1 : Nat) : Int) ≤ (p.length : Int) := by omega
  have b5 : m + c < 10000 := by omega
  have b6 : (p.drop (i + 1)).length ≤ 7 := by omega
  have b7 : i < 100000000 := by omega
  have b8 : 0 + cnt p[i] ((p.drop (i + 1)).drop 0) = c := by rw [List.drop_zero, hcc, Nat.zero_add]
  have h1 := rank_l1 p a i p[i] hn hi ((R : Int), 0) c (by rw [rank_arith p.length i a m c hn hi (by rw [hm, b0]) b5]; exact ih) (p.drop (i + 1)) b6 (p.drop (i + 1)).length 0 0 (Nat.zero_add _) b8 (Nat.le_refl _)
  have e4 := w64 i b7
  refine Ev1 h1 fun k => ?_
  simp only [perm_Rank.l0]
  rw [if_pos b1, if_pos b2, if_pos b1, e4, if_pos b3, if_pos b4, rd_at _ _ hi]
  rfl
theorem rank_l0 (p : List Int) (hn : p.length ≤ 7) (R : Nat) (hR : R < 10000) : ∀ d i a, i + d = p.length → hr (p.drop i) a = R → Ev (fun k => perm_Rank.l0 k p a p p.length i) ((R : Int), 0)
  | 0, i, a, h, hh => by
    rw [List.drop_of_length_le (by omega)] at hh
    simp only [hr] at hh
    subst hh
    refine EvS fun k => ?_
    simp only [perm_Rank.l0]
    rw [if_neg (by omega)]
  | d + 1, i, a, h, hh => by
    have hi : i < p.length := by omega
    have htl : (p.drop (i + 1)).length = d := by simp; omega
    rw [List.drop_eq_getElem_cons hi, hr, htl] at hh
    exact rank_step p hn R hR d i a h hi htl hh (fun b hb => rank_l0 p hn R hR d (i + 1) b (by omega) hb)
/-- Strictly rising. -/
def Rising (l : List Int) : Prop := ∀ i j, i < j → j < l.length → l.getD i 0 < l.getD j 0
theorem rising_idn (n : Nat) : Rising (idn n) := fun i j h1 h2 => by
  rw [idn_len] at h2
  rw [idn_at _ _ (by omega), idn_at _ _ h2]; omega
theorem getD_eraseIdx (l : List Int) (q i : Nat) (hq : q < l.length) (hi : i < l.length - 1) : (l.eraseIdx q).getD i 0 = if i < q then l.getD i 0 else l.getD (i + 1) 0 := by
  rw [List.getD_eq_getElem?_getD, List.getElem?_eraseIdx]
  split <;> rw [List.getD_eq_getElem?_getD]
theorem rising_erase {l : List Int} (h : Rising l) (q : Nat) (hq : q < l.length) : Rising (l.eraseIdx q) := fun i j h1 h2 => by
  rw [List.length_eraseIdx_of_lt hq] at h2
  rw [getD_eraseIdx l q i hq (by omega), getD_eraseIdx l q j hq (by omega)]
  split
  · split
    · exact h i j h1 (by omega)
    · exact h i (j + 1) (by omega) (by omega)
  · split
    · omega
    · exact h (i + 1) (j + 1) (by omega) (by omega)
theorem cnt_perm (x : Int) {l m : List Int} (h : l.Perm m) : cnt x l = cnt x m := by
  induction h with
  | nil => rfl
  | cons y _ ih => simp only [cnt, ih]
  | swap y z l => simp only [cnt]; omega
  | trans _ _ ih1 ih2 => rw [ih1, ih2]
theorem cnt_append (x : Int) : ∀ l m : List Int, cnt x (l ++ m) = cnt x l + cnt x m
  | [], m => by simp [cnt]
  | y :: r, m => by simp only [List.cons_append, cnt, cnt_append x r m]; omega
theorem cnt_all (x : Int) : ∀ l : List Int, (∀ y ∈ l, y < x) → cnt x l = l.length
  | [], _ => rfl
  | y :: r, h => by
    rw [cnt, if_pos (h y List.mem_cons_self), cnt_all x r (fun z hz => h z (List.mem_cons_of_mem _ hz)), List.length_cons]; omega
theorem cnt_none (x : Int) : ∀ l : List Int, (∀ y ∈ l, ¬ y < x) → cnt x l = 0
  | [], _ => rfl
  | y :: r, h => by
    rw [cnt, if_neg (h y List.mem_cons_self), cnt_none x r (fun z hz => h z (List.mem_cons_of_mem _ hz))]
theorem cnt_erase {l : List Int} (h : Rising l) (q : Nat) (hq : q < l.length) : cnt (l.getD q 0) (l.eraseIdx q) = q := by
  rw [List.eraseIdx_eq_take_drop_succ, cnt_append, cnt_all, cnt_none]
  · simp; omega
  · intro y hy
    obtain ⟨j, hj, rfl⟩ := List.getElem_of_mem hy
    simp only [List.length_drop] at hj
    rw [List.getElem_drop, ← getD_at l _ (by omega)]
    have := h q (q + 1 + j) (by omega) (by omega)
    omega
  · intro y hy
    obtain ⟨j, hj, rfl⟩ := List.getElem_of_mem hy
    simp only [List.length_take] at hj
    rw [List.getElem_take, ← getD_at l _ (by omega)]
    exact h j q (by omega) hq
theorem hr_unr : ∀ (n r : Nat) (l : List Int) (a : Nat), l.length = n → Rising l → r < fact n → hr (unr n r l) a = a * fact n + r
  | 0, r, l, a, _, _, hr0 => by simp only [unr, hr, fact] at *; omega
  | n + 1, r, l, a, hl, hs, hr0 => by
    have hq := div_lt n r hr0
    have hlen : (l.eraseIdx (r / fact n)).length = n := by rw [List.length_eraseIdx_of_lt (by omega)]; omega
    have hp := unr_perm n (r % fact n) (l.eraseIdx (r / fact n)) hlen (Nat.mod_lt _ (fact_pos n))
    rw [unr, hr, hr_unr n (r % fact n) _ _ hlen (rising_erase hs _ (by omega)) (Nat.mod_lt _ (fact_pos n)), hp.length_eq, hlen, cnt_perm _ hp, cnt_erase hs _ (by omega), fact]
    have := Nat.div_add_mod r (fact n)
    rw [Nat.add_mul, Nat.mul_assoc, Nat.mul_comm (r / fact n)]
    omega
theorem rank_ {n r : Nat} (h1 : 1 ≤ n) (h7 : n ≤ 7) (hr0 : r < fact n) : Ev (fun k => perm_Rank.f k (unr n r (idn n))) ((r : Int), 0) := by
  have hv := valid_unr h1 h7 hr0
  have hl := unr_len n r hr0
  simp only [perm_Rank.f, perm_Valid.f, Option.bind_some, hv, if_true]
  have := fact_le7 n h7
  exact rank_l0 _ (by omega) r (by omega) (unr n r (idn n)).length 0 0 (by omega) (by rw [List.drop_zero, hr_unr n r (idn n) 0 (idn_len n) (rising_idn n) hr0]; omega)
/-- Before, in the order of words. -/
def lexL : List Int → List Int → Bool
  | x :: s, y :: t => if x = y then lexL s t else decide (x < y)
  | [], [] => false
  | [], _ :: _ => true
  | _ :: _, [] => false
theorem less_l0 (x y : List Int) (hl : x.length = y.length) (hn : x.length ≤ 7) : ∀ d i, i + d = x.length → Ev (fun k => commodatumref01_Less.l0 k x y i) (lexL (x.drop i) (y.drop i))
  | 0, i, h => by
    rw [List.drop_of_length_le (by omega), List.drop_of_length_le (by omega)]
    refine Ev1 (f := fun k => commodatumref01_Less.j1 k x y i false) (EvS fun k => by simp only [commodatumref01_Less.j1]; rw [if_neg (by simp), decide_eq_false (by omega)]; rfl) fun k => ?_
    simp only [commodatumref01_Less.l0]
    rw [if_neg (by omega)]
  | d + 1, i, h => by
    have h1 : i < x.length := by omega
    have h2 : i < y.length := by omega
    rw [List.drop_eq_getElem_cons h1, List.drop_eq_getElem_cons h2, lexL]
    refine Ev1 (f := fun k => commodatumref01_Less.j1 k x y i true) ?_ (fun k => by simp only [commodatumref01_Less.l0]; rw [if_pos (by omega), decide_eq_true (by omega)])
    by_cases he : x[i] = y[i]
    · rw [if_pos he]
      have ih := less_l0 x y hl hn d (i + 1) (by omega)
      refine Ev1 ih fun k => ?_
      simp only [commodatumref01_Less.j1, if_true]
      rw [if_pos (by omega), if_pos (by omega), if_pos (by omega), rd_at _ _ h1, rd_at _ _ h2, if_pos he, w64 i (by omega)]
    · rw [if_neg he]
      refine EvS fun k => ?_
      simp only [commodatumref01_Less.j1, if_true]
      rw [if_pos (by omega), if_pos (by omega), if_pos (by omega), rd_at _ _ h1, rd_at _ _ h2, if_neg he]
theorem lex_unr : ∀ (n a b : Nat) (l : List Int), l.length = n → Rising l → a < fact n → b < fact n → lexL (unr n a l) (unr n b l) = decide (a < b)
  | 0, a, b, l, _, _, ha, hb => by
    simp only [fact] at ha hb
    simp only [unr, lexL]
    rw [decide_eq_false (by omega)]
  | n + 1, a, b, l, hl, hs, ha, hb => by
    have hqa := div_lt n a ha
    have hqb := div_lt n b hb
    have da := Nat.div_add_mod a (fact n)
    have db := Nat.div_add_mod b (fact n)
    have ma := Nat.mod_lt a (fact_pos n)
    have mb := Nat.mod_lt b (fact_pos n)
    rw [unr, unr, lexL]
    rcases Nat.lt_trichotomy (a / fact n) (b / fact n) with h | h | h
    · have h1 := hs _ _ h (by omega)
      rw [if_neg (by omega), decide_eq_true h1, decide_eq_true]
      have : fact n * (a / fact n + 1) ≤ fact n * (b / fact n) := Nat.mul_le_mul_left _ h
      rw [Nat.mul_add] at this
      omega
    · rw [h, if_pos rfl, lex_unr n _ _ _ (by rw [List.length_eraseIdx_of_lt (by omega)]; omega) (rising_erase hs _ (by omega)) ma mb]
      rw [h] at da
      rw [decide_eq_decide]
      omega
    · have h1 := hs _ _ h (by omega)
      rw [if_neg (by omega), decide_eq_false (by omega), decide_eq_false]
      have : fact n * (b / fact n + 1) ≤ fact n * (a / fact n) := Nat.mul_le_mul_left _ h
      rw [Nat.mul_add] at this
      omega
theorem ranks_j0_true (a b : Int) (p q : List Int) : Ev (fun k => commodatumlaw01_PermRanks.j0 k a b p q true) true := by
  refine Ev1 (f := fun k => (commodatumlaw01_alive.f k).bind fun t => some t) alive' (fun k => by simp only [commodatumlaw01_PermRanks.j0, if_true])
theorem pure_PermRanks : ∀ (a0 : Int) (a1 : Int) (a2 : Int), (Lit.int .i64 a0).wf = true → (Lit.int .i64 a1).wf = true → (Lit.int .i64 a2).wf = true → ∃ k, Pa.commodatumlaw01_PermRanks.f k a0 a1 a2 = some true := by
  intro n a b _ _ _
  refine Ev.rounds (g := fun k => Pa.commodatumlaw01_PermRanks.f k n a b) ?_
  simp only [commodatumlaw01_PermRanks.f]
  have hcase : ∀ c : Int, (n < 1 ∨ 7 < n ∨ c < 0 ∨ (fact n.toNat : Int) ≤ c) ∨ (∃ m r : Nat, n = m ∧ c = r ∧ 1 ≤ m ∧ m ≤ 7 ∧ r < fact m) := by
    intro c
    by_cases h : n < 1 ∨ 7 < n ∨ c < 0 ∨ (fact n.toNat : Int) ≤ c
    · exact .inl h
    · exact .inr ⟨n.toNat, c.toNat, by omega, by omega, by omega, by omega, by omega⟩
  rcases hcase a with ha | ⟨m, ra, rfl, rfl, h1, h7, hra⟩
  · refine Ev.bind (perm_Unrank_bad n a ha) ?_
    rcases hcase b with hb | ⟨m, rb, rfl, rfl, h1, h7, hrb⟩
    · refine Ev.bind (perm_Unrank_bad n b hb) ?_
      simp only [show ¬ (2 : Int) = 0 by omega, if_false]
      exact ranks_j0_true _ _ _ _
    · refine Ev.bind (perm_Unrank_ m rb h1 h7 hrb) ?_
      simp only [show ¬ (2 : Int) = 0 by omega, if_false]
      exact ranks_j0_true _ _ _ _
  · refine Ev.bind (perm_Unrank_ m ra h1 h7 hra) ?_
    simp only [if_true]
    rcases hcase b with hb | ⟨m', rb, hm, rfl, _, _, hrb⟩
    · refine Ev.bind (perm_Unrank_bad m b hb) ?_
      exact ranks_j0_true _ _ _ _
    · obtain rfl : m' = m := by omega
      refine Ev.bind (perm_Unrank_ m' rb h1 h7 hrb) ?_
      refine Ev1 (f := fun k => (perm_Rank.f k (unr m' ra (idn m'))).bind fun bt475 => ((perm_Rank.f k (unr m' rb (idn m'))).bind fun bt477 => (if bt475.2 = 0 then (if bt477.2 = 0 then (if bt475.1 = (ra : Int) then (if bt477.1 = (rb : Int) then ((commodatumref01_Less.f k (unr m' ra (idn m')) (unr m' rb (idn m'))).bind fun t479 => (if (t479 == (decide ((ra : Int) < (rb : Int)))) = true then ((commodatumlaw01_alive.f k).bind fun t480 => (some t480)) else (some false))) else (some false)) else (some false)) else (some false)) else (some false)))) ?_ (fun k => by simp only [commodatumlaw01_PermRanks.j0]; rw [if_neg (by simp)])
      refine Ev.bind (rank_ h1 h7 hra) (Ev.bind (rank_ h1 h7 hrb) ?_)
      simp only [if_true]
      have hless : Ev (fun k => commodatumref01_Less.f k (unr m' ra (idn m')) (unr m' rb (idn m'))) (decide (ra < rb)) := by
        have := less_l0 (unr m' ra (idn m')) (unr m' rb (idn m')) (by rw [unr_len _ _ hra, unr_len _ _ hrb]) (by rw [unr_len _ _ hra]; exact h7) (unr m' ra (idn m')).length 0 (by omega)
        rw [List.drop_zero, List.drop_zero, lex_unr m' ra rb _ (idn_len _) (rising_idn _) hra hrb] at this
        exact this
      refine Ev.bind hless ?_
      have e : (decide (ra < rb) == decide ((ra : Int) < (rb : Int))) = true := by simp
      simp only [e, if_true]
      exact alive'
end Go.Proofs.Ytjfhogholmabfaa.Pure
