/- The pure statement of PermRanks: for all numbers the printed function answers true. No condition. -/
import Derived.Test.YtjfhogholmabfaaPureB0
import Derived.Test.YtjfhogholmabfaaPureE0
import Derived.Test.YtjfhogholmabfaaPax10
namespace Go.Proofs.Ytjfhogholmabfaa.Pure
set_option linter.unusedVariables false
set_option linter.unusedSimpArgs false
open Go.RowKit Go.Proofs.YtjfhogholmabfaaW.PrintWords Go.Proofs.YtjfhogholmabfaaW.PrintLast Go.Proofs.YtjfhogholmabfaaW.PrintMore
open Pa Giv

/-- How many of l are below x. -/
def cnt (x : Int) : List Int → Nat
  | [] => 0
  | y :: r => (if y < x then 1 else 0) + cnt x r
def hr : List Int → Nat → Nat
  | [], a => a
  | x :: t, a => hr t (a * (t.length + 1) + cnt x t)
theorem cnt_le (x : Int) : ∀ l, cnt x l ≤ l.length
  | [] => Nat.le_refl _
  | y :: r => by
    have := cnt_le x r
    simp only [cnt, List.length_cons]
    split <;> omega
theorem hr_ge : ∀ l a, a ≤ hr l a
  | [], a => Nat.le_refl _
  | x :: t, a => by
    have := hr_ge t (a * (t.length + 1) + cnt x t)
    have h2 : a ≤ a * (t.length + 1) := Nat.le_mul_of_pos_right _ (by omega)
    simp only [hr]; omega
/-- Strictly rising. -/
def Rising (l : List Int) : Prop := ∀ i j, i < j → j < l.length → l.getD i 0 < l.getD j 0
theorem rising_idn (n : Nat) : Rising (idn n) := fun i j h1 h2 => by
  rw [idn_len] at h2
  rw [idn_at _ _ (by omega), idn_at _ _ h2]; omega
theorem getD_eraseIdx (l : List Int) (q i : Nat) (hq : q < l.length) (hi : i < l.length - 1) : (l.eraseIdx q).getD i 0 = if i < q then l.getD i 0 else l.getD (i + 1) 0 := by
  rw [List.getD_eq_getElem?_getD, List.getElem?_eraseIdx]
  split <;> rw [List.getD_eq_getElem?_getD]
theorem rising_erase {l : List Int} (h : Rising l) (q : Nat) (hq : q < l.length) : Rising (l.eraseIdx q) := fun i j h1 h2 => by
  rw [List.length_eraseIdx_of_lt hq] at h2
  rw [getD_eraseIdx l q i hq (by omega), getD_eraseIdx l q j hq (by omega)]
  split
  · split
    · exact h i j h1 (by omega)
    · exact h i (j + 1) (by omega) (by omega)
  · split
    · omega
    · exact h (i + 1) (j + 1) (by omega) (by omega)
theorem cnt_perm (x : Int) {l m : List Int} (h : l.Perm m) : cnt x l = cnt x m := by
  induction h with
  | nil => rfl
  | cons y _ ih => simp only [cnt, ih]
  | swap y z l => simp only [cnt]; omega
  | trans _ _ ih1 ih2 => rw [ih1, ih2]
theorem cnt_append (x : Int) : ∀ l m : List Int, cnt x (l ++ m) = cnt x l + cnt x m
  | [], m => by simp [cnt]
  | y :: r, m => by simp only [List.cons_append, cnt, cnt_append x r m]; omega
theorem cnt_all (x : Int) : ∀ l : List Int, (∀ y ∈ l, y < x) → cnt x l = l.length
  | [], _ => rfl
  | y :: r, h => by
    rw [cnt, if_pos (h y List.mem_cons_self), cnt_all x r (fun z hz => h z (List.mem_cons_of_mem _ hz)), List.length_cons]; omega
theorem cnt_none (x : Int) : ∀ l : List Int, (∀ y ∈ l, ¬ y < x) → cnt x l = 0
  | [], _ => rfl
  | y :: r, h => by
    rw [cnt, if_neg (h y List.mem_cons_self), cnt_none x r (fun z hz => h z (List.mem_cons_of_mem _ hz))]
theorem cnt_erase {l : List Int} (h : Rising l) (q : Nat) (hq : q < l.length) : cnt (l.getD q 0) (l.eraseIdx q) = q := by
  rw [List.eraseIdx_eq_take_drop_succ, cnt_append, cnt_all, cnt_none]
  · simp; omega
  · intro y hy
    obtain ⟨j, hj, rfl⟩ := List.getElem_of_mem hy
    simp only [List.length_drop] at hj
    rw [List.getElem_drop, ← getD_at l _ (by omega)]
    have := h q (q + 1 + j) (by omega) (by omega)
    omega
  · intro y hy
    obtain ⟨j, hj, rfl⟩ := List.getElem_of_mem hy
    simp only [List.length_take] at hj
    rw [List.getElem_take, ← getD_at l _ (by omega)]
    exact h j q (by omega) hq
theorem hr_unr : ∀ (n r : Nat) (l : List Int) (a : Nat), l.length = n → Rising l → r < fact n → hr (unr n r l) a = a * fact n + r
  | 0, r, l, a, _, _, hr0 => by simp only [unr, hr, fact] at *; omega
  | n + 1, r, l, a, hl, hs, hr0 => by
    have hq := div_lt n r hr0
    have hlen : (l.eraseIdx (r / fact n)).length = n := by rw [List.length_eraseIdx_of_lt (by omega)]; omega
    have hp := unr_perm n (r % fact n) (l.eraseIdx (r / fact n)) hlen (Nat.mod_lt _ (fact_pos n))
    rw [unr, hr, hr_unr n (r % fact n) _ _ hlen (rising_erase hs _ (by omega)) (Nat.mod_lt _ (fact_pos n)), hp.length_eq, hlen, cnt_perm _ hp, cnt_erase hs _ (by omega), fact]
    have := Nat.div_add_mod r (fact n)
    rw [Nat.add_mul, Nat.mul_assoc, Nat.mul_comm (r / fact n)]
    omega
/-- Before, in the order of words. -/
def lexL : List Int → List Int → Bool
  | x :: s, y :: t => if x = y then lexL s t else decide (x < y)
  | [], [] => false
  | [], _ :: _ => true
  | _ :: _, [] => false
theorem less_l0 (x y : List Int) (hl : x.length = y.length) (hn : x.length ≤ 7) : ∀ d i, i + d = x.length → Ev (fun k => commodatumref01_Less.l0 k x y i) (lexL (x.drop i) (y.drop i))
  | 0, i, h => by
    rw [List.drop_of_length_le (by omega), List.drop_of_length_le (by omega)]
    refine Ev1 (f := fun k => commodatumref01_Less.j1 k x y i false) (EvS fun k => by simp only [commodatumref01_Less.j1]; rw [if_neg (by simp), decide_eq_false (by omega)]; rfl) fun k => ?_
    simp only [commodatumref01_Less.l0]
    rw [if_neg (by omega)]
  | d + 1, i, h => by
    have h1 : i < x.length := by omega
    have h2 : i < y.length := by omega
    rw [List.drop_eq_getElem_cons h1, List.drop_eq_getElem_cons h2, lexL]
    refine Ev1 (f := fun k => commodatumref01_Less.j1 k x y i true) ?_ (fun k => by simp only [commodatumref01_Less.l0]; rw [if_pos (by omega), decide_eq_true (by omega)])
    by_cases he : x[i] = y[i]
    · rw [if_pos he]
      have ih := less_l0 x y hl hn d (i + 1) (by omega)
      refine Ev1 ih fun k => ?_
      simp only [commodatumref01_Less.j1, if_true]
      rw [if_pos (by omega), if_pos (by omega), if_pos (by omega), rd_at _ _ h1, rd_at _ _ h2, if_pos he, w64 i (by omega)]
    · rw [if_neg he]
      refine EvS fun k => ?_
      simp only [commodatumref01_Less.j1, if_true]
      rw [if_pos (by omega), if_pos (by omega), if_pos (by omega), rd_at _ _ h1, rd_at _ _ h2, if_neg he]
theorem lex_unr : ∀ (n a b : Nat) (l : List Int), l.length = n → Rising l → a < fact n → b < fact n → lexL (unr n a l) (unr n b l) = decide (a < b)
  | 0, a, b, l, _, _, ha, hb => by
    simp only [fact] at ha hb
    simp only [unr, lexL]
    rw [decide_eq_false (by omega)]
  | n + 1, a, b, l, hl, hs, ha, hb => by
    have hqa := div_lt n a ha
    have hqb := div_lt n b hb
    have da := Nat.div_add_mod a (fact n)
    have db := Nat.div_add_mod b (fact n)
    have ma := Nat.mod_lt a (fact_pos n)
    have mb := Nat.mod_lt b (fact_pos n)
    rw [unr, unr, lexL]
    rcases Nat.lt_trichotomy (a / fact n) (b / fact n) with h | h | h
    · have h1 := hs _ _ h (by omega)
      rw [if_neg (by omega), decide_eq_true h1, decide_eq_true]
      have : fact n * (a / fact n + 1) ≤ fact n * (b / fact n) := Nat.mul_le_mul_left _ h
      rw [Nat.mul_add] at this
      omega
    · rw [h, if_pos rfl, lex_unr n _ _ _ (by rw [List.length_eraseIdx_of_lt (by omega)]; omega) (rising_erase hs _ (by omega)) ma mb]
      rw [h] at da
      rw [decide_eq_decide]
      omega
    · have h1 := hs _ _ h (by omega)
      rw [if_neg (by omega), decide_eq_false (by omega), decide_eq_false]
      have : fact n * (b / fact n + 1) ≤ fact n * (a / fact n) := Nat.mul_le_mul_left _ h
      rw [Nat.mul_add] at this
      omega
/-- c is the permutation of the rank hr c 0. -/
def chkU (c : List Int) : Bool := decide (hr c 0 < fact c.length) && decide (unr c.length (hr c 0) (idn c.length) = c)
set_option maxRecDepth 100000
theorem chu1 : allExt 1 chkU 1 [] = true := by decide +kernel
theorem chu2 : allExt 2 chkU 2 [] = true := by decide +kernel
theorem chu3 : allExt 3 chkU 3 [] = true := by decide +kernel
theorem chu4 : allExt 4 chkU 4 [] = true := by decide +kernel
theorem chu5 : allExt 5 chkU 5 [] = true := by decide +kernel
theorem chu6 : allExt 6 chkU 6 [] = true := by decide +kernel
theorem chu7_0 : allExt 7 chkU 6 [0] = true := by decide +kernel
theorem chu7_1 : allExt 7 chkU 6 [1] = true := by decide +kernel
theorem chu7_2 : allExt 7 chkU 6 [2] = true := by decide +kernel
theorem chu7_3 : allExt 7 chkU 6 [3] = true := by decide +kernel
theorem chu7_4 : allExt 7 chkU 6 [4] = true := by decide +kernel
theorem chu7_5 : allExt 7 chkU 6 [5] = true := by decide +kernel
theorem chu7_6 : allExt 7 chkU 6 [6] = true := by decide +kernel
end Go.Proofs.Ytjfhogholmabfaa.Pure
