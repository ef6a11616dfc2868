/- The parity of a product; all permutations of at most seven points, one by one: orders and cycles. -/
import Derived.Test.YtjfhogholmabfaaPureE0
namespace Go.Proofs.Ytjfhogholmabfaa.Pure
set_option linter.unusedVariables false
set_option linter.unusedSimpArgs false
open Go.RowKit Go.Proofs.YtjfhogholmabfaaW.PrintWords Go.Proofs.YtjfhogholmabfaaW.PrintLast Go.Proofs.YtjfhogholmabfaaW.PrintMore
open Pa Giv

/-- How many of l are below x. -/
def cntD (x : Int) : List Int → Nat
  | [] => 0
  | y :: r => (if y < x then 1 else 0) + cntD x r
theorem cntD_perm (x : Int) {l m : List Int} (h : l.Perm m) : cntD x l = cntD x m := by
  induction h with
  | nil => rfl
  | cons y _ ih => simp only [cntD, ih]
  | swap y z l => simp only [cntD]; omega
  | trans _ _ ih1 ih2 => rw [ih1, ih2]
/-- The number of inversions. -/
def invs : List Int → Nat
  | [] => 0
  | x :: t => cntD x t + invs t
theorem invs_map (f : Int → Int) {l m : List Int} (h : l.Perm m) : l.Nodup → (∀ x ∈ l, ∀ y ∈ l, f x = f y → x = y) → (invs (l.map f) + invs l) % 2 = (invs (m.map f) + invs m) % 2 := by
  induction h with
  | nil => intro _ _; rfl
  | @cons x l m h ih =>
    intro hn hf
    have hn' := (List.nodup_cons.1 hn).2
    have := ih hn' (fun a ha b hb => hf a (by simp [ha]) b (by simp [hb]))
    simp only [List.map_cons, invs, cntD_perm x h, cntD_perm (f x) (h.map f)]
    omega
  | swap x y l =>
    intro hn hf
    have hxy : x ≠ y := by
      intro h
      simp [h] at hn
    have hfxy : f x ≠ f y := fun h => hxy (hf x (by simp) y (by simp) h)
    have e1 : (if x < y then 1 else 0) + (if y < x then 1 else 0) = 1 := by
      split <;> split <;> omega
    have e2 : (if f x < f y then 1 else 0) + (if f y < f x then 1 else 0) = 1 := by
      split <;> split <;> omega
    simp only [List.map_cons, invs, cntD]
    omega
  | @trans a b c h1 h2 ih1 ih2 =>
    intro hn hf
    have hn' := (h1.nodup_iff).1 hn
    rw [ih1 hn hf, ih2 hn' (fun a ha b hb => hf a (h1.mem_iff.2 ha) b (h1.mem_iff.2 hb))]
theorem invs_idn {n : Nat} (h : n ≤ 7) : invs (idn n) = 0 :=
  to7 (P := fun n => invs (idn n) = 0) h rfl rfl rfl rfl rfl rfl rfl rfl
theorem perm_idn {p : List Int} (hp : validB p = true) : p.Perm (idn p.length) := by
  obtain ⟨a, b, c, d⟩ := valid_into hp
  refine (List.perm_ext_iff_of_nodup d ?_).2 fun x => ⟨fun h => ?_, fun h => ?_⟩
  · exact (valid_into (valid_idn b c)).2.2.2
  · have := a x h
    simp only [idn, List.mem_map, List.mem_range]
    exact ⟨x.toNat, by omega, by simp; omega⟩
  · simp only [idn, List.mem_map, List.mem_range] at h
    obtain ⟨i, hi, rfl⟩ := h
    exact full a d i hi
theorem invs_mul {p q : List Int} (hp : validB p = true) (hq : validB q = true) (hl : p.length = q.length) : (invs (mulL p q) + invs p) % 2 = invs q % 2 := by
  obtain ⟨a, b, c, d⟩ := valid_into hp
  obtain ⟨a', b', c', d'⟩ := valid_into hq
  have h := invs_map (fun x => q.getD x.toNat 0) (perm_idn hp) d (fun x hx y hy h => by
    have h1 := a x hx
    have h2 := a y hy
    have := nodup_at d' (i := x.toNat) (j := y.toNat) (by omega) (by omega) h
    omega)
  rw [invs_idn c] at h
  have e : (idn p.length).map (fun x => q.getD x.toNat 0) = q := by
    have := id_mul q
    rw [← hl] at this
    exact this
  rw [e] at h
  exact h
theorem invs_inv {p : List Int} (hp : validB p = true) : invs (invL p) % 2 = invs p % 2 := by
  obtain ⟨a, b, c, d⟩ := valid_into hp
  have h := invs_mul (valid_inv hp) hp (invL_len p)
  rw [inv_mul a d, invs_idn c] at h
  omega
theorem invs_comm {p q : List Int} (hp : validB p = true) (hq : validB q = true) (hl : p.length = q.length) : invs (commL p q) % 2 = 0 := by
  have h1 := invs_mul (valid_mul (valid_inv hp) (valid_inv hq) (by rw [invL_len, invL_len, hl])) (valid_mul hp hq hl) (by rw [mulL_len, mulL_len, invL_len])
  have h2 := invs_mul hp hq hl
  have h3 := invs_mul (valid_inv hp) (valid_inv hq) (by rw [invL_len, invL_len, hl])
  have h4 := invs_inv hp
  have h5 := invs_inv hq
  unfold commL
  omega
/-- The first multiple of len on the way from n by steps of all. -/
def up : Nat → Int → Int → Int → Option Int
  | 0, _, _, _ => none
  | k + 1, n, all, len => if Int.tmod n len = 0 then some n else up k (wrap64 (n + all)) all len
/-- The least common multiple of the rows' lengths, if each divides o. -/
def lc : Nat → Int → List (List Int) → Int → Nat → Option Int
  | 0, _, _, _, _ => none
  | k + 1, o, l, all, i => if i < l.length then (if (l.getD i []).length = 0 then none else (if Int.tmod o ((l.getD i []).length : Int) = 0 then (up 20 all all ((l.getD i []).length : Int)).bind fun n => lc k o l n (i + 1) else none)) else some all
def fin (p : List Int) (o : Nat) : Bool :=
  decide (lc 8 o (cycL p) 1 0 = some (o : Int)) && decide (Int.tmod (sumW (cycL p)) 2 = ((invs p % 2 : Nat) : Int))
def chkW : Nat → Nat → List Int → List Int → Bool
  | 0, _, _, _ => false
  | k + 1, o, p, x => if x = idn p.length then fin p o else chkW k (o + 1) p (mulL x p)
theorem chkW_ord {p : List Int} : ∀ k o, 1 ≤ o → o + k ≤ 100 → chkW k o p (powL p o) = true → (∀ j, 1 ≤ j → j < o → powL p j ≠ idn p.length) → ∃ m, IsOrd p m ∧ fin p m = true
  | 0, o, _, _, h, _ => by simp [chkW] at h
  | k + 1, o, h1, h2, h, hj => by
    simp only [chkW] at h
    by_cases e : powL p o = idn p.length
    · rw [if_pos e] at h
      exact ⟨o, ⟨h1, by omega, e, hj⟩, h⟩
    · rw [if_neg e] at h
      refine chkW_ord k (o + 1) (by omega) (by omega) h fun j a b => ?_
      by_cases hb : j = o
      · rw [hb]; exact e
      · exact hj j a (by omega)
def chkO (p : List Int) : Bool := chkW 13 1 p p
set_option maxRecDepth 100000
theorem cho1 : allExt 1 chkO 1 [] = true := by decide +kernel
theorem cho2 : allExt 2 chkO 2 [] = true := by decide +kernel
theorem cho3 : allExt 3 chkO 3 [] = true := by decide +kernel
theorem cho4 : allExt 4 chkO 4 [] = true := by decide +kernel
theorem cho5 : allExt 5 chkO 5 [] = true := by decide +kernel
end Go.Proofs.Ytjfhogholmabfaa.Pure
