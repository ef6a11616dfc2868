-- CUT by a program of this session: what the claim does not use is left out
import Derived.Test.YthfhnkpipdbekaaDoorQ16
import Derived.Test.YthfhnkpipdbekaaDoorQ10
namespace Go.Proofs.YthfhnkpipdbekaaDoor.Pure
set_option linter.unusedVariables false
set_option linter.unusedSimpArgs false
open Go.RowKit Go.Proofs.YthfhnkpipdbekaaDoorW.PrintWords Go.Proofs.YthfhnkpipdbekaaDoorW.PrintLast Go.Proofs.YthfhnkpipdbekaaDoorW.PrintMore
open Ua Ta Giv Tb Tx Tj
def nums (lo n : Nat) : List Int := (List.range n).map fun i => ((lo + i : Nat) : Int)
theorem nums_len (lo n : Nat) : (nums lo n).length = n := by simp [nums]
theorem cs_nums {lo n i : Nat} (h : i < n) : cs (nums lo n) i = ((lo + i : Nat) : Int) := by
 simp [cs, rd, nums, List.getD_eq_getElem?_getD, h]
theorem cs_app {lo n i : Nat} (z : Int) (h : i < n) : cs (nums lo n ++ [z]) i = ((lo + i : Nat) : Int) := by
 have hi : i < (nums lo n).length := by rw [nums_len]; exact h
 have e : (nums lo n ++ [z])[i]? = (nums lo n)[i]? := List.getElem?_append_left hi
 have r := cs_nums (lo := lo) h
 simp only [cs, rd, List.getD_eq_getElem?_getD, Int.toNat_natCast] at r ⊢
 rw [e, r]
theorem cs_last {lo n : Nat} (z : Int) : cs (nums lo n ++ [z]) n = z := by
 have e : (nums lo n ++ [z])[n]? = some z := by
  rw [List.getElem?_append_right (by rw [nums_len]; exact Nat.le_refl _), nums_len]; simp
 simp only [cs, rd, List.getD_eq_getElem?_getD, Int.toNat_natCast]
 rw [e]; rfl
theorem nums_next (lo n : Nat) : nums lo n ++ [((lo + n : Nat) : Int)] = nums lo (n + 1) := by simp [nums, List.range_succ]
theorem nums_split (h m : Nat) : nums 0 (h + m) = nums 0 h ++ nums h m := by
 simp [nums, List.range_add, Function.comp_def]
theorem unum_l0 (lo n : Nat) (hb : lo + n ≤ 100000) : ∀ d i, i + d = n → Ev (fun k => undo_numbers.l0 k ((lo + n : Nat) : Int) (nums lo i) ((lo + i : Nat) : Int)) (nums lo n)
 | 0, i, h => by
  obtain rfl : i = n := by omega
  refine EvS fun k => ?_
  simp only [undo_numbers.l0]
  rw [if_neg (by omega)]
 | d + 1, i, h => by
  have ih := unum_l0 lo n hb d (i + 1) (by omega)
  refine Ev1 ih fun k => ?_
  simp only [undo_numbers.l0]
  rw [if_pos (by omega), if_pos (by rw [nums_len]; omega), w64 _ (by omega), nums_next]
  rfl
theorem unum_ev (lo n : Nat) (hb : lo + n ≤ 100000) {a b : Int} (ha : a = (lo : Int)) (hb2 : b = ((lo + n : Nat) : Int)) : Ev (fun k => undo_numbers.f k a b) (nums lo n) := by
 subst ha; subst hb2
 exact unum_l0 lo n hb n 0 (by omega)
theorem take_nums (x : List Bool) (lo n : Nat) (h : lo + n ≤ x.length) : (nums lo n).map (fun v => rdOf false x v) = (x.drop lo).take n := by
 apply List.ext_getElem (by simp [nums]; omega)
 intro i h1 h2
 have hi : i < n := by simpa [nums] using h1
 have e : ((lo : Int) + (i : Int)).toNat = lo + i := by omega
 simp [nums, rdOf, List.getD_eq_getElem?_getD, e, List.getElem?_eq_getElem (show lo + i < x.length by omega)]
theorem all_take (x : List Bool) (n : Nat) (h : n ≤ x.length) : ((nums 0 n).all fun v => rdOf false x v) = (x.take n).all fun b => b := by
 have e := take_nums x 0 n (by omega)
 rw [List.drop_zero] at e
 rw [← e, List.all_map]; rfl
theorem valid_mk {n : Nat} {l : List S67} (h1 : 1 ≤ n) (h2 : n ≤ 1024) (hl : l.length ≤ 200000) (hr : ∀ o ∈ l, rightB (n : Int) o = true) : validB (n : Int) l = true := by
 unfold validB
 rw [decide_eq_true (show 1 ≤ (n : Int) ∧ (n : Int) ≤ 1024 ∧ l.length ≤ 200000 from ⟨by omega, by omega, hl⟩), Bool.true_and, List.all_eq_true]
 exact hr
structure Conj (N n : Nat) (l : List S67) : Prop where
 v : validB (N : Int) l = true
 lt : n < N
 run : ∀ x : List Bool, x.length = N → runL x l = flipIf x (n : Int) ((x.take n).all fun b => b)
def bitsAnd (n : Nat) : Nat := n + 1 + (n - 2)
def andL (n : Nat) : List S67 := ctlL (n : Int) (nums 0 n) (nums (n + 1) (n - 2))
theorem and_at (n : Nat) : CtlAt (bitsAnd n) (n : Int) (nums 0 n) (nums (n + 1) (n - 2)) := by
 unfold bitsAnd
 constructor
 ·exact ⟨by omega, by omega⟩
 ·intro i hi; rw [nums_len] at hi; rw [cs_nums hi]; omega
 ·intro i j hi hj e; rw [nums_len] at hi hj; rw [cs_nums hi, cs_nums hj] at e; omega
 ·intro i hi; rw [nums_len] at hi; rw [cs_nums hi]; omega
 ·intro j hj; rw [nums_len] at hj; rw [cs_nums hj]; omega
 ·intro i j hi hj e; rw [nums_len] at hi hj; rw [cs_nums hi, cs_nums hj] at e; omega
 ·intro j hj; rw [nums_len] at hj; rw [cs_nums hj]; omega
 ·intro i j hi hj; rw [nums_len] at hi hj; rw [cs_nums hi, cs_nums hj]; omega
theorem and_conj (n : Nat) (hn : n ≤ 300) : Conj (bitsAnd n) n (andL n) := by
 have h := and_at n
 have hl := (ctl_len (n : Int) (nums 0 n) (nums (n + 1) (n - 2))).1
 rw [nums_len] at hl
 refine ⟨valid_mk (by unfold bitsAnd; omega) (by unfold bitsAnd; omega) (by unfold andL; omega) (ctl_right h), by unfold bitsAnd; omega, fun x hx => ?_⟩
 unfold andL
 rw [ctl_run h x hx, all_take x n (by rw [hx]; unfold bitsAnd; omega)]
theorem mx_sub (n : Nat) (hn : n ≤ 300) : mx 0 (wrap64 ((n : Int) - 2)) = ((n - 2 : Nat) : Int) := by
 rw [show wrap64 ((n : Int) - 2) = (n : Int) - 2 by unfold wrap64; omega]
 unfold mx; omega
theorem and_ev (n : Nat) (hn : n ≤ 300) : Ev (fun k => undo_And.f k (n : Int)) (((bitsAnd n : Nat) : Int), andL n, 0) := by
 have e0 : wrap64 ((n : Int) + 1) = ((n + 1 : Nat) : Int) := w64 n (by omega)
 have e1 := mx_sub n hn
 have e2 : wrap64 (((n + 1 : Nat) : Int) + ((n - 2 : Nat) : Int)) = ((bitsAnd n : Nat) : Int) := by unfold wrap64 bitsAnd; omega
 have key : Ev (fun k => (undo_numbers.f k 0 (n : Int)).bind fun t278 => ((undo_numbers.f k ((n + 1 : Nat) : Int) ((bitsAnd n : Nat) : Int)).bind fun t281 => ((undo_Controlled.f k (n : Int) t278 t281).bind fun t284 => (some (((bitsAnd n : Nat) : Int), t284, (0 : Int)))))) (((bitsAnd n : Nat) : Int), andL n, 0) :=
  Ev.bind (unum_ev 0 n (by omega) rfl (by simp)) (Ev.bind (unum_ev (n + 1) (n - 2) (by omega) rfl rfl) (Ev.bind (controlled_ev (by rw [nums_len, nums_len]; omega) (by rw [nums_len]; omega)) (Ev.now _)))
 have h0 : Ev (fun k => undo_And.j0 k (n : Int) false) (((bitsAnd n : Nat) : Int), andL n, 0) := Ev1 key fun k => by
  simp only [undo_And.j0]
  rw [if_neg (by simp), e0, e1, e2]
 refine EvC h0 fun k => ?_
 unfold undo_And.f
 rw [if_neg (by omega), show decide ((n : Int) > 300) = false from decide_eq_false (by omega)]
theorem and_out {a : Int} (h : a < 0 ∨ 300 < a) : Ev (fun k => undo_And.f k a) (0, [], 2) := by
 have h0 : Ev (fun k => undo_And.j0 k a true) ((0, [], 2) : Int × List S67 × Int) := EvS fun k => by simp only [undo_And.j0]; rw [if_pos trivial]
 refine EvC h0 fun k => ?_
 unfold undo_And.f
 by_cases c : a < 0
 ·rw [if_pos c]
 ·rw [if_neg c, show decide (a > 300) = true from decide_eq_true (by omega)]
def oneL (n h : Nat) : List S67 := ctlL ((n + 1 : Nat) : Int) (nums 0 h) (nums h (n - h + 1))
def twoL (n h : Nat) : List S67 := ctlL (n : Int) (nums h (n - h) ++ [((n + 1 : Nat) : Int)]) (nums 0 h)
theorem one_at {n h : Nat} (h1 : h ≤ n) (h2 : h - 2 ≤ n - h + 1) : CtlAt (n + 2) ((n + 1 : Nat) : Int) (nums 0 h) (nums h (n - h + 1)) := by
 constructor
 ·exact ⟨by omega, by omega⟩
 ·intro i hi; rw [nums_len] at hi; rw [cs_nums hi]; omega
 ·intro i j hi hj e; rw [nums_len] at hi hj; rw [cs_nums hi, cs_nums hj] at e; omega
 ·intro i hi; rw [nums_len] at hi; rw [cs_nums hi]; omega
 ·intro j hj; rw [nums_len] at hj; rw [cs_nums (by omega)]; omega
 ·intro i j hi hj e; rw [nums_len] at hi hj; rw [cs_nums (by omega), cs_nums (by omega)] at e; omega
 ·intro j hj; rw [nums_len] at hj; rw [cs_nums (by omega)]; omega
 ·intro i j hi hj; rw [nums_len] at hi hj; rw [cs_nums hi, cs_nums (by omega)]; omega
theorem app_len (lo n : Nat) (z : Int) : (nums lo n ++ [z]).length = n + 1 := by simp [nums]
theorem cs_two {n h i : Nat} (hi : i < n - h + 1) : cs (nums h (n - h) ++ [((n + 1 : Nat) : Int)]) i = if i < n - h then ((h + i : Nat) : Int) else ((n + 1 : Nat) : Int) := by
 split
 ·exact cs_app _ (by assumption)
 ·obtain rfl : i = n - h := by omega
  exact cs_last _
theorem two_at {n h : Nat} (h1 : h ≤ n) (h2 : n - h ≤ h + 1) : CtlAt (n + 2) (n : Int) (nums h (n - h) ++ [((n + 1 : Nat) : Int)]) (nums 0 h) := by
 constructor
 ·exact ⟨by omega, by omega⟩
 ·intro i hi; rw [app_len] at hi; rw [cs_two hi]; split <;> omega
 ·intro i j hi hj e; rw [app_len] at hi hj; rw [cs_two hi, cs_two hj] at e; split at e <;> split at e <;> omega
 ·intro i hi; rw [app_len] at hi; rw [cs_two hi]; split <;> omega
 ·intro j hj; rw [app_len] at hj; rw [cs_nums (by omega)]; omega
 ·intro i j hi hj e; rw [app_len] at hi hj; rw [cs_nums (by omega), cs_nums (by omega)] at e; omega
 ·intro j hj; rw [app_len] at hj; rw [cs_nums (by omega)]; omega
 ·intro i j hi hj; rw [app_len] at hi hj; rw [cs_two hi, cs_nums (by omega)]; split <;> omega
theorem all_flip {lo m a : Nat} {y : List Bool} {v : Bool} (ha : a < y.length) (hh : lo + m ≤ a) : ((nums lo m).all fun t => rdOf false (flipIf y (a : Int) v) t) = (nums lo m).all fun t => rdOf false y t := by
 have e : ∀ t ∈ nums lo m, rdOf false (flipIf y (a : Int) v) t = rdOf false y t := fun t ht => by
  obtain ⟨i, hi, rfl⟩ := List.mem_map.1 ht
  have := List.mem_range.1 hi
  rw [rd_flip ⟨by omega, by omega⟩ (by omega), if_neg (by omega)]
 rw [Bool.eq_iff_iff, List.all_eq_true, List.all_eq_true]
 exact ⟨fun H t ht => by rw [← e t ht]; exact H t ht, fun H t ht => by rw [e t ht]; exact H t ht⟩
theorem andOne_run {n h : Nat} (h1 : h ≤ n) (h2 : h - 2 ≤ n - h + 1) (h3 : n - h ≤ h + 1) (x : List Bool) (hx : x.length = n + 2) : runL x (oneL n h ++ (twoL n h ++ (oneL n h ++ twoL n h))) = flipIf x (n : Int) ((x.take n).all fun b => b) := by
 obtain ⟨A, hA⟩ : ∃ A, A = ((nums 0 h).all fun t => rdOf false x t) := ⟨_, rfl⟩
 obtain ⟨B, hB⟩ : ∃ B, B = ((nums h (n - h)).all fun t => rdOf false x t) := ⟨_, rfl⟩
 have eAB : ((x.take n).all fun b => b) = (A && B) := by
  rw [← all_take x n (by omega), hA, hB, ← List.all_append, ← nums_split, show h + (n - h) = n by omega]
 have one : ∀ y : List Bool, y.length = n + 2 → runL y (oneL n h) = flipIf y ((n + 1 : Nat) : Int) ((nums 0 h).all fun t => rdOf false y t) := fun y hy => ctl_run (one_at h1 h2) y hy
 have two : ∀ y : List Bool, y.length = n + 2 → runL y (twoL n h) = flipIf y (n : Int) (((nums h (n - h)).all fun t => rdOf false y t) && rdOf false y ((n + 1 : Nat) : Int)) := fun y hy => by
  have := ctl_run (two_at h1 h3) y hy
  rw [List.all_append] at this
  rw [twoL, this]
  simp
 obtain ⟨y1, e1⟩ : ∃ y, y = flipIf x ((n + 1 : Nat) : Int) A := ⟨_, rfl⟩
 have l1 : y1.length = n + 2 := by rw [e1, flip_len, hx]
 have A1 : ((nums 0 h).all fun t => rdOf false y1 t) = A := by rw [e1, all_flip (by omega) (by omega), hA]
 have B1 : ((nums h (n - h)).all fun t => rdOf false y1 t) = B := by rw [e1, all_flip (by omega) (by omega), hB]
 obtain ⟨y2, e2⟩ : ∃ y, y = flipIf y1 (n : Int) (B && rdOf false y1 ((n + 1 : Nat) : Int)) := ⟨_, rfl⟩
 have l2 : y2.length = n + 2 := by rw [e2, flip_len, l1]
 have A2 : ((nums 0 h).all fun t => rdOf false y2 t) = A := by rw [e2, all_flip (by omega) (by omega), A1]
 have B2 : ((nums h (n - h)).all fun t => rdOf false y2 t) = B := by rw [e2, all_flip (by omega) (by omega), B1]
 obtain ⟨y3, e3⟩ : ∃ y, y = flipIf y2 ((n + 1 : Nat) : Int) A := ⟨_, rfl⟩
 have l3 : y3.length = n + 2 := by rw [e3, flip_len, l2]
 have B3 : ((nums h (n - h)).all fun t => rdOf false y3 t) = B := by rw [e3, all_flip (by omega) (by omega), B2]
 rw [runL_app, runL_app, runL_app, one x hx, ← hA, ← e1, two y1 l1, B1, ← e2, one y2 l2, A2, ← e3, two y3 l3, B3, eAB]
 have r1 : ∀ i : Int, 0 ≤ i → rdOf false y1 i = if i = ((n + 1 : Nat) : Int) then (rdOf false x ((n + 1 : Nat) : Int) != A) else rdOf false x i := fun i hi => by rw [e1, rd_flip ⟨by omega, by omega⟩ hi]
 have r2 : ∀ i : Int, 0 ≤ i → rdOf false y2 i = if i = (n : Int) then (rdOf false y1 (n : Int) != (B && rdOf false y1 ((n + 1 : Nat) : Int))) else rdOf false y1 i := fun i hi => by rw [e2, rd_flip ⟨by omega, by omega⟩ hi]
 have r3 : ∀ i : Int, 0 ≤ i → rdOf false y3 i = if i = ((n + 1 : Nat) : Int) then (rdOf false y2 ((n + 1 : Nat) : Int) != A) else rdOf false y2 i := fun i hi => by rw [e3, rd_flip ⟨by omega, by omega⟩ hi]
 have s1 : rdOf false y1 ((n + 1 : Nat) : Int) = (rdOf false x ((n + 1 : Nat) : Int) != A) := by rw [r1 _ (by omega), if_pos rfl]
 have t1 : rdOf false y1 (n : Int) = rdOf false x (n : Int) := by rw [r1 _ (by omega), if_neg (by omega)]
 have s2 : rdOf false y2 ((n + 1 : Nat) : Int) = (rdOf false x ((n + 1 : Nat) : Int) != A) := by rw [r2 _ (by omega), if_neg (by omega), s1]
 have s3 : rdOf false y3 ((n + 1 : Nat) : Int) = rdOf false x ((n + 1 : Nat) : Int) := by
  rw [r3 _ (by omega), if_pos rfl, s2]
  generalize rdOf false x ((n + 1 : Nat) : Int) = S
  cases S <;> cases A <;> rfl
 have t3 : rdOf false y3 (n : Int) = (rdOf false x (n : Int) != (B && (rdOf false x ((n + 1 : Nat) : Int) != A))) := by
  rw [r3 _ (by omega), if_neg (by omega), r2 _ (by omega), if_pos rfl, t1, s1]
 refine row_ext (by rw [flip_len, flip_len, l3, hx]) fun i hi => ?_
 have hi0 : (0 : Int) ≤ (i : Int) := by omega
 rw [rd_flip ⟨by omega, by omega⟩ hi0, rd_flip ⟨by omega, by omega⟩ hi0]
 by_cases e : (i : Int) = (n : Int)
 ·rw [if_pos e, if_pos e, t3, s3]
  generalize rdOf false x ((n + 1 : Nat) : Int) = S
  generalize rdOf false x (n : Int) = T
  cases S <;> cases A <;> cases B <;> cases T <;> rfl
 ·rw [if_neg e, if_neg e]
  by_cases e' : (i : Int) = ((n + 1 : Nat) : Int)
  ·rw [e', s3]
  ·rw [r3 _ hi0, if_neg e', r2 _ hi0, if_neg e, r1 _ hi0, if_neg e']
def bitsOne (n : Nat) : Nat := if n ≤ 2 then bitsAnd n else n + 2
def andOneL (n : Nat) : List S67 := if n ≤ 2 then andL n else oneL n ((n + 1) / 2) ++ (twoL n ((n + 1) / 2) ++ (oneL n ((n + 1) / 2) ++ twoL n ((n + 1) / 2)))
theorem and_len (n : Nat) : (andL n).length ≤ max 1 (4 * n) := by
 have hl := (ctl_len (n : Int) (nums 0 n) (nums (n + 1) (n - 2))).1
 rw [nums_len] at hl
 exact hl
theorem one_len {n h : Nat} (h1 : 2 ≤ h) : (oneL n h).length + 7 ≤ 4 * h := by
 have hl := (ctl_len ((n + 1 : Nat) : Int) (nums 0 h) (nums h (n - h + 1))).2
 rw [nums_len] at hl
 exact hl h1
theorem two_len {n h : Nat} (h1 : 1 ≤ n - h) : (twoL n h).length + 7 ≤ 4 * (n - h + 1) := by
 have hl := (ctl_len (n : Int) (nums h (n - h) ++ [((n + 1 : Nat) : Int)]) (nums 0 h)).2
 rw [app_len] at hl
 exact hl (by omega)
theorem andOne_len (n : Nat) : (andOneL n).length ≤ max 1 (8 * n) := by
 unfold andOneL
 split
 ·have := and_len n; omega
 ·have o := one_len (n := n) (h := (n + 1) / 2) (by omega)
  have t := two_len (n := n) (h := (n + 1) / 2) (by omega)
  simp only [List.length_append]
  omega
theorem andOne_conj (n : Nat) (hn : n ≤ 300) : Conj (bitsOne n) n (andOneL n) := by
 have hl := andOne_len n
 unfold bitsOne
 by_cases c : n ≤ 2
 ·have := and_conj n hn
  rw [if_pos c]
  unfold andOneL
  rw [if_pos c]; exact this
 ·rw [if_neg c]
  have h1 : (n + 1) / 2 ≤ n := by omega
  have h2 : (n + 1) / 2 - 2 ≤ n - (n + 1) / 2 + 1 := by omega
  have h3 : n - (n + 1) / 2 ≤ (n + 1) / 2 + 1 := by omega
  refine ⟨valid_mk (by omega) (by omega) (by omega) ?_, by omega, fun x hx => ?_⟩
  ·intro o ho
   unfold andOneL at ho
   rw [if_neg c] at ho
   have a := ctl_right (one_at h1 h2)
   have b := ctl_right (two_at h1 h3)
   rcases List.mem_append.1 ho with h | h
   ·exact a o h
   ·rcases List.mem_append.1 h with h | h
    ·exact b o h
    ·rcases List.mem_append.1 h with h | h
     ·exact a o h
     ·exact b o h
  ·unfold andOneL
   rw [if_neg c]
   exact andOne_run h1 h2 h3 x hx
theorem andOne_ev (n : Nat) (hn : n ≤ 300) : Ev (fun k => undo_AndOne.f k (n : Int)) (((bitsOne n : Nat) : Int), andOneL n, 0) := by
 have e0 : wrap64 ((n : Int) + 1) = ((n + 1 : Nat) : Int) := w64 n (by omega)
 have h0 : Ev (fun k => undo_AndOne.j0 k (n : Int) false) (((bitsOne n : Nat) : Int), andOneL n, 0) := by
  unfold bitsOne andOneL
  by_cases c : n ≤ 2
  ·rw [if_pos c, if_pos c]
   have key : Ev (fun k => (undo_And.f k (n : Int)).bind fun bt288 => some (bt288.1, bt288.2.1, bt288.2.2)) (((bitsAnd n : Nat) : Int), andL n, 0) := Ev.bind (and_ev n hn) (Ev.now _)
   refine Ev1 key fun k => ?_
   simp only [undo_AndOne.j0]
   rw [if_neg (by simp), if_pos (by omega)]
  ·rw [if_neg c, if_neg c]
   obtain ⟨h, hh⟩ : ∃ h, h = (n + 1) / 2 := ⟨_, rfl⟩
   have e1 : wrap64 (Int.tdiv ((n + 1 : Nat) : Int) 2) = (h : Int) := by
    rw [Int.tdiv_eq_ediv_of_nonneg (by omega)]
    unfold wrap64; omega
   have e2 : wrap64 ((n : Int) + 2) = ((n + 2 : Nat) : Int) := by unfold wrap64; omega
   have c1 : Ev (fun k => undo_Controlled.f k ((n + 1 : Nat) : Int) (nums 0 h) (nums h (n - h + 1))) (oneL n h) := controlled_ev (by rw [nums_len, nums_len]; omega) (by rw [nums_len]; omega)
   have c2 : Ev (fun k => undo_Controlled.f k (n : Int) (nums h (n - h) ++ [((n + 1 : Nat) : Int)]) (nums 0 h)) (twoL n h) := controlled_ev (by rw [app_len, nums_len]; omega) (by rw [app_len]; omega)
   have o := one_len (n := n) (h := h) (by omega)
   have t := two_len (n := n) (h := h) (by omega)
   have key : Ev (fun k => (undo_numbers.f k 0 (h : Int)).bind fun t293 => (undo_numbers.f k (h : Int) (n : Int)).bind fun t296 => (slices_Clone_ints.f t296).bind fun t299 => (if t299.length < 17592186044416 then ((undo_Controlled.f k ((n + 1 : Nat) : Int) t293 (t299 ++ [(n : Int)])).bind fun t305 => ((slices_Clone_ints.f t296).bind fun t308 => (if t308.length < 17592186044416 then ((undo_Controlled.f k (n : Int) (t308 ++ [((n + 1 : Nat) : Int)]) t293).bind fun t314 => ((slices_Concat_ops.f (([t305, t314, t305, t314] : List (List (S67))))).bind fun t320 => (some (((n + 2 : Nat) : Int), t320, (0 : Int))))) else (none)))) else (none))) (((n + 2 : Nat) : Int), oneL n h ++ (twoL n h ++ (oneL n h ++ twoL n h)), 0) := by
    refine Ev.bind (unum_ev 0 h (by omega) rfl (by simp)) (Ev.bind (unum_ev h (n - h) (by omega) rfl (by omega)) ?_)
    have cl : slices_Clone_ints.f (nums h (n - h)) = some (nums h (n - h)) := by unfold slices_Clone_ints.f; rw [if_pos (by rw [nums_len]; omega)]
    have g : nums h (n - h) ++ [(n : Int)] = nums h (n - h + 1) := by rw [← nums_next, show h + (n - h) = n by omega]
    have key2 : Ev (fun k => (undo_Controlled.f k ((n + 1 : Nat) : Int) (nums 0 h) (nums h (n - h + 1))).bind fun t305 => ((undo_Controlled.f k (n : Int) (nums h (n - h) ++ [((n + 1 : Nat) : Int)]) (nums 0 h)).bind fun t314 => ((slices_Concat_ops.f (([t305, t314, t305, t314] : List (List (S67))))).bind fun t320 => (some (((n + 2 : Nat) : Int), t320, (0 : Int)))))) (((n + 2 : Nat) : Int), oneL n h ++ (twoL n h ++ (oneL n h ++ twoL n h)), 0) := by
     refine Ev.bind c1 (Ev.bind c2 (EvSome fun k => ?_))
     unfold slices_Concat_ops.f
     rw [if_pos (by simp; omega)]
     simp
    refine EvC key2 fun k => ?_
    rw [cl]
    simp only [Option.bind_some]
    rw [if_pos (by rw [nums_len]; omega), g]
    congr 1; funext t305
    rw [if_pos (by rw [nums_len]; omega)]
   rw [← hh]
   refine Ev1 key fun k => ?_
   simp only [undo_AndOne.j0]
   rw [if_neg (by simp), if_neg (by omega), e0, e1, e2]
 refine EvC h0 fun k => ?_
 unfold undo_AndOne.f
 rw [if_neg (by omega), show decide ((n : Int) > 300) = false from decide_eq_false (by omega)]
theorem andOne_out {a : Int} (h : a < 0 ∨ 300 < a) : Ev (fun k => undo_AndOne.f k a) (0, [], 2) := by
 have h0 : Ev (fun k => undo_AndOne.j0 k a true) ((0, [], 2) : Int × List S67 × Int) := EvS fun k => by simp only [undo_AndOne.j0]; rw [if_pos trivial]
 refine EvC h0 fun k => ?_
 unfold undo_AndOne.f
 by_cases c : a < 0
 ·rw [if_pos c]
 ·rw [if_neg c, show decide (a > 300) = true from decide_eq_true (by omega)]
end Go.Proofs.YthfhnkpipdbekaaDoor.Pure
