-- CUT by a program of this session: what the claim does not use is left out
import Derived.Test.YtfoodfhhdbaieaaDoorM15
import Derived.Test.YtfoodfhhdbaieaaDoorM29
import Derived.Test.YtfoodfhhdbaieaaDoorM12
namespace Go.Proofs.YtfoodfhhdbaieaaDoor.Pure
set_option maxRecDepth 100000
set_option linter.unusedVariables false
set_option linter.unusedSimpArgs false
open Go.RowKit Go.Proofs.YtfoodfhhdbaieaaDoorW.PrintWords Go.Proofs.YtfoodfhhdbaieaaDoorW.PrintLast Go.Proofs.YtfoodfhhdbaieaaDoorW.PrintMore
open Go.Proofs.YtfoodfhhdbaieaaDoor.Giv Go.Proofs.YtfoodfhhdbaieaaDoor.Tx
theorem w64 (i : Nat) (h : i < 100000000) : wrap64 ((i : Int) + 1) = ((i + 1 : Nat) : Int) := by unfold wrap64; omega
def splR (s sep : ByteArray) (st i : Nat) : List ByteArray :=
 if h : i + sep.size ≤ s.size ∧ 0 < sep.size then
  (if (s.extract i (i + sep.size)).toList = sep.toList then s.extract st i :: splR s sep (i + sep.size) (i + sep.size) else splR s sep st (i + 1))
 else [s.extract st s.size]
termination_by s.size - i
decreasing_by all_goals omega
theorem split_l0 (s sep : ByteArray) (hs : s.size ≤ 100000) (hp : 0 < sep.size) (hp2 : sep.size ≤ 100) : ∀ (d i st : Nat) (x : List ByteArray), s.size - i ≤ d → st ≤ i → i ≤ s.size → x.length ≤ i → Ev (fun k => commodatumref09_Split.l0 k s sep x (st : Int) (i : Int)) (x ++ splR s sep st i) := by
 intro d
 induction d with
 | zero =>
  intro i st x hd hsi hi hx
  rw [splR, dif_neg (by omega)]
  refine EvS fun k => ?_
  simp only [commodatumref09_Split.l0]
  rw [show wrap64 ((i : Int) + (sep.size : Int)) = ((i + sep.size : Nat) : Int) by unfold wrap64; omega]
  rw [if_neg (by omega), if_pos (by omega), if_pos (by omega), if_pos (by omega), Int.toNat_natCast]
 | succ d ih =>
  intro i st x hd hsi hi hx
  have hw : wrap64 ((i : Int) + (sep.size : Int)) = ((i + sep.size : Nat) : Int) := by unfold wrap64; omega
  by_cases h : i + sep.size ≤ s.size
  ·by_cases c : (s.extract i (i + sep.size)).toList = sep.toList
   ·have i1 := ih (i + sep.size) (i + sep.size) (x ++ [s.extract st i]) (by omega) (Nat.le_refl _) h (by simp; omega)
    have e : x ++ splR s sep st i = (x ++ [s.extract st i]) ++ splR s sep (i + sep.size) (i + sep.size) := by
     conv => lhs; rw [splR, dif_pos ⟨h, hp⟩, if_pos c]
     simp
    rw [e]
    refine Ev1 i1 fun k => ?_
    simp only [commodatumref09_Split.l0]
    rw [hw, if_pos (by omega), if_pos (by omega), if_pos (by omega), Int.toNat_natCast, Int.toNat_natCast, if_pos c, if_pos (by omega), if_pos (by omega), if_pos (by omega), if_pos (by omega), Int.toNat_natCast]
   ·have i1 := ih (i + 1) st x (by omega) (by omega) (by omega) (by omega)
    have e : x ++ splR s sep st i = x ++ splR s sep st (i + 1) := by
     conv => lhs; rw [splR, dif_pos ⟨h, hp⟩, if_neg c]
    rw [e]
    refine Ev1 i1 fun k => ?_
    simp only [commodatumref09_Split.l0]
    rw [hw, if_pos (by omega), if_pos (by omega), if_pos (by omega), Int.toNat_natCast, Int.toNat_natCast, if_neg c, w64 _ (by omega)]
  ·rw [splR, dif_neg (by omega)]
   refine EvS fun k => ?_
   simp only [commodatumref09_Split.l0]
   rw [hw, if_neg (by omega), if_pos (by omega), if_pos (by omega), if_pos (by omega), Int.toNat_natCast]
theorem split_ev (s sep : ByteArray) (hs : s.size ≤ 100000) (hp : 0 < sep.size) (hp2 : sep.size ≤ 100) : Ev (fun k => commodatumref12_Split.f k s sep) (splR s sep 0 0) := by
 have h := split_l0 s sep hs hp hp2 s.size 0 0 [] (by omega) (Nat.le_refl _) (by omega) (by simp)
 rw [List.nil_append] at h
 exact Ev.bind (r := splR s sep 0 0) h (Ev.now _)
theorem splR_ne (s sep : ByteArray) (st i : Nat) : splR s sep st i ≠ [] := by
 induction st, i using splR.induct s sep with
 | case1 st i h c ih => rw [splR, dif_pos h, if_pos c]; simp
 | case2 st i h c ih => rw [splR, dif_pos h, if_neg c]; exact ih
 | case3 st i h => rw [splR, dif_neg h]; simp
theorem splR_len (s sep : ByteArray) (st i : Nat) (hi : i ≤ s.size) : (splR s sep st i).length ≤ s.size + 1 - i := by
 induction st, i using splR.induct s sep with
 | case1 st i h c ih => rw [splR, dif_pos h, if_pos c]; have := ih h.1; simp; omega
 | case2 st i h c ih => rw [splR, dif_pos h, if_neg c]; have := ih (by omega); omega
 | case3 st i h => rw [splR, dif_neg h]; simp; omega
theorem ext_iff (s sep : ByteArray) (i : Nat) : (s.extract i (i + sep.size)).toList = sep.toList ↔ (s.data.toList.drop i).take sep.data.toList.length = sep.data.toList := by
 rw [toList_iff, Lib.extract_data, size_list]
 rw [show i + sep.data.toList.length - i = sep.data.toList.length by omega]
theorem ext_eq (s : ByteArray) (i j : Nat) {p : List UInt8} (h : (s.data.toList.drop i).take (j - i) = p) : s.extract i j = Giv.bytesOf p := by
 apply ByteArray.ext
 apply Array.toList_inj.1
 rw [Lib.extract_data, h]
 rfl
theorem splR_scan {s sep : ByteArray} {c : UInt8} {t : List UInt8} (hc : sep.data.toList = c :: t) : ∀ (p rest : List UInt8) (st i : Nat), s.data.toList.drop i = p ++ rest → (∀ b ∈ p, b ≠ c) →
  (rest = [] → splR s sep st i = [s.extract st s.size]) ∧ (∀ q, rest = c :: t ++ q → splR s sep st i = s.extract st (i + p.length) :: splR s sep (i + p.length + sep.size) (i + p.length + sep.size))
 | [], rest, st, i, hd, hn => by
  have hsz := size_list sep
  have hss := size_list s
  rw [hc] at hsz
  have hl := congrArg List.length hd
  rw [List.length_drop, ← hss, List.nil_append] at hl
  simp only [List.length_cons] at hsz
  refine ⟨fun e => ?_, fun q e => ?_⟩
  ·subst e
   simp at hl
   rw [splR, dif_neg (by omega)]
  ·have hl2 : rest.length = t.length + 1 + q.length := by rw [e]; simp; omega
   rw [splR, dif_pos (by omega), if_pos]
   ·simp
   ·rw [ext_iff, hd, hc, e]
    simp
 | b :: p, rest, st, i, hd, hn => by
  have hsz := size_list sep
  have hss := size_list s
  rw [hc] at hsz
  simp only [List.length_cons] at hsz
  have hd2 : s.data.toList.drop (i + 1) = p ++ rest := by
   rw [← List.drop_drop, hd]; rfl
  have ih := splR_scan hc p rest st (i + 1) hd2 (fun x hx => hn x (List.mem_cons_of_mem _ hx))
  have step : splR s sep st i = splR s sep st (i + 1) ∨ (s.size < i + sep.size ∧ splR s sep st i = [s.extract st s.size]) := by
   by_cases h : i + sep.size ≤ s.size
   ·left
    rw [splR, dif_pos ⟨h, by omega⟩, if_neg]
    rw [ext_iff, hd, hc]
    intro e
    simp at e
    exact hn b List.mem_cons_self e.1
   ·right
    exact ⟨by omega, by rw [splR, dif_neg (by omega)]⟩
  have hl := congrArg List.length hd
  rw [List.length_drop, ← hss] at hl
  simp only [List.length_append, List.length_cons] at hl
  refine ⟨fun e => ?_, fun q e => ?_⟩
  ·rcases step with e1 | ⟨_, e1⟩
   ·rw [e1]; exact ih.1 e
   ·exact e1
  ·have hl2 : rest.length = t.length + 1 + q.length := by rw [e]; simp; omega
   rcases step with e1 | ⟨h1, _⟩
   ·rw [e1, ih.2 q e, List.length_cons]
    rw [show i + 1 + p.length = i + (p.length + 1) by omega]
   ·omega
theorem splR_join {s sep : ByteArray} {c : UInt8} {t : List UInt8} (hc : sep.data.toList = c :: t) : ∀ (ps : List (List UInt8)) (p : List UInt8) (i : Nat), s.data.toList.drop i = p ++ (ps.map fun x => (c :: t) ++ x).flatten → (∀ x ∈ p :: ps, ∀ b ∈ x, b ≠ c) → splR s sep i i = (p :: ps).map Giv.bytesOf
 | [], p, i, hd, hn => by
  have h := (splR_scan hc p [] i i (by simpa using hd) (hn p List.mem_cons_self)).1 rfl
  rw [h]
  have e : (s.data.toList.drop i).take (s.size - i) = p := by
   rw [List.take_of_length_le (by rw [List.length_drop, ← size_list]; exact Nat.le_refl _), hd]; simp
  rw [ext_eq s i s.size e]; rfl
 | x :: ps, p, i, hd, hn => by
  have hd' : s.data.toList.drop i = p ++ (c :: t ++ (x ++ (ps.map fun x => (c :: t) ++ x).flatten)) := by rw [hd]; simp
  have h := (splR_scan hc p _ i i hd' (hn p List.mem_cons_self)).2 _ rfl
  have hsz : sep.size = t.length + 1 := by rw [size_list, hc]; rfl
  have hd2 : s.data.toList.drop (i + p.length + sep.size) = x ++ (ps.map fun x => (c :: t) ++ x).flatten := by
   rw [Nat.add_assoc, ← List.drop_drop, hd', hsz, ← List.drop_drop, List.drop_left]
   exact List.drop_left (l₁ := c :: t)
  have ih := splR_join hc ps x _ hd2 (fun y hy => hn y (List.mem_cons_of_mem _ hy))
  rw [h, ih]
  have e : (s.data.toList.drop i).take (i + p.length - i) = p := by
   rw [show i + p.length - i = p.length by omega, hd', List.take_left]
  rw [ext_eq s i _ e]; rfl
def readFrom : List UInt8 → Int → Int
 | [], n => n
 | b :: t, n => if (b.toNat : Int) < 48 then -1 else if (b.toNat : Int) > 57 then -1 else readFrom t (n * 10 + ((b.toNat : Int) - 48))
def readV (l : List UInt8) : Int := if (l.length : Int) < 1 ∨ (l.length : Int) > 7 then -1 else readFrom l 0
theorem read_l0 (s : ByteArray) (hs : s.size ≤ 7) : ∀ (d i : Nat) (n : Int), i + d = s.size → 0 ≤ n → n < 10 ^ i → Ev (fun k => commodatumref09_Read.l0 k s n (i : Int)) (readFrom (s.data.toList.drop i) n)
 | 0, i, n, h, h0, h1 => by
  rw [List.drop_eq_nil_of_le (by rw [← size_list]; omega)]
  refine EvS fun k => ?_
  simp only [commodatumref09_Read.l0]
  rw [if_neg (by omega)]; rfl
 | d + 1, i, n, h, h0, h1 => by
  have hi : i < s.size := by omega
  have hl : i < s.data.toList.length := by rw [← size_list]; exact hi
  have e : s.data.toList.drop i = s[i] :: s.data.toList.drop (i + 1) := by rw [List.drop_eq_getElem_cons hl]; rfl
  have hb : bt s (i : Int) = (s[i].toNat : Int) := by rw [← bt_at s (i : Int) (by simpa using hi)]; rfl
  have hr := bt_range s (i : Int)
  have hp : (10 : Int) ^ i ≤ 1000000 := by
   have : i = 0 ∨ i = 1 ∨ i = 2 ∨ i = 3 ∨ i = 4 ∨ i = 5 ∨ i = 6 := by omega
   rcases this with rfl | rfl | rfl | rfl | rfl | rfl | rfl <;> decide
  have hp2 : (10 : Int) ^ (i + 1) = 10 ^ i * 10 := Int.pow_succ ..
  generalize (10 : Int) ^ i = P at *
  rw [e, readFrom, ← hb]
  by_cases c1 : bt s (i : Int) < 48
  ·rw [if_pos c1]
   refine EvS fun k => ?_
   simp only [commodatumref09_Read.l0]
   rw [if_pos (by omega), if_pos (by omega), if_pos c1]
  ·by_cases c2 : bt s (i : Int) > 57
   ·rw [if_neg c1, if_pos c2]
    refine EvS fun k => ?_
    simp only [commodatumref09_Read.l0]
    rw [if_pos (by omega), if_pos (by omega), if_neg c1, if_pos c2]
   ·rw [if_neg c1, if_neg c2]
    have ih := read_l0 s hs d (i + 1) (n * 10 + (bt s (i : Int) - 48)) (by omega) (by omega) (by omega)
    refine Ev1 ih fun k => ?_
    simp only [commodatumref09_Read.l0]
    rw [if_pos (by omega), if_pos (by omega), if_neg c1, if_neg c2, w64 _ (by omega)]
    rw [show wrap64 (wrap64 (n * 10) + (bt s (i : Int) - 48) % 256) = n * 10 + (bt s (i : Int) - 48) by generalize bt s (i : Int) = z at *; unfold wrap64; omega]
theorem read_ev (s : ByteArray) : Ev (fun k => commodatumref12_Read.f k s) (readV s.data.toList) := by
 have hz := size_list s
 have key : Ev (fun k => commodatumref09_Read.f k s) (readV s.data.toList) := by
  unfold commodatumref09_Read.f readV
  have bad : Ev (fun k => commodatumref09_Read.j0 k s true) (-1) := EvS fun k => by simp only [commodatumref09_Read.j0]; rw [if_pos trivial]
  rw [← hz]
  by_cases c1 : (s.size : Int) < 1
  ·rw [if_pos (Or.inl c1)]; exact EvC bad fun k => if_pos c1
  ·by_cases c2 : (s.size : Int) > 7
   ·rw [if_pos (Or.inr c2)]
    exact EvC bad fun k => by rw [if_neg c1, show decide ((s.size : Int) > 7) = true from decide_eq_true c2]
   ·rw [if_neg (by omega)]
    have h := read_l0 s (by omega) s.size 0 0 (by omega) (by omega) (by decide)
    rw [List.drop_zero] at h
    refine EvC (f := fun k => commodatumref09_Read.j0 k s false) (Ev1 h fun k => ?_) fun k => by rw [if_neg c1, show decide ((s.size : Int) > 7) = false from decide_eq_false c2]
    simp only [commodatumref09_Read.j0]
    rw [if_neg (by simp)]
    rfl
 exact Ev.bind key (Ev.now _)
theorem readFrom_dec : ∀ (u : Nat), ∀ t : List UInt8, readFrom (Lib.decDigits u ++ t) 0 = readFrom t (u : Int) := by
 intro u
 induction u using Nat.strongRecOn with
 | _ u ih =>
  intro t
  have dig : ∀ (d : Nat) (n : Int), d < 10 → readFrom (UInt8.ofNat (48 + d) :: t) n = readFrom t (n * 10 + (d : Int)) := fun d n hd => by
   have e : (UInt8.ofNat (48 + d)).toNat = 48 + d := by rw [UInt8.toNat_ofNat']; omega
   rw [readFrom, e, if_neg (by omega), if_neg (by omega)]
   congr 1
   omega
  rw [Lib.decDigits]
  by_cases h : u < 10
  ·rw [dif_pos h]
   show readFrom (_ :: t) 0 = _
   rw [dig u 0 h]; congr 1; omega
  ·rw [dif_neg h, List.append_assoc, ih (u / 10) (Nat.div_lt_self (by omega) (by decide))]
   show readFrom (_ :: t) _ = _
   rw [dig (u % 10) _ (Nat.mod_lt _ (by decide))]
   congr 1
   omega
theorem readV_itoa {y : Int} (h : 0 ≤ y) (h2 : y < 10000) : readV (Lib.itoa y) = y := by
 have hl := itoa_len h h2
 have hne : 1 ≤ (Lib.itoa y).length := by
  rw [itoa_nn h]
  have := Giv.dec_ne y.toNat
  cases hd : Lib.decDigits y.toNat with
  | nil => exact absurd hd this
  | cons a b => simp
 unfold readV
 rw [if_neg (by omega), itoa_nn h]
 have := readFrom_dec y.toNat []
 rw [List.append_nil] at this
 rw [this, readFrom]; omega
end Go.Proofs.YtfoodfhhdbaieaaDoor.Pure
