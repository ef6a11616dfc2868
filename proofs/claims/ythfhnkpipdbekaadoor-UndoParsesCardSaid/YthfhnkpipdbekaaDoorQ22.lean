-- CUT by a program of this session: what the claim does not use is left out
import Derived.Test.YthfhnkpipdbekaaDoorQ6
import Derived.Test.YthfhnkpipdbekaaDoorTpx1
namespace Go.Proofs.YthfhnkpipdbekaaDoor.Pure
set_option linter.unusedVariables false
set_option linter.unusedSimpArgs false
open Go.RowKit Go.Proofs.YthfhnkpipdbekaaDoorW.PrintWords Go.Proofs.YthfhnkpipdbekaaDoorW.PrintLast Go.Proofs.YthfhnkpipdbekaaDoorW.PrintMore
open Ua Ta Giv Tx Tb Tp
def opsR : List ByteArray → Option (List S67)
 | [] => some []
 | p :: ps => if (readOpQ p).2 = true then (opsR ps).map fun l => (readOpQ p).1 :: l else none
def finR (s : ByteArray) (n : Int) (acc : List S67) (ps : List ByteArray) : Int × List S67 × Bool :=
 match opsR ps with
 | none => (0, [], false)
 | some l => if validB n (acc ++ l) = true ∧ writeB n (acc ++ l) = s.data.toList then (n, acc ++ l, true) else (0, [], false)
theorem finR_step {s : ByteArray} {n : Int} {acc : List S67} {p : ByteArray} {ps : List ByteArray} (h : (readOpQ p).2 = true) : finR s n acc (p :: ps) = finR s n (acc ++ [(readOpQ p).1]) ps := by
 unfold finR
 rw [opsR, if_pos h]
 cases opsR ps with
 | none => rfl
 | some l => simp
theorem parse_l0 (s : ByteArray) (n : Int) (ps : List ByteArray) (hp : ∀ x ∈ ps, x.size ≤ 100000) (hl : ps.length ≤ 100001) : ∀ (d j : Nat) (acc : List S67), j + d = ps.length → acc.length ≤ j → Ev (fun k => commodatumref12_Parse.l0 k s ps (j : Int) n acc) (finR s n acc (ps.drop j))
 | 0, j, acc, h, ha => by
  rw [List.drop_eq_nil_of_le (by omega)]
  have e : finR s n acc [] = if validB n acc = true ∧ writeB n acc = s.data.toList then (n, acc, true) else (0, [], false) := by
   unfold finR; simp [opsR]
  rw [e]
  have key : Ev (fun k => (commodatumref12_Valid.f k n acc).bind fun t118 => (if t118 = true then ((commodatumref12_Text.f n acc).bind fun t119 => (if t119.toList = s.toList then (some (n, acc, true)) else (some (0, ([] : List (S67)), false)))) else (some (0, ([] : List (S67)), false)))) (if validB n acc = true ∧ writeB n acc = s.data.toList then (n, acc, true) else (0, [], false)) := by
   refine Ev.bind (refValid_ev n acc) (EvSome fun k => ?_)
   cases hv : validB n acc with
   | false => rw [if_neg (by simp), if_neg (by simp)]
   | true =>
    rw [if_pos rfl]
    unfold commodatumref12_Text.f
    rw [if_pos hv]
    simp only [Option.bind_some]
    by_cases c : writeB n acc = s.data.toList
    ·rw [if_pos ((toList_iff _ _).2 (by simpa using c)), if_pos ⟨trivial, c⟩]
    ·rw [if_neg (fun h => c (by simpa using (toList_iff _ _).1 h)), if_neg (fun h => c h.2)]
  refine Ev1 key fun k => ?_
  simp only [commodatumref12_Parse.l0]
  rw [if_neg (by omega)]
 | d + 1, j, acc, h, ha => by
  have hj : j < ps.length := by omega
  have er : rdOf ByteArray.empty ps (j : Int) = ps[j] := by simp [rdOf, List.getD_eq_getElem?_getD, List.getElem?_eq_getElem hj]
  rw [List.drop_eq_getElem_cons hj]
  have hsz := hp _ (List.getElem_mem hj)
  generalize ps[j] = p at *
  have hf : commodatumref12_readOp.f p = some ((readOpQ p).1.f0, (readOpQ p).1.f1, (readOpQ p).1.f2, (readOpQ p).1.f3, (readOpQ p).2) := by unfold commodatumref12_readOp.f; rw [if_pos hsz]
  cases hb : (readOpQ p).2 with
  | false =>
   have e : finR s n acc (p :: ps.drop (j + 1)) = (0, [], false) := by unfold finR; rw [opsR, if_neg (by rw [hb]; simp)]
   rw [e]
   refine EvS fun k => ?_
   simp only [commodatumref12_Parse.l0]
   rw [if_pos (by omega), if_pos (by omega), er, hf]
   simp only [Option.bind_some, hb]
   rw [if_neg (by simp)]
  | true =>
   rw [finR_step hb]
   have ih := parse_l0 s n ps hp hl d (j + 1) (acc ++ [(readOpQ p).1]) (by omega) (by simp; omega)
   refine Ev1 ih fun k => ?_
   simp only [commodatumref12_Parse.l0]
   rw [if_pos (by omega), if_pos (by omega), er, hf]
   simp only [Option.bind_some, hb]
   rw [if_pos trivial, if_pos (by omega), w64 _ (by omega)]
theorem splR_size (s sep : ByteArray) (st i : Nat) : ∀ x ∈ splR s sep st i, x.size ≤ s.size := by
 induction st, i using splR.induct s sep with
 | case1 st i h c ih =>
  rw [splR, dif_pos h, if_pos c]
  intro x hx
  rcases List.mem_cons.1 hx with rfl | hx
  ·exact extract_size _ _ _
  ·exact ih x hx
 | case2 st i h c ih => rw [splR, dif_pos h, if_neg c]; exact ih
 | case3 st i h =>
  rw [splR, dif_neg h]
  intro x hx
  rw [List.mem_singleton] at hx; subst hx
  exact extract_size _ _ _
def refParseQ (s : ByteArray) : Int × List S67 × Bool := finR s (readV ((splR s semi 0 0).headD ByteArray.empty).data.toList) [] (splR s semi 0 0).tail
theorem refParse_ev (s : ByteArray) (hs : s.size ≤ 100000) : Ev (fun k => commodatumref12_Parse.f k s) (refParseQ s) := by
 unfold refParseQ
 have hsz := splR_size s semi 0 0
 have hne := splR_ne s semi 0 0
 have hlen := splR_len s semi 0 0 (Nat.zero_le _)
 have h1 := split_ev s semi hs (by decide) (by decide)
 generalize splR s semi 0 0 = ps at *
 cases ps with
 | nil => exact absurd rfl hne
 | cons p ps =>
  have key : Ev (fun k => (commodatumref12_Split.f k s (⟨#[59, 32]⟩ : ByteArray)).bind fun t102 => (if 0 < (t102.length : Int) then ((commodatumref12_Read.f k (rdOf ByteArray.empty t102 0)).bind fun t106 => (commodatumref12_Parse.l0 k s t102 1 t106 ([] : List (S67)))) else (none))) (finR s (readV p.data.toList) [] ps) := by
   refine Ev.bind h1 ?_
   have k2 : Ev (fun k => (commodatumref12_Read.f k p).bind fun t106 => (commodatumref12_Parse.l0 k s (p :: ps) 1 t106 ([] : List (S67)))) (finR s (readV p.data.toList) [] ps) := by
    refine Ev.bind (read_ev p) ?_
    exact parse_l0 s _ (p :: ps) (fun x hx => by have := hsz x hx; omega) (by omega) ps.length 1 [] (by simp; omega) (by simp)
   exact EvC k2 fun k => by rw [if_pos (by simp)]; rfl
  exact key
theorem refParse_sound {s : ByteArray} {n : Int} {l : List S67} (h : refParseQ s = (n, l, true)) : validB n l = true ∧ writeB n l = s.data.toList := by
 unfold refParseQ finR at h
 split at h
 ·cases h
 ·split at h
  ·rename_i hc
   injection h with h1 h2
   injection h2 with h2 h3
   subst h1; subst h2
   exact hc
  ·cases h
theorem opsR_bodies {n : Int} (hn : n ≤ 1024) : ∀ l : List S67, (∀ o ∈ l, rightB n o = true) → opsR ((l.map bodyB).map Giv.bytesOf) = some l
 | [], _ => rfl
 | o :: l, h => by
  have h1 := readOp_body hn (h o List.mem_cons_self)
  have ih := opsR_bodies hn l (fun p hp => h p (List.mem_cons_of_mem _ hp))
  simp only [List.map_cons]
  rw [opsR, h1, if_pos rfl, ih]; rfl
theorem split_write {n : Int} {l : List S67} (hv : validB n l = true) : splR (Giv.bytesOf (writeB n l)) semi 0 0 = (Lib.itoa n :: l.map bodyB).map Giv.bytesOf := by
 obtain ⟨⟨h1, h2, h3⟩, h4⟩ := validB_all hv
 refine splR_join (c := 59) (t := [32]) rfl (l.map bodyB) (Lib.itoa n) 0 ?_ ?_
 ·rw [List.drop_zero]
  show writeB n l = _
  unfold writeB
  rw [List.map_map]
  congr 2
  apply List.map_congr_left
  intro o _
  exact opB_body o
 ·intro x hx b hb
  rcases List.mem_cons.1 hx with rfl | hx
  ·exact digits_no (itoa_digits (by omega)) 59 (by decide) b hb
  ·obtain ⟨o, ho, rfl⟩ := List.mem_map.1 hx
   have hr := h4 o ho
   unfold bodyB at hb
   rcases List.mem_append.1 hb with hb | hb
   ·exact (word_no (rightB_in hr).2.2.2).2 b hb
   ·obtain ⟨y, hy, hb⟩ := List.mem_flatten.1 hb
    obtain ⟨z, hz, rfl⟩ := List.mem_map.1 hy
    rcases List.mem_append.1 hb with hb | hb
    ·rw [List.mem_singleton] at hb; subst hb; decide
    ·exact digits_no (itoa_digits (nums_small h2 hr z hz).1) 59 (by decide) b hb
theorem refParse_write {n : Int} {l : List S67} (hv : validB n l = true) : refParseQ (Giv.bytesOf (writeB n l)) = (n, l, true) := by
 obtain ⟨⟨h1, h2, h3⟩, h4⟩ := validB_all hv
 unfold refParseQ
 rw [split_write hv]
 show finR _ (readV (Giv.bytesOf (Lib.itoa n)).data.toList) [] ((l.map bodyB).map Giv.bytesOf) = _
 rw [show readV (Giv.bytesOf (Lib.itoa n)).data.toList = n from readV_itoa (by omega) (by omega)]
 unfold finR
 rw [opsR_bodies h2 l h4]
 simp only [List.nil_append]
 rw [if_pos ⟨hv, rfl⟩]
theorem bytes_of_data (s : ByteArray) {l : List UInt8} (h : l = s.data.toList) : s = Giv.bytesOf l := by
 subst h; rfl
theorem parseF_some {s : ByteArray} {n : Int} {l : List S67} (h : parseF s = some (n, l)) : s.size ≤ 40000 ∧ validB n l = true ∧ writeB n l = s.data.toList := by
 unfold parseF at h
 split at h
 ·cases h
 ·rename_i hs
  obtain ⟨m, hm, h⟩ := Option.bind_eq_some_iff.1 h
  obtain ⟨ops, ho, h⟩ := Option.bind_eq_some_iff.1 h
  split at h
  ·rename_i hc
   injection h with h
   injection h with h1 h2
   subst h1; subst h2
   exact ⟨by omega, hc⟩
  ·cases h
theorem parses_j1 (s : ByteArray) {n : Int} {l : List S67} {b : Bool} (h : s.size ≤ 40000 ∧ refParseQ s = (n, l, b) ∨ 40000 < s.size ∧ n = 0 ∧ l = [] ∧ b = false) : Ev (fun k => commodatumlaw12_UndoParses.j1 k s b n l) true := by
 cases b with
 | true =>
  have hq : refParseQ s = (n, l, true) := by
   rcases h with h | h
   ·exact h.2
   ·cases h.2.2.2
  have hs : s.size ≤ 40000 := by
   rcases h with h | h
   ·exact h.1
   ·cases h.2.2.2
  obtain ⟨hv, hw⟩ := refParse_sound hq
  have es := bytes_of_data s hw
  have hp : parseF s = some (n, l) := by
   rw [es]; exact parse_write hv (by rw [hw, ← size_list]; exact hs)
  have hl := (validB_all hv).1.2.2
  have key : Ev (fun k => (commodatumref12_Same.f k n l n l).bind fun t133 => (if t133 = true then ((commodatumlaw12_Awake.f k).bind fun t134 => (some t134)) else (some false))) true :=
   Ev.bind (refSame_ev n l (by omega)) (EvC awake_bind fun k => if_pos rfl)
  refine Ev1 key fun k => ?_
  simp only [commodatumlaw12_UndoParses.j1]
  unfold undo_Parse.f
  rw [hp]
  simp only [Option.bind_some]
  rw [if_pos trivial, if_pos trivial]
 | false =>
  have hp : parseF s = none := by
   cases hh : parseF s with
   | none => rfl
   | some nl =>
    obtain ⟨n', l'⟩ := nl
    obtain ⟨h1, h2, h3⟩ := parseF_some hh
    rcases h with h | h
    ·have es := bytes_of_data s h3
     have := refParse_write h2
     rw [← es, h.2] at this
     injection this with _ t
     injection t with _ t
     cases t
    ·omega
  have n0 : commodatumlaw12_none.f 0 ([] : List S67) = some true := by decide
  refine Ev1 awake_bind fun k => ?_
  simp only [commodatumlaw12_UndoParses.j1]
  unfold undo_Parse.f
  rw [hp]
  simp only [Option.bind_some, n0]
  rw [if_neg (by simp), if_pos trivial, if_pos trivial]
theorem pure_UndoParses (s : ByteArray) (hs : s.size ≤ 140737488351232) : ∃ k, commodatumlaw12_UndoParses.f k s = some true := by
 have one : Ev (fun k => commodatumlaw12_UndoParses.j0 k s true) true := Ev1 awake_bind fun k => by simp only [commodatumlaw12_UndoParses.j0]; rw [if_pos trivial]
 have two : Ev (fun k => commodatumlaw12_UndoParses.j0 k s false) true := by
  by_cases c : (s.size : Int) ≤ 40000
  ·have key : Ev (fun k => (commodatumref12_Parse.f k s).bind fun bt122 => (commodatumlaw12_UndoParses.j1 k s bt122.2.2 bt122.1 bt122.2.1)) true :=
    Ev.bind (refParse_ev s (by omega)) (parses_j1 s (.inl ⟨by omega, rfl⟩))
   refine Ev1 key fun k => ?_
   simp only [commodatumlaw12_UndoParses.j0]
   rw [if_neg (by simp), if_pos c]
  ·refine Ev1 (parses_j1 s (n := 0) (l := []) (b := false) (.inr ⟨by omega, rfl, rfl, rfl⟩)) fun k => ?_
   simp only [commodatumlaw12_UndoParses.j0]
   rw [if_neg (by simp), if_neg c]
 have key : Ev (fun k => commodatumlaw12_UndoParses.f k s) true := by
  unfold commodatumlaw12_UndoParses.f
  by_cases c : (s.size : Int) > 4000
  ·by_cases c2 : (s.size : Int) ≤ 40000
   ·exact EvC one fun k => by rw [if_pos c, show decide ((s.size : Int) ≤ 40000) = true from decide_eq_true c2]
   ·exact EvC two fun k => by rw [if_pos c, show decide ((s.size : Int) ≤ 40000) = false from decide_eq_false c2]
  ·exact EvC two fun k => if_neg c
 exact key.elim fun k hk => ⟨k, hk k (Nat.le_refl _)⟩
end Go.Proofs.YthfhnkpipdbekaaDoor.Pure
