-- CUT by a program of this session: what the claim does not use is left out
import Derived.Test.YtjfhogholmabfaaDoorG3
namespace Go.Proofs.YtjfhogholmabfaaDoor.Pure
set_option linter.unusedVariables false
set_option linter.unusedSimpArgs false
open Go.RowKit Go.Proofs.YtjfhogholmabfaaDoorW.PrintWords Go.Proofs.YtjfhogholmabfaaDoorW.PrintLast Go.Proofs.YtjfhogholmabfaaDoorW.PrintMore
open Pa Giv
theorem rd_one (l : List Int) : rd_L1 [l] 0 = l := rfl
theorem short_one (l : List Int) : Ev (fun k => commodatumlaw01_short.f k [l]) (decide (l.length ≤ 100)) := by
  have h := short [l] (by simp)
  simpa [shortB] using h
theorem valid_f (l : List Int) : perm_Valid.f l = some (validB l) := rfl
theorem usable_ (l : List Int) : Ev (fun k => commodatumlaw01_usable.f k [l]) (validB l) := by
  have hs := short_one l
  simp only [commodatumlaw01_usable.f]
  by_cases hv : validB l = true
  · obtain ⟨h1, h7, _⟩ := of_decide_eq_true hv
    rw [decide_eq_true (by omega)] at hs
    refine Ev.bind hs ?_
    rw [hv]
    simp only [if_true]
    refine Ev1 (f := fun k => commodatumlaw01_usable.l0 k [l] 1) (EvS fun k => ?_) fun k => ?_
    · simp only [commodatumlaw01_usable.l0]
      rw [if_neg (by simp)]
    · simp only [commodatumlaw01_usable.l0, rd_one, valid_f, hv, Option.bind_some]
      rw [if_pos (by simp), if_pos (by omega), if_pos trivial, if_pos (by simp), if_pos trivial]
      have h7b : ¬ ((l.length : Int) > 7) := by omega
      simp only [h7b, if_false]
      rw [show wrap64 (0 + 1) = 1 from w64 0 (by omega)]
  · have hv' : validB l = false := by simpa using hv
    by_cases hl : l.length ≤ 100
    · rw [decide_eq_true hl] at hs
      refine Ev.bind hs ?_
      simp only [if_true]
      rw [hv']
      refine EvS fun k => ?_
      simp only [commodatumlaw01_usable.l0, rd_one, valid_f, hv', Option.bind_some]
      rw [if_pos (by simp), if_pos (by omega), if_neg (by simp)]
    · rw [decide_eq_false hl] at hs
      refine Ev.bind hs ?_
      rw [hv']
      simpa using Ev.now false
theorem back_j0 (s : ByteArray) (hs : s.size ≤ 2000) (n : Int) : Ev (fun k => commodatumlaw01_PermBack.j0 k s n) true := by
  by_cases hn : n < 1 ∨ 7 < n
  · refine Ev1 alive' fun k => ?_
    simp only [commodatumlaw01_PermBack.j0, parse_out (show s.size ≤ 100000 by omega) hn, Option.bind_some]
    simp
  · obtain ⟨m, rfl⟩ : ∃ m : Nat, n = m := ⟨n.toNat, by omega⟩
    by_cases hp : ∃ p, Said_ m s p
    · obtain ⟨p, hp⟩ := hp
      refine Ev1 alive' fun k => ?_
      simp only [commodatumlaw01_PermBack.j0, parse_yes hp, Option.bind_some]
      obtain ⟨hv, rfl, rfl⟩ := hp
      simp [perm_Text.f, hv]
    · refine Ev1 alive' fun k => ?_
      simp only [commodatumlaw01_PermBack.j0, parse_no (show s.size ≤ 100000 by omega) (show 1 ≤ m by omega) (by omega) (fun p h => hp ⟨p, h⟩), Option.bind_some]
      simp
theorem pure_PermBack (l : List Int) (s : ByteArray) (n : Int) (_ : l.length ≤ maxLen) (_ : l.length * 8 ≤ 140737488351232) (_ : ∀ x ∈ l, (Lit.int .i64 x).wf = true) (_ : s.size ≤ 140737488351232) (_ : (Lit.int .i64 n).wf = true) : ∃ k, commodatumlaw01_PermBack.f k l s n = some true := by
  refine Ev.rounds (g := fun k => commodatumlaw01_PermBack.f k l s n) ?_
  simp only [commodatumlaw01_PermBack.f]
  by_cases h2 : (s.size : Int) > 2000
  · simp only [if_pos h2]
    exact alive'
  · simp only [if_neg h2]
    have hj := back_j0 s (by omega) n
    refine Ev.bind (usable_ l) ?_
    by_cases hv : validB l = true
    · have hp : Said_ l.length (textR l) l := ⟨hv, rfl, rfl⟩
      have ht : perm_Text.f l = some (textR l, 0) := by simp [perm_Text.f, hv]
      simp only [hv, if_true, ht, Option.bind_some, parse_yes hp]
      have hs := same l l (by have := (of_decide_eq_true hv).2.1; omega)
      refine Ev.bind hs ?_
      simpa using hj
    · simp only [hv]
      exact hj
theorem texts_j3 (s : ByteArray) (hs : s.size ≤ 2000) (m : Nat) (h1 : 1 ≤ m) (h7 : m ≤ 7) (p : List Int) (e : Int) (hp : perm_Parse.f s m = some (p, e)) : Ev (fun k => commodatumlaw01_PermTexts.j3 k s m p e false) true := by
  obtain ⟨hr1, hr2⟩ := refParse m h1 h7 s
  by_cases h : ∃ q, Said_ m s q
  · obtain ⟨q, h⟩ := h
    rw [parse_yes h] at hp
    obtain ⟨rfl, rfl⟩ := Prod.mk.inj (Option.some.inj hp)
    have hl : q.length ≤ 7 := (of_decide_eq_true h.1).2.1
    refine Ev1 (f := fun k => (commodatumref01_Parse.f k s m).bind fun bt286 => if bt286.2 = true then (commodatumlaw01_is.f k q 0 bt286.1 0).bind fun t290 => if t290 = true then (commodatumlaw01_alive.f k).bind fun t291 => some t291 else some false else (commodatumlaw01_is.f k q 0 [] 3).bind fun t292 => if t292 = true then (commodatumlaw01_alive.f k).bind fun t293 => some t293 else some false) ?_ fun k => rfl
    refine Ev.bind (hr1 q h) ?_
    simp only [if_true]
    refine Ev.bind (is_ok q (by omega)) ?_
    simpa using alive'
  · have hn : ∀ q, ¬ Said_ m s q := fun q hq => h ⟨q, hq⟩
    rw [parse_no (by omega) h1 h7 hn] at hp
    obtain ⟨rfl, rfl⟩ := Prod.mk.inj (Option.some.inj hp)
    refine Ev1 (f := fun k => (commodatumref01_Parse.f k s m).bind fun bt286 => if bt286.2 = true then (commodatumlaw01_is.f k [] 3 bt286.1 0).bind fun t290 => if t290 = true then (commodatumlaw01_alive.f k).bind fun t291 => some t291 else some false else (commodatumlaw01_is.f k [] 3 [] 3).bind fun t292 => if t292 = true then (commodatumlaw01_alive.f k).bind fun t293 => some t293 else some false) ?_ fun k => rfl
    refine Ev.bind (hr2 hn) ?_
    simp only [Bool.false_eq_true, if_false]
    refine Ev.bind (is_bad 3 (by decide) []) ?_
    simpa using alive'
theorem texts_j2 (s : ByteArray) (hs : s.size ≤ 2000) (n : Int) : Ev (fun k => commodatumlaw01_PermTexts.j2 k s n false) true := by
  have out : (n < 1 ∨ 7 < n) → Ev (fun k => commodatumlaw01_PermTexts.j3 k s n [] 2 true) true := fun hn => by
    refine Ev1 (f := fun k => (commodatumlaw01_is.f k [] 2 [] 2).bind fun t284 => if t284 = true then (commodatumlaw01_alive.f k).bind fun t285 => some t285 else some false) ?_ fun k => rfl
    refine Ev.bind (is_bad 2 (by decide) []) ?_
    simpa using alive'
  by_cases h1 : n < 1
  · refine Ev1 (out (.inl h1)) fun k => ?_
    simp only [commodatumlaw01_PermTexts.j2, parse_out (show s.size ≤ 100000 by omega) (.inl h1 : n < 1 ∨ 7 < n), Option.bind_some]
    rw [if_neg (by simp), if_pos h1]
  · by_cases h7 : 7 < n
    · refine Ev1 (out (.inr h7)) fun k => ?_
      simp only [commodatumlaw01_PermTexts.j2, parse_out (show s.size ≤ 100000 by omega) (.inr h7 : n < 1 ∨ 7 < n), Option.bind_some]
      rw [if_neg (by simp), if_neg h1, decide_eq_true h7]
    · obtain ⟨m, rfl⟩ : ∃ m : Nat, n = m := ⟨n.toNat, by omega⟩
      obtain ⟨⟨p, e⟩, hp⟩ : ∃ r, perm_Parse.f s m = some r := ⟨_, if_pos (by omega)⟩
      refine Ev1 (texts_j3 s hs m (by omega) (by omega) p e hp) fun k => ?_
      simp only [commodatumlaw01_PermTexts.j2, hp, Option.bind_some]
      rw [if_neg (by simp), if_neg h1, decide_eq_false (by omega)]
theorem texts_j0 (l : List Int) (s : ByteArray) (hs : s.size ≤ 2000) (n : Int) : Ev (fun k => commodatumlaw01_PermTexts.j0 k l s n false) true := by
  have hj := texts_j2 s hs n
  have hv := refValid l
  refine Ev1 (f := fun k => (commodatumref01_Valid.f k l).bind fun t273 => if t273 = true then (commodatumref01_Text.f k l).bind fun t274 => (commodatumref01_Rank.f k l).bind fun t275 => commodatumlaw01_PermTexts.j1 k l s n t274 t275 0 else commodatumlaw01_PermTexts.j1 k l s n ⟨#[]⟩ 0 1) ?_ fun k => rfl
  refine Ev.bind hv ?_
  by_cases h : validB l = true
  · obtain ⟨a, ha, hb⟩ := ranks h
    have ht : perm_Text.f l = some (textR l, 0) := by simp [perm_Text.f, h]
    simp only [h, if_true]
    refine Ev.bind (refText h) (Ev.bind ha ?_)
    refine Ev1 (f := fun k => (perm_Rank.f k l).bind fun bt278 => if (0 : Int) = 0 then if bt278.2 = 0 then if (textR l).toList = (textR l).toList then commodatumlaw01_PermTexts.j2 k s n (bt278.1 != a) else commodatumlaw01_PermTexts.j2 k s n true else commodatumlaw01_PermTexts.j2 k s n true else commodatumlaw01_PermTexts.j2 k s n true) ?_ fun k => by
      simp only [commodatumlaw01_PermTexts.j1, ht, Option.bind_some]
    refine Ev.bind hb ?_
    simpa using hj
  · have h' : validB l = false := by simpa using h
    have ht : perm_Text.f l = some (⟨#[]⟩, 1) := by simp [perm_Text.f, h']
    simp only [h', Bool.false_eq_true, if_false]
    refine Ev1 hj fun k => ?_
    simp only [commodatumlaw01_PermTexts.j1, ht, Option.bind_some, perm_Rank.f, valid_f, h']
    simp
theorem pure_PermTexts (l : List Int) (s : ByteArray) (n : Int) (_ : l.length ≤ maxLen) (_ : l.length * 8 ≤ 140737488351232) (_ : ∀ x ∈ l, (Lit.int .i64 x).wf = true) (_ : s.size ≤ 140737488351232) (_ : (Lit.int .i64 n).wf = true) : ∃ k, commodatumlaw01_PermTexts.f k l s n = some true := by
  refine Ev.rounds (g := fun k => commodatumlaw01_PermTexts.f k l s n) ?_
  simp only [commodatumlaw01_PermTexts.f]
  have hal : Ev (fun k => commodatumlaw01_PermTexts.j0 k l s n true) true := Ev1 alive' fun k => rfl
  refine Ev.bind (short_one l) ?_
  by_cases hl : l.length ≤ 100
  · simp only [decide_eq_true hl, if_true]
    by_cases h2 : (s.size : Int) > 2000
    · simp only [decide_eq_true h2]; exact hal
    · simp only [decide_eq_false h2]
      exact texts_j0 l s (by omega) n
  · simp only [decide_eq_false hl, Bool.false_eq_true, if_false]
    exact hal
end Go.Proofs.YtjfhogholmabfaaDoor.Pure
