-- CUT by a program of this session: what the claim does not use is left out
import Derived.Test.YtjfhogholmabfaaDoorG2
namespace Go.Proofs.YtjfhogholmabfaaDoor.Pure
set_option linter.unusedVariables false
set_option linter.unusedSimpArgs false
open Go.RowKit Go.Proofs.YtjfhogholmabfaaDoorW.PrintWords Go.Proofs.YtjfhogholmabfaaDoorW.PrintLast Go.Proofs.YtjfhogholmabfaaDoorW.PrintMore
open Pa Giv
def fin_ (s : ByteArray) (q : List Int) : List Int × Bool := if validB q = true ∧ textR q = s then (q, true) else ([], false)
def bytes (s : ByteArray) : List Nat := s.data.toList.map UInt8.toNat
theorem bytes_len (s : ByteArray) : (bytes s).length = s.size := by simp [bytes]
theorem bt_eq (s : ByteArray) (i : Nat) (h : i < s.size) : bt s (i : Int) = (((bytes s)[i]'(by rw [bytes_len]; exact h) : Nat) : Int) := by
  unfold bt
  rw [dif_pos (show ((i : Int).toNat < s.size) from by simpa using h)]
  simp only [bytes, List.getElem_map]
  rfl
def res (n : Nat) (s : ByteArray) (i : Nat) (st : List Int × List Int) : List Int × Bool :=
  if ((bytes s).drop i).any (badQ n) = true then ([], false) else fin_ s (((bytes s).drop i).foldl (stepQ n) st).1
theorem res_bad {n : Nat} {s : ByteArray} {i : Nat} {st : List Int × List Int} (h : i < (bytes s).length) (hb : badQ n (bytes s)[i] = true) : res n s i st = ([], false) := by
  unfold res
  rw [List.drop_eq_getElem_cons h, List.any_cons, hb, Bool.true_or, if_pos rfl]
theorem res_step {n : Nat} {s : ByteArray} {i : Nat} {st : List Int × List Int} (h : i < (bytes s).length) (hb : badQ n (bytes s)[i] = false) : res n s i st = res n s (i + 1) (stepQ n st (bytes s)[i]) := by
  unfold res
  rw [List.drop_eq_getElem_cons h, List.any_cons, hb, Bool.false_or, List.foldl_cons]
theorem toList_iff (a s : ByteArray) : (a.toList = s.toList) ↔ a = s := ⟨fun h => by
  rw [Lib.toList_data, Lib.toList_data] at h
  cases a; cases s; simp_all [Array.toList_inj], fun h => by rw [h]⟩
theorem rp_end (n : Nat) (s : ByteArray) (q c : List Int) : Ev (fun k => commodatumref01_Parse.l0 k s n q c (s.size : Int)) (fin_ s q) := by
  have hv := refValid q
  by_cases h : validB q = true
  · rw [h] at hv
    have ht := refText h
    refine Ev1 (f := fun k => (commodatumref01_Valid.f k q).bind fun t266 => if t266 = true then (commodatumref01_Text.f k q).bind fun t267 => if t267.toList = s.toList then some (q, true) else some ([], false) else some ([], false)) ?_ fun k => by
      simp only [commodatumref01_Parse.l0]; rw [if_neg (by omega)]
    refine Ev.bind hv ?_
    simp only [if_true]
    refine Ev.bind ht ?_
    by_cases he : textR q = s
    · rw [show fin_ s q = (q, true) from if_pos ⟨h, he⟩]
      simp only [toList_iff, he, if_true]; exact Ev.now _
    · rw [show fin_ s q = ([], false) from if_neg (fun hh => he hh.2)]
      simp only [toList_iff, he, if_false]; exact Ev.now _
  · have h' : validB q = false := by simpa using h
    rw [h'] at hv
    refine Ev1 (f := fun k => (commodatumref01_Valid.f k q).bind fun t266 => if t266 = true then (commodatumref01_Text.f k q).bind fun t267 => if t267.toList = s.toList then some (q, true) else some ([], false) else some ([], false)) ?_ fun k => by
      simp only [commodatumref01_Parse.l0]; rw [if_neg (by omega)]
    refine Ev.bind hv ?_
    unfold fin_
    rw [if_neg (fun hh => h hh.1)]
    simpa using Ev.now (([] : List Int), false)
theorem rp_put {n : Nat} {s : ByteArray} {i : Nat} {q c : List Int} {r : List Int × Bool} (hq : q.length = n) (hc : Into c n) (hcl : c.length ≤ 100) (h28 : i < 1000)
    (h : Ev (fun k => commodatumref01_Parse.l0 k s n (putN c c.length q) c ((i + 1 : Nat) : Int)) r) :
    ∀ d j, j + d = c.length → Ev (fun k => commodatumref01_Parse.l1 k s n (putN c j q) c i j) r
  | 0, j, hj => by
    obtain rfl : j = c.length := by omega
    refine Ev1 h fun k => ?_
    simp only [commodatumref01_Parse.l1]
    rw [if_neg (by omega), w64 _ (by omega)]
  | d + 1, j, hj => by
    have ih := rp_put hq hc hcl h28 h d (j + 1) (by omega)
    have hjl : j < c.length := by omega
    have hm : (j + 1) % c.length < c.length := Nat.mod_lt _ (by omega)
    have e1 : Int.tmod ((j : Int) + 1) (c.length : Int) = (((j + 1) % c.length : Nat) : Int) := by
      rw [Int.tmod_eq_emod_of_nonneg (by omega)]; norm_cast
    have hx : 0 ≤ rd c (j : Int) ∧ rd c (j : Int) < n := by rw [rd_at _ _ hjl]; exact hc _ (List.getElem_mem hjl)
    refine Ev1 ih fun k => ?_
    simp only [commodatumref01_Parse.l1]
    have w1 : wrap64 ((j : Int) + 1) = ((j + 1 : Nat) : Int) := w64 _ (by omega)
    have w2 : Int.tmod ((j + 1 : Nat) : Int) (c.length : Int) = (((j + 1) % c.length : Nat) : Int) := by rw [← e1]; norm_cast
    rw [w1, w2, if_pos (by omega), if_pos (by omega), if_neg (by omega), if_pos (by omega), if_pos (by omega), if_pos hx.1, if_pos (by rw [putN_len]; omega)]
    rfl
theorem rp_l0 (n : Nat) (hn : n ≤ 7) (s : ByteArray) (hs : s.size ≤ 28) : ∀ d i, i + d = s.size → ∀ q c : List Int, q.length = n → Into c n → c.length ≤ i →
    Ev (fun k => commodatumref01_Parse.l0 k s n q c (i : Int)) (res n s i (q, c))
  | 0, i, h, q, c, hq, hc, hcl => by
    obtain rfl : i = s.size := by omega
    have := rp_end n s q c
    unfold res
    rw [List.drop_of_length_le (by rw [bytes_len]; omega)]
    simpa using this
  | d + 1, i, h, q, c, hq, hc, hcl => by
    have hi : i < s.size := by omega
    have hib : i < (bytes s).length := by rw [bytes_len]; exact hi
    have ih := rp_l0 n hn s hs d (i + 1) (by omega)
    have hb := bt_eq s i hi
    obtain ⟨b, eb⟩ : ∃ b, b = (bytes s)[i]'hib := ⟨_, rfl⟩
    have hr1 := res_bad (n := n) (st := (q, c)) hib
    have hr2 := res_step (n := n) (st := (q, c)) hib
    rw [← eb] at hb hr1 hr2
    have h3 : ∀ c' : List Int, Into c' n → c'.length ≤ i + 1 → Ev (fun k => commodatumref01_Parse.j3 k s n q c' (i : Int)) (res n s (i + 1) (if b = 41 then putN c' c'.length q else q, c')) := by
      intro c' hc' hl'
      by_cases h41 : b = 41
      · rw [if_pos h41]
        have hp := rp_put (i := i) hq hc' (by omega) (by omega) (ih (putN c' c'.length q) c' (by rw [putN_len]; exact hq) hc' (by omega)) c'.length 0 (by omega)
        refine Ev1 hp fun k => ?_
        simp only [commodatumref01_Parse.j3]
        rw [if_pos (by omega), if_pos (by omega), if_pos (by omega)]
        rfl
      · rw [if_neg h41]
        refine Ev1 (ih q c' hq hc' (by omega)) fun k => ?_
        simp only [commodatumref01_Parse.j3]
        rw [if_pos (by omega), if_pos (by omega), if_neg (by omega), w64 _ (by omega)]
    have h1 : ∀ c1 : List Int, Into c1 n → c1.length ≤ i → c1 = (if b = 40 then [] else c) → Ev (fun k => commodatumref01_Parse.j1 k s n q c1 (i : Int)) (res n s i (q, c)) := by
      intro c1 hc1 hl1 e1
      by_cases hd : 48 ≤ b ∧ b ≤ 57
      · by_cases hbad : n ≤ b - 48
        · rw [hr1 (by simp [badQ]; omega)]
          refine Ev1 (f := fun k => commodatumref01_Parse.j2 k s n q c1 (i : Int) true) (EvS fun k => ?_) fun k => ?_
          · simp only [commodatumref01_Parse.j2]
            rw [if_true, if_pos (by omega), if_pos (by omega), if_pos (by omega)]
          · simp only [commodatumref01_Parse.j1]
            rw [if_pos (by omega), if_pos (by omega), if_pos (by omega), decide_eq_true (by omega)]
        · rw [hr2 (by simp [badQ]; omega)]
          have es : stepQ n (q, c) b = (if b = 41 then putN (c1 ++ [((b - 48 : Nat) : Int)]) (c1 ++ [((b - 48 : Nat) : Int)]).length q else q, c1 ++ [((b - 48 : Nat) : Int)]) := by
            simp only [stepQ, ← e1, if_pos hd]
          rw [es]
          have hx := h3 (c1 ++ [((b - 48 : Nat) : Int)]) (fun y hy => by
            rcases List.mem_append.1 hy with hy | hy
            · exact hc1 y hy
            · rw [List.mem_singleton.1 hy]; omega) (by simp; omega)
          have e2 : (bt s (i : Int) - 48) % 256 = ((b - 48 : Nat) : Int) := by omega
          refine Ev1 (f := fun k => commodatumref01_Parse.j2 k s n q c1 (i : Int) true) (Ev1 hx fun k => ?_) fun k => ?_
          · simp only [commodatumref01_Parse.j2]
            rw [if_true, if_pos (by omega), if_pos (by omega), e2, if_neg (by omega), if_pos (by omega)]
          · simp only [commodatumref01_Parse.j1]
            rw [if_pos (by omega), if_pos (by omega), if_pos (by omega), decide_eq_true (by omega)]
      · rw [hr2 (by simp [badQ]; omega)]
        have es : stepQ n (q, c) b = (if b = 41 then putN c1 c1.length q else q, c1) := by
          simp only [stepQ, ← e1, if_neg hd]
        rw [es]
        have hx := h3 c1 hc1 (by omega)
        refine Ev1 (f := fun k => commodatumref01_Parse.j2 k s n q c1 (i : Int) false) (Ev1 hx fun k => ?_) fun k => ?_
        · simp only [commodatumref01_Parse.j2]
          rfl
        · simp only [commodatumref01_Parse.j1]
          by_cases h48 : 48 ≤ b
          · rw [if_pos (by omega), if_pos (by omega), if_pos (by omega), decide_eq_false (by omega)]
          · rw [if_pos (by omega), if_pos (by omega), if_neg (by omega)]
    by_cases h40 : b = 40
    · refine Ev1 (h1 [] (fun y hy => by cases hy) (by simp) (by rw [if_pos h40])) fun k => ?_
      simp only [commodatumref01_Parse.l0]
      rw [if_pos (by omega), if_pos (by omega), if_pos (by omega)]
    · refine Ev1 (h1 c hc hcl (by rw [if_neg h40])) fun k => ?_
      simp only [commodatumref01_Parse.l0]
      rw [if_pos (by omega), if_pos (by omega), if_neg (by omega)]
def Said_ (n : Nat) (s : ByteArray) (p : List Int) : Prop := validB p = true ∧ p.length = n ∧ textR p = s
theorem res_said {n : Nat} {s : ByteArray} {p : List Int} (h : Said_ n s p) : res n s 0 (idn n, []) = (p, true) := by
  obtain ⟨hv, rfl, rfl⟩ := h
  obtain ⟨_, h2, h3, _⟩ := chk_T hv
  have e : bytes (textR p) = (textKR p).map UInt8.toNat := by rw [bytes, textR_list hv]
  unfold res
  rw [List.drop_zero, e, h3, if_neg (by simp), h2]
  unfold fin_
  rw [if_pos ⟨hv, rfl⟩]
theorem putN_keeps (n : Nat) (st : List Int × List Int) (b : Nat) : (stepQ n st b).1.length = st.1.length := by
  unfold stepQ
  dsimp only
  split
  · rw [putN_len]
  · rfl
theorem foldl_len (n : Nat) : ∀ (l : List Nat) (st : List Int × List Int), (l.foldl (stepQ n) st).1.length = st.1.length
  | [], _ => rfl
  | b :: l, st => by rw [List.foldl_cons, foldl_len n l, putN_keeps]
theorem res_none {n : Nat} {s : ByteArray} (h : ∀ p, ¬ Said_ n s p) : res n s 0 (idn n, []) = ([], false) := by
  unfold res
  split
  · rfl
  · unfold fin_
    rw [if_neg]
    rintro ⟨h1, h2⟩
    exact h _ ⟨h1, by rw [foldl_len]; simp [idn_len], h2⟩
theorem refParse (n : Nat) (h1 : 1 ≤ n) (h7 : n ≤ 7) (s : ByteArray) : (∀ p, Said_ n s p → Ev (fun k => commodatumref01_Parse.f k s n) (p, true)) ∧ ((∀ p, ¬ Said_ n s p) → Ev (fun k => commodatumref01_Parse.f k s n) ([], false)) := by
  by_cases hs : s.size ≤ 28
  · have h := rp_l0 n h7 s hs s.size 0 (by omega) (idn n) [] (by simp [idn_len]) (fun y hy => by cases hy) (by simp)
    have hf : Ev (fun k => commodatumref01_Parse.f k s n) (res n s 0 (idn n, [])) := by
      refine EvC (f := fun k => (commodatumref01_Identity.f k n).bind fun t257 => commodatumref01_Parse.l0 k s n t257 [] 0) ?_ fun k => by
        simp only [commodatumref01_Parse.f]; rw [if_neg (by omega)]
      exact Ev.bind (ref_identity n h7) h
    refine ⟨fun p hp => ?_, fun hp => ?_⟩
    · rw [res_said hp] at hf; exact hf
    · rw [res_none hp] at hf; exact hf
  · refine ⟨fun p hp => ?_, fun hp => ?_⟩
    · obtain ⟨hv, _, rfl⟩ := hp
      exact absurd (size_textR hv) hs
    · refine EvC (Ev.now _) fun k => ?_
      simp only [commodatumref01_Parse.f]
      rw [if_pos (by omega)]
theorem parse_yes {n : Nat} {s : ByteArray} {p : List Int} (h : Said_ n s p) : perm_Parse.f s n = some (p, 0) := by
  obtain ⟨hv, rfl, rfl⟩ := h
  have h28 := size_textR hv
  obtain ⟨h1, h7, _⟩ := of_decide_eq_true hv
  unfold perm_Parse.f
  rw [if_pos (by omega), if_neg (by omega), Int.toNat_natCast, parse_text hv, if_pos ⟨hv, rfl⟩]
theorem parse_no {n : Nat} {s : ByteArray} (hs : s.size ≤ 100000) (h1 : 1 ≤ n) (h7 : n ≤ 7) (h : ∀ p, ¬ Said_ n s p) : perm_Parse.f s n = some ([], 3) := by
  unfold perm_Parse.f
  rw [if_pos hs, if_neg (by omega), Int.toNat_natCast, if_neg]
  rintro ⟨h1, h2⟩
  exact h _ ⟨h1, (points_parse n s s.size (Nat.le_refl _)).1, h2⟩
theorem parse_out {n : Int} {s : ByteArray} (hs : s.size ≤ 100000) (h : n < 1 ∨ 7 < n) : perm_Parse.f s n = some ([], 2) := by
  unfold perm_Parse.f
  rw [if_pos hs, if_pos h]
end Go.Proofs.YtjfhogholmabfaaDoor.Pure
