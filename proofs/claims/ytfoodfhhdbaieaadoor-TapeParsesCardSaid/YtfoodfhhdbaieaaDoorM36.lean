-- CUT by a program of this session: what the claim does not use is left out
import Derived.Test.YtfoodfhhdbaieaaDoorM34
import Derived.Test.YtfoodfhhdbaieaaDoorM32
import Derived.Test.YtfoodfhhdbaieaaDoorM16
import Derived.Test.YtfoodfhhdbaieaaDoorT43
namespace Go.Proofs.YtfoodfhhdbaieaaDoor.Giv
set_option maxRecDepth 100000
set_option linter.unusedVariables false
set_option linter.unusedSimpArgs false
open Go.RowKit Go.Shelf Go.Proofs.YtfoodfhhdbaieaaDoorW.PrintWords Go.Proofs.YtfoodfhhdbaieaaDoorW.PrintLast Go.Proofs.YtfoodfhhdbaieaaDoorW.PrintMore
open Go.Proofs.YtfoodfhhdbaieaaDoor.Ka (S40 k40 z40 rd_T40 at_T40 k40_open k40_mk rd_L1 at_L1 info3 info38 info40)
open Go.Proofs.YtfoodfhhdbaieaaDoor.Pure
theorem reps_encs {α : Type} {enc : α → Value} {R : α → List Value → Prop} (hR : ∀ p c, R p c → c = [enc p]) {ps : List α} {cs : List Value} (h : Reps R 1 ps cs) : cs = ps.map enc := by
 obtain ⟨h1, h2⟩ := h
 refine List.ext_getElem (by simp [h1]) fun j hj hj' => ?_
 have hp : j < ps.length := by simpa using hj'
 have h3 := hR _ _ (h2 j ps[j] (by simp [hp]))
 have e : ((cs.drop (j * 1)).take 1)[0]? = some cs[j] := by simp [hj]
 rw [h3] at e
 simpa using e.symm
theorem own_of_R {α : Type} {enc : α → Value} {h1 : ∀ x, (enc x).oneCell' = true} {t : Nat} {W : World} {base : Nat} {ok : Nat → Prop} {v : Value} {l : List α} (h : Kd.R (Kd.scalar enc h1) t W base ok v l) : W.ownsRow base t 1 v l.length (l.map enc) := by
 obtain ⟨_, inner, ho, hr⟩ := h
 have e := reps_encs (enc := enc) (fun _ _ q => q) hr
 rw [e] at ho
 exact ho
theorem splR_len2 (s sep : ByteArray) (st i : Nat) (hi : i ≤ s.size) : (splR s sep st i).length * sep.size ≤ s.size - i + sep.size := by
 induction st, i using splR.induct s sep with
 | case1 st i h c ih => rw [splR, dif_pos h, if_pos c, List.length_cons, Nat.add_mul]; have := ih h.1; omega
 | case2 st i h c ih => rw [splR, dif_pos h, if_neg c]; have := ih (by omega); omega
 | case3 st i h => rw [splR, dif_neg h, List.length_singleton]; omega
theorem splR_size {s sep x : ByteArray} (st i : Nat) (h : x ∈ splR s sep st i) : x.size ≤ s.size := by
 induction st, i using splR.induct s sep with
 | case1 st i h1 c ih =>
  rw [splR, dif_pos h1, if_pos c] at h
  rcases List.mem_cons.1 h with rfl | h
  ·exact extract_size _ _ _
  ·exact ih h
 | case2 st i h1 c ih => rw [splR, dif_pos h1, if_neg c] at h; exact ih h
 | case3 st i h1 =>
  rw [splR, dif_neg h1, List.mem_singleton] at h
  subst h
  exact extract_size _ _ _
theorem refSplit_calls (s : ByteArray) (w : World) (hs : s.size ≤ 100000) :
  Calls Tryd.prog 26 #[.string s, .string semi] w fun e w' => ∃ P cur c, e = .returned (.slice (some ⟨P, 0, none⟩) (splR s semi 0 0).length c) ∧ w'.heap[P]? = some (.cells cur 9 (0, 0)) ∧ (∀ j (h : j < (splR s semi 0 0).length), cur[j]? = some (.string (splR s semi 0 0)[j])) ∧ (splR s semi 0 0).length ≤ c ∧ w.heap.size ≤ P ∧ Below w.heap.size w w' := by
 obtain ⟨k, hk⟩ := (split_ev s semi hs (by decide) (by decide)).rounds
 refine (Tx.commodatumref12_Split.calls k s semi _ w hk).mono ?_
 rintro e w' ⟨v, rfl, hR, hb⟩
 have ho := own_of_R hR
 generalize hL : splR s semi 0 0 = L at ho ⊢
 have hne : L ≠ [] := by rw [← hL]; exact splR_ne _ _ _ _
 obtain ⟨_, ⟨h2, h3⟩ | ⟨g, cap, cur, e, hg, hh, h3, h4, h5, h6⟩⟩ := ho
 ·exact absurd (List.eq_nil_of_length_eq_zero h3) hne
 ·refine ⟨g, cur, cap, by rw [e], hh, fun j hj => ?_, h3, hg, hb⟩
  have e2 : (cur.toList.take (L.length * 1))[j]? = some (.string L[j]) := by rw [h6]; simp [hj]
  rw [List.getElem?_take_of_lt (by omega), Array.getElem?_toList] at e2
  exact e2
theorem refNumbers_calls (s : ByteArray) (w : World) (hs : s.size ≤ 100000) :
  Calls Tryd.prog 27 #[.string s] w fun e w' => ∃ v, e = .returned (.tuple #[v, .bool (numsQ s).isSome]) ∧ (numsQ s = none → ∃ A c, v = .slice A 0 c) ∧ (∀ l, numsQ s = some l → w'.ownsRow w.heap.size 3 1 v l.length (l.map (Value.int .i64))) ∧ Below w.heap.size w w' := by
 obtain ⟨k, hk⟩ := (numbers_ev s hs).rounds
 cases hn : numsQ s with
 | none =>
  rw [hn] at hk
  refine (Tx.commodatumref20_numbers.calls k s _ _ w hk).mono ?_
  rintro e w' ⟨v, rfl, hR, hb⟩
  exact ⟨v, rfl, fun _ => own_slice (own_of_R hR), (fun l h => by cases h), hb⟩
 | some l =>
  rw [hn] at hk
  refine (Tx.commodatumref20_numbers.calls k s _ _ w hk).mono ?_
  rintro e w' ⟨v, rfl, hR, hb⟩
  refine ⟨v, rfl, (fun h => by cases h), fun m h => ?_, hb⟩
  cases h
  exact own_of_R hR
theorem refValid_calls (a0 a1 a2 : Int) (A : Option Addr) (c : Nat) (l : List S40) (w : World) (hr : Kd.C k40 w A l.length l) (hc : l.length ≤ c) (hlen : l.length ≤ 2000) (hrow : ∀ r ∈ l, r.f1.length ≤ 100 ∧ r.f3.length ≤ 100 ∧ r.f4.length ≤ 100) :
  Calls Tryd.prog 8 #[.agg #[.int .i64 a0, .int .i64 a1, .int .i64 a2, .slice A l.length c]] w fun e w' => e = .returned (.bool (validM a0 a1 a2 l)) ∧ Below w.heap.size w w' := by
 obtain ⟨k, hk⟩ := refValid_total (a0 := a0) (a1 := a1) (a2 := a2) hlen hrow
 exact Ka.commodatumref20_Valid.calls k a0 a1 a2 A c l _ w hr hc hk
theorem cur_at {W : World} {P : Nat} {cur : Array Value} {L : List ByteArray} (h : W.heap[P]? = some (.cells cur 9 (0, 0))) (hc : ∀ j (h : j < L.length), cur[j]? = some (.string L[j])) {i : Nat} (hi : i < L.length) : W.cell? ⟨P, i, none⟩ = some (.string L[i]) := by
 rw [Lib.cell_of_heap h]
 exact hc i hi
theorem rows_small {nr : ByteArray → Option (List Int)} {k : Nat} : ∀ {qs : List ByteArray} {rs : List S40}, qs.mapM (ruleR nr k) = some rs → ∀ r ∈ rs, r.f1.length = k ∧ r.f3.length = k ∧ r.f4.length = k
 | [], rs, h, r, hr => by cases h; cases hr
 | q :: qs, rs, h, r, hr => by
  rw [List.mapM_cons] at h
  obtain ⟨a, ha, h⟩ := Option.bind_eq_some_iff.1 h
  obtain ⟨b, hb, h⟩ := Option.bind_eq_some_iff.1 h
  cases h
  rcases List.mem_cons.1 hr with rfl | hr
  ·unfold ruleR at ha
   obtain ⟨l, hl, ha⟩ := Option.bind_eq_some_iff.1 ha
   split at ha
   ·cases ha
    simp [ruleOf]
    omega
   ·cases ha
  ·exact rows_small hb r hr
end Go.Proofs.YtfoodfhhdbaieaaDoor.Giv
