-- CUT by a program of this session: what the claim does not use is left out
import Derived.Test.YtfoodfhhdbaieaaDoorM8
import Derived.Lib.AtoiAllCases
namespace Go.Proofs.YtfoodfhhdbaieaaDoor.Giv
set_option maxRecDepth 100000
set_option linter.unusedVariables false
set_option linter.unusedSimpArgs false
open Go.RowKit Go.Shelf Go.Proofs.YtfoodfhhdbaieaaDoorW.PrintWords Go.Proofs.YtfoodfhhdbaieaaDoorW.PrintLast Go.Proofs.YtfoodfhhdbaieaaDoorW.PrintMore
def numR (l : List UInt8) : Option Int :=
 match Lib.atoiAll l with
 | .ok v => if 0 ≤ v ∧ Lib.itoa v = l then some v else none
 | _ => none
theorem toList_iff (a s : ByteArray) : (a.toList = s.toList) ↔ a.data.toList = s.data.toList := by
 rw [ByteArray.toList_eq, ByteArray.toList_eq]
theorem itoaS_eq (v : Int) (s : ByteArray) : ((itoaS v).toList == s.toList) = decide (Lib.itoa v = s.data.toList) := by
 by_cases h : Lib.itoa v = s.data.toList
 ·rw [decide_eq_true h, beq_iff_eq, toList_iff]; exact h
 ·rw [decide_eq_false h, beq_eq_false_iff_ne, Ne, toList_iff]; exact h
theorem atoi_ok_calls (s : ByteArray) (v : Int) (w : World) (hs : s.size ≤ 100000) (h : Lib.atoiAll s.data.toList = .ok v) : Calls Tryd.prog 58 #[.string s] w fun e w' => e = .returned (.tuple #[.int .i64 v, .nilIface]) ∧ Below w.heap.size w w' := by
 refine (Tryd.strconv_Atoi_ok s (by omega) v h w).mono ?_
 rintro e w' ⟨rfl, rfl | ⟨t, rfl⟩⟩
 ·exact ⟨rfl, Below.refl _ _⟩
 ·exact ⟨rfl, Lib.bytesWorld_below _ _ _⟩
theorem atoi_bad_calls (s : ByteArray) (w : World) (hlay : LaidP w) (hs : s.size ≤ 100000) (h : ∀ v, Lib.atoiAll s.data.toList ≠ .ok v) : Calls Tryd.prog 58 #[.string s] w fun e w' => ∃ n N, e = .returned (.tuple #[.int .i64 n, .iface 119 (.pointer (some ⟨N, 0, none⟩))]) ∧ Below w.heap.size w w' := by
 cases hh : Lib.atoiAll s.data.toList
 ·exact absurd hh (h _)
 ·obtain ⟨ev, h1, h2⟩ := hlay.syn
  refine (Tryd.strconv_Atoi_syntax s (by omega) hh ev w h1 h2).mono ?_
  rintro e w' ⟨N, rfl, _, _, hb⟩
  exact ⟨_, N, rfl, hb⟩
 ·obtain ⟨ev, h1, h2⟩ := hlay.ran
  refine (Tryd.strconv_Atoi_range s (by omega) hh ev w h1 h2).mono ?_
  rintro e w' ⟨N, rfl, _, _, hb⟩
  exact ⟨_, N, rfl, hb⟩
set_option maxRecDepth 100000 in
theorem number_calls (s : ByteArray) (w : World) (hlay : LaidP w) (hs : s.size ≤ 100000) :
  Calls Tryd.prog 45 #[.string s] w fun e w' => ∃ n : Int, e = .returned (.tuple #[.int .i64 n, .bool (numR s.data.toList).isSome]) ∧ (∀ v, numR s.data.toList = some v → n = v) ∧ Below w.heap.size w w' := by
 have HLAY := Aside0.mk hlay
 have HS := Aside0.mk hs
 have HB := Aside0.mk (Below.refl w.heap.size w)
 clear hlay hs
 by_cases h : ∃ v, Lib.atoiAll s.data.toList = .ok v
 ·obtain ⟨v, hv⟩ := h
  have hbd := Lib.atoiAll_bounds hv
  have HN : Aside0 (numR s.data.toList = if 0 ≤ v ∧ Lib.itoa v = s.data.toList then some v else none) := ⟨by unfold numR; rw [hv]⟩
  have HV := Aside0.mk hv
  have HD := Aside0.mk hbd
  clear hv hbd
  by_cases h0 : 0 ≤ v
  ·have d0 : decide (0 ≤ v) = true := decide_eq_true h0
   have HE := Aside0.mk (itoaS_eq v s)
   have H0 := Aside0.mk h0
   clear h0
   obtain ⟨q, hq⟩ : ∃ q, ((itoaS v).toList == s.toList) = q := ⟨_, rfl⟩
   have HQ := Aside0.mk hq
   go_enter Tryd.func45, Tryd.ntmps45
   go_wp2_with (first
    | (go_at_call 58; refine (atoi_ok_calls s v _ HS.out HV.out).mono ?_; rintro e w2 ⟨rfl, hb⟩; have HB2 := Aside0.mk (below_step HB.out hb); clear hb)
    | (go_at_call 39; refine (itoa_any v _ (LaidP.below HLAY.out HB2.out).lay HD.out.1 HD.out.2).mono ?_; rintro e w3 ⟨rfl, hb⟩; have HB3 := Aside0.mk (below_step HB2.out hb); clear hb))
   refine bodyPost_ret (v := .tuple #[.int .i64 v, .bool q]) (by simp [results, Tryd.results45, go_sem]) rfl ?_
   have hqq : decide (Lib.itoa v = s.data.toList) = q := HE.out.symm.trans HQ.out
   refine ⟨v, ?_, ?_, HB3.out⟩
   ·rw [HN.out]
    cases q with
    | true => rw [if_pos ⟨H0.out, of_decide_eq_true hqq⟩]; rfl
    | false => rw [if_neg (fun h => of_decide_eq_false hqq h.2)]; rfl
   ·intro v' hv'
    rw [HN.out] at hv'
    split at hv'
    ·exact Option.some.inj hv'
    ·cases hv'
  ·have d0 : decide (0 ≤ v) = false := decide_eq_false h0
   have HNN : Aside0 (numR s.data.toList = none) := ⟨by rw [HN.out, if_neg (fun h => h0 h.1)]⟩
   clear h0
   go_enter Tryd.func45, Tryd.ntmps45
   go_wp2_with (go_at_call 58; refine (atoi_ok_calls s v _ HS.out HV.out).mono ?_; rintro e w2 ⟨rfl, hb⟩; have HB2 := Aside0.mk (below_step HB.out hb); clear hb)
   refine bodyPost_ret (v := .tuple #[.int .i64 v, .bool false]) (by simp [results, Tryd.results45, go_sem]) rfl ?_
   exact ⟨v, by rw [HNN.out]; rfl, (fun v h => by rw [HNN.out] at h; cases h), HB2.out⟩
 ·have HNN : Aside0 (numR s.data.toList = none) := ⟨by
   unfold numR
   split
   ·rename_i v hv; exact absurd ⟨v, hv⟩ h
   ·rfl⟩
  have HV : Aside0 (∀ v, Lib.atoiAll s.data.toList ≠ .ok v) := ⟨fun v hv => h ⟨v, hv⟩⟩
  clear h
  go_enter Tryd.func45, Tryd.ntmps45
  go_wp2_with (go_at_call 58; refine (atoi_bad_calls s _ HLAY.out HS.out HV.out).mono ?_; rintro e w2 ⟨n, N, rfl, hb⟩; have HB2 := Aside0.mk (below_step HB.out hb); clear hb)
  refine bodyPost_ret (v := .tuple #[.int .i64 n, .bool false]) (by simp [results, Tryd.results45, go_sem]) rfl ?_
  exact ⟨n, by rw [HNN.out]; rfl, (fun v h => by rw [HNN.out] at h; cases h), HB2.out⟩
def semi : ByteArray := ⟨#[59, 32]⟩
def blank : ByteArray := ⟨#[32]⟩
def cutB (s sep : ByteArray) : List ByteArray := Lib.splitB sep 0 (Lib.countB s sep) s
theorem cutB_len (s sep : ByteArray) (h : 1 ≤ sep.size) : (cutB s sep).length = Lib.countB s sep + 1 := Lib.splitB_all sep h 0 _ s rfl
theorem extract_size (s : ByteArray) (a b : Nat) : (s.extract a b).size ≤ s.size := by
 rw [ByteArray.size_extract]; omega
theorem splitB_size (sep : ByteArray) (v : Nat) : ∀ (k : Nat) (s x : ByteArray), x ∈ Lib.splitB sep v k s → x.size ≤ s.size
 | 0, s, x, h => by
  rw [Lib.splitB_zero, List.mem_singleton] at h; subst h; exact Nat.le_refl _
 | k + 1, s, x, h => by
  unfold Lib.splitB at h
  split at h
  ·rw [List.mem_singleton] at h; subst h; exact Nat.le_refl _
  ·rcases List.mem_cons.1 h with rfl | h
   ·exact extract_size _ _ _
   ·exact Nat.le_trans (splitB_size sep v k _ x h) (extract_size _ _ _)
theorem cutB_size {s sep x : ByteArray} (h : x ∈ cutB s sep) : x.size ≤ s.size := splitB_size sep 0 _ s x h
theorem split_calls (s sep : ByteArray) (w : World) (hlay : LaidP w) (hs : s.size ≤ 100000) (h1 : 1 ≤ sep.size) :
  Calls Tryd.prog 28 #[.string s, .string sep] w fun e w' => ∃ P, e = .returned (.slice (some ⟨P, 0, none⟩) (cutB s sep).length (cutB s sep).length) ∧ w'.heap[P]? = some (.cells ((cutB s sep).map Value.string).toArray 9 (0, 0)) ∧ w.heap.size ≤ P ∧ Below w.heap.size w w' := by
 obtain ⟨m, hm⟩ := hlay.len
 rw [cutB_len s sep h1]
 refine (Tryd.strings_Split s sep m w (by omega) hm h1).mono ?_
 rintro e w' ⟨rfl, rfl⟩
 exact ⟨_, rfl, box_at _ _, Nat.le_refl _, below_alloc (Below.refl _ _) _⟩
theorem cut_form (s sep : ByteArray) (h : 1 ≤ sep.size) : ∃ q0 qs, cutB s sep = q0 :: qs := by
 cases hc : cutB s sep with
 | nil => have := cutB_len s sep h; rw [hc] at this; simp at this
 | cons q0 qs => exact ⟨q0, qs, rfl⟩
end Go.Proofs.YtfoodfhhdbaieaaDoor.Giv
