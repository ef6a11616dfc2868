-- CUT by a program of this session: what the claim does not use is left out
import Derived.Test.YthfhnkpipdbekaaDoorN8
import Derived.Lib.AtoiAllCases
namespace Go.Proofs.YthfhnkpipdbekaaDoor.Giv
set_option linter.unusedVariables false
set_option linter.unusedSimpArgs false
open Go.RowKit Go.Shelf Go.Proofs.YthfhnkpipdbekaaDoorW.PrintWords Go.Proofs.YthfhnkpipdbekaaDoorW.PrintLast Go.Proofs.YthfhnkpipdbekaaDoorW.PrintMore
def numB (l : List UInt8) : Option Int :=
 match Lib.atoiAll l with
 | .ok v => if 0 ≤ v ∧ Lib.itoa v = l then some v else none
 | _ => none
theorem itoa_any (y : Int) (w : World) (hlay : Laid w) (h0 : -9223372036854775808 ≤ y) (h1 : y ≤ 9223372036854775807) : Calls Tryd.prog 83 #[.int .i64 y] w fun e w' => e = .returned (.string (itoaS y)) ∧ Below w.heap.size w w' := by
 refine (Tryd.strconv_Itoa y (by omega) (by omega) w hlay.pow).mono ?_
 rintro e w' ⟨rfl, k, os, rfl⟩
 refine ⟨rfl, rfl, rfl, rfl, by simp [Go.Sort.grow], fun j hj => ?_⟩
 simp [Go.Sort.grow, Array.getElem?_append_left hj]
theorem toList_iff (a s : ByteArray) : (a.toList = s.toList) ↔ a.data.toList = s.data.toList := by
 rw [ByteArray.toList_eq, ByteArray.toList_eq]
theorem itoaS_eq (v : Int) (s : ByteArray) : ((itoaS v).toList == s.toList) = decide (Lib.itoa v = s.data.toList) := by
 by_cases h : Lib.itoa v = s.data.toList
 ·rw [decide_eq_true h, beq_iff_eq, toList_iff]; exact h
 ·rw [decide_eq_false h, beq_eq_false_iff_ne, Ne, toList_iff]; exact h
theorem atoi_ok_calls (s : ByteArray) (v : Int) (w : World) (hs : s.size ≤ 100000) (h : Lib.atoiAll s.data.toList = .ok v) : Calls Tryd.prog 82 #[.string s] w fun e w' => e = .returned (.tuple #[.int .i64 v, .nilIface]) ∧ Below w.heap.size w w' := by
 refine (Tryd.strconv_Atoi_ok s (by omega) v h w).mono ?_
 rintro e w' ⟨rfl, rfl | ⟨t, rfl⟩⟩
 ·exact ⟨rfl, Below.refl _ _⟩
 ·exact ⟨rfl, Lib.bytesWorld_below _ _ _⟩
theorem atoi_bad_calls (s : ByteArray) (w : World) (hlay : Laid w) (hs : s.size ≤ 100000) (h : ∀ v, Lib.atoiAll s.data.toList ≠ .ok v) : Calls Tryd.prog 82 #[.string s] w fun e w' => ∃ n N, e = .returned (.tuple #[.int .i64 n, .iface 135 (.pointer (some ⟨N, 0, none⟩))]) ∧ Below w.heap.size w w' := by
 cases hh : Lib.atoiAll s.data.toList
 ·exact absurd hh (h _)
 ·obtain ⟨ev, h1, h2⟩ := hlay.syn
  refine (Tryd.strconv_Atoi_syntax s (by omega) hh ev w h1 h2).mono ?_
  rintro e w' ⟨N, rfl, _, _, hb⟩
  exact ⟨_, N, rfl, hb⟩
 ·obtain ⟨ev, h1, h2⟩ := hlay.ran
  refine (Tryd.strconv_Atoi_range s (by omega) hh ev w h1 h2).mono ?_
  rintro e w' ⟨N, rfl, _, _, hb⟩
  exact ⟨_, N, rfl, hb⟩
set_option maxRecDepth 100000 in
theorem number_calls (s : ByteArray) (w : World) (hlay : Laid w) (hs : s.size ≤ 100000) :
  Calls Tryd.prog 48 #[.string s] w fun e w' => ∃ n : Int, e = .returned (.tuple #[.int .i64 n, .bool (numB s.data.toList).isSome]) ∧ (∀ v, numB s.data.toList = some v → n = v) ∧ Below w.heap.size w w' := by
 have HLAY := Aside0.mk hlay
 have HS := Aside0.mk hs
 have HB := Aside0.mk (Below.refl w.heap.size w)
 clear hlay hs
 by_cases h : ∃ v, Lib.atoiAll s.data.toList = .ok v
 ·obtain ⟨v, hv⟩ := h
  have hbd := Lib.atoiAll_bounds hv
  have HN : Aside0 (numB s.data.toList = if 0 ≤ v ∧ Lib.itoa v = s.data.toList then some v else none) := ⟨by unfold numB; rw [hv]⟩
  have HV := Aside0.mk hv
  have HD := Aside0.mk hbd
  clear hv hbd
  by_cases h0 : 0 ≤ v
  ·have d0 : decide (0 ≤ v) = true := decide_eq_true h0
   have HE := Aside0.mk (itoaS_eq v s)
   have H0 := Aside0.mk h0
   clear h0
   obtain ⟨q, hq⟩ : ∃ q, ((itoaS v).toList == s.toList) = q := ⟨_, rfl⟩
   have HQ := Aside0.mk hq
   go_enter Tryd.func48, Tryd.ntmps48
   go_wp2_with (first
    | (go_at_call 82; refine (atoi_ok_calls s v _ HS.out HV.out).mono ?_; rintro e w2 ⟨rfl, hb⟩; have HB2 := Aside0.mk (below_step HB.out hb); clear hb)
    | (go_at_call 83; refine (itoa_any v _ (Laid.below HLAY.out HB2.out) HD.out.1 HD.out.2).mono ?_; rintro e w3 ⟨rfl, hb⟩; have HB3 := Aside0.mk (below_step HB2.out hb); clear hb))
   refine bodyPost_ret (v := .tuple #[.int .i64 v, .bool q]) (by simp [results, Tryd.results48, go_sem]) rfl ?_
   have hqq : decide (Lib.itoa v = s.data.toList) = q := HE.out.symm.trans HQ.out
   refine ⟨v, ?_, ?_, HB3.out⟩
   ·rw [HN.out]
    cases q with
    | true => rw [if_pos ⟨H0.out, of_decide_eq_true hqq⟩]; rfl
    | false => rw [if_neg (fun h => of_decide_eq_false hqq h.2)]; rfl
   ·intro v' hv'
    rw [HN.out] at hv'
    split at hv'
    ·exact Option.some.inj hv'
    ·cases hv'
  ·have d0 : decide (0 ≤ v) = false := decide_eq_false h0
   have HNN : Aside0 (numB s.data.toList = none) := ⟨by rw [HN.out, if_neg (fun h => h0 h.1)]⟩
   clear h0
   go_enter Tryd.func48, Tryd.ntmps48
   go_wp2_with (go_at_call 82; refine (atoi_ok_calls s v _ HS.out HV.out).mono ?_; rintro e w2 ⟨rfl, hb⟩; have HB2 := Aside0.mk (below_step HB.out hb); clear hb)
   refine bodyPost_ret (v := .tuple #[.int .i64 v, .bool false]) (by simp [results, Tryd.results48, go_sem]) rfl ?_
   exact ⟨v, by rw [HNN.out]; rfl, (fun v h => by rw [HNN.out] at h; cases h), HB2.out⟩
 ·have HNN : Aside0 (numB s.data.toList = none) := ⟨by
   unfold numB
   split
   ·rename_i v hv; exact absurd ⟨v, hv⟩ h
   ·rfl⟩
  have HV : Aside0 (∀ v, Lib.atoiAll s.data.toList ≠ .ok v) := ⟨fun v hv => h ⟨v, hv⟩⟩
  clear h
  go_enter Tryd.func48, Tryd.ntmps48
  go_wp2_with (go_at_call 82; refine (atoi_bad_calls s _ HLAY.out HS.out HV.out).mono ?_; rintro e w2 ⟨n, N, rfl, hb⟩; have HB2 := Aside0.mk (below_step HB.out hb); clear hb)
  refine bodyPost_ret (v := .tuple #[.int .i64 n, .bool false]) (by simp [results, Tryd.results48, go_sem]) rfl ?_
  exact ⟨n, by rw [HNN.out]; rfl, (fun v h => by rw [HNN.out] at h; cases h), HB2.out⟩
end Go.Proofs.YthfhnkpipdbekaaDoor.Giv
