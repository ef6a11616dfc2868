-- CUT by a program of this session: what the claim does not use is left out
import Derived.Test.YthfhnkpipdbekaaDoorN14
namespace Go.Proofs.YthfhnkpipdbekaaDoor.Giv
set_option linter.unusedVariables false
set_option linter.unusedSimpArgs false
open Go.RowKit Go.Shelf Go.Proofs.YthfhnkpipdbekaaDoorW.PrintWords Go.Proofs.YthfhnkpipdbekaaDoorW.PrintLast Go.Proofs.YthfhnkpipdbekaaDoorW.PrintMore
open Go.Proofs.YthfhnkpipdbekaaDoor.Ua (S67 k67 z67 rd_T67 at_T67 k67_open k67_openM k67_mkM info67 rd_L9 at_L9)
def slices_Concat_ops.f (l0 : List (List S67)) : Option (List S67) := if l0.flatten.length ≤ 1000000 then some l0.flatten else none
theorem flat_next {l : List (List S67)} {i : Nat} (h : i < l.length) : (l.take (i + 1)).flatten = (l.take i).flatten ++ l[i] := by
 rw [List.take_succ_eq_append_getElem h, List.flatten_append]; simp
theorem flat_le (l : List (List S67)) (i : Nat) : ((l.take i).flatten).length ≤ l.flatten.length := by
 have e : l.flatten = (l.take i).flatten ++ (l.drop i).flatten := by rw [← List.flatten_append, List.take_append_drop]
 rw [e, List.length_append]; omega
theorem rd_L9_at (l : List (List S67)) (i : Nat) (h : i < l.length) : rd_L9 l (i : Int) = l[i] := by
 simp [rd_L9, List.getD_eq_getElem?_getD, List.getElem?_eq_getElem h]
theorem K_M67 (W : World) (base : Nat) (ok : Nat → Prop) (x : S67) (cs : List Value) (h : k67.K W x cs) : k67.M W base ok x cs := by
 rw [k67_open h]; exact k67_mkM _ _ _ _
set_option maxHeartbeats 8000000 in
set_option maxRecDepth 100000 in
theorem slices_Concat_ops.calls (A0 : Option Addr) (c0 : Nat) (l0 : List (List S67)) (r : List S67) (w : World) (hr0 : Kd.C (Kd.slice 67 k67) w A0 l0.length l0) (hc0 : l0.length ≤ c0) (h : slices_Concat_ops.f l0 = some r) :
  Calls Tryd.prog 71 #[.slice A0 l0.length c0] w fun e w' => ∃ v0_ : Value, e = .returned v0_ ∧ Kd.R k67 67 w' w.heap.size (fun _ => True) v0_ r ∧ Below w.heap.size w w' := by
 unfold slices_Concat_ops.f at h
 split at h
 case isFalse => cases h
 rename_i hle
 obtain rfl := Option.some.inj h
 have HC := Aside0.mk hr0
 have HB := Aside0.mk (Below.refl w.heap.size w)
 have HLE := Aside0.mk hle
 have HL : Aside0 (l0.length ≤ 9223372036854775807) := ⟨hr0.2.1⟩
 clear hr0 h hle
 go_enter Tryd.func71, Tryd.ntmps71
 go_wp2
 go_loopg [3, 11] l0.length (fun gg s3 s11 wr => ∃ i : Nat, s3 = .int .i64 (((l0.take i).flatten.length : Nat) : Int) ∧ s11 = .int .i64 (i : Int) ∧ Aside0 (i ≤ l0.length) ∧ Aside0 (l0.length - i = gg) ∧ wr = w)
 case atStart => exact ⟨0, rfl, rfl, ⟨by omega⟩, ⟨by omega⟩, rfl⟩
 case round =>
  obtain ⟨i, rfl, rfl, HI, HG, hwr⟩ := hrel
  subst hwr
  by_cases cl : i < l0.length
  ·have clb : decide ((i : Int) < (l0.length : Int)) = true := decide_eq_true (by omega)
   have clb2 : decide (i < l0.length) = true := decide_eq_true cl
   obtain ⟨ad, A1, c1, e1, h0, hl1, hC1⟩ := at_L9 HC.out (i : Int) (by omega) (by omega)
   rw [rd_L9_at l0 i cl] at h0 hl1 hC1
   subst e1
   have p1 : (0 ≤ (i : Int)) = True := eq_true (by omega)
   have q1 : ((i : Int) < (l0.length : Int)) = True := eq_true (by omega)
   have q2 : (i < l0.length) = True := eq_true cl
   rw [Int.toNat_natCast] at h0
   have HN := Aside0.mk (flat_next cl)
   have HF := Aside0.mk (flat_le l0 (i + 1))
   obtain ⟨s, hs⟩ : ∃ s, s = l0[i] := ⟨_, rfl⟩
   rw [← hs] at h0 HN
   have CL := Aside0.mk cl
   clear cl hs hl1 hC1
   obtain ⟨N, hN⟩ : ∃ N, (List.take i l0).flatten.length = N := ⟨_, rfl⟩
   rw [hN]
   have HNN := Aside0.mk hN
   have HSUM : Aside0 ((l0.take (i + 1)).flatten.length = N + s.length) := ⟨by rw [HN.out, List.length_append, HNN.out]⟩
   have HW : Aside0 (wrap64 ((N : Int) + (s.length : Int)) = ((N + s.length : Nat) : Int)) := ⟨by have := HSUM.out; have := HF.out; have := HLE.out; unfold wrap64; omega⟩
   have d1 : decide (wrap64 ((N : Int) + (s.length : Int)) < 0) = false := by rw [HW.out]; exact decide_eq_false (by omega)
   clear hN
   go_wp2
   go_roundg (l0.length - (i + 1))
   case measure => have := HG.out; have := CL.out; omega
   case rel =>
    have := CL.out
    refine ⟨i + 1, ?_, ?_, ⟨by omega⟩, ⟨by omega⟩, rfl⟩
    ·rw [HSUM.out, ← HW.out]
    ·rw [show wrap64 ((i : Int) + 1) = ((i + 1 : Nat) : Int) by have := HL.out; unfold wrap64; omega]
  ·have clb : decide ((i : Int) < (l0.length : Int)) = false := decide_eq_false (by omega)
   have clb2 : decide (i < l0.length) = false := decide_eq_false cl
   have HFL : Aside0 ((l0.take i).flatten.length = l0.flatten.length) := ⟨by rw [List.take_of_length_le (by omega)]⟩
   rw [HFL.out]
   obtain ⟨NN, hNN⟩ : ∃ N, l0.flatten.length = N := ⟨_, rfl⟩
   have HLN : Aside0 (NN ≤ 1000000) := ⟨by rw [← hNN]; exact HLE.out⟩
   rw [hNN]
   clear cl hNN
   go_wp2_with (go_at_call 93; refine (grow_calls NN HLN.out wr).mono ?_; rintro e w2 ⟨v, rfl, hroom⟩; have HR := Aside0.mk hroom; clear hroom)
   obtain ⟨wo, rfl⟩ : ∃ wo, wo = wr := ⟨_, rfl⟩
   go_loopg [6, 27] l0.length (fun gg s6 s27 wq => ∃ (i : Nat) (v6 : Value), s6 = v6 ∧ s27 = .int .i64 (i : Int) ∧ Aside0 (i ≤ l0.length) ∧ Aside0 (l0.length - i = gg) ∧ Aside0 (Kd.R k67 67 wq wo.heap.size (fun _ => True) v6 (l0.take i).flatten) ∧ Aside0 (Below wo.heap.size wo wq))
   case atStart => exact ⟨0, _, rfl, rfl, ⟨by omega⟩, ⟨by omega⟩, ⟨HR.out.row⟩, ⟨HR.out.below⟩⟩
   case round =>
    obtain ⟨j, v6, rfl, rfl, HJ, HG2, HRO, HBQ⟩ := hrel
    by_cases cl : j < l0.length
    ·have clb : decide ((j : Int) < (l0.length : Int)) = true := decide_eq_true (by omega)
     have clb2 : decide (j < l0.length) = true := decide_eq_true cl
     obtain ⟨ad, A1, c1, e1, h0, hl1, hC1⟩ := at_L9 HC.out (j : Int) (by omega) (by omega)
     rw [rd_L9_at l0 j cl] at h0 hl1 hC1
     subst e1
     have p1 : (0 ≤ (j : Int)) = True := eq_true (by omega)
     have q1 : ((j : Int) < (l0.length : Int)) = True := eq_true (by omega)
     have q2 : (j < l0.length) = True := eq_true cl
     rw [Int.toNat_natCast] at h0
     have HN := Aside0.mk (flat_next cl)
     have HF := Aside0.mk (flat_le l0 (j + 1))
     obtain ⟨s, hs⟩ : ∃ s, s = l0[j] := ⟨_, rfl⟩
     rw [← hs] at h0 HN hC1
     have CL := Aside0.mk cl
     have HC1 := Aside0.mk (Kd.C_below hC1 HBQ.out)
     replace h0 := pw_cell_below HBQ.out h0
     clear cl hs hl1 hC1
     have HSUM0 : Aside0 ((l0.take j).flatten.length + s.length ≤ 1000000) := ⟨by have := HF.out; rw [HN.out, List.length_append] at this; have := HLE.out; omega⟩
     obtain ⟨X, hX⟩ : ∃ X, X = (l0.take j).flatten := ⟨_, rfl⟩
     have HSUM : Aside0 (X.length + s.length ≤ 1000000) := ⟨by rw [hX]; exact HSUM0.out⟩
     have HN2 : Aside0 ((l0.take (j + 1)).flatten = X ++ s) := ⟨by rw [hX]; exact HN.out⟩
     rw [← hX] at HRO
     clear hX HSUM0 HN
     obtain ⟨Ao, co, ev⟩ := Kd.R_slice HRO.out
     subst ev
     go_wp2_with (at_builtin; refine Kd.R_append_rows k67 (w0 := wo) wo.heap.size rfl (.tmp 31) (.tmp 32) 23 67 (.agg #[(.int .i64 0), (.int .i64 0), (.int .i64 0), (.int .i64 0)]) 32 rfl Tryd.underlying23 info67 rfl (by decide) (by omega) (.slice Ao X.length co) X s A1 s.length c1 (fun _ => True) (fun _ => False) rfl rfl HRO.out HC1.out (fun x cs hx => K_M67 _ _ _ x cs hx) (fun _ hk => hk.elim) (fun _ _ => trivial) HBQ.out HBQ.out.size (by have := HSUM.out; omega) ?_; intro v' w11 ho hb hg hat; have HRO2 := Aside0.mk ho; have HBQ2 := Aside0.mk hb; clear ho hb hg hat)
     go_roundg (l0.length - (j + 1))
     case measure => have := HG2.out; have := CL.out; omega
     case rel =>
      have := CL.out
      refine ⟨j + 1, _, rfl, ?_, ⟨by omega⟩, ⟨by omega⟩, ⟨by rw [HN2.out]; exact HRO2.out⟩, HBQ2⟩
      rw [show wrap64 ((j : Int) + 1) = ((j + 1 : Nat) : Int) by have := HL.out; unfold wrap64; omega]
    ·have clb : decide ((j : Int) < (l0.length : Int)) = false := decide_eq_false (by omega)
     have clb2 : decide (j < l0.length) = false := decide_eq_false cl
     have HFIN : Aside0 ((l0.take j).flatten = l0.flatten) := ⟨by rw [List.take_of_length_le (by omega)]⟩
     have h_ := HRO.out
     rw [HFIN.out] at h_
     have HRO3 := Aside0.mk h_
     clear h_
     clear cl HRO
     go_wp2
     go_ret
     exact ⟨_, by simp [results, Tryd.results71, go_sem], HRO3.out, HBQ.out⟩
end Go.Proofs.YthfhnkpipdbekaaDoor.Giv
