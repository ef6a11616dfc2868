-- CUT by a program of this session: what the claim does not use is left out
import Derived.Test.YtfoodfhhdbaieaaT22
namespace Go.Proofs.Ytfoodfhhdbaieaa.Giv
set_option linter.unusedSimpArgs false
set_option linter.unusedVariables false
open Go.RowKit Go.Shelf Go.Proofs.YtfoodfhhdbaieaaW.PrintWords Go.Proofs.YtfoodfhhdbaieaaW.PrintLast Go.Proofs.YtfoodfhhdbaieaaW.PrintMore
open Go.Proofs.Ytfoodfhhdbaieaa.Ka (S54 rd_T54 rd_L1 at_L1 info3 info25 info54)

theorem wpList_event {P : Program} {ops : Array Oper} {rest : List Oper} {o : Oper} {a : Act} {Q : Exit → Act → World → Prop} {W w1 : World} {v : Value} (hg : o.guard = none) (hrun : (execOp a.eval o).run P W = .ok (.value v) w1) (h : wpList P ops Q rest (a.put o.dst v) w1) : wpList P ops Q (o :: rest) a W := by
  refine wpList_plain hg fun K hK => ?_
  unfold Oper.wp
  rw [hrun]
  exact hK _ _ h
theorem refTrimmed_calls (A : Option Addr) (c : Nat) (l : List Int) (w : World) (hC : Kd.C (Kd.int .i64) w A l.length l) (hlc : l.length ≤ c) (hb : l.length ≤ 1000000) :
    Calls Try.prog 34 #[.slice A l.length c] w fun e w' => ∃ v', e = .returned v' ∧ w'.ownsRow w.heap.size 3 1 v' (trimL l).length ((trimL l).map (Value.int .i64)) ∧ Below w.heap.size w w' := by
  have HC := Aside0.mk hC
  have HL := Aside0.mk hlc
  have HB := Aside0.mk hb
  have hm : (l.length : Int) ≤ 1000000 := by omega
  have HAPP : Aside0 (∀ n : Nat, n ≤ l.length → ∃ B cb W', (Builtin.append_ #[25, 25] 25 #[.slice (some ⟨w.heap.size, 0, none⟩) 0 0, .slice A n c]).run Try.prog (w.alloc (.cells #[] 3)) = .ok (.slice B n cb) W' ∧ W'.ownsRow w.heap.size 3 1 (.slice B n cb) n ((l.take n).map (Value.int .i64)) ∧ Below w.heap.size w W') := ⟨fun n hn => by
    have hb1 : Below w.heap.size w (w.alloc (.cells #[] 3)) := (Below.refl _ _).alloc (Nat.le_refl _) _
    have e : (l.take n).length = n := by rw [List.length_take]; omega
    have hu : (w.alloc (.cells #[] 3)).ownsRow w.heap.size 3 1 (.slice (some ⟨w.heap.size, 0, none⟩) 0 0) 0 [] := ⟨rfl, .inr ⟨w.heap.size, 0, #[], rfl, Nat.le_refl _, heap_alloc_new _ _, Nat.le_refl _, by decide, rfl, rfl⟩⟩
    obtain ⟨B, cb, W', q1, q2, q3⟩ := app_row 25 (c := c) hu hb1.size (Kd.C_below (C_take hC hn) hb1) (by rw [e]; omega)
    rw [e] at q1 q2
    exact ⟨B, cb, W', q1, q2, below_step hb1 q3⟩⟩
  clear hC hlc hb
  go_enter Try.func34, Try.ntmps34
  go_wp2
  go_loopg [3] l.length (fun gg s3 wr => ∃ i : Int, s3 = .int .i64 i ∧ Aside0 (0 ≤ i) ∧ Aside0 (i ≤ l.length) ∧ Aside0 (i = gg) ∧ wr = w ∧ Aside0 (trimN l i.toNat = trimN l l.length))
  case atStart => exact ⟨l.length, rfl, ⟨by omega⟩, ⟨by omega⟩, ⟨by omega⟩, rfl, ⟨by simp⟩⟩
  case round =>
    obtain ⟨i, rfl, HI, HJ, HG, rfl, HA⟩ := hrel
    have hi := HI.out
    by_cases cl : 0 < i
    · have clb : decide (0 < i) = true := decide_eq_true cl
      have p0 : 0 ≤ i - 1 := by omega
      have p2 : 1 ≤ i := by omega
      have p1 : i - 1 < (l.length : Int) := by have := HJ.out; omega
      have p3 : i ≤ (l.length : Int) := HJ.out
      obtain ⟨ad, e1, hx⟩ := Kd.at_int HC.out (i - 1) p0 p1
      subst e1
      rw [show (i - 1).toNat = i.toNat - 1 by omega] at hx
      have HT : Aside0 (trimN l i.toNat = if rd l (i - 1) = 0 then trimN l (i - 1).toNat else i.toNat) := ⟨by
        obtain ⟨n, hn⟩ : ∃ n : Nat, i.toNat = n + 1 := ⟨i.toNat - 1, by omega⟩
        rw [hn, trimN, show ((n : Nat) : Int) = i - 1 by omega, show (i - 1).toNat = n by omega]⟩
      by_cases h3 : rd l (i - 1) = 0
      · rw [h3] at hx
        have H3 := Aside0.mk h3
        clear h3
        go_wp2
        go_roundg (i - 1).toNat
        case measure => have := HG.out; omega
        case rel =>
          refine ⟨i - 1, rfl, ⟨by omega⟩, ⟨by omega⟩, ⟨by omega⟩, rfl, ⟨?_⟩⟩
          have := HT.out
          rw [if_pos H3.out] at this
          rw [← this]; exact HA.out
      · have t5 : (rd l (i - 1) == 0) = false := by simpa using h3
        have H3 := Aside0.mk h3
        clear h3
        have q0 : i ≤ (c : Int) := by have := HL.out; omega
        have HE : Aside0 (trimN l l.length = i.toNat) := ⟨by have := HT.out; rw [if_neg H3.out] at this; rw [← HA.out, this]⟩
        obtain ⟨B, cb, W', q1, q2, q3⟩ := HAPP.out i.toNat (by have := HJ.out; omega)
        have HQ2 := Aside0.mk q2
        have HQ3 := Aside0.mk q3
        clear q2 q3
        go_wp2_with ((with_reducible refine gate_dst (N := 22) rfl ?_); refine wpList_event rfl (exec_append (.tmp 18) (.tmp 21) 25 25 rfl rfl rfl rfl q1) ?_)
        go_ret
        refine ⟨_, rfl, ?_, HQ3.out⟩
        unfold trimL
        rw [HE.out, show (l.take i.toNat).length = i.toNat by rw [List.length_take]; have := HJ.out; omega]
        exact HQ2.out
    · have clb : decide (0 < i) = false := decide_eq_false cl
      have h0 : i = 0 := by omega
      subst h0
      have HE : Aside0 (trimN l l.length = 0) := ⟨by rw [← HA.out]; rfl⟩
      obtain ⟨B, cb, W', q1, q2, q3⟩ := HAPP.out 0 (by omega)
      have HQ2 := Aside0.mk q2
      have HQ3 := Aside0.mk q3
      clear q2 q3
      go_wp2_with ((with_reducible refine gate_dst (N := 22) rfl ?_); refine wpList_event rfl (exec_append (.tmp 18) (.tmp 21) 25 25 rfl rfl rfl rfl q1) ?_)
      go_ret
      refine ⟨_, rfl, ?_, HQ3.out⟩
      unfold trimL
      rw [HE.out]
      exact HQ2.out
end Go.Proofs.Ytfoodfhhdbaieaa.Giv
