-- CUT by a program of this session: what the claim does not use is left out
import Derived.Test.YtfoodfhhdbaieaaDoorM10
import Derived.Test.YtfoodfhhdbaieaaDoorT8
namespace Go.Proofs.YtfoodfhhdbaieaaDoor.Giv
set_option maxRecDepth 100000
set_option linter.unusedVariables false
set_option linter.unusedSimpArgs false
open Go.RowKit Go.Shelf Go.Proofs.YtfoodfhhdbaieaaDoorW.PrintWords Go.Proofs.YtfoodfhhdbaieaaDoorW.PrintLast Go.Proofs.YtfoodfhhdbaieaaDoorW.PrintMore
open Go.Proofs.YtfoodfhhdbaieaaDoor.Ka (S40 k40 z40 rd_T40 at_T40 k40_open k40_mk rd_L1 at_L1 info3 info38 info40)
theorem mem_rd {l : List Int} {y : Int} (h : y ∈ l) : ∃ i : Nat, i < l.length ∧ y = rd l i := by
 obtain ⟨i, hi, rfl⟩ := List.getElem_of_mem h
 exact ⟨i, hi, by simp [rd, hi]⟩
theorem inR_bd' {n lo hi : Int} (h : inR n lo hi = true) : lo ≤ n ∧ n ≤ hi := by
 unfold inR at h; simpa using h
theorem ruleB_neat {a0 a1 a2 : Int} {r : S40} (h0 : 3 ≤ a0 ∧ a0 ≤ 64) (h1 : 2 ≤ a1 ∧ a1 ≤ 8) (h2 : 1 ≤ a2 ∧ a2 ≤ 3) (h : ruleB a0 a1 a2 r = true) : Neat r := by
 unfold ruleB at h
 simp only [Bool.and_eq_true, beq_iff_eq, List.all_eq_true, List.mem_range] at h
 obtain ⟨⟨⟨⟨⟨⟨⟨q1, _⟩, _⟩, q2⟩, q3⟩, q4⟩, q5⟩, q6⟩ := h
 have q1 := inR_bd' q1
 have q2 := inR_bd' q2
 have cell : ∀ i : Nat, i < a2.toNat → (0 ≤ rd r.f1 i ∧ rd r.f1 i ≤ a1 - 1) ∧ (0 ≤ rd r.f3 i ∧ rd r.f3 i ≤ a1 - 1) ∧ (-1 ≤ rd r.f4 i ∧ rd r.f4 i ≤ 1) := fun i hi => by
  have := q6 i hi
  unfold cellB at this
  simp only [Bool.and_eq_true] at this
  exact ⟨inR_bd' this.1.1, inR_bd' this.1.2, inR_bd' this.2⟩
 refine ⟨?_, ?_, ?_, ?_, ?_⟩
 ·intro y hy
  unfold ruleN at hy
  simp only [List.flatten_cons, List.flatten_nil, List.append_nil, List.mem_append, List.mem_singleton] at hy
  rcases hy with rfl | hy | rfl | hy | hy
  ·omega
  ·obtain ⟨i, hi, rfl⟩ := mem_rd hy; have := (cell i (by omega)).1; omega
  ·omega
  ·obtain ⟨i, hi, rfl⟩ := mem_rd hy; have := (cell i (by omega)).2.1; omega
  ·obtain ⟨i, hi, rfl⟩ := mem_rd hy; have := (cell i (by omega)).2.2; omega
 ·unfold ruleN; simp only [List.flatten_cons, List.flatten_nil, List.append_nil, List.length_append, List.length_singleton]; omega
 ·intro e; rw [e] at q3; simp at q3; omega
 ·intro e; rw [e] at q4; simp at q4; omega
 ·intro e; rw [e] at q5; simp at q5; omega
theorem rulesB_all {a0 a1 a2 : Int} : ∀ (l : List S40) (seen : List (List Int)), rulesB a0 a1 a2 seen l = true → ∀ r ∈ l, ruleB a0 a1 a2 r = true
 | [], _, _, r, hr => by cases hr
 | x :: l, seen, h, r, hr => by
  simp only [rulesB, Bool.and_eq_true] at h
  rcases List.mem_cons.1 hr with rfl | hr
  ·exact h.1.1
  ·exact rulesB_all l _ h.2 r hr
theorem valid_neat {a0 a1 a2 : Int} {l : List S40} (h : validM a0 a1 a2 l = true) : ((3 ≤ a0 ∧ a0 ≤ 64) ∧ (2 ≤ a1 ∧ a1 ≤ 8) ∧ (1 ≤ a2 ∧ a2 ≤ 3)) ∧ numLen [a0, a1, a2] ∧ ∀ r ∈ l, Neat r := by
 unfold validM at h
 rw [Bool.and_eq_true] at h
 have hb := headB_bd h.1
 refine ⟨hb, fun y hy => ?_, fun r hr => ruleB_neat hb.1 hb.2.1 hb.2.2 (rulesB_all _ _ h.2 r hr)⟩
 simp only [List.mem_cons, List.not_mem_nil, or_false] at hy
 rcases hy with rfl | rfl | rfl <;> omega
def textR (a0 a1 a2 : Int) (l : List S40) : ByteArray × Int :=
 if validM a0 a1 a2 l = true then (if (writeT a0 a1 a2 l).length ≤ 40000 then (⟨(writeT a0 a1 a2 l).toArray⟩, 0) else (⟨#[]⟩, 5)) else (⟨#[]⟩, 1)
set_option maxHeartbeats 4000000 in
theorem text_calls (a0 a1 a2 : Int) (A : Option Addr) (c : Nat) (l : List S40) (w : World) (hr : Kd.C k40 w A l.length l) (hlay : Laid w) (hn : l.length ≤ 100000) :
  Calls Tryd.prog 12 #[.agg #[.int .i64 a0, .int .i64 a1, .int .i64 a2, .slice A l.length c]] w fun e w' => e = .returned (.tuple #[.string (textR a0 a1 a2 l).1, .int .i64 (textR a0 a1 a2 l).2]) ∧ Below w.heap.size w w' := by
 have HC := Aside0.mk hr
 have HLAY := Aside0.mk hlay
 have HN := Aside0.mk hn
 clear hr hlay hn
 obtain ⟨W1, hW1⟩ : ∃ W1, w.alloc (.cells #[.int .i64 a0, .int .i64 a1, .int .i64 a2, .slice A l.length c] 24) = W1 := ⟨_, rfl⟩
 have hb1 : Below w.heap.size w W1 := by rw [← hW1]; exact below_alloc (Below.refl _ _) _
 have hbx : W1.heap[w.heap.size]? = some (.cells #[.int .i64 a0, .int .i64 a1, .int .i64 a2, .slice A l.length c] 24 (0, 0)) := by rw [← hW1]; exact box_at _ _
 have HW1 := Aside0.mk hW1
 have HB1 := Aside0.mk hb1
 have HBX := Aside0.mk hbx
 clear hW1 hb1 hbx
 cases hv : validM a0 a1 a2 l with
 | false =>
  have e : textR a0 a1 a2 l = (⟨#[]⟩, 1) := by unfold textR; rw [hv, if_neg (by simp)]
  rw [e]
  have HV := Aside0.mk hv
  clear hv e
  go_enter Tryd.func12, Tryd.ntmps12
  go_wp2_with (go_at_call 10; rw [HW1.out]; refine (valid_calls a0 a1 a2 A c l W1 (Kd.C_below HC.out HB1.out)).mono ?_; rw [HV.out]; rintro e w2 ⟨rfl, hb2⟩; have HB2 := Aside0.mk hb2; clear hb2)
  go_ret2
  exact ⟨rfl, below_step HB1.out HB2.out⟩
 | true =>
  obtain ⟨_, hs, hl⟩ := valid_neat hv
  have HV := Aside0.mk hv
  have HS := Aside0.mk hs
  have HL := Aside0.mk hl
  have HT : Aside0 ((writeT a0 a1 a2 l).length ≤ 10200015) := ⟨by have := writeT_len hs l hl; have := HN.out; omega⟩
  clear hs hl
  have e : textR a0 a1 a2 l = if (writeT a0 a1 a2 l).length ≤ 40000 then (⟨(writeT a0 a1 a2 l).toArray⟩, 0) else (⟨#[]⟩, 5) := by unfold textR; rw [hv, if_pos rfl]
  rw [e]
  clear hv e
  obtain ⟨t, ht⟩ : ∃ t, t = writeT a0 a1 a2 l := ⟨_, rfl⟩
  rw [← ht] at HT ⊢
  have HTT := Aside0.mk ht
  clear ht
  obtain ⟨s, hs⟩ : ∃ s : ByteArray, s = ⟨t.toArray⟩ := ⟨_, rfl⟩
  have hsz : s.size = t.length := by rw [hs, size_toArray]
  rw [← hs]
  by_cases c0 : t.length ≤ 40000
  ·rw [if_pos c0]
   have d1 : decide ((40000 : Int) < (s.size : Int)) = false := decide_eq_false (by omega)
   have d2 : decide (40000 < s.size) = false := decide_eq_false (by omega)
   have d3 : (40000 < s.size) = False := eq_false (by omega)
   have HE := Aside0.mk hs
   clear hs hsz c0
   go_enter Tryd.func12, Tryd.ntmps12
   go_wp2_with (first
    | (go_at_call 10; rw [HW1.out]; refine (valid_calls a0 a1 a2 A c l W1 (Kd.C_below HC.out HB1.out)).mono ?_; rw [HV.out]; rintro e w2 ⟨rfl, hb2⟩; have HB2 := Aside0.mk hb2; have hbx2 := (hb2.block _ (Array.getElem?_eq_some_iff.1 HBX.out).1).trans HBX.out; have z0 : w2.cell? ⟨w.heap.size, 0, none⟩ = some (.int .i64 a0) := (blk_cell hbx2 0).trans rfl; have z1 : w2.cell? ⟨w.heap.size, 1, none⟩ = some (.int .i64 a1) := (blk_cell hbx2 1).trans rfl; have z2 : w2.cell? ⟨w.heap.size, 2, none⟩ = some (.int .i64 a2) := (blk_cell hbx2 2).trans rfl; have z3 : w2.cell? ⟨w.heap.size, 3, none⟩ = some (.slice A l.length c) := (blk_cell hbx2 3).trans rfl; clear hb2 hbx2)
    | (go_at_call 25; refine (write_calls a0 a1 a2 A c l w2 (Kd.C_below HC.out (below_step HB1.out HB2.out)) (HLAY.out.below (below_step HB1.out HB2.out)) HS.out HL.out HN.out).mono ?_; rw [← HTT.out, ← HE.out]; rintro e w3 ⟨rfl, hb3⟩; have HB3 := Aside0.mk hb3; clear hb3))
   go_ret2
   exact ⟨rfl, below_step (below_step HB1.out HB2.out) HB3.out⟩
  ·rw [if_neg c0]
   have d1 : decide ((40000 : Int) < (s.size : Int)) = true := decide_eq_true (by omega)
   have d2 : decide (40000 < s.size) = true := decide_eq_true (by omega)
   have d3 : (40000 < s.size) = True := eq_true (by omega)
   have HE := Aside0.mk hs
   clear hs hsz c0
   go_enter Tryd.func12, Tryd.ntmps12
   go_wp2_with (first
    | (go_at_call 10; rw [HW1.out]; refine (valid_calls a0 a1 a2 A c l W1 (Kd.C_below HC.out HB1.out)).mono ?_; rw [HV.out]; rintro e w2 ⟨rfl, hb2⟩; have HB2 := Aside0.mk hb2; have hbx2 := (hb2.block _ (Array.getElem?_eq_some_iff.1 HBX.out).1).trans HBX.out; have z0 : w2.cell? ⟨w.heap.size, 0, none⟩ = some (.int .i64 a0) := (blk_cell hbx2 0).trans rfl; have z1 : w2.cell? ⟨w.heap.size, 1, none⟩ = some (.int .i64 a1) := (blk_cell hbx2 1).trans rfl; have z2 : w2.cell? ⟨w.heap.size, 2, none⟩ = some (.int .i64 a2) := (blk_cell hbx2 2).trans rfl; have z3 : w2.cell? ⟨w.heap.size, 3, none⟩ = some (.slice A l.length c) := (blk_cell hbx2 3).trans rfl; clear hb2 hbx2)
    | (go_at_call 25; refine (write_calls a0 a1 a2 A c l w2 (Kd.C_below HC.out (below_step HB1.out HB2.out)) (HLAY.out.below (below_step HB1.out HB2.out)) HS.out HL.out HN.out).mono ?_; rw [← HTT.out, ← HE.out]; rintro e w3 ⟨rfl, hb3⟩; have HB3 := Aside0.mk hb3; clear hb3))
   go_ret2
   exact ⟨rfl, below_step (below_step HB1.out HB2.out) HB3.out⟩
end Go.Proofs.YtfoodfhhdbaieaaDoor.Giv
