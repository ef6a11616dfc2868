-- CUT by a program of this session: what the claim does not use is left out
import Derived.Test.YtfoodfhhdbaieaaDoorM9
namespace Go.Proofs.YtfoodfhhdbaieaaDoor.Giv
set_option maxRecDepth 100000
set_option linter.unusedVariables false
set_option linter.unusedSimpArgs false
open Go.RowKit Go.Shelf Go.Proofs.YtfoodfhhdbaieaaDoorW.PrintWords Go.Proofs.YtfoodfhhdbaieaaDoorW.PrintLast Go.Proofs.YtfoodfhhdbaieaaDoorW.PrintMore
open Go.Proofs.YtfoodfhhdbaieaaDoor.Ka (S40 k40 z40 rd_T40 at_T40 k40_open k40_mk rd_L1 at_L1 info3 info38 info40)
def ruleN (r : S40) : List Int := [[r.f0], r.f1, [r.f2], r.f3, r.f4].flatten
def ruleT (r : S40) : List UInt8 := [59, 32] ++ numsB (ruleN r)
def writeT (a0 a1 a2 : Int) (l : List S40) : List UInt8 := numsB [a0, a1, a2] ++ (l.map ruleT).flatten
theorem writeT_next {a0 a1 a2 : Int} {l : List S40} {i : Nat} (h : i < l.length) : writeT a0 a1 a2 (l.take (i + 1)) = writeT a0 a1 a2 (l.take i) ++ ruleT l[i] := by
 unfold writeT
 rw [List.take_succ_eq_append_getElem h, List.map_append, List.flatten_append, List.append_assoc]
 simp only [List.map_cons, List.map_nil, List.flatten_cons, List.flatten_nil, List.append_nil]
structure Neat (r : S40) : Prop where
 small : numLen (ruleN r)
 len : (ruleN r).length ≤ 20
 ne1 : r.f1 ≠ []
 ne3 : r.f3 ≠ []
 ne4 : r.f4 ≠ []
theorem writeT_len {a0 a1 a2 : Int} (h : numLen [a0, a1, a2]) : ∀ l : List S40, (∀ r ∈ l, Neat r) → (writeT a0 a1 a2 l).length ≤ 15 + 102 * l.length := by
 intro l
 induction l with
 | nil => intro _; have := numsB_len _ h; simpa [writeT] using this
 | cons r l ih =>
  intro hl
  have h1 := ih (fun q hq => hl q (List.mem_cons_of_mem _ hq))
  have h2 := numsB_len _ (hl r List.mem_cons_self).small
  have h3 := (hl r List.mem_cons_self).len
  simp only [writeT, List.length_append, List.map_cons, List.flatten_cons, ruleT, List.length_cons, List.length_nil] at h1 ⊢
  omega
theorem WrAt.drew {w wr : World} {l : List UInt8} (h : WrAt w wr l) : WrAt w wr.drew l := h.later (below_drew (Below.refl _ _))
theorem WrAt.lt {w wr : World} {l : List UInt8} (h : WrAt w wr l) : w.heap.size + 1 < wr.heap.size := by rcases h.isb with h | h <;> exact h.lt
theorem exec_build1 {o : Oper} {a : Act} {W : World} {s : Operand} {x : Int} (hop : o.op = Op.buildSlice 38 1 #[(0, s)]) (hs : a.eval s = .int .i64 x) : (execOp a.eval o).run Tryd.prog W = .ok (.value (.slice (some ⟨W.heap.size, 0, none⟩) 1 1)) (W.alloc (.cells #[.int .i64 x] 3)) := by
 obtain ⟨i, hi, hzz⟩ := Option.map_eq_some_iff.1 info3
 simp only [Prod.mk.injEq] at hzz
 obtain ⟨z1, z2, z3⟩ := hzz
 unfold execOp
 simp [hop, hs, Instr.buildSlice, run_underlying Tryd.underlying38, sizeOf, typeInfo, zeroValue, hi, z1, z2, Instr.fill, newRow, Builtin.zeroCells, Value.cells, Result.andThen]
 congr 2
 apply Array.ext'
 simp [List.range, List.range.loop]
theorem C_one {W : World} {g : Nat} {x : Int} {f : Nat × Nat} (h : W.heap[g]? = some (.cells #[.int .i64 x] 3 f)) : Kd.C (Kd.int .i64) W (some ⟨g, 0, none⟩) 1 [x] := by
 refine ⟨rfl, by decide, fun _ => ⟨_, rfl, fun j p hj => ?_⟩⟩
 match j, hj with
 | 0, hj =>
  injection hj with hj
  subst hj
  refine ⟨[.int .i64 x], rfl, rfl, fun i u hu => ?_⟩
  match i, hu with
  | 0, hu => injection hu with hu; subst hu; rw [show (⟨g, 0, none⟩ : Addr).add (0 * (Kd.int .i64).sz + 0) = ⟨g, 0, none⟩ by simp [Addr.add]]; rw [Lib.cell_of_heap h]; rfl
theorem C_five {W : World} {g : Nat} {f : Nat × Nat} {A0 A1 A2 A3 A4 : Option Addr} {l0 l1 l2 l3 l4 : List Int} {c0 c1 c2 c3 c4 : Nat} (h : W.heap[g]? = some (.cells #[.slice A0 l0.length c0, .slice A1 l1.length c1, .slice A2 l2.length c2, .slice A3 l3.length c3, .slice A4 l4.length c4] 38 f))
  (h0 : l0.length ≤ c0 ∧ Kd.C (Kd.int .i64) W A0 l0.length l0) (h1 : l1.length ≤ c1 ∧ Kd.C (Kd.int .i64) W A1 l1.length l1) (h2 : l2.length ≤ c2 ∧ Kd.C (Kd.int .i64) W A2 l2.length l2) (h3 : l3.length ≤ c3 ∧ Kd.C (Kd.int .i64) W A3 l3.length l3) (h4 : l4.length ≤ c4 ∧ Kd.C (Kd.int .i64) W A4 l4.length l4) :
  Kd.C (Kd.slice 3 (Kd.int .i64)) W (some ⟨g, 0, none⟩) [l0, l1, l2, l3, l4].length [l0, l1, l2, l3, l4] := by
 have key : ∀ j v, (#[Value.slice A0 l0.length c0, .slice A1 l1.length c1, .slice A2 l2.length c2, .slice A3 l3.length c3, .slice A4 l4.length c4] : Array Value)[j]? = some v → W.cell? ((⟨g, 0, none⟩ : Addr).add (j * 1 + 0)) = some v := by
  intro j v hv
  rw [show (⟨g, 0, none⟩ : Addr).add (j * 1 + 0) = ⟨g, j, none⟩ by unfold Addr.add; simp only [Nat.zero_add, Nat.mul_one, Nat.add_zero]; split <;> simp_all, Lib.cell_of_heap h]
  exact hv
 refine ⟨rfl, by simp, fun _ => ⟨_, rfl, fun j p hj => ?_⟩⟩
 have one : ∀ (v : Value), (#[Value.slice A0 l0.length c0, .slice A1 l1.length c1, .slice A2 l2.length c2, .slice A3 l3.length c3, .slice A4 l4.length c4] : Array Value)[j]? = some v → ∀ i u, [v][i]? = some u → W.cell? ((⟨g, 0, none⟩ : Addr).add (j * 1 + i)) = some u := by
  intro v hv i u hu
  match i, hu with
  | 0, hu => injection hu with hu; subst hu; exact key j v hv
 match j, hj with
 | 0, hj => injection hj with hj; subst hj; exact ⟨_, rfl, ⟨_, _, rfl, h0.1, h0.2⟩, one _ rfl⟩
 | 1, hj => injection hj with hj; subst hj; exact ⟨_, rfl, ⟨_, _, rfl, h1.1, h1.2⟩, one _ rfl⟩
 | 2, hj => injection hj with hj; subst hj; exact ⟨_, rfl, ⟨_, _, rfl, h2.1, h2.2⟩, one _ rfl⟩
 | 3, hj => injection hj with hj; subst hj; exact ⟨_, rfl, ⟨_, _, rfl, h3.1, h3.2⟩, one _ rfl⟩
 | 4, hj => injection hj with hj; subst hj; exact ⟨_, rfl, ⟨_, _, rfl, h4.1, h4.2⟩, one _ rfl⟩
theorem own_row {W : World} {base n : Nat} {v : Value} {l : List Int} (h : W.ownsRow base 3 1 v n (l.map (Value.int .i64))) (hn : n = l.length) (hl : l ≠ []) : ∃ g c, v = .slice (some ⟨g, 0, none⟩) l.length c ∧ base ≤ g ∧ RowAt W g l := by
 subst hn
 obtain ⟨_, h2 | ⟨g, cap, cur, rfl, hg, hh, h3, h4, h5, h6⟩⟩ := h
 ·exact absurd (List.eq_nil_of_length_eq_zero h2.2) hl
 ·refine ⟨g, cap, rfl, hg, cur, _, hh, fun j hj => ?_⟩
  have e : (cur.toList.take (l.length * 1))[j]? = some (.int .i64 l[j]) := by rw [h6]; simp [hj]
  rw [List.getElem?_take_of_lt (by omega)] at e
  simpa using e
theorem concat_rule {w w5 : World} {Y : List UInt8} {r : S40} {A1 A3 A4 : Option Addr} {c1 c3 c4 : Nat} (h : WrAt w w5 Y) (HR : Neat r) (H1 : r.f1.length ≤ c1 ∧ Kd.C (Kd.int .i64) w A1 r.f1.length r.f1) (H3 : r.f3.length ≤ c3 ∧ Kd.C (Kd.int .i64) w A3 r.f3.length r.f3) (H4 : r.f4.length ≤ c4 ∧ Kd.C (Kd.int .i64) w A4 r.f4.length r.f4) :
  Calls Tryd.prog 40 #[.slice (some ⟨w5.heap.size + 1 + 1, 0, none⟩) 5 5] (((w5.alloc (.cells #[.int .i64 r.f0] 3)).alloc (.cells #[.int .i64 r.f2] 3)).alloc (.cells #[.slice (some ⟨w5.heap.size, 0, none⟩) 1 1, .slice A1 r.f1.length c1, .slice (some ⟨w5.heap.size + 1, 0, none⟩) 1 1, .slice A3 r.f3.length c3, .slice A4 r.f4.length c4] 38)) fun e w6 =>
   ∃ g c, e = .returned (.slice (some ⟨g, 0, none⟩) (ruleN r).length c) ∧ g ≠ w.heap.size + 1 ∧ RowAt w6 g (ruleN r) ∧ WrAt w w6 Y := by
 obtain ⟨W1, hW1⟩ : ∃ W1, w5.alloc (.cells #[.int .i64 r.f0] 3) = W1 := ⟨_, rfl⟩
 have b1 : Below w5.heap.size w5 W1 := by rw [← hW1]; exact below_alloc (Below.refl _ _) _
 have n1 : W1.heap[w5.heap.size]? = some (.cells #[.int .i64 r.f0] 3 (0, 0)) := by rw [← hW1]; exact box_at _ _
 have s1 : W1.heap.size = w5.heap.size + 1 := by rw [← hW1]; simp
 rw [hW1]
 obtain ⟨W2, hW2⟩ : ∃ W2, W1.alloc (.cells #[.int .i64 r.f2] 3) = W2 := ⟨_, rfl⟩
 have b2 : Below W1.heap.size W1 W2 := by rw [← hW2]; exact below_alloc (Below.refl _ _) _
 have n2 : W2.heap[w5.heap.size + 1]? = some (.cells #[.int .i64 r.f2] 3 (0, 0)) := by rw [← hW2, ← s1]; exact box_at _ _
 have s2 : W2.heap.size = w5.heap.size + 1 + 1 := by rw [← hW2]; simp [s1]
 rw [hW2]
 obtain ⟨W3, hW3⟩ : ∃ W3, W2.alloc (.cells #[.slice (some ⟨w5.heap.size, 0, none⟩) 1 1, .slice A1 r.f1.length c1, .slice (some ⟨w5.heap.size + 1, 0, none⟩) 1 1, .slice A3 r.f3.length c3, .slice A4 r.f4.length c4] 38) = W3 := ⟨_, rfl⟩
 have b3 : Below W2.heap.size W2 W3 := by rw [← hW3]; exact below_alloc (Below.refl _ _) _
 have n3 : W3.heap[w5.heap.size + 1 + 1]? = some (.cells #[.slice (some ⟨w5.heap.size, 0, none⟩) 1 1, .slice A1 r.f1.length c1, .slice (some ⟨w5.heap.size + 1, 0, none⟩) 1 1, .slice A3 r.f3.length c3, .slice A4 r.f4.length c4] 38 (0, 0)) := by rw [← hW3, ← s2]; exact box_at _ _
 rw [hW3]
 have h3 := ((h.later b1).later b2).later b3
 have m1 : W3.heap[w5.heap.size]? = some (.cells #[.int .i64 r.f0] 3 (0, 0)) := (b3.block _ (by omega)).trans ((b2.block _ (by omega)).trans n1)
 have m2 : W3.heap[w5.heap.size + 1]? = some (.cells #[.int .i64 r.f2] 3 (0, 0)) := (b3.block _ (by omega)).trans n2
 have hC := C_five (l0 := [r.f0]) (l2 := [r.f2]) n3 ⟨Nat.le_refl _, C_one m1⟩ ⟨H1.1, Kd.C_below H1.2 h3.below⟩ ⟨Nat.le_refl _, C_one m2⟩ ⟨H3.1, Kd.C_below H3.2 h3.below⟩ ⟨H4.1, Kd.C_below H4.2 h3.below⟩
 refine (concat_calls (some ⟨w5.heap.size + 1 + 1, 0, none⟩) 5 [[r.f0], r.f1, [r.f2], r.f3, r.f4] W3 hC (by have := HR.len; unfold ruleN at this; omega) (by intro s hs; simp only [List.mem_cons, List.not_mem_nil, or_false] at hs; rcases hs with rfl | rfl | rfl | rfl | rfl <;> first | exact HR.ne1 | exact HR.ne3 | exact HR.ne4 | simp)).mono ?_
 rintro e w6 ⟨v6, rfl, ho6, hb6⟩
 obtain ⟨g6, c6, rfl, hg6, hr6⟩ := own_row (l := ruleN r) ho6 rfl (by unfold ruleN; simp)
 exact ⟨g6, c6, rfl, by have := h3.lt; omega, hr6, h3.later hb6⟩
theorem rd_T40_at (l : List S40) (i : Nat) (h : i < l.length) : rd_T40 l (i : Int) = l[i] := by
 simp [rd_T40, List.getD_eq_getElem?_getD, List.getElem?_eq_getElem h]
set_option maxHeartbeats 16000000 in
theorem write_calls (a0 a1 a2 : Int) (A : Option Addr) (c : Nat) (l : List S40) (w : World) (hr : Kd.C k40 w A l.length l) (hlay : Laid w) (hs : numLen [a0, a1, a2]) (hl : ∀ r ∈ l, Neat r) (hn : l.length ≤ 100000) :
  Calls Tryd.prog 25 #[.agg #[.int .i64 a0, .int .i64 a1, .int .i64 a2, .slice A l.length c]] w fun e w' => e = .returned (.string ⟨(writeT a0 a1 a2 l).toArray⟩) ∧ Below w.heap.size w w' := by
 have HC := Aside0.mk hr
 have HLAY := Aside0.mk hlay
 have HS := Aside0.mk hs
 have HN := Aside0.mk hl
 have HL3 := Aside0.mk hn
 have HWL : Aside0 (∀ i, (writeT a0 a1 a2 (l.take i)).length ≤ 10200015) := ⟨fun i => by
  have := writeT_len hs (l.take i) (fun o ho => hl o (List.mem_of_mem_take ho))
  have h2 := List.length_take_le' i l
  omega⟩
 clear hr hlay hs hl hn
 have eg : ∀ args w, (callFunc 36 args).run Tryd.prog w = .ok (.enter 36 args) w := enters_of Tryd.func36 (by kernel_rfl) rfl
 obtain ⟨w2, hw2⟩ : ∃ w2, ((w.alloc (.cells #[.int .i64 a0, .int .i64 a1, .int .i64 a2, .slice A l.length c] 24)).alloc (.cells #[.pointer none, .slice none 0 0] 76)) = w2 := ⟨_, rfl⟩
 have HW2 := Aside0.mk hw2
 have HN0 : Aside0 (WrAt w w2 []) := ⟨by rw [← hw2]; exact ⟨isB_new w _, by repeat (first | exact Below.refl _ _ | apply below_alloc)⟩⟩
 have hbx : w2.heap[w.heap.size]? = some (.cells #[.int .i64 a0, .int .i64 a1, .int .i64 a2, .slice A l.length c] 24 (0, 0)) := by
  rw [← hw2]
  have e1 := box_at w (.cells #[.int .i64 a0, .int .i64 a1, .int .i64 a2, .slice A l.length c] 24)
  exact ((below_alloc (Below.refl _ _) _).block _ (Array.getElem?_eq_some_iff.1 e1).1).trans e1
 have hsz : w2.heap.size = w.heap.size + 2 := by rw [← hw2]; simp
 have HSZ := Aside0.mk hsz
 have HBX := Aside0.mk hbx
 have hz0 : w2.cell? ⟨w.heap.size, 0, none⟩ = some (.int .i64 a0) := (blk_cell hbx 0).trans rfl
 have hz1 : w2.cell? ⟨w.heap.size, 1, none⟩ = some (.int .i64 a1) := (blk_cell hbx 1).trans rfl
 have hz2 : w2.cell? ⟨w.heap.size, 2, none⟩ = some (.int .i64 a2) := (blk_cell hbx 2).trans rfl
 clear hw2 hbx hsz
 go_enter Tryd.func25, Tryd.ntmps25
 go_wp2_with (go_at_fn 36; (rw [HW2.out]; refine (numbers_calls w (w2.alloc (.cells #[.int .i64 a0, .int .i64 a1, .int .i64 a2] 3)) [] (w.heap.size + 1 + 1) 3 [a0, a1, a2] HLAY.out (HN0.out.later (below_alloc (Below.refl _ _) _)) ⟨_, _, by rw [show w.heap.size + 1 + 1 = w2.heap.size by rw [HSZ.out]]; exact box_at _ _, by intro j h; match j, h with | 0, _ => rfl | 1, _ => rfl | 2, _ => rfl⟩ (by omega) HS.out (by simp) (by simp)).mono ?_; rintro e w3 ⟨rfl, hw3, hk3⟩; have HN3 : Aside0 (WrAt w w3 (writeT a0 a1 a2 (l.take 0))) := ⟨by simpa [writeT] using hw3⟩; have hbx3 : w3.heap[w.heap.size]? = some (.cells #[.int .i64 a0, .int .i64 a1, .int .i64 a2, .slice A l.length c] 24 (0, 0)) := hk3 _ _ _ _ (by omega) (((below_alloc (Below.refl _ _) _).block _ (by have := HSZ.out; omega)).trans HBX.out) (by decide); have hz3 : w3.cell? ⟨w.heap.size, 3, none⟩ = some (.slice A l.length c) := (blk_cell hbx3 3).trans rfl; clear hw3 hk3 hbx3))
 clear hz0 hz1 hz2 HN0 HW2 HBX HSZ
 go_loopg [20] l.length (fun gg s20 wr => ∃ i : Nat, s20 = .int .i64 (i : Int) ∧ Aside0 (i ≤ l.length) ∧ Aside0 (l.length - i = gg) ∧ Aside0 (WrAt w wr (writeT a0 a1 a2 (l.take i))))
 case atStart => exact ⟨0, rfl, ⟨by omega⟩, ⟨by omega⟩, HN3⟩
 case round =>
  clear HN3 hz3
  obtain ⟨i, rfl, HI, HG2, HAT⟩ := hrel
  by_cases cl : i < l.length
  ·have clb : decide ((i : Int) < (l.length : Int)) = true := decide_eq_true (by omega)
   obtain ⟨ad, A1, c1, A3, c3, A4, c4, e1, h0, h1, h2, h3, h4, k1, hC1, k3, hC3, k4, hC4⟩ := at_T40 HC.out (i : Int) (by omega) (by omega)
   replace h0 := pw_cell_below HAT.out.below h0
   replace h1 := pw_cell_below HAT.out.below h1
   replace h2 := pw_cell_below HAT.out.below h2
   replace h3 := pw_cell_below HAT.out.below h3
   replace h4 := pw_cell_below HAT.out.below h4
   rw [rd_T40_at l i cl] at h0 h1 h2 h3 h4 k1 hC1 k3 hC3 k4 hC4
   subst e1
   have p1 : (0 ≤ (i : Int)) = True := eq_true (by omega)
   have q1 : ((i : Int) < (l.length : Int)) = True := eq_true (by omega)
   rw [Int.toNat_natCast] at h0 h1 h2 h3 h4
   have HM := Aside0.mk (List.getElem_mem cl)
   have HNX := Aside0.mk (writeT_next (a0 := a0) (a1 := a1) (a2 := a2) cl)
   obtain ⟨r, hr⟩ : ∃ r, r = l[i] := ⟨_, rfl⟩
   rw [← hr] at h0 h1 h2 h3 h4 k1 hC1 k3 hC3 k4 hC4 HNX HM
   clear hr
   have HR := Aside0.mk (HN.out r HM.out)
   have CL := Aside0.mk cl
   clear cl
   have HC1 := Aside0.mk (And.intro k1 hC1)
   have HC3 := Aside0.mk (And.intro k3 hC3)
   have HC4 := Aside0.mk (And.intro k4 hC4)
   clear hC1 hC3 hC4 k1 k3 k4
   obtain ⟨X, hX⟩ : ∃ X, X = writeT a0 a1 a2 (l.take i) := ⟨_, rfl⟩
   have HXL : Aside0 (X.length ≤ 10200015) := ⟨by rw [hX]; exact HWL.out i⟩
   rw [← hX] at HAT HNX
   clear hX
   go_wp2_with (first
    | (go_at_call 38; refine (WrAt.write (HAT.out.later (below_alloc (Below.refl _ _) _)) ⟨#[59, 32]⟩ (by have := HXL.out; show X.length + 2 ≤ _; omega)).mono ?_; rintro e w5 ⟨rfl, hw5, hk5⟩; have HAW : Aside0 (WrAt w w5 (X ++ [59, 32])) := ⟨hw5⟩; have HBO : Aside0 (w5.heap[wr.heap.size]? = some (.cells #[.int .i64 r.f0, .slice A1 r.f1.length c1, .int .i64 r.f2, .slice A3 r.f3.length c3, .slice A4 r.f4.length c4] 40 (0, 0))) := ⟨hk5 _ _ _ _ (by have := HAT.out.lt; omega) (box_at _ _) (by decide)⟩; clear hw5 hk5; have o0 : w5.cell? ⟨wr.heap.size, 0, none⟩ = some (.int .i64 r.f0) := (blk_cell HBO.out 0).trans rfl; have o1 : w5.cell? ⟨wr.heap.size, 1, none⟩ = some (.slice A1 r.f1.length c1) := (blk_cell HBO.out 1).trans rfl; have o2 : w5.cell? ⟨wr.heap.size, 2, none⟩ = some (.int .i64 r.f2) := (blk_cell HBO.out 2).trans rfl; have o3 : w5.cell? ⟨wr.heap.size, 3, none⟩ = some (.slice A3 r.f3.length c3) := (blk_cell HBO.out 3).trans rfl; have o4 : w5.cell? ⟨wr.heap.size, 4, none⟩ = some (.slice A4 r.f4.length c4) := (blk_cell HBO.out 4).trans rfl; have hlt : wr.heap.size < w5.heap.size := (Array.getElem?_eq_some_iff.1 HBO.out).1; have hlt2 : wr.heap.size < w5.heap.size + 1 := by omega)
    | (go_at_call 40; refine (concat_rule HAW.out HR.out HC1.out HC3.out HC4.out).mono ?_; rintro e w6 ⟨g6, c6, rfl, hg6, hr6, hw6⟩; have HG6 := Aside0.mk hg6; have HR6 := Aside0.mk hr6; have HW6 := Aside0.mk hw6; clear hg6 hr6 hw6)
    | (go_at_fn 36; refine (numbers_calls w w6 (X ++ [59, 32]) g6 c6 (ruleN r) HLAY.out HW6.out HR6.out HG6.out HR.out.small (by have := HR.out.len; omega) (by have := HXL.out; rw [List.length_append]; simp; omega)).mono ?_; rintro e w7 ⟨rfl, hw7, _⟩; have HA7 : Aside0 (WrAt w w7 (X ++ ruleT r)) := ⟨by rw [ruleT, ← List.append_assoc]; exact hw7⟩; clear hw7))
   go_roundg (l.length - (i + 1))
   case measure => have := HG2.out; have := CL.out; omega
   case rel =>
    have := CL.out
    refine ⟨i + 1, ?_, ⟨by omega⟩, ⟨by omega⟩, ⟨by rw [HNX.out]; exact HA7.out⟩⟩
    rw [show wrap64 ((i : Int) + 1) = ((i + 1 : Nat) : Int) by have := HL3.out; unfold wrap64; omega]
  ·have clb : decide ((i : Int) < (l.length : Int)) = false := decide_eq_false (by omega)
   have clb2 : decide (i < l.length) = false := decide_eq_false cl
   have HFIN : Aside0 (writeT a0 a1 a2 (l.take i) = writeT a0 a1 a2 l) := ⟨by rw [List.take_of_length_le (by omega)]⟩
   clear cl
   go_wp2_with (go_at_call 41; (refine (Tryd.Builder_String_any w.heap.size (w.heap.size + 1) _ _ HAT.out.isb HAT.out.below.size).mono ?_; rintro e w2 ⟨rfl, hb⟩; have HB2 := Aside0.mk hb; clear hb))
   go_ret
   refine ⟨by rw [← HFIN.out]; simp [results, Tryd.results25, go_sem], ?_⟩
   have h2 := HB2.out
   have h1 := HAT.out.below
   exact ⟨h2.os.trans h1.os, h2.tape.trans h1.tape, h2.output.trans h1.output, Nat.le_trans h1.size h2.size, fun k hk => (h2.block k hk).trans (h1.block k hk)⟩
end Go.Proofs.YtfoodfhhdbaieaaDoor.Giv
