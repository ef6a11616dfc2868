/- The law TapeOrder: for every input the function returns true, and its arguments read as before. No condition. -/
import Derived.Test.YtfoodfhhdbaieaaRows
import Derived.Test.YtfoodfhhdbaieaaT35
import Derived.Test.YtfoodfhhdbaieaaT30
import Derived.WalkKit
import Derived.ProofKit
import Derived.OpenShut
import Derived.ShutString
import Derived.ChangeOld
import Derived.Below
import Derived.SizedLaws
namespace Go.Proofs.Ytfoodfhhdbaieaa.Giv
open Go.ChangeShapes Go.WideShapes
theorem open_pair {H : Type} {enc : TypeId × Value → H} {W : World} {base : Nat} {held : Bool} {fuel : Nat} {cs : List Value} {x : DataW H × List MemPlace} (h : DataW.trod enc Try.prog W base (fun _ => true) held fuel 52 cs = some x) :
    ∃ t0 t1, cs = [.int .i64 t0, .int .i64 t1] := by
  obtain ⟨xs, m, _, rfl, hl, hlen, hf⟩ := DataW.trod_array Try.underlying52 h
  rw [show Try.prog.cellsOf 52 = 2 by kernel_rfl] at hl
  match cs, hl with
  | [c0, c1], _ =>
    match xs, hlen with
    | [y0, y1], _ =>
      have h0 := hf 0 (by decide)
      have h1 := hf 1 (by decide)
      simp only [cellsO3, List.drop_zero, List.drop_succ_cons, List.take_succ_cons, List.take_zero, List.getElem?_cons_zero, List.getElem?_cons_succ, Nat.zero_mul, Nat.one_mul] at h0 h1
      obtain ⟨n0, e0, _⟩ := DataW.trod_int Try.underlying3 h0
      obtain ⟨n1, e1, _⟩ := DataW.trod_int Try.underlying3 h1
      injection e0 with e0 _
      injection e1 with e1 _
      subst e0; subst e1
      exact ⟨n0, n1, rfl⟩
theorem pair_value {v : Value} {a b : Value} (h : v.cells.toList = [a, b]) : v = .agg #[a, b] := by
  cases v
  case agg cs => simp [Value.cells] at h; exact congrArg Value.agg (Array.toList_inj.1 h)
  all_goals simp [Value.cells] at h
end Go.Proofs.Ytfoodfhhdbaieaa.Giv
namespace Go.Proofs.Ytfoodfhhdbaieaa.tapeOrder
open Go.ChangeShapes Go.WideShapes Go.ChangeAt Go.RowKit Go.Proofs.YtfoodfhhdbaieaaW.PrintWords Go.Proofs.YtfoodfhhdbaieaaW.PrintLast Go.Proofs.YtfoodfhhdbaieaaW.PrintMore
set_option linter.unusedVariables false
theorem own : ownKnob Try.prog.godebug = none := by kernel_rfl
theorem laidOut : laidOutB Try.prog = true := by kernel_rfl
set_option maxRecDepth 100000 in
theorem lifted (os : Os) (started : os.Started) (H : Type) (enc : TypeId × Value → H) :
    ReturnsInHanded {} Try.checked os 5 .any (Rows.tapeOrderSpec.pre6 enc Try.prog Try.f5 Rows.tapeOrderRow.domain false) (Rows.tapeOrderSpec.post enc Try.prog Try.f5 false true false false) := by
  refine returnsInHanded_of_change_sized (C := Try.checked) own started (by kernel_rfl) Try.func5
    (ChangeSpec.witness6 (enc := enc) (C := Try.checked) false ⟨#[], #[.agg #[.int .i64 0, .int .i64 0, .int .i64 0, .slice none 0 0, .slice none 0 0], .int .i64 0, .agg #[.int .i64 0, .int .i64 0]], []⟩ 8 (by kernel_rfl) (by kernel_rfl) (by kernel_rfl) (by kernel_rfl)) ?_
  intro W base args ds gs before hval0 hW hcnd hsz0 _
  have hsz : (DataW.weightsEach Try.prog (Try.f5.params.toList ++ Rows.tapeOrderSpec.plain.varTypes Try.prog) (ds ++ gs)).all (· ≤ reachBytes) = true := hsz0
  have hval : ∀ (j : Nat) t v, Try.f5.params[j]? = some t → args[j]? = some v → Value.okWide Try.prog W .any base t v := hval0
  have hW' := hW
  obtain ⟨p, q, hA0, hV, rfl, hfz, hnd⟩ := hW
  have hA : DataW.TrodAll enc Try.prog W 0 (fun _ => true) true Try.f5.params.toList args.toList ds p := hA0
  rw [Try.params5] at hA hval hsz
  obtain ⟨v0, vs0, d0, ds0, p0, q0, hargs, rfl, rfl, h0, r0⟩ := trodAll_cons hA
  obtain ⟨v1, vs1, d1, ds1, p1, q1, rfl, rfl, rfl, h1, r1⟩ := trodAll_cons r0
  obtain ⟨v2, vs2, d2, ds2, p2, q2, rfl, rfl, rfl, h2, r2⟩ := trodAll_cons r1
  obtain ⟨rfl, rfl, rfl⟩ := trodAll_nil r2
  obtain rfl : args = #[v0, v1, v2] := by cases args; simp_all
  obtain ⟨rfl, rfl⟩ := trodVars_none hV
  have k0 := h0
  have k2 := h2
  have lt2 : ∀ x ∈ p2, x.block < W.heap.size := by obtain ⟨m, hm⟩ := k2; exact DataW.trod_lt m _ _ _ hm
  have lt0 : ∀ x ∈ p0, x.block < W.heap.size := by obtain ⟨m, hm⟩ := k0; exact DataW.trod_lt m _ _ _ hm
  obtain ⟨a0, a1, a2, A, l, c, A5, inp, c5, e0, y1, y2, y3, y4, y5⟩ : ∃ a0 a1 a2 A l c A5 inp c5, v0 = .agg #[.int .i64 a0, .int .i64 a1, .int .i64 a2, .slice A (l : List Ka.S54).length c, .slice A5 (inp : List Int).length c5] ∧ l.length ≤ c ∧ Kd.C Ka.k54 W A l.length l ∧ inp.length ≤ c5 ∧ Kd.C (Kd.int .i64) W A5 inp.length inp ∧ ((∀ m ∈ d0.weights Try.prog 27, m ≤ reachBytes) → ∀ r ∈ l, Giv.Fits r) := by
    obtain ⟨fuel, hf⟩ := h0
    obtain ⟨a0, a1, a2, A, l, c, A5, inp, c5, e, z1, z2, z3, z4, z5⟩ := Giv.open_tape hf
    exact ⟨a0, a1, a2, A, l, c, A5, inp, c5, Giv.tape_value e, z1, z2, z3, z4, z5⟩
  subst e0
  have y6 := y5 (fun m hm => of_decide_eq_true (List.all_eq_true.1 hsz m (DataW.weights_mem_each (j := 0) (t := 27) (d := d0) rfl rfl m hm)))
  obtain ⟨most, rfl, rfl, rfl, w1⟩ := open_int Try.underlying3 (hval 1 3 v1 rfl rfl) h1
  obtain ⟨t0, t1, e2⟩ : ∃ t0 t1, v2 = .agg #[.int .i64 t0, .int .i64 t1] := by
    obtain ⟨fuel, hf⟩ := h2
    obtain ⟨t0, t1, e⟩ := Giv.open_pair hf
    exact ⟨t0, t1, Giv.pair_value e⟩
  subst e2
  clear hA0 hval0 hsz0 hsz
  refine (Giv.tapeOrder_walk a0 a1 a2 A c l A5 c5 inp most t0 t1 W y2 y1 y4 y3 y6).mono fun e W' hh => ?_
  obtain ⟨he, hd⟩ := hh
  subst he
  have bel : Below W.heap.size W W' := hd
  exact ⟨_, rfl, _, _, _, [], _, [], hW', trodAll_mk1 (shut_bool Try.underlying4 _), (trodAll_cons_mk (Below.trod laidOut (by kernel_rfl) (of_decide_eq_true (by kernel_rfl)) k0 bel lt0) (trodAll_cons_mk (shut_int Try.underlying3 w1) (trodAll_cons_mk (Below.trod laidOut (by kernel_rfl) (of_decide_eq_true (by kernel_rfl)) k2 bel lt2) trodAll_mk0))), rfl, bel.frame _, fun h => by cases h⟩
theorem over : Rows.tapeOrderRow.holds Try.pinned (OpenSpec.ofChange Rows.tapeOrderSpec) :=
  OpenClaim.holds_of_wide 5 Try.f5 rfl rfl rfl rfl rfl rfl rfl ⟨rfl, rfl, rfl, rfl, rfl⟩ rfl rfl rfl rfl rfl (by kernel_rfl) Try.func5 (by kernel_rfl)
    (of_decide_eq_true (by kernel_rfl)) (by unfold Func.isWrapper; first | (rw [if_pos (by decide +kernel)]; kernel_rfl) | (rw [if_neg (by decide +kernel)]; exact ⟨rfl, rfl⟩))
    (fun os started H enc _ => lifted os started H enc)
theorem proved : Rows.TapeOrderSaid := over
#print axioms proved
end Go.Proofs.Ytfoodfhhdbaieaa.tapeOrder
namespace Go.Proofs.Ytfoodfhhdbaieaa
/-- The row, under a short name, for the claim. -/
theorem tapeOrder_holds : Rows.TapeOrderSaid := tapeOrder.proved
end Go.Proofs.Ytfoodfhhdbaieaa
