/- The law TapeRuns: for every input the function returns true, and its arguments read as before. No condition. -/
import Derived.Test.YtfoodfhhdbaieaaRows
import Derived.Test.YtfoodfhhdbaieaaT64
import Derived.Test.YtfoodfhhdbaieaaT30
import Derived.WalkKit
import Derived.ProofKit
import Derived.OpenShut
import Derived.ShutString
import Derived.ChangeOld
import Derived.Below
import Derived.SizedLaws
namespace Go.Proofs.Ytfoodfhhdbaieaa.tapeRuns
open Go.ChangeShapes Go.WideShapes Go.ChangeAt Go.RowKit Go.Proofs.YtfoodfhhdbaieaaW.PrintWords Go.Proofs.YtfoodfhhdbaieaaW.PrintLast Go.Proofs.YtfoodfhhdbaieaaW.PrintMore
set_option linter.unusedVariables false
theorem own : ownKnob Try.prog.godebug = none := by kernel_rfl
theorem laidOut : laidOutB Try.prog = true := by kernel_rfl
set_option maxRecDepth 100000 in
theorem lifted (os : Os) (started : os.Started) (H : Type) (enc : TypeId × Value → H) :
    ReturnsInHanded {} Try.checked os 3 .any (Rows.tapeRunsSpec.pre6 enc Try.prog Try.f3 Rows.tapeRunsRow.domain false) (Rows.tapeRunsSpec.post enc Try.prog Try.f3 false true false false) := by
  refine returnsInHanded_of_change_sized (C := Try.checked) own started (by kernel_rfl) Try.func3
    (ChangeSpec.witness6 (enc := enc) (C := Try.checked) false ⟨#[], #[.agg #[.int .i64 0, .int .i64 0, .int .i64 0, .slice none 0 0, .slice none 0 0], .int .i64 0], []⟩ 8 (by kernel_rfl) (by kernel_rfl) (by kernel_rfl) (by kernel_rfl)) ?_
  intro W base args ds gs before hval0 hW hcnd hsz0 _
  have hsz : (DataW.weightsEach Try.prog (Try.f3.params.toList ++ Rows.tapeRunsSpec.plain.varTypes Try.prog) (ds ++ gs)).all (· ≤ reachBytes) = true := hsz0
  have hval : ∀ (j : Nat) t v, Try.f3.params[j]? = some t → args[j]? = some v → Value.okWide Try.prog W .any base t v := hval0
  have hW' := hW
  obtain ⟨p, q, hA0, hV, rfl, hfz, hnd⟩ := hW
  have hA : DataW.TrodAll enc Try.prog W 0 (fun _ => true) true Try.f3.params.toList args.toList ds p := hA0
  rw [Try.params3] at hA hval hsz
  obtain ⟨v0, vs0, d0, ds0, p0, q0, hargs, rfl, rfl, h0, r0⟩ := trodAll_cons hA
  obtain ⟨v1, vs1, d1, ds1, p1, q1, rfl, rfl, rfl, h1, r1⟩ := trodAll_cons r0
  obtain ⟨rfl, rfl, rfl⟩ := trodAll_nil r1
  obtain rfl : args = #[v0, v1] := by cases args; simp_all
  obtain ⟨rfl, rfl⟩ := trodVars_none hV
  have k0 := h0
  have lt0 : ∀ x ∈ p0, x.block < W.heap.size := by obtain ⟨m, hm⟩ := k0; exact DataW.trod_lt m _ _ _ hm
  obtain ⟨a0, a1, a2, A, l, c, A5, inp, c5, e0, y1, y2, y3, y4, y5⟩ : ∃ a0 a1 a2 A l c A5 inp c5, v0 = .agg #[.int .i64 a0, .int .i64 a1, .int .i64 a2, .slice A (l : List Ka.S54).length c, .slice A5 (inp : List Int).length c5] ∧ l.length ≤ c ∧ Kd.C Ka.k54 W A l.length l ∧ inp.length ≤ c5 ∧ Kd.C (Kd.int .i64) W A5 inp.length inp ∧ ((∀ m ∈ d0.weights Try.prog 27, m ≤ reachBytes) → ∀ r ∈ l, Giv.Fits r) := by
    obtain ⟨fuel, hf⟩ := h0
    obtain ⟨a0, a1, a2, A, l, c, A5, inp, c5, e, z1, z2, z3, z4, z5⟩ := Giv.open_tape hf
    exact ⟨a0, a1, a2, A, l, c, A5, inp, c5, Giv.tape_value e, z1, z2, z3, z4, z5⟩
  subst e0
  have y6 := y5 (fun m hm => of_decide_eq_true (List.all_eq_true.1 hsz m (DataW.weights_mem_each (j := 0) (t := 27) (d := d0) rfl rfl m hm)))
  obtain ⟨most, rfl, rfl, rfl, w1⟩ := open_int Try.underlying3 (hval 1 3 v1 rfl rfl) h1
  clear hA0 hval0 hsz0 hsz
  refine (Giv.tapeRuns_walk a0 a1 a2 A c l A5 c5 inp most W y2 y1 y4 y3 y6).mono fun e W' hh => ?_
  obtain ⟨he, hd⟩ := hh
  subst he
  have bel : Below W.heap.size W W' := hd
  exact ⟨_, rfl, _, _, _, [], _, [], hW', trodAll_mk1 (shut_bool Try.underlying4 _), (trodAll_cons_mk (Below.trod laidOut (by kernel_rfl) (of_decide_eq_true (by kernel_rfl)) k0 bel lt0) (trodAll_cons_mk (shut_int Try.underlying3 w1) trodAll_mk0)), rfl, bel.frame _, fun h => by cases h⟩
theorem over : Rows.tapeRunsRow.holds Try.pinned (OpenSpec.ofChange Rows.tapeRunsSpec) :=
  OpenClaim.holds_of_wide 3 Try.f3 rfl rfl rfl rfl rfl rfl rfl ⟨rfl, rfl, rfl, rfl, rfl⟩ rfl rfl rfl rfl rfl (by kernel_rfl) Try.func3 (by kernel_rfl)
    (of_decide_eq_true (by kernel_rfl)) (by unfold Func.isWrapper; first | (rw [if_pos (by decide +kernel)]; kernel_rfl) | (rw [if_neg (by decide +kernel)]; exact ⟨rfl, rfl⟩))
    (fun os started H enc _ => lifted os started H enc)
theorem proved : Rows.TapeRunsSaid := over
#print axioms proved
end Go.Proofs.Ytfoodfhhdbaieaa.tapeRuns
namespace Go.Proofs.Ytfoodfhhdbaieaa
/-- The row, under a short name, for the claim. -/
theorem tapeRuns_holds : Rows.TapeRunsSaid := tapeRuns.proved
end Go.Proofs.Ytfoodfhhdbaieaa
