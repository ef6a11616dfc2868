/- The law TapeScenes: for every input the function returns true, and its arguments read as before. No condition. -/
import Derived.Test.YtfoodfhhdbaieaaRows
import Derived.Test.YtfoodfhhdbaieaaT56
import Derived.Test.YtfoodfhhdbaieaaT60
import Derived.WalkKit
import Derived.ProofKit
import Derived.OpenShut
import Derived.ShutString
import Derived.ChangeOld
import Derived.Below
import Derived.SizedLaws
namespace Go.Proofs.Ytfoodfhhdbaieaa.tapeScenes
open Go.ChangeShapes Go.WideShapes Go.ChangeAt Go.RowKit Go.Proofs.YtfoodfhhdbaieaaW.PrintWords Go.Proofs.YtfoodfhhdbaieaaW.PrintLast Go.Proofs.YtfoodfhhdbaieaaW.PrintMore
set_option linter.unusedVariables false
theorem own : ownKnob Try.prog.godebug = none := by kernel_rfl
theorem laidOut : laidOutB Try.prog = true := by kernel_rfl
set_option maxRecDepth 100000 in
theorem lifted (os : Os) (started : os.Started) (H : Type) (enc : TypeId × Value → H) :
    ReturnsInHanded {} Try.checked os 6 .any (Rows.tapeScenesSpec.pre6 enc Try.prog Try.f6 Rows.tapeScenesRow.domain false) (Rows.tapeScenesSpec.post enc Try.prog Try.f6 false true false false) := by
  refine returnsInHanded_of_change_sized (C := Try.checked) own started (by kernel_rfl) Try.func6
    (ChangeSpec.witness6 (enc := enc) (C := Try.checked) false ⟨#[], #[.agg #[.int .i64 0, .int .i64 0, .int .i64 0, .slice none 0 0], .agg #[.int .i64 0, .slice none 0 0, .slice none 0 0]], []⟩ 6 (by kernel_rfl) (by kernel_rfl) (by kernel_rfl) (by kernel_rfl)) ?_
  intro W base args ds gs before hval0 hW hcnd hsz0 _
  have hsz : (DataW.weightsEach Try.prog (Try.f6.params.toList ++ Rows.tapeScenesSpec.plain.varTypes Try.prog) (ds ++ gs)).all (· ≤ reachBytes) = true := hsz0
  have hval : ∀ (j : Nat) t v, Try.f6.params[j]? = some t → args[j]? = some v → Value.okWide Try.prog W .any base t v := hval0
  have hW' := hW
  obtain ⟨p, q, hA0, hV, rfl, hfz, hnd⟩ := hW
  have hA : DataW.TrodAll enc Try.prog W 0 (fun _ => true) true Try.f6.params.toList args.toList ds p := hA0
  rw [Try.params6] at hA hval hsz
  obtain ⟨v0, vs0, d0, ds0, p0, q0, hargs, rfl, rfl, h0, r0⟩ := trodAll_cons hA
  obtain ⟨v1, vs1, d1, ds1, p1, q1, rfl, rfl, rfl, h1, r1⟩ := trodAll_cons r0
  obtain ⟨rfl, rfl, rfl⟩ := trodAll_nil r1
  obtain rfl : args = #[v0, v1] := by cases args; simp_all
  obtain ⟨rfl, rfl⟩ := trodVars_none hV
  have k0 := h0
  have k1 := h1
  have lt0 : ∀ x ∈ p0, x.block < W.heap.size := by obtain ⟨m, hm⟩ := k0; exact DataW.trod_lt m _ _ _ hm
  have lt1 : ∀ x ∈ p1, x.block < W.heap.size := by obtain ⟨m, hm⟩ := k1; exact DataW.trod_lt m _ _ _ hm
  obtain ⟨a0, a1, a2, A, l, c, e0, y1, y2, y5⟩ : ∃ a0 a1 a2 A l c, v0 = .agg #[.int .i64 a0, .int .i64 a1, .int .i64 a2, .slice A (l : List Ka.S54).length c] ∧ l.length ≤ c ∧ Kd.C Ka.k54 W A l.length l ∧ ((∀ m ∈ d0.weights Try.prog 24, m ≤ reachBytes) → ∀ r ∈ l, Giv.Fits r) := by
    obtain ⟨fuel, hf⟩ := h0
    obtain ⟨a0, a1, a2, A, l, c, e, z1, z2, z5⟩ := Giv.open_machine hf
    exact ⟨a0, a1, a2, A, l, c, Giv.machine_value e, z1, z2, z5⟩
  subst e0
  have y6 := y5 (fun m hm => of_decide_eq_true (List.all_eq_true.1 hsz m (DataW.weights_mem_each (j := 0) (t := 24) (d := d0) rfl rfl m hm)))
  obtain ⟨s, A1, at_, c1, A2, tp, c2, e1, x1, x2, x3, x4, x5⟩ : ∃ s A1 at_ c1 A2 tp c2, v1 = .agg #[.int .i64 s, .slice A1 (at_ : List Int).length c1, .slice A2 (tp : List (List Int)).length c2] ∧ at_.length ≤ c1 ∧ Kd.C (Kd.int .i64) W A1 at_.length at_ ∧ tp.length ≤ c2 ∧ Kd.C (Kd.slice 3 (Kd.int .i64)) W A2 tp.length tp ∧ ((∀ m ∈ d1.weights Try.prog 32, m ≤ reachBytes) → Giv.FitsS at_ tp) := by
    obtain ⟨fuel, hf⟩ := h1
    obtain ⟨s, A1, at_, c1, A2, tp, c2, e, z1, z2, z3, z4, z5⟩ := Giv.open_scene hf
    exact ⟨s, A1, at_, c1, A2, tp, c2, Giv.scene_value e, z1, z2, z3, z4, z5⟩
  subst e1
  have x6 := x5 (fun m hm => of_decide_eq_true (List.all_eq_true.1 hsz m (DataW.weights_mem_each (j := 1) (t := 32) (d := d1) rfl rfl m hm)))
  clear hA0 hval0 hsz0 hsz
  refine (Giv.tapeScenes_walk a0 a1 a2 A c l s A1 c1 at_ A2 c2 tp W y2 y1 x2 x1 x4 x3 y6 x6).mono fun e W' hh => ?_
  obtain ⟨he, hd⟩ := hh
  subst he
  have bel : Below W.heap.size W W' := hd
  exact ⟨_, rfl, _, _, _, [], _, [], hW', trodAll_mk1 (shut_bool Try.underlying4 _), (trodAll_cons_mk (Below.trod laidOut (by kernel_rfl) (of_decide_eq_true (by kernel_rfl)) k0 bel lt0) (trodAll_cons_mk (Below.trod laidOut (by kernel_rfl) (of_decide_eq_true (by kernel_rfl)) k1 bel lt1) trodAll_mk0)), rfl, bel.frame _, fun h => by cases h⟩
theorem over : Rows.tapeScenesRow.holds Try.pinned (OpenSpec.ofChange Rows.tapeScenesSpec) :=
  OpenClaim.holds_of_wide 6 Try.f6 rfl rfl rfl rfl rfl rfl rfl ⟨rfl, rfl, rfl, rfl, rfl⟩ rfl rfl rfl rfl rfl (by kernel_rfl) Try.func6 (by kernel_rfl)
    (of_decide_eq_true (by kernel_rfl)) (by unfold Func.isWrapper; first | (rw [if_pos (by decide +kernel)]; kernel_rfl) | (rw [if_neg (by decide +kernel)]; exact ⟨rfl, rfl⟩))
    (fun os started H enc _ => lifted os started H enc)
theorem proved : Rows.TapeScenesSaid := over
#print axioms proved
end Go.Proofs.Ytfoodfhhdbaieaa.tapeScenes
namespace Go.Proofs.Ytfoodfhhdbaieaa
/-- The row, under a short name, for the claim. -/
theorem tapeScenes_holds : Rows.TapeScenesSaid := tapeScenes.proved
end Go.Proofs.Ytfoodfhhdbaieaa
