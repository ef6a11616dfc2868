/- The law TapeBack: for every input the function returns true, and its arguments read as before; the condition: the package-level variables of the library that the row lists hold what start-up lays. -/
import Derived.Test.YtfoodfhhdbaieaaDoorRows
import Derived.Test.YtfoodfhhdbaieaaDoorM40
import Derived.Test.YtfoodfhhdbaieaaDoorM41
import Derived.Test.YtfoodfhhdbaieaaDoorTie
import Derived.Test.YtfoodfhhdbaieaaDoorCards
import Derived.Test.YtfoodfhhdbaieaaDoorWAll
import Derived.LaidMore
import Derived.Lay
import Derived.Stop.Joined
import Derived.SevenTiedAt
import Derived.WalkKit
import Derived.ProofKit
import Derived.OpenShut
import Derived.ShutString
import Derived.ChangeOld
import Derived.Below
import Derived.SizedLaws
namespace Go.Proofs.YtfoodfhhdbaieaaDoor.tapeBack
open Go.ChangeShapes Go.WideShapes Go.ChangeAt Go.RowKit Go.Proofs.YtfoodfhhdbaieaaDoorW.PrintWords Go.Proofs.YtfoodfhhdbaieaaDoorW.PrintLast Go.Proofs.YtfoodfhhdbaieaaDoorW.PrintMore
open Go.ChangeMaps (open_string shut_string)
open Go.Proofs.YtfoodfhhdbaieaaDoor.Ka (S40 k40)
set_option linter.unusedVariables false
theorem own : ownKnob Tryd.prog.godebug = none := by kernel_rfl
theorem laidOut : laidOutB Tryd.prog = true := by kernel_rfl
set_option maxHeartbeats 2000000 in
set_option maxRecDepth 100000 in
theorem lifted (os : Os) (started : os.Started) (H : Type) (enc : TypeId × Value → H) :
  ReturnsInHanded {} Tryd.checked os 5 .any (fun w args => (Rows.tapeBackSpec.pre enc Tryd.prog Tryd.f5 [] false w args ∧ laidMetH Tryd.prog Rows.tapeBackRow.laid w) ∧ sizedMet enc Tryd.prog Tryd.f5 (OpenSpec.ofChange Rows.tapeBackSpec) false w args) (Rows.tapeBackSpec.post enc Tryd.prog Tryd.f5 false true false false) := by
 refine Giv.handed_laid_shaped (C := Tryd.checked) (X := fun w _ => laidMetH Tryd.prog Rows.tapeBackRow.laid w) (fun _ _ _ hh h => h.of_heap hh) own started (by kernel_rfl) Tryd.func5
  (ChangeSpec.witness_shaped (enc := enc) (C := Tryd.checked) (os := os) (X := fun w _ => laidMetH Tryd.prog Rows.tapeBackRow.laid w) false (World.laidAll Tryd.prog os Rows.tapeBackRow.laid) #[.agg #[.int .i64 0, .int .i64 0, .int .i64 0, .slice none 0 0]] 8 (World.laidAll_os _ _ _) (World.shaped_of_ZipB (by kernel_rfl) (by kernel_rfl)) (by kernel_rfl) (by kernel_rfl) (by kernel_rfl) (by rw [MakeChecks.laidMetH_plain _ _ _ (by kernel_rfl)]; exact laidMet_laidAll _ (by kernel_rfl) (by kernel_rfl))) ?_
 intro W base args ds gs before hval0 hW hcnd hsz0 hL hsh _
 have hsz : (DataW.weightsEach Tryd.prog (Tryd.f5.params.toList ++ Rows.tapeBackSpec.plain.varTypes Tryd.prog) (ds ++ gs)).all (· ≤ reachBytes) = true := hsz0
 have hval : ∀ (j : Nat) t v, Tryd.f5.params[j]? = some t → args[j]? = some v → Value.okWide Tryd.prog W .any base t v := hval0
 have HL := Giv.laid_back hL hsh
 have hW' := hW
 obtain ⟨p, q, hA0, hV, rfl, hfz, hnd⟩ := hW
 have hA : DataW.TrodAll enc Tryd.prog W 0 (fun _ => true) true Tryd.f5.params.toList args.toList ds p := hA0
 rw [Tryd.params5] at hA hval hsz
 obtain ⟨v0, vs0, d0, ds0, p0, q0, hargs, rfl, rfl, h0, r0⟩ := trodAll_cons hA
 obtain ⟨rfl, rfl, rfl⟩ := trodAll_nil r0
 obtain rfl : args = #[v0] := by cases args; simp_all
 obtain ⟨rfl, rfl⟩ := trodVars_none hV
 have k0 := h0
 have lt0 : ∀ x ∈ p0, x.block < W.heap.size := by obtain ⟨m, hm⟩ := k0; exact DataW.trod_lt m _ _ _ hm
 obtain ⟨a0, a1, a2, A, l, c, e0, y1, y2, y5⟩ : ∃ a0 a1 a2 A l c, v0 = .agg #[.int .i64 a0, .int .i64 a1, .int .i64 a2, .slice A (l : List S40).length c] ∧ l.length ≤ c ∧ Kd.C k40 W A l.length l ∧ ((∀ m ∈ d0.weights Tryd.prog 24, m ≤ reachBytes) → ∀ r ∈ l, Giv.Fits r) := by
  obtain ⟨fuel, hf⟩ := h0
  obtain ⟨a0, a1, a2, A, l, c, e, z1, z2, z5⟩ := Giv.open_machine hf
  exact ⟨a0, a1, a2, A, l, c, Giv.machine_value e, z1, z2, z5⟩
 subst e0
 have y6 := y5 (fun m hm => of_decide_eq_true (List.all_eq_true.1 hsz m (DataW.weights_mem_each (j := 0) (t := 24) (d := d0) rfl rfl m hm)))
 clear hA0 hval0 hsz0 hsz
 refine (Giv.tapeBack_walk a0 a1 a2 A c l W y2 y1 HL y6).mono fun e W' hh => ?_
 obtain ⟨he, hd⟩ := hh
 subst he
 have bel : Below W.heap.size W W' := hd
 exact ⟨_, rfl, _, _, _, [], _, [], hW', trodAll_mk1 (shut_bool Tryd.underlying4 _), (trodAll_cons_mk (Below.trod laidOut (by kernel_rfl) (of_decide_eq_true (by kernel_rfl)) k0 bel lt0) trodAll_mk0), rfl, bel.frame _, fun h => by cases h⟩
theorem over : Rows.tapeBackRow.holds Tryd.pinned (OpenSpec.ofChange Rows.tapeBackSpec) :=
 OpenClaim.holds_of_wide 5 Tryd.f5 rfl rfl rfl rfl rfl rfl rfl ⟨rfl, rfl, rfl, rfl, rfl⟩ rfl rfl rfl rfl rfl (by kernel_rfl) Tryd.func5 (by kernel_rfl)
  (of_decide_eq_true (by kernel_rfl)) (by unfold Func.isWrapper; first | (rw [if_pos (by decide +kernel)]; kernel_rfl) | (rw [if_neg (by decide +kernel)]; exact ⟨rfl, rfl⟩))
  (fun os started H enc _ => lifted os started H enc)
theorem params_ : Tryd.f5.params.toList.all (fun t => Tryd.prog.wantsStandIn t == false) = true := by kernel_rfl
theorem proved : Rows.TapeBackCardSaid :=
 Claim7.holds_tied_plain_at .later [] [.data, .data, .data, .data, .sentinel, .sentinel, .pinned] true (true, "a9a551b271b08c1c31194dc76c7e7bafe2ea0ab026c079561e882d78ad01f025") true
  over (fun _ h => by cases h) (by kernel_rfl) (fun _ h => by cases h) tapeBack_row_tie rfl ⟨rfl, rfl⟩ (by kernel_rfl) rfl
  (fun f fn hf hfn => by
   obtain rfl : f = 5 := Option.some.inj ((show Tryd.prog.funcNamed "commodatum/commodatumlaw20.TapeBack" = some 5 by kernel_rfl).symm.trans hf) |>.symm
   obtain rfl : fn = Tryd.f5 := (Option.some.inj (Tryd.func5.symm.trans hfn)).symm
   exact ⟨by kernel_rfl, fun j t ht => by
    have hm : t ∈ Tryd.f5.params.toList := by
     rw [Array.mem_toList_iff]; exact Array.mem_of_getElem? ht
    exact beq_iff_eq.1 (List.all_eq_true.1 params_ t hm)⟩)
  (by kernel_rfl)
#print axioms proved
end Go.Proofs.YtfoodfhhdbaieaaDoor.tapeBack
namespace Go.Proofs.YtfoodfhhdbaieaaDoor
theorem tapeBack_holds : Rows.TapeBackCardSaid := tapeBack.proved
end Go.Proofs.YtfoodfhhdbaieaaDoor
