-- CUT by a program of this session: what the claim does not use is left out
import Derived.Test.YthfhnkpipdbekaaDoorQ6
import Derived.Test.YthfhnkpipdbekaaDoorTfx1
namespace Go.Proofs.YthfhnkpipdbekaaDoor.Pure
set_option linter.unusedVariables false
set_option linter.unusedSimpArgs false
open Go.RowKit Go.Proofs.YthfhnkpipdbekaaDoorW.PrintWords Go.Proofs.YthfhnkpipdbekaaDoorW.PrintLast Go.Proofs.YthfhnkpipdbekaaDoorW.PrintMore
open Ua Ta Giv Tb Tf
theorem forms_j0 (n : Int) (l : List S67) (hl : l.length ≤ 20000) {ok : Bool} {want : ByteArray} {due : Int} (h1 : validB n l = ok) (h2 : undo_Text.f n l = some (want, due)) : Ev (fun k => commodatumlaw12_UndoForms.j0 k ok want due n l) true := by
 refine Ev1 awake_bind fun k => ?_
 simp only [commodatumlaw12_UndoForms.j0]
 rw [copy_f n l (by omega)]
 simp only [Option.bind_some]
 rw [h2]
 unfold undo_Valid.f
 rw [h1]
 simp only [Option.bind_some]
 rw [if_pos (by simp), if_pos trivial, if_pos trivial]
theorem pure_UndoForms (n : Int) (l : List S67) (h : l.length ≤ maxLen) : ∃ k, commodatumlaw12_UndoForms.f k n l = some true := by
 have key : Ev (fun k => commodatumlaw12_UndoForms.f k n l) true := by
  unfold commodatumlaw12_UndoForms.f commodatumlaw12_Wide.f
  simp only [Option.bind_some]
  by_cases hw : (l.length : Int) > 20000
  ·exact EvC awake_bind fun k => by rw [decide_eq_true hw]; rfl
  ·have hd : decide ((l.length : Int) > 20000) = false := decide_eq_false hw
   have key2 : Ev (fun k => (commodatumref12_Valid.f k n l).bind fun t107 => (if t107 = true then ((commodatumref12_Text.f n l).bind fun t108 => (if (t108.size : Int) > 40000 then (commodatumlaw12_UndoForms.j0 k t107 (⟨#[]⟩ : ByteArray) 5 n l) else (commodatumlaw12_UndoForms.j0 k t107 t108 0 n l))) else (commodatumlaw12_UndoForms.j0 k t107 (⟨#[]⟩ : ByteArray) 1 n l))) true := by
    refine Ev.bind (refValid_ev n l) ?_
    cases hv : validB n l with
    | false =>
     exact EvC (forms_j0 n l (by omega) hv (want := ⟨#[]⟩) (due := 1) (by unfold undo_Text.f undo_Valid.f; simp only [Option.bind_some]; rw [hv]; rfl)) fun k => if_neg (by simp)
    | true =>
     have hT : commodatumref12_Text.f n l = some ⟨(writeB n l).toArray⟩ := by unfold commodatumref12_Text.f; rw [if_pos hv]
     have hW : undo_write.f n l = some ⟨(writeB n l).toArray⟩ := by unfold undo_write.f; rw [if_pos hv]
     obtain ⟨S, hS⟩ : ∃ S : ByteArray, S = ⟨(writeB n l).toArray⟩ := ⟨_, rfl⟩
     rw [← hS] at hT hW
     clear hS
     by_cases c : (S.size : Int) > 40000
     ·refine EvC (forms_j0 n l (by omega) hv (want := ⟨#[]⟩) (due := 5) (by unfold undo_Text.f undo_Valid.f; simp only [Option.bind_some]; rw [if_pos hv, hW]; simp only [Option.bind_some]; rw [if_pos c])) fun k => ?_
      rw [if_pos rfl, hT]
      simp only [Option.bind_some]
      rw [if_pos c]
     ·refine EvC (forms_j0 n l (by omega) hv (want := S) (due := 0) (by unfold undo_Text.f undo_Valid.f; simp only [Option.bind_some]; rw [if_pos hv, hW]; simp only [Option.bind_some]; rw [if_neg c])) fun k => ?_
      rw [if_pos rfl, hT]
      simp only [Option.bind_some]
      rw [if_neg c]
   exact EvC key2 fun k => by rw [hd]; rfl
 exact key.elim fun k hk => ⟨k, hk k (Nat.le_refl _)⟩
end Go.Proofs.YthfhnkpipdbekaaDoor.Pure
