-- CUT by a program of this session: what the claim does not use is left out
import Derived.Test.YthfhnkpipdbekaaDoorN11
namespace Go.Proofs.YthfhnkpipdbekaaDoor.Giv
set_option linter.unusedVariables false
set_option linter.unusedSimpArgs false
open Go.RowKit Go.Shelf Go.Proofs.YthfhnkpipdbekaaDoorW.PrintWords Go.Proofs.YthfhnkpipdbekaaDoorW.PrintLast Go.Proofs.YthfhnkpipdbekaaDoorW.PrintMore
open Go.Proofs.YthfhnkpipdbekaaDoor.Ua (S67 k67 z67 rd_T67 at_T67)
open Go.Proofs.YthfhnkpipdbekaaDoor.Ui (bits_Input.f bits_Input.mono slices_Equal_bool_bool.f slices_Equal_bool_bool.mono)
theorem undo_Clean.mono_l : ∀ k, ∀ y0 y1 y2 y3 y4 y5, LeO (undo_Clean.l0 k y0 y1 y2 y3 y4 y5) (undo_Clean.l0 (k + 1) y0 y1 y2 y3 y4 y5)
 | 0 => fun _ _ _ _ _ _ r h => by simp [undo_Clean.l0] at h
 | k + 1 => by
  have ih0 := undo_Clean.mono_l k
  intro y0 y1 y2 y3 y4 y5
  unfold undo_Clean.l0
  repeat' first
   | (with_reducible exact ih0 _ _ _ _ _ _)
   | (with_reducible exact bits_Input.mono _ _ _)
   | (with_reducible exact slices_Equal_bool_bool.mono _ _ _)
   | (with_reducible exact LeO.refl _)
   | (with_reducible exact LeO.none _)
   | (with_reducible refine LeO.ite ?_ ?_)
   | (with_reducible refine LeO.bind ?_ (fun _ => ?_))
theorem undo_Clean.mono : ∀ a0 a1 a2 k, LeO (undo_Clean.f k a0 a1 a2) (undo_Clean.f (k + 1) a0 a1 a2) := by
 intro a0 a1 a2 k
 unfold undo_Clean.f
 repeat' first
  | (with_reducible exact undo_Clean.mono_l _ _ _ _ _ _ _)
  | (with_reducible exact LeO.refl _)
  | (with_reducible exact LeO.none _)
  | (with_reducible refine LeO.ite ?_ ?_)
  | (with_reducible refine LeO.bind ?_ (fun _ => ?_))
end Go.Proofs.YthfhnkpipdbekaaDoor.Giv
