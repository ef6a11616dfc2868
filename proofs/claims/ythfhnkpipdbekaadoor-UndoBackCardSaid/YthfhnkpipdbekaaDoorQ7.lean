-- CUT by a program of this session: what the claim does not use is left out
import Derived.Test.YthfhnkpipdbekaaDoorQ6
import Derived.Test.YthfhnkpipdbekaaDoorTkx1
namespace Go.Proofs.YthfhnkpipdbekaaDoor.Pure
set_option linter.unusedVariables false
set_option linter.unusedSimpArgs false
open Go.RowKit Go.Proofs.YthfhnkpipdbekaaDoorW.PrintWords Go.Proofs.YthfhnkpipdbekaaDoorW.PrintLast Go.Proofs.YthfhnkpipdbekaaDoorW.PrintMore
open Ua Ta Giv Tb Tk
theorem text_f {n : Int} {l : List S67} (hv : validB n l = true) : undo_Text.f n l = some (if 40000 < (writeB n l).length then ((⟨#[]⟩ : ByteArray), 5) else (bytesOf (writeB n l), 0)) := by
  unfold undo_Text.f undo_Valid.f
  rw [hv]
  simp only [Option.bind_some, if_true]
  unfold undo_write.f
  rw [if_pos hv]
  simp only [Option.bind_some]
  have hs : (⟨(writeB n l).toArray⟩ : ByteArray).size = (writeB n l).length := size_toArray _
  rw [hs]
  by_cases h : 40000 < (writeB n l).length
  · rw [if_pos (by omega), if_pos h]
  · rw [if_neg (by omega), if_neg h]; rfl
theorem back_j0 {n : Int} {l : List S67} (hv : validB n l = true) (hl : l.length < 10000000) : Ev (fun k => commodatumlaw12_UndoBack.j0 k false n l) true := by
  by_cases hz : 40000 < (writeB n l).length
  · refine Ev1 awake_bind fun k => ?_
    simp only [commodatumlaw12_UndoBack.j0]
    rw [copy_f n l hl]
    simp only [Option.bind_some]
    rw [text_f hv, if_pos hz]
    rfl
  · have hp : undo_Parse.f (bytesOf (writeB n l)) = some (n, l, 0) := congrArg some (by rw [parse_write hv (by omega)])
    have hs := refSame_ev n l hl
    have key : Ev (fun k => (commodatumref12_Same.f k n l n l).bind fun t => if t = true then (commodatumlaw12_Awake.f k).bind fun t => some t else some false) true := Ev.bind hs (EvC awake_bind fun k => if_pos rfl)
    refine Ev1 key fun k => ?_
    simp only [commodatumlaw12_UndoBack.j0]
    rw [copy_f n l hl]
    simp only [Option.bind_some]
    rw [text_f hv, if_neg hz]
    simp only [Option.bind_some]
    rw [hp]
    rfl
theorem pure_UndoBack (n : Int) (l : List S67) (h : l.length ≤ maxLen) : ∃ k, commodatumlaw12_UndoBack.f k n l = some true := by
  have key : Ev (fun k => commodatumlaw12_UndoBack.f k n l) true := by
    unfold commodatumlaw12_UndoBack.f commodatumlaw12_Wide.f
    simp only [Option.bind_some]
    have one : Ev (fun k => commodatumlaw12_UndoBack.j0 k true n l) true := Ev1 awake_bind fun k => rfl
    by_cases hw : (l.length : Int) > 20000
    · exact EvC one fun k => by rw [decide_eq_true hw]; rfl
    · refine EvC (f := fun k => (commodatumref12_Valid.f k n l).bind fun t => commodatumlaw12_UndoBack.j0 k (!t) n l) ?_ fun k => by rw [decide_eq_false hw]; rfl
      refine Ev.bind (refValid_ev n l) ?_
      cases hv : validB n l with
      | true => exact back_j0 hv (by omega)
      | false => exact one
  exact key.elim fun k hk => ⟨k, hk k (Nat.le_refl _)⟩
end Go.Proofs.YthfhnkpipdbekaaDoor.Pure
