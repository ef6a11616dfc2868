-- CUT by a program of this session: what the claim does not use is left out
import Derived.Test.YthfhnkpipdbekaaDoorQ5
import Derived.Test.YthfhnkpipdbekaaDoorQ4
import Derived.Test.YthfhnkpipdbekaaDoorTbx1
namespace Go.Proofs.YthfhnkpipdbekaaDoor.Pure
set_option linter.unusedVariables false
set_option linter.unusedSimpArgs false
open Go.RowKit Go.Proofs.YthfhnkpipdbekaaDoorW.PrintWords Go.Proofs.YthfhnkpipdbekaaDoorW.PrintLast Go.Proofs.YthfhnkpipdbekaaDoorW.PrintMore
open Ua Ta Giv Tb
def prog1 : List S67 := [⟨2, 2, 0, 1⟩]
def prog2 : List S67 := [⟨2, 3, 0, 1⟩, ⟨1, 2, 3, 0⟩, ⟨2, 3, 0, 1⟩]
theorem itoa0 : Lib.itoa 0 = [48] := by rw [itoa_nn (by decide), Lib.decDigits_one (by decide)]; rfl
theorem itoa1 : Lib.itoa 1 = [49] := by rw [itoa_nn (by decide), Lib.decDigits_one (by decide)]; rfl
theorem itoa2 : Lib.itoa 2 = [50] := by rw [itoa_nn (by decide), Lib.decDigits_one (by decide)]; rfl
theorem itoa3 : Lib.itoa 3 = [51] := by rw [itoa_nn (by decide), Lib.decDigits_one (by decide)]; rfl
theorem itoa4 : Lib.itoa 4 = [52] := by rw [itoa_nn (by decide), Lib.decDigits_one (by decide)]; rfl
theorem write1 : writeB 3 prog1 = [51, 59, 32, 116, 111, 102, 102, 111, 108, 105, 32, 50, 32, 48, 32, 49] := by
 simp only [writeB, prog1, List.map_cons, List.map_nil, opB, opA, opX, opY, itoa0, itoa1, itoa2, itoa3, itoa4]; decide
theorem write2 : writeB 4 prog2 = [52, 59, 32, 116, 111, 102, 102, 111, 108, 105, 32, 51, 32, 48, 32, 49, 59, 32, 99, 110, 111, 116, 32, 50, 32, 51, 59, 32, 116, 111, 102, 102, 111, 108, 105, 32, 51, 32, 48, 32, 49] := by
 simp only [writeB, prog2, List.map_cons, List.map_nil, opB, opA, opX, opY, itoa0, itoa1, itoa2, itoa3, itoa4]; decide
theorem parse1 : undo_Parse.f (⟨#[51, 59, 32, 116, 111, 102, 102, 111, 108, 105, 32, 50, 32, 48, 32, 49]⟩ : ByteArray) = some (3, prog1, 0) := by
 have h := parse_write (n := 3) (l := prog1) (by decide) (by rw [write1]; decide)
 rw [write1] at h
 exact congrArg some (by rw [show (⟨#[51, 59, 32, 116, 111, 102, 102, 111, 108, 105, 32, 50, 32, 48, 32, 49]⟩ : ByteArray) = bytesOf [51, 59, 32, 116, 111, 102, 102, 111, 108, 105, 32, 50, 32, 48, 32, 49] from rfl, h])
theorem parse2 : undo_Parse.f (⟨#[52, 59, 32, 116, 111, 102, 102, 111, 108, 105, 32, 51, 32, 48, 32, 49, 59, 32, 99, 110, 111, 116, 32, 50, 32, 51, 59, 32, 116, 111, 102, 102, 111, 108, 105, 32, 51, 32, 48, 32, 49]⟩ : ByteArray) = some (4, prog2, 0) := by
 have h := parse_write (n := 4) (l := prog2) (by decide) (by rw [write2]; decide)
 rw [write2] at h
 exact congrArg some (by rw [show (⟨#[52, 59, 32, 116, 111, 102, 102, 111, 108, 105, 32, 51, 32, 48, 32, 49, 59, 32, 99, 110, 111, 116, 32, 50, 32, 51, 59, 32, 116, 111, 102, 102, 111, 108, 105, 32, 51, 32, 48, 32, 49]⟩ : ByteArray) = bytesOf [52, 59, 32, 116, 111, 102, 102, 111, 108, 105, 32, 51, 32, 48, 32, 49, 59, 32, 99, 110, 111, 116, 32, 50, 32, 51, 59, 32, 116, 111, 102, 102, 111, 108, 105, 32, 51, 32, 48, 32, 49] from rfl, h])
theorem dirty1 : undo_Dirty.f 60 3 prog1 2 = some ([false, false, false, true], 0) := by decide +kernel
theorem clean2 : undo_Clean.f 60 4 prog2 2 = some ([false, false, false, true], 0) := by decide +kernel
theorem dirty2 : ∃ r, undo_Dirty.f 60 4 prog2 2 = some (r, 6) := ⟨[], by decide +kernel⟩
theorem eqA : commodatumref12_Equal.f 60 [false, false, false, true] [false, false, false, true] = some true := by decide +kernel
theorem awake60 : commodatumlaw12_Awake.f 60 = some true := by
 obtain ⟨r, h⟩ := dirty2
 unfold commodatumlaw12_Awake.f
 rw [parse1, parse2]
 simp only [Option.bind_some]
 rw [dirty1, clean2, h]
 simp only [Option.bind_some]
 rw [eqA]
 rfl
theorem awake_ev : Ev (fun k => commodatumlaw12_Awake.f k) true := Ev.of (fun k => commodatumlaw12_Awake.mono k) awake60
theorem awake_bind : Ev (fun k => (commodatumlaw12_Awake.f k).bind fun t => some t) true := Ev.bind awake_ev (Ev.now true)
end Go.Proofs.YthfhnkpipdbekaaDoor.Pure
