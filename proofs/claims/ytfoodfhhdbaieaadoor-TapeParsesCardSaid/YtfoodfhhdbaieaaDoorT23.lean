-- CUT by a program of this session: what the claim does not use is left out
import Derived.Test.YtfoodfhhdbaieaaDoorT18
import Derived.Test.YtfoodfhhdbaieaaDoorWAll
namespace Go.Proofs.YtfoodfhhdbaieaaDoor.Giv
set_option maxRecDepth 100000
set_option linter.unusedSimpArgs false
set_option linter.unusedVariables false
open Go.RowKit Go.Shelf Go.Proofs.YtfoodfhhdbaieaaDoorW.PrintWords Go.Proofs.YtfoodfhhdbaieaaDoorW.PrintLast Go.Proofs.YtfoodfhhdbaieaaDoorW.PrintMore

def Ch (N : Nat) (b c : Bool) (l : List Int) (u v : Value) (w : World) : Prop :=
 (b = true → ∃ g, u = .slice (some ⟨g, 0, none⟩) 0 0 ∧ w.ownsRow N 3 1 (.slice (some ⟨g, 0, none⟩) 0 0) 0 []) ∧ (c = true → ∃ B cb, v = .slice B l.length cb ∧ w.ownsRow N 3 1 (.slice B l.length cb) l.length (l.map (Value.int .i64)))
theorem Ch.below {N : Nat} {b c : Bool} {l : List Int} {u v : Value} {w w' : World} (h : Ch N b c l u v w) (hb : Below w.heap.size w w') : Ch N b c l u v w' :=
 ⟨fun e => by obtain ⟨g, e1, h1⟩ := h.1 e; exact ⟨g, e1, pw_own_below h1 hb⟩, fun e => by obtain ⟨B, cb, e1, h1⟩ := h.2 e; exact ⟨B, cb, e1, pw_own_below h1 hb⟩⟩
end Go.Proofs.YtfoodfhhdbaieaaDoor.Giv
