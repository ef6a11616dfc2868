-- CUT by a program of this session: what the claim does not use is left out
import Derived.Test.YthfhnkpipdbekaaDoorN3
import Derived.Test.YthfhnkpipdbekaaDoorN4
namespace Go.Proofs.YthfhnkpipdbekaaDoor.Giv
set_option linter.unusedVariables false
set_option linter.unusedSimpArgs false
open Go.RowKit Go.Shelf Go.Proofs.YthfhnkpipdbekaaDoorW.PrintWords Go.Proofs.YthfhnkpipdbekaaDoorW.PrintLast Go.Proofs.YthfhnkpipdbekaaDoorW.PrintMore
open Go.Proofs.YthfhnkpipdbekaaDoor.Ua (S67 k67 z67 rd_T67 at_T67 k67_open k67_openM k67_mkM)
def undo_Run.f (a0_0 : Int) (l0_1 : List S67) (l1 : List Bool) : Option (List Bool × Int) :=
 some (if validB a0_0 l0_1 = true then (if (l1.length : Int) = a0_0 then (runL l1 l0_1, 0) else ([], 2)) else ([], 1))
theorem validB_all {n : Int} {l : List S67} (h : validB n l = true) : (1 ≤ n ∧ n ≤ 1024 ∧ l.length ≤ 200000) ∧ ∀ o ∈ l, rightB n o = true := by
 simp only [validB, Bool.and_eq_true, decide_eq_true_eq, List.all_eq_true] at h
 exact h
theorem box25 (w : World) (n : Int) (A : Option Addr) (m c : Nat) : (w.alloc (.cells #[.int .i64 n, .slice A m c] 25)).cell? ⟨w.heap.size, 0, none⟩ = some (.int .i64 n) ∧ (w.alloc (.cells #[.int .i64 n, .slice A m c] 25)).cell? ⟨w.heap.size, 1, none⟩ = some (.slice A m c) := by
 constructor <;> simp
end Go.Proofs.YthfhnkpipdbekaaDoor.Giv
