-- CUT by a program of this session: what the claim does not use is left out
import Derived.Test.YthfhnkpipdbekaaDoorUax0
import Derived.DeepKeys4
import Derived.Shelf.Abstract
import Derived.WideMake
namespace Go.Proofs.YthfhnkpipdbekaaDoor.Giv
set_option linter.unusedVariables false
set_option linter.unusedSimpArgs false
open Go.RowKit Go.Shelf Go.Proofs.YthfhnkpipdbekaaDoorW.PrintWords Go.Proofs.YthfhnkpipdbekaaDoorW.PrintLast Go.Proofs.YthfhnkpipdbekaaDoorW.PrintMore
open Go.Proofs.YthfhnkpipdbekaaDoor.Ua (S67 k67 z67 rd_T67 at_T67 k67_open k67_openM k67_mkM)
def inB (n x : Int) : Bool := decide (0 ≤ x) && decide (x < n)
def rightB (n : Int) (o : S67) : Bool :=
 if o.f0 = 0 then inB n o.f1 && decide (o.f2 = 0) && decide (o.f3 = 0)
 else if o.f0 = 1 ∨ o.f0 = 3 then inB n o.f1 && inB n o.f2 && decide (o.f1 ≠ o.f2) && decide (o.f3 = 0)
 else if o.f0 = 2 then inB n o.f1 && inB n o.f2 && inB n o.f3 && decide (o.f1 ≠ o.f2) && decide (o.f1 ≠ o.f3) && decide (o.f2 ≠ o.f3)
 else false
def validB (n : Int) (l : List S67) : Bool := decide (1 ≤ n ∧ n ≤ 1024 ∧ l.length ≤ 200000) && l.all (rightB n)
theorem eg65 : ∀ args w, (callFunc 65 args).run Tryd.prog w = .ok (.enter 65 args) w := enters_of Tryd.func65 (by kernel_rfl) rfl
theorem beqI (x y : Int) : (x == y) = decide (x = y) := rfl
theorem bneI (x y : Int) : (x != y) = !decide (x = y) := rfl
set_option maxHeartbeats 4000000 in
theorem right_calls (n k a b c : Int) (w : World) (r : Bool) (hr : rightB n ⟨k, a, b, c⟩ = r) :
  Calls Tryd.prog 66 #[.int .i64 n, .agg #[.int .i64 k, .int .i64 a, .int .i64 b, .int .i64 c]] w fun e w' => e = .returned (.bool r) ∧ Below w.heap.size w w' := by
 subst hr
 have HB := Aside0.mk (Below.refl w.heap.size w)
 go_enter Tryd.func66, Tryd.ntmps66
 go_wp2
 all_goals (go_ret; refine ⟨by first | (simp_all [rightB, inB, results, Tryd.results66, go_sem, beqI, bneI]; done) | (simp_all [rightB, inB, results, Tryd.results66, go_sem, beqI, bneI]; omega), ?_⟩; repeat (first | exact HB.out | apply below_alloc))
end Go.Proofs.YthfhnkpipdbekaaDoor.Giv
