-- CUT by a program of this session: what the claim does not use is left out
import Derived.Test.YtfoodfhhdbaieaaDoorT7
import Derived.Test.YtfoodfhhdbaieaaDoorT4
namespace Go.Proofs.YtfoodfhhdbaieaaDoor.Giv
set_option maxRecDepth 100000
set_option linter.unusedVariables false
set_option linter.unusedSimpArgs false
open Go.RowKit Go.Shelf Go.Proofs.YtfoodfhhdbaieaaDoorW.PrintWords Go.Proofs.YtfoodfhhdbaieaaDoorW.PrintLast Go.Proofs.YtfoodfhhdbaieaaDoorW.PrintMore
open Go.Proofs.YtfoodfhhdbaieaaDoor.Ka (S40 k40 z40 rd_T40 at_T40 k40_open k40_mk rd_L1 at_L1 info3 info38 info40)

theorem valid_calls (a0 a1 a2 : Int) (A : Option Addr) (c : Nat) (l : List S40) (w : World) (hr : Kd.C k40 w A l.length l) :
  Calls Tryd.prog 10 #[.agg #[.int .i64 a0, .int .i64 a1, .int .i64 a2, .slice A l.length c]] w fun e w' => e = .returned (.bool (validM a0 a1 a2 l)) ∧ Below w.heap.size w w' := by
 cases h : headB a0 a1 a2 with
 | false =>
  rw [show validM a0 a1 a2 l = false by unfold validM; rw [h]; rfl]
  exact valid_head a0 a1 a2 A c l w h
 | true =>
  rw [show validM a0 a1 a2 l = rulesB a0 a1 a2 [] l by unfold validM; rw [h]; rfl]
  exact valid_walk a0 a1 a2 A c l w hr h _ ⟨rfl⟩
theorem bcell {W w1 : World} (hb : Below W.heap.size W w1) : (∀ b o, b < W.heap.size → w1.cell? ⟨b, o, none⟩ = W.cell? ⟨b, o, none⟩) ∧ (∀ b o, b < W.heap.size → w1.frozen? ⟨b, o, none⟩ = W.frozen? ⟨b, o, none⟩) :=
 ⟨fun b o h => hb.cell (p := ⟨b, o, none⟩) h, fun b o h => hb.frozen (p := ⟨b, o, none⟩) h⟩
theorem five {p : Prop} {c1 c2 c3 c4 c5 : Bool} (h : (c1 && !c2 && !c3 && c4 && c5) = false) (k1 : c1 = false → p) (k2 : c1 = true → c2 = true → p) (k3 : c1 = true → c2 = false → c3 = true → p) (k4 : c1 = true → c2 = false → c3 = false → c4 = false → p)
  (k5 : c1 = true → c2 = false → c3 = false → c4 = true → c5 = false → p) : p := by
 cases c1 <;> cases c2 <;> cases c3 <;> cases c4 <;> cases c5 <;> simp_all
end Go.Proofs.YtfoodfhhdbaieaaDoor.Giv
