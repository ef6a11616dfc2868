-- CUT by a program of this session: what the claim does not use is left out
import Derived.Test.YtfoodfhhdbaieaaDoorM14
import Derived.Test.YtfoodfhhdbaieaaDoorTxx0
namespace Go.Proofs.YtfoodfhhdbaieaaDoor.Giv
def bytesOf (l : List UInt8) : ByteArray := ⟨l.toArray⟩
end Go.Proofs.YtfoodfhhdbaieaaDoor.Giv
namespace Go.Proofs.YtfoodfhhdbaieaaDoor.Pure
set_option maxRecDepth 100000
set_option linter.unusedVariables false
set_option linter.unusedSimpArgs false
open Go.RowKit Go.Proofs.YtfoodfhhdbaieaaDoorW.PrintWords Go.Proofs.YtfoodfhhdbaieaaDoorW.PrintLast Go.Proofs.YtfoodfhhdbaieaaDoorW.PrintMore
open Go.Proofs.YtfoodfhhdbaieaaDoor.Ka Go.Proofs.YtfoodfhhdbaieaaDoor.Giv Go.Proofs.YtfoodfhhdbaieaaDoor.Tx
end Go.Proofs.YtfoodfhhdbaieaaDoor.Pure
namespace Go.Proofs.YtfoodfhhdbaieaaDoor.Giv
open Go.RowKit Go.Shelf Go.Proofs.YtfoodfhhdbaieaaDoorW.PrintWords Go.Proofs.YtfoodfhhdbaieaaDoorW.PrintLast Go.Proofs.YtfoodfhhdbaieaaDoorW.PrintMore
open Go.Proofs.YtfoodfhhdbaieaaDoor.Ka (S40 k40 z40 rd_T40 at_T40 k40_open k40_mk rd_L1 at_L1 info3 info38 info40)
set_option maxRecDepth 100000
theorem Moved.trans {w w1 w2 : World} {v v1 v2 : Value} (h : Moved w w1 v v1) (k : Moved w1 w2 v1 v2) : Moved w w2 v v2 :=
 ⟨fun j hj hn => (k.keep j (Nat.lt_of_lt_of_le hj h.size) (h.own j hj hn)).trans (h.keep j hj hn), fun j hj hn => k.own j (Nat.lt_of_lt_of_le hj h.size) (h.own j hj hn), Nat.le_trans h.size k.size⟩
def Src (w0 w : World) (v : Value) (A : Option Addr) (l : List Int) : Prop := Kd.C (Kd.int .i64) w0 A l.length l ∨ ∃ g, A = some ⟨g, 0, none⟩ ∧ RowAt w g l ∧ some g ≠ v.ownBlock
theorem Src.cell {w0 w : World} {v : Value} {A : Option Addr} {l : List Int} (h : Src w0 w v A l) (hb : Below w0.heap.size w0 w) {i : Nat} (hi : i < l.length) : ∃ ad, A = some ad ∧ w.cell? (ad.add i) = some (.int .i64 l[i]) := by
 rcases h with h | ⟨g, e, h1, _⟩
 ·obtain ⟨ad, e, hc⟩ := (C_cells (Kd.C_below h hb)).2 (by omega)
  exact ⟨ad, e, hc i _ (by simp [hi])⟩
 ·refine ⟨_, e, ?_⟩
  rw [show (⟨g, 0, none⟩ : Addr).add i = ⟨g, i, none⟩ by unfold Addr.add; split <;> simp_all]
  exact h1.cell hi
def listB (l : List Int) : List UInt8 := (l.map fun y => 32 :: Lib.itoa y).flatten
theorem itoa_neg {y : Int} (h : y < 0) : Lib.itoa y = 45 :: Lib.itoa (-y) := by
 unfold Lib.itoa
 rw [if_pos h, if_neg (by omega), show y.natAbs = (-y).toNat by omega]
end Go.Proofs.YtfoodfhhdbaieaaDoor.Giv
