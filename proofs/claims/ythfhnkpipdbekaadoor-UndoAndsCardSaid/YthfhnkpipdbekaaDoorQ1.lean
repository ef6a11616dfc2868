-- CUT by a program of this session: what the claim does not use is left out
import Derived.Laws.BitsLemmas
namespace Go.Proofs.YthfhnkpipdbekaaDoor.Giv
def bitsL (n i : Nat) : List Bool := (List.range n).map fun k => i.testBit k
theorem bitsL_len (n i : Nat) : (bitsL n i).length = n := by simp [bitsL]
end Go.Proofs.YthfhnkpipdbekaaDoor.Giv
