-- CUT by a program of this session: what the claim does not use is left out
import Derived.Laws.BitsLemmas
namespace Go.Proofs.YthfhnkpipdbekaaDoor.Giv
end Go.Proofs.YthfhnkpipdbekaaDoor.Giv
