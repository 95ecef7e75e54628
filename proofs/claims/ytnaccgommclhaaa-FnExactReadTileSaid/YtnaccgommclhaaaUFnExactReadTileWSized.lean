/- Words that the printed proofs of this claim use: plain theorems, for every program (out of the print's words: what the law does not reach is left out). -/
import Derived.SizedLaws
import Derived.ChangeSlices
namespace Go.Proofs.YtnaccgommclhaaaW.PrintWords
open Go.ChangeShapes Go.WideShapes
end Go.Proofs.YtnaccgommclhaaaW.PrintWords
