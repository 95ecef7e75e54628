/- Words that the printed proofs of this claim use: plain theorems, for every program (out of the print's words: what the law does not reach is left out). -/
import Derived.Test.YtlmlkoalicjlhaaUFnExactTileRowWWords
import Derived.Test.YtlmlkoalicjlhaaUFnExactTileRowWMore
import Derived.Test.YtlmlkoalicjlhaaUFnExactTileRowWShare
import Derived.Deep.WholeRow
namespace Go.Proofs.YtlmlkoalicjlhaaV
open Go.RowKit Go.Proofs.YtlmlkoalicjlhaaW.PrintWords Go.Proofs.YtlmlkoalicjlhaaW.PrintLast Go.Proofs.YtlmlkoalicjlhaaW.PrintMore
section
variable {P : Program} {ops : Array Oper} {rest : List Oper} {o : Oper} {a : Act} {Q : Exit → Act → World → Prop}
end
end Go.Proofs.YtlmlkoalicjlhaaV
