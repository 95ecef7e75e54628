/- Words that the printed proofs of this claim use: plain theorems, for every program (out of the print's words: what the law does not reach is left out). -/
import Derived.Test.YtlmlkoalicjlhaaUFnLevelRowsWWords
import Derived.Test.YtlmlkoalicjlhaaUFnLevelRowsWMore
import Derived.Test.YtlmlkoalicjlhaaUFnLevelRowsWShare
import Derived.Deep.WholeRow
namespace Go.Proofs.YtlmlkoalicjlhaaV
open Go.RowKit Go.Proofs.YtlmlkoalicjlhaaW.PrintWords Go.Proofs.YtlmlkoalicjlhaaW.PrintLast Go.Proofs.YtlmlkoalicjlhaaW.PrintMore
theorem tmod42 (a : Int) : (a.tmod 4).tmod 2 = a.tmod 2 := Int.tmod_tmod_of_dvd a ⟨2, rfl⟩
section
variable {P : Program} {ops : Array Oper} {rest : List Oper} {o : Oper} {a : Act} {Q : Exit → Act → World → Prop}
end
end Go.Proofs.YtlmlkoalicjlhaaV
