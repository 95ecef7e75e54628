/- Words that the printed proofs of this claim use: plain theorems, for every program (out of the print's words: what the law does not reach is left out). -/
import Derived.Test.YtlmlkoalicjlhaaUFnExactReadSquareWLast
import Derived.Test.YtlmlkoalicjlhaaUFnExactReadSquareWWords
namespace Go.Proofs.YtlmlkoalicjlhaaW.PrintLast
open Go.Proofs.YtlmlkoalicjlhaaW.PrintWords (Aside0)
section
variable {md : Region.Mode} {ops : Array Oper} {T : Bool × List (List Nat × List Nat)} {l l' li lj lk : Array Bool} {ds : List Nat} {i j k : Nat}
end
end Go.Proofs.YtlmlkoalicjlhaaW.PrintLast
