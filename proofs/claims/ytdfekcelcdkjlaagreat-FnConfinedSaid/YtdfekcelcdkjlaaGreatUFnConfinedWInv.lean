/- Words that the printed proofs of this claim use: plain theorems, for every program (out of the print's words: what the law does not reach is left out). -/
import Derived.Test.YtdfekcelcdkjlaaGreatUFnConfinedWTab
namespace Go.Proofs.YtdfekcelcdkjlaaGreatW.PrintLast
def up (b:Nat→Bool) (i:Nat):Nat→Bool:=fun j=>if j=i then true else b j
section
variable {P:Program} {ops:Array Oper} {Q:Exit→Act→World→Prop} {md:Region.Mode} {T:Bool × List (List Nat × List Nat)} {B:List Nat} {O:List Nat} {b:Nat→Bool} {i j n:Nat}
end
end Go.Proofs.YtdfekcelcdkjlaaGreatW.PrintLast
