/- What the law reaches, as plain functions, each with the proof that its call comes to its answer: written by a program for this claim. -/
import Derived.Test.YtoenibjkjohbbaaProg
import Derived.Below
import Derived.Deep.Draws
import Derived.Deep.AppendLies
import Derived.Maps.AppendAt
import Derived.OwnWalk
import Derived.Laws.BytesArg
import Derived.Laws.MakeOwn
import Derived.Laws.OwnMore
import Derived.Deep.OwnRows
import Derived.Tactics
import Derived.Lib.ConvBytes
import Derived.Laws.Slices
import Derived.WalkKit
import Derived.KernelRfl
import Derived.RowKit3
import Derived.Deep.LoopGhost
import Derived.Deep.QuietTactic
import Derived.BigQuiet
import Derived.WideLaws
import Derived.Deep.DeepCutAuto
import Derived.Deep.CutBlock
import Derived.Deep.RegionHeld3
import Derived.Laws.Rows
import Derived.Lib.AppendStr
import Derived.ArgAppend
import Derived.Laws.IdiomCopy
import Derived.OrdersHeld
import Derived.Laws.BitsLemmas
import Derived.RowKit
import Derived.Test.YtoenibjkjohbbaaV
import Derived.Test.YtoenibjkjohbbaaWWords
import Derived.Test.YtoenibjkjohbbaaWLast
import Derived.Test.YtoenibjkjohbbaaWTab
import Derived.Test.YtoenibjkjohbbaaWFour
import Derived.Test.YtoenibjkjohbbaaWQPut
import Derived.Test.YtoenibjkjohbbaaWApart
import Derived.Test.YtoenibjkjohbbaaWArr
import Derived.Test.YtoenibjkjohbbaaWZeros
import Derived.Test.YtoenibjkjohbbaaWFoot
import Derived.Test.YtoenibjkjohbbaaWKept
import Derived.Test.YtoenibjkjohbbaaWShare
import Derived.Test.YtoenibjkjohbbaaWN
import Derived.Test.YtoenibjkjohbbaaWFootNe
import Derived.Test.YtoenibjkjohbbaaWAt
import Derived.Test.YtoenibjkjohbbaaWEqStruct
import Derived.Test.YtoenibjkjohbbaaWRepsOne
import Derived.Test.YtoenibjkjohbbaaWInv
import Derived.Test.YtoenibjkjohbbaaWInvWords
import Derived.Test.YtoenibjkjohbbaaWGuard
import Derived.Test.YtoenibjkjohbbaaWNEv
import Derived.Test.YtoenibjkjohbbaaWMore
namespace Go.Proofs.Ytoenibjkjohbbaa.QFnExactReadRuns
open Go.RowKit Go.Proofs.YtoenibjkjohbbaaW.PrintWords Go.Proofs.YtoenibjkjohbbaaW.PrintLast Go.Proofs.YtoenibjkjohbbaaW.PrintMore Go.Proofs.YtoenibjkjohbbaaV
attribute [local go_sem] max2_int min2_int max_two min_two max_three min_three max_four min_four   -- for this text's walks alone
set_option linter.unusedVariables false
set_option linter.unusedSimpArgs false



def errW : Option Int → Value
  | none => .nilIface
  | some c => .iface 0 (.int .i64 c)
theorem errW_none : errW none = .nilIface := rfl
theorem errW_some (c : Int) : errW (some c) = .iface 0 (.int .i64 c) := rfl

theorem info3 : (Try.prog.info? 3).map (fun i => (i.zero, i.size, i.bytes)) = some (some (.int .i64 0), 1, 8) := by kernel_rfl
-- the values' own types

end Go.Proofs.Ytoenibjkjohbbaa.QFnExactReadRuns
