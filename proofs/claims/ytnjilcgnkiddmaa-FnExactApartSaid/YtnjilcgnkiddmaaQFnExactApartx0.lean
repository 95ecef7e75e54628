/- What the law reaches, as plain functions, each with the proof that its call comes to its answer: written by a program for this claim. -/
import Derived.Test.YtnjilcgnkiddmaaProg
import Derived.Below
import Derived.Deep.Draws
import Derived.Deep.AppendLies
import Derived.Maps.AppendAt
import Derived.OwnWalk
import Derived.Laws.BytesArg
import Derived.Laws.MakeOwn
import Derived.Laws.OwnMore
import Derived.Deep.OwnRows
import Derived.Tactics
import Derived.Lib.ConvBytes
import Derived.Laws.Slices
import Derived.WalkKit
import Derived.KernelRfl
import Derived.RowKit3
import Derived.Deep.LoopGhost
import Derived.Deep.QuietTactic
import Derived.BigQuiet
import Derived.WideLaws
import Derived.Deep.DeepCutAuto
import Derived.Deep.CutBlock
import Derived.Deep.RegionHeld3
import Derived.Laws.Rows
import Derived.Lib.AppendStr
import Derived.ArgAppend
import Derived.Laws.IdiomCopy
import Derived.OrdersHeld
import Derived.Laws.BitsLemmas
import Derived.RowKit
import Derived.Test.YtnjilcgnkiddmaaWWords
import Derived.Test.YtnjilcgnkiddmaaWLast
import Derived.Test.YtnjilcgnkiddmaaWTab
import Derived.Test.YtnjilcgnkiddmaaWFour
import Derived.Test.YtnjilcgnkiddmaaWQPut
import Derived.Test.YtnjilcgnkiddmaaWApart
import Derived.Test.YtnjilcgnkiddmaaWArr
import Derived.Test.YtnjilcgnkiddmaaWZeros
import Derived.Test.YtnjilcgnkiddmaaWFoot
import Derived.Test.YtnjilcgnkiddmaaWKept
import Derived.Test.YtnjilcgnkiddmaaWShare
import Derived.Test.YtnjilcgnkiddmaaWN
import Derived.Test.YtnjilcgnkiddmaaWFootNe
import Derived.Test.YtnjilcgnkiddmaaWAt
import Derived.Test.YtnjilcgnkiddmaaWEqStruct
import Derived.Test.YtnjilcgnkiddmaaWRepsOne
import Derived.Test.YtnjilcgnkiddmaaWInv
import Derived.Test.YtnjilcgnkiddmaaWInvWords
import Derived.Test.YtnjilcgnkiddmaaWGuard
import Derived.Test.YtnjilcgnkiddmaaWNEv
import Derived.Test.YtnjilcgnkiddmaaWMore
namespace Go.Proofs.Ytnjilcgnkiddmaa.QFnExactApart
open Go.RowKit Go.Proofs.YtnjilcgnkiddmaaW.PrintWords Go.Proofs.YtnjilcgnkiddmaaW.PrintLast Go.Proofs.YtnjilcgnkiddmaaW.PrintMore
attribute [local go_sem] max2_int min2_int max_two min_two max_three min_three max_four min_four   -- for this text's walks alone
set_option linter.unusedVariables false
set_option linter.unusedSimpArgs false



def errW : Option Int → Value
  | none => .nilIface
  | some c => .iface 0 (.int .i64 c)
theorem errW_none : errW none = .nilIface := rfl
theorem errW_some (c : Int) : errW (some c) = .iface 0 (.int .i64 c) := rfl

-- the values' own types

end Go.Proofs.Ytnjilcgnkiddmaa.QFnExactApart
