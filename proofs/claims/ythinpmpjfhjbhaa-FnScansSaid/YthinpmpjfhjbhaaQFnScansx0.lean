/- What the law reaches, as plain functions, each with the proof that its call comes to its answer: written by a program for this claim. -/
import Derived.Test.YthinpmpjfhjbhaaProg
import Derived.Below
import Derived.Deep.Draws
import Derived.Deep.AppendLies
import Derived.Maps.AppendAt
import Derived.OwnWalk
import Derived.Laws.BytesArg
import Derived.Laws.MakeOwn
import Derived.Laws.OwnMore
import Derived.Deep.OwnRows
import Derived.Tactics
import Derived.Lib.ConvBytes
import Derived.Laws.Slices
import Derived.WalkKit
import Derived.KernelRfl
import Derived.RowKit3
import Derived.Deep.LoopGhost
import Derived.Deep.QuietTactic
import Derived.BigQuiet
import Derived.WideLaws
import Derived.Deep.DeepCutAuto
import Derived.Deep.CutBlock
import Derived.Deep.RegionHeld3
import Derived.Laws.Rows
import Derived.Lib.AppendStr
import Derived.ArgAppend
import Derived.Laws.IdiomCopy
import Derived.OrdersHeld
import Derived.Laws.BitsLemmas
import Derived.RowKit
import Derived.Test.YthinpmpjfhjbhaaV
import Derived.Test.YthinpmpjfhjbhaaWWords
import Derived.Test.YthinpmpjfhjbhaaWLast
import Derived.Test.YthinpmpjfhjbhaaWTab
import Derived.Test.YthinpmpjfhjbhaaWFour
import Derived.Test.YthinpmpjfhjbhaaWQPut
import Derived.Test.YthinpmpjfhjbhaaWApart
import Derived.Test.YthinpmpjfhjbhaaWArr
import Derived.Test.YthinpmpjfhjbhaaWZeros
import Derived.Test.YthinpmpjfhjbhaaWFoot
import Derived.Test.YthinpmpjfhjbhaaWKept
import Derived.Test.YthinpmpjfhjbhaaWShare
import Derived.Test.YthinpmpjfhjbhaaWN
import Derived.Test.YthinpmpjfhjbhaaWFootNe
import Derived.Test.YthinpmpjfhjbhaaWAt
import Derived.Test.YthinpmpjfhjbhaaWEqStruct
import Derived.Test.YthinpmpjfhjbhaaWRepsOne
import Derived.Test.YthinpmpjfhjbhaaWInv
import Derived.Test.YthinpmpjfhjbhaaWInvWords
import Derived.Test.YthinpmpjfhjbhaaWGuard
import Derived.Test.YthinpmpjfhjbhaaWNEv
import Derived.Test.YthinpmpjfhjbhaaWMore
namespace Go.Proofs.Ythinpmpjfhjbhaa.QFnScans
open Go.RowKit Go.Proofs.YthinpmpjfhjbhaaW.PrintWords Go.Proofs.YthinpmpjfhjbhaaW.PrintLast Go.Proofs.YthinpmpjfhjbhaaW.PrintMore Go.Proofs.YthinpmpjfhjbhaaV
attribute [local go_sem] max2_int min2_int max_two min_two max_three min_three max_four min_four   -- for this text's walks alone
set_option linter.unusedVariables false
set_option linter.unusedSimpArgs false



def errW : Option Int → Value
  | none => .nilIface
  | some c => .iface 0 (.int .i64 c)
theorem errW_none : errW none = .nilIface := rfl
theorem errW_some (c : Int) : errW (some c) = .iface 0 (.int .i64 c) := rfl

theorem info3 : (Try.prog.info? 3).map (fun i => (i.zero, i.size, i.bytes)) = some (some (.int .i64 0), 1, 8) := by kernel_rfl
theorem info4 : (Try.prog.info? 4).map (fun i => (i.zero, i.size, i.bytes)) = some (some (.bool false), 1, 1) := by kernel_rfl
-- the values' own types

end Go.Proofs.Ythinpmpjfhjbhaa.QFnScans
