/- What the law reaches, as plain functions, each with the proof that its call comes to its answer: written by a program for this claim. -/
import Derived.Test.YtlmlkoalicjlhaaProg
import Derived.Below
import Derived.Deep.Draws
import Derived.Deep.AppendLies
import Derived.Maps.AppendAt
import Derived.OwnWalk
import Derived.Laws.BytesArg
import Derived.Laws.MakeOwn
import Derived.Laws.OwnMore
import Derived.Deep.OwnRows
import Derived.Tactics
import Derived.Lib.ConvBytes
import Derived.Laws.Slices
import Derived.WalkKit
import Derived.KernelRfl
import Derived.RowKit3
import Derived.Deep.LoopGhost
import Derived.Deep.QuietTactic
import Derived.BigQuiet
import Derived.WideLaws
import Derived.Deep.DeepCutAuto
import Derived.Deep.CutBlock
import Derived.Deep.RegionHeld3
import Derived.Laws.Rows
import Derived.Lib.AppendStr
import Derived.ArgAppend
import Derived.Laws.IdiomCopy
import Derived.OrdersHeld
import Derived.Laws.BitsLemmas
import Derived.RowKit
import Derived.Test.YtlmlkoalicjlhaaUFnLevelRowsV
import Derived.Test.YtlmlkoalicjlhaaUFnLevelRowsV2
import Derived.Test.YtlmlkoalicjlhaaUFnLevelRowsV3
import Derived.Test.YtlmlkoalicjlhaaUFnLevelRowsWWords
import Derived.Test.YtlmlkoalicjlhaaUFnLevelRowsWLast
import Derived.Test.YtlmlkoalicjlhaaUFnLevelRowsWTab
import Derived.Test.YtlmlkoalicjlhaaUFnLevelRowsWQPut
import Derived.Test.YtlmlkoalicjlhaaUFnLevelRowsWApart
import Derived.Test.YtlmlkoalicjlhaaUFnLevelRowsWArr
import Derived.Test.YtlmlkoalicjlhaaUFnLevelRowsWZeros
import Derived.Test.YtlmlkoalicjlhaaUFnLevelRowsWFoot
import Derived.Test.YtlmlkoalicjlhaaUFnLevelRowsWKept
import Derived.Test.YtlmlkoalicjlhaaUFnLevelRowsWShare
import Derived.Test.YtlmlkoalicjlhaaUFnLevelRowsWN
import Derived.Test.YtlmlkoalicjlhaaUFnLevelRowsWRepsOne
import Derived.Test.YtlmlkoalicjlhaaUFnLevelRowsWNEv
import Derived.Test.YtlmlkoalicjlhaaUFnLevelRowsWMore
namespace Go.Proofs.Ytlmlkoalicjlhaa.QFnLevelRows
open Go.RowKit Go.Proofs.YtlmlkoalicjlhaaW.PrintWords Go.Proofs.YtlmlkoalicjlhaaW.PrintLast Go.Proofs.YtlmlkoalicjlhaaW.PrintMore Go.Proofs.YtlmlkoalicjlhaaV
attribute [local go_sem] max2_int min2_int max_two min_two max_three min_three max_four min_four   -- for this text's walks alone
set_option linter.unusedVariables false
set_option linter.unusedSimpArgs false



def errW : Option Int → Value
 | none => .nilIface
 | some c => .iface 0 (.int .i64 c)
theorem errW_none : errW none = .nilIface := rfl
theorem errW_some (c : Int) : errW (some c) = .iface 0 (.int .i64 c) := rfl

theorem info3 : (Try.prog.info? 3).map (fun i => (i.zero, i.size, i.bytes)) = some (some (.int .i64 0), 1, 8) := by kernel_rfl
theorem info5 : (Try.prog.info? 5).map (fun i => (i.zero, i.size, i.bytes)) = some (some (.int .u8 0), 1, 1) := by kernel_rfl
-- the values' own types

end Go.Proofs.Ytlmlkoalicjlhaa.QFnLevelRows
