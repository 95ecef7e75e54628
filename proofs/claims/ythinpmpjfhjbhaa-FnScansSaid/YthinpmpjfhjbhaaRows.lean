/-
  No cell of these rows narrows 'for every input' (looked for: loops, veiled, ifaces, maps, wideKeys, modest, calm, conditions, laid).
  DERIVED. THE GIVEN ROWS OF THIS SEAT. 12 by the template 'for every input the law returns true; each argument reads behind the call as it read before'; 0 by the template 'total and deterministic' (their statements: YthinpmpjfhjbhaaTotals.lean).
  GIVEN WITH THE SEED: the statements are not yours to turn. If you find one false, say at which input.
  Laid BY PROGRAM, IN A SANDBOX (cutbox-rows.mjs): the forced cells as the released guide's own fill.sh prints them over the translation e4096dcfa77b8a39… (all of the seat's roots in one cut). By AI agents, Wed Nov 11 2026. No macro, syntax, notation, axiom, sorry.
-/
import Derived.Test.YthinpmpjfhjbhaaChecked
import GoSem.Claim
import GoSem.ClaimJoined
import GoSem.ClaimMapViews
import Derived.JoinedTies
import Derived.KernelRfl
namespace Go.Proofs.Ythinpmpjfhjbhaa
/- THE CELL 'sum', in the pinned program and in every row, IS THE sha256 OF THE DUMP (.gsa) THAT YthinpmpjfhjbhaaProg.lean LOADS. Nothing in Lean hashes anything: it is a label: what it is worth is what the hold of that sum in a sandbox is worth. -/
noncomputable def Try.pinned : Pinned := { name := "ythinpmpjfhjbhaa", sum := "e4096dcfa77b8a3937c37ca5b2c7ebbd69dc91caa5d931494b27ae75a1b6d47b", checked := Try.checked }
namespace Rows
def none {H : Type} : Left H := { results := [], args := [] }

/-- 'laws.FnExactJoined': WHATEVER THE INPUT: true; the input reads as it did. -/
def fnExactJoinedSpec : ChangeSpec := { name := "fnExactJoined", fn := fun _ => fun
  | [d1, d2] => { results := [.lit (.bool true)], args := [d1, d2] }
  | _ => none }
def fnExactJoinedRow : OpenClaim := { program := "ythinpmpjfhjbhaa", sum := "e4096dcfa77b8a3937c37ca5b2c7ebbd69dc91caa5d931494b27ae75a1b6d47b", func := "loop.example/g00960/laws.FnExactJoined", spec := "fnExactJoined", apart := false }
def FnExactJoinedSaid : Prop := fnExactJoinedRow.holds Try.pinned (OpenSpec.ofChange fnExactJoinedSpec)

/-- ITS FALSE NEIGHBOUR: 'it returns false'. Refute it at one input. -/
def fnExactJoinedWrong : ChangeSpec := { name := "fnExactJoined", fn := fun _ => fun
  | [d1, d2] => { results := [.lit (.bool false)], args := [d1, d2] }
  | _ => none }
def FnExactJoinedWrongFalsely : Prop := fnExactJoinedRow.holds Try.pinned (OpenSpec.ofChange fnExactJoinedWrong)

/-- 'laws.FnExactSmallLevel': WHATEVER THE INPUT: true; the input reads as it did. -/
def fnExactSmallLevelSpec : ChangeSpec := { name := "fnExactSmallLevel", fn := fun _ => fun
  | [d1, d2, d3] => { results := [.lit (.bool true)], args := [d1, d2, d3] }
  | _ => none }
def fnExactSmallLevelRow : OpenClaim := { program := "ythinpmpjfhjbhaa", sum := "e4096dcfa77b8a3937c37ca5b2c7ebbd69dc91caa5d931494b27ae75a1b6d47b", func := "loop.example/g00960/laws.FnExactSmallLevel", spec := "fnExactSmallLevel", apart := false }
def FnExactSmallLevelSaid : Prop := fnExactSmallLevelRow.holds Try.pinned (OpenSpec.ofChange fnExactSmallLevelSpec)

/-- ITS FALSE NEIGHBOUR: 'it returns false'. Refute it at one input. -/
def fnExactSmallLevelWrong : ChangeSpec := { name := "fnExactSmallLevel", fn := fun _ => fun
  | [d1, d2, d3] => { results := [.lit (.bool false)], args := [d1, d2, d3] }
  | _ => none }
def FnExactSmallLevelWrongFalsely : Prop := fnExactSmallLevelRow.holds Try.pinned (OpenSpec.ofChange fnExactSmallLevelWrong)

/-- 'laws.FnSteps': WHATEVER THE INPUT: true; the input reads as it did. -/
def fnStepsSpec : ChangeSpec := { name := "fnSteps", fn := fun _ => fun
  | [d] => { results := [.lit (.bool true)], args := [d] }
  | _ => none }
def fnStepsRow : OpenClaim := { program := "ythinpmpjfhjbhaa", sum := "e4096dcfa77b8a3937c37ca5b2c7ebbd69dc91caa5d931494b27ae75a1b6d47b", func := "loop.example/g00960/laws.FnSteps", spec := "fnSteps", apart := false }
def FnStepsSaid : Prop := fnStepsRow.holds Try.pinned (OpenSpec.ofChange fnStepsSpec)

/-- ITS FALSE NEIGHBOUR: 'it returns false'. Refute it at one input. -/
def fnStepsWrong : ChangeSpec := { name := "fnSteps", fn := fun _ => fun
  | [d] => { results := [.lit (.bool false)], args := [d] }
  | _ => none }
def FnStepsWrongFalsely : Prop := fnStepsRow.holds Try.pinned (OpenSpec.ofChange fnStepsWrong)

/-- 'laws.FnExactFour': WHATEVER THE INPUT: true; the input reads as it did. -/
def fnExactFourSpec : ChangeSpec := { name := "fnExactFour", fn := fun _ => fun
  | [d] => { results := [.lit (.bool true)], args := [d] }
  | _ => none }
def fnExactFourRow : OpenClaim := { program := "ythinpmpjfhjbhaa", sum := "e4096dcfa77b8a3937c37ca5b2c7ebbd69dc91caa5d931494b27ae75a1b6d47b", func := "loop.example/g00960/laws.FnExactFour", spec := "fnExactFour", unfollowed := true, recurses := true, apart := false }
def FnExactFourSaid : Prop := fnExactFourRow.holds Try.pinned (OpenSpec.ofChange fnExactFourSpec)

/-- ITS FALSE NEIGHBOUR: 'it returns false'. Refute it at one input. -/
def fnExactFourWrong : ChangeSpec := { name := "fnExactFour", fn := fun _ => fun
  | [d] => { results := [.lit (.bool false)], args := [d] }
  | _ => none }
def FnExactFourWrongFalsely : Prop := fnExactFourRow.holds Try.pinned (OpenSpec.ofChange fnExactFourWrong)

/-- 'laws.FnExactSquareOk': WHATEVER THE INPUT: true; the input reads as it did. -/
def fnExactSquareOkSpec : ChangeSpec := { name := "fnExactSquareOk", fn := fun _ => fun
  | [d] => { results := [.lit (.bool true)], args := [d] }
  | _ => none }
def fnExactSquareOkRow : OpenClaim := { program := "ythinpmpjfhjbhaa", sum := "e4096dcfa77b8a3937c37ca5b2c7ebbd69dc91caa5d931494b27ae75a1b6d47b", func := "loop.example/g00960/laws.FnExactSquareOk", spec := "fnExactSquareOk", apart := false }
def FnExactSquareOkSaid : Prop := fnExactSquareOkRow.holds Try.pinned (OpenSpec.ofChange fnExactSquareOkSpec)

/-- ITS FALSE NEIGHBOUR: 'it returns false'. Refute it at one input. -/
def fnExactSquareOkWrong : ChangeSpec := { name := "fnExactSquareOk", fn := fun _ => fun
  | [d] => { results := [.lit (.bool false)], args := [d] }
  | _ => none }
def FnExactSquareOkWrongFalsely : Prop := fnExactSquareOkRow.holds Try.pinned (OpenSpec.ofChange fnExactSquareOkWrong)

/-- 'laws.FnScans': WHATEVER THE INPUT: true; the input reads as it did. -/
def fnScansSpec : ChangeSpec := { name := "fnScans", fn := fun _ => fun
  | [d] => { results := [.lit (.bool true)], args := [d] }
  | _ => none }
def fnScansRow : OpenClaim := { program := "ythinpmpjfhjbhaa", sum := "e4096dcfa77b8a3937c37ca5b2c7ebbd69dc91caa5d931494b27ae75a1b6d47b", func := "loop.example/g00960/laws.FnScans", spec := "fnScans", apart := false }
def FnScansSaid : Prop := fnScansRow.holds Try.pinned (OpenSpec.ofChange fnScansSpec)

/-- ITS FALSE NEIGHBOUR: 'it returns false'. Refute it at one input. -/
def fnScansWrong : ChangeSpec := { name := "fnScans", fn := fun _ => fun
  | [d] => { results := [.lit (.bool false)], args := [d] }
  | _ => none }
def FnScansWrongFalsely : Prop := fnScansRow.holds Try.pinned (OpenSpec.ofChange fnScansWrong)

/-- 'laws.FnFours': WHATEVER THE INPUT: true; the input reads as it did. -/
def fnFoursSpec : ChangeSpec := { name := "fnFours", fn := fun _ => fun
  | [d] => { results := [.lit (.bool true)], args := [d] }
  | _ => none }
def fnFoursRow : OpenClaim := { program := "ythinpmpjfhjbhaa", sum := "e4096dcfa77b8a3937c37ca5b2c7ebbd69dc91caa5d931494b27ae75a1b6d47b", func := "loop.example/g00960/laws.FnFours", spec := "fnFours", unfollowed := true, recurses := true, apart := false }
def FnFoursSaid : Prop := fnFoursRow.holds Try.pinned (OpenSpec.ofChange fnFoursSpec)

/-- ITS FALSE NEIGHBOUR: 'it returns false'. Refute it at one input. -/
def fnFoursWrong : ChangeSpec := { name := "fnFours", fn := fun _ => fun
  | [d] => { results := [.lit (.bool false)], args := [d] }
  | _ => none }
def FnFoursWrongFalsely : Prop := fnFoursRow.holds Try.pinned (OpenSpec.ofChange fnFoursWrong)

/-- 'laws.FnExactFourBack': WHATEVER THE INPUT: true; the input reads as it did. -/
def fnExactFourBackSpec : ChangeSpec := { name := "fnExactFourBack", fn := fun _ => fun
  | [d] => { results := [.lit (.bool true)], args := [d] }
  | _ => none }
def fnExactFourBackRow : OpenClaim := { program := "ythinpmpjfhjbhaa", sum := "e4096dcfa77b8a3937c37ca5b2c7ebbd69dc91caa5d931494b27ae75a1b6d47b", func := "loop.example/g00960/laws.FnExactFourBack", spec := "fnExactFourBack", unfollowed := true, recurses := true, apart := false }
def FnExactFourBackSaid : Prop := fnExactFourBackRow.holds Try.pinned (OpenSpec.ofChange fnExactFourBackSpec)

/-- ITS FALSE NEIGHBOUR: 'it returns false'. Refute it at one input. -/
def fnExactFourBackWrong : ChangeSpec := { name := "fnExactFourBack", fn := fun _ => fun
  | [d] => { results := [.lit (.bool false)], args := [d] }
  | _ => none }
def FnExactFourBackWrongFalsely : Prop := fnExactFourBackRow.holds Try.pinned (OpenSpec.ofChange fnExactFourBackWrong)

/-- 'laws.FnExactEight': WHATEVER THE INPUT: true; the input reads as it did. -/
def fnExactEightSpec : ChangeSpec := { name := "fnExactEight", fn := fun _ => fun
  | [d] => { results := [.lit (.bool true)], args := [d] }
  | _ => none }
def fnExactEightRow : OpenClaim := { program := "ythinpmpjfhjbhaa", sum := "e4096dcfa77b8a3937c37ca5b2c7ebbd69dc91caa5d931494b27ae75a1b6d47b", func := "loop.example/g00960/laws.FnExactEight", spec := "fnExactEight", apart := false }
def FnExactEightSaid : Prop := fnExactEightRow.holds Try.pinned (OpenSpec.ofChange fnExactEightSpec)

/-- ITS FALSE NEIGHBOUR: 'it returns false'. Refute it at one input. -/
def fnExactEightWrong : ChangeSpec := { name := "fnExactEight", fn := fun _ => fun
  | [d] => { results := [.lit (.bool false)], args := [d] }
  | _ => none }
def FnExactEightWrongFalsely : Prop := fnExactEightRow.holds Try.pinned (OpenSpec.ofChange fnExactEightWrong)

/-- 'laws.FnExactRunsRow': WHATEVER THE INPUT: true; the input reads as it did. -/
def fnExactRunsRowSpec : ChangeSpec := { name := "fnExactRunsRow", fn := fun _ => fun
  | [d] => { results := [.lit (.bool true)], args := [d] }
  | _ => none }
def fnExactRunsRowRow : OpenClaim := { program := "ythinpmpjfhjbhaa", sum := "e4096dcfa77b8a3937c37ca5b2c7ebbd69dc91caa5d931494b27ae75a1b6d47b", func := "loop.example/g00960/laws.FnExactRunsRow", spec := "fnExactRunsRow", apart := false }
def FnExactRunsRowSaid : Prop := fnExactRunsRowRow.holds Try.pinned (OpenSpec.ofChange fnExactRunsRowSpec)

/-- ITS FALSE NEIGHBOUR: 'it returns false'. Refute it at one input. -/
def fnExactRunsRowWrong : ChangeSpec := { name := "fnExactRunsRow", fn := fun _ => fun
  | [d] => { results := [.lit (.bool false)], args := [d] }
  | _ => none }
def FnExactRunsRowWrongFalsely : Prop := fnExactRunsRowRow.holds Try.pinned (OpenSpec.ofChange fnExactRunsRowWrong)

/-- 'laws.FnExactEdgesOf': WHATEVER THE INPUT: true; the input reads as it did. -/
def fnExactEdgesOfSpec : ChangeSpec := { name := "fnExactEdgesOf", fn := fun _ => fun
  | [d1, d2, d3] => { results := [.lit (.bool true)], args := [d1, d2, d3] }
  | _ => none }
def fnExactEdgesOfRow : OpenClaim := { program := "ythinpmpjfhjbhaa", sum := "e4096dcfa77b8a3937c37ca5b2c7ebbd69dc91caa5d931494b27ae75a1b6d47b", func := "loop.example/g00960/laws.FnExactEdgesOf", spec := "fnExactEdgesOf", apart := false }
def FnExactEdgesOfSaid : Prop := fnExactEdgesOfRow.holds Try.pinned (OpenSpec.ofChange fnExactEdgesOfSpec)

/-- ITS FALSE NEIGHBOUR: 'it returns false'. Refute it at one input. -/
def fnExactEdgesOfWrong : ChangeSpec := { name := "fnExactEdgesOf", fn := fun _ => fun
  | [d1, d2, d3] => { results := [.lit (.bool false)], args := [d1, d2, d3] }
  | _ => none }
def FnExactEdgesOfWrongFalsely : Prop := fnExactEdgesOfRow.holds Try.pinned (OpenSpec.ofChange fnExactEdgesOfWrong)

/-- 'laws.FnCuts': WHATEVER THE INPUT: true; the input reads as it did. -/
def fnCutsSpec : ChangeSpec := { name := "fnCuts", fn := fun _ => fun
  | [d] => { results := [.lit (.bool true)], args := [d] }
  | _ => none }
def fnCutsRow : OpenClaim := { program := "ythinpmpjfhjbhaa", sum := "e4096dcfa77b8a3937c37ca5b2c7ebbd69dc91caa5d931494b27ae75a1b6d47b", func := "loop.example/g00960/laws.FnCuts", spec := "fnCuts", apart := false }
def FnCutsSaid : Prop := fnCutsRow.holds Try.pinned (OpenSpec.ofChange fnCutsSpec)

/-- ITS FALSE NEIGHBOUR: 'it returns false'. Refute it at one input. -/
def fnCutsWrong : ChangeSpec := { name := "fnCuts", fn := fun _ => fun
  | [d] => { results := [.lit (.bool false)], args := [d] }
  | _ => none }
def FnCutsWrongFalsely : Prop := fnCutsRow.holds Try.pinned (OpenSpec.ofChange fnCutsWrong)

/- THE SECOND FORM. 'bulk': how many values and letters a reading holds, each counted each time it is reached (what is shared counts as often as it is met; a slice's spare places count too). A statement '..UptoSaid' is the law's where the arguments, and the package variables that the reading takes, are together of bulk at most 1048576: NARROWER than '..Said'. Prove '..Said' where nothing that the law and all that it calls make is longer than what came in: it says more and counts as full. Else prove '..UptoSaid'. A law counts once. -/
mutual
def uptoBulk {H : Type} : DataW H → Nat
  | .lit (.string bytes) => bytes.length + 1
  | .lit _ => 1
  | .nil => 1
  | .ptr d => uptoBulk d + 1
  | .slice elems spare => uptoBulkAll elems + uptoBulkAll spare + 1
  | .agg parts => uptoBulkAll parts + 1
  | .iface _ d => uptoBulk d + 1
  | .map entries => uptoBulkEntries entries + 1
  | .held _ => 1
def uptoBulkAll {H : Type} : List (DataW H) → Nat
  | [] => 0
  | d :: r => uptoBulk d + uptoBulkAll r
def uptoBulkEntries {H : Type} : List (Lit × DataW H) → Nat
  | [] => 0
  | x :: r => uptoBulkEntry x + uptoBulkEntries r
def uptoBulkEntry {H : Type} : Lit × DataW H → Nat
  | (.string bytes, d) => bytes.length + uptoBulk d + 1
  | (_, d) => uptoBulk d + 1
 end
def uptoSmall : (H : Type) → List (DataW H) → Bool := fun _ ds => decide (uptoBulkAll ds ≤ 1048576)
def OpenSpec.upto (s : _root_.Go.ChangeSpec) : _root_.Go.OpenSpec := { _root_.Go.OpenSpec.ofChange s with cond := some uptoSmall }

/-- 'laws.FnExactJoined', WHERE WHAT IT READS IS OF BULK AT MOST 1048576: true; the input reads as it did. -/
def fnExactJoinedUptoRow : OpenClaim := { program := "ythinpmpjfhjbhaa", sum := "e4096dcfa77b8a3937c37ca5b2c7ebbd69dc91caa5d931494b27ae75a1b6d47b", func := "loop.example/g00960/laws.FnExactJoined", spec := "fnExactJoined", apart := false, narrowed := true }
def FnExactJoinedUptoSaid : Prop := fnExactJoinedUptoRow.holds Try.pinned (OpenSpec.upto fnExactJoinedSpec)

/-- 'laws.FnExactSmallLevel', WHERE WHAT IT READS IS OF BULK AT MOST 1048576: true; the input reads as it did. -/
def fnExactSmallLevelUptoRow : OpenClaim := { program := "ythinpmpjfhjbhaa", sum := "e4096dcfa77b8a3937c37ca5b2c7ebbd69dc91caa5d931494b27ae75a1b6d47b", func := "loop.example/g00960/laws.FnExactSmallLevel", spec := "fnExactSmallLevel", apart := false, narrowed := true }
def FnExactSmallLevelUptoSaid : Prop := fnExactSmallLevelUptoRow.holds Try.pinned (OpenSpec.upto fnExactSmallLevelSpec)

/-- 'laws.FnSteps', WHERE WHAT IT READS IS OF BULK AT MOST 1048576: true; the input reads as it did. -/
def fnStepsUptoRow : OpenClaim := { program := "ythinpmpjfhjbhaa", sum := "e4096dcfa77b8a3937c37ca5b2c7ebbd69dc91caa5d931494b27ae75a1b6d47b", func := "loop.example/g00960/laws.FnSteps", spec := "fnSteps", apart := false, narrowed := true }
def FnStepsUptoSaid : Prop := fnStepsUptoRow.holds Try.pinned (OpenSpec.upto fnStepsSpec)

/-- 'laws.FnExactFour', WHERE WHAT IT READS IS OF BULK AT MOST 1048576: true; the input reads as it did. -/
def fnExactFourUptoRow : OpenClaim := { program := "ythinpmpjfhjbhaa", sum := "e4096dcfa77b8a3937c37ca5b2c7ebbd69dc91caa5d931494b27ae75a1b6d47b", func := "loop.example/g00960/laws.FnExactFour", spec := "fnExactFour", unfollowed := true, recurses := true, apart := false, narrowed := true }
def FnExactFourUptoSaid : Prop := fnExactFourUptoRow.holds Try.pinned (OpenSpec.upto fnExactFourSpec)

/-- 'laws.FnExactSquareOk', WHERE WHAT IT READS IS OF BULK AT MOST 1048576: true; the input reads as it did. -/
def fnExactSquareOkUptoRow : OpenClaim := { program := "ythinpmpjfhjbhaa", sum := "e4096dcfa77b8a3937c37ca5b2c7ebbd69dc91caa5d931494b27ae75a1b6d47b", func := "loop.example/g00960/laws.FnExactSquareOk", spec := "fnExactSquareOk", apart := false, narrowed := true }
def FnExactSquareOkUptoSaid : Prop := fnExactSquareOkUptoRow.holds Try.pinned (OpenSpec.upto fnExactSquareOkSpec)

/-- 'laws.FnScans', WHERE WHAT IT READS IS OF BULK AT MOST 1048576: true; the input reads as it did. -/
def fnScansUptoRow : OpenClaim := { program := "ythinpmpjfhjbhaa", sum := "e4096dcfa77b8a3937c37ca5b2c7ebbd69dc91caa5d931494b27ae75a1b6d47b", func := "loop.example/g00960/laws.FnScans", spec := "fnScans", apart := false, narrowed := true }
def FnScansUptoSaid : Prop := fnScansUptoRow.holds Try.pinned (OpenSpec.upto fnScansSpec)

/-- 'laws.FnFours', WHERE WHAT IT READS IS OF BULK AT MOST 1048576: true; the input reads as it did. -/
def fnFoursUptoRow : OpenClaim := { program := "ythinpmpjfhjbhaa", sum := "e4096dcfa77b8a3937c37ca5b2c7ebbd69dc91caa5d931494b27ae75a1b6d47b", func := "loop.example/g00960/laws.FnFours", spec := "fnFours", unfollowed := true, recurses := true, apart := false, narrowed := true }
def FnFoursUptoSaid : Prop := fnFoursUptoRow.holds Try.pinned (OpenSpec.upto fnFoursSpec)

/-- 'laws.FnExactFourBack', WHERE WHAT IT READS IS OF BULK AT MOST 1048576: true; the input reads as it did. -/
def fnExactFourBackUptoRow : OpenClaim := { program := "ythinpmpjfhjbhaa", sum := "e4096dcfa77b8a3937c37ca5b2c7ebbd69dc91caa5d931494b27ae75a1b6d47b", func := "loop.example/g00960/laws.FnExactFourBack", spec := "fnExactFourBack", unfollowed := true, recurses := true, apart := false, narrowed := true }
def FnExactFourBackUptoSaid : Prop := fnExactFourBackUptoRow.holds Try.pinned (OpenSpec.upto fnExactFourBackSpec)

/-- 'laws.FnExactEight', WHERE WHAT IT READS IS OF BULK AT MOST 1048576: true; the input reads as it did. -/
def fnExactEightUptoRow : OpenClaim := { program := "ythinpmpjfhjbhaa", sum := "e4096dcfa77b8a3937c37ca5b2c7ebbd69dc91caa5d931494b27ae75a1b6d47b", func := "loop.example/g00960/laws.FnExactEight", spec := "fnExactEight", apart := false, narrowed := true }
def FnExactEightUptoSaid : Prop := fnExactEightUptoRow.holds Try.pinned (OpenSpec.upto fnExactEightSpec)

/-- 'laws.FnExactRunsRow', WHERE WHAT IT READS IS OF BULK AT MOST 1048576: true; the input reads as it did. -/
def fnExactRunsRowUptoRow : OpenClaim := { program := "ythinpmpjfhjbhaa", sum := "e4096dcfa77b8a3937c37ca5b2c7ebbd69dc91caa5d931494b27ae75a1b6d47b", func := "loop.example/g00960/laws.FnExactRunsRow", spec := "fnExactRunsRow", apart := false, narrowed := true }
def FnExactRunsRowUptoSaid : Prop := fnExactRunsRowUptoRow.holds Try.pinned (OpenSpec.upto fnExactRunsRowSpec)

/-- 'laws.FnExactEdgesOf', WHERE WHAT IT READS IS OF BULK AT MOST 1048576: true; the input reads as it did. -/
def fnExactEdgesOfUptoRow : OpenClaim := { program := "ythinpmpjfhjbhaa", sum := "e4096dcfa77b8a3937c37ca5b2c7ebbd69dc91caa5d931494b27ae75a1b6d47b", func := "loop.example/g00960/laws.FnExactEdgesOf", spec := "fnExactEdgesOf", apart := false, narrowed := true }
def FnExactEdgesOfUptoSaid : Prop := fnExactEdgesOfUptoRow.holds Try.pinned (OpenSpec.upto fnExactEdgesOfSpec)

/-- 'laws.FnCuts', WHERE WHAT IT READS IS OF BULK AT MOST 1048576: true; the input reads as it did. -/
def fnCutsUptoRow : OpenClaim := { program := "ythinpmpjfhjbhaa", sum := "e4096dcfa77b8a3937c37ca5b2c7ebbd69dc91caa5d931494b27ae75a1b6d47b", func := "loop.example/g00960/laws.FnCuts", spec := "fnCuts", apart := false, narrowed := true }
def FnCutsUptoSaid : Prop := fnCutsUptoRow.holds Try.pinned (OpenSpec.upto fnCutsSpec)

end Rows
end Go.Proofs.Ythinpmpjfhjbhaa
