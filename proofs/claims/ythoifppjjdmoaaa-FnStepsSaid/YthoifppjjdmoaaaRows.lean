/-
  No cell of these rows narrows 'for every input' (looked for: loops, veiled, ifaces, maps, wideKeys, modest, calm, conditions, laid).
  DERIVED. THE GIVEN ROWS OF THIS SEAT. 12 by the template 'for every input the law returns true; each argument reads behind the call as it read before'; 0 by the template 'total and deterministic' (their statements: YthoifppjjdmoaaaTotals.lean).
  GIVEN WITH THE SEED: the statements are not yours to turn. If you find one false, say at which input.
  Laid BY PROGRAM, IN A SANDBOX (cutbox-rows.mjs): the forced cells as the released guide's own fill.sh prints them over the translation 7b65f5820b6b7ae3… (all of the seat's roots in one cut). By AI agents, Wed Nov 11 2026. No macro, syntax, notation, axiom, sorry.
-/
import Derived.Test.YthoifppjjdmoaaaChecked
import GoSem.Claim
import GoSem.ClaimJoined
import GoSem.ClaimMapViews
import Derived.JoinedTies
import Derived.KernelRfl
namespace Go.Proofs.Ythoifppjjdmoaaa
/- THE CELL 'sum', in the pinned program and in every row, IS THE sha256 OF THE DUMP (.gsa) THAT YthoifppjjdmoaaaProg.lean LOADS. Nothing in Lean hashes anything: it is a label: what it is worth is what the hold of that sum in a sandbox is worth. -/
noncomputable def Try.pinned : Pinned := { name := "ythoifppjjdmoaaa", sum := "7b65f5820b6b7ae3e814c94160f57944f747da2de7b3405a244dcd2a5076ad25", checked := Try.checked }
namespace Rows
def none {H : Type} : Left H := { results := [], args := [] }

/-- 'laws.FnExactShareOf': WHATEVER THE INPUT: true; the input reads as it did. -/
def fnExactShareOfSpec : ChangeSpec := { name := "fnExactShareOf", fn := fun _ => fun
  | [d1, d2] => { results := [.lit (.bool true)], args := [d1, d2] }
  | _ => none }
def fnExactShareOfRow : OpenClaim := { program := "ythoifppjjdmoaaa", sum := "7b65f5820b6b7ae3e814c94160f57944f747da2de7b3405a244dcd2a5076ad25", func := "loop.example/g00960/laws.FnExactShareOf", spec := "fnExactShareOf", apart := false }
def FnExactShareOfSaid : Prop := fnExactShareOfRow.holds Try.pinned (OpenSpec.ofChange fnExactShareOfSpec)

/-- ITS FALSE NEIGHBOUR: 'it returns false'. Refute it at one input. -/
def fnExactShareOfWrong : ChangeSpec := { name := "fnExactShareOf", fn := fun _ => fun
  | [d1, d2] => { results := [.lit (.bool false)], args := [d1, d2] }
  | _ => none }
def FnExactShareOfWrongFalsely : Prop := fnExactShareOfRow.holds Try.pinned (OpenSpec.ofChange fnExactShareOfWrong)

/-- 'laws.FnExactScaleOf': WHATEVER THE INPUT: true; the input reads as it did. -/
def fnExactScaleOfSpec : ChangeSpec := { name := "fnExactScaleOf", fn := fun _ => fun
  | [d1, d2] => { results := [.lit (.bool true)], args := [d1, d2] }
  | _ => none }
def fnExactScaleOfRow : OpenClaim := { program := "ythoifppjjdmoaaa", sum := "7b65f5820b6b7ae3e814c94160f57944f747da2de7b3405a244dcd2a5076ad25", func := "loop.example/g00960/laws.FnExactScaleOf", spec := "fnExactScaleOf", apart := false }
def FnExactScaleOfSaid : Prop := fnExactScaleOfRow.holds Try.pinned (OpenSpec.ofChange fnExactScaleOfSpec)

/-- ITS FALSE NEIGHBOUR: 'it returns false'. Refute it at one input. -/
def fnExactScaleOfWrong : ChangeSpec := { name := "fnExactScaleOf", fn := fun _ => fun
  | [d1, d2] => { results := [.lit (.bool false)], args := [d1, d2] }
  | _ => none }
def FnExactScaleOfWrongFalsely : Prop := fnExactScaleOfRow.holds Try.pinned (OpenSpec.ofChange fnExactScaleOfWrong)

/-- 'laws.FnExactSmallBack': WHATEVER THE INPUT: true; the input reads as it did. -/
def fnExactSmallBackSpec : ChangeSpec := { name := "fnExactSmallBack", fn := fun _ => fun
  | [d1, d2, d3] => { results := [.lit (.bool true)], args := [d1, d2, d3] }
  | _ => none }
def fnExactSmallBackRow : OpenClaim := { program := "ythoifppjjdmoaaa", sum := "7b65f5820b6b7ae3e814c94160f57944f747da2de7b3405a244dcd2a5076ad25", func := "loop.example/g00960/laws.FnExactSmallBack", spec := "fnExactSmallBack", apart := false }
def FnExactSmallBackSaid : Prop := fnExactSmallBackRow.holds Try.pinned (OpenSpec.ofChange fnExactSmallBackSpec)

/-- ITS FALSE NEIGHBOUR: 'it returns false'. Refute it at one input. -/
def fnExactSmallBackWrong : ChangeSpec := { name := "fnExactSmallBack", fn := fun _ => fun
  | [d1, d2, d3] => { results := [.lit (.bool false)], args := [d1, d2, d3] }
  | _ => none }
def FnExactSmallBackWrongFalsely : Prop := fnExactSmallBackRow.holds Try.pinned (OpenSpec.ofChange fnExactSmallBackWrong)

/-- 'laws.FnMoreIsMore': WHATEVER THE INPUT: true; the input reads as it did. -/
def fnMoreIsMoreSpec : ChangeSpec := { name := "fnMoreIsMore", fn := fun _ => fun
  | [d] => { results := [.lit (.bool true)], args := [d] }
  | _ => none }
def fnMoreIsMoreRow : OpenClaim := { program := "ythoifppjjdmoaaa", sum := "7b65f5820b6b7ae3e814c94160f57944f747da2de7b3405a244dcd2a5076ad25", func := "loop.example/g00960/laws.FnMoreIsMore", spec := "fnMoreIsMore", apart := false }
def FnMoreIsMoreSaid : Prop := fnMoreIsMoreRow.holds Try.pinned (OpenSpec.ofChange fnMoreIsMoreSpec)

/-- ITS FALSE NEIGHBOUR: 'it returns false'. Refute it at one input. -/
def fnMoreIsMoreWrong : ChangeSpec := { name := "fnMoreIsMore", fn := fun _ => fun
  | [d] => { results := [.lit (.bool false)], args := [d] }
  | _ => none }
def FnMoreIsMoreWrongFalsely : Prop := fnMoreIsMoreRow.holds Try.pinned (OpenSpec.ofChange fnMoreIsMoreWrong)

/-- 'laws.FnExactSmallLevel': WHATEVER THE INPUT: true; the input reads as it did. -/
def fnExactSmallLevelSpec : ChangeSpec := { name := "fnExactSmallLevel", fn := fun _ => fun
  | [d1, d2, d3] => { results := [.lit (.bool true)], args := [d1, d2, d3] }
  | _ => none }
def fnExactSmallLevelRow : OpenClaim := { program := "ythoifppjjdmoaaa", sum := "7b65f5820b6b7ae3e814c94160f57944f747da2de7b3405a244dcd2a5076ad25", func := "loop.example/g00960/laws.FnExactSmallLevel", spec := "fnExactSmallLevel", apart := false }
def FnExactSmallLevelSaid : Prop := fnExactSmallLevelRow.holds Try.pinned (OpenSpec.ofChange fnExactSmallLevelSpec)

/-- ITS FALSE NEIGHBOUR: 'it returns false'. Refute it at one input. -/
def fnExactSmallLevelWrong : ChangeSpec := { name := "fnExactSmallLevel", fn := fun _ => fun
  | [d1, d2, d3] => { results := [.lit (.bool false)], args := [d1, d2, d3] }
  | _ => none }
def FnExactSmallLevelWrongFalsely : Prop := fnExactSmallLevelRow.holds Try.pinned (OpenSpec.ofChange fnExactSmallLevelWrong)

/-- 'laws.FnSteps': WHATEVER THE INPUT: true; the input reads as it did. -/
def fnStepsSpec : ChangeSpec := { name := "fnSteps", fn := fun _ => fun
  | [d] => { results := [.lit (.bool true)], args := [d] }
  | _ => none }
def fnStepsRow : OpenClaim := { program := "ythoifppjjdmoaaa", sum := "7b65f5820b6b7ae3e814c94160f57944f747da2de7b3405a244dcd2a5076ad25", func := "loop.example/g00960/laws.FnSteps", spec := "fnSteps", apart := false }
def FnStepsSaid : Prop := fnStepsRow.holds Try.pinned (OpenSpec.ofChange fnStepsSpec)

/-- ITS FALSE NEIGHBOUR: 'it returns false'. Refute it at one input. -/
def fnStepsWrong : ChangeSpec := { name := "fnSteps", fn := fun _ => fun
  | [d] => { results := [.lit (.bool false)], args := [d] }
  | _ => none }
def FnStepsWrongFalsely : Prop := fnStepsRow.holds Try.pinned (OpenSpec.ofChange fnStepsWrong)

/-- 'laws.FnExactReadLevels': WHATEVER THE INPUT: true; the input reads as it did. -/
def fnExactReadLevelsSpec : ChangeSpec := { name := "fnExactReadLevels", fn := fun _ => fun
  | [d1, d2, d3] => { results := [.lit (.bool true)], args := [d1, d2, d3] }
  | _ => none }
def fnExactReadLevelsRow : OpenClaim := { program := "ythoifppjjdmoaaa", sum := "7b65f5820b6b7ae3e814c94160f57944f747da2de7b3405a244dcd2a5076ad25", func := "loop.example/g00960/laws.FnExactReadLevels", spec := "fnExactReadLevels", apart := false }
def FnExactReadLevelsSaid : Prop := fnExactReadLevelsRow.holds Try.pinned (OpenSpec.ofChange fnExactReadLevelsSpec)

/-- ITS FALSE NEIGHBOUR: 'it returns false'. Refute it at one input. -/
def fnExactReadLevelsWrong : ChangeSpec := { name := "fnExactReadLevels", fn := fun _ => fun
  | [d1, d2, d3] => { results := [.lit (.bool false)], args := [d1, d2, d3] }
  | _ => none }
def FnExactReadLevelsWrongFalsely : Prop := fnExactReadLevelsRow.holds Try.pinned (OpenSpec.ofChange fnExactReadLevelsWrong)

/-- 'laws.FnRuns': WHATEVER THE INPUT: true; the input reads as it did. -/
def fnRunsSpec : ChangeSpec := { name := "fnRuns", fn := fun _ => fun
  | [d] => { results := [.lit (.bool true)], args := [d] }
  | _ => none }
def fnRunsRow : OpenClaim := { program := "ythoifppjjdmoaaa", sum := "7b65f5820b6b7ae3e814c94160f57944f747da2de7b3405a244dcd2a5076ad25", func := "loop.example/g00960/laws.FnRuns", spec := "fnRuns", apart := false }
def FnRunsSaid : Prop := fnRunsRow.holds Try.pinned (OpenSpec.ofChange fnRunsSpec)

/-- ITS FALSE NEIGHBOUR: 'it returns false'. Refute it at one input. -/
def fnRunsWrong : ChangeSpec := { name := "fnRuns", fn := fun _ => fun
  | [d] => { results := [.lit (.bool false)], args := [d] }
  | _ => none }
def FnRunsWrongFalsely : Prop := fnRunsRow.holds Try.pinned (OpenSpec.ofChange fnRunsWrong)

/-- 'laws.FnExactReadTile': WHATEVER THE INPUT: true; the input reads as it did. -/
def fnExactReadTileSpec : ChangeSpec := { name := "fnExactReadTile", fn := fun _ => fun
  | [d1, d2, d3, d4] => { results := [.lit (.bool true)], args := [d1, d2, d3, d4] }
  | _ => none }
def fnExactReadTileRow : OpenClaim := { program := "ythoifppjjdmoaaa", sum := "7b65f5820b6b7ae3e814c94160f57944f747da2de7b3405a244dcd2a5076ad25", func := "loop.example/g00960/laws.FnExactReadTile", spec := "fnExactReadTile", apart := false }
def FnExactReadTileSaid : Prop := fnExactReadTileRow.holds Try.pinned (OpenSpec.ofChange fnExactReadTileSpec)

/-- ITS FALSE NEIGHBOUR: 'it returns false'. Refute it at one input. -/
def fnExactReadTileWrong : ChangeSpec := { name := "fnExactReadTile", fn := fun _ => fun
  | [d1, d2, d3, d4] => { results := [.lit (.bool false)], args := [d1, d2, d3, d4] }
  | _ => none }
def FnExactReadTileWrongFalsely : Prop := fnExactReadTileRow.holds Try.pinned (OpenSpec.ofChange fnExactReadTileWrong)

/-- 'laws.FnExactSquareRow': WHATEVER THE INPUT: true; the input reads as it did. -/
def fnExactSquareRowSpec : ChangeSpec := { name := "fnExactSquareRow", fn := fun _ => fun
  | [d1, d2] => { results := [.lit (.bool true)], args := [d1, d2] }
  | _ => none }
def fnExactSquareRowRow : OpenClaim := { program := "ythoifppjjdmoaaa", sum := "7b65f5820b6b7ae3e814c94160f57944f747da2de7b3405a244dcd2a5076ad25", func := "loop.example/g00960/laws.FnExactSquareRow", spec := "fnExactSquareRow", apart := false }
def FnExactSquareRowSaid : Prop := fnExactSquareRowRow.holds Try.pinned (OpenSpec.ofChange fnExactSquareRowSpec)

/-- ITS FALSE NEIGHBOUR: 'it returns false'. Refute it at one input. -/
def fnExactSquareRowWrong : ChangeSpec := { name := "fnExactSquareRow", fn := fun _ => fun
  | [d1, d2] => { results := [.lit (.bool false)], args := [d1, d2] }
  | _ => none }
def FnExactSquareRowWrongFalsely : Prop := fnExactSquareRowRow.holds Try.pinned (OpenSpec.ofChange fnExactSquareRowWrong)

/-- 'laws.FnExactSquareSize': WHATEVER THE INPUT: true; the input reads as it did. -/
def fnExactSquareSizeSpec : ChangeSpec := { name := "fnExactSquareSize", fn := fun _ => fun
  | [d1, d2] => { results := [.lit (.bool true)], args := [d1, d2] }
  | _ => none }
def fnExactSquareSizeRow : OpenClaim := { program := "ythoifppjjdmoaaa", sum := "7b65f5820b6b7ae3e814c94160f57944f747da2de7b3405a244dcd2a5076ad25", func := "loop.example/g00960/laws.FnExactSquareSize", spec := "fnExactSquareSize", apart := false }
def FnExactSquareSizeSaid : Prop := fnExactSquareSizeRow.holds Try.pinned (OpenSpec.ofChange fnExactSquareSizeSpec)

/-- ITS FALSE NEIGHBOUR: 'it returns false'. Refute it at one input. -/
def fnExactSquareSizeWrong : ChangeSpec := { name := "fnExactSquareSize", fn := fun _ => fun
  | [d1, d2] => { results := [.lit (.bool false)], args := [d1, d2] }
  | _ => none }
def FnExactSquareSizeWrongFalsely : Prop := fnExactSquareSizeRow.holds Try.pinned (OpenSpec.ofChange fnExactSquareSizeWrong)

/-- 'laws.FnExactEightBack': WHATEVER THE INPUT: true; the input reads as it did. -/
def fnExactEightBackSpec : ChangeSpec := { name := "fnExactEightBack", fn := fun _ => fun
  | [d] => { results := [.lit (.bool true)], args := [d] }
  | _ => none }
def fnExactEightBackRow : OpenClaim := { program := "ythoifppjjdmoaaa", sum := "7b65f5820b6b7ae3e814c94160f57944f747da2de7b3405a244dcd2a5076ad25", func := "loop.example/g00960/laws.FnExactEightBack", spec := "fnExactEightBack", apart := false }
def FnExactEightBackSaid : Prop := fnExactEightBackRow.holds Try.pinned (OpenSpec.ofChange fnExactEightBackSpec)

/-- ITS FALSE NEIGHBOUR: 'it returns false'. Refute it at one input. -/
def fnExactEightBackWrong : ChangeSpec := { name := "fnExactEightBack", fn := fun _ => fun
  | [d] => { results := [.lit (.bool false)], args := [d] }
  | _ => none }
def FnExactEightBackWrongFalsely : Prop := fnExactEightBackRow.holds Try.pinned (OpenSpec.ofChange fnExactEightBackWrong)

/- THE SECOND FORM. 'bulk': how many values and letters a reading holds, each counted each time it is reached (what is shared counts as often as it is met; a slice's spare places count too). A statement '..UptoSaid' is the law's where the arguments, and the package variables that the reading takes, are together of bulk at most 1048576: NARROWER than '..Said'. Prove '..Said' where nothing that the law and all that it calls make is longer than what came in: it says more and counts as full. Else prove '..UptoSaid'. A law counts once. -/
mutual
def uptoBulk {H : Type} : DataW H → Nat
  | .lit (.string bytes) => bytes.length + 1
  | .lit _ => 1
  | .nil => 1
  | .ptr d => uptoBulk d + 1
  | .slice elems spare => uptoBulkAll elems + uptoBulkAll spare + 1
  | .agg parts => uptoBulkAll parts + 1
  | .iface _ d => uptoBulk d + 1
  | .map entries => uptoBulkEntries entries + 1
  | .held _ => 1
def uptoBulkAll {H : Type} : List (DataW H) → Nat
  | [] => 0
  | d :: r => uptoBulk d + uptoBulkAll r
def uptoBulkEntries {H : Type} : List (Lit × DataW H) → Nat
  | [] => 0
  | x :: r => uptoBulkEntry x + uptoBulkEntries r
def uptoBulkEntry {H : Type} : Lit × DataW H → Nat
  | (.string bytes, d) => bytes.length + uptoBulk d + 1
  | (_, d) => uptoBulk d + 1
 end
def uptoSmall : (H : Type) → List (DataW H) → Bool := fun _ ds => decide (uptoBulkAll ds ≤ 1048576)
def OpenSpec.upto (s : _root_.Go.ChangeSpec) : _root_.Go.OpenSpec := { _root_.Go.OpenSpec.ofChange s with cond := some uptoSmall }

/-- 'laws.FnExactShareOf', WHERE WHAT IT READS IS OF BULK AT MOST 1048576: true; the input reads as it did. -/
def fnExactShareOfUptoRow : OpenClaim := { program := "ythoifppjjdmoaaa", sum := "7b65f5820b6b7ae3e814c94160f57944f747da2de7b3405a244dcd2a5076ad25", func := "loop.example/g00960/laws.FnExactShareOf", spec := "fnExactShareOf", apart := false, narrowed := true }
def FnExactShareOfUptoSaid : Prop := fnExactShareOfUptoRow.holds Try.pinned (OpenSpec.upto fnExactShareOfSpec)

/-- 'laws.FnExactScaleOf', WHERE WHAT IT READS IS OF BULK AT MOST 1048576: true; the input reads as it did. -/
def fnExactScaleOfUptoRow : OpenClaim := { program := "ythoifppjjdmoaaa", sum := "7b65f5820b6b7ae3e814c94160f57944f747da2de7b3405a244dcd2a5076ad25", func := "loop.example/g00960/laws.FnExactScaleOf", spec := "fnExactScaleOf", apart := false, narrowed := true }
def FnExactScaleOfUptoSaid : Prop := fnExactScaleOfUptoRow.holds Try.pinned (OpenSpec.upto fnExactScaleOfSpec)

/-- 'laws.FnExactSmallBack', WHERE WHAT IT READS IS OF BULK AT MOST 1048576: true; the input reads as it did. -/
def fnExactSmallBackUptoRow : OpenClaim := { program := "ythoifppjjdmoaaa", sum := "7b65f5820b6b7ae3e814c94160f57944f747da2de7b3405a244dcd2a5076ad25", func := "loop.example/g00960/laws.FnExactSmallBack", spec := "fnExactSmallBack", apart := false, narrowed := true }
def FnExactSmallBackUptoSaid : Prop := fnExactSmallBackUptoRow.holds Try.pinned (OpenSpec.upto fnExactSmallBackSpec)

/-- 'laws.FnMoreIsMore', WHERE WHAT IT READS IS OF BULK AT MOST 1048576: true; the input reads as it did. -/
def fnMoreIsMoreUptoRow : OpenClaim := { program := "ythoifppjjdmoaaa", sum := "7b65f5820b6b7ae3e814c94160f57944f747da2de7b3405a244dcd2a5076ad25", func := "loop.example/g00960/laws.FnMoreIsMore", spec := "fnMoreIsMore", apart := false, narrowed := true }
def FnMoreIsMoreUptoSaid : Prop := fnMoreIsMoreUptoRow.holds Try.pinned (OpenSpec.upto fnMoreIsMoreSpec)

/-- 'laws.FnExactSmallLevel', WHERE WHAT IT READS IS OF BULK AT MOST 1048576: true; the input reads as it did. -/
def fnExactSmallLevelUptoRow : OpenClaim := { program := "ythoifppjjdmoaaa", sum := "7b65f5820b6b7ae3e814c94160f57944f747da2de7b3405a244dcd2a5076ad25", func := "loop.example/g00960/laws.FnExactSmallLevel", spec := "fnExactSmallLevel", apart := false, narrowed := true }
def FnExactSmallLevelUptoSaid : Prop := fnExactSmallLevelUptoRow.holds Try.pinned (OpenSpec.upto fnExactSmallLevelSpec)

/-- 'laws.FnSteps', WHERE WHAT IT READS IS OF BULK AT MOST 1048576: true; the input reads as it did. -/
def fnStepsUptoRow : OpenClaim := { program := "ythoifppjjdmoaaa", sum := "7b65f5820b6b7ae3e814c94160f57944f747da2de7b3405a244dcd2a5076ad25", func := "loop.example/g00960/laws.FnSteps", spec := "fnSteps", apart := false, narrowed := true }
def FnStepsUptoSaid : Prop := fnStepsUptoRow.holds Try.pinned (OpenSpec.upto fnStepsSpec)

/-- 'laws.FnExactReadLevels', WHERE WHAT IT READS IS OF BULK AT MOST 1048576: true; the input reads as it did. -/
def fnExactReadLevelsUptoRow : OpenClaim := { program := "ythoifppjjdmoaaa", sum := "7b65f5820b6b7ae3e814c94160f57944f747da2de7b3405a244dcd2a5076ad25", func := "loop.example/g00960/laws.FnExactReadLevels", spec := "fnExactReadLevels", apart := false, narrowed := true }
def FnExactReadLevelsUptoSaid : Prop := fnExactReadLevelsUptoRow.holds Try.pinned (OpenSpec.upto fnExactReadLevelsSpec)

/-- 'laws.FnRuns', WHERE WHAT IT READS IS OF BULK AT MOST 1048576: true; the input reads as it did. -/
def fnRunsUptoRow : OpenClaim := { program := "ythoifppjjdmoaaa", sum := "7b65f5820b6b7ae3e814c94160f57944f747da2de7b3405a244dcd2a5076ad25", func := "loop.example/g00960/laws.FnRuns", spec := "fnRuns", apart := false, narrowed := true }
def FnRunsUptoSaid : Prop := fnRunsUptoRow.holds Try.pinned (OpenSpec.upto fnRunsSpec)

/-- 'laws.FnExactReadTile', WHERE WHAT IT READS IS OF BULK AT MOST 1048576: true; the input reads as it did. -/
def fnExactReadTileUptoRow : OpenClaim := { program := "ythoifppjjdmoaaa", sum := "7b65f5820b6b7ae3e814c94160f57944f747da2de7b3405a244dcd2a5076ad25", func := "loop.example/g00960/laws.FnExactReadTile", spec := "fnExactReadTile", apart := false, narrowed := true }
def FnExactReadTileUptoSaid : Prop := fnExactReadTileUptoRow.holds Try.pinned (OpenSpec.upto fnExactReadTileSpec)

/-- 'laws.FnExactSquareRow', WHERE WHAT IT READS IS OF BULK AT MOST 1048576: true; the input reads as it did. -/
def fnExactSquareRowUptoRow : OpenClaim := { program := "ythoifppjjdmoaaa", sum := "7b65f5820b6b7ae3e814c94160f57944f747da2de7b3405a244dcd2a5076ad25", func := "loop.example/g00960/laws.FnExactSquareRow", spec := "fnExactSquareRow", apart := false, narrowed := true }
def FnExactSquareRowUptoSaid : Prop := fnExactSquareRowUptoRow.holds Try.pinned (OpenSpec.upto fnExactSquareRowSpec)

/-- 'laws.FnExactSquareSize', WHERE WHAT IT READS IS OF BULK AT MOST 1048576: true; the input reads as it did. -/
def fnExactSquareSizeUptoRow : OpenClaim := { program := "ythoifppjjdmoaaa", sum := "7b65f5820b6b7ae3e814c94160f57944f747da2de7b3405a244dcd2a5076ad25", func := "loop.example/g00960/laws.FnExactSquareSize", spec := "fnExactSquareSize", apart := false, narrowed := true }
def FnExactSquareSizeUptoSaid : Prop := fnExactSquareSizeUptoRow.holds Try.pinned (OpenSpec.upto fnExactSquareSizeSpec)

/-- 'laws.FnExactEightBack', WHERE WHAT IT READS IS OF BULK AT MOST 1048576: true; the input reads as it did. -/
def fnExactEightBackUptoRow : OpenClaim := { program := "ythoifppjjdmoaaa", sum := "7b65f5820b6b7ae3e814c94160f57944f747da2de7b3405a244dcd2a5076ad25", func := "loop.example/g00960/laws.FnExactEightBack", spec := "fnExactEightBack", apart := false, narrowed := true }
def FnExactEightBackUptoSaid : Prop := fnExactEightBackUptoRow.holds Try.pinned (OpenSpec.upto fnExactEightBackSpec)

end Rows
end Go.Proofs.Ythoifppjjdmoaaa
