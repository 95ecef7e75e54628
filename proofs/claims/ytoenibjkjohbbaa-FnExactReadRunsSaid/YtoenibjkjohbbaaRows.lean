/-
  No cell of these rows narrows 'for every input' (looked for: loops, veiled, ifaces, maps, wideKeys, modest, calm, conditions, laid).
  DERIVED. THE GIVEN ROWS OF THIS SEAT. 12 by the template 'for every input the law returns true; each argument reads behind the call as it read before'; 0 by the template 'total and deterministic' (their statements: YtoenibjkjohbbaaTotals.lean).
  GIVEN WITH THE SEED: the statements are not yours to turn. If you find one false, say at which input.
  Laid BY PROGRAM, IN A SANDBOX (cutbox-rows.mjs): the forced cells as the released guide's own fill.sh prints them over the translation 012227949a33746d… (all of the seat's roots in one cut). By AI agents, Wed Nov 11 2026. No macro, syntax, notation, axiom, sorry.
-/
import Derived.Test.YtoenibjkjohbbaaChecked
import GoSem.Claim
import GoSem.ClaimJoined
import GoSem.ClaimMapViews
import Derived.JoinedTies
import Derived.KernelRfl
namespace Go.Proofs.Ytoenibjkjohbbaa
/- THE CELL 'sum', in the pinned program and in every row, IS THE sha256 OF THE DUMP (.gsa) THAT YtoenibjkjohbbaaProg.lean LOADS. Nothing in Lean hashes anything: it is a label: what it is worth is what the hold of that sum in a sandbox is worth. -/
noncomputable def Try.pinned : Pinned := { name := "ytoenibjkjohbbaa", sum := "012227949a33746dab7ceab060a747cdb79216438cc0ec5239c222b539868282", checked := Try.checked }
namespace Rows
def none {H : Type} : Left H := { results := [], args := [] }

/-- 'laws.FnExactRunsSize': WHATEVER THE INPUT: true; the input reads as it did. -/
def fnExactRunsSizeSpec : ChangeSpec := { name := "fnExactRunsSize", fn := fun _ => fun
  | [d] => { results := [.lit (.bool true)], args := [d] }
  | _ => none }
def fnExactRunsSizeRow : OpenClaim := { program := "ytoenibjkjohbbaa", sum := "012227949a33746dab7ceab060a747cdb79216438cc0ec5239c222b539868282", func := "loop.example/g00960/laws.FnExactRunsSize", spec := "fnExactRunsSize", apart := false }
def FnExactRunsSizeSaid : Prop := fnExactRunsSizeRow.holds Try.pinned (OpenSpec.ofChange fnExactRunsSizeSpec)

/-- ITS FALSE NEIGHBOUR: 'it returns false'. Refute it at one input. -/
def fnExactRunsSizeWrong : ChangeSpec := { name := "fnExactRunsSize", fn := fun _ => fun
  | [d] => { results := [.lit (.bool false)], args := [d] }
  | _ => none }
def FnExactRunsSizeWrongFalsely : Prop := fnExactRunsSizeRow.holds Try.pinned (OpenSpec.ofChange fnExactRunsSizeWrong)

/-- 'laws.FnExactEightBack': WHATEVER THE INPUT: true; the input reads as it did. -/
def fnExactEightBackSpec : ChangeSpec := { name := "fnExactEightBack", fn := fun _ => fun
  | [d] => { results := [.lit (.bool true)], args := [d] }
  | _ => none }
def fnExactEightBackRow : OpenClaim := { program := "ytoenibjkjohbbaa", sum := "012227949a33746dab7ceab060a747cdb79216438cc0ec5239c222b539868282", func := "loop.example/g00960/laws.FnExactEightBack", spec := "fnExactEightBack", apart := false }
def FnExactEightBackSaid : Prop := fnExactEightBackRow.holds Try.pinned (OpenSpec.ofChange fnExactEightBackSpec)

/-- ITS FALSE NEIGHBOUR: 'it returns false'. Refute it at one input. -/
def fnExactEightBackWrong : ChangeSpec := { name := "fnExactEightBack", fn := fun _ => fun
  | [d] => { results := [.lit (.bool false)], args := [d] }
  | _ => none }
def FnExactEightBackWrongFalsely : Prop := fnExactEightBackRow.holds Try.pinned (OpenSpec.ofChange fnExactEightBackWrong)

/-- 'laws.FnGuesses': WHATEVER THE INPUT: true; the input reads as it did. -/
def fnGuessesSpec : ChangeSpec := { name := "fnGuesses", fn := fun _ => fun
  | [d] => { results := [.lit (.bool true)], args := [d] }
  | _ => none }
def fnGuessesRow : OpenClaim := { program := "ytoenibjkjohbbaa", sum := "012227949a33746dab7ceab060a747cdb79216438cc0ec5239c222b539868282", func := "loop.example/g00960/laws.FnGuesses", spec := "fnGuesses", apart := false }
def FnGuessesSaid : Prop := fnGuessesRow.holds Try.pinned (OpenSpec.ofChange fnGuessesSpec)

/-- ITS FALSE NEIGHBOUR: 'it returns false'. Refute it at one input. -/
def fnGuessesWrong : ChangeSpec := { name := "fnGuesses", fn := fun _ => fun
  | [d] => { results := [.lit (.bool false)], args := [d] }
  | _ => none }
def FnGuessesWrongFalsely : Prop := fnGuessesRow.holds Try.pinned (OpenSpec.ofChange fnGuessesWrong)

/-- 'laws.FnExactLevelsRow': WHATEVER THE INPUT: true; the input reads as it did. -/
def fnExactLevelsRowSpec : ChangeSpec := { name := "fnExactLevelsRow", fn := fun _ => fun
  | [d1, d2] => { results := [.lit (.bool true)], args := [d1, d2] }
  | _ => none }
def fnExactLevelsRowRow : OpenClaim := { program := "ytoenibjkjohbbaa", sum := "012227949a33746dab7ceab060a747cdb79216438cc0ec5239c222b539868282", func := "loop.example/g00960/laws.FnExactLevelsRow", spec := "fnExactLevelsRow", apart := false }
def FnExactLevelsRowSaid : Prop := fnExactLevelsRowRow.holds Try.pinned (OpenSpec.ofChange fnExactLevelsRowSpec)

/-- ITS FALSE NEIGHBOUR: 'it returns false'. Refute it at one input. -/
def fnExactLevelsRowWrong : ChangeSpec := { name := "fnExactLevelsRow", fn := fun _ => fun
  | [d1, d2] => { results := [.lit (.bool false)], args := [d1, d2] }
  | _ => none }
def FnExactLevelsRowWrongFalsely : Prop := fnExactLevelsRowRow.holds Try.pinned (OpenSpec.ofChange fnExactLevelsRowWrong)

/-- 'laws.FnExactReadRuns': WHATEVER THE INPUT: true; the input reads as it did. -/
def fnExactReadRunsSpec : ChangeSpec := { name := "fnExactReadRuns", fn := fun _ => fun
  | [d1, d2, d3] => { results := [.lit (.bool true)], args := [d1, d2, d3] }
  | _ => none }
def fnExactReadRunsRow : OpenClaim := { program := "ytoenibjkjohbbaa", sum := "012227949a33746dab7ceab060a747cdb79216438cc0ec5239c222b539868282", func := "loop.example/g00960/laws.FnExactReadRuns", spec := "fnExactReadRuns", apart := false }
def FnExactReadRunsSaid : Prop := fnExactReadRunsRow.holds Try.pinned (OpenSpec.ofChange fnExactReadRunsSpec)

/-- ITS FALSE NEIGHBOUR: 'it returns false'. Refute it at one input. -/
def fnExactReadRunsWrong : ChangeSpec := { name := "fnExactReadRuns", fn := fun _ => fun
  | [d1, d2, d3] => { results := [.lit (.bool false)], args := [d1, d2, d3] }
  | _ => none }
def FnExactReadRunsWrongFalsely : Prop := fnExactReadRunsRow.holds Try.pinned (OpenSpec.ofChange fnExactReadRunsWrong)

/-- 'laws.FnExactGuessOf': WHATEVER THE INPUT: true; the input reads as it did. -/
def fnExactGuessOfSpec : ChangeSpec := { name := "fnExactGuessOf", fn := fun _ => fun
  | [d1, d2] => { results := [.lit (.bool true)], args := [d1, d2] }
  | _ => none }
def fnExactGuessOfRow : OpenClaim := { program := "ytoenibjkjohbbaa", sum := "012227949a33746dab7ceab060a747cdb79216438cc0ec5239c222b539868282", func := "loop.example/g00960/laws.FnExactGuessOf", spec := "fnExactGuessOf", apart := false }
def FnExactGuessOfSaid : Prop := fnExactGuessOfRow.holds Try.pinned (OpenSpec.ofChange fnExactGuessOfSpec)

/-- ITS FALSE NEIGHBOUR: 'it returns false'. Refute it at one input. -/
def fnExactGuessOfWrong : ChangeSpec := { name := "fnExactGuessOf", fn := fun _ => fun
  | [d1, d2] => { results := [.lit (.bool false)], args := [d1, d2] }
  | _ => none }
def FnExactGuessOfWrongFalsely : Prop := fnExactGuessOfRow.holds Try.pinned (OpenSpec.ofChange fnExactGuessOfWrong)

/-- 'laws.FnExactReadLevels': WHATEVER THE INPUT: true; the input reads as it did. -/
def fnExactReadLevelsSpec : ChangeSpec := { name := "fnExactReadLevels", fn := fun _ => fun
  | [d1, d2, d3] => { results := [.lit (.bool true)], args := [d1, d2, d3] }
  | _ => none }
def fnExactReadLevelsRow : OpenClaim := { program := "ytoenibjkjohbbaa", sum := "012227949a33746dab7ceab060a747cdb79216438cc0ec5239c222b539868282", func := "loop.example/g00960/laws.FnExactReadLevels", spec := "fnExactReadLevels", apart := false }
def FnExactReadLevelsSaid : Prop := fnExactReadLevelsRow.holds Try.pinned (OpenSpec.ofChange fnExactReadLevelsSpec)

/-- ITS FALSE NEIGHBOUR: 'it returns false'. Refute it at one input. -/
def fnExactReadLevelsWrong : ChangeSpec := { name := "fnExactReadLevels", fn := fun _ => fun
  | [d1, d2, d3] => { results := [.lit (.bool false)], args := [d1, d2, d3] }
  | _ => none }
def FnExactReadLevelsWrongFalsely : Prop := fnExactReadLevelsRow.holds Try.pinned (OpenSpec.ofChange fnExactReadLevelsWrong)

/-- 'laws.FnRuns': WHATEVER THE INPUT: true; the input reads as it did. -/
def fnRunsSpec : ChangeSpec := { name := "fnRuns", fn := fun _ => fun
  | [d] => { results := [.lit (.bool true)], args := [d] }
  | _ => none }
def fnRunsRow : OpenClaim := { program := "ytoenibjkjohbbaa", sum := "012227949a33746dab7ceab060a747cdb79216438cc0ec5239c222b539868282", func := "loop.example/g00960/laws.FnRuns", spec := "fnRuns", apart := false }
def FnRunsSaid : Prop := fnRunsRow.holds Try.pinned (OpenSpec.ofChange fnRunsSpec)

/-- ITS FALSE NEIGHBOUR: 'it returns false'. Refute it at one input. -/
def fnRunsWrong : ChangeSpec := { name := "fnRuns", fn := fun _ => fun
  | [d] => { results := [.lit (.bool false)], args := [d] }
  | _ => none }
def FnRunsWrongFalsely : Prop := fnRunsRow.holds Try.pinned (OpenSpec.ofChange fnRunsWrong)

/-- 'laws.FnExactSquareRow': WHATEVER THE INPUT: true; the input reads as it did. -/
def fnExactSquareRowSpec : ChangeSpec := { name := "fnExactSquareRow", fn := fun _ => fun
  | [d1, d2] => { results := [.lit (.bool true)], args := [d1, d2] }
  | _ => none }
def fnExactSquareRowRow : OpenClaim := { program := "ytoenibjkjohbbaa", sum := "012227949a33746dab7ceab060a747cdb79216438cc0ec5239c222b539868282", func := "loop.example/g00960/laws.FnExactSquareRow", spec := "fnExactSquareRow", apart := false }
def FnExactSquareRowSaid : Prop := fnExactSquareRowRow.holds Try.pinned (OpenSpec.ofChange fnExactSquareRowSpec)

/-- ITS FALSE NEIGHBOUR: 'it returns false'. Refute it at one input. -/
def fnExactSquareRowWrong : ChangeSpec := { name := "fnExactSquareRow", fn := fun _ => fun
  | [d1, d2] => { results := [.lit (.bool false)], args := [d1, d2] }
  | _ => none }
def FnExactSquareRowWrongFalsely : Prop := fnExactSquareRowRow.holds Try.pinned (OpenSpec.ofChange fnExactSquareRowWrong)

/-- 'laws.FnExactSquareSize': WHATEVER THE INPUT: true; the input reads as it did. -/
def fnExactSquareSizeSpec : ChangeSpec := { name := "fnExactSquareSize", fn := fun _ => fun
  | [d1, d2] => { results := [.lit (.bool true)], args := [d1, d2] }
  | _ => none }
def fnExactSquareSizeRow : OpenClaim := { program := "ytoenibjkjohbbaa", sum := "012227949a33746dab7ceab060a747cdb79216438cc0ec5239c222b539868282", func := "loop.example/g00960/laws.FnExactSquareSize", spec := "fnExactSquareSize", apart := false }
def FnExactSquareSizeSaid : Prop := fnExactSquareSizeRow.holds Try.pinned (OpenSpec.ofChange fnExactSquareSizeSpec)

/-- ITS FALSE NEIGHBOUR: 'it returns false'. Refute it at one input. -/
def fnExactSquareSizeWrong : ChangeSpec := { name := "fnExactSquareSize", fn := fun _ => fun
  | [d1, d2] => { results := [.lit (.bool false)], args := [d1, d2] }
  | _ => none }
def FnExactSquareSizeWrongFalsely : Prop := fnExactSquareSizeRow.holds Try.pinned (OpenSpec.ofChange fnExactSquareSizeWrong)

/-- 'laws.FnExactBestGuess': WHATEVER THE INPUT: true; the input reads as it did. -/
def fnExactBestGuessSpec : ChangeSpec := { name := "fnExactBestGuess", fn := fun _ => fun
  | [d1, d2] => { results := [.lit (.bool true)], args := [d1, d2] }
  | _ => none }
def fnExactBestGuessRow : OpenClaim := { program := "ytoenibjkjohbbaa", sum := "012227949a33746dab7ceab060a747cdb79216438cc0ec5239c222b539868282", func := "loop.example/g00960/laws.FnExactBestGuess", spec := "fnExactBestGuess", apart := false }
def FnExactBestGuessSaid : Prop := fnExactBestGuessRow.holds Try.pinned (OpenSpec.ofChange fnExactBestGuessSpec)

/-- ITS FALSE NEIGHBOUR: 'it returns false'. Refute it at one input. -/
def fnExactBestGuessWrong : ChangeSpec := { name := "fnExactBestGuess", fn := fun _ => fun
  | [d1, d2] => { results := [.lit (.bool false)], args := [d1, d2] }
  | _ => none }
def FnExactBestGuessWrongFalsely : Prop := fnExactBestGuessRow.holds Try.pinned (OpenSpec.ofChange fnExactBestGuessWrong)

/-- 'laws.FnSquares': WHATEVER THE INPUT: true; the input reads as it did. -/
def fnSquaresSpec : ChangeSpec := { name := "fnSquares", fn := fun _ => fun
  | [d] => { results := [.lit (.bool true)], args := [d] }
  | _ => none }
def fnSquaresRow : OpenClaim := { program := "ytoenibjkjohbbaa", sum := "012227949a33746dab7ceab060a747cdb79216438cc0ec5239c222b539868282", func := "loop.example/g00960/laws.FnSquares", spec := "fnSquares", apart := false }
def FnSquaresSaid : Prop := fnSquaresRow.holds Try.pinned (OpenSpec.ofChange fnSquaresSpec)

/-- ITS FALSE NEIGHBOUR: 'it returns false'. Refute it at one input. -/
def fnSquaresWrong : ChangeSpec := { name := "fnSquares", fn := fun _ => fun
  | [d] => { results := [.lit (.bool false)], args := [d] }
  | _ => none }
def FnSquaresWrongFalsely : Prop := fnSquaresRow.holds Try.pinned (OpenSpec.ofChange fnSquaresWrong)

/- THE SECOND FORM. 'bulk': how many values and letters a reading holds, each counted each time it is reached (what is shared counts as often as it is met; a slice's spare places count too). A statement '..UptoSaid' is the law's where the arguments, and the package variables that the reading takes, are together of bulk at most 1048576: NARROWER than '..Said'. Prove '..Said' where nothing that the law and all that it calls make is longer than what came in: it says more and counts as full. Else prove '..UptoSaid'. A law counts once. -/
mutual
def uptoBulk {H : Type} : DataW H → Nat
  | .lit (.string bytes) => bytes.length + 1
  | .lit _ => 1
  | .nil => 1
  | .ptr d => uptoBulk d + 1
  | .slice elems spare => uptoBulkAll elems + uptoBulkAll spare + 1
  | .agg parts => uptoBulkAll parts + 1
  | .iface _ d => uptoBulk d + 1
  | .map entries => uptoBulkEntries entries + 1
  | .held _ => 1
def uptoBulkAll {H : Type} : List (DataW H) → Nat
  | [] => 0
  | d :: r => uptoBulk d + uptoBulkAll r
def uptoBulkEntries {H : Type} : List (Lit × DataW H) → Nat
  | [] => 0
  | x :: r => uptoBulkEntry x + uptoBulkEntries r
def uptoBulkEntry {H : Type} : Lit × DataW H → Nat
  | (.string bytes, d) => bytes.length + uptoBulk d + 1
  | (_, d) => uptoBulk d + 1
 end
def uptoSmall : (H : Type) → List (DataW H) → Bool := fun _ ds => decide (uptoBulkAll ds ≤ 1048576)
def OpenSpec.upto (s : _root_.Go.ChangeSpec) : _root_.Go.OpenSpec := { _root_.Go.OpenSpec.ofChange s with cond := some uptoSmall }

/-- 'laws.FnExactRunsSize', WHERE WHAT IT READS IS OF BULK AT MOST 1048576: true; the input reads as it did. -/
def fnExactRunsSizeUptoRow : OpenClaim := { program := "ytoenibjkjohbbaa", sum := "012227949a33746dab7ceab060a747cdb79216438cc0ec5239c222b539868282", func := "loop.example/g00960/laws.FnExactRunsSize", spec := "fnExactRunsSize", apart := false, narrowed := true }
def FnExactRunsSizeUptoSaid : Prop := fnExactRunsSizeUptoRow.holds Try.pinned (OpenSpec.upto fnExactRunsSizeSpec)

/-- 'laws.FnExactEightBack', WHERE WHAT IT READS IS OF BULK AT MOST 1048576: true; the input reads as it did. -/
def fnExactEightBackUptoRow : OpenClaim := { program := "ytoenibjkjohbbaa", sum := "012227949a33746dab7ceab060a747cdb79216438cc0ec5239c222b539868282", func := "loop.example/g00960/laws.FnExactEightBack", spec := "fnExactEightBack", apart := false, narrowed := true }
def FnExactEightBackUptoSaid : Prop := fnExactEightBackUptoRow.holds Try.pinned (OpenSpec.upto fnExactEightBackSpec)

/-- 'laws.FnGuesses', WHERE WHAT IT READS IS OF BULK AT MOST 1048576: true; the input reads as it did. -/
def fnGuessesUptoRow : OpenClaim := { program := "ytoenibjkjohbbaa", sum := "012227949a33746dab7ceab060a747cdb79216438cc0ec5239c222b539868282", func := "loop.example/g00960/laws.FnGuesses", spec := "fnGuesses", apart := false, narrowed := true }
def FnGuessesUptoSaid : Prop := fnGuessesUptoRow.holds Try.pinned (OpenSpec.upto fnGuessesSpec)

/-- 'laws.FnExactLevelsRow', WHERE WHAT IT READS IS OF BULK AT MOST 1048576: true; the input reads as it did. -/
def fnExactLevelsRowUptoRow : OpenClaim := { program := "ytoenibjkjohbbaa", sum := "012227949a33746dab7ceab060a747cdb79216438cc0ec5239c222b539868282", func := "loop.example/g00960/laws.FnExactLevelsRow", spec := "fnExactLevelsRow", apart := false, narrowed := true }
def FnExactLevelsRowUptoSaid : Prop := fnExactLevelsRowUptoRow.holds Try.pinned (OpenSpec.upto fnExactLevelsRowSpec)

/-- 'laws.FnExactReadRuns', WHERE WHAT IT READS IS OF BULK AT MOST 1048576: true; the input reads as it did. -/
def fnExactReadRunsUptoRow : OpenClaim := { program := "ytoenibjkjohbbaa", sum := "012227949a33746dab7ceab060a747cdb79216438cc0ec5239c222b539868282", func := "loop.example/g00960/laws.FnExactReadRuns", spec := "fnExactReadRuns", apart := false, narrowed := true }
def FnExactReadRunsUptoSaid : Prop := fnExactReadRunsUptoRow.holds Try.pinned (OpenSpec.upto fnExactReadRunsSpec)

/-- 'laws.FnExactGuessOf', WHERE WHAT IT READS IS OF BULK AT MOST 1048576: true; the input reads as it did. -/
def fnExactGuessOfUptoRow : OpenClaim := { program := "ytoenibjkjohbbaa", sum := "012227949a33746dab7ceab060a747cdb79216438cc0ec5239c222b539868282", func := "loop.example/g00960/laws.FnExactGuessOf", spec := "fnExactGuessOf", apart := false, narrowed := true }
def FnExactGuessOfUptoSaid : Prop := fnExactGuessOfUptoRow.holds Try.pinned (OpenSpec.upto fnExactGuessOfSpec)

/-- 'laws.FnExactReadLevels', WHERE WHAT IT READS IS OF BULK AT MOST 1048576: true; the input reads as it did. -/
def fnExactReadLevelsUptoRow : OpenClaim := { program := "ytoenibjkjohbbaa", sum := "012227949a33746dab7ceab060a747cdb79216438cc0ec5239c222b539868282", func := "loop.example/g00960/laws.FnExactReadLevels", spec := "fnExactReadLevels", apart := false, narrowed := true }
def FnExactReadLevelsUptoSaid : Prop := fnExactReadLevelsUptoRow.holds Try.pinned (OpenSpec.upto fnExactReadLevelsSpec)

/-- 'laws.FnRuns', WHERE WHAT IT READS IS OF BULK AT MOST 1048576: true; the input reads as it did. -/
def fnRunsUptoRow : OpenClaim := { program := "ytoenibjkjohbbaa", sum := "012227949a33746dab7ceab060a747cdb79216438cc0ec5239c222b539868282", func := "loop.example/g00960/laws.FnRuns", spec := "fnRuns", apart := false, narrowed := true }
def FnRunsUptoSaid : Prop := fnRunsUptoRow.holds Try.pinned (OpenSpec.upto fnRunsSpec)

/-- 'laws.FnExactSquareRow', WHERE WHAT IT READS IS OF BULK AT MOST 1048576: true; the input reads as it did. -/
def fnExactSquareRowUptoRow : OpenClaim := { program := "ytoenibjkjohbbaa", sum := "012227949a33746dab7ceab060a747cdb79216438cc0ec5239c222b539868282", func := "loop.example/g00960/laws.FnExactSquareRow", spec := "fnExactSquareRow", apart := false, narrowed := true }
def FnExactSquareRowUptoSaid : Prop := fnExactSquareRowUptoRow.holds Try.pinned (OpenSpec.upto fnExactSquareRowSpec)

/-- 'laws.FnExactSquareSize', WHERE WHAT IT READS IS OF BULK AT MOST 1048576: true; the input reads as it did. -/
def fnExactSquareSizeUptoRow : OpenClaim := { program := "ytoenibjkjohbbaa", sum := "012227949a33746dab7ceab060a747cdb79216438cc0ec5239c222b539868282", func := "loop.example/g00960/laws.FnExactSquareSize", spec := "fnExactSquareSize", apart := false, narrowed := true }
def FnExactSquareSizeUptoSaid : Prop := fnExactSquareSizeUptoRow.holds Try.pinned (OpenSpec.upto fnExactSquareSizeSpec)

/-- 'laws.FnExactBestGuess', WHERE WHAT IT READS IS OF BULK AT MOST 1048576: true; the input reads as it did. -/
def fnExactBestGuessUptoRow : OpenClaim := { program := "ytoenibjkjohbbaa", sum := "012227949a33746dab7ceab060a747cdb79216438cc0ec5239c222b539868282", func := "loop.example/g00960/laws.FnExactBestGuess", spec := "fnExactBestGuess", apart := false, narrowed := true }
def FnExactBestGuessUptoSaid : Prop := fnExactBestGuessUptoRow.holds Try.pinned (OpenSpec.upto fnExactBestGuessSpec)

/-- 'laws.FnSquares', WHERE WHAT IT READS IS OF BULK AT MOST 1048576: true; the input reads as it did. -/
def fnSquaresUptoRow : OpenClaim := { program := "ytoenibjkjohbbaa", sum := "012227949a33746dab7ceab060a747cdb79216438cc0ec5239c222b539868282", func := "loop.example/g00960/laws.FnSquares", spec := "fnSquares", apart := false, narrowed := true }
def FnSquaresUptoSaid : Prop := fnSquaresUptoRow.holds Try.pinned (OpenSpec.upto fnSquaresSpec)

end Rows
end Go.Proofs.Ytoenibjkjohbbaa
