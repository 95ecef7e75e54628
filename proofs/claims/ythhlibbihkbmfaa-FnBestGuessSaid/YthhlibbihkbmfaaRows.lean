/-
  No cell of these rows narrows 'for every input' (looked for: loops, veiled, ifaces, maps, wideKeys, modest, calm, conditions, laid).
  DERIVED. THE GIVEN ROWS OF THIS SEAT. 10 by the template 'for every input the law returns true; each argument reads behind the call as it read before'; 0 by the template 'total and deterministic' (their statements: YthhlibbihkbmfaaTotals.lean).
  GIVEN WITH THE SEED: the statements are not yours to turn. If you find one false, say at which input.
  Laid BY PROGRAM, IN A SANDBOX (cutbox-rows.mjs): the forced cells as the released guide's own fill.sh prints them over the translation 14a4d1bf49463dbd… (all of the seat's roots in one cut). By AI agents, Wed Nov 11 2026. No macro, syntax, notation, axiom, sorry.
-/
import Derived.Test.YthhlibbihkbmfaaChecked
import GoSem.Claim
import GoSem.ClaimJoined
import GoSem.ClaimMapViews
import Derived.JoinedTies
import Derived.KernelRfl
namespace Go.Proofs.Ythhlibbihkbmfaa
/- THE CELL 'sum', in the pinned program and in every row, IS THE sha256 OF THE DUMP (.gsa) THAT YthhlibbihkbmfaaProg.lean LOADS. Nothing in Lean hashes anything: it is a label: what it is worth is what the hold of that sum in a sandbox is worth. -/
noncomputable def Try.pinned : Pinned := { name := "ythhlibbihkbmfaa", sum := "14a4d1bf49463dbddf9ddca57cb8c65f7225bff27243be1ef81d72f564fd30cb", checked := Try.checked }
namespace Rows
def none {H : Type} : Left H := { results := [], args := [] }

/-- 'laws.FnExactTileRow': WHATEVER THE INPUT: true; the input reads as it did. -/
def fnExactTileRowSpec : ChangeSpec := { name := "fnExactTileRow", fn := fun _ => fun
  | [d1, d2] => { results := [.lit (.bool true)], args := [d1, d2] }
  | _ => none }
def fnExactTileRowRow : OpenClaim := { program := "ythhlibbihkbmfaa", sum := "14a4d1bf49463dbddf9ddca57cb8c65f7225bff27243be1ef81d72f564fd30cb", func := "loop.example/g00960/laws.FnExactTileRow", spec := "fnExactTileRow", apart := false }
def FnExactTileRowSaid : Prop := fnExactTileRowRow.holds Try.pinned (OpenSpec.ofChange fnExactTileRowSpec)

/-- ITS FALSE NEIGHBOUR: 'it returns false'. Refute it at one input. -/
def fnExactTileRowWrong : ChangeSpec := { name := "fnExactTileRow", fn := fun _ => fun
  | [d1, d2] => { results := [.lit (.bool false)], args := [d1, d2] }
  | _ => none }
def FnExactTileRowWrongFalsely : Prop := fnExactTileRowRow.holds Try.pinned (OpenSpec.ofChange fnExactTileRowWrong)

/-- 'laws.FnExactReadSquare': WHATEVER THE INPUT: true; the input reads as it did. -/
def fnExactReadSquareSpec : ChangeSpec := { name := "fnExactReadSquare", fn := fun _ => fun
  | [d1, d2, d3] => { results := [.lit (.bool true)], args := [d1, d2, d3] }
  | _ => none }
def fnExactReadSquareRow : OpenClaim := { program := "ythhlibbihkbmfaa", sum := "14a4d1bf49463dbddf9ddca57cb8c65f7225bff27243be1ef81d72f564fd30cb", func := "loop.example/g00960/laws.FnExactReadSquare", spec := "fnExactReadSquare", apart := false }
def FnExactReadSquareSaid : Prop := fnExactReadSquareRow.holds Try.pinned (OpenSpec.ofChange fnExactReadSquareSpec)

/-- ITS FALSE NEIGHBOUR: 'it returns false'. Refute it at one input. -/
def fnExactReadSquareWrong : ChangeSpec := { name := "fnExactReadSquare", fn := fun _ => fun
  | [d1, d2, d3] => { results := [.lit (.bool false)], args := [d1, d2, d3] }
  | _ => none }
def FnExactReadSquareWrongFalsely : Prop := fnExactReadSquareRow.holds Try.pinned (OpenSpec.ofChange fnExactReadSquareWrong)

/-- 'laws.FnBestGuess': WHATEVER THE INPUT: true; the input reads as it did. -/
def fnBestGuessSpec : ChangeSpec := { name := "fnBestGuess", fn := fun _ => fun
  | [d] => { results := [.lit (.bool true)], args := [d] }
  | _ => none }
def fnBestGuessRow : OpenClaim := { program := "ythhlibbihkbmfaa", sum := "14a4d1bf49463dbddf9ddca57cb8c65f7225bff27243be1ef81d72f564fd30cb", func := "loop.example/g00960/laws.FnBestGuess", spec := "fnBestGuess", apart := false }
def FnBestGuessSaid : Prop := fnBestGuessRow.holds Try.pinned (OpenSpec.ofChange fnBestGuessSpec)

/-- ITS FALSE NEIGHBOUR: 'it returns false'. Refute it at one input. -/
def fnBestGuessWrong : ChangeSpec := { name := "fnBestGuess", fn := fun _ => fun
  | [d] => { results := [.lit (.bool false)], args := [d] }
  | _ => none }
def FnBestGuessWrongFalsely : Prop := fnBestGuessRow.holds Try.pinned (OpenSpec.ofChange fnBestGuessWrong)

/-- 'laws.FnTileRows': WHATEVER THE INPUT: true; the input reads as it did. -/
def fnTileRowsSpec : ChangeSpec := { name := "fnTileRows", fn := fun _ => fun
  | [d] => { results := [.lit (.bool true)], args := [d] }
  | _ => none }
def fnTileRowsRow : OpenClaim := { program := "ythhlibbihkbmfaa", sum := "14a4d1bf49463dbddf9ddca57cb8c65f7225bff27243be1ef81d72f564fd30cb", func := "loop.example/g00960/laws.FnTileRows", spec := "fnTileRows", apart := false }
def FnTileRowsSaid : Prop := fnTileRowsRow.holds Try.pinned (OpenSpec.ofChange fnTileRowsSpec)

/-- ITS FALSE NEIGHBOUR: 'it returns false'. Refute it at one input. -/
def fnTileRowsWrong : ChangeSpec := { name := "fnTileRows", fn := fun _ => fun
  | [d] => { results := [.lit (.bool false)], args := [d] }
  | _ => none }
def FnTileRowsWrongFalsely : Prop := fnTileRowsRow.holds Try.pinned (OpenSpec.ofChange fnTileRowsWrong)

/-- 'laws.FnExactReadTile': WHATEVER THE INPUT: true; the input reads as it did. -/
def fnExactReadTileSpec : ChangeSpec := { name := "fnExactReadTile", fn := fun _ => fun
  | [d1, d2, d3, d4] => { results := [.lit (.bool true)], args := [d1, d2, d3, d4] }
  | _ => none }
def fnExactReadTileRow : OpenClaim := { program := "ythhlibbihkbmfaa", sum := "14a4d1bf49463dbddf9ddca57cb8c65f7225bff27243be1ef81d72f564fd30cb", func := "loop.example/g00960/laws.FnExactReadTile", spec := "fnExactReadTile", apart := false }
def FnExactReadTileSaid : Prop := fnExactReadTileRow.holds Try.pinned (OpenSpec.ofChange fnExactReadTileSpec)

/-- ITS FALSE NEIGHBOUR: 'it returns false'. Refute it at one input. -/
def fnExactReadTileWrong : ChangeSpec := { name := "fnExactReadTile", fn := fun _ => fun
  | [d1, d2, d3, d4] => { results := [.lit (.bool false)], args := [d1, d2, d3, d4] }
  | _ => none }
def FnExactReadTileWrongFalsely : Prop := fnExactReadTileRow.holds Try.pinned (OpenSpec.ofChange fnExactReadTileWrong)

/-- 'laws.FnLevelRows': WHATEVER THE INPUT: true; the input reads as it did. -/
def fnLevelRowsSpec : ChangeSpec := { name := "fnLevelRows", fn := fun _ => fun
  | [d] => { results := [.lit (.bool true)], args := [d] }
  | _ => none }
def fnLevelRowsRow : OpenClaim := { program := "ythhlibbihkbmfaa", sum := "14a4d1bf49463dbddf9ddca57cb8c65f7225bff27243be1ef81d72f564fd30cb", func := "loop.example/g00960/laws.FnLevelRows", spec := "fnLevelRows", unfollowed := true, recurses := true, apart := false }
def FnLevelRowsSaid : Prop := fnLevelRowsRow.holds Try.pinned (OpenSpec.ofChange fnLevelRowsSpec)

/-- ITS FALSE NEIGHBOUR: 'it returns false'. Refute it at one input. -/
def fnLevelRowsWrong : ChangeSpec := { name := "fnLevelRows", fn := fun _ => fun
  | [d] => { results := [.lit (.bool false)], args := [d] }
  | _ => none }
def FnLevelRowsWrongFalsely : Prop := fnLevelRowsRow.holds Try.pinned (OpenSpec.ofChange fnLevelRowsWrong)

/-- 'laws.FnExactLevelsOf': WHATEVER THE INPUT: true; the input reads as it did. -/
def fnExactLevelsOfSpec : ChangeSpec := { name := "fnExactLevelsOf", fn := fun _ => fun
  | [d1, d2] => { results := [.lit (.bool true)], args := [d1, d2] }
  | _ => none }
def fnExactLevelsOfRow : OpenClaim := { program := "ythhlibbihkbmfaa", sum := "14a4d1bf49463dbddf9ddca57cb8c65f7225bff27243be1ef81d72f564fd30cb", func := "loop.example/g00960/laws.FnExactLevelsOf", spec := "fnExactLevelsOf", unfollowed := true, recurses := true, apart := false }
def FnExactLevelsOfSaid : Prop := fnExactLevelsOfRow.holds Try.pinned (OpenSpec.ofChange fnExactLevelsOfSpec)

/-- ITS FALSE NEIGHBOUR: 'it returns false'. Refute it at one input. -/
def fnExactLevelsOfWrong : ChangeSpec := { name := "fnExactLevelsOf", fn := fun _ => fun
  | [d1, d2] => { results := [.lit (.bool false)], args := [d1, d2] }
  | _ => none }
def FnExactLevelsOfWrongFalsely : Prop := fnExactLevelsOfRow.holds Try.pinned (OpenSpec.ofChange fnExactLevelsOfWrong)

/-- 'laws.FnExactLevelsBack': WHATEVER THE INPUT: true; the input reads as it did. -/
def fnExactLevelsBackSpec : ChangeSpec := { name := "fnExactLevelsBack", fn := fun _ => fun
  | [d1, d2] => { results := [.lit (.bool true)], args := [d1, d2] }
  | _ => none }
def fnExactLevelsBackRow : OpenClaim := { program := "ythhlibbihkbmfaa", sum := "14a4d1bf49463dbddf9ddca57cb8c65f7225bff27243be1ef81d72f564fd30cb", func := "loop.example/g00960/laws.FnExactLevelsBack", spec := "fnExactLevelsBack", unfollowed := true, recurses := true, apart := false }
def FnExactLevelsBackSaid : Prop := fnExactLevelsBackRow.holds Try.pinned (OpenSpec.ofChange fnExactLevelsBackSpec)

/-- ITS FALSE NEIGHBOUR: 'it returns false'. Refute it at one input. -/
def fnExactLevelsBackWrong : ChangeSpec := { name := "fnExactLevelsBack", fn := fun _ => fun
  | [d1, d2] => { results := [.lit (.bool false)], args := [d1, d2] }
  | _ => none }
def FnExactLevelsBackWrongFalsely : Prop := fnExactLevelsBackRow.holds Try.pinned (OpenSpec.ofChange fnExactLevelsBackWrong)

/-- 'laws.FnSkips': WHATEVER THE INPUT: true; the input reads as it did. -/
def fnSkipsSpec : ChangeSpec := { name := "fnSkips", fn := fun _ => fun
  | [d] => { results := [.lit (.bool true)], args := [d] }
  | _ => none }
def fnSkipsRow : OpenClaim := { program := "ythhlibbihkbmfaa", sum := "14a4d1bf49463dbddf9ddca57cb8c65f7225bff27243be1ef81d72f564fd30cb", func := "loop.example/g00960/laws.FnSkips", spec := "fnSkips", unfollowed := true, recurses := true, apart := false }
def FnSkipsSaid : Prop := fnSkipsRow.holds Try.pinned (OpenSpec.ofChange fnSkipsSpec)

/-- ITS FALSE NEIGHBOUR: 'it returns false'. Refute it at one input. -/
def fnSkipsWrong : ChangeSpec := { name := "fnSkips", fn := fun _ => fun
  | [d] => { results := [.lit (.bool false)], args := [d] }
  | _ => none }
def FnSkipsWrongFalsely : Prop := fnSkipsRow.holds Try.pinned (OpenSpec.ofChange fnSkipsWrong)

/-- 'laws.FnExactSquareDots': WHATEVER THE INPUT: true; the input reads as it did. -/
def fnExactSquareDotsSpec : ChangeSpec := { name := "fnExactSquareDots", fn := fun _ => fun
  | [d1, d2, d3, d4, d5, d6, d7, d8] => { results := [.lit (.bool true)], args := [d1, d2, d3, d4, d5, d6, d7, d8] }
  | _ => none }
def fnExactSquareDotsRow : OpenClaim := { program := "ythhlibbihkbmfaa", sum := "14a4d1bf49463dbddf9ddca57cb8c65f7225bff27243be1ef81d72f564fd30cb", func := "loop.example/g00960/laws.FnExactSquareDots", spec := "fnExactSquareDots", unfollowed := true, recurses := true, apart := false }
def FnExactSquareDotsSaid : Prop := fnExactSquareDotsRow.holds Try.pinned (OpenSpec.ofChange fnExactSquareDotsSpec)

/-- ITS FALSE NEIGHBOUR: 'it returns false'. Refute it at one input. -/
def fnExactSquareDotsWrong : ChangeSpec := { name := "fnExactSquareDots", fn := fun _ => fun
  | [d1, d2, d3, d4, d5, d6, d7, d8] => { results := [.lit (.bool false)], args := [d1, d2, d3, d4, d5, d6, d7, d8] }
  | _ => none }
def FnExactSquareDotsWrongFalsely : Prop := fnExactSquareDotsRow.holds Try.pinned (OpenSpec.ofChange fnExactSquareDotsWrong)

/- THE SECOND FORM. 'bulk': how many values and letters a reading holds, each counted each time it is reached (what is shared counts as often as it is met; a slice's spare places count too). A statement '..UptoSaid' is the law's where the arguments, and the package variables that the reading takes, are together of bulk at most 1048576: NARROWER than '..Said'. Prove '..Said' where nothing that the law and all that it calls make is longer than what came in: it says more and counts as full. Else prove '..UptoSaid'. A law counts once. -/
mutual
def uptoBulk {H : Type} : DataW H → Nat
  | .lit (.string bytes) => bytes.length + 1
  | .lit _ => 1
  | .nil => 1
  | .ptr d => uptoBulk d + 1
  | .slice elems spare => uptoBulkAll elems + uptoBulkAll spare + 1
  | .agg parts => uptoBulkAll parts + 1
  | .iface _ d => uptoBulk d + 1
  | .map entries => uptoBulkEntries entries + 1
  | .held _ => 1
def uptoBulkAll {H : Type} : List (DataW H) → Nat
  | [] => 0
  | d :: r => uptoBulk d + uptoBulkAll r
def uptoBulkEntries {H : Type} : List (Lit × DataW H) → Nat
  | [] => 0
  | x :: r => uptoBulkEntry x + uptoBulkEntries r
def uptoBulkEntry {H : Type} : Lit × DataW H → Nat
  | (.string bytes, d) => bytes.length + uptoBulk d + 1
  | (_, d) => uptoBulk d + 1
 end
def uptoSmall : (H : Type) → List (DataW H) → Bool := fun _ ds => decide (uptoBulkAll ds ≤ 1048576)
def OpenSpec.upto (s : _root_.Go.ChangeSpec) : _root_.Go.OpenSpec := { _root_.Go.OpenSpec.ofChange s with cond := some uptoSmall }

/-- 'laws.FnExactTileRow', WHERE WHAT IT READS IS OF BULK AT MOST 1048576: true; the input reads as it did. -/
def fnExactTileRowUptoRow : OpenClaim := { program := "ythhlibbihkbmfaa", sum := "14a4d1bf49463dbddf9ddca57cb8c65f7225bff27243be1ef81d72f564fd30cb", func := "loop.example/g00960/laws.FnExactTileRow", spec := "fnExactTileRow", apart := false, narrowed := true }
def FnExactTileRowUptoSaid : Prop := fnExactTileRowUptoRow.holds Try.pinned (OpenSpec.upto fnExactTileRowSpec)

/-- 'laws.FnExactReadSquare', WHERE WHAT IT READS IS OF BULK AT MOST 1048576: true; the input reads as it did. -/
def fnExactReadSquareUptoRow : OpenClaim := { program := "ythhlibbihkbmfaa", sum := "14a4d1bf49463dbddf9ddca57cb8c65f7225bff27243be1ef81d72f564fd30cb", func := "loop.example/g00960/laws.FnExactReadSquare", spec := "fnExactReadSquare", apart := false, narrowed := true }
def FnExactReadSquareUptoSaid : Prop := fnExactReadSquareUptoRow.holds Try.pinned (OpenSpec.upto fnExactReadSquareSpec)

/-- 'laws.FnBestGuess', WHERE WHAT IT READS IS OF BULK AT MOST 1048576: true; the input reads as it did. -/
def fnBestGuessUptoRow : OpenClaim := { program := "ythhlibbihkbmfaa", sum := "14a4d1bf49463dbddf9ddca57cb8c65f7225bff27243be1ef81d72f564fd30cb", func := "loop.example/g00960/laws.FnBestGuess", spec := "fnBestGuess", apart := false, narrowed := true }
def FnBestGuessUptoSaid : Prop := fnBestGuessUptoRow.holds Try.pinned (OpenSpec.upto fnBestGuessSpec)

/-- 'laws.FnTileRows', WHERE WHAT IT READS IS OF BULK AT MOST 1048576: true; the input reads as it did. -/
def fnTileRowsUptoRow : OpenClaim := { program := "ythhlibbihkbmfaa", sum := "14a4d1bf49463dbddf9ddca57cb8c65f7225bff27243be1ef81d72f564fd30cb", func := "loop.example/g00960/laws.FnTileRows", spec := "fnTileRows", apart := false, narrowed := true }
def FnTileRowsUptoSaid : Prop := fnTileRowsUptoRow.holds Try.pinned (OpenSpec.upto fnTileRowsSpec)

/-- 'laws.FnExactReadTile', WHERE WHAT IT READS IS OF BULK AT MOST 1048576: true; the input reads as it did. -/
def fnExactReadTileUptoRow : OpenClaim := { program := "ythhlibbihkbmfaa", sum := "14a4d1bf49463dbddf9ddca57cb8c65f7225bff27243be1ef81d72f564fd30cb", func := "loop.example/g00960/laws.FnExactReadTile", spec := "fnExactReadTile", apart := false, narrowed := true }
def FnExactReadTileUptoSaid : Prop := fnExactReadTileUptoRow.holds Try.pinned (OpenSpec.upto fnExactReadTileSpec)

/-- 'laws.FnLevelRows', WHERE WHAT IT READS IS OF BULK AT MOST 1048576: true; the input reads as it did. -/
def fnLevelRowsUptoRow : OpenClaim := { program := "ythhlibbihkbmfaa", sum := "14a4d1bf49463dbddf9ddca57cb8c65f7225bff27243be1ef81d72f564fd30cb", func := "loop.example/g00960/laws.FnLevelRows", spec := "fnLevelRows", unfollowed := true, recurses := true, apart := false, narrowed := true }
def FnLevelRowsUptoSaid : Prop := fnLevelRowsUptoRow.holds Try.pinned (OpenSpec.upto fnLevelRowsSpec)

/-- 'laws.FnExactLevelsOf', WHERE WHAT IT READS IS OF BULK AT MOST 1048576: true; the input reads as it did. -/
def fnExactLevelsOfUptoRow : OpenClaim := { program := "ythhlibbihkbmfaa", sum := "14a4d1bf49463dbddf9ddca57cb8c65f7225bff27243be1ef81d72f564fd30cb", func := "loop.example/g00960/laws.FnExactLevelsOf", spec := "fnExactLevelsOf", unfollowed := true, recurses := true, apart := false, narrowed := true }
def FnExactLevelsOfUptoSaid : Prop := fnExactLevelsOfUptoRow.holds Try.pinned (OpenSpec.upto fnExactLevelsOfSpec)

/-- 'laws.FnExactLevelsBack', WHERE WHAT IT READS IS OF BULK AT MOST 1048576: true; the input reads as it did. -/
def fnExactLevelsBackUptoRow : OpenClaim := { program := "ythhlibbihkbmfaa", sum := "14a4d1bf49463dbddf9ddca57cb8c65f7225bff27243be1ef81d72f564fd30cb", func := "loop.example/g00960/laws.FnExactLevelsBack", spec := "fnExactLevelsBack", unfollowed := true, recurses := true, apart := false, narrowed := true }
def FnExactLevelsBackUptoSaid : Prop := fnExactLevelsBackUptoRow.holds Try.pinned (OpenSpec.upto fnExactLevelsBackSpec)

/-- 'laws.FnSkips', WHERE WHAT IT READS IS OF BULK AT MOST 1048576: true; the input reads as it did. -/
def fnSkipsUptoRow : OpenClaim := { program := "ythhlibbihkbmfaa", sum := "14a4d1bf49463dbddf9ddca57cb8c65f7225bff27243be1ef81d72f564fd30cb", func := "loop.example/g00960/laws.FnSkips", spec := "fnSkips", unfollowed := true, recurses := true, apart := false, narrowed := true }
def FnSkipsUptoSaid : Prop := fnSkipsUptoRow.holds Try.pinned (OpenSpec.upto fnSkipsSpec)

/-- 'laws.FnExactSquareDots', WHERE WHAT IT READS IS OF BULK AT MOST 1048576: true; the input reads as it did. -/
def fnExactSquareDotsUptoRow : OpenClaim := { program := "ythhlibbihkbmfaa", sum := "14a4d1bf49463dbddf9ddca57cb8c65f7225bff27243be1ef81d72f564fd30cb", func := "loop.example/g00960/laws.FnExactSquareDots", spec := "fnExactSquareDots", unfollowed := true, recurses := true, apart := false, narrowed := true }
def FnExactSquareDotsUptoSaid : Prop := fnExactSquareDotsUptoRow.holds Try.pinned (OpenSpec.upto fnExactSquareDotsSpec)

end Rows
end Go.Proofs.Ythhlibbihkbmfaa
