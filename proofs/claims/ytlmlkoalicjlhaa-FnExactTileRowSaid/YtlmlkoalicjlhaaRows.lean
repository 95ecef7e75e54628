/-
  No cell of these rows narrows 'for every input' (looked for: loops, veiled, ifaces, maps, wideKeys, modest, calm, conditions, laid).
  DERIVED. THE GIVEN ROWS OF THIS SEAT. 12 by the template 'for every input the law returns true; each argument reads behind the call as it read before'; 0 by the template 'total and deterministic' (their statements: YtlmlkoalicjlhaaTotals.lean).
  GIVEN WITH THE SEED: the statements are not yours to turn. If you find one false, say at which input.
  Laid BY PROGRAM, IN A SANDBOX (cutbox-rows.mjs): the forced cells as the released guide's own fill.sh prints them over the translation de13d6ac95a5999a… (all of the seat's roots in one cut). By AI agents, Wed Nov 11 2026. No macro, syntax, notation, axiom, sorry.
-/
import Derived.Test.YtlmlkoalicjlhaaChecked
import GoSem.Claim
import GoSem.ClaimJoined
import GoSem.ClaimMapViews
import Derived.JoinedTies
import Derived.KernelRfl
namespace Go.Proofs.Ytlmlkoalicjlhaa
/- THE CELL 'sum', in the pinned program and in every row, IS THE sha256 OF THE DUMP (.gsa) THAT YtlmlkoalicjlhaaProg.lean LOADS. Nothing in Lean hashes anything: it is a label: what it is worth is what the hold of that sum in a sandbox is worth. -/
noncomputable def Try.pinned : Pinned := { name := "ytlmlkoalicjlhaa", sum := "de13d6ac95a5999a82953dfe1ed7a6d85870d679234a5fcec7e2c6b65288729f", checked := Try.checked }
namespace Rows
def none {H : Type} : Left H := { results := [], args := [] }

/-- 'laws.FnEights': WHATEVER THE INPUT: true; the input reads as it did. -/
def fnEightsSpec : ChangeSpec := { name := "fnEights", fn := fun _ => fun
  | [d] => { results := [.lit (.bool true)], args := [d] }
  | _ => none }
def fnEightsRow : OpenClaim := { program := "ytlmlkoalicjlhaa", sum := "de13d6ac95a5999a82953dfe1ed7a6d85870d679234a5fcec7e2c6b65288729f", func := "loop.example/g00960/laws.FnEights", spec := "fnEights", apart := false }
def FnEightsSaid : Prop := fnEightsRow.holds Try.pinned (OpenSpec.ofChange fnEightsSpec)

/-- ITS FALSE NEIGHBOUR: 'it returns false'. Refute it at one input. -/
def fnEightsWrong : ChangeSpec := { name := "fnEights", fn := fun _ => fun
  | [d] => { results := [.lit (.bool false)], args := [d] }
  | _ => none }
def FnEightsWrongFalsely : Prop := fnEightsRow.holds Try.pinned (OpenSpec.ofChange fnEightsWrong)

/-- 'laws.FnExactFour': WHATEVER THE INPUT: true; the input reads as it did. -/
def fnExactFourSpec : ChangeSpec := { name := "fnExactFour", fn := fun _ => fun
  | [d] => { results := [.lit (.bool true)], args := [d] }
  | _ => none }
def fnExactFourRow : OpenClaim := { program := "ytlmlkoalicjlhaa", sum := "de13d6ac95a5999a82953dfe1ed7a6d85870d679234a5fcec7e2c6b65288729f", func := "loop.example/g00960/laws.FnExactFour", spec := "fnExactFour", unfollowed := true, recurses := true, apart := false }
def FnExactFourSaid : Prop := fnExactFourRow.holds Try.pinned (OpenSpec.ofChange fnExactFourSpec)

/-- ITS FALSE NEIGHBOUR: 'it returns false'. Refute it at one input. -/
def fnExactFourWrong : ChangeSpec := { name := "fnExactFour", fn := fun _ => fun
  | [d] => { results := [.lit (.bool false)], args := [d] }
  | _ => none }
def FnExactFourWrongFalsely : Prop := fnExactFourRow.holds Try.pinned (OpenSpec.ofChange fnExactFourWrong)

/-- 'laws.FnFours': WHATEVER THE INPUT: true; the input reads as it did. -/
def fnFoursSpec : ChangeSpec := { name := "fnFours", fn := fun _ => fun
  | [d] => { results := [.lit (.bool true)], args := [d] }
  | _ => none }
def fnFoursRow : OpenClaim := { program := "ytlmlkoalicjlhaa", sum := "de13d6ac95a5999a82953dfe1ed7a6d85870d679234a5fcec7e2c6b65288729f", func := "loop.example/g00960/laws.FnFours", spec := "fnFours", unfollowed := true, recurses := true, apart := false }
def FnFoursSaid : Prop := fnFoursRow.holds Try.pinned (OpenSpec.ofChange fnFoursSpec)

/-- ITS FALSE NEIGHBOUR: 'it returns false'. Refute it at one input. -/
def fnFoursWrong : ChangeSpec := { name := "fnFours", fn := fun _ => fun
  | [d] => { results := [.lit (.bool false)], args := [d] }
  | _ => none }
def FnFoursWrongFalsely : Prop := fnFoursRow.holds Try.pinned (OpenSpec.ofChange fnFoursWrong)

/-- 'laws.FnExactFourBack': WHATEVER THE INPUT: true; the input reads as it did. -/
def fnExactFourBackSpec : ChangeSpec := { name := "fnExactFourBack", fn := fun _ => fun
  | [d] => { results := [.lit (.bool true)], args := [d] }
  | _ => none }
def fnExactFourBackRow : OpenClaim := { program := "ytlmlkoalicjlhaa", sum := "de13d6ac95a5999a82953dfe1ed7a6d85870d679234a5fcec7e2c6b65288729f", func := "loop.example/g00960/laws.FnExactFourBack", spec := "fnExactFourBack", unfollowed := true, recurses := true, apart := false }
def FnExactFourBackSaid : Prop := fnExactFourBackRow.holds Try.pinned (OpenSpec.ofChange fnExactFourBackSpec)

/-- ITS FALSE NEIGHBOUR: 'it returns false'. Refute it at one input. -/
def fnExactFourBackWrong : ChangeSpec := { name := "fnExactFourBack", fn := fun _ => fun
  | [d] => { results := [.lit (.bool false)], args := [d] }
  | _ => none }
def FnExactFourBackWrongFalsely : Prop := fnExactFourBackRow.holds Try.pinned (OpenSpec.ofChange fnExactFourBackWrong)

/-- 'laws.FnExactTileRow': WHATEVER THE INPUT: true; the input reads as it did. -/
def fnExactTileRowSpec : ChangeSpec := { name := "fnExactTileRow", fn := fun _ => fun
  | [d1, d2] => { results := [.lit (.bool true)], args := [d1, d2] }
  | _ => none }
def fnExactTileRowRow : OpenClaim := { program := "ytlmlkoalicjlhaa", sum := "de13d6ac95a5999a82953dfe1ed7a6d85870d679234a5fcec7e2c6b65288729f", func := "loop.example/g00960/laws.FnExactTileRow", spec := "fnExactTileRow", apart := false }
def FnExactTileRowSaid : Prop := fnExactTileRowRow.holds Try.pinned (OpenSpec.ofChange fnExactTileRowSpec)

/-- ITS FALSE NEIGHBOUR: 'it returns false'. Refute it at one input. -/
def fnExactTileRowWrong : ChangeSpec := { name := "fnExactTileRow", fn := fun _ => fun
  | [d1, d2] => { results := [.lit (.bool false)], args := [d1, d2] }
  | _ => none }
def FnExactTileRowWrongFalsely : Prop := fnExactTileRowRow.holds Try.pinned (OpenSpec.ofChange fnExactTileRowWrong)

/-- 'laws.FnTileRows': WHATEVER THE INPUT: true; the input reads as it did. -/
def fnTileRowsSpec : ChangeSpec := { name := "fnTileRows", fn := fun _ => fun
  | [d] => { results := [.lit (.bool true)], args := [d] }
  | _ => none }
def fnTileRowsRow : OpenClaim := { program := "ytlmlkoalicjlhaa", sum := "de13d6ac95a5999a82953dfe1ed7a6d85870d679234a5fcec7e2c6b65288729f", func := "loop.example/g00960/laws.FnTileRows", spec := "fnTileRows", apart := false }
def FnTileRowsSaid : Prop := fnTileRowsRow.holds Try.pinned (OpenSpec.ofChange fnTileRowsSpec)

/-- ITS FALSE NEIGHBOUR: 'it returns false'. Refute it at one input. -/
def fnTileRowsWrong : ChangeSpec := { name := "fnTileRows", fn := fun _ => fun
  | [d] => { results := [.lit (.bool false)], args := [d] }
  | _ => none }
def FnTileRowsWrongFalsely : Prop := fnTileRowsRow.holds Try.pinned (OpenSpec.ofChange fnTileRowsWrong)

/-- 'laws.FnExactReadSquare': WHATEVER THE INPUT: true; the input reads as it did. -/
def fnExactReadSquareSpec : ChangeSpec := { name := "fnExactReadSquare", fn := fun _ => fun
  | [d1, d2, d3] => { results := [.lit (.bool true)], args := [d1, d2, d3] }
  | _ => none }
def fnExactReadSquareRow : OpenClaim := { program := "ytlmlkoalicjlhaa", sum := "de13d6ac95a5999a82953dfe1ed7a6d85870d679234a5fcec7e2c6b65288729f", func := "loop.example/g00960/laws.FnExactReadSquare", spec := "fnExactReadSquare", apart := false }
def FnExactReadSquareSaid : Prop := fnExactReadSquareRow.holds Try.pinned (OpenSpec.ofChange fnExactReadSquareSpec)

/-- ITS FALSE NEIGHBOUR: 'it returns false'. Refute it at one input. -/
def fnExactReadSquareWrong : ChangeSpec := { name := "fnExactReadSquare", fn := fun _ => fun
  | [d1, d2, d3] => { results := [.lit (.bool false)], args := [d1, d2, d3] }
  | _ => none }
def FnExactReadSquareWrongFalsely : Prop := fnExactReadSquareRow.holds Try.pinned (OpenSpec.ofChange fnExactReadSquareWrong)

/-- 'laws.FnSquares': WHATEVER THE INPUT: true; the input reads as it did. -/
def fnSquaresSpec : ChangeSpec := { name := "fnSquares", fn := fun _ => fun
  | [d] => { results := [.lit (.bool true)], args := [d] }
  | _ => none }
def fnSquaresRow : OpenClaim := { program := "ytlmlkoalicjlhaa", sum := "de13d6ac95a5999a82953dfe1ed7a6d85870d679234a5fcec7e2c6b65288729f", func := "loop.example/g00960/laws.FnSquares", spec := "fnSquares", apart := false }
def FnSquaresSaid : Prop := fnSquaresRow.holds Try.pinned (OpenSpec.ofChange fnSquaresSpec)

/-- ITS FALSE NEIGHBOUR: 'it returns false'. Refute it at one input. -/
def fnSquaresWrong : ChangeSpec := { name := "fnSquares", fn := fun _ => fun
  | [d] => { results := [.lit (.bool false)], args := [d] }
  | _ => none }
def FnSquaresWrongFalsely : Prop := fnSquaresRow.holds Try.pinned (OpenSpec.ofChange fnSquaresWrong)

/-- 'laws.FnExactLevelsOf': WHATEVER THE INPUT: true; the input reads as it did. -/
def fnExactLevelsOfSpec : ChangeSpec := { name := "fnExactLevelsOf", fn := fun _ => fun
  | [d1, d2] => { results := [.lit (.bool true)], args := [d1, d2] }
  | _ => none }
def fnExactLevelsOfRow : OpenClaim := { program := "ytlmlkoalicjlhaa", sum := "de13d6ac95a5999a82953dfe1ed7a6d85870d679234a5fcec7e2c6b65288729f", func := "loop.example/g00960/laws.FnExactLevelsOf", spec := "fnExactLevelsOf", unfollowed := true, recurses := true, apart := false }
def FnExactLevelsOfSaid : Prop := fnExactLevelsOfRow.holds Try.pinned (OpenSpec.ofChange fnExactLevelsOfSpec)

/-- ITS FALSE NEIGHBOUR: 'it returns false'. Refute it at one input. -/
def fnExactLevelsOfWrong : ChangeSpec := { name := "fnExactLevelsOf", fn := fun _ => fun
  | [d1, d2] => { results := [.lit (.bool false)], args := [d1, d2] }
  | _ => none }
def FnExactLevelsOfWrongFalsely : Prop := fnExactLevelsOfRow.holds Try.pinned (OpenSpec.ofChange fnExactLevelsOfWrong)

/-- 'laws.FnExactLevelsBack': WHATEVER THE INPUT: true; the input reads as it did. -/
def fnExactLevelsBackSpec : ChangeSpec := { name := "fnExactLevelsBack", fn := fun _ => fun
  | [d1, d2] => { results := [.lit (.bool true)], args := [d1, d2] }
  | _ => none }
def fnExactLevelsBackRow : OpenClaim := { program := "ytlmlkoalicjlhaa", sum := "de13d6ac95a5999a82953dfe1ed7a6d85870d679234a5fcec7e2c6b65288729f", func := "loop.example/g00960/laws.FnExactLevelsBack", spec := "fnExactLevelsBack", unfollowed := true, recurses := true, apart := false }
def FnExactLevelsBackSaid : Prop := fnExactLevelsBackRow.holds Try.pinned (OpenSpec.ofChange fnExactLevelsBackSpec)

/-- ITS FALSE NEIGHBOUR: 'it returns false'. Refute it at one input. -/
def fnExactLevelsBackWrong : ChangeSpec := { name := "fnExactLevelsBack", fn := fun _ => fun
  | [d1, d2] => { results := [.lit (.bool false)], args := [d1, d2] }
  | _ => none }
def FnExactLevelsBackWrongFalsely : Prop := fnExactLevelsBackRow.holds Try.pinned (OpenSpec.ofChange fnExactLevelsBackWrong)

/-- 'laws.FnExactLeft': WHATEVER THE INPUT: true; the input reads as it did. -/
def fnExactLeftSpec : ChangeSpec := { name := "fnExactLeft", fn := fun _ => fun
  | [d] => { results := [.lit (.bool true)], args := [d] }
  | _ => none }
def fnExactLeftRow : OpenClaim := { program := "ytlmlkoalicjlhaa", sum := "de13d6ac95a5999a82953dfe1ed7a6d85870d679234a5fcec7e2c6b65288729f", func := "loop.example/g00960/laws.FnExactLeft", spec := "fnExactLeft", unfollowed := true, recurses := true, apart := false }
def FnExactLeftSaid : Prop := fnExactLeftRow.holds Try.pinned (OpenSpec.ofChange fnExactLeftSpec)

/-- ITS FALSE NEIGHBOUR: 'it returns false'. Refute it at one input. -/
def fnExactLeftWrong : ChangeSpec := { name := "fnExactLeft", fn := fun _ => fun
  | [d] => { results := [.lit (.bool false)], args := [d] }
  | _ => none }
def FnExactLeftWrongFalsely : Prop := fnExactLeftRow.holds Try.pinned (OpenSpec.ofChange fnExactLeftWrong)

/-- 'laws.FnLevelRows': WHATEVER THE INPUT: true; the input reads as it did. -/
def fnLevelRowsSpec : ChangeSpec := { name := "fnLevelRows", fn := fun _ => fun
  | [d] => { results := [.lit (.bool true)], args := [d] }
  | _ => none }
def fnLevelRowsRow : OpenClaim := { program := "ytlmlkoalicjlhaa", sum := "de13d6ac95a5999a82953dfe1ed7a6d85870d679234a5fcec7e2c6b65288729f", func := "loop.example/g00960/laws.FnLevelRows", spec := "fnLevelRows", unfollowed := true, recurses := true, apart := false }
def FnLevelRowsSaid : Prop := fnLevelRowsRow.holds Try.pinned (OpenSpec.ofChange fnLevelRowsSpec)

/-- ITS FALSE NEIGHBOUR: 'it returns false'. Refute it at one input. -/
def fnLevelRowsWrong : ChangeSpec := { name := "fnLevelRows", fn := fun _ => fun
  | [d] => { results := [.lit (.bool false)], args := [d] }
  | _ => none }
def FnLevelRowsWrongFalsely : Prop := fnLevelRowsRow.holds Try.pinned (OpenSpec.ofChange fnLevelRowsWrong)

/- THE SECOND FORM. 'bulk': how many values and letters a reading holds, each counted each time it is reached (what is shared counts as often as it is met; a slice's spare places count too). A statement '..UptoSaid' is the law's where the arguments, and the package variables that the reading takes, are together of bulk at most 1048576: NARROWER than '..Said'. Prove '..Said' where nothing that the law and all that it calls make is longer than what came in: it says more and counts as full. Else prove '..UptoSaid'. A law counts once. -/
mutual
def uptoBulk {H : Type} : DataW H → Nat
  | .lit (.string bytes) => bytes.length + 1
  | .lit _ => 1
  | .nil => 1
  | .ptr d => uptoBulk d + 1
  | .slice elems spare => uptoBulkAll elems + uptoBulkAll spare + 1
  | .agg parts => uptoBulkAll parts + 1
  | .iface _ d => uptoBulk d + 1
  | .map entries => uptoBulkEntries entries + 1
  | .held _ => 1
def uptoBulkAll {H : Type} : List (DataW H) → Nat
  | [] => 0
  | d :: r => uptoBulk d + uptoBulkAll r
def uptoBulkEntries {H : Type} : List (Lit × DataW H) → Nat
  | [] => 0
  | x :: r => uptoBulkEntry x + uptoBulkEntries r
def uptoBulkEntry {H : Type} : Lit × DataW H → Nat
  | (.string bytes, d) => bytes.length + uptoBulk d + 1
  | (_, d) => uptoBulk d + 1
 end
def uptoSmall : (H : Type) → List (DataW H) → Bool := fun _ ds => decide (uptoBulkAll ds ≤ 1048576)
def OpenSpec.upto (s : _root_.Go.ChangeSpec) : _root_.Go.OpenSpec := { _root_.Go.OpenSpec.ofChange s with cond := some uptoSmall }

/-- 'laws.FnEights', WHERE WHAT IT READS IS OF BULK AT MOST 1048576: true; the input reads as it did. -/
def fnEightsUptoRow : OpenClaim := { program := "ytlmlkoalicjlhaa", sum := "de13d6ac95a5999a82953dfe1ed7a6d85870d679234a5fcec7e2c6b65288729f", func := "loop.example/g00960/laws.FnEights", spec := "fnEights", apart := false, narrowed := true }
def FnEightsUptoSaid : Prop := fnEightsUptoRow.holds Try.pinned (OpenSpec.upto fnEightsSpec)

/-- 'laws.FnExactFour', WHERE WHAT IT READS IS OF BULK AT MOST 1048576: true; the input reads as it did. -/
def fnExactFourUptoRow : OpenClaim := { program := "ytlmlkoalicjlhaa", sum := "de13d6ac95a5999a82953dfe1ed7a6d85870d679234a5fcec7e2c6b65288729f", func := "loop.example/g00960/laws.FnExactFour", spec := "fnExactFour", unfollowed := true, recurses := true, apart := false, narrowed := true }
def FnExactFourUptoSaid : Prop := fnExactFourUptoRow.holds Try.pinned (OpenSpec.upto fnExactFourSpec)

/-- 'laws.FnFours', WHERE WHAT IT READS IS OF BULK AT MOST 1048576: true; the input reads as it did. -/
def fnFoursUptoRow : OpenClaim := { program := "ytlmlkoalicjlhaa", sum := "de13d6ac95a5999a82953dfe1ed7a6d85870d679234a5fcec7e2c6b65288729f", func := "loop.example/g00960/laws.FnFours", spec := "fnFours", unfollowed := true, recurses := true, apart := false, narrowed := true }
def FnFoursUptoSaid : Prop := fnFoursUptoRow.holds Try.pinned (OpenSpec.upto fnFoursSpec)

/-- 'laws.FnExactFourBack', WHERE WHAT IT READS IS OF BULK AT MOST 1048576: true; the input reads as it did. -/
def fnExactFourBackUptoRow : OpenClaim := { program := "ytlmlkoalicjlhaa", sum := "de13d6ac95a5999a82953dfe1ed7a6d85870d679234a5fcec7e2c6b65288729f", func := "loop.example/g00960/laws.FnExactFourBack", spec := "fnExactFourBack", unfollowed := true, recurses := true, apart := false, narrowed := true }
def FnExactFourBackUptoSaid : Prop := fnExactFourBackUptoRow.holds Try.pinned (OpenSpec.upto fnExactFourBackSpec)

/-- 'laws.FnExactTileRow', WHERE WHAT IT READS IS OF BULK AT MOST 1048576: true; the input reads as it did. -/
def fnExactTileRowUptoRow : OpenClaim := { program := "ytlmlkoalicjlhaa", sum := "de13d6ac95a5999a82953dfe1ed7a6d85870d679234a5fcec7e2c6b65288729f", func := "loop.example/g00960/laws.FnExactTileRow", spec := "fnExactTileRow", apart := false, narrowed := true }
def FnExactTileRowUptoSaid : Prop := fnExactTileRowUptoRow.holds Try.pinned (OpenSpec.upto fnExactTileRowSpec)

/-- 'laws.FnTileRows', WHERE WHAT IT READS IS OF BULK AT MOST 1048576: true; the input reads as it did. -/
def fnTileRowsUptoRow : OpenClaim := { program := "ytlmlkoalicjlhaa", sum := "de13d6ac95a5999a82953dfe1ed7a6d85870d679234a5fcec7e2c6b65288729f", func := "loop.example/g00960/laws.FnTileRows", spec := "fnTileRows", apart := false, narrowed := true }
def FnTileRowsUptoSaid : Prop := fnTileRowsUptoRow.holds Try.pinned (OpenSpec.upto fnTileRowsSpec)

/-- 'laws.FnExactReadSquare', WHERE WHAT IT READS IS OF BULK AT MOST 1048576: true; the input reads as it did. -/
def fnExactReadSquareUptoRow : OpenClaim := { program := "ytlmlkoalicjlhaa", sum := "de13d6ac95a5999a82953dfe1ed7a6d85870d679234a5fcec7e2c6b65288729f", func := "loop.example/g00960/laws.FnExactReadSquare", spec := "fnExactReadSquare", apart := false, narrowed := true }
def FnExactReadSquareUptoSaid : Prop := fnExactReadSquareUptoRow.holds Try.pinned (OpenSpec.upto fnExactReadSquareSpec)

/-- 'laws.FnSquares', WHERE WHAT IT READS IS OF BULK AT MOST 1048576: true; the input reads as it did. -/
def fnSquaresUptoRow : OpenClaim := { program := "ytlmlkoalicjlhaa", sum := "de13d6ac95a5999a82953dfe1ed7a6d85870d679234a5fcec7e2c6b65288729f", func := "loop.example/g00960/laws.FnSquares", spec := "fnSquares", apart := false, narrowed := true }
def FnSquaresUptoSaid : Prop := fnSquaresUptoRow.holds Try.pinned (OpenSpec.upto fnSquaresSpec)

/-- 'laws.FnExactLevelsOf', WHERE WHAT IT READS IS OF BULK AT MOST 1048576: true; the input reads as it did. -/
def fnExactLevelsOfUptoRow : OpenClaim := { program := "ytlmlkoalicjlhaa", sum := "de13d6ac95a5999a82953dfe1ed7a6d85870d679234a5fcec7e2c6b65288729f", func := "loop.example/g00960/laws.FnExactLevelsOf", spec := "fnExactLevelsOf", unfollowed := true, recurses := true, apart := false, narrowed := true }
def FnExactLevelsOfUptoSaid : Prop := fnExactLevelsOfUptoRow.holds Try.pinned (OpenSpec.upto fnExactLevelsOfSpec)

/-- 'laws.FnExactLevelsBack', WHERE WHAT IT READS IS OF BULK AT MOST 1048576: true; the input reads as it did. -/
def fnExactLevelsBackUptoRow : OpenClaim := { program := "ytlmlkoalicjlhaa", sum := "de13d6ac95a5999a82953dfe1ed7a6d85870d679234a5fcec7e2c6b65288729f", func := "loop.example/g00960/laws.FnExactLevelsBack", spec := "fnExactLevelsBack", unfollowed := true, recurses := true, apart := false, narrowed := true }
def FnExactLevelsBackUptoSaid : Prop := fnExactLevelsBackUptoRow.holds Try.pinned (OpenSpec.upto fnExactLevelsBackSpec)

/-- 'laws.FnExactLeft', WHERE WHAT IT READS IS OF BULK AT MOST 1048576: true; the input reads as it did. -/
def fnExactLeftUptoRow : OpenClaim := { program := "ytlmlkoalicjlhaa", sum := "de13d6ac95a5999a82953dfe1ed7a6d85870d679234a5fcec7e2c6b65288729f", func := "loop.example/g00960/laws.FnExactLeft", spec := "fnExactLeft", unfollowed := true, recurses := true, apart := false, narrowed := true }
def FnExactLeftUptoSaid : Prop := fnExactLeftUptoRow.holds Try.pinned (OpenSpec.upto fnExactLeftSpec)

/-- 'laws.FnLevelRows', WHERE WHAT IT READS IS OF BULK AT MOST 1048576: true; the input reads as it did. -/
def fnLevelRowsUptoRow : OpenClaim := { program := "ytlmlkoalicjlhaa", sum := "de13d6ac95a5999a82953dfe1ed7a6d85870d679234a5fcec7e2c6b65288729f", func := "loop.example/g00960/laws.FnLevelRows", spec := "fnLevelRows", unfollowed := true, recurses := true, apart := false, narrowed := true }
def FnLevelRowsUptoSaid : Prop := fnLevelRowsUptoRow.holds Try.pinned (OpenSpec.upto fnLevelRowsSpec)

end Rows
end Go.Proofs.Ytlmlkoalicjlhaa
