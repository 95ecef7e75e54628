/-
  No cell of these rows narrows 'for every input' (looked for: loops, veiled, ifaces, maps, wideKeys, modest, calm, conditions, laid).
  DERIVED. THE GIVEN ROWS OF THIS SEAT. 6 by the template 'for every input the law returns true; each argument reads behind the call as it read before'; 0 by the template 'total and deterministic' (their statements: YtnaccgommclhaaaTotals.lean).
  GIVEN WITH THE SEED: the statements are not yours to turn. If you find one false, say at which input.
  Laid BY PROGRAM, IN A SANDBOX (cutbox-rows.mjs): the forced cells as the released guide's own fill.sh prints them over the translation 95305c9c40477b17… (all of the seat's roots in one cut). By AI agents, Wed Nov 11 2026. No macro, syntax, notation, axiom, sorry.
-/
import Derived.Test.YtnaccgommclhaaaChecked
import GoSem.Claim
import GoSem.ClaimJoined
import GoSem.ClaimMapViews
import Derived.JoinedTies
import Derived.KernelRfl
namespace Go.Proofs.Ytnaccgommclhaaa
/- THE CELL 'sum', in the pinned program and in every row, IS THE sha256 OF THE DUMP (.gsa) THAT YtnaccgommclhaaaProg.lean LOADS. Nothing in Lean hashes anything: it is a label: what it is worth is what the hold of that sum in a sandbox is worth. -/
noncomputable def Try.pinned : Pinned := { name := "ytnaccgommclhaaa", sum := "95305c9c40477b17f32ee71c0d8fada36fb93ca3fc330545bec5c621835dd9f9", checked := Try.checked }
namespace Rows
def none {H : Type} : Left H := { results := [], args := [] }

/-- 'laws.FnExactPasted': WHATEVER THE INPUT: true; the input reads as it did. -/
def fnExactPastedSpec : ChangeSpec := { name := "fnExactPasted", fn := fun _ => fun
  | [d1, d2, d3, d4] => { results := [.lit (.bool true)], args := [d1, d2, d3, d4] }
  | _ => none }
def fnExactPastedRow : OpenClaim := { program := "ytnaccgommclhaaa", sum := "95305c9c40477b17f32ee71c0d8fada36fb93ca3fc330545bec5c621835dd9f9", func := "loop.example/g00960/laws.FnExactPasted", spec := "fnExactPasted", apart := false }
def FnExactPastedSaid : Prop := fnExactPastedRow.holds Try.pinned (OpenSpec.ofChange fnExactPastedSpec)

/-- ITS FALSE NEIGHBOUR: 'it returns false'. Refute it at one input. -/
def fnExactPastedWrong : ChangeSpec := { name := "fnExactPasted", fn := fun _ => fun
  | [d1, d2, d3, d4] => { results := [.lit (.bool false)], args := [d1, d2, d3, d4] }
  | _ => none }
def FnExactPastedWrongFalsely : Prop := fnExactPastedRow.holds Try.pinned (OpenSpec.ofChange fnExactPastedWrong)

/-- 'laws.FnCuts': WHATEVER THE INPUT: true; the input reads as it did. -/
def fnCutsSpec : ChangeSpec := { name := "fnCuts", fn := fun _ => fun
  | [d] => { results := [.lit (.bool true)], args := [d] }
  | _ => none }
def fnCutsRow : OpenClaim := { program := "ytnaccgommclhaaa", sum := "95305c9c40477b17f32ee71c0d8fada36fb93ca3fc330545bec5c621835dd9f9", func := "loop.example/g00960/laws.FnCuts", spec := "fnCuts", apart := false }
def FnCutsSaid : Prop := fnCutsRow.holds Try.pinned (OpenSpec.ofChange fnCutsSpec)

/-- ITS FALSE NEIGHBOUR: 'it returns false'. Refute it at one input. -/
def fnCutsWrong : ChangeSpec := { name := "fnCuts", fn := fun _ => fun
  | [d] => { results := [.lit (.bool false)], args := [d] }
  | _ => none }
def FnCutsWrongFalsely : Prop := fnCutsRow.holds Try.pinned (OpenSpec.ofChange fnCutsWrong)

/-- 'laws.FnExactTileRow': WHATEVER THE INPUT: true; the input reads as it did. -/
def fnExactTileRowSpec : ChangeSpec := { name := "fnExactTileRow", fn := fun _ => fun
  | [d1, d2] => { results := [.lit (.bool true)], args := [d1, d2] }
  | _ => none }
def fnExactTileRowRow : OpenClaim := { program := "ytnaccgommclhaaa", sum := "95305c9c40477b17f32ee71c0d8fada36fb93ca3fc330545bec5c621835dd9f9", func := "loop.example/g00960/laws.FnExactTileRow", spec := "fnExactTileRow", apart := false }
def FnExactTileRowSaid : Prop := fnExactTileRowRow.holds Try.pinned (OpenSpec.ofChange fnExactTileRowSpec)

/-- ITS FALSE NEIGHBOUR: 'it returns false'. Refute it at one input. -/
def fnExactTileRowWrong : ChangeSpec := { name := "fnExactTileRow", fn := fun _ => fun
  | [d1, d2] => { results := [.lit (.bool false)], args := [d1, d2] }
  | _ => none }
def FnExactTileRowWrongFalsely : Prop := fnExactTileRowRow.holds Try.pinned (OpenSpec.ofChange fnExactTileRowWrong)

/-- 'laws.FnExactReadTile': WHATEVER THE INPUT: true; the input reads as it did. -/
def fnExactReadTileSpec : ChangeSpec := { name := "fnExactReadTile", fn := fun _ => fun
  | [d1, d2, d3, d4] => { results := [.lit (.bool true)], args := [d1, d2, d3, d4] }
  | _ => none }
def fnExactReadTileRow : OpenClaim := { program := "ytnaccgommclhaaa", sum := "95305c9c40477b17f32ee71c0d8fada36fb93ca3fc330545bec5c621835dd9f9", func := "loop.example/g00960/laws.FnExactReadTile", spec := "fnExactReadTile", apart := false }
def FnExactReadTileSaid : Prop := fnExactReadTileRow.holds Try.pinned (OpenSpec.ofChange fnExactReadTileSpec)

/-- ITS FALSE NEIGHBOUR: 'it returns false'. Refute it at one input. -/
def fnExactReadTileWrong : ChangeSpec := { name := "fnExactReadTile", fn := fun _ => fun
  | [d1, d2, d3, d4] => { results := [.lit (.bool false)], args := [d1, d2, d3, d4] }
  | _ => none }
def FnExactReadTileWrongFalsely : Prop := fnExactReadTileRow.holds Try.pinned (OpenSpec.ofChange fnExactReadTileWrong)

/-- 'laws.FnExactSquareDots': WHATEVER THE INPUT: true; the input reads as it did. -/
def fnExactSquareDotsSpec : ChangeSpec := { name := "fnExactSquareDots", fn := fun _ => fun
  | [d1, d2, d3, d4, d5, d6, d7, d8] => { results := [.lit (.bool true)], args := [d1, d2, d3, d4, d5, d6, d7, d8] }
  | _ => none }
def fnExactSquareDotsRow : OpenClaim := { program := "ytnaccgommclhaaa", sum := "95305c9c40477b17f32ee71c0d8fada36fb93ca3fc330545bec5c621835dd9f9", func := "loop.example/g00960/laws.FnExactSquareDots", spec := "fnExactSquareDots", unfollowed := true, recurses := true, apart := false }
def FnExactSquareDotsSaid : Prop := fnExactSquareDotsRow.holds Try.pinned (OpenSpec.ofChange fnExactSquareDotsSpec)

/-- ITS FALSE NEIGHBOUR: 'it returns false'. Refute it at one input. -/
def fnExactSquareDotsWrong : ChangeSpec := { name := "fnExactSquareDots", fn := fun _ => fun
  | [d1, d2, d3, d4, d5, d6, d7, d8] => { results := [.lit (.bool false)], args := [d1, d2, d3, d4, d5, d6, d7, d8] }
  | _ => none }
def FnExactSquareDotsWrongFalsely : Prop := fnExactSquareDotsRow.holds Try.pinned (OpenSpec.ofChange fnExactSquareDotsWrong)

/-- 'laws.FnSkips': WHATEVER THE INPUT: true; the input reads as it did. -/
def fnSkipsSpec : ChangeSpec := { name := "fnSkips", fn := fun _ => fun
  | [d] => { results := [.lit (.bool true)], args := [d] }
  | _ => none }
def fnSkipsRow : OpenClaim := { program := "ytnaccgommclhaaa", sum := "95305c9c40477b17f32ee71c0d8fada36fb93ca3fc330545bec5c621835dd9f9", func := "loop.example/g00960/laws.FnSkips", spec := "fnSkips", unfollowed := true, recurses := true, apart := false }
def FnSkipsSaid : Prop := fnSkipsRow.holds Try.pinned (OpenSpec.ofChange fnSkipsSpec)

/-- ITS FALSE NEIGHBOUR: 'it returns false'. Refute it at one input. -/
def fnSkipsWrong : ChangeSpec := { name := "fnSkips", fn := fun _ => fun
  | [d] => { results := [.lit (.bool false)], args := [d] }
  | _ => none }
def FnSkipsWrongFalsely : Prop := fnSkipsRow.holds Try.pinned (OpenSpec.ofChange fnSkipsWrong)

/- THE SECOND FORM. 'bulk': how many values and letters a reading holds, each counted each time it is reached (what is shared counts as often as it is met; a slice's spare places count too). A statement '..UptoSaid' is the law's where the arguments, and the package variables that the reading takes, are together of bulk at most 1048576: NARROWER than '..Said'. Prove '..Said' where nothing that the law and all that it calls make is longer than what came in: it says more and counts as full. Else prove '..UptoSaid'. A law counts once. -/
mutual
def uptoBulk {H : Type} : DataW H → Nat
  | .lit (.string bytes) => bytes.length + 1
  | .lit _ => 1
  | .nil => 1
  | .ptr d => uptoBulk d + 1
  | .slice elems spare => uptoBulkAll elems + uptoBulkAll spare + 1
  | .agg parts => uptoBulkAll parts + 1
  | .iface _ d => uptoBulk d + 1
  | .map entries => uptoBulkEntries entries + 1
  | .held _ => 1
def uptoBulkAll {H : Type} : List (DataW H) → Nat
  | [] => 0
  | d :: r => uptoBulk d + uptoBulkAll r
def uptoBulkEntries {H : Type} : List (Lit × DataW H) → Nat
  | [] => 0
  | x :: r => uptoBulkEntry x + uptoBulkEntries r
def uptoBulkEntry {H : Type} : Lit × DataW H → Nat
  | (.string bytes, d) => bytes.length + uptoBulk d + 1
  | (_, d) => uptoBulk d + 1
 end
def uptoSmall : (H : Type) → List (DataW H) → Bool := fun _ ds => decide (uptoBulkAll ds ≤ 1048576)
def OpenSpec.upto (s : _root_.Go.ChangeSpec) : _root_.Go.OpenSpec := { _root_.Go.OpenSpec.ofChange s with cond := some uptoSmall }

/-- 'laws.FnExactPasted', WHERE WHAT IT READS IS OF BULK AT MOST 1048576: true; the input reads as it did. -/
def fnExactPastedUptoRow : OpenClaim := { program := "ytnaccgommclhaaa", sum := "95305c9c40477b17f32ee71c0d8fada36fb93ca3fc330545bec5c621835dd9f9", func := "loop.example/g00960/laws.FnExactPasted", spec := "fnExactPasted", apart := false, narrowed := true }
def FnExactPastedUptoSaid : Prop := fnExactPastedUptoRow.holds Try.pinned (OpenSpec.upto fnExactPastedSpec)

/-- 'laws.FnCuts', WHERE WHAT IT READS IS OF BULK AT MOST 1048576: true; the input reads as it did. -/
def fnCutsUptoRow : OpenClaim := { program := "ytnaccgommclhaaa", sum := "95305c9c40477b17f32ee71c0d8fada36fb93ca3fc330545bec5c621835dd9f9", func := "loop.example/g00960/laws.FnCuts", spec := "fnCuts", apart := false, narrowed := true }
def FnCutsUptoSaid : Prop := fnCutsUptoRow.holds Try.pinned (OpenSpec.upto fnCutsSpec)

/-- 'laws.FnExactTileRow', WHERE WHAT IT READS IS OF BULK AT MOST 1048576: true; the input reads as it did. -/
def fnExactTileRowUptoRow : OpenClaim := { program := "ytnaccgommclhaaa", sum := "95305c9c40477b17f32ee71c0d8fada36fb93ca3fc330545bec5c621835dd9f9", func := "loop.example/g00960/laws.FnExactTileRow", spec := "fnExactTileRow", apart := false, narrowed := true }
def FnExactTileRowUptoSaid : Prop := fnExactTileRowUptoRow.holds Try.pinned (OpenSpec.upto fnExactTileRowSpec)

/-- 'laws.FnExactReadTile', WHERE WHAT IT READS IS OF BULK AT MOST 1048576: true; the input reads as it did. -/
def fnExactReadTileUptoRow : OpenClaim := { program := "ytnaccgommclhaaa", sum := "95305c9c40477b17f32ee71c0d8fada36fb93ca3fc330545bec5c621835dd9f9", func := "loop.example/g00960/laws.FnExactReadTile", spec := "fnExactReadTile", apart := false, narrowed := true }
def FnExactReadTileUptoSaid : Prop := fnExactReadTileUptoRow.holds Try.pinned (OpenSpec.upto fnExactReadTileSpec)

/-- 'laws.FnExactSquareDots', WHERE WHAT IT READS IS OF BULK AT MOST 1048576: true; the input reads as it did. -/
def fnExactSquareDotsUptoRow : OpenClaim := { program := "ytnaccgommclhaaa", sum := "95305c9c40477b17f32ee71c0d8fada36fb93ca3fc330545bec5c621835dd9f9", func := "loop.example/g00960/laws.FnExactSquareDots", spec := "fnExactSquareDots", unfollowed := true, recurses := true, apart := false, narrowed := true }
def FnExactSquareDotsUptoSaid : Prop := fnExactSquareDotsUptoRow.holds Try.pinned (OpenSpec.upto fnExactSquareDotsSpec)

/-- 'laws.FnSkips', WHERE WHAT IT READS IS OF BULK AT MOST 1048576: true; the input reads as it did. -/
def fnSkipsUptoRow : OpenClaim := { program := "ytnaccgommclhaaa", sum := "95305c9c40477b17f32ee71c0d8fada36fb93ca3fc330545bec5c621835dd9f9", func := "loop.example/g00960/laws.FnSkips", spec := "fnSkips", unfollowed := true, recurses := true, apart := false, narrowed := true }
def FnSkipsUptoSaid : Prop := fnSkipsUptoRow.holds Try.pinned (OpenSpec.upto fnSkipsSpec)

end Rows
end Go.Proofs.Ytnaccgommclhaaa
