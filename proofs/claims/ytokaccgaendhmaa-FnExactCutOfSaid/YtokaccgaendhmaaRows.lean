/-
  No cell of these rows narrows 'for every input' (looked for: loops, veiled, ifaces, maps, wideKeys, modest, calm, conditions, laid).
  DERIVED. THE GIVEN ROWS OF THIS SEAT. 12 by the template 'for every input the law returns true; each argument reads behind the call as it read before'; 0 by the template 'total and deterministic' (their statements: YtokaccgaendhmaaTotals.lean).
  GIVEN WITH THE SEED: the statements are not yours to turn. If you find one false, say at which input.
  Laid BY PROGRAM, IN A SANDBOX (cutbox-rows.mjs): the forced cells as the released guide's own fill.sh prints them over the translation a1e0c1419a24e6c8… (all of the seat's roots in one cut). By AI agents, Wed Nov 11 2026. No macro, syntax, notation, axiom, sorry.
-/
import Derived.Test.YtokaccgaendhmaaChecked
import GoSem.Claim
import GoSem.ClaimJoined
import GoSem.ClaimMapViews
import Derived.JoinedTies
import Derived.KernelRfl
namespace Go.Proofs.Ytokaccgaendhmaa
/- THE CELL 'sum', in the pinned program and in every row, IS THE sha256 OF THE DUMP (.gsa) THAT YtokaccgaendhmaaProg.lean LOADS. Nothing in Lean hashes anything: it is a label: what it is worth is what the hold of that sum in a sandbox is worth. -/
noncomputable def Try.pinned : Pinned := { name := "ytokaccgaendhmaa", sum := "a1e0c1419a24e6c87e455eb8d70259ee2076be7e489b1cb103eb403a84793eda", checked := Try.checked }
namespace Rows
def none {H : Type} : Left H := { results := [], args := [] }

/-- 'laws.FnExactCutOf': WHATEVER THE INPUT: true; the input reads as it did. -/
def fnExactCutOfSpec : ChangeSpec := { name := "fnExactCutOf", fn := fun _ => fun
  | [d1, d2] => { results := [.lit (.bool true)], args := [d1, d2] }
  | _ => none }
def fnExactCutOfRow : OpenClaim := { program := "ytokaccgaendhmaa", sum := "a1e0c1419a24e6c87e455eb8d70259ee2076be7e489b1cb103eb403a84793eda", func := "loop.example/g00960/laws.FnExactCutOf", spec := "fnExactCutOf", apart := false }
def FnExactCutOfSaid : Prop := fnExactCutOfRow.holds Try.pinned (OpenSpec.ofChange fnExactCutOfSpec)

/-- ITS FALSE NEIGHBOUR: 'it returns false'. Refute it at one input. -/
def fnExactCutOfWrong : ChangeSpec := { name := "fnExactCutOf", fn := fun _ => fun
  | [d1, d2] => { results := [.lit (.bool false)], args := [d1, d2] }
  | _ => none }
def FnExactCutOfWrongFalsely : Prop := fnExactCutOfRow.holds Try.pinned (OpenSpec.ofChange fnExactCutOfWrong)

/-- 'laws.FnExactGapOf': WHATEVER THE INPUT: true; the input reads as it did. -/
def fnExactGapOfSpec : ChangeSpec := { name := "fnExactGapOf", fn := fun _ => fun
  | [d1, d2] => { results := [.lit (.bool true)], args := [d1, d2] }
  | _ => none }
def fnExactGapOfRow : OpenClaim := { program := "ytokaccgaendhmaa", sum := "a1e0c1419a24e6c87e455eb8d70259ee2076be7e489b1cb103eb403a84793eda", func := "loop.example/g00960/laws.FnExactGapOf", spec := "fnExactGapOf", apart := false }
def FnExactGapOfSaid : Prop := fnExactGapOfRow.holds Try.pinned (OpenSpec.ofChange fnExactGapOfSpec)

/-- ITS FALSE NEIGHBOUR: 'it returns false'. Refute it at one input. -/
def fnExactGapOfWrong : ChangeSpec := { name := "fnExactGapOf", fn := fun _ => fun
  | [d1, d2] => { results := [.lit (.bool false)], args := [d1, d2] }
  | _ => none }
def FnExactGapOfWrongFalsely : Prop := fnExactGapOfRow.holds Try.pinned (OpenSpec.ofChange fnExactGapOfWrong)

/-- 'laws.FnExactLeft': WHATEVER THE INPUT: true; the input reads as it did. -/
def fnExactLeftSpec : ChangeSpec := { name := "fnExactLeft", fn := fun _ => fun
  | [d] => { results := [.lit (.bool true)], args := [d] }
  | _ => none }
def fnExactLeftRow : OpenClaim := { program := "ytokaccgaendhmaa", sum := "a1e0c1419a24e6c87e455eb8d70259ee2076be7e489b1cb103eb403a84793eda", func := "loop.example/g00960/laws.FnExactLeft", spec := "fnExactLeft", unfollowed := true, recurses := true, apart := false }
def FnExactLeftSaid : Prop := fnExactLeftRow.holds Try.pinned (OpenSpec.ofChange fnExactLeftSpec)

/-- ITS FALSE NEIGHBOUR: 'it returns false'. Refute it at one input. -/
def fnExactLeftWrong : ChangeSpec := { name := "fnExactLeft", fn := fun _ => fun
  | [d] => { results := [.lit (.bool false)], args := [d] }
  | _ => none }
def FnExactLeftWrongFalsely : Prop := fnExactLeftRow.holds Try.pinned (OpenSpec.ofChange fnExactLeftWrong)

/-- 'laws.FnExactScaleOf': WHATEVER THE INPUT: true; the input reads as it did. -/
def fnExactScaleOfSpec : ChangeSpec := { name := "fnExactScaleOf", fn := fun _ => fun
  | [d1, d2] => { results := [.lit (.bool true)], args := [d1, d2] }
  | _ => none }
def fnExactScaleOfRow : OpenClaim := { program := "ytokaccgaendhmaa", sum := "a1e0c1419a24e6c87e455eb8d70259ee2076be7e489b1cb103eb403a84793eda", func := "loop.example/g00960/laws.FnExactScaleOf", spec := "fnExactScaleOf", apart := false }
def FnExactScaleOfSaid : Prop := fnExactScaleOfRow.holds Try.pinned (OpenSpec.ofChange fnExactScaleOfSpec)

/-- ITS FALSE NEIGHBOUR: 'it returns false'. Refute it at one input. -/
def fnExactScaleOfWrong : ChangeSpec := { name := "fnExactScaleOf", fn := fun _ => fun
  | [d1, d2] => { results := [.lit (.bool false)], args := [d1, d2] }
  | _ => none }
def FnExactScaleOfWrongFalsely : Prop := fnExactScaleOfRow.holds Try.pinned (OpenSpec.ofChange fnExactScaleOfWrong)

/-- 'laws.FnGreys': WHATEVER THE INPUT: true; the input reads as it did. -/
def fnGreysSpec : ChangeSpec := { name := "fnGreys", fn := fun _ => fun
  | [d] => { results := [.lit (.bool true)], args := [d] }
  | _ => none }
def fnGreysRow : OpenClaim := { program := "ytokaccgaendhmaa", sum := "a1e0c1419a24e6c87e455eb8d70259ee2076be7e489b1cb103eb403a84793eda", func := "loop.example/g00960/laws.FnGreys", spec := "fnGreys", apart := false }
def FnGreysSaid : Prop := fnGreysRow.holds Try.pinned (OpenSpec.ofChange fnGreysSpec)

/-- ITS FALSE NEIGHBOUR: 'it returns false'. Refute it at one input. -/
def fnGreysWrong : ChangeSpec := { name := "fnGreys", fn := fun _ => fun
  | [d] => { results := [.lit (.bool false)], args := [d] }
  | _ => none }
def FnGreysWrongFalsely : Prop := fnGreysRow.holds Try.pinned (OpenSpec.ofChange fnGreysWrong)

/-- 'laws.FnExactSmallBack': WHATEVER THE INPUT: true; the input reads as it did. -/
def fnExactSmallBackSpec : ChangeSpec := { name := "fnExactSmallBack", fn := fun _ => fun
  | [d1, d2, d3] => { results := [.lit (.bool true)], args := [d1, d2, d3] }
  | _ => none }
def fnExactSmallBackRow : OpenClaim := { program := "ytokaccgaendhmaa", sum := "a1e0c1419a24e6c87e455eb8d70259ee2076be7e489b1cb103eb403a84793eda", func := "loop.example/g00960/laws.FnExactSmallBack", spec := "fnExactSmallBack", apart := false }
def FnExactSmallBackSaid : Prop := fnExactSmallBackRow.holds Try.pinned (OpenSpec.ofChange fnExactSmallBackSpec)

/-- ITS FALSE NEIGHBOUR: 'it returns false'. Refute it at one input. -/
def fnExactSmallBackWrong : ChangeSpec := { name := "fnExactSmallBack", fn := fun _ => fun
  | [d1, d2, d3] => { results := [.lit (.bool false)], args := [d1, d2, d3] }
  | _ => none }
def FnExactSmallBackWrongFalsely : Prop := fnExactSmallBackRow.holds Try.pinned (OpenSpec.ofChange fnExactSmallBackWrong)

/-- 'laws.FnJoined': WHATEVER THE INPUT: true; the input reads as it did. -/
def fnJoinedSpec : ChangeSpec := { name := "fnJoined", fn := fun _ => fun
  | [d] => { results := [.lit (.bool true)], args := [d] }
  | _ => none }
def fnJoinedRow : OpenClaim := { program := "ytokaccgaendhmaa", sum := "a1e0c1419a24e6c87e455eb8d70259ee2076be7e489b1cb103eb403a84793eda", func := "loop.example/g00960/laws.FnJoined", spec := "fnJoined", apart := false }
def FnJoinedSaid : Prop := fnJoinedRow.holds Try.pinned (OpenSpec.ofChange fnJoinedSpec)

/-- ITS FALSE NEIGHBOUR: 'it returns false'. Refute it at one input. -/
def fnJoinedWrong : ChangeSpec := { name := "fnJoined", fn := fun _ => fun
  | [d] => { results := [.lit (.bool false)], args := [d] }
  | _ => none }
def FnJoinedWrongFalsely : Prop := fnJoinedRow.holds Try.pinned (OpenSpec.ofChange fnJoinedWrong)

/-- 'laws.FnExactEdgesOk': WHATEVER THE INPUT: true; the input reads as it did. -/
def fnExactEdgesOkSpec : ChangeSpec := { name := "fnExactEdgesOk", fn := fun _ => fun
  | [d] => { results := [.lit (.bool true)], args := [d] }
  | _ => none }
def fnExactEdgesOkRow : OpenClaim := { program := "ytokaccgaendhmaa", sum := "a1e0c1419a24e6c87e455eb8d70259ee2076be7e489b1cb103eb403a84793eda", func := "loop.example/g00960/laws.FnExactEdgesOk", spec := "fnExactEdgesOk", apart := false }
def FnExactEdgesOkSaid : Prop := fnExactEdgesOkRow.holds Try.pinned (OpenSpec.ofChange fnExactEdgesOkSpec)

/-- ITS FALSE NEIGHBOUR: 'it returns false'. Refute it at one input. -/
def fnExactEdgesOkWrong : ChangeSpec := { name := "fnExactEdgesOk", fn := fun _ => fun
  | [d] => { results := [.lit (.bool false)], args := [d] }
  | _ => none }
def FnExactEdgesOkWrongFalsely : Prop := fnExactEdgesOkRow.holds Try.pinned (OpenSpec.ofChange fnExactEdgesOkWrong)

/-- 'laws.FnMoreIsMore': WHATEVER THE INPUT: true; the input reads as it did. -/
def fnMoreIsMoreSpec : ChangeSpec := { name := "fnMoreIsMore", fn := fun _ => fun
  | [d] => { results := [.lit (.bool true)], args := [d] }
  | _ => none }
def fnMoreIsMoreRow : OpenClaim := { program := "ytokaccgaendhmaa", sum := "a1e0c1419a24e6c87e455eb8d70259ee2076be7e489b1cb103eb403a84793eda", func := "loop.example/g00960/laws.FnMoreIsMore", spec := "fnMoreIsMore", apart := false }
def FnMoreIsMoreSaid : Prop := fnMoreIsMoreRow.holds Try.pinned (OpenSpec.ofChange fnMoreIsMoreSpec)

/-- ITS FALSE NEIGHBOUR: 'it returns false'. Refute it at one input. -/
def fnMoreIsMoreWrong : ChangeSpec := { name := "fnMoreIsMore", fn := fun _ => fun
  | [d] => { results := [.lit (.bool false)], args := [d] }
  | _ => none }
def FnMoreIsMoreWrongFalsely : Prop := fnMoreIsMoreRow.holds Try.pinned (OpenSpec.ofChange fnMoreIsMoreWrong)

/-- 'laws.FnExactScanned': WHATEVER THE INPUT: true; the input reads as it did. -/
def fnExactScannedSpec : ChangeSpec := { name := "fnExactScanned", fn := fun _ => fun
  | [d1, d2] => { results := [.lit (.bool true)], args := [d1, d2] }
  | _ => none }
def fnExactScannedRow : OpenClaim := { program := "ytokaccgaendhmaa", sum := "a1e0c1419a24e6c87e455eb8d70259ee2076be7e489b1cb103eb403a84793eda", func := "loop.example/g00960/laws.FnExactScanned", spec := "fnExactScanned", apart := false }
def FnExactScannedSaid : Prop := fnExactScannedRow.holds Try.pinned (OpenSpec.ofChange fnExactScannedSpec)

/-- ITS FALSE NEIGHBOUR: 'it returns false'. Refute it at one input. -/
def fnExactScannedWrong : ChangeSpec := { name := "fnExactScanned", fn := fun _ => fun
  | [d1, d2] => { results := [.lit (.bool false)], args := [d1, d2] }
  | _ => none }
def FnExactScannedWrongFalsely : Prop := fnExactScannedRow.holds Try.pinned (OpenSpec.ofChange fnExactScannedWrong)

/-- 'laws.FnExactUnscanned': WHATEVER THE INPUT: true; the input reads as it did. -/
def fnExactUnscannedSpec : ChangeSpec := { name := "fnExactUnscanned", fn := fun _ => fun
  | [d1, d2] => { results := [.lit (.bool true)], args := [d1, d2] }
  | _ => none }
def fnExactUnscannedRow : OpenClaim := { program := "ytokaccgaendhmaa", sum := "a1e0c1419a24e6c87e455eb8d70259ee2076be7e489b1cb103eb403a84793eda", func := "loop.example/g00960/laws.FnExactUnscanned", spec := "fnExactUnscanned", apart := false }
def FnExactUnscannedSaid : Prop := fnExactUnscannedRow.holds Try.pinned (OpenSpec.ofChange fnExactUnscannedSpec)

/-- ITS FALSE NEIGHBOUR: 'it returns false'. Refute it at one input. -/
def fnExactUnscannedWrong : ChangeSpec := { name := "fnExactUnscanned", fn := fun _ => fun
  | [d1, d2] => { results := [.lit (.bool false)], args := [d1, d2] }
  | _ => none }
def FnExactUnscannedWrongFalsely : Prop := fnExactUnscannedRow.holds Try.pinned (OpenSpec.ofChange fnExactUnscannedWrong)

/-- 'laws.FnExactBlockOf': WHATEVER THE INPUT: true; the input reads as it did. -/
def fnExactBlockOfSpec : ChangeSpec := { name := "fnExactBlockOf", fn := fun _ => fun
  | [d1, d2, d3] => { results := [.lit (.bool true)], args := [d1, d2, d3] }
  | _ => none }
def fnExactBlockOfRow : OpenClaim := { program := "ytokaccgaendhmaa", sum := "a1e0c1419a24e6c87e455eb8d70259ee2076be7e489b1cb103eb403a84793eda", func := "loop.example/g00960/laws.FnExactBlockOf", spec := "fnExactBlockOf", apart := false }
def FnExactBlockOfSaid : Prop := fnExactBlockOfRow.holds Try.pinned (OpenSpec.ofChange fnExactBlockOfSpec)

/-- ITS FALSE NEIGHBOUR: 'it returns false'. Refute it at one input. -/
def fnExactBlockOfWrong : ChangeSpec := { name := "fnExactBlockOf", fn := fun _ => fun
  | [d1, d2, d3] => { results := [.lit (.bool false)], args := [d1, d2, d3] }
  | _ => none }
def FnExactBlockOfWrongFalsely : Prop := fnExactBlockOfRow.holds Try.pinned (OpenSpec.ofChange fnExactBlockOfWrong)

/- THE SECOND FORM. 'bulk': how many values and letters a reading holds, each counted each time it is reached (what is shared counts as often as it is met; a slice's spare places count too). A statement '..UptoSaid' is the law's where the arguments, and the package variables that the reading takes, are together of bulk at most 1048576: NARROWER than '..Said'. Prove '..Said' where nothing that the law and all that it calls make is longer than what came in: it says more and counts as full. Else prove '..UptoSaid'. A law counts once. -/
mutual
def uptoBulk {H : Type} : DataW H → Nat
  | .lit (.string bytes) => bytes.length + 1
  | .lit _ => 1
  | .nil => 1
  | .ptr d => uptoBulk d + 1
  | .slice elems spare => uptoBulkAll elems + uptoBulkAll spare + 1
  | .agg parts => uptoBulkAll parts + 1
  | .iface _ d => uptoBulk d + 1
  | .map entries => uptoBulkEntries entries + 1
  | .held _ => 1
def uptoBulkAll {H : Type} : List (DataW H) → Nat
  | [] => 0
  | d :: r => uptoBulk d + uptoBulkAll r
def uptoBulkEntries {H : Type} : List (Lit × DataW H) → Nat
  | [] => 0
  | x :: r => uptoBulkEntry x + uptoBulkEntries r
def uptoBulkEntry {H : Type} : Lit × DataW H → Nat
  | (.string bytes, d) => bytes.length + uptoBulk d + 1
  | (_, d) => uptoBulk d + 1
 end
def uptoSmall : (H : Type) → List (DataW H) → Bool := fun _ ds => decide (uptoBulkAll ds ≤ 1048576)
def OpenSpec.upto (s : _root_.Go.ChangeSpec) : _root_.Go.OpenSpec := { _root_.Go.OpenSpec.ofChange s with cond := some uptoSmall }

/-- 'laws.FnExactCutOf', WHERE WHAT IT READS IS OF BULK AT MOST 1048576: true; the input reads as it did. -/
def fnExactCutOfUptoRow : OpenClaim := { program := "ytokaccgaendhmaa", sum := "a1e0c1419a24e6c87e455eb8d70259ee2076be7e489b1cb103eb403a84793eda", func := "loop.example/g00960/laws.FnExactCutOf", spec := "fnExactCutOf", apart := false, narrowed := true }
def FnExactCutOfUptoSaid : Prop := fnExactCutOfUptoRow.holds Try.pinned (OpenSpec.upto fnExactCutOfSpec)

/-- 'laws.FnExactGapOf', WHERE WHAT IT READS IS OF BULK AT MOST 1048576: true; the input reads as it did. -/
def fnExactGapOfUptoRow : OpenClaim := { program := "ytokaccgaendhmaa", sum := "a1e0c1419a24e6c87e455eb8d70259ee2076be7e489b1cb103eb403a84793eda", func := "loop.example/g00960/laws.FnExactGapOf", spec := "fnExactGapOf", apart := false, narrowed := true }
def FnExactGapOfUptoSaid : Prop := fnExactGapOfUptoRow.holds Try.pinned (OpenSpec.upto fnExactGapOfSpec)

/-- 'laws.FnExactLeft', WHERE WHAT IT READS IS OF BULK AT MOST 1048576: true; the input reads as it did. -/
def fnExactLeftUptoRow : OpenClaim := { program := "ytokaccgaendhmaa", sum := "a1e0c1419a24e6c87e455eb8d70259ee2076be7e489b1cb103eb403a84793eda", func := "loop.example/g00960/laws.FnExactLeft", spec := "fnExactLeft", unfollowed := true, recurses := true, apart := false, narrowed := true }
def FnExactLeftUptoSaid : Prop := fnExactLeftUptoRow.holds Try.pinned (OpenSpec.upto fnExactLeftSpec)

/-- 'laws.FnExactScaleOf', WHERE WHAT IT READS IS OF BULK AT MOST 1048576: true; the input reads as it did. -/
def fnExactScaleOfUptoRow : OpenClaim := { program := "ytokaccgaendhmaa", sum := "a1e0c1419a24e6c87e455eb8d70259ee2076be7e489b1cb103eb403a84793eda", func := "loop.example/g00960/laws.FnExactScaleOf", spec := "fnExactScaleOf", apart := false, narrowed := true }
def FnExactScaleOfUptoSaid : Prop := fnExactScaleOfUptoRow.holds Try.pinned (OpenSpec.upto fnExactScaleOfSpec)

/-- 'laws.FnGreys', WHERE WHAT IT READS IS OF BULK AT MOST 1048576: true; the input reads as it did. -/
def fnGreysUptoRow : OpenClaim := { program := "ytokaccgaendhmaa", sum := "a1e0c1419a24e6c87e455eb8d70259ee2076be7e489b1cb103eb403a84793eda", func := "loop.example/g00960/laws.FnGreys", spec := "fnGreys", apart := false, narrowed := true }
def FnGreysUptoSaid : Prop := fnGreysUptoRow.holds Try.pinned (OpenSpec.upto fnGreysSpec)

/-- 'laws.FnExactSmallBack', WHERE WHAT IT READS IS OF BULK AT MOST 1048576: true; the input reads as it did. -/
def fnExactSmallBackUptoRow : OpenClaim := { program := "ytokaccgaendhmaa", sum := "a1e0c1419a24e6c87e455eb8d70259ee2076be7e489b1cb103eb403a84793eda", func := "loop.example/g00960/laws.FnExactSmallBack", spec := "fnExactSmallBack", apart := false, narrowed := true }
def FnExactSmallBackUptoSaid : Prop := fnExactSmallBackUptoRow.holds Try.pinned (OpenSpec.upto fnExactSmallBackSpec)

/-- 'laws.FnJoined', WHERE WHAT IT READS IS OF BULK AT MOST 1048576: true; the input reads as it did. -/
def fnJoinedUptoRow : OpenClaim := { program := "ytokaccgaendhmaa", sum := "a1e0c1419a24e6c87e455eb8d70259ee2076be7e489b1cb103eb403a84793eda", func := "loop.example/g00960/laws.FnJoined", spec := "fnJoined", apart := false, narrowed := true }
def FnJoinedUptoSaid : Prop := fnJoinedUptoRow.holds Try.pinned (OpenSpec.upto fnJoinedSpec)

/-- 'laws.FnExactEdgesOk', WHERE WHAT IT READS IS OF BULK AT MOST 1048576: true; the input reads as it did. -/
def fnExactEdgesOkUptoRow : OpenClaim := { program := "ytokaccgaendhmaa", sum := "a1e0c1419a24e6c87e455eb8d70259ee2076be7e489b1cb103eb403a84793eda", func := "loop.example/g00960/laws.FnExactEdgesOk", spec := "fnExactEdgesOk", apart := false, narrowed := true }
def FnExactEdgesOkUptoSaid : Prop := fnExactEdgesOkUptoRow.holds Try.pinned (OpenSpec.upto fnExactEdgesOkSpec)

/-- 'laws.FnMoreIsMore', WHERE WHAT IT READS IS OF BULK AT MOST 1048576: true; the input reads as it did. -/
def fnMoreIsMoreUptoRow : OpenClaim := { program := "ytokaccgaendhmaa", sum := "a1e0c1419a24e6c87e455eb8d70259ee2076be7e489b1cb103eb403a84793eda", func := "loop.example/g00960/laws.FnMoreIsMore", spec := "fnMoreIsMore", apart := false, narrowed := true }
def FnMoreIsMoreUptoSaid : Prop := fnMoreIsMoreUptoRow.holds Try.pinned (OpenSpec.upto fnMoreIsMoreSpec)

/-- 'laws.FnExactScanned', WHERE WHAT IT READS IS OF BULK AT MOST 1048576: true; the input reads as it did. -/
def fnExactScannedUptoRow : OpenClaim := { program := "ytokaccgaendhmaa", sum := "a1e0c1419a24e6c87e455eb8d70259ee2076be7e489b1cb103eb403a84793eda", func := "loop.example/g00960/laws.FnExactScanned", spec := "fnExactScanned", apart := false, narrowed := true }
def FnExactScannedUptoSaid : Prop := fnExactScannedUptoRow.holds Try.pinned (OpenSpec.upto fnExactScannedSpec)

/-- 'laws.FnExactUnscanned', WHERE WHAT IT READS IS OF BULK AT MOST 1048576: true; the input reads as it did. -/
def fnExactUnscannedUptoRow : OpenClaim := { program := "ytokaccgaendhmaa", sum := "a1e0c1419a24e6c87e455eb8d70259ee2076be7e489b1cb103eb403a84793eda", func := "loop.example/g00960/laws.FnExactUnscanned", spec := "fnExactUnscanned", apart := false, narrowed := true }
def FnExactUnscannedUptoSaid : Prop := fnExactUnscannedUptoRow.holds Try.pinned (OpenSpec.upto fnExactUnscannedSpec)

/-- 'laws.FnExactBlockOf', WHERE WHAT IT READS IS OF BULK AT MOST 1048576: true; the input reads as it did. -/
def fnExactBlockOfUptoRow : OpenClaim := { program := "ytokaccgaendhmaa", sum := "a1e0c1419a24e6c87e455eb8d70259ee2076be7e489b1cb103eb403a84793eda", func := "loop.example/g00960/laws.FnExactBlockOf", spec := "fnExactBlockOf", apart := false, narrowed := true }
def FnExactBlockOfUptoSaid : Prop := fnExactBlockOfUptoRow.holds Try.pinned (OpenSpec.upto fnExactBlockOfSpec)

end Rows
end Go.Proofs.Ytokaccgaendhmaa
