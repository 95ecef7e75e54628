/-
  No cell of these rows narrows 'for every input' (looked for: loops, veiled, ifaces, maps, wideKeys, modest, calm, conditions, laid).
  DERIVED. THE GIVEN ROWS OF THIS SEAT. 12 by the template 'for every input the law returns true; each argument reads behind the call as it read before'; 0 by the template 'total and deterministic' (their statements: YtnjilcgnkiddmaaTotals.lean).
  GIVEN WITH THE SEED: the statements are not yours to turn. If you find one false, say at which input.
  Laid BY PROGRAM, IN A SANDBOX (cutbox-rows.mjs): the forced cells as the released guide's own fill.sh prints them over the translation d0868e8d346f20be… (all of the seat's roots in one cut). By AI agents, Wed Nov 11 2026. No macro, syntax, notation, axiom, sorry.
-/
import Derived.Test.YtnjilcgnkiddmaaChecked
import GoSem.Claim
import GoSem.ClaimJoined
import GoSem.ClaimMapViews
import Derived.JoinedTies
import Derived.KernelRfl
namespace Go.Proofs.Ytnjilcgnkiddmaa
/- THE CELL 'sum', in the pinned program and in every row, IS THE sha256 OF THE DUMP (.gsa) THAT YtnjilcgnkiddmaaProg.lean LOADS. Nothing in Lean hashes anything: it is a label: what it is worth is what the hold of that sum in a sandbox is worth. -/
noncomputable def Try.pinned : Pinned := { name := "ytnjilcgnkiddmaa", sum := "d0868e8d346f20be87cd83137f84b0144ec33256361b4666d955f58486354ad2", checked := Try.checked }
namespace Rows
def none {H : Type} : Left H := { results := [], args := [] }

/-- 'laws.FnExactCondOk': WHATEVER THE INPUT: true; the input reads as it did. -/
def fnExactCondOkSpec : ChangeSpec := { name := "fnExactCondOk", fn := fun _ => fun
  | [d] => { results := [.lit (.bool true)], args := [d] }
  | _ => none }
def fnExactCondOkRow : OpenClaim := { program := "ytnjilcgnkiddmaa", sum := "d0868e8d346f20be87cd83137f84b0144ec33256361b4666d955f58486354ad2", func := "loop.example/g00960/laws.FnExactCondOk", spec := "fnExactCondOk", apart := false }
def FnExactCondOkSaid : Prop := fnExactCondOkRow.holds Try.pinned (OpenSpec.ofChange fnExactCondOkSpec)

/-- ITS FALSE NEIGHBOUR: 'it returns false'. Refute it at one input. -/
def fnExactCondOkWrong : ChangeSpec := { name := "fnExactCondOk", fn := fun _ => fun
  | [d] => { results := [.lit (.bool false)], args := [d] }
  | _ => none }
def FnExactCondOkWrongFalsely : Prop := fnExactCondOkRow.holds Try.pinned (OpenSpec.ofChange fnExactCondOkWrong)

/-- 'laws.FnExactPicOk': WHATEVER THE INPUT: true; the input reads as it did. -/
def fnExactPicOkSpec : ChangeSpec := { name := "fnExactPicOk", fn := fun _ => fun
  | [d] => { results := [.lit (.bool true)], args := [d] }
  | _ => none }
def fnExactPicOkRow : OpenClaim := { program := "ytnjilcgnkiddmaa", sum := "d0868e8d346f20be87cd83137f84b0144ec33256361b4666d955f58486354ad2", func := "loop.example/g00960/laws.FnExactPicOk", spec := "fnExactPicOk", apart := false }
def FnExactPicOkSaid : Prop := fnExactPicOkRow.holds Try.pinned (OpenSpec.ofChange fnExactPicOkSpec)

/-- ITS FALSE NEIGHBOUR: 'it returns false'. Refute it at one input. -/
def fnExactPicOkWrong : ChangeSpec := { name := "fnExactPicOk", fn := fun _ => fun
  | [d] => { results := [.lit (.bool false)], args := [d] }
  | _ => none }
def FnExactPicOkWrongFalsely : Prop := fnExactPicOkRow.holds Try.pinned (OpenSpec.ofChange fnExactPicOkWrong)

/-- 'laws.FnExactSignOf': WHATEVER THE INPUT: true; the input reads as it did. -/
def fnExactSignOfSpec : ChangeSpec := { name := "fnExactSignOf", fn := fun _ => fun
  | [d1, d2] => { results := [.lit (.bool true)], args := [d1, d2] }
  | _ => none }
def fnExactSignOfRow : OpenClaim := { program := "ytnjilcgnkiddmaa", sum := "d0868e8d346f20be87cd83137f84b0144ec33256361b4666d955f58486354ad2", func := "loop.example/g00960/laws.FnExactSignOf", spec := "fnExactSignOf", apart := false }
def FnExactSignOfSaid : Prop := fnExactSignOfRow.holds Try.pinned (OpenSpec.ofChange fnExactSignOfSpec)

/-- ITS FALSE NEIGHBOUR: 'it returns false'. Refute it at one input. -/
def fnExactSignOfWrong : ChangeSpec := { name := "fnExactSignOf", fn := fun _ => fun
  | [d1, d2] => { results := [.lit (.bool false)], args := [d1, d2] }
  | _ => none }
def FnExactSignOfWrongFalsely : Prop := fnExactSignOfRow.holds Try.pinned (OpenSpec.ofChange fnExactSignOfWrong)

/-- 'laws.FnExactGrey': WHATEVER THE INPUT: true; the input reads as it did. -/
def fnExactGreySpec : ChangeSpec := { name := "fnExactGrey", fn := fun _ => fun
  | [d1, d2] => { results := [.lit (.bool true)], args := [d1, d2] }
  | _ => none }
def fnExactGreyRow : OpenClaim := { program := "ytnjilcgnkiddmaa", sum := "d0868e8d346f20be87cd83137f84b0144ec33256361b4666d955f58486354ad2", func := "loop.example/g00960/laws.FnExactGrey", spec := "fnExactGrey", apart := false }
def FnExactGreySaid : Prop := fnExactGreyRow.holds Try.pinned (OpenSpec.ofChange fnExactGreySpec)

/-- ITS FALSE NEIGHBOUR: 'it returns false'. Refute it at one input. -/
def fnExactGreyWrong : ChangeSpec := { name := "fnExactGrey", fn := fun _ => fun
  | [d1, d2] => { results := [.lit (.bool false)], args := [d1, d2] }
  | _ => none }
def FnExactGreyWrongFalsely : Prop := fnExactGreyRow.holds Try.pinned (OpenSpec.ofChange fnExactGreyWrong)

/-- 'laws.FnExactScanAt': WHATEVER THE INPUT: true; the input reads as it did. -/
def fnExactScanAtSpec : ChangeSpec := { name := "fnExactScanAt", fn := fun _ => fun
  | [d1, d2] => { results := [.lit (.bool true)], args := [d1, d2] }
  | _ => none }
def fnExactScanAtRow : OpenClaim := { program := "ytnjilcgnkiddmaa", sum := "d0868e8d346f20be87cd83137f84b0144ec33256361b4666d955f58486354ad2", func := "loop.example/g00960/laws.FnExactScanAt", spec := "fnExactScanAt", apart := false }
def FnExactScanAtSaid : Prop := fnExactScanAtRow.holds Try.pinned (OpenSpec.ofChange fnExactScanAtSpec)

/-- ITS FALSE NEIGHBOUR: 'it returns false'. Refute it at one input. -/
def fnExactScanAtWrong : ChangeSpec := { name := "fnExactScanAt", fn := fun _ => fun
  | [d1, d2] => { results := [.lit (.bool false)], args := [d1, d2] }
  | _ => none }
def FnExactScanAtWrongFalsely : Prop := fnExactScanAtRow.holds Try.pinned (OpenSpec.ofChange fnExactScanAtWrong)

/-- 'laws.FnExactDotAt': WHATEVER THE INPUT: true; the input reads as it did. -/
def fnExactDotAtSpec : ChangeSpec := { name := "fnExactDotAt", fn := fun _ => fun
  | [d1, d2, d3] => { results := [.lit (.bool true)], args := [d1, d2, d3] }
  | _ => none }
def fnExactDotAtRow : OpenClaim := { program := "ytnjilcgnkiddmaa", sum := "d0868e8d346f20be87cd83137f84b0144ec33256361b4666d955f58486354ad2", func := "loop.example/g00960/laws.FnExactDotAt", spec := "fnExactDotAt", apart := false }
def FnExactDotAtSaid : Prop := fnExactDotAtRow.holds Try.pinned (OpenSpec.ofChange fnExactDotAtSpec)

/-- ITS FALSE NEIGHBOUR: 'it returns false'. Refute it at one input. -/
def fnExactDotAtWrong : ChangeSpec := { name := "fnExactDotAt", fn := fun _ => fun
  | [d1, d2, d3] => { results := [.lit (.bool false)], args := [d1, d2, d3] }
  | _ => none }
def FnExactDotAtWrongFalsely : Prop := fnExactDotAtRow.holds Try.pinned (OpenSpec.ofChange fnExactDotAtWrong)

/-- 'laws.FnExactApart': WHATEVER THE INPUT: true; the input reads as it did. -/
def fnExactApartSpec : ChangeSpec := { name := "fnExactApart", fn := fun _ => fun
  | [d1, d2] => { results := [.lit (.bool true)], args := [d1, d2] }
  | _ => none }
def fnExactApartRow : OpenClaim := { program := "ytnjilcgnkiddmaa", sum := "d0868e8d346f20be87cd83137f84b0144ec33256361b4666d955f58486354ad2", func := "loop.example/g00960/laws.FnExactApart", spec := "fnExactApart", apart := false }
def FnExactApartSaid : Prop := fnExactApartRow.holds Try.pinned (OpenSpec.ofChange fnExactApartSpec)

/-- ITS FALSE NEIGHBOUR: 'it returns false'. Refute it at one input. -/
def fnExactApartWrong : ChangeSpec := { name := "fnExactApart", fn := fun _ => fun
  | [d1, d2] => { results := [.lit (.bool false)], args := [d1, d2] }
  | _ => none }
def FnExactApartWrongFalsely : Prop := fnExactApartRow.holds Try.pinned (OpenSpec.ofChange fnExactApartWrong)

/-- 'laws.FnEights': WHATEVER THE INPUT: true; the input reads as it did. -/
def fnEightsSpec : ChangeSpec := { name := "fnEights", fn := fun _ => fun
  | [d] => { results := [.lit (.bool true)], args := [d] }
  | _ => none }
def fnEightsRow : OpenClaim := { program := "ytnjilcgnkiddmaa", sum := "d0868e8d346f20be87cd83137f84b0144ec33256361b4666d955f58486354ad2", func := "loop.example/g00960/laws.FnEights", spec := "fnEights", apart := false }
def FnEightsSaid : Prop := fnEightsRow.holds Try.pinned (OpenSpec.ofChange fnEightsSpec)

/-- ITS FALSE NEIGHBOUR: 'it returns false'. Refute it at one input. -/
def fnEightsWrong : ChangeSpec := { name := "fnEights", fn := fun _ => fun
  | [d] => { results := [.lit (.bool false)], args := [d] }
  | _ => none }
def FnEightsWrongFalsely : Prop := fnEightsRow.holds Try.pinned (OpenSpec.ofChange fnEightsWrong)

/-- 'laws.FnSigns': WHATEVER THE INPUT: true; the input reads as it did. -/
def fnSignsSpec : ChangeSpec := { name := "fnSigns", fn := fun _ => fun
  | [d] => { results := [.lit (.bool true)], args := [d] }
  | _ => none }
def fnSignsRow : OpenClaim := { program := "ytnjilcgnkiddmaa", sum := "d0868e8d346f20be87cd83137f84b0144ec33256361b4666d955f58486354ad2", func := "loop.example/g00960/laws.FnSigns", spec := "fnSigns", apart := false }
def FnSignsSaid : Prop := fnSignsRow.holds Try.pinned (OpenSpec.ofChange fnSignsSpec)

/-- ITS FALSE NEIGHBOUR: 'it returns false'. Refute it at one input. -/
def fnSignsWrong : ChangeSpec := { name := "fnSigns", fn := fun _ => fun
  | [d] => { results := [.lit (.bool false)], args := [d] }
  | _ => none }
def FnSignsWrongFalsely : Prop := fnSignsRow.holds Try.pinned (OpenSpec.ofChange fnSignsWrong)

/-- 'laws.FnExactWeight': WHATEVER THE INPUT: true; the input reads as it did. -/
def fnExactWeightSpec : ChangeSpec := { name := "fnExactWeight", fn := fun _ => fun
  | [d] => { results := [.lit (.bool true)], args := [d] }
  | _ => none }
def fnExactWeightRow : OpenClaim := { program := "ytnjilcgnkiddmaa", sum := "d0868e8d346f20be87cd83137f84b0144ec33256361b4666d955f58486354ad2", func := "loop.example/g00960/laws.FnExactWeight", spec := "fnExactWeight", apart := false }
def FnExactWeightSaid : Prop := fnExactWeightRow.holds Try.pinned (OpenSpec.ofChange fnExactWeightSpec)

/-- ITS FALSE NEIGHBOUR: 'it returns false'. Refute it at one input. -/
def fnExactWeightWrong : ChangeSpec := { name := "fnExactWeight", fn := fun _ => fun
  | [d] => { results := [.lit (.bool false)], args := [d] }
  | _ => none }
def FnExactWeightWrongFalsely : Prop := fnExactWeightRow.holds Try.pinned (OpenSpec.ofChange fnExactWeightWrong)

/-- 'laws.FnExactShareOf': WHATEVER THE INPUT: true; the input reads as it did. -/
def fnExactShareOfSpec : ChangeSpec := { name := "fnExactShareOf", fn := fun _ => fun
  | [d1, d2] => { results := [.lit (.bool true)], args := [d1, d2] }
  | _ => none }
def fnExactShareOfRow : OpenClaim := { program := "ytnjilcgnkiddmaa", sum := "d0868e8d346f20be87cd83137f84b0144ec33256361b4666d955f58486354ad2", func := "loop.example/g00960/laws.FnExactShareOf", spec := "fnExactShareOf", apart := false }
def FnExactShareOfSaid : Prop := fnExactShareOfRow.holds Try.pinned (OpenSpec.ofChange fnExactShareOfSpec)

/-- ITS FALSE NEIGHBOUR: 'it returns false'. Refute it at one input. -/
def fnExactShareOfWrong : ChangeSpec := { name := "fnExactShareOf", fn := fun _ => fun
  | [d1, d2] => { results := [.lit (.bool false)], args := [d1, d2] }
  | _ => none }
def FnExactShareOfWrongFalsely : Prop := fnExactShareOfRow.holds Try.pinned (OpenSpec.ofChange fnExactShareOfWrong)

/-- 'laws.FnExactPasted': WHATEVER THE INPUT: true; the input reads as it did. -/
def fnExactPastedSpec : ChangeSpec := { name := "fnExactPasted", fn := fun _ => fun
  | [d1, d2, d3, d4] => { results := [.lit (.bool true)], args := [d1, d2, d3, d4] }
  | _ => none }
def fnExactPastedRow : OpenClaim := { program := "ytnjilcgnkiddmaa", sum := "d0868e8d346f20be87cd83137f84b0144ec33256361b4666d955f58486354ad2", func := "loop.example/g00960/laws.FnExactPasted", spec := "fnExactPasted", apart := false }
def FnExactPastedSaid : Prop := fnExactPastedRow.holds Try.pinned (OpenSpec.ofChange fnExactPastedSpec)

/-- ITS FALSE NEIGHBOUR: 'it returns false'. Refute it at one input. -/
def fnExactPastedWrong : ChangeSpec := { name := "fnExactPasted", fn := fun _ => fun
  | [d1, d2, d3, d4] => { results := [.lit (.bool false)], args := [d1, d2, d3, d4] }
  | _ => none }
def FnExactPastedWrongFalsely : Prop := fnExactPastedRow.holds Try.pinned (OpenSpec.ofChange fnExactPastedWrong)

/- THE SECOND FORM. 'bulk': how many values and letters a reading holds, each counted each time it is reached (what is shared counts as often as it is met; a slice's spare places count too). A statement '..UptoSaid' is the law's where the arguments, and the package variables that the reading takes, are together of bulk at most 1048576: NARROWER than '..Said'. Prove '..Said' where nothing that the law and all that it calls make is longer than what came in: it says more and counts as full. Else prove '..UptoSaid'. A law counts once. -/
mutual
def uptoBulk {H : Type} : DataW H → Nat
  | .lit (.string bytes) => bytes.length + 1
  | .lit _ => 1
  | .nil => 1
  | .ptr d => uptoBulk d + 1
  | .slice elems spare => uptoBulkAll elems + uptoBulkAll spare + 1
  | .agg parts => uptoBulkAll parts + 1
  | .iface _ d => uptoBulk d + 1
  | .map entries => uptoBulkEntries entries + 1
  | .held _ => 1
def uptoBulkAll {H : Type} : List (DataW H) → Nat
  | [] => 0
  | d :: r => uptoBulk d + uptoBulkAll r
def uptoBulkEntries {H : Type} : List (Lit × DataW H) → Nat
  | [] => 0
  | x :: r => uptoBulkEntry x + uptoBulkEntries r
def uptoBulkEntry {H : Type} : Lit × DataW H → Nat
  | (.string bytes, d) => bytes.length + uptoBulk d + 1
  | (_, d) => uptoBulk d + 1
 end
def uptoSmall : (H : Type) → List (DataW H) → Bool := fun _ ds => decide (uptoBulkAll ds ≤ 1048576)
def OpenSpec.upto (s : _root_.Go.ChangeSpec) : _root_.Go.OpenSpec := { _root_.Go.OpenSpec.ofChange s with cond := some uptoSmall }

/-- 'laws.FnExactCondOk', WHERE WHAT IT READS IS OF BULK AT MOST 1048576: true; the input reads as it did. -/
def fnExactCondOkUptoRow : OpenClaim := { program := "ytnjilcgnkiddmaa", sum := "d0868e8d346f20be87cd83137f84b0144ec33256361b4666d955f58486354ad2", func := "loop.example/g00960/laws.FnExactCondOk", spec := "fnExactCondOk", apart := false, narrowed := true }
def FnExactCondOkUptoSaid : Prop := fnExactCondOkUptoRow.holds Try.pinned (OpenSpec.upto fnExactCondOkSpec)

/-- 'laws.FnExactPicOk', WHERE WHAT IT READS IS OF BULK AT MOST 1048576: true; the input reads as it did. -/
def fnExactPicOkUptoRow : OpenClaim := { program := "ytnjilcgnkiddmaa", sum := "d0868e8d346f20be87cd83137f84b0144ec33256361b4666d955f58486354ad2", func := "loop.example/g00960/laws.FnExactPicOk", spec := "fnExactPicOk", apart := false, narrowed := true }
def FnExactPicOkUptoSaid : Prop := fnExactPicOkUptoRow.holds Try.pinned (OpenSpec.upto fnExactPicOkSpec)

/-- 'laws.FnExactSignOf', WHERE WHAT IT READS IS OF BULK AT MOST 1048576: true; the input reads as it did. -/
def fnExactSignOfUptoRow : OpenClaim := { program := "ytnjilcgnkiddmaa", sum := "d0868e8d346f20be87cd83137f84b0144ec33256361b4666d955f58486354ad2", func := "loop.example/g00960/laws.FnExactSignOf", spec := "fnExactSignOf", apart := false, narrowed := true }
def FnExactSignOfUptoSaid : Prop := fnExactSignOfUptoRow.holds Try.pinned (OpenSpec.upto fnExactSignOfSpec)

/-- 'laws.FnExactGrey', WHERE WHAT IT READS IS OF BULK AT MOST 1048576: true; the input reads as it did. -/
def fnExactGreyUptoRow : OpenClaim := { program := "ytnjilcgnkiddmaa", sum := "d0868e8d346f20be87cd83137f84b0144ec33256361b4666d955f58486354ad2", func := "loop.example/g00960/laws.FnExactGrey", spec := "fnExactGrey", apart := false, narrowed := true }
def FnExactGreyUptoSaid : Prop := fnExactGreyUptoRow.holds Try.pinned (OpenSpec.upto fnExactGreySpec)

/-- 'laws.FnExactScanAt', WHERE WHAT IT READS IS OF BULK AT MOST 1048576: true; the input reads as it did. -/
def fnExactScanAtUptoRow : OpenClaim := { program := "ytnjilcgnkiddmaa", sum := "d0868e8d346f20be87cd83137f84b0144ec33256361b4666d955f58486354ad2", func := "loop.example/g00960/laws.FnExactScanAt", spec := "fnExactScanAt", apart := false, narrowed := true }
def FnExactScanAtUptoSaid : Prop := fnExactScanAtUptoRow.holds Try.pinned (OpenSpec.upto fnExactScanAtSpec)

/-- 'laws.FnExactDotAt', WHERE WHAT IT READS IS OF BULK AT MOST 1048576: true; the input reads as it did. -/
def fnExactDotAtUptoRow : OpenClaim := { program := "ytnjilcgnkiddmaa", sum := "d0868e8d346f20be87cd83137f84b0144ec33256361b4666d955f58486354ad2", func := "loop.example/g00960/laws.FnExactDotAt", spec := "fnExactDotAt", apart := false, narrowed := true }
def FnExactDotAtUptoSaid : Prop := fnExactDotAtUptoRow.holds Try.pinned (OpenSpec.upto fnExactDotAtSpec)

/-- 'laws.FnExactApart', WHERE WHAT IT READS IS OF BULK AT MOST 1048576: true; the input reads as it did. -/
def fnExactApartUptoRow : OpenClaim := { program := "ytnjilcgnkiddmaa", sum := "d0868e8d346f20be87cd83137f84b0144ec33256361b4666d955f58486354ad2", func := "loop.example/g00960/laws.FnExactApart", spec := "fnExactApart", apart := false, narrowed := true }
def FnExactApartUptoSaid : Prop := fnExactApartUptoRow.holds Try.pinned (OpenSpec.upto fnExactApartSpec)

/-- 'laws.FnEights', WHERE WHAT IT READS IS OF BULK AT MOST 1048576: true; the input reads as it did. -/
def fnEightsUptoRow : OpenClaim := { program := "ytnjilcgnkiddmaa", sum := "d0868e8d346f20be87cd83137f84b0144ec33256361b4666d955f58486354ad2", func := "loop.example/g00960/laws.FnEights", spec := "fnEights", apart := false, narrowed := true }
def FnEightsUptoSaid : Prop := fnEightsUptoRow.holds Try.pinned (OpenSpec.upto fnEightsSpec)

/-- 'laws.FnSigns', WHERE WHAT IT READS IS OF BULK AT MOST 1048576: true; the input reads as it did. -/
def fnSignsUptoRow : OpenClaim := { program := "ytnjilcgnkiddmaa", sum := "d0868e8d346f20be87cd83137f84b0144ec33256361b4666d955f58486354ad2", func := "loop.example/g00960/laws.FnSigns", spec := "fnSigns", apart := false, narrowed := true }
def FnSignsUptoSaid : Prop := fnSignsUptoRow.holds Try.pinned (OpenSpec.upto fnSignsSpec)

/-- 'laws.FnExactWeight', WHERE WHAT IT READS IS OF BULK AT MOST 1048576: true; the input reads as it did. -/
def fnExactWeightUptoRow : OpenClaim := { program := "ytnjilcgnkiddmaa", sum := "d0868e8d346f20be87cd83137f84b0144ec33256361b4666d955f58486354ad2", func := "loop.example/g00960/laws.FnExactWeight", spec := "fnExactWeight", apart := false, narrowed := true }
def FnExactWeightUptoSaid : Prop := fnExactWeightUptoRow.holds Try.pinned (OpenSpec.upto fnExactWeightSpec)

/-- 'laws.FnExactShareOf', WHERE WHAT IT READS IS OF BULK AT MOST 1048576: true; the input reads as it did. -/
def fnExactShareOfUptoRow : OpenClaim := { program := "ytnjilcgnkiddmaa", sum := "d0868e8d346f20be87cd83137f84b0144ec33256361b4666d955f58486354ad2", func := "loop.example/g00960/laws.FnExactShareOf", spec := "fnExactShareOf", apart := false, narrowed := true }
def FnExactShareOfUptoSaid : Prop := fnExactShareOfUptoRow.holds Try.pinned (OpenSpec.upto fnExactShareOfSpec)

/-- 'laws.FnExactPasted', WHERE WHAT IT READS IS OF BULK AT MOST 1048576: true; the input reads as it did. -/
def fnExactPastedUptoRow : OpenClaim := { program := "ytnjilcgnkiddmaa", sum := "d0868e8d346f20be87cd83137f84b0144ec33256361b4666d955f58486354ad2", func := "loop.example/g00960/laws.FnExactPasted", spec := "fnExactPasted", apart := false, narrowed := true }
def FnExactPastedUptoSaid : Prop := fnExactPastedUptoRow.holds Try.pinned (OpenSpec.upto fnExactPastedSpec)

end Rows
end Go.Proofs.Ytnjilcgnkiddmaa
