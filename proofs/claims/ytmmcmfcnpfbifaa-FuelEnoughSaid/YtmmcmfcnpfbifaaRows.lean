/-
  No cell of these rows narrows 'for every input' (looked for: loops, veiled, ifaces, maps, wideKeys, modest, calm, conditions, laid).
  DERIVED. THE GIVEN ROWS OF THIS SEAT. 7 by the template 'for every input the law returns true; each argument reads behind the call as it read before'; 0 by the template 'total and deterministic' (their statements: YtmmcmfcnpfbifaaTotals.lean).
  GIVEN WITH THE SEED: the statements are not yours to turn. If you find one false, say at which input.
  Laid BY PROGRAM, IN A SANDBOX (cutbox-rows.mjs): the forced cells as the released guide's own fill.sh prints them over the translation 57dc52b0d5eafbb7… (all of the seat's roots in one cut). By AI agents, Wed Nov 11 2026. No macro, syntax, notation, axiom, sorry.
-/
import Derived.Test.YtmmcmfcnpfbifaaChecked
import GoSem.Claim
import GoSem.ClaimJoined
import GoSem.ClaimMapViews
import Derived.JoinedTies
import Derived.KernelRfl
namespace Go.Proofs.Ytmmcmfcnpfbifaa
/- THE CELL 'sum', in the pinned program and in every row, IS THE sha256 OF THE DUMP (.gsa) THAT YtmmcmfcnpfbifaaProg.lean LOADS. Nothing in Lean hashes anything: it is a label: what it is worth is what the hold of that sum in a sandbox is worth. -/
noncomputable def Try.pinned : Pinned := { name := "ytmmcmfcnpfbifaa", sum := "57dc52b0d5eafbb7d4ef9fcf97eb5c0495065d4e5c77aa537c35f89225df0e47", checked := Try.checked }
namespace Rows
def none {H : Type} : Left H := { results := [], args := [] }

/-- 'norialaw29.VerifyChecks': WHATEVER THE INPUT: true; the input reads as it did. -/
def verifyChecksSpec : ChangeSpec := { name := "verifyChecks", fn := fun _ => fun
  | [d1, d2] => { results := [.lit (.bool true)], args := [d1, d2] }
  | _ => none }
def verifyChecksRow : OpenClaim := { program := "ytmmcmfcnpfbifaa", sum := "57dc52b0d5eafbb7d4ef9fcf97eb5c0495065d4e5c77aa537c35f89225df0e47", func := "noria/norialaw29.VerifyChecks", spec := "verifyChecks", unfollowed := true, recurses := true, apart := false }
def VerifyChecksSaid : Prop := verifyChecksRow.holds Try.pinned (OpenSpec.ofChange verifyChecksSpec)

/-- ITS FALSE NEIGHBOUR: 'it returns false'. Refute it at one input. -/
def verifyChecksWrong : ChangeSpec := { name := "verifyChecks", fn := fun _ => fun
  | [d1, d2] => { results := [.lit (.bool false)], args := [d1, d2] }
  | _ => none }
def VerifyChecksWrongFalsely : Prop := verifyChecksRow.holds Try.pinned (OpenSpec.ofChange verifyChecksWrong)

/-- 'norialaw29.VerifyAhead': WHATEVER THE INPUT: true; the input reads as it did. -/
def verifyAheadSpec : ChangeSpec := { name := "verifyAhead", fn := fun _ => fun
  | [d1, d2] => { results := [.lit (.bool true)], args := [d1, d2] }
  | _ => none }
def verifyAheadRow : OpenClaim := { program := "ytmmcmfcnpfbifaa", sum := "57dc52b0d5eafbb7d4ef9fcf97eb5c0495065d4e5c77aa537c35f89225df0e47", func := "noria/norialaw29.VerifyAhead", spec := "verifyAhead", unfollowed := true, recurses := true, apart := false }
def VerifyAheadSaid : Prop := verifyAheadRow.holds Try.pinned (OpenSpec.ofChange verifyAheadSpec)

/-- ITS FALSE NEIGHBOUR: 'it returns false'. Refute it at one input. -/
def verifyAheadWrong : ChangeSpec := { name := "verifyAhead", fn := fun _ => fun
  | [d1, d2] => { results := [.lit (.bool false)], args := [d1, d2] }
  | _ => none }
def VerifyAheadWrongFalsely : Prop := verifyAheadRow.holds Try.pinned (OpenSpec.ofChange verifyAheadWrong)

/-- 'norialaw29.VerifyPrefix': WHATEVER THE INPUT: true; the input reads as it did. -/
def verifyPrefixSpec : ChangeSpec := { name := "verifyPrefix", fn := fun _ => fun
  | [d1, d2, d3] => { results := [.lit (.bool true)], args := [d1, d2, d3] }
  | _ => none }
def verifyPrefixRow : OpenClaim := { program := "ytmmcmfcnpfbifaa", sum := "57dc52b0d5eafbb7d4ef9fcf97eb5c0495065d4e5c77aa537c35f89225df0e47", func := "noria/norialaw29.VerifyPrefix", spec := "verifyPrefix", unfollowed := true, recurses := true, apart := false }
def VerifyPrefixSaid : Prop := verifyPrefixRow.holds Try.pinned (OpenSpec.ofChange verifyPrefixSpec)

/-- ITS FALSE NEIGHBOUR: 'it returns false'. Refute it at one input. -/
def verifyPrefixWrong : ChangeSpec := { name := "verifyPrefix", fn := fun _ => fun
  | [d1, d2, d3] => { results := [.lit (.bool false)], args := [d1, d2, d3] }
  | _ => none }
def VerifyPrefixWrongFalsely : Prop := verifyPrefixRow.holds Try.pinned (OpenSpec.ofChange verifyPrefixWrong)

/-- 'norialaw31.FuelBounds': WHATEVER THE INPUT: true; the input reads as it did. -/
def fuelBoundsSpec : ChangeSpec := { name := "fuelBounds", fn := fun _ => fun
  | [d1, d2] => { results := [.lit (.bool true)], args := [d1, d2] }
  | _ => none }
def fuelBoundsRow : OpenClaim := { program := "ytmmcmfcnpfbifaa", sum := "57dc52b0d5eafbb7d4ef9fcf97eb5c0495065d4e5c77aa537c35f89225df0e47", func := "noria/norialaw31.FuelBounds", spec := "fuelBounds", unfollowed := true, recurses := true, apart := false }
def FuelBoundsSaid : Prop := fuelBoundsRow.holds Try.pinned (OpenSpec.ofChange fuelBoundsSpec)

/-- ITS FALSE NEIGHBOUR: 'it returns false'. Refute it at one input. -/
def fuelBoundsWrong : ChangeSpec := { name := "fuelBounds", fn := fun _ => fun
  | [d1, d2] => { results := [.lit (.bool false)], args := [d1, d2] }
  | _ => none }
def FuelBoundsWrongFalsely : Prop := fuelBoundsRow.holds Try.pinned (OpenSpec.ofChange fuelBoundsWrong)

/-- 'norialaw31.FuelEnough': WHATEVER THE INPUT: true; the input reads as it did. -/
def fuelEnoughSpec : ChangeSpec := { name := "fuelEnough", fn := fun _ => fun
  | [d1, d2, d3] => { results := [.lit (.bool true)], args := [d1, d2, d3] }
  | _ => none }
def fuelEnoughRow : OpenClaim := { program := "ytmmcmfcnpfbifaa", sum := "57dc52b0d5eafbb7d4ef9fcf97eb5c0495065d4e5c77aa537c35f89225df0e47", func := "noria/norialaw31.FuelEnough", spec := "fuelEnough", unfollowed := true, recurses := true, apart := false }
def FuelEnoughSaid : Prop := fuelEnoughRow.holds Try.pinned (OpenSpec.ofChange fuelEnoughSpec)

/-- ITS FALSE NEIGHBOUR: 'it returns false'. Refute it at one input. -/
def fuelEnoughWrong : ChangeSpec := { name := "fuelEnough", fn := fun _ => fun
  | [d1, d2, d3] => { results := [.lit (.bool false)], args := [d1, d2, d3] }
  | _ => none }
def FuelEnoughWrongFalsely : Prop := fuelEnoughRow.holds Try.pinned (OpenSpec.ofChange fuelEnoughWrong)

/-- 'norialaw31.FuelStraight': WHATEVER THE INPUT: true; the input reads as it did. -/
def fuelStraightSpec : ChangeSpec := { name := "fuelStraight", fn := fun _ => fun
  | [d1, d2] => { results := [.lit (.bool true)], args := [d1, d2] }
  | _ => none }
def fuelStraightRow : OpenClaim := { program := "ytmmcmfcnpfbifaa", sum := "57dc52b0d5eafbb7d4ef9fcf97eb5c0495065d4e5c77aa537c35f89225df0e47", func := "noria/norialaw31.FuelStraight", spec := "fuelStraight", unfollowed := true, recurses := true, apart := false }
def FuelStraightSaid : Prop := fuelStraightRow.holds Try.pinned (OpenSpec.ofChange fuelStraightSpec)

/-- ITS FALSE NEIGHBOUR: 'it returns false'. Refute it at one input. -/
def fuelStraightWrong : ChangeSpec := { name := "fuelStraight", fn := fun _ => fun
  | [d1, d2] => { results := [.lit (.bool false)], args := [d1, d2] }
  | _ => none }
def FuelStraightWrongFalsely : Prop := fuelStraightRow.holds Try.pinned (OpenSpec.ofChange fuelStraightWrong)

/-- 'norialaw32.GenShapes': WHATEVER THE INPUT: true; the input reads as it did. -/
def genShapesSpec : ChangeSpec := { name := "genShapes", fn := fun _ => fun
  | [d] => { results := [.lit (.bool true)], args := [d] }
  | _ => none }
def genShapesRow : OpenClaim := { program := "ytmmcmfcnpfbifaa", sum := "57dc52b0d5eafbb7d4ef9fcf97eb5c0495065d4e5c77aa537c35f89225df0e47", func := "noria/norialaw32.GenShapes", spec := "genShapes", unfollowed := true, recurses := true, apart := false }
def GenShapesSaid : Prop := genShapesRow.holds Try.pinned (OpenSpec.ofChange genShapesSpec)

/-- ITS FALSE NEIGHBOUR: 'it returns false'. Refute it at one input. -/
def genShapesWrong : ChangeSpec := { name := "genShapes", fn := fun _ => fun
  | [d] => { results := [.lit (.bool false)], args := [d] }
  | _ => none }
def GenShapesWrongFalsely : Prop := genShapesRow.holds Try.pinned (OpenSpec.ofChange genShapesWrong)

/- THE SECOND FORM. 'bulk': how many values and letters a reading holds, each counted each time it is reached (what is shared counts as often as it is met; a slice's spare places count too). A statement '..UptoSaid' is the law's where the arguments, and the package variables that the reading takes, are together of bulk at most 1048576: NARROWER than '..Said'. Prove '..Said' where nothing that the law and all that it calls make is longer than what came in: it says more and counts as full. Else prove '..UptoSaid'. A law counts once. -/
mutual
def uptoBulk {H : Type} : DataW H → Nat
  | .lit (.string bytes) => bytes.length + 1
  | .lit _ => 1
  | .nil => 1
  | .ptr d => uptoBulk d + 1
  | .slice elems spare => uptoBulkAll elems + uptoBulkAll spare + 1
  | .agg parts => uptoBulkAll parts + 1
  | .iface _ d => uptoBulk d + 1
  | .map entries => uptoBulkEntries entries + 1
  | .held _ => 1
def uptoBulkAll {H : Type} : List (DataW H) → Nat
  | [] => 0
  | d :: r => uptoBulk d + uptoBulkAll r
def uptoBulkEntries {H : Type} : List (Lit × DataW H) → Nat
  | [] => 0
  | x :: r => uptoBulkEntry x + uptoBulkEntries r
def uptoBulkEntry {H : Type} : Lit × DataW H → Nat
  | (.string bytes, d) => bytes.length + uptoBulk d + 1
  | (_, d) => uptoBulk d + 1
 end
def uptoSmall : (H : Type) → List (DataW H) → Bool := fun _ ds => decide (uptoBulkAll ds ≤ 1048576)
def OpenSpec.upto (s : _root_.Go.ChangeSpec) : _root_.Go.OpenSpec := { _root_.Go.OpenSpec.ofChange s with cond := some uptoSmall }

/-- 'norialaw29.VerifyChecks', WHERE WHAT IT READS IS OF BULK AT MOST 1048576: true; the input reads as it did. -/
def verifyChecksUptoRow : OpenClaim := { program := "ytmmcmfcnpfbifaa", sum := "57dc52b0d5eafbb7d4ef9fcf97eb5c0495065d4e5c77aa537c35f89225df0e47", func := "noria/norialaw29.VerifyChecks", spec := "verifyChecks", unfollowed := true, recurses := true, apart := false, narrowed := true }
def VerifyChecksUptoSaid : Prop := verifyChecksUptoRow.holds Try.pinned (OpenSpec.upto verifyChecksSpec)

/-- 'norialaw29.VerifyAhead', WHERE WHAT IT READS IS OF BULK AT MOST 1048576: true; the input reads as it did. -/
def verifyAheadUptoRow : OpenClaim := { program := "ytmmcmfcnpfbifaa", sum := "57dc52b0d5eafbb7d4ef9fcf97eb5c0495065d4e5c77aa537c35f89225df0e47", func := "noria/norialaw29.VerifyAhead", spec := "verifyAhead", unfollowed := true, recurses := true, apart := false, narrowed := true }
def VerifyAheadUptoSaid : Prop := verifyAheadUptoRow.holds Try.pinned (OpenSpec.upto verifyAheadSpec)

/-- 'norialaw29.VerifyPrefix', WHERE WHAT IT READS IS OF BULK AT MOST 1048576: true; the input reads as it did. -/
def verifyPrefixUptoRow : OpenClaim := { program := "ytmmcmfcnpfbifaa", sum := "57dc52b0d5eafbb7d4ef9fcf97eb5c0495065d4e5c77aa537c35f89225df0e47", func := "noria/norialaw29.VerifyPrefix", spec := "verifyPrefix", unfollowed := true, recurses := true, apart := false, narrowed := true }
def VerifyPrefixUptoSaid : Prop := verifyPrefixUptoRow.holds Try.pinned (OpenSpec.upto verifyPrefixSpec)

/-- 'norialaw31.FuelBounds', WHERE WHAT IT READS IS OF BULK AT MOST 1048576: true; the input reads as it did. -/
def fuelBoundsUptoRow : OpenClaim := { program := "ytmmcmfcnpfbifaa", sum := "57dc52b0d5eafbb7d4ef9fcf97eb5c0495065d4e5c77aa537c35f89225df0e47", func := "noria/norialaw31.FuelBounds", spec := "fuelBounds", unfollowed := true, recurses := true, apart := false, narrowed := true }
def FuelBoundsUptoSaid : Prop := fuelBoundsUptoRow.holds Try.pinned (OpenSpec.upto fuelBoundsSpec)

/-- 'norialaw31.FuelEnough', WHERE WHAT IT READS IS OF BULK AT MOST 1048576: true; the input reads as it did. -/
def fuelEnoughUptoRow : OpenClaim := { program := "ytmmcmfcnpfbifaa", sum := "57dc52b0d5eafbb7d4ef9fcf97eb5c0495065d4e5c77aa537c35f89225df0e47", func := "noria/norialaw31.FuelEnough", spec := "fuelEnough", unfollowed := true, recurses := true, apart := false, narrowed := true }
def FuelEnoughUptoSaid : Prop := fuelEnoughUptoRow.holds Try.pinned (OpenSpec.upto fuelEnoughSpec)

/-- 'norialaw31.FuelStraight', WHERE WHAT IT READS IS OF BULK AT MOST 1048576: true; the input reads as it did. -/
def fuelStraightUptoRow : OpenClaim := { program := "ytmmcmfcnpfbifaa", sum := "57dc52b0d5eafbb7d4ef9fcf97eb5c0495065d4e5c77aa537c35f89225df0e47", func := "noria/norialaw31.FuelStraight", spec := "fuelStraight", unfollowed := true, recurses := true, apart := false, narrowed := true }
def FuelStraightUptoSaid : Prop := fuelStraightUptoRow.holds Try.pinned (OpenSpec.upto fuelStraightSpec)

/-- 'norialaw32.GenShapes', WHERE WHAT IT READS IS OF BULK AT MOST 1048576: true; the input reads as it did. -/
def genShapesUptoRow : OpenClaim := { program := "ytmmcmfcnpfbifaa", sum := "57dc52b0d5eafbb7d4ef9fcf97eb5c0495065d4e5c77aa537c35f89225df0e47", func := "noria/norialaw32.GenShapes", spec := "genShapes", unfollowed := true, recurses := true, apart := false, narrowed := true }
def GenShapesUptoSaid : Prop := genShapesUptoRow.holds Try.pinned (OpenSpec.upto genShapesSpec)

end Rows
end Go.Proofs.Ytmmcmfcnpfbifaa
