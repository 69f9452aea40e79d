/-
  No cell of these rows narrows 'for every input' (looked for: loops, veiled, ifaces, maps, wideKeys, modest, calm, conditions, laid).
  DERIVED. THE GIVEN ROWS OF THIS SEAT. 7 by the template 'for every input the law returns true; each argument reads behind the call as it read before'; 0 by the template 'total and deterministic' (their statements: YthicgkilfjjifaaTotals.lean).
  GIVEN WITH THE SEED: the statements are not yours to turn. If you find one false, say at which input.
  Laid BY PROGRAM, IN A SANDBOX (cutbox-rows.mjs): the forced cells as the released guide's own fill.sh prints them over the translation 7d16750bdd97ef3c… (all of the seat's roots in one cut). By AI agents, Wed Nov 11 2026. No macro, syntax, notation, axiom, sorry.
-/
import Derived.Test.YthicgkilfjjifaaChecked
import GoSem.Claim
import GoSem.ClaimJoined
import GoSem.ClaimMapViews
import Derived.JoinedTies
import Derived.KernelRfl
namespace Go.Proofs.Ythicgkilfjjifaa
/- THE CELL 'sum', in the pinned program and in every row, IS THE sha256 OF THE DUMP (.gsa) THAT YthicgkilfjjifaaProg.lean LOADS. Nothing in Lean hashes anything: it is a label: what it is worth is what the hold of that sum in a sandbox is worth. -/
noncomputable def Try.pinned : Pinned := { name := "ythicgkilfjjifaa", sum := "7d16750bdd97ef3c1e34c6dfe4cc4e23324a0434caad7ea6c5d55c9a0edee106", checked := Try.checked }
namespace Rows
def none {H : Type} : Left H := { results := [], args := [] }

/-- 'incunablelaw20.SliceDecodes': WHATEVER THE INPUT: true; the input reads as it did. -/
def sliceDecodesSpec : ChangeSpec := { name := "sliceDecodes", fn := fun _ => fun
  | [d1, d2, d3, d4, d5, d6] => { results := [.lit (.bool true)], args := [d1, d2, d3, d4, d5, d6] }
  | _ => none }
def sliceDecodesRow : OpenClaim := { program := "ythicgkilfjjifaa", sum := "7d16750bdd97ef3c1e34c6dfe4cc4e23324a0434caad7ea6c5d55c9a0edee106", func := "incunable/incunablelaw20.SliceDecodes", spec := "sliceDecodes", unfollowed := true, recurses := true, apart := false }
def SliceDecodesSaid : Prop := sliceDecodesRow.holds Try.pinned (OpenSpec.ofChange sliceDecodesSpec)

/-- ITS FALSE NEIGHBOUR: 'it returns false'. Refute it at one input. -/
def sliceDecodesWrong : ChangeSpec := { name := "sliceDecodes", fn := fun _ => fun
  | [d1, d2, d3, d4, d5, d6] => { results := [.lit (.bool false)], args := [d1, d2, d3, d4, d5, d6] }
  | _ => none }
def SliceDecodesWrongFalsely : Prop := sliceDecodesRow.holds Try.pinned (OpenSpec.ofChange sliceDecodesWrong)

/-- 'incunablelaw20.SliceBegins': WHATEVER THE INPUT: true; the input reads as it did. -/
def sliceBeginsSpec : ChangeSpec := { name := "sliceBegins", fn := fun _ => fun
  | [d1, d2, d3, d4] => { results := [.lit (.bool true)], args := [d1, d2, d3, d4] }
  | _ => none }
def sliceBeginsRow : OpenClaim := { program := "ythicgkilfjjifaa", sum := "7d16750bdd97ef3c1e34c6dfe4cc4e23324a0434caad7ea6c5d55c9a0edee106", func := "incunable/incunablelaw20.SliceBegins", spec := "sliceBegins", unfollowed := true, recurses := true, apart := false }
def SliceBeginsSaid : Prop := sliceBeginsRow.holds Try.pinned (OpenSpec.ofChange sliceBeginsSpec)

/-- ITS FALSE NEIGHBOUR: 'it returns false'. Refute it at one input. -/
def sliceBeginsWrong : ChangeSpec := { name := "sliceBegins", fn := fun _ => fun
  | [d1, d2, d3, d4] => { results := [.lit (.bool false)], args := [d1, d2, d3, d4] }
  | _ => none }
def SliceBeginsWrongFalsely : Prop := sliceBeginsRow.holds Try.pinned (OpenSpec.ofChange sliceBeginsWrong)

/-- 'incunablelaw20.SliceNearer': WHATEVER THE INPUT: true; the input reads as it did. -/
def sliceNearerSpec : ChangeSpec := { name := "sliceNearer", fn := fun _ => fun
  | [d1, d2, d3] => { results := [.lit (.bool true)], args := [d1, d2, d3] }
  | _ => none }
def sliceNearerRow : OpenClaim := { program := "ythicgkilfjjifaa", sum := "7d16750bdd97ef3c1e34c6dfe4cc4e23324a0434caad7ea6c5d55c9a0edee106", func := "incunable/incunablelaw20.SliceNearer", spec := "sliceNearer", unfollowed := true, recurses := true, apart := false }
def SliceNearerSaid : Prop := sliceNearerRow.holds Try.pinned (OpenSpec.ofChange sliceNearerSpec)

/-- ITS FALSE NEIGHBOUR: 'it returns false'. Refute it at one input. -/
def sliceNearerWrong : ChangeSpec := { name := "sliceNearer", fn := fun _ => fun
  | [d1, d2, d3] => { results := [.lit (.bool false)], args := [d1, d2, d3] }
  | _ => none }
def SliceNearerWrongFalsely : Prop := sliceNearerRow.holds Try.pinned (OpenSpec.ofChange sliceNearerWrong)

/-- 'incunablelaw20.SliceMore': WHATEVER THE INPUT: true; the input reads as it did. -/
def sliceMoreSpec : ChangeSpec := { name := "sliceMore", fn := fun _ => fun
  | [d1, d2, d3, d4, d5, d6] => { results := [.lit (.bool true)], args := [d1, d2, d3, d4, d5, d6] }
  | _ => none }
def sliceMoreRow : OpenClaim := { program := "ythicgkilfjjifaa", sum := "7d16750bdd97ef3c1e34c6dfe4cc4e23324a0434caad7ea6c5d55c9a0edee106", func := "incunable/incunablelaw20.SliceMore", spec := "sliceMore", unfollowed := true, recurses := true, apart := false }
def SliceMoreSaid : Prop := sliceMoreRow.holds Try.pinned (OpenSpec.ofChange sliceMoreSpec)

/-- ITS FALSE NEIGHBOUR: 'it returns false'. Refute it at one input. -/
def sliceMoreWrong : ChangeSpec := { name := "sliceMore", fn := fun _ => fun
  | [d1, d2, d3, d4, d5, d6] => { results := [.lit (.bool false)], args := [d1, d2, d3, d4, d5, d6] }
  | _ => none }
def SliceMoreWrongFalsely : Prop := sliceMoreRow.holds Try.pinned (OpenSpec.ofChange sliceMoreWrong)

/-- 'incunablelaw20.SliceBuckets': WHATEVER THE INPUT: true; the input reads as it did. -/
def sliceBucketsSpec : ChangeSpec := { name := "sliceBuckets", fn := fun _ => fun
  | [d1, d2, d3] => { results := [.lit (.bool true)], args := [d1, d2, d3] }
  | _ => none }
def sliceBucketsRow : OpenClaim := { program := "ythicgkilfjjifaa", sum := "7d16750bdd97ef3c1e34c6dfe4cc4e23324a0434caad7ea6c5d55c9a0edee106", func := "incunable/incunablelaw20.SliceBuckets", spec := "sliceBuckets", unfollowed := true, recurses := true, apart := false }
def SliceBucketsSaid : Prop := sliceBucketsRow.holds Try.pinned (OpenSpec.ofChange sliceBucketsSpec)

/-- ITS FALSE NEIGHBOUR: 'it returns false'. Refute it at one input. -/
def sliceBucketsWrong : ChangeSpec := { name := "sliceBuckets", fn := fun _ => fun
  | [d1, d2, d3] => { results := [.lit (.bool false)], args := [d1, d2, d3] }
  | _ => none }
def SliceBucketsWrongFalsely : Prop := sliceBucketsRow.holds Try.pinned (OpenSpec.ofChange sliceBucketsWrong)

/-- 'incunablelaw20.SlicePlanes': WHATEVER THE INPUT: true; the input reads as it did. -/
def slicePlanesSpec : ChangeSpec := { name := "slicePlanes", fn := fun _ => fun
  | [d1, d2] => { results := [.lit (.bool true)], args := [d1, d2] }
  | _ => none }
def slicePlanesRow : OpenClaim := { program := "ythicgkilfjjifaa", sum := "7d16750bdd97ef3c1e34c6dfe4cc4e23324a0434caad7ea6c5d55c9a0edee106", func := "incunable/incunablelaw20.SlicePlanes", spec := "slicePlanes", unfollowed := true, recurses := true, apart := false }
def SlicePlanesSaid : Prop := slicePlanesRow.holds Try.pinned (OpenSpec.ofChange slicePlanesSpec)

/-- ITS FALSE NEIGHBOUR: 'it returns false'. Refute it at one input. -/
def slicePlanesWrong : ChangeSpec := { name := "slicePlanes", fn := fun _ => fun
  | [d1, d2] => { results := [.lit (.bool false)], args := [d1, d2] }
  | _ => none }
def SlicePlanesWrongFalsely : Prop := slicePlanesRow.holds Try.pinned (OpenSpec.ofChange slicePlanesWrong)

/-- 'incunablelaw20.SliceCuts': WHATEVER THE INPUT: true; the input reads as it did. -/
def sliceCutsSpec : ChangeSpec := { name := "sliceCuts", fn := fun _ => fun
  | [d1, d2] => { results := [.lit (.bool true)], args := [d1, d2] }
  | _ => none }
def sliceCutsRow : OpenClaim := { program := "ythicgkilfjjifaa", sum := "7d16750bdd97ef3c1e34c6dfe4cc4e23324a0434caad7ea6c5d55c9a0edee106", func := "incunable/incunablelaw20.SliceCuts", spec := "sliceCuts", unfollowed := true, recurses := true, apart := false }
def SliceCutsSaid : Prop := sliceCutsRow.holds Try.pinned (OpenSpec.ofChange sliceCutsSpec)

/-- ITS FALSE NEIGHBOUR: 'it returns false'. Refute it at one input. -/
def sliceCutsWrong : ChangeSpec := { name := "sliceCuts", fn := fun _ => fun
  | [d1, d2] => { results := [.lit (.bool false)], args := [d1, d2] }
  | _ => none }
def SliceCutsWrongFalsely : Prop := sliceCutsRow.holds Try.pinned (OpenSpec.ofChange sliceCutsWrong)

/- THE SECOND FORM. 'bulk': how many values and letters a reading holds, each counted each time it is reached (what is shared counts as often as it is met; a slice's spare places count too). A statement '..UptoSaid' is the law's where the arguments, and the package variables that the reading takes, are together of bulk at most 1048576: NARROWER than '..Said'. Prove '..Said' where nothing that the law and all that it calls make is longer than what came in: it says more and counts as full. Else prove '..UptoSaid'. A law counts once. -/
mutual
def uptoBulk {H : Type} : DataW H → Nat
  | .lit (.string bytes) => bytes.length + 1
  | .lit _ => 1
  | .nil => 1
  | .ptr d => uptoBulk d + 1
  | .slice elems spare => uptoBulkAll elems + uptoBulkAll spare + 1
  | .agg parts => uptoBulkAll parts + 1
  | .iface _ d => uptoBulk d + 1
  | .map entries => uptoBulkEntries entries + 1
  | .held _ => 1
def uptoBulkAll {H : Type} : List (DataW H) → Nat
  | [] => 0
  | d :: r => uptoBulk d + uptoBulkAll r
def uptoBulkEntries {H : Type} : List (Lit × DataW H) → Nat
  | [] => 0
  | x :: r => uptoBulkEntry x + uptoBulkEntries r
def uptoBulkEntry {H : Type} : Lit × DataW H → Nat
  | (.string bytes, d) => bytes.length + uptoBulk d + 1
  | (_, d) => uptoBulk d + 1
 end
def uptoSmall : (H : Type) → List (DataW H) → Bool := fun _ ds => decide (uptoBulkAll ds ≤ 1048576)
def OpenSpec.upto (s : _root_.Go.ChangeSpec) : _root_.Go.OpenSpec := { _root_.Go.OpenSpec.ofChange s with cond := some uptoSmall }

/-- 'incunablelaw20.SliceDecodes', WHERE WHAT IT READS IS OF BULK AT MOST 1048576: true; the input reads as it did. -/
def sliceDecodesUptoRow : OpenClaim := { program := "ythicgkilfjjifaa", sum := "7d16750bdd97ef3c1e34c6dfe4cc4e23324a0434caad7ea6c5d55c9a0edee106", func := "incunable/incunablelaw20.SliceDecodes", spec := "sliceDecodes", unfollowed := true, recurses := true, apart := false, narrowed := true }
def SliceDecodesUptoSaid : Prop := sliceDecodesUptoRow.holds Try.pinned (OpenSpec.upto sliceDecodesSpec)

/-- 'incunablelaw20.SliceBegins', WHERE WHAT IT READS IS OF BULK AT MOST 1048576: true; the input reads as it did. -/
def sliceBeginsUptoRow : OpenClaim := { program := "ythicgkilfjjifaa", sum := "7d16750bdd97ef3c1e34c6dfe4cc4e23324a0434caad7ea6c5d55c9a0edee106", func := "incunable/incunablelaw20.SliceBegins", spec := "sliceBegins", unfollowed := true, recurses := true, apart := false, narrowed := true }
def SliceBeginsUptoSaid : Prop := sliceBeginsUptoRow.holds Try.pinned (OpenSpec.upto sliceBeginsSpec)

/-- 'incunablelaw20.SliceNearer', WHERE WHAT IT READS IS OF BULK AT MOST 1048576: true; the input reads as it did. -/
def sliceNearerUptoRow : OpenClaim := { program := "ythicgkilfjjifaa", sum := "7d16750bdd97ef3c1e34c6dfe4cc4e23324a0434caad7ea6c5d55c9a0edee106", func := "incunable/incunablelaw20.SliceNearer", spec := "sliceNearer", unfollowed := true, recurses := true, apart := false, narrowed := true }
def SliceNearerUptoSaid : Prop := sliceNearerUptoRow.holds Try.pinned (OpenSpec.upto sliceNearerSpec)

/-- 'incunablelaw20.SliceMore', WHERE WHAT IT READS IS OF BULK AT MOST 1048576: true; the input reads as it did. -/
def sliceMoreUptoRow : OpenClaim := { program := "ythicgkilfjjifaa", sum := "7d16750bdd97ef3c1e34c6dfe4cc4e23324a0434caad7ea6c5d55c9a0edee106", func := "incunable/incunablelaw20.SliceMore", spec := "sliceMore", unfollowed := true, recurses := true, apart := false, narrowed := true }
def SliceMoreUptoSaid : Prop := sliceMoreUptoRow.holds Try.pinned (OpenSpec.upto sliceMoreSpec)

/-- 'incunablelaw20.SliceBuckets', WHERE WHAT IT READS IS OF BULK AT MOST 1048576: true; the input reads as it did. -/
def sliceBucketsUptoRow : OpenClaim := { program := "ythicgkilfjjifaa", sum := "7d16750bdd97ef3c1e34c6dfe4cc4e23324a0434caad7ea6c5d55c9a0edee106", func := "incunable/incunablelaw20.SliceBuckets", spec := "sliceBuckets", unfollowed := true, recurses := true, apart := false, narrowed := true }
def SliceBucketsUptoSaid : Prop := sliceBucketsUptoRow.holds Try.pinned (OpenSpec.upto sliceBucketsSpec)

/-- 'incunablelaw20.SlicePlanes', WHERE WHAT IT READS IS OF BULK AT MOST 1048576: true; the input reads as it did. -/
def slicePlanesUptoRow : OpenClaim := { program := "ythicgkilfjjifaa", sum := "7d16750bdd97ef3c1e34c6dfe4cc4e23324a0434caad7ea6c5d55c9a0edee106", func := "incunable/incunablelaw20.SlicePlanes", spec := "slicePlanes", unfollowed := true, recurses := true, apart := false, narrowed := true }
def SlicePlanesUptoSaid : Prop := slicePlanesUptoRow.holds Try.pinned (OpenSpec.upto slicePlanesSpec)

/-- 'incunablelaw20.SliceCuts', WHERE WHAT IT READS IS OF BULK AT MOST 1048576: true; the input reads as it did. -/
def sliceCutsUptoRow : OpenClaim := { program := "ythicgkilfjjifaa", sum := "7d16750bdd97ef3c1e34c6dfe4cc4e23324a0434caad7ea6c5d55c9a0edee106", func := "incunable/incunablelaw20.SliceCuts", spec := "sliceCuts", unfollowed := true, recurses := true, apart := false, narrowed := true }
def SliceCutsUptoSaid : Prop := sliceCutsUptoRow.holds Try.pinned (OpenSpec.upto sliceCutsSpec)

end Rows
end Go.Proofs.Ythicgkilfjjifaa
