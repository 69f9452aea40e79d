/-
  No cell of these rows narrows 'for every input' (looked for: loops, veiled, ifaces, maps, wideKeys, modest, calm, conditions, laid).
  DERIVED. THE GIVEN ROWS OF THIS SEAT. 4 by the template 'for every input the law returns true; each argument reads behind the call as it read before'; 0 by the template 'total and deterministic' (their statements: YtkmiklngnainfaaTotals.lean).
  GIVEN WITH THE SEED: the statements are not yours to turn. If you find one false, say at which input.
  Laid BY PROGRAM, IN A SANDBOX (cutbox-rows.mjs): the forced cells as the released guide's own fill.sh prints them over the translation f7b378d7287dc976… (all of the seat's roots in one cut). By AI agents, Wed Nov 11 2026. No macro, syntax, notation, axiom, sorry.
-/
import Derived.Test.YtkmiklngnainfaaChecked
import GoSem.Claim
import GoSem.ClaimJoined
import GoSem.ClaimMapViews
import Derived.JoinedTies
import Derived.KernelRfl
namespace Go.Proofs.Ytkmiklngnainfaa
/- THE CELL 'sum', in the pinned program and in every row, IS THE sha256 OF THE DUMP (.gsa) THAT YtkmiklngnainfaaProg.lean LOADS. Nothing in Lean hashes anything: it is a label: what it is worth is what the hold of that sum in a sandbox is worth. -/
noncomputable def Try.pinned : Pinned := { name := "ytkmiklngnainfaa", sum := "f7b378d7287dc9765c9fdb681fd8738222da144a032fb89837cc0abbd2b016e1", checked := Try.checked }
namespace Rows
def none {H : Type} : Left H := { results := [], args := [] }

/-- 'incunabletop.TopSlices': WHATEVER THE INPUT: true; the input reads as it did. -/
def topSlicesSpec : ChangeSpec := { name := "topSlices", fn := fun _ => fun
  | [d1, d2, d3, d4, d5] => { results := [.lit (.bool true)], args := [d1, d2, d3, d4, d5] }
  | _ => none }
def topSlicesRow : OpenClaim := { program := "ytkmiklngnainfaa", sum := "f7b378d7287dc9765c9fdb681fd8738222da144a032fb89837cc0abbd2b016e1", func := "incunable/incunabletop.TopSlices", spec := "topSlices", unfollowed := true, recurses := true, apart := false }
def TopSlicesSaid : Prop := topSlicesRow.holds Try.pinned (OpenSpec.ofChange topSlicesSpec)

/-- ITS FALSE NEIGHBOUR: 'it returns false'. Refute it at one input. -/
def topSlicesWrong : ChangeSpec := { name := "topSlices", fn := fun _ => fun
  | [d1, d2, d3, d4, d5] => { results := [.lit (.bool false)], args := [d1, d2, d3, d4, d5] }
  | _ => none }
def TopSlicesWrongFalsely : Prop := topSlicesRow.holds Try.pinned (OpenSpec.ofChange topSlicesWrong)

/-- 'incunabletop.TopColour': WHATEVER THE INPUT: true; the input reads as it did. -/
def topColourSpec : ChangeSpec := { name := "topColour", fn := fun _ => fun
  | [d] => { results := [.lit (.bool true)], args := [d] }
  | _ => none }
def topColourRow : OpenClaim := { program := "ytkmiklngnainfaa", sum := "f7b378d7287dc9765c9fdb681fd8738222da144a032fb89837cc0abbd2b016e1", func := "incunable/incunabletop.TopColour", spec := "topColour", unfollowed := true, recurses := true, apart := false }
def TopColourSaid : Prop := topColourRow.holds Try.pinned (OpenSpec.ofChange topColourSpec)

/-- ITS FALSE NEIGHBOUR: 'it returns false'. Refute it at one input. -/
def topColourWrong : ChangeSpec := { name := "topColour", fn := fun _ => fun
  | [d] => { results := [.lit (.bool false)], args := [d] }
  | _ => none }
def TopColourWrongFalsely : Prop := topColourRow.holds Try.pinned (OpenSpec.ofChange topColourWrong)

/-- 'incunablelaw20.SliceDecodes': WHATEVER THE INPUT: true; the input reads as it did. -/
def sliceDecodesSpec : ChangeSpec := { name := "sliceDecodes", fn := fun _ => fun
  | [d1, d2, d3, d4, d5, d6] => { results := [.lit (.bool true)], args := [d1, d2, d3, d4, d5, d6] }
  | _ => none }
def sliceDecodesRow : OpenClaim := { program := "ytkmiklngnainfaa", sum := "f7b378d7287dc9765c9fdb681fd8738222da144a032fb89837cc0abbd2b016e1", func := "incunable/incunablelaw20.SliceDecodes", spec := "sliceDecodes", unfollowed := true, recurses := true, apart := false }
def SliceDecodesSaid : Prop := sliceDecodesRow.holds Try.pinned (OpenSpec.ofChange sliceDecodesSpec)

/-- ITS FALSE NEIGHBOUR: 'it returns false'. Refute it at one input. -/
def sliceDecodesWrong : ChangeSpec := { name := "sliceDecodes", fn := fun _ => fun
  | [d1, d2, d3, d4, d5, d6] => { results := [.lit (.bool false)], args := [d1, d2, d3, d4, d5, d6] }
  | _ => none }
def SliceDecodesWrongFalsely : Prop := sliceDecodesRow.holds Try.pinned (OpenSpec.ofChange sliceDecodesWrong)

/-- 'incunablelaw20.SliceMore': WHATEVER THE INPUT: true; the input reads as it did. -/
def sliceMoreSpec : ChangeSpec := { name := "sliceMore", fn := fun _ => fun
  | [d1, d2, d3, d4, d5, d6] => { results := [.lit (.bool true)], args := [d1, d2, d3, d4, d5, d6] }
  | _ => none }
def sliceMoreRow : OpenClaim := { program := "ytkmiklngnainfaa", sum := "f7b378d7287dc9765c9fdb681fd8738222da144a032fb89837cc0abbd2b016e1", func := "incunable/incunablelaw20.SliceMore", spec := "sliceMore", unfollowed := true, recurses := true, apart := false }
def SliceMoreSaid : Prop := sliceMoreRow.holds Try.pinned (OpenSpec.ofChange sliceMoreSpec)

/-- ITS FALSE NEIGHBOUR: 'it returns false'. Refute it at one input. -/
def sliceMoreWrong : ChangeSpec := { name := "sliceMore", fn := fun _ => fun
  | [d1, d2, d3, d4, d5, d6] => { results := [.lit (.bool false)], args := [d1, d2, d3, d4, d5, d6] }
  | _ => none }
def SliceMoreWrongFalsely : Prop := sliceMoreRow.holds Try.pinned (OpenSpec.ofChange sliceMoreWrong)

/- THE SECOND FORM. 'bulk': how many values and letters a reading holds, each counted each time it is reached (what is shared counts as often as it is met; a slice's spare places count too). A statement '..UptoSaid' is the law's where the arguments, and the package variables that the reading takes, are together of bulk at most 1048576: NARROWER than '..Said'. Prove '..Said' where nothing that the law and all that it calls make is longer than what came in: it says more and counts as full. Else prove '..UptoSaid'. A law counts once. -/
mutual
def uptoBulk {H : Type} : DataW H → Nat
  | .lit (.string bytes) => bytes.length + 1
  | .lit _ => 1
  | .nil => 1
  | .ptr d => uptoBulk d + 1
  | .slice elems spare => uptoBulkAll elems + uptoBulkAll spare + 1
  | .agg parts => uptoBulkAll parts + 1
  | .iface _ d => uptoBulk d + 1
  | .map entries => uptoBulkEntries entries + 1
  | .held _ => 1
def uptoBulkAll {H : Type} : List (DataW H) → Nat
  | [] => 0
  | d :: r => uptoBulk d + uptoBulkAll r
def uptoBulkEntries {H : Type} : List (Lit × DataW H) → Nat
  | [] => 0
  | x :: r => uptoBulkEntry x + uptoBulkEntries r
def uptoBulkEntry {H : Type} : Lit × DataW H → Nat
  | (.string bytes, d) => bytes.length + uptoBulk d + 1
  | (_, d) => uptoBulk d + 1
 end
def uptoSmall : (H : Type) → List (DataW H) → Bool := fun _ ds => decide (uptoBulkAll ds ≤ 1048576)
def OpenSpec.upto (s : _root_.Go.ChangeSpec) : _root_.Go.OpenSpec := { _root_.Go.OpenSpec.ofChange s with cond := some uptoSmall }

/-- 'incunabletop.TopSlices', WHERE WHAT IT READS IS OF BULK AT MOST 1048576: true; the input reads as it did. -/
def topSlicesUptoRow : OpenClaim := { program := "ytkmiklngnainfaa", sum := "f7b378d7287dc9765c9fdb681fd8738222da144a032fb89837cc0abbd2b016e1", func := "incunable/incunabletop.TopSlices", spec := "topSlices", unfollowed := true, recurses := true, apart := false, narrowed := true }
def TopSlicesUptoSaid : Prop := topSlicesUptoRow.holds Try.pinned (OpenSpec.upto topSlicesSpec)

/-- 'incunabletop.TopColour', WHERE WHAT IT READS IS OF BULK AT MOST 1048576: true; the input reads as it did. -/
def topColourUptoRow : OpenClaim := { program := "ytkmiklngnainfaa", sum := "f7b378d7287dc9765c9fdb681fd8738222da144a032fb89837cc0abbd2b016e1", func := "incunable/incunabletop.TopColour", spec := "topColour", unfollowed := true, recurses := true, apart := false, narrowed := true }
def TopColourUptoSaid : Prop := topColourUptoRow.holds Try.pinned (OpenSpec.upto topColourSpec)

/-- 'incunablelaw20.SliceDecodes', WHERE WHAT IT READS IS OF BULK AT MOST 1048576: true; the input reads as it did. -/
def sliceDecodesUptoRow : OpenClaim := { program := "ytkmiklngnainfaa", sum := "f7b378d7287dc9765c9fdb681fd8738222da144a032fb89837cc0abbd2b016e1", func := "incunable/incunablelaw20.SliceDecodes", spec := "sliceDecodes", unfollowed := true, recurses := true, apart := false, narrowed := true }
def SliceDecodesUptoSaid : Prop := sliceDecodesUptoRow.holds Try.pinned (OpenSpec.upto sliceDecodesSpec)

/-- 'incunablelaw20.SliceMore', WHERE WHAT IT READS IS OF BULK AT MOST 1048576: true; the input reads as it did. -/
def sliceMoreUptoRow : OpenClaim := { program := "ytkmiklngnainfaa", sum := "f7b378d7287dc9765c9fdb681fd8738222da144a032fb89837cc0abbd2b016e1", func := "incunable/incunablelaw20.SliceMore", spec := "sliceMore", unfollowed := true, recurses := true, apart := false, narrowed := true }
def SliceMoreUptoSaid : Prop := sliceMoreUptoRow.holds Try.pinned (OpenSpec.upto sliceMoreSpec)

end Rows
end Go.Proofs.Ytkmiklngnainfaa
