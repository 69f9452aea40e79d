/-
  No cell of these rows narrows 'for every input' (looked for: loops, veiled, ifaces, maps, wideKeys, modest, calm, conditions, laid).
  DERIVED. THE GIVEN ROWS OF THIS SEAT. 8 by the template 'for every input the law returns true; each argument reads behind the call as it read before'; 0 by the template 'total and deterministic' (their statements: YtnmbimhcfioeiaaTotals.lean).
  GIVEN WITH THE SEED: the statements are not yours to turn. If you find one false, say at which input.
  Laid BY PROGRAM, IN A SANDBOX (cutbox-rows.mjs): the forced cells as the released guide's own fill.sh prints them over the translation c5df2029c73b0990… (all of the seat's roots in one cut). By AI agents, Wed Nov 11 2026. No macro, syntax, notation, axiom, sorry.
-/
import Derived.Test.YtnmbimhcfioeiaaChecked
import GoSem.Claim
import GoSem.ClaimJoined
import GoSem.ClaimMapViews
import Derived.JoinedTies
import Derived.KernelRfl
namespace Go.Proofs.Ytnmbimhcfioeiaa
/- THE CELL 'sum', in the pinned program and in every row, IS THE sha256 OF THE DUMP (.gsa) THAT YtnmbimhcfioeiaaProg.lean LOADS. Nothing in Lean hashes anything: it is a label: what it is worth is what the hold of that sum in a sandbox is worth. -/
noncomputable def Try.pinned : Pinned := { name := "ytnmbimhcfioeiaa", sum := "c5df2029c73b0990801d44588a3fa899d697cee5e328b1ed84a4523b00fda66c", checked := Try.checked }
namespace Rows
def none {H : Type} : Left H := { results := [], args := [] }

/-- 'incunablelaw19.ColourNew': WHATEVER THE INPUT: true; the input reads as it did. -/
def colourNewSpec : ChangeSpec := { name := "colourNew", fn := fun _ => fun
  | [d] => { results := [.lit (.bool true)], args := [d] }
  | _ => none }
def colourNewRow : OpenClaim := { program := "ytnmbimhcfioeiaa", sum := "c5df2029c73b0990801d44588a3fa899d697cee5e328b1ed84a4523b00fda66c", func := "incunable/incunablelaw19.ColourNew", spec := "colourNew", unfollowed := true, recurses := true, apart := false }
def ColourNewSaid : Prop := colourNewRow.holds Try.pinned (OpenSpec.ofChange colourNewSpec)

/-- ITS FALSE NEIGHBOUR: 'it returns false'. Refute it at one input. -/
def colourNewWrong : ChangeSpec := { name := "colourNew", fn := fun _ => fun
  | [d] => { results := [.lit (.bool false)], args := [d] }
  | _ => none }
def ColourNewWrongFalsely : Prop := colourNewRow.holds Try.pinned (OpenSpec.ofChange colourNewWrong)

/-- 'incunablelaw19.ColourCuts': WHATEVER THE INPUT: true; the input reads as it did. -/
def colourCutsSpec : ChangeSpec := { name := "colourCuts", fn := fun _ => fun
  | [d] => { results := [.lit (.bool true)], args := [d] }
  | _ => none }
def colourCutsRow : OpenClaim := { program := "ytnmbimhcfioeiaa", sum := "c5df2029c73b0990801d44588a3fa899d697cee5e328b1ed84a4523b00fda66c", func := "incunable/incunablelaw19.ColourCuts", spec := "colourCuts", unfollowed := true, recurses := true, apart := false }
def ColourCutsSaid : Prop := colourCutsRow.holds Try.pinned (OpenSpec.ofChange colourCutsSpec)

/-- ITS FALSE NEIGHBOUR: 'it returns false'. Refute it at one input. -/
def colourCutsWrong : ChangeSpec := { name := "colourCuts", fn := fun _ => fun
  | [d] => { results := [.lit (.bool false)], args := [d] }
  | _ => none }
def ColourCutsWrongFalsely : Prop := colourCutsRow.holds Try.pinned (OpenSpec.ofChange colourCutsWrong)

/-- 'incunablelaw19.ColourTurns': WHATEVER THE INPUT: true; the input reads as it did. -/
def colourTurnsSpec : ChangeSpec := { name := "colourTurns", fn := fun _ => fun
  | [d] => { results := [.lit (.bool true)], args := [d] }
  | _ => none }
def colourTurnsRow : OpenClaim := { program := "ytnmbimhcfioeiaa", sum := "c5df2029c73b0990801d44588a3fa899d697cee5e328b1ed84a4523b00fda66c", func := "incunable/incunablelaw19.ColourTurns", spec := "colourTurns", unfollowed := true, recurses := true, apart := false }
def ColourTurnsSaid : Prop := colourTurnsRow.holds Try.pinned (OpenSpec.ofChange colourTurnsSpec)

/-- ITS FALSE NEIGHBOUR: 'it returns false'. Refute it at one input. -/
def colourTurnsWrong : ChangeSpec := { name := "colourTurns", fn := fun _ => fun
  | [d] => { results := [.lit (.bool false)], args := [d] }
  | _ => none }
def ColourTurnsWrongFalsely : Prop := colourTurnsRow.holds Try.pinned (OpenSpec.ofChange colourTurnsWrong)

/-- 'incunablelaw19.ColourBacks': WHATEVER THE INPUT: true; the input reads as it did. -/
def colourBacksSpec : ChangeSpec := { name := "colourBacks", fn := fun _ => fun
  | [d1, d2, d3] => { results := [.lit (.bool true)], args := [d1, d2, d3] }
  | _ => none }
def colourBacksRow : OpenClaim := { program := "ytnmbimhcfioeiaa", sum := "c5df2029c73b0990801d44588a3fa899d697cee5e328b1ed84a4523b00fda66c", func := "incunable/incunablelaw19.ColourBacks", spec := "colourBacks", unfollowed := true, recurses := true, apart := false }
def ColourBacksSaid : Prop := colourBacksRow.holds Try.pinned (OpenSpec.ofChange colourBacksSpec)

/-- ITS FALSE NEIGHBOUR: 'it returns false'. Refute it at one input. -/
def colourBacksWrong : ChangeSpec := { name := "colourBacks", fn := fun _ => fun
  | [d1, d2, d3] => { results := [.lit (.bool false)], args := [d1, d2, d3] }
  | _ => none }
def ColourBacksWrongFalsely : Prop := colourBacksRow.holds Try.pinned (OpenSpec.ofChange colourBacksWrong)

/-- 'incunablelaw19.ColourGreys': WHATEVER THE INPUT: true; the input reads as it did. -/
def colourGreysSpec : ChangeSpec := { name := "colourGreys", fn := fun _ => fun
  | [d1, d2] => { results := [.lit (.bool true)], args := [d1, d2] }
  | _ => none }
def colourGreysRow : OpenClaim := { program := "ytnmbimhcfioeiaa", sum := "c5df2029c73b0990801d44588a3fa899d697cee5e328b1ed84a4523b00fda66c", func := "incunable/incunablelaw19.ColourGreys", spec := "colourGreys", unfollowed := true, recurses := true, apart := false }
def ColourGreysSaid : Prop := colourGreysRow.holds Try.pinned (OpenSpec.ofChange colourGreysSpec)

/-- ITS FALSE NEIGHBOUR: 'it returns false'. Refute it at one input. -/
def colourGreysWrong : ChangeSpec := { name := "colourGreys", fn := fun _ => fun
  | [d1, d2] => { results := [.lit (.bool false)], args := [d1, d2] }
  | _ => none }
def ColourGreysWrongFalsely : Prop := colourGreysRow.holds Try.pinned (OpenSpec.ofChange colourGreysWrong)

/-- 'incunablelaw19.ColourPaints': WHATEVER THE INPUT: true; the input reads as it did. -/
def colourPaintsSpec : ChangeSpec := { name := "colourPaints", fn := fun _ => fun
  | [d] => { results := [.lit (.bool true)], args := [d] }
  | _ => none }
def colourPaintsRow : OpenClaim := { program := "ytnmbimhcfioeiaa", sum := "c5df2029c73b0990801d44588a3fa899d697cee5e328b1ed84a4523b00fda66c", func := "incunable/incunablelaw19.ColourPaints", spec := "colourPaints", unfollowed := true, recurses := true, apart := false }
def ColourPaintsSaid : Prop := colourPaintsRow.holds Try.pinned (OpenSpec.ofChange colourPaintsSpec)

/-- ITS FALSE NEIGHBOUR: 'it returns false'. Refute it at one input. -/
def colourPaintsWrong : ChangeSpec := { name := "colourPaints", fn := fun _ => fun
  | [d] => { results := [.lit (.bool false)], args := [d] }
  | _ => none }
def ColourPaintsWrongFalsely : Prop := colourPaintsRow.holds Try.pinned (OpenSpec.ofChange colourPaintsWrong)

/-- 'incunablelaw19.ColourHalves': WHATEVER THE INPUT: true; the input reads as it did. -/
def colourHalvesSpec : ChangeSpec := { name := "colourHalves", fn := fun _ => fun
  | [d1, d2, d3] => { results := [.lit (.bool true)], args := [d1, d2, d3] }
  | _ => none }
def colourHalvesRow : OpenClaim := { program := "ytnmbimhcfioeiaa", sum := "c5df2029c73b0990801d44588a3fa899d697cee5e328b1ed84a4523b00fda66c", func := "incunable/incunablelaw19.ColourHalves", spec := "colourHalves", unfollowed := true, recurses := true, apart := false }
def ColourHalvesSaid : Prop := colourHalvesRow.holds Try.pinned (OpenSpec.ofChange colourHalvesSpec)

/-- ITS FALSE NEIGHBOUR: 'it returns false'. Refute it at one input. -/
def colourHalvesWrong : ChangeSpec := { name := "colourHalves", fn := fun _ => fun
  | [d1, d2, d3] => { results := [.lit (.bool false)], args := [d1, d2, d3] }
  | _ => none }
def ColourHalvesWrongFalsely : Prop := colourHalvesRow.holds Try.pinned (OpenSpec.ofChange colourHalvesWrong)

/-- 'incunablelaw19.ColourShrinks': WHATEVER THE INPUT: true; the input reads as it did. -/
def colourShrinksSpec : ChangeSpec := { name := "colourShrinks", fn := fun _ => fun
  | [d1, d2, d3] => { results := [.lit (.bool true)], args := [d1, d2, d3] }
  | _ => none }
def colourShrinksRow : OpenClaim := { program := "ytnmbimhcfioeiaa", sum := "c5df2029c73b0990801d44588a3fa899d697cee5e328b1ed84a4523b00fda66c", func := "incunable/incunablelaw19.ColourShrinks", spec := "colourShrinks", unfollowed := true, recurses := true, apart := false }
def ColourShrinksSaid : Prop := colourShrinksRow.holds Try.pinned (OpenSpec.ofChange colourShrinksSpec)

/-- ITS FALSE NEIGHBOUR: 'it returns false'. Refute it at one input. -/
def colourShrinksWrong : ChangeSpec := { name := "colourShrinks", fn := fun _ => fun
  | [d1, d2, d3] => { results := [.lit (.bool false)], args := [d1, d2, d3] }
  | _ => none }
def ColourShrinksWrongFalsely : Prop := colourShrinksRow.holds Try.pinned (OpenSpec.ofChange colourShrinksWrong)

/- THE SECOND FORM. 'bulk': how many values and letters a reading holds, each counted each time it is reached (what is shared counts as often as it is met; a slice's spare places count too). A statement '..UptoSaid' is the law's where the arguments, and the package variables that the reading takes, are together of bulk at most 1048576: NARROWER than '..Said'. Prove '..Said' where nothing that the law and all that it calls make is longer than what came in: it says more and counts as full. Else prove '..UptoSaid'. A law counts once. -/
mutual
def uptoBulk {H : Type} : DataW H → Nat
  | .lit (.string bytes) => bytes.length + 1
  | .lit _ => 1
  | .nil => 1
  | .ptr d => uptoBulk d + 1
  | .slice elems spare => uptoBulkAll elems + uptoBulkAll spare + 1
  | .agg parts => uptoBulkAll parts + 1
  | .iface _ d => uptoBulk d + 1
  | .map entries => uptoBulkEntries entries + 1
  | .held _ => 1
def uptoBulkAll {H : Type} : List (DataW H) → Nat
  | [] => 0
  | d :: r => uptoBulk d + uptoBulkAll r
def uptoBulkEntries {H : Type} : List (Lit × DataW H) → Nat
  | [] => 0
  | x :: r => uptoBulkEntry x + uptoBulkEntries r
def uptoBulkEntry {H : Type} : Lit × DataW H → Nat
  | (.string bytes, d) => bytes.length + uptoBulk d + 1
  | (_, d) => uptoBulk d + 1
 end
def uptoSmall : (H : Type) → List (DataW H) → Bool := fun _ ds => decide (uptoBulkAll ds ≤ 1048576)
def OpenSpec.upto (s : _root_.Go.ChangeSpec) : _root_.Go.OpenSpec := { _root_.Go.OpenSpec.ofChange s with cond := some uptoSmall }

/-- 'incunablelaw19.ColourNew', WHERE WHAT IT READS IS OF BULK AT MOST 1048576: true; the input reads as it did. -/
def colourNewUptoRow : OpenClaim := { program := "ytnmbimhcfioeiaa", sum := "c5df2029c73b0990801d44588a3fa899d697cee5e328b1ed84a4523b00fda66c", func := "incunable/incunablelaw19.ColourNew", spec := "colourNew", unfollowed := true, recurses := true, apart := false, narrowed := true }
def ColourNewUptoSaid : Prop := colourNewUptoRow.holds Try.pinned (OpenSpec.upto colourNewSpec)

/-- 'incunablelaw19.ColourCuts', WHERE WHAT IT READS IS OF BULK AT MOST 1048576: true; the input reads as it did. -/
def colourCutsUptoRow : OpenClaim := { program := "ytnmbimhcfioeiaa", sum := "c5df2029c73b0990801d44588a3fa899d697cee5e328b1ed84a4523b00fda66c", func := "incunable/incunablelaw19.ColourCuts", spec := "colourCuts", unfollowed := true, recurses := true, apart := false, narrowed := true }
def ColourCutsUptoSaid : Prop := colourCutsUptoRow.holds Try.pinned (OpenSpec.upto colourCutsSpec)

/-- 'incunablelaw19.ColourTurns', WHERE WHAT IT READS IS OF BULK AT MOST 1048576: true; the input reads as it did. -/
def colourTurnsUptoRow : OpenClaim := { program := "ytnmbimhcfioeiaa", sum := "c5df2029c73b0990801d44588a3fa899d697cee5e328b1ed84a4523b00fda66c", func := "incunable/incunablelaw19.ColourTurns", spec := "colourTurns", unfollowed := true, recurses := true, apart := false, narrowed := true }
def ColourTurnsUptoSaid : Prop := colourTurnsUptoRow.holds Try.pinned (OpenSpec.upto colourTurnsSpec)

/-- 'incunablelaw19.ColourBacks', WHERE WHAT IT READS IS OF BULK AT MOST 1048576: true; the input reads as it did. -/
def colourBacksUptoRow : OpenClaim := { program := "ytnmbimhcfioeiaa", sum := "c5df2029c73b0990801d44588a3fa899d697cee5e328b1ed84a4523b00fda66c", func := "incunable/incunablelaw19.ColourBacks", spec := "colourBacks", unfollowed := true, recurses := true, apart := false, narrowed := true }
def ColourBacksUptoSaid : Prop := colourBacksUptoRow.holds Try.pinned (OpenSpec.upto colourBacksSpec)

/-- 'incunablelaw19.ColourGreys', WHERE WHAT IT READS IS OF BULK AT MOST 1048576: true; the input reads as it did. -/
def colourGreysUptoRow : OpenClaim := { program := "ytnmbimhcfioeiaa", sum := "c5df2029c73b0990801d44588a3fa899d697cee5e328b1ed84a4523b00fda66c", func := "incunable/incunablelaw19.ColourGreys", spec := "colourGreys", unfollowed := true, recurses := true, apart := false, narrowed := true }
def ColourGreysUptoSaid : Prop := colourGreysUptoRow.holds Try.pinned (OpenSpec.upto colourGreysSpec)

/-- 'incunablelaw19.ColourPaints', WHERE WHAT IT READS IS OF BULK AT MOST 1048576: true; the input reads as it did. -/
def colourPaintsUptoRow : OpenClaim := { program := "ytnmbimhcfioeiaa", sum := "c5df2029c73b0990801d44588a3fa899d697cee5e328b1ed84a4523b00fda66c", func := "incunable/incunablelaw19.ColourPaints", spec := "colourPaints", unfollowed := true, recurses := true, apart := false, narrowed := true }
def ColourPaintsUptoSaid : Prop := colourPaintsUptoRow.holds Try.pinned (OpenSpec.upto colourPaintsSpec)

/-- 'incunablelaw19.ColourHalves', WHERE WHAT IT READS IS OF BULK AT MOST 1048576: true; the input reads as it did. -/
def colourHalvesUptoRow : OpenClaim := { program := "ytnmbimhcfioeiaa", sum := "c5df2029c73b0990801d44588a3fa899d697cee5e328b1ed84a4523b00fda66c", func := "incunable/incunablelaw19.ColourHalves", spec := "colourHalves", unfollowed := true, recurses := true, apart := false, narrowed := true }
def ColourHalvesUptoSaid : Prop := colourHalvesUptoRow.holds Try.pinned (OpenSpec.upto colourHalvesSpec)

/-- 'incunablelaw19.ColourShrinks', WHERE WHAT IT READS IS OF BULK AT MOST 1048576: true; the input reads as it did. -/
def colourShrinksUptoRow : OpenClaim := { program := "ytnmbimhcfioeiaa", sum := "c5df2029c73b0990801d44588a3fa899d697cee5e328b1ed84a4523b00fda66c", func := "incunable/incunablelaw19.ColourShrinks", spec := "colourShrinks", unfollowed := true, recurses := true, apart := false, narrowed := true }
def ColourShrinksUptoSaid : Prop := colourShrinksUptoRow.holds Try.pinned (OpenSpec.upto colourShrinksSpec)

end Rows
end Go.Proofs.Ytnmbimhcfioeiaa
