/-
  No cell of these rows narrows 'for every input' (looked for: loops, veiled, ifaces, maps, wideKeys, modest, calm, conditions, laid).
  DERIVED. THE GIVEN ROWS OF THIS SEAT. 6 by the template 'for every input the law returns true; each argument reads behind the call as it read before'; 0 by the template 'total and deterministic' (their statements: YtbndfifoakmdnaaTotals.lean).
  GIVEN WITH THE SEED: the statements are not yours to turn. If you find one false, say at which input.
  Laid BY PROGRAM, IN A SANDBOX (cutbox-rows.mjs): the forced cells as the released guide's own fill.sh prints them over the translation 9cb1b26b75b22cee… (all of the seat's roots in one cut). By AI agents, Wed Nov 11 2026. No macro, syntax, notation, axiom, sorry.
-/
import Derived.Test.YtbndfifoakmdnaaChecked
import GoSem.Claim
import GoSem.ClaimJoined
import GoSem.ClaimMapViews
import Derived.JoinedTies
import Derived.KernelRfl
namespace Go.Proofs.Ytbndfifoakmdnaa
/- THE CELL 'sum', in the pinned program and in every row, IS THE sha256 OF THE DUMP (.gsa) THAT YtbndfifoakmdnaaProg.lean LOADS. Nothing in Lean hashes anything: it is a label: what it is worth is what the hold of that sum in a sandbox is worth. -/
noncomputable def Try.pinned : Pinned := { name := "ytbndfifoakmdnaa", sum := "9cb1b26b75b22cee5dc081fca00792797573941dddc80e198dcde245975bcf30", checked := Try.checked }
namespace Rows
def none {H : Type} : Left H := { results := [], args := [] }

/-- 'incunablelaw17.SplitCovers': WHATEVER THE INPUT: true; the input reads as it did. -/
def splitCoversSpec : ChangeSpec := { name := "splitCovers", fn := fun _ => fun
  | [d1, d2] => { results := [.lit (.bool true)], args := [d1, d2] }
  | _ => none }
def splitCoversRow : OpenClaim := { program := "ytbndfifoakmdnaa", sum := "9cb1b26b75b22cee5dc081fca00792797573941dddc80e198dcde245975bcf30", func := "incunable/incunablelaw17.SplitCovers", spec := "splitCovers", unfollowed := true, recurses := true, apart := false }
def SplitCoversSaid : Prop := splitCoversRow.holds Try.pinned (OpenSpec.ofChange splitCoversSpec)

/-- ITS FALSE NEIGHBOUR: 'it returns false'. Refute it at one input. -/
def splitCoversWrong : ChangeSpec := { name := "splitCovers", fn := fun _ => fun
  | [d1, d2] => { results := [.lit (.bool false)], args := [d1, d2] }
  | _ => none }
def SplitCoversWrongFalsely : Prop := splitCoversRow.holds Try.pinned (OpenSpec.ofChange splitCoversWrong)

/-- 'incunablelaw17.SplitPlanes': WHATEVER THE INPUT: true; the input reads as it did. -/
def splitPlanesSpec : ChangeSpec := { name := "splitPlanes", fn := fun _ => fun
  | [d] => { results := [.lit (.bool true)], args := [d] }
  | _ => none }
def splitPlanesRow : OpenClaim := { program := "ytbndfifoakmdnaa", sum := "9cb1b26b75b22cee5dc081fca00792797573941dddc80e198dcde245975bcf30", func := "incunable/incunablelaw17.SplitPlanes", spec := "splitPlanes", unfollowed := true, recurses := true, apart := false }
def SplitPlanesSaid : Prop := splitPlanesRow.holds Try.pinned (OpenSpec.ofChange splitPlanesSpec)

/-- ITS FALSE NEIGHBOUR: 'it returns false'. Refute it at one input. -/
def splitPlanesWrong : ChangeSpec := { name := "splitPlanes", fn := fun _ => fun
  | [d] => { results := [.lit (.bool false)], args := [d] }
  | _ => none }
def SplitPlanesWrongFalsely : Prop := splitPlanesRow.holds Try.pinned (OpenSpec.ofChange splitPlanesWrong)

/-- 'incunablelaw17.SplitFree': WHATEVER THE INPUT: true; the input reads as it did. -/
def splitFreeSpec : ChangeSpec := { name := "splitFree", fn := fun _ => fun
  | [d1, d2] => { results := [.lit (.bool true)], args := [d1, d2] }
  | _ => none }
def splitFreeRow : OpenClaim := { program := "ytbndfifoakmdnaa", sum := "9cb1b26b75b22cee5dc081fca00792797573941dddc80e198dcde245975bcf30", func := "incunable/incunablelaw17.SplitFree", spec := "splitFree", unfollowed := true, recurses := true, apart := false }
def SplitFreeSaid : Prop := splitFreeRow.holds Try.pinned (OpenSpec.ofChange splitFreeSpec)

/-- ITS FALSE NEIGHBOUR: 'it returns false'. Refute it at one input. -/
def splitFreeWrong : ChangeSpec := { name := "splitFree", fn := fun _ => fun
  | [d1, d2] => { results := [.lit (.bool false)], args := [d1, d2] }
  | _ => none }
def SplitFreeWrongFalsely : Prop := splitFreeRow.holds Try.pinned (OpenSpec.ofChange splitFreeWrong)

/-- 'incunablelaw17.SplitEnergy': WHATEVER THE INPUT: true; the input reads as it did. -/
def splitEnergySpec : ChangeSpec := { name := "splitEnergy", fn := fun _ => fun
  | [d1, d2, d3] => { results := [.lit (.bool true)], args := [d1, d2, d3] }
  | _ => none }
def splitEnergyRow : OpenClaim := { program := "ytbndfifoakmdnaa", sum := "9cb1b26b75b22cee5dc081fca00792797573941dddc80e198dcde245975bcf30", func := "incunable/incunablelaw17.SplitEnergy", spec := "splitEnergy", unfollowed := true, recurses := true, apart := false }
def SplitEnergySaid : Prop := splitEnergyRow.holds Try.pinned (OpenSpec.ofChange splitEnergySpec)

/-- ITS FALSE NEIGHBOUR: 'it returns false'. Refute it at one input. -/
def splitEnergyWrong : ChangeSpec := { name := "splitEnergy", fn := fun _ => fun
  | [d1, d2, d3] => { results := [.lit (.bool false)], args := [d1, d2, d3] }
  | _ => none }
def SplitEnergyWrongFalsely : Prop := splitEnergyRow.holds Try.pinned (OpenSpec.ofChange splitEnergyWrong)

/-- 'incunablelaw17.SplitLeast': WHATEVER THE INPUT: true; the input reads as it did. -/
def splitLeastSpec : ChangeSpec := { name := "splitLeast", fn := fun _ => fun
  | [d1, d2, d3] => { results := [.lit (.bool true)], args := [d1, d2, d3] }
  | _ => none }
def splitLeastRow : OpenClaim := { program := "ytbndfifoakmdnaa", sum := "9cb1b26b75b22cee5dc081fca00792797573941dddc80e198dcde245975bcf30", func := "incunable/incunablelaw17.SplitLeast", spec := "splitLeast", unfollowed := true, recurses := true, apart := false }
def SplitLeastSaid : Prop := splitLeastRow.holds Try.pinned (OpenSpec.ofChange splitLeastSpec)

/-- ITS FALSE NEIGHBOUR: 'it returns false'. Refute it at one input. -/
def splitLeastWrong : ChangeSpec := { name := "splitLeast", fn := fun _ => fun
  | [d1, d2, d3] => { results := [.lit (.bool false)], args := [d1, d2, d3] }
  | _ => none }
def SplitLeastWrongFalsely : Prop := splitLeastRow.holds Try.pinned (OpenSpec.ofChange splitLeastWrong)

/-- 'incunablelaw17.SplitMasks': WHATEVER THE INPUT: true; the input reads as it did. -/
def splitMasksSpec : ChangeSpec := { name := "splitMasks", fn := fun _ => fun
  | [d1, d2] => { results := [.lit (.bool true)], args := [d1, d2] }
  | _ => none }
def splitMasksRow : OpenClaim := { program := "ytbndfifoakmdnaa", sum := "9cb1b26b75b22cee5dc081fca00792797573941dddc80e198dcde245975bcf30", func := "incunable/incunablelaw17.SplitMasks", spec := "splitMasks", unfollowed := true, recurses := true, apart := false }
def SplitMasksSaid : Prop := splitMasksRow.holds Try.pinned (OpenSpec.ofChange splitMasksSpec)

/-- ITS FALSE NEIGHBOUR: 'it returns false'. Refute it at one input. -/
def splitMasksWrong : ChangeSpec := { name := "splitMasks", fn := fun _ => fun
  | [d1, d2] => { results := [.lit (.bool false)], args := [d1, d2] }
  | _ => none }
def SplitMasksWrongFalsely : Prop := splitMasksRow.holds Try.pinned (OpenSpec.ofChange splitMasksWrong)

/- THE SECOND FORM. 'bulk': how many values and letters a reading holds, each counted each time it is reached (what is shared counts as often as it is met; a slice's spare places count too). A statement '..UptoSaid' is the law's where the arguments, and the package variables that the reading takes, are together of bulk at most 1048576: NARROWER than '..Said'. Prove '..Said' where nothing that the law and all that it calls make is longer than what came in: it says more and counts as full. Else prove '..UptoSaid'. A law counts once. -/
mutual
def uptoBulk {H : Type} : DataW H → Nat
  | .lit (.string bytes) => bytes.length + 1
  | .lit _ => 1
  | .nil => 1
  | .ptr d => uptoBulk d + 1
  | .slice elems spare => uptoBulkAll elems + uptoBulkAll spare + 1
  | .agg parts => uptoBulkAll parts + 1
  | .iface _ d => uptoBulk d + 1
  | .map entries => uptoBulkEntries entries + 1
  | .held _ => 1
def uptoBulkAll {H : Type} : List (DataW H) → Nat
  | [] => 0
  | d :: r => uptoBulk d + uptoBulkAll r
def uptoBulkEntries {H : Type} : List (Lit × DataW H) → Nat
  | [] => 0
  | x :: r => uptoBulkEntry x + uptoBulkEntries r
def uptoBulkEntry {H : Type} : Lit × DataW H → Nat
  | (.string bytes, d) => bytes.length + uptoBulk d + 1
  | (_, d) => uptoBulk d + 1
 end
def uptoSmall : (H : Type) → List (DataW H) → Bool := fun _ ds => decide (uptoBulkAll ds ≤ 1048576)
def OpenSpec.upto (s : _root_.Go.ChangeSpec) : _root_.Go.OpenSpec := { _root_.Go.OpenSpec.ofChange s with cond := some uptoSmall }

/-- 'incunablelaw17.SplitCovers', WHERE WHAT IT READS IS OF BULK AT MOST 1048576: true; the input reads as it did. -/
def splitCoversUptoRow : OpenClaim := { program := "ytbndfifoakmdnaa", sum := "9cb1b26b75b22cee5dc081fca00792797573941dddc80e198dcde245975bcf30", func := "incunable/incunablelaw17.SplitCovers", spec := "splitCovers", unfollowed := true, recurses := true, apart := false, narrowed := true }
def SplitCoversUptoSaid : Prop := splitCoversUptoRow.holds Try.pinned (OpenSpec.upto splitCoversSpec)

/-- 'incunablelaw17.SplitPlanes', WHERE WHAT IT READS IS OF BULK AT MOST 1048576: true; the input reads as it did. -/
def splitPlanesUptoRow : OpenClaim := { program := "ytbndfifoakmdnaa", sum := "9cb1b26b75b22cee5dc081fca00792797573941dddc80e198dcde245975bcf30", func := "incunable/incunablelaw17.SplitPlanes", spec := "splitPlanes", unfollowed := true, recurses := true, apart := false, narrowed := true }
def SplitPlanesUptoSaid : Prop := splitPlanesUptoRow.holds Try.pinned (OpenSpec.upto splitPlanesSpec)

/-- 'incunablelaw17.SplitFree', WHERE WHAT IT READS IS OF BULK AT MOST 1048576: true; the input reads as it did. -/
def splitFreeUptoRow : OpenClaim := { program := "ytbndfifoakmdnaa", sum := "9cb1b26b75b22cee5dc081fca00792797573941dddc80e198dcde245975bcf30", func := "incunable/incunablelaw17.SplitFree", spec := "splitFree", unfollowed := true, recurses := true, apart := false, narrowed := true }
def SplitFreeUptoSaid : Prop := splitFreeUptoRow.holds Try.pinned (OpenSpec.upto splitFreeSpec)

/-- 'incunablelaw17.SplitEnergy', WHERE WHAT IT READS IS OF BULK AT MOST 1048576: true; the input reads as it did. -/
def splitEnergyUptoRow : OpenClaim := { program := "ytbndfifoakmdnaa", sum := "9cb1b26b75b22cee5dc081fca00792797573941dddc80e198dcde245975bcf30", func := "incunable/incunablelaw17.SplitEnergy", spec := "splitEnergy", unfollowed := true, recurses := true, apart := false, narrowed := true }
def SplitEnergyUptoSaid : Prop := splitEnergyUptoRow.holds Try.pinned (OpenSpec.upto splitEnergySpec)

/-- 'incunablelaw17.SplitLeast', WHERE WHAT IT READS IS OF BULK AT MOST 1048576: true; the input reads as it did. -/
def splitLeastUptoRow : OpenClaim := { program := "ytbndfifoakmdnaa", sum := "9cb1b26b75b22cee5dc081fca00792797573941dddc80e198dcde245975bcf30", func := "incunable/incunablelaw17.SplitLeast", spec := "splitLeast", unfollowed := true, recurses := true, apart := false, narrowed := true }
def SplitLeastUptoSaid : Prop := splitLeastUptoRow.holds Try.pinned (OpenSpec.upto splitLeastSpec)

/-- 'incunablelaw17.SplitMasks', WHERE WHAT IT READS IS OF BULK AT MOST 1048576: true; the input reads as it did. -/
def splitMasksUptoRow : OpenClaim := { program := "ytbndfifoakmdnaa", sum := "9cb1b26b75b22cee5dc081fca00792797573941dddc80e198dcde245975bcf30", func := "incunable/incunablelaw17.SplitMasks", spec := "splitMasks", unfollowed := true, recurses := true, apart := false, narrowed := true }
def SplitMasksUptoSaid : Prop := splitMasksUptoRow.holds Try.pinned (OpenSpec.upto splitMasksSpec)

end Rows
end Go.Proofs.Ytbndfifoakmdnaa
