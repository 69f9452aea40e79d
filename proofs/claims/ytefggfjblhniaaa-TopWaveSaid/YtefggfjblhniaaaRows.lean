/-
  No cell of these rows narrows 'for every input' (looked for: loops, veiled, ifaces, maps, wideKeys, modest, calm, conditions, laid).
  DERIVED. THE GIVEN ROWS OF THIS SEAT. 10 by the template 'for every input the law returns true; each argument reads behind the call as it read before'; 0 by the template 'total and deterministic' (their statements: YtefggfjblhniaaaTotals.lean).
  GIVEN WITH THE SEED: the statements are not yours to turn. If you find one false, say at which input.
  Laid BY PROGRAM, IN A SANDBOX (cutbox-rows.mjs): the forced cells as the released guide's own fill.sh prints them over the translation 5c440adaea446c6e… (all of the seat's roots in one cut). By AI agents, Wed Nov 11 2026. No macro, syntax, notation, axiom, sorry.
-/
import Derived.Test.YtefggfjblhniaaaChecked
import GoSem.Claim
import GoSem.ClaimJoined
import GoSem.ClaimMapViews
import Derived.JoinedTies
import Derived.KernelRfl
namespace Go.Proofs.Ytefggfjblhniaaa
/- THE CELL 'sum', in the pinned program and in every row, IS THE sha256 OF THE DUMP (.gsa) THAT YtefggfjblhniaaaProg.lean LOADS. Nothing in Lean hashes anything: it is a label: what it is worth is what the hold of that sum in a sandbox is worth. -/
noncomputable def Try.pinned : Pinned := { name := "ytefggfjblhniaaa", sum := "5c440adaea446c6ee9e1581fb7d68e9c04f612292f2b2a871e2feb6ba3f090a1", checked := Try.checked }
namespace Rows
def none {H : Type} : Left H := { results := [], args := [] }

/-- 'incunablelaw18.WaveLines': WHATEVER THE INPUT: true; the input reads as it did. -/
def waveLinesSpec : ChangeSpec := { name := "waveLines", fn := fun _ => fun
  | [d1, d2] => { results := [.lit (.bool true)], args := [d1, d2] }
  | _ => none }
def waveLinesRow : OpenClaim := { program := "ytefggfjblhniaaa", sum := "5c440adaea446c6ee9e1581fb7d68e9c04f612292f2b2a871e2feb6ba3f090a1", func := "incunable/incunablelaw18.WaveLines", spec := "waveLines", unfollowed := true, recurses := true, apart := false }
def WaveLinesSaid : Prop := waveLinesRow.holds Try.pinned (OpenSpec.ofChange waveLinesSpec)

/-- ITS FALSE NEIGHBOUR: 'it returns false'. Refute it at one input. -/
def waveLinesWrong : ChangeSpec := { name := "waveLines", fn := fun _ => fun
  | [d1, d2] => { results := [.lit (.bool false)], args := [d1, d2] }
  | _ => none }
def WaveLinesWrongFalsely : Prop := waveLinesRow.holds Try.pinned (OpenSpec.ofChange waveLinesWrong)

/-- 'incunablelaw18.WaveLineBack': WHATEVER THE INPUT: true; the input reads as it did. -/
def waveLineBackSpec : ChangeSpec := { name := "waveLineBack", fn := fun _ => fun
  | [d1, d2] => { results := [.lit (.bool true)], args := [d1, d2] }
  | _ => none }
def waveLineBackRow : OpenClaim := { program := "ytefggfjblhniaaa", sum := "5c440adaea446c6ee9e1581fb7d68e9c04f612292f2b2a871e2feb6ba3f090a1", func := "incunable/incunablelaw18.WaveLineBack", spec := "waveLineBack", unfollowed := true, recurses := true, apart := false }
def WaveLineBackSaid : Prop := waveLineBackRow.holds Try.pinned (OpenSpec.ofChange waveLineBackSpec)

/-- ITS FALSE NEIGHBOUR: 'it returns false'. Refute it at one input. -/
def waveLineBackWrong : ChangeSpec := { name := "waveLineBack", fn := fun _ => fun
  | [d1, d2] => { results := [.lit (.bool false)], args := [d1, d2] }
  | _ => none }
def WaveLineBackWrongFalsely : Prop := waveLineBackRow.holds Try.pinned (OpenSpec.ofChange waveLineBackWrong)

/-- 'incunablelaw18.WaveQuants': WHATEVER THE INPUT: true; the input reads as it did. -/
def waveQuantsSpec : ChangeSpec := { name := "waveQuants", fn := fun _ => fun
  | [d1, d2] => { results := [.lit (.bool true)], args := [d1, d2] }
  | _ => none }
def waveQuantsRow : OpenClaim := { program := "ytefggfjblhniaaa", sum := "5c440adaea446c6ee9e1581fb7d68e9c04f612292f2b2a871e2feb6ba3f090a1", func := "incunable/incunablelaw18.WaveQuants", spec := "waveQuants", unfollowed := true, recurses := true, apart := false }
def WaveQuantsSaid : Prop := waveQuantsRow.holds Try.pinned (OpenSpec.ofChange waveQuantsSpec)

/-- ITS FALSE NEIGHBOUR: 'it returns false'. Refute it at one input. -/
def waveQuantsWrong : ChangeSpec := { name := "waveQuants", fn := fun _ => fun
  | [d1, d2] => { results := [.lit (.bool false)], args := [d1, d2] }
  | _ => none }
def WaveQuantsWrongFalsely : Prop := waveQuantsRow.holds Try.pinned (OpenSpec.ofChange waveQuantsWrong)

/-- 'incunablelaw18.WaveBands': WHATEVER THE INPUT: true; the input reads as it did. -/
def waveBandsSpec : ChangeSpec := { name := "waveBands", fn := fun _ => fun
  | [d1, d2, d3] => { results := [.lit (.bool true)], args := [d1, d2, d3] }
  | _ => none }
def waveBandsRow : OpenClaim := { program := "ytefggfjblhniaaa", sum := "5c440adaea446c6ee9e1581fb7d68e9c04f612292f2b2a871e2feb6ba3f090a1", func := "incunable/incunablelaw18.WaveBands", spec := "waveBands", unfollowed := true, recurses := true, apart := false }
def WaveBandsSaid : Prop := waveBandsRow.holds Try.pinned (OpenSpec.ofChange waveBandsSpec)

/-- ITS FALSE NEIGHBOUR: 'it returns false'. Refute it at one input. -/
def waveBandsWrong : ChangeSpec := { name := "waveBands", fn := fun _ => fun
  | [d1, d2, d3] => { results := [.lit (.bool false)], args := [d1, d2, d3] }
  | _ => none }
def WaveBandsWrongFalsely : Prop := waveBandsRow.holds Try.pinned (OpenSpec.ofChange waveBandsWrong)

/-- 'incunablelaw18.WaveForward': WHATEVER THE INPUT: true; the input reads as it did. -/
def waveForwardSpec : ChangeSpec := { name := "waveForward", fn := fun _ => fun
  | [d1, d2, d3] => { results := [.lit (.bool true)], args := [d1, d2, d3] }
  | _ => none }
def waveForwardRow : OpenClaim := { program := "ytefggfjblhniaaa", sum := "5c440adaea446c6ee9e1581fb7d68e9c04f612292f2b2a871e2feb6ba3f090a1", func := "incunable/incunablelaw18.WaveForward", spec := "waveForward", unfollowed := true, recurses := true, apart := false }
def WaveForwardSaid : Prop := waveForwardRow.holds Try.pinned (OpenSpec.ofChange waveForwardSpec)

/-- ITS FALSE NEIGHBOUR: 'it returns false'. Refute it at one input. -/
def waveForwardWrong : ChangeSpec := { name := "waveForward", fn := fun _ => fun
  | [d1, d2, d3] => { results := [.lit (.bool false)], args := [d1, d2, d3] }
  | _ => none }
def WaveForwardWrongFalsely : Prop := waveForwardRow.holds Try.pinned (OpenSpec.ofChange waveForwardWrong)

/-- 'incunablelaw18.WaveFlat': WHATEVER THE INPUT: true; the input reads as it did. -/
def waveFlatSpec : ChangeSpec := { name := "waveFlat", fn := fun _ => fun
  | [d1, d2, d3, d4, d5] => { results := [.lit (.bool true)], args := [d1, d2, d3, d4, d5] }
  | _ => none }
def waveFlatRow : OpenClaim := { program := "ytefggfjblhniaaa", sum := "5c440adaea446c6ee9e1581fb7d68e9c04f612292f2b2a871e2feb6ba3f090a1", func := "incunable/incunablelaw18.WaveFlat", spec := "waveFlat", unfollowed := true, recurses := true, apart := false }
def WaveFlatSaid : Prop := waveFlatRow.holds Try.pinned (OpenSpec.ofChange waveFlatSpec)

/-- ITS FALSE NEIGHBOUR: 'it returns false'. Refute it at one input. -/
def waveFlatWrong : ChangeSpec := { name := "waveFlat", fn := fun _ => fun
  | [d1, d2, d3, d4, d5] => { results := [.lit (.bool false)], args := [d1, d2, d3, d4, d5] }
  | _ => none }
def WaveFlatWrongFalsely : Prop := waveFlatRow.holds Try.pinned (OpenSpec.ofChange waveFlatWrong)

/-- 'incunablelaw18.WaveLess': WHATEVER THE INPUT: true; the input reads as it did. -/
def waveLessSpec : ChangeSpec := { name := "waveLess", fn := fun _ => fun
  | [d1, d2, d3] => { results := [.lit (.bool true)], args := [d1, d2, d3] }
  | _ => none }
def waveLessRow : OpenClaim := { program := "ytefggfjblhniaaa", sum := "5c440adaea446c6ee9e1581fb7d68e9c04f612292f2b2a871e2feb6ba3f090a1", func := "incunable/incunablelaw18.WaveLess", spec := "waveLess", unfollowed := true, recurses := true, apart := false }
def WaveLessSaid : Prop := waveLessRow.holds Try.pinned (OpenSpec.ofChange waveLessSpec)

/-- ITS FALSE NEIGHBOUR: 'it returns false'. Refute it at one input. -/
def waveLessWrong : ChangeSpec := { name := "waveLess", fn := fun _ => fun
  | [d1, d2, d3] => { results := [.lit (.bool false)], args := [d1, d2, d3] }
  | _ => none }
def WaveLessWrongFalsely : Prop := waveLessRow.holds Try.pinned (OpenSpec.ofChange waveLessWrong)

/-- 'incunablelaw18.WaveInverse': WHATEVER THE INPUT: true; the input reads as it did. -/
def waveInverseSpec : ChangeSpec := { name := "waveInverse", fn := fun _ => fun
  | [d1, d2, d3] => { results := [.lit (.bool true)], args := [d1, d2, d3] }
  | _ => none }
def waveInverseRow : OpenClaim := { program := "ytefggfjblhniaaa", sum := "5c440adaea446c6ee9e1581fb7d68e9c04f612292f2b2a871e2feb6ba3f090a1", func := "incunable/incunablelaw18.WaveInverse", spec := "waveInverse", unfollowed := true, recurses := true, apart := false }
def WaveInverseSaid : Prop := waveInverseRow.holds Try.pinned (OpenSpec.ofChange waveInverseSpec)

/-- ITS FALSE NEIGHBOUR: 'it returns false'. Refute it at one input. -/
def waveInverseWrong : ChangeSpec := { name := "waveInverse", fn := fun _ => fun
  | [d1, d2, d3] => { results := [.lit (.bool false)], args := [d1, d2, d3] }
  | _ => none }
def WaveInverseWrongFalsely : Prop := waveInverseRow.holds Try.pinned (OpenSpec.ofChange waveInverseWrong)

/-- 'incunablelaw18.WaveBack': WHATEVER THE INPUT: true; the input reads as it did. -/
def waveBackSpec : ChangeSpec := { name := "waveBack", fn := fun _ => fun
  | [d1, d2, d3] => { results := [.lit (.bool true)], args := [d1, d2, d3] }
  | _ => none }
def waveBackRow : OpenClaim := { program := "ytefggfjblhniaaa", sum := "5c440adaea446c6ee9e1581fb7d68e9c04f612292f2b2a871e2feb6ba3f090a1", func := "incunable/incunablelaw18.WaveBack", spec := "waveBack", unfollowed := true, recurses := true, apart := false }
def WaveBackSaid : Prop := waveBackRow.holds Try.pinned (OpenSpec.ofChange waveBackSpec)

/-- ITS FALSE NEIGHBOUR: 'it returns false'. Refute it at one input. -/
def waveBackWrong : ChangeSpec := { name := "waveBack", fn := fun _ => fun
  | [d1, d2, d3] => { results := [.lit (.bool false)], args := [d1, d2, d3] }
  | _ => none }
def WaveBackWrongFalsely : Prop := waveBackRow.holds Try.pinned (OpenSpec.ofChange waveBackWrong)

/-- 'incunabletop.TopWave': WHATEVER THE INPUT: true; the input reads as it did. -/
def topWaveSpec : ChangeSpec := { name := "topWave", fn := fun _ => fun
  | [d1, d2, d3] => { results := [.lit (.bool true)], args := [d1, d2, d3] }
  | _ => none }
def topWaveRow : OpenClaim := { program := "ytefggfjblhniaaa", sum := "5c440adaea446c6ee9e1581fb7d68e9c04f612292f2b2a871e2feb6ba3f090a1", func := "incunable/incunabletop.TopWave", spec := "topWave", unfollowed := true, recurses := true, apart := false }
def TopWaveSaid : Prop := topWaveRow.holds Try.pinned (OpenSpec.ofChange topWaveSpec)

/-- ITS FALSE NEIGHBOUR: 'it returns false'. Refute it at one input. -/
def topWaveWrong : ChangeSpec := { name := "topWave", fn := fun _ => fun
  | [d1, d2, d3] => { results := [.lit (.bool false)], args := [d1, d2, d3] }
  | _ => none }
def TopWaveWrongFalsely : Prop := topWaveRow.holds Try.pinned (OpenSpec.ofChange topWaveWrong)

/- THE SECOND FORM. 'bulk': how many values and letters a reading holds, each counted each time it is reached (what is shared counts as often as it is met; a slice's spare places count too). A statement '..UptoSaid' is the law's where the arguments, and the package variables that the reading takes, are together of bulk at most 1048576: NARROWER than '..Said'. Prove '..Said' where nothing that the law and all that it calls make is longer than what came in: it says more and counts as full. Else prove '..UptoSaid'. A law counts once. -/
mutual
def uptoBulk {H : Type} : DataW H → Nat
  | .lit (.string bytes) => bytes.length + 1
  | .lit _ => 1
  | .nil => 1
  | .ptr d => uptoBulk d + 1
  | .slice elems spare => uptoBulkAll elems + uptoBulkAll spare + 1
  | .agg parts => uptoBulkAll parts + 1
  | .iface _ d => uptoBulk d + 1
  | .map entries => uptoBulkEntries entries + 1
  | .held _ => 1
def uptoBulkAll {H : Type} : List (DataW H) → Nat
  | [] => 0
  | d :: r => uptoBulk d + uptoBulkAll r
def uptoBulkEntries {H : Type} : List (Lit × DataW H) → Nat
  | [] => 0
  | x :: r => uptoBulkEntry x + uptoBulkEntries r
def uptoBulkEntry {H : Type} : Lit × DataW H → Nat
  | (.string bytes, d) => bytes.length + uptoBulk d + 1
  | (_, d) => uptoBulk d + 1
 end
def uptoSmall : (H : Type) → List (DataW H) → Bool := fun _ ds => decide (uptoBulkAll ds ≤ 1048576)
def OpenSpec.upto (s : _root_.Go.ChangeSpec) : _root_.Go.OpenSpec := { _root_.Go.OpenSpec.ofChange s with cond := some uptoSmall }

/-- 'incunablelaw18.WaveLines', WHERE WHAT IT READS IS OF BULK AT MOST 1048576: true; the input reads as it did. -/
def waveLinesUptoRow : OpenClaim := { program := "ytefggfjblhniaaa", sum := "5c440adaea446c6ee9e1581fb7d68e9c04f612292f2b2a871e2feb6ba3f090a1", func := "incunable/incunablelaw18.WaveLines", spec := "waveLines", unfollowed := true, recurses := true, apart := false, narrowed := true }
def WaveLinesUptoSaid : Prop := waveLinesUptoRow.holds Try.pinned (OpenSpec.upto waveLinesSpec)

/-- 'incunablelaw18.WaveLineBack', WHERE WHAT IT READS IS OF BULK AT MOST 1048576: true; the input reads as it did. -/
def waveLineBackUptoRow : OpenClaim := { program := "ytefggfjblhniaaa", sum := "5c440adaea446c6ee9e1581fb7d68e9c04f612292f2b2a871e2feb6ba3f090a1", func := "incunable/incunablelaw18.WaveLineBack", spec := "waveLineBack", unfollowed := true, recurses := true, apart := false, narrowed := true }
def WaveLineBackUptoSaid : Prop := waveLineBackUptoRow.holds Try.pinned (OpenSpec.upto waveLineBackSpec)

/-- 'incunablelaw18.WaveQuants', WHERE WHAT IT READS IS OF BULK AT MOST 1048576: true; the input reads as it did. -/
def waveQuantsUptoRow : OpenClaim := { program := "ytefggfjblhniaaa", sum := "5c440adaea446c6ee9e1581fb7d68e9c04f612292f2b2a871e2feb6ba3f090a1", func := "incunable/incunablelaw18.WaveQuants", spec := "waveQuants", unfollowed := true, recurses := true, apart := false, narrowed := true }
def WaveQuantsUptoSaid : Prop := waveQuantsUptoRow.holds Try.pinned (OpenSpec.upto waveQuantsSpec)

/-- 'incunablelaw18.WaveBands', WHERE WHAT IT READS IS OF BULK AT MOST 1048576: true; the input reads as it did. -/
def waveBandsUptoRow : OpenClaim := { program := "ytefggfjblhniaaa", sum := "5c440adaea446c6ee9e1581fb7d68e9c04f612292f2b2a871e2feb6ba3f090a1", func := "incunable/incunablelaw18.WaveBands", spec := "waveBands", unfollowed := true, recurses := true, apart := false, narrowed := true }
def WaveBandsUptoSaid : Prop := waveBandsUptoRow.holds Try.pinned (OpenSpec.upto waveBandsSpec)

/-- 'incunablelaw18.WaveForward', WHERE WHAT IT READS IS OF BULK AT MOST 1048576: true; the input reads as it did. -/
def waveForwardUptoRow : OpenClaim := { program := "ytefggfjblhniaaa", sum := "5c440adaea446c6ee9e1581fb7d68e9c04f612292f2b2a871e2feb6ba3f090a1", func := "incunable/incunablelaw18.WaveForward", spec := "waveForward", unfollowed := true, recurses := true, apart := false, narrowed := true }
def WaveForwardUptoSaid : Prop := waveForwardUptoRow.holds Try.pinned (OpenSpec.upto waveForwardSpec)

/-- 'incunablelaw18.WaveFlat', WHERE WHAT IT READS IS OF BULK AT MOST 1048576: true; the input reads as it did. -/
def waveFlatUptoRow : OpenClaim := { program := "ytefggfjblhniaaa", sum := "5c440adaea446c6ee9e1581fb7d68e9c04f612292f2b2a871e2feb6ba3f090a1", func := "incunable/incunablelaw18.WaveFlat", spec := "waveFlat", unfollowed := true, recurses := true, apart := false, narrowed := true }
def WaveFlatUptoSaid : Prop := waveFlatUptoRow.holds Try.pinned (OpenSpec.upto waveFlatSpec)

/-- 'incunablelaw18.WaveLess', WHERE WHAT IT READS IS OF BULK AT MOST 1048576: true; the input reads as it did. -/
def waveLessUptoRow : OpenClaim := { program := "ytefggfjblhniaaa", sum := "5c440adaea446c6ee9e1581fb7d68e9c04f612292f2b2a871e2feb6ba3f090a1", func := "incunable/incunablelaw18.WaveLess", spec := "waveLess", unfollowed := true, recurses := true, apart := false, narrowed := true }
def WaveLessUptoSaid : Prop := waveLessUptoRow.holds Try.pinned (OpenSpec.upto waveLessSpec)

/-- 'incunablelaw18.WaveInverse', WHERE WHAT IT READS IS OF BULK AT MOST 1048576: true; the input reads as it did. -/
def waveInverseUptoRow : OpenClaim := { program := "ytefggfjblhniaaa", sum := "5c440adaea446c6ee9e1581fb7d68e9c04f612292f2b2a871e2feb6ba3f090a1", func := "incunable/incunablelaw18.WaveInverse", spec := "waveInverse", unfollowed := true, recurses := true, apart := false, narrowed := true }
def WaveInverseUptoSaid : Prop := waveInverseUptoRow.holds Try.pinned (OpenSpec.upto waveInverseSpec)

/-- 'incunablelaw18.WaveBack', WHERE WHAT IT READS IS OF BULK AT MOST 1048576: true; the input reads as it did. -/
def waveBackUptoRow : OpenClaim := { program := "ytefggfjblhniaaa", sum := "5c440adaea446c6ee9e1581fb7d68e9c04f612292f2b2a871e2feb6ba3f090a1", func := "incunable/incunablelaw18.WaveBack", spec := "waveBack", unfollowed := true, recurses := true, apart := false, narrowed := true }
def WaveBackUptoSaid : Prop := waveBackUptoRow.holds Try.pinned (OpenSpec.upto waveBackSpec)

/-- 'incunabletop.TopWave', WHERE WHAT IT READS IS OF BULK AT MOST 1048576: true; the input reads as it did. -/
def topWaveUptoRow : OpenClaim := { program := "ytefggfjblhniaaa", sum := "5c440adaea446c6ee9e1581fb7d68e9c04f612292f2b2a871e2feb6ba3f090a1", func := "incunable/incunabletop.TopWave", spec := "topWave", unfollowed := true, recurses := true, apart := false, narrowed := true }
def TopWaveUptoSaid : Prop := topWaveUptoRow.holds Try.pinned (OpenSpec.upto topWaveSpec)

end Rows
end Go.Proofs.Ytefggfjblhniaaa
