/-
  No cell of these rows narrows 'for every input' (looked for: loops, veiled, ifaces, maps, wideKeys, modest, calm, conditions, laid).
  DERIVED. THE GIVEN ROWS OF THIS SEAT. 9 by the template 'for every input the law returns true; each argument reads behind the call as it read before'; 0 by the template 'total and deterministic' (their statements: YtaofjnkpkocgjaaGreatTotals.lean).
  GIVEN WITH THE SEED: the statements are not yours to turn. If you find one false, say at which input.
  Laid BY PROGRAM, IN A SANDBOX (cutbox-rows.mjs): the forced cells as the released guide's own fill.sh prints them over the translation 43ba40361440fcb7… (all of the seat's roots in one cut). By AI agents, Wed Nov 11 2026. No macro, syntax, notation, axiom, sorry.
-/
import Derived.Test.YtaofjnkpkocgjaaGreatChecked
import GoSem.Claim
import GoSem.ClaimJoined
import GoSem.ClaimMapViews
import Derived.JoinedTies
import Derived.KernelRfl
namespace Go.Proofs.YtaofjnkpkocgjaaGreat
/- THE CELL 'sum', in the pinned program and in every row, IS THE sha256 OF THE DUMP (.gsa) THAT YtaofjnkpkocgjaaGreatProg.lean LOADS. Nothing in Lean hashes anything: it is a label: what it is worth is what the hold of that sum in a sandbox is worth. -/
noncomputable def Tryz.pinned : Pinned := { name := "ytaofjnkpkocgjaagreat", sum := "43ba40361440fcb772acdfef08c62213bb346187165eebe2b5d228fce52b1f85", checked := Tryz.checked }
namespace Rows
def none {H : Type} : Left H := { results := [], args := [] }

/-- 'incunablelaw21.PictureEncodes': WHATEVER THE INPUT: true; the input reads as it did. -/
def pictureEncodesSpec : ChangeSpec := { name := "pictureEncodes", fn := fun _ => fun
  | [d1, d2] => { results := [.lit (.bool true)], args := [d1, d2] }
  | _ => none }
def pictureEncodesRow : OpenClaim := { program := "ytaofjnkpkocgjaagreat", sum := "43ba40361440fcb772acdfef08c62213bb346187165eebe2b5d228fce52b1f85", func := "incunable/incunablelaw21.PictureEncodes", spec := "pictureEncodes", unfollowed := true, recurses := true, apart := false }
def PictureEncodesSaid : Prop := pictureEncodesRow.holds Tryz.pinned (OpenSpec.ofChange pictureEncodesSpec)

/-- ITS FALSE NEIGHBOUR: 'it returns false'. Refute it at one input. -/
def pictureEncodesWrong : ChangeSpec := { name := "pictureEncodes", fn := fun _ => fun
  | [d1, d2] => { results := [.lit (.bool false)], args := [d1, d2] }
  | _ => none }
def PictureEncodesWrongFalsely : Prop := pictureEncodesRow.holds Tryz.pinned (OpenSpec.ofChange pictureEncodesWrong)

/-- 'incunablelaw21.PictureShows': WHATEVER THE INPUT: true; the input reads as it did. -/
def pictureShowsSpec : ChangeSpec := { name := "pictureShows", fn := fun _ => fun
  | [d] => { results := [.lit (.bool true)], args := [d] }
  | _ => none }
def pictureShowsRow : OpenClaim := { program := "ytaofjnkpkocgjaagreat", sum := "43ba40361440fcb772acdfef08c62213bb346187165eebe2b5d228fce52b1f85", func := "incunable/incunablelaw21.PictureShows", spec := "pictureShows", unfollowed := true, recurses := true, apart := false }
def PictureShowsSaid : Prop := pictureShowsRow.holds Tryz.pinned (OpenSpec.ofChange pictureShowsSpec)

/-- ITS FALSE NEIGHBOUR: 'it returns false'. Refute it at one input. -/
def pictureShowsWrong : ChangeSpec := { name := "pictureShows", fn := fun _ => fun
  | [d] => { results := [.lit (.bool false)], args := [d] }
  | _ => none }
def PictureShowsWrongFalsely : Prop := pictureShowsRow.holds Tryz.pinned (OpenSpec.ofChange pictureShowsWrong)

/-- 'incunablelaw21.PictureBegins': WHATEVER THE INPUT: true; the input reads as it did. -/
def pictureBeginsSpec : ChangeSpec := { name := "pictureBegins", fn := fun _ => fun
  | [d1, d2, d3] => { results := [.lit (.bool true)], args := [d1, d2, d3] }
  | _ => none }
def pictureBeginsRow : OpenClaim := { program := "ytaofjnkpkocgjaagreat", sum := "43ba40361440fcb772acdfef08c62213bb346187165eebe2b5d228fce52b1f85", func := "incunable/incunablelaw21.PictureBegins", spec := "pictureBegins", unfollowed := true, recurses := true, apart := false }
def PictureBeginsSaid : Prop := pictureBeginsRow.holds Tryz.pinned (OpenSpec.ofChange pictureBeginsSpec)

/-- ITS FALSE NEIGHBOUR: 'it returns false'. Refute it at one input. -/
def pictureBeginsWrong : ChangeSpec := { name := "pictureBegins", fn := fun _ => fun
  | [d1, d2, d3] => { results := [.lit (.bool false)], args := [d1, d2, d3] }
  | _ => none }
def PictureBeginsWrongFalsely : Prop := pictureBeginsRow.holds Tryz.pinned (OpenSpec.ofChange pictureBeginsWrong)

/-- 'incunablelaw21.PictureGreys': WHATEVER THE INPUT: true; the input reads as it did. -/
def pictureGreysSpec : ChangeSpec := { name := "pictureGreys", fn := fun _ => fun
  | [d1, d2] => { results := [.lit (.bool true)], args := [d1, d2] }
  | _ => none }
def pictureGreysRow : OpenClaim := { program := "ytaofjnkpkocgjaagreat", sum := "43ba40361440fcb772acdfef08c62213bb346187165eebe2b5d228fce52b1f85", func := "incunable/incunablelaw21.PictureGreys", spec := "pictureGreys", unfollowed := true, recurses := true, apart := false }
def PictureGreysSaid : Prop := pictureGreysRow.holds Tryz.pinned (OpenSpec.ofChange pictureGreysSpec)

/-- ITS FALSE NEIGHBOUR: 'it returns false'. Refute it at one input. -/
def pictureGreysWrong : ChangeSpec := { name := "pictureGreys", fn := fun _ => fun
  | [d1, d2] => { results := [.lit (.bool false)], args := [d1, d2] }
  | _ => none }
def PictureGreysWrongFalsely : Prop := pictureGreysRow.holds Tryz.pinned (OpenSpec.ofChange pictureGreysWrong)

/-- 'incunablelaw21.PictureFar': WHATEVER THE INPUT: true; the input reads as it did. -/
def pictureFarSpec : ChangeSpec := { name := "pictureFar", fn := fun _ => fun
  | [d1, d2] => { results := [.lit (.bool true)], args := [d1, d2] }
  | _ => none }
def pictureFarRow : OpenClaim := { program := "ytaofjnkpkocgjaagreat", sum := "43ba40361440fcb772acdfef08c62213bb346187165eebe2b5d228fce52b1f85", func := "incunable/incunablelaw21.PictureFar", spec := "pictureFar", unfollowed := true, recurses := true, apart := false }
def PictureFarSaid : Prop := pictureFarRow.holds Tryz.pinned (OpenSpec.ofChange pictureFarSpec)

/-- ITS FALSE NEIGHBOUR: 'it returns false'. Refute it at one input. -/
def pictureFarWrong : ChangeSpec := { name := "pictureFar", fn := fun _ => fun
  | [d1, d2] => { results := [.lit (.bool false)], args := [d1, d2] }
  | _ => none }
def PictureFarWrongFalsely : Prop := pictureFarRow.holds Tryz.pinned (OpenSpec.ofChange pictureFarWrong)

/-- 'incunablelaw21.PictureRegions': WHATEVER THE INPUT: true; the input reads as it did. -/
def pictureRegionsSpec : ChangeSpec := { name := "pictureRegions", fn := fun _ => fun
  | [d] => { results := [.lit (.bool true)], args := [d] }
  | _ => none }
def pictureRegionsRow : OpenClaim := { program := "ytaofjnkpkocgjaagreat", sum := "43ba40361440fcb772acdfef08c62213bb346187165eebe2b5d228fce52b1f85", func := "incunable/incunablelaw21.PictureRegions", spec := "pictureRegions", unfollowed := true, recurses := true, apart := false }
def PictureRegionsSaid : Prop := pictureRegionsRow.holds Tryz.pinned (OpenSpec.ofChange pictureRegionsSpec)

/-- ITS FALSE NEIGHBOUR: 'it returns false'. Refute it at one input. -/
def pictureRegionsWrong : ChangeSpec := { name := "pictureRegions", fn := fun _ => fun
  | [d] => { results := [.lit (.bool false)], args := [d] }
  | _ => none }
def PictureRegionsWrongFalsely : Prop := pictureRegionsRow.holds Tryz.pinned (OpenSpec.ofChange pictureRegionsWrong)

/-- 'incunablelaw21.PictureBudgets': WHATEVER THE INPUT: true; the input reads as it did. -/
def pictureBudgetsSpec : ChangeSpec := { name := "pictureBudgets", fn := fun _ => fun
  | [d] => { results := [.lit (.bool true)], args := [d] }
  | _ => none }
def pictureBudgetsRow : OpenClaim := { program := "ytaofjnkpkocgjaagreat", sum := "43ba40361440fcb772acdfef08c62213bb346187165eebe2b5d228fce52b1f85", func := "incunable/incunablelaw21.PictureBudgets", spec := "pictureBudgets", unfollowed := true, recurses := true, apart := false }
def PictureBudgetsSaid : Prop := pictureBudgetsRow.holds Tryz.pinned (OpenSpec.ofChange pictureBudgetsSpec)

/-- ITS FALSE NEIGHBOUR: 'it returns false'. Refute it at one input. -/
def pictureBudgetsWrong : ChangeSpec := { name := "pictureBudgets", fn := fun _ => fun
  | [d] => { results := [.lit (.bool false)], args := [d] }
  | _ => none }
def PictureBudgetsWrongFalsely : Prop := pictureBudgetsRow.holds Tryz.pinned (OpenSpec.ofChange pictureBudgetsWrong)

/-- 'incunablelaw21.PictureFills': WHATEVER THE INPUT: true; the input reads as it did. -/
def pictureFillsSpec : ChangeSpec := { name := "pictureFills", fn := fun _ => fun
  | [d1, d2, d3] => { results := [.lit (.bool true)], args := [d1, d2, d3] }
  | _ => none }
def pictureFillsRow : OpenClaim := { program := "ytaofjnkpkocgjaagreat", sum := "43ba40361440fcb772acdfef08c62213bb346187165eebe2b5d228fce52b1f85", func := "incunable/incunablelaw21.PictureFills", spec := "pictureFills", unfollowed := true, recurses := true, apart := false }
def PictureFillsSaid : Prop := pictureFillsRow.holds Tryz.pinned (OpenSpec.ofChange pictureFillsSpec)

/-- ITS FALSE NEIGHBOUR: 'it returns false'. Refute it at one input. -/
def pictureFillsWrong : ChangeSpec := { name := "pictureFills", fn := fun _ => fun
  | [d1, d2, d3] => { results := [.lit (.bool false)], args := [d1, d2, d3] }
  | _ => none }
def PictureFillsWrongFalsely : Prop := pictureFillsRow.holds Tryz.pinned (OpenSpec.ofChange pictureFillsWrong)

/-- 'incunabletop.TopPicture': WHATEVER THE INPUT: true; the input reads as it did. -/
def topPictureSpec : ChangeSpec := { name := "topPicture", fn := fun _ => fun
  | [d] => { results := [.lit (.bool true)], args := [d] }
  | _ => none }
def topPictureRow : OpenClaim := { program := "ytaofjnkpkocgjaagreat", sum := "43ba40361440fcb772acdfef08c62213bb346187165eebe2b5d228fce52b1f85", func := "incunable/incunabletop.TopPicture", spec := "topPicture", unfollowed := true, recurses := true, apart := false }
def TopPictureSaid : Prop := topPictureRow.holds Tryz.pinned (OpenSpec.ofChange topPictureSpec)

/-- ITS FALSE NEIGHBOUR: 'it returns false'. Refute it at one input. -/
def topPictureWrong : ChangeSpec := { name := "topPicture", fn := fun _ => fun
  | [d] => { results := [.lit (.bool false)], args := [d] }
  | _ => none }
def TopPictureWrongFalsely : Prop := topPictureRow.holds Tryz.pinned (OpenSpec.ofChange topPictureWrong)

/- THE SECOND FORM. 'bulk': how many values and letters a reading holds, each counted each time it is reached (what is shared counts as often as it is met; a slice's spare places count too). A statement '..UptoSaid' is the law's where the arguments, and the package variables that the reading takes, are together of bulk at most 1048576: NARROWER than '..Said'. Prove '..Said' where nothing that the law and all that it calls make is longer than what came in: it says more and counts as full. Else prove '..UptoSaid'. A law counts once. -/
mutual
def uptoBulk {H : Type} : DataW H → Nat
  | .lit (.string bytes) => bytes.length + 1
  | .lit _ => 1
  | .nil => 1
  | .ptr d => uptoBulk d + 1
  | .slice elems spare => uptoBulkAll elems + uptoBulkAll spare + 1
  | .agg parts => uptoBulkAll parts + 1
  | .iface _ d => uptoBulk d + 1
  | .map entries => uptoBulkEntries entries + 1
  | .held _ => 1
def uptoBulkAll {H : Type} : List (DataW H) → Nat
  | [] => 0
  | d :: r => uptoBulk d + uptoBulkAll r
def uptoBulkEntries {H : Type} : List (Lit × DataW H) → Nat
  | [] => 0
  | x :: r => uptoBulkEntry x + uptoBulkEntries r
def uptoBulkEntry {H : Type} : Lit × DataW H → Nat
  | (.string bytes, d) => bytes.length + uptoBulk d + 1
  | (_, d) => uptoBulk d + 1
 end
def uptoSmall : (H : Type) → List (DataW H) → Bool := fun _ ds => decide (uptoBulkAll ds ≤ 1048576)
def OpenSpec.upto (s : _root_.Go.ChangeSpec) : _root_.Go.OpenSpec := { _root_.Go.OpenSpec.ofChange s with cond := some uptoSmall }

/-- 'incunablelaw21.PictureEncodes', WHERE WHAT IT READS IS OF BULK AT MOST 1048576: true; the input reads as it did. -/
def pictureEncodesUptoRow : OpenClaim := { program := "ytaofjnkpkocgjaagreat", sum := "43ba40361440fcb772acdfef08c62213bb346187165eebe2b5d228fce52b1f85", func := "incunable/incunablelaw21.PictureEncodes", spec := "pictureEncodes", unfollowed := true, recurses := true, apart := false, narrowed := true }
def PictureEncodesUptoSaid : Prop := pictureEncodesUptoRow.holds Tryz.pinned (OpenSpec.upto pictureEncodesSpec)

/-- 'incunablelaw21.PictureShows', WHERE WHAT IT READS IS OF BULK AT MOST 1048576: true; the input reads as it did. -/
def pictureShowsUptoRow : OpenClaim := { program := "ytaofjnkpkocgjaagreat", sum := "43ba40361440fcb772acdfef08c62213bb346187165eebe2b5d228fce52b1f85", func := "incunable/incunablelaw21.PictureShows", spec := "pictureShows", unfollowed := true, recurses := true, apart := false, narrowed := true }
def PictureShowsUptoSaid : Prop := pictureShowsUptoRow.holds Tryz.pinned (OpenSpec.upto pictureShowsSpec)

/-- 'incunablelaw21.PictureBegins', WHERE WHAT IT READS IS OF BULK AT MOST 1048576: true; the input reads as it did. -/
def pictureBeginsUptoRow : OpenClaim := { program := "ytaofjnkpkocgjaagreat", sum := "43ba40361440fcb772acdfef08c62213bb346187165eebe2b5d228fce52b1f85", func := "incunable/incunablelaw21.PictureBegins", spec := "pictureBegins", unfollowed := true, recurses := true, apart := false, narrowed := true }
def PictureBeginsUptoSaid : Prop := pictureBeginsUptoRow.holds Tryz.pinned (OpenSpec.upto pictureBeginsSpec)

/-- 'incunablelaw21.PictureGreys', WHERE WHAT IT READS IS OF BULK AT MOST 1048576: true; the input reads as it did. -/
def pictureGreysUptoRow : OpenClaim := { program := "ytaofjnkpkocgjaagreat", sum := "43ba40361440fcb772acdfef08c62213bb346187165eebe2b5d228fce52b1f85", func := "incunable/incunablelaw21.PictureGreys", spec := "pictureGreys", unfollowed := true, recurses := true, apart := false, narrowed := true }
def PictureGreysUptoSaid : Prop := pictureGreysUptoRow.holds Tryz.pinned (OpenSpec.upto pictureGreysSpec)

/-- 'incunablelaw21.PictureFar', WHERE WHAT IT READS IS OF BULK AT MOST 1048576: true; the input reads as it did. -/
def pictureFarUptoRow : OpenClaim := { program := "ytaofjnkpkocgjaagreat", sum := "43ba40361440fcb772acdfef08c62213bb346187165eebe2b5d228fce52b1f85", func := "incunable/incunablelaw21.PictureFar", spec := "pictureFar", unfollowed := true, recurses := true, apart := false, narrowed := true }
def PictureFarUptoSaid : Prop := pictureFarUptoRow.holds Tryz.pinned (OpenSpec.upto pictureFarSpec)

/-- 'incunablelaw21.PictureRegions', WHERE WHAT IT READS IS OF BULK AT MOST 1048576: true; the input reads as it did. -/
def pictureRegionsUptoRow : OpenClaim := { program := "ytaofjnkpkocgjaagreat", sum := "43ba40361440fcb772acdfef08c62213bb346187165eebe2b5d228fce52b1f85", func := "incunable/incunablelaw21.PictureRegions", spec := "pictureRegions", unfollowed := true, recurses := true, apart := false, narrowed := true }
def PictureRegionsUptoSaid : Prop := pictureRegionsUptoRow.holds Tryz.pinned (OpenSpec.upto pictureRegionsSpec)

/-- 'incunablelaw21.PictureBudgets', WHERE WHAT IT READS IS OF BULK AT MOST 1048576: true; the input reads as it did. -/
def pictureBudgetsUptoRow : OpenClaim := { program := "ytaofjnkpkocgjaagreat", sum := "43ba40361440fcb772acdfef08c62213bb346187165eebe2b5d228fce52b1f85", func := "incunable/incunablelaw21.PictureBudgets", spec := "pictureBudgets", unfollowed := true, recurses := true, apart := false, narrowed := true }
def PictureBudgetsUptoSaid : Prop := pictureBudgetsUptoRow.holds Tryz.pinned (OpenSpec.upto pictureBudgetsSpec)

/-- 'incunablelaw21.PictureFills', WHERE WHAT IT READS IS OF BULK AT MOST 1048576: true; the input reads as it did. -/
def pictureFillsUptoRow : OpenClaim := { program := "ytaofjnkpkocgjaagreat", sum := "43ba40361440fcb772acdfef08c62213bb346187165eebe2b5d228fce52b1f85", func := "incunable/incunablelaw21.PictureFills", spec := "pictureFills", unfollowed := true, recurses := true, apart := false, narrowed := true }
def PictureFillsUptoSaid : Prop := pictureFillsUptoRow.holds Tryz.pinned (OpenSpec.upto pictureFillsSpec)

/-- 'incunabletop.TopPicture', WHERE WHAT IT READS IS OF BULK AT MOST 1048576: true; the input reads as it did. -/
def topPictureUptoRow : OpenClaim := { program := "ytaofjnkpkocgjaagreat", sum := "43ba40361440fcb772acdfef08c62213bb346187165eebe2b5d228fce52b1f85", func := "incunable/incunabletop.TopPicture", spec := "topPicture", unfollowed := true, recurses := true, apart := false, narrowed := true }
def TopPictureUptoSaid : Prop := topPictureUptoRow.holds Tryz.pinned (OpenSpec.upto topPictureSpec)

end Rows
end Go.Proofs.YtaofjnkpkocgjaaGreat
