import Derived.Test.YtefggfjblhniaaaVt
set_option linter.unusedVariables false
set_option linter.unusedSimpArgs false
/-! Double; the law ColourHalves. -/
namespace Go.Proofs.Ytefggfjblhniaaa
open Xf

structure PlD where
  a : PlA
  w : Int
  h : Int
def PlD.fit (d : PlD) : Prop := SidesOk d.w d.h ∧ d.a.p.w = (d.w + 1) / 2 ∧ d.a.p.h = (d.h + 1) / 2
instance (d : PlD) : Decidable d.fit := by unfold PlD.fit; infer_instance
def PlD.Ok (d : PlD) : Prop := d.a.p.Ok ∧ d.fit
instance (d : PlD) : Decidable d.Ok := by unfold PlD.Ok; infer_instance
def dblF (w pw : Int) (xs : List Int) : Nat → Int := fun k => rd xs ((k : Int) / w / 2 * pw + (k : Int) % w / 2)
def dbl (d : PlD) : Pl := if d.Ok then ⟨d.w, d.h, tabl (d.w * d.h).toNat (dblF d.w d.a.p.w d.a.p.xs)⟩ else pl0
theorem dmI {w v u : Nat} (hu : u < w) : ((v * w + u : Nat) : Int) / (w : Int) = v ∧ ((v * w + u : Nat) : Int) % (w : Int) = u := by
  constructor
  · rw [← Int.natCast_ediv, (dm_at hu).1]
  · rw [← Int.natCast_emod, (dm_at hu).2]
end Go.Proofs.Ytefggfjblhniaaa
