import Derived.Test.YtefggfjblhniaaaVi
set_option linter.unusedVariables false
set_option linter.unusedSimpArgs false
/-! The reference's Cut. -/
namespace Go.Proofs.Ytefggfjblhniaaa
open Xf

theorem cutF_at {W x y : Int} {xs : List Int} {w v u : Nat} (hu : u < w) : cutF W x y (w : Int) xs (v * w + u) = rd xs ((y + v) * W + (x + u)) := by
  unfold cutF
  have e1 : (((v * w + u : Nat) : Int)) / (w : Int) = v := by
    rw [← Int.natCast_ediv]
    congr 1
    rw [Nat.mul_comm, Nat.mul_add_div (by omega), Nat.div_eq_of_lt hu, Nat.add_zero]
  have e2 : (((v * w + u : Nat) : Int)) % (w : Int) = u := by
    rw [← Int.natCast_emod]
    congr 1
    rw [Nat.mul_comm, Nat.mul_add_mod, Nat.mod_eq_of_lt hu]
  rw [e1, e2, Int.add_assoc]
abbrev L3T := Nat × Xf.Loc × Xf.Loc × Xf.Loc
end Go.Proofs.Ytefggfjblhniaaa
