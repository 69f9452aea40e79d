import Derived.Test.YtefggfjblhniaaaVj
set_option linter.unusedVariables false
set_option linter.unusedSimpArgs false
/-! The reference's Turn. -/
namespace Go.Proofs.Ytefggfjblhniaaa
open Xf

def Far (n : Int) : Prop := -(2 ^ 60) ≤ n ∧ n ≤ 2 ^ 60
def downF : EntryP
  | [.int .i64 a, .int .i64 b] => some (-1152921504606846976 ≤ a ∧ a ≤ 1152921504606846976 ∧ 0 < b ∧ b ≤ 1152921504606846976, .int .i64 (a / b))
  | _ => none
attribute [push_cast] downF
theorem down_eq {a b : Int} (hb : 0 < b) : (a.tmod b < 0 → a.tdiv b - 1 = a / b) ∧ (¬ a.tmod b < 0 → a.tdiv b = a / b) := by
  rw [Int.tdiv_eq_ediv, Int.tmod_eq_emod]
  have h1 := Int.emod_nonneg a (show b ≠ 0 by omega)
  have h2 := Int.emod_lt_of_pos a hb
  by_cases h : 0 ≤ a ∨ b ∣ a
  · simp only [h, if_true]; omega
  · simp only [h, if_false, Int.sign_eq_one_of_pos hb]; omega
theorem tdiv_bd (a b : Int) : -(a.natAbs : Int) ≤ a.tdiv b ∧ a.tdiv b ≤ a.natAbs := by
  have h : (a.tdiv b).natAbs ≤ a.natAbs := by
    rw [Int.natAbs_tdiv]; exact Nat.div_le_self _ _
  omega
end Go.Proofs.Ytefggfjblhniaaa
