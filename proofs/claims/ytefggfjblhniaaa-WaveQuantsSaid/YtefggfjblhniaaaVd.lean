import Derived.Test.YtefggfjblhniaaaVc
set_option linter.unusedVariables false
set_option linter.unusedSimpArgs false
/-! The reference's New, Valid, Same. -/
namespace Go.Proofs.Ytefggfjblhniaaa
open Xf

/-! Of -/
/-! Valid -/
theorem allVal_rd {xs : List Int} : AllVal xs ↔ ∀ j : Nat, j < xs.length → ValOk (rd xs j) := by
  unfold AllVal
  constructor
  · intro h j hj; rw [rd_lt xs j hj]; exact h _ (List.getElem_mem hj)
  · intro h x hx
    obtain ⟨j, hj, rfl⟩ := List.getElem_of_mem hx
    have := h j hj
    rwa [rd_lt xs j hj] at this
end Go.Proofs.Ytefggfjblhniaaa
