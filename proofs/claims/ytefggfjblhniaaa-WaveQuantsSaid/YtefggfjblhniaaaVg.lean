import Derived.Test.YtefggfjblhniaaaVf
set_option linter.unusedVariables false
set_option linter.unusedSimpArgs false
/-! Sane, Large; the law ColourNew. -/
namespace Go.Proofs.Ytefggfjblhniaaa
open Xf

def im1 : Im := ⟨1, 1, [255], [0], [0]⟩
theorem im1_ok : im1.Ok := by
  refine ⟨⟨by decide, by decide, by decide, by decide, by decide⟩, ⟨rfl, ?_⟩, ⟨rfl, ?_⟩, ⟨rfl, ?_⟩⟩ <;> intro n hn <;> simp [im1] at hn <;> subst hn <;> exact ⟨by decide, by decide⟩
theorem im1_Y : turn tY im1 = ⟨1, 1, [63]⟩ := by unfold turn; rw [if_pos im1_ok]; rfl
theorem im1_U : turn tU im1 = ⟨1, 1, [0]⟩ := by unfold turn; rw [if_pos im1_ok]; rfl
theorem im1_V : turn tV im1 = ⟨1, 1, [255]⟩ := by unfold turn; rw [if_pos im1_ok]; rfl
theorem newI_small (a : NewA) : (newI a).small := by
  unfold newI
  by_cases h : a.Ok
  · rw [if_pos h]
    have := h.1.bd
    refine ⟨?_, ?_, ?_⟩ <;> simp [cst] <;> omega
  · rw [if_neg h]; exact ⟨by decide, by decide, by decide⟩
end Go.Proofs.Ytefggfjblhniaaa
