import Derived.Test.YtefggfjblhniaaaVg
set_option linter.unusedVariables false
set_option linter.unusedSimpArgs false
/-! Cut. -/
namespace Go.Proofs.Ytefggfjblhniaaa
open Xf

structure CutA where
  a : ImA
  x : Int
  y : Int
  w : Int
  h : Int
def CutA.In (c : CutA) : Prop := 0 ≤ c.x ∧ 0 ≤ c.y ∧ 0 ≤ c.w ∧ 0 ≤ c.h ∧ c.x + c.w ≤ c.a.i.w ∧ c.y + c.h ≤ c.a.i.h
instance (c : CutA) : Decidable c.In := by unfold CutA.In; infer_instance
def CutA.Ok (c : CutA) : Prop := c.a.i.Ok ∧ c.In
instance (c : CutA) : Decidable c.Ok := by unfold CutA.Ok; infer_instance
def cutF (W x y w : Int) (xs : List Int) : Nat → Int := fun k => rd xs ((y + (k : Int) / w) * W + x + (k : Int) % w)
def cutL (c : CutA) (xs : List Int) : List Int := tabl (c.w * c.h).toNat (cutF c.a.i.w c.x c.y c.w xs)
def cutI (c : CutA) : Im := if c.Ok then ⟨c.w, c.h, cutL c c.a.i.R, cutL c c.a.i.G, cutL c c.a.i.B⟩ else im0
theorem idx_bd {a b W H : Int} (h1 : 0 ≤ a) (h2 : a < H) (h3 : 0 ≤ b) (h4 : b < W) : 0 ≤ a * W + b ∧ a * W + b < W * H := by
  have e1 : 0 ≤ a * W := Int.mul_nonneg h1 (by omega)
  have e2 : (a + 1) * W ≤ H * W := Int.mul_le_mul_of_nonneg_right (by omega) (by omega)
  rw [Int.add_mul, Int.one_mul, Int.mul_comm H W] at e2
  omega
theorem dm_bd {k w h : Int} (h0 : 0 ≤ k) (h1 : k < w * h) (hw : 0 ≤ w) : 0 < w ∧ 0 ≤ k / w ∧ k / w < h ∧ 0 ≤ k % w ∧ k % w < w := by
  have hw' : 0 < w := by
    rcases Int.lt_or_eq_of_le hw with h | h
    · exact h
    · rw [← h, Int.zero_mul] at h1; omega
  refine ⟨hw', Int.ediv_nonneg h0 hw, ?_, Int.emod_nonneg _ (by omega), Int.emod_lt_of_pos _ hw'⟩
  exact Int.ediv_lt_of_lt_mul hw' (by rw [Int.mul_comm]; exact h1)

end Go.Proofs.Ytefggfjblhniaaa
