import Derived.Test.YtefggfjblhniaaaVu
set_option linter.unusedVariables false
set_option linter.unusedSimpArgs false
/-! Bitmaps; copies of images. -/
namespace Go.Proofs.Ytefggfjblhniaaa
open Xf

structure Bm where
  w : Int
  h : Int
  xs : List Int
def bmV (b : Bm) (L : Xf.Loc) (c : Nat) : SV := .agg [.int .i64 b.w, .int .i64 b.h, .sl c L 1 0 b.xs.length]
attribute [push_cast] bmV
structure BmA where
  b : Bm
  L : Xf.Loc
def getB (look : Look) : SV → Option (BmA × List Nat)
  | .agg [.int .i64 w, .int .i64 h, .sl c _ 1 0 _] => match rowI (lkZ look (.ints .u8 []) c) with
    | some (L, .u8, xs) => some (⟨⟨w, h, xs⟩, L⟩, [c])
    | _ => none
  | _ => none
attribute [push_cast] getB
def Bits (xs : List Int) : Prop := ∀ n, n ∈ xs → n ≤ 1
instance (xs : List Int) : Decidable (Bits xs) := by unfold Bits; infer_instance
theorem bits_rd {xs : List Int} : Bits xs ↔ ∀ j : Nat, j < xs.length → rd xs j ≤ 1 := by
  unfold Bits
  constructor
  · intro h j hj; rw [rd_lt xs j hj]; exact h _ (List.getElem_mem hj)
  · intro h n hn
    obtain ⟨j, hj, rfl⟩ := List.mem_iff_getElem.1 hn
    have := h j hj
    rwa [rd_lt xs j hj] at this
def Bm.Ok (b : Bm) : Prop := SidesOk b.w b.h ∧ b.xs.length = b.w * b.h ∧ Bits b.xs
instance (b : Bm) : Decidable b.Ok := by unfold Bm.Ok; infer_instance
structure AtA where
  a : BmA
  x : Int
  y : Int
def AtA.inside (a : AtA) : Prop := 0 ≤ a.x ∧ 0 ≤ a.y ∧ a.x < a.a.b.w ∧ a.y < a.a.b.h
instance (a : AtA) : Decidable a.inside := by unfold AtA.inside; infer_instance
def atV (a : AtA) : Int := if a.inside then rd a.a.b.xs (a.y * a.a.b.w + a.x) else 0
/-! Copies. -/
end Go.Proofs.Ytefggfjblhniaaa
