import Derived.Test.YtefggfjblhniaaaVr
set_option linter.unusedVariables false
set_option linter.unusedSimpArgs false
/-! Means, sums over rectangles; Halve. -/
namespace Go.Proofs.Ytefggfjblhniaaa
open Xf

def meanI (s n : Int) : Int := (2 * s + n) / (2 * n)
def meanF : EntryP
  | [.int .i64 s, .int .i64 n] => some (-1099511627776 ≤ s ∧ s ≤ 1099511627776 ∧ 0 < n ∧ n ≤ 1099511627776, .int .i64 (meanI s n))
  | _ => none
attribute [push_cast] meanF
/-! Sums over rectangles. -/
theorem rd_bd {lo hi : Int} {xs : List Int} (h : AllIn lo hi xs) (h0 : lo ≤ 0) (h1 : 0 ≤ hi) (k : Int) : lo ≤ rd xs k ∧ rd xs k ≤ hi := by
  by_cases hk : k.toNat < xs.length
  · have e : rd xs k = xs[k.toNat] := by simp [rd, hk]
    rw [e]; exact h _ (List.getElem_mem hk)
  · have e : rd xs k = 0 := by simp [rd, List.getElem?_eq_none (Nat.not_lt.1 hk)]
    rw [e]; exact ⟨h0, h1⟩
def rowS (xs : List Int) (w v X : Int) : Nat → Int
  | 0 => 0
  | j + 1 => rowS xs w v X j + rd xs (v * w + (X + j))
def blkS (xs : List Int) (w Y X : Int) (c : Nat) : Nat → Int
  | 0 => 0
  | i + 1 => blkS xs w Y X c i + rowS xs w (Y + i) X c
theorem rowS_bd {xs : List Int} (h : AllIn (-16777216) 16777216 xs) (w v X : Int) : ∀ j : Nat, -(16777216 * j) ≤ rowS xs w v X j ∧ rowS xs w v X j ≤ 16777216 * j
  | 0 => by simp [rowS]
  | j + 1 => by
    have := rowS_bd h w v X j
    have := rd_bd h (by omega) (by omega) (v * w + (X + j))
    simp only [rowS]
    omega
theorem blkS_bd {xs : List Int} (h : AllIn (-16777216) 16777216 xs) (w Y X : Int) {c : Nat} (hc : c ≤ 200) : ∀ i : Nat, -(3355443200 * i) ≤ blkS xs w Y X c i ∧ blkS xs w Y X c i ≤ 3355443200 * i
  | 0 => by simp [blkS]
  | i + 1 => by
    have := blkS_bd h w Y X hc i
    have := rowS_bd h w (Y + i) X c
    simp only [blkS]
    omega
/-- How many of two lie below a side. -/
def two (y h : Int) : Nat := (min (2 * y + 2) h - 2 * y).toNat
def halfF (w h : Int) (xs : List Int) (k : Nat) : Int :=
  meanI (blkS xs w (2 * ((k / ((w + 1) / 2).toNat : Nat) : Int)) (2 * ((k % ((w + 1) / 2).toNat : Nat) : Int)) (two (k % ((w + 1) / 2).toNat : Nat) w) (two (k / ((w + 1) / 2).toNat : Nat) h))
    ((two (k / ((w + 1) / 2).toNat : Nat) h : Int) * two (k % ((w + 1) / 2).toNat : Nat) w)
theorem dm_at {w v u : Nat} (hu : u < w) : (v * w + u) / w = v ∧ (v * w + u) % w = u := by
  constructor
  · rw [Nat.mul_comm, Nat.mul_add_div (by omega), Nat.div_eq_of_lt hu, Nat.add_zero]
  · rw [Nat.mul_comm, Nat.mul_add_mod, Nat.mod_eq_of_lt hu]
theorem halfF_at {w h : Int} {xs : List Int} {W y x : Nat} (hW : ((w + 1) / 2).toNat = W) (hx : x < W) :
    halfF w h xs (y * W + x) = meanI (blkS xs w (2 * (y : Int)) (2 * (x : Int)) (two x w) (two y h)) ((two y h : Int) * two x w) := by
  unfold halfF
  rw [hW, (dm_at hx).1, (dm_at hx).2]
def half (p : Pl) : Pl := if p.Ok then ⟨(p.w + 1) / 2, (p.h + 1) / 2, tabl (((p.h + 1) / 2).toNat * ((p.w + 1) / 2).toNat) (halfF p.w p.h p.xs)⟩ else pl0
end Go.Proofs.Ytefggfjblhniaaa
