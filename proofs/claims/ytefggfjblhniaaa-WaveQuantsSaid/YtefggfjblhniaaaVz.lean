import Derived.Test.YtefggfjblhniaaaVy
set_option linter.unusedVariables false
set_option linter.unusedSimpArgs false
/-! The reference's Paint. -/
namespace Go.Proofs.Ytefggfjblhniaaa
open Xf

/-- The first m numbers are turned. -/
def trn (n m : Nat) (f : Nat → Int) (xs : List Int) : List Int := tabl n (fun j => if j < m then f j else rd xs (j : Nat))
theorem trn_length (n m : Nat) (f : Nat → Int) (xs : List Int) : (trn n m f xs).length = n := tabl_length _ _
theorem trn_zero {n : Nat} (f : Nat → Int) {xs : List Int} (h : xs.length = n) : trn n 0 f xs = xs := by
  subst h; unfold trn
  exact Eq.trans (tabl_congr fun j hj => by rw [if_neg (by omega)]) (tabl_rd xs)
theorem trn_all (n : Nat) (f : Nat → Int) (xs : List Int) : trn n n f xs = tabl n f := tabl_congr fun j hj => if_pos hj
theorem trn_set {n m : Nat} (h : m < n) (f : Nat → Int) (xs : List Int) {c : Int} (hc : f m = c) : (trn n m f xs).set m c = trn n (m + 1) f xs := by
  unfold trn
  rw [tabl_set h]
  refine tabl_congr fun j hj => ?_
  by_cases e : j = m
  · subst e; simp [hc]
  · rw [if_neg e]
    by_cases h2 : j < m
    · rw [if_pos h2, if_pos (by omega)]
    · rw [if_neg h2, if_neg (by omega)]
theorem trn_skip {n m : Nat} {f : Nat → Int} {xs : List Int} (hc : f m = rd xs (m : Nat)) : trn n m f xs = trn n (m + 1) f xs := by
  refine tabl_congr fun j hj => ?_
  by_cases e : j = m
  · subst e; rw [if_neg (by omega), if_pos (by omega), hc]
  · by_cases h2 : j < m
    · rw [if_pos h2, if_pos (by omega)]
    · rw [if_neg h2, if_neg (by omega)]
theorem ink_at {b : Bm} {L : Xf.Loc} {dx dy : Int} : ink b dx dy ↔ atV ⟨⟨b, L⟩, dx, dy⟩ = 1 := by
  unfold ink atV
  by_cases h : (⟨⟨b, L⟩, dx, dy⟩ : AtA).inside
  · rw [if_pos h]
    obtain ⟨h1, h2, h3, h4⟩ := h
    simp only at h1 h2 h3 h4
    simp only [h1, h2, h3, h4, true_and]
  · rw [if_neg h]
    constructor
    · rintro ⟨h1, h2, h3, h4, _⟩; exact absurd ⟨h1, h2, h3, h4⟩ h
    · intro q; exact absurd q (by decide)
theorem ink_lt {b : Bm} (hl : (b.xs.length : Int) = b.w * b.h) {dx dy : Int} (h : ink b dx dy) : dy * b.w + dx < b.xs.length := by
  obtain ⟨h1, h2, h3, h4, _⟩ := h
  have := idx_bd h2 h4 h1 h3
  omega
theorem pntF_at {W v u : Nat} (hu : u < W) {b : Bm} (hl : (b.xs.length : Int) = b.w * b.h) (L : Xf.Loc) (x y : Int) (xs : List Int) (c : Int) :
    pntF W b x y xs c b.xs.length (v * W + u) = if atV ⟨⟨b, L⟩, u - x, v - y⟩ = 1 then c else rd xs ((v * W + u : Nat) : Int) := by
  unfold pntF
  rw [(dmI (w := W) (v := v) (u := u) hu).1, (dmI (w := W) (v := v) (u := u) hu).2]
  by_cases h : ink b (u - x) (v - y)
  · have q : ink b (u - x) (v - y) ∧ ((v : Int) - y) * b.w + (u - x) < b.xs.length := ⟨h, ink_lt hl h⟩
    rw [if_pos q, if_pos ((ink_at (L := L)).1 h)]
  · have q : ¬ (ink b (u - x) (v - y) ∧ ((v : Int) - y) * b.w + (u - x) < b.xs.length) := fun q => h q.1
    have q2 : ¬ atV ⟨⟨b, L⟩, u - x, v - y⟩ = 1 := fun q => h (ink_at.2 q)
    rw [if_neg q, if_neg q2]

end Go.Proofs.Ytefggfjblhniaaa
