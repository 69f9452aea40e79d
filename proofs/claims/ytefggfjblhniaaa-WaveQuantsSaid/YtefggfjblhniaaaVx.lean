import Derived.Test.YtefggfjblhniaaaVw
set_option linter.unusedVariables false
set_option linter.unusedSimpArgs false
/-! Paint. -/
namespace Go.Proofs.Ytefggfjblhniaaa
open Xf

theorem tabl_set {n i : Nat} (hi : i < n) (f : Nat → Int) (c : Int) : (tabl n f).set i c = tabl n (fun j => if j = i then c else f j) := by
  apply List.ext_getElem (by simp [tabl])
  intro j h1 h2
  simp only [tabl, List.getElem_set, List.getElem_map, List.getElem_range]
  by_cases e : j = i
  · subst e; simp
  · simp [e, Ne.symm e]
theorem tabl_rd (xs : List Int) : tabl xs.length (fun j => rd xs (j : Nat)) = xs :=
  eq_of_rd (tabl_length _ _) fun j hj => by rw [tabl_length] at hj; rw [rd_tabl hj]

def nearP (n : Int) : Prop := -100000 ≤ n ∧ n ≤ 100000
instance (n : Int) : Decidable (nearP n) := by unfold nearP; infer_instance
def nearF : EntryP
  | [.int .i64 n] => some (True, .bool (decide (nearP n)))
  | _ => none
attribute [push_cast] nearF
structure PaintA where
  a : ImA
  b : BmA
  x : Int
  y : Int
  r : Int
  g : Int
  bl : Int
def PaintA.fit (P : PaintA) : Prop := P.b.b.Ok ∧ nearP P.x ∧ nearP P.y ∧ ValOk P.r ∧ ValOk P.g ∧ ValOk P.bl
instance (P : PaintA) : Decidable P.fit := by unfold PaintA.fit; infer_instance
def PaintA.Ok (P : PaintA) : Prop := P.a.i.Ok ∧ P.fit
instance (P : PaintA) : Decidable P.Ok := by unfold PaintA.Ok; infer_instance
def ink (b : Bm) (dx dy : Int) : Prop := 0 ≤ dx ∧ 0 ≤ dy ∧ dx < b.w ∧ dy < b.h ∧ rd b.xs (dy * b.w + dx) = 1
instance (b : Bm) (dx dy : Int) : Decidable (ink b dx dy) := by unfold ink; infer_instance
def pntF (W : Int) (b : Bm) (x y : Int) (xs : List Int) (c : Int) (k : Nat) (j : Nat) : Int :=
  if ink b ((j : Int) % W - x) ((j : Int) / W - y) ∧ ((j : Int) / W - y) * b.w + ((j : Int) % W - x) < k then c else rd xs (j : Nat)
def pntL (P : PaintA) (xs : List Int) (c : Int) : List Int := tabl P.a.i.R.length (pntF P.a.i.w P.b.b P.x P.y xs c P.b.b.xs.length)
def paintI (P : PaintA) : Im := if P.Ok then ⟨P.a.i.w, P.a.i.h, pntL P P.a.i.R P.r, pntL P P.a.i.G P.g, pntL P P.a.i.B P.bl⟩ else im0
theorem ink_k {b : Bm} (hb : SidesOk b.w b.h) (hl : (b.xs.length : Int) = b.w * b.h) {k : Nat} (hk : k < b.xs.length) {dx dy : Int} :
    (ink b dx dy ∧ dy * b.w + dx = k) ↔ (dx = (k : Int) % b.w ∧ dy = (k : Int) / b.w ∧ rd b.xs k = 1) := by
  obtain ⟨b1, b2, b3, b4, b5⟩ := dm_bd (k := k) (w := b.w) (h := b.h) (by omega) (by omega) hb.1
  constructor
  · rintro ⟨⟨h1, h2, h3, h4, h5⟩, h6⟩
    have e1 : (k : Int) / b.w = dy := by
      rw [← h6, Int.add_comm, Int.add_mul_ediv_right _ _ (by omega), Int.ediv_eq_zero_of_lt h1 h3, Int.zero_add]
    have e2 : (k : Int) % b.w = dx := by
      rw [← h6, Int.add_comm, Int.add_mul_emod_self_right, Int.emod_eq_of_lt h1 h3]
    rw [h6] at h5
    exact ⟨e2.symm, e1.symm, h5⟩
  · rintro ⟨rfl, rfl, h3⟩
    have e : (k : Int) / b.w * b.w + (k : Int) % b.w = k := Int.ediv_mul_add_emod _ _
    exact ⟨⟨b4, b2, b5, b3, by rw [e]; exact h3⟩, e⟩
theorem pntF_zero (W : Int) (b : Bm) (x y : Int) (xs : List Int) (c : Int) : tabl xs.length (pntF W b x y xs c 0) = xs := by
  refine Eq.trans (tabl_congr fun j hj => ?_) (tabl_rd xs)
  unfold pntF
  rw [if_neg]
  rintro ⟨⟨h1, h2, h3, h4, _⟩, h6⟩
  have := Int.mul_nonneg h2 (show 0 ≤ b.w by omega)
  omega
section
variable {W H x y : Int} {b : Bm} (hw : 0 ≤ W) (hb : SidesOk b.w b.h) (hl : (b.xs.length : Int) = b.w * b.h) {k : Nat} (hk : k < b.xs.length) {n : Nat} (hn : (n : Int) = W * H)
include hw hb hl hk hn
theorem pnt_hit (h1 : rd b.xs k = 1) (hp : 0 ≤ x + (k : Int) % b.w) (hq : 0 ≤ y + (k : Int) / b.w) (hpw : x + (k : Int) % b.w < W) (hqh : y + (k : Int) / b.w < H) (xs : List Int) (c : Int) :
    (tabl n (pntF W b x y xs c k)).set ((y + (k : Int) / b.w) * W + (x + (k : Int) % b.w)).toNat c = tabl n (pntF W b x y xs c (k + 1)) := by
  have hi := idx_bd hq hqh hp hpw
  rw [tabl_set (by omega)]
  refine tabl_congr fun j hj => ?_
  obtain ⟨b1, b2, b3, b4, b5⟩ := dm_bd (k := j) (w := W) (h := H) (by omega) (by omega) hw
  have hkk := ink_k hb hl hk (dx := (j : Int) % W - x) (dy := (j : Int) / W - y)
  unfold pntF
  by_cases e : j = ((y + (k : Int) / b.w) * W + (x + (k : Int) % b.w)).toNat
  · rw [if_pos e, if_pos]
    have ej : (j : Int) = (y + (k : Int) / b.w) * W + (x + (k : Int) % b.w) := by omega
    have e1 : (j : Int) / W = y + (k : Int) / b.w := by
      rw [ej, Int.add_comm, Int.add_mul_ediv_right _ _ (by omega), Int.ediv_eq_zero_of_lt hp hpw, Int.zero_add]
    have e2 : (j : Int) % W = x + (k : Int) % b.w := by
      rw [ej, Int.add_comm, Int.add_mul_emod_self_right, Int.emod_eq_of_lt hp hpw]
    have := hkk.2 ⟨by omega, by omega, h1⟩
    exact ⟨this.1, by omega⟩
  · rw [if_neg e]
    have key : ¬ (ink b ((j : Int) % W - x) ((j : Int) / W - y) ∧ ((j : Int) / W - y) * b.w + ((j : Int) % W - x) = k) := fun q => by
      obtain ⟨q1, q2, _⟩ := hkk.1 q
      apply e
      have e4 : (j : Int) / W * W + (j : Int) % W = j := Int.ediv_mul_add_emod _ _
      have e5 : (j : Int) / W = y + (k : Int) / b.w := by omega
      rw [e5] at e4
      omega
    by_cases hin : ink b ((j : Int) % W - x) ((j : Int) / W - y)
    · have : ((j : Int) / W - y) * b.w + ((j : Int) % W - x) ≠ k := fun q => key ⟨hin, q⟩
      simp only [hin, true_and]
      congr 1
      simp only [eq_iff_iff]; omega
    · simp only [hin, false_and]
theorem pnt_miss (h1 : ¬ (rd b.xs k = 1 ∧ 0 ≤ x + (k : Int) % b.w ∧ 0 ≤ y + (k : Int) / b.w ∧ x + (k : Int) % b.w < W ∧ y + (k : Int) / b.w < H)) (xs : List Int) (c : Int) :
    tabl n (pntF W b x y xs c k) = tabl n (pntF W b x y xs c (k + 1)) := by
  refine tabl_congr fun j hj => ?_
  obtain ⟨b1, b2, b3, b4, b5⟩ := dm_bd (k := j) (w := W) (h := H) (by omega) (by omega) hw
  have hkk := ink_k hb hl hk (dx := (j : Int) % W - x) (dy := (j : Int) / W - y)
  unfold pntF
  by_cases hin : ink b ((j : Int) % W - x) ((j : Int) / W - y)
  · have : ((j : Int) / W - y) * b.w + ((j : Int) % W - x) ≠ k := fun q => by
      obtain ⟨q1, q2, q3⟩ := hkk.1 ⟨hin, q⟩
      exact h1 ⟨q3, by omega, by omega, by omega, by omega⟩
    simp only [hin, true_and]
    congr 1
    simp only [eq_iff_iff]; omega
  · simp only [hin, false_and]
end
end Go.Proofs.Ytefggfjblhniaaa
