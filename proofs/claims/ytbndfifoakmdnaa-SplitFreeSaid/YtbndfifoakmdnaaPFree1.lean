import Derived.Test.YtbndfifoakmdnaaPFree0
set_option linter.unusedVariables false
set_option linter.unusedSimpArgs false
set_option maxRecDepth 1000
namespace Go.Proofs.Ytbndfifoakmdnaa
open Xf
theorem best_tr {q p : Pn} {dx dy : Nat} (hs : q.sub p dx dy) (e : En) {r : Rt} (hr : inR q r) : ∀ k, (rpOf p (r.tr dx dy)).en e k = (rpOf q r).en e k := by
  intro k
  obtain ⟨r1, r2, r3, r4, r5, r6⟩ := hr
  refine en_congr (a := rpOf p (r.tr dx dy)) (b := rpOf q r) e rfl rfl (fun k hk => ?_) k
  change k < r.w.toNat * r.h.toNat at hk
  have hw : 0 < r.w.toNat := by omega
  have hm := Nat.mod_lt k hw
  have hd : k / r.w.toNat < r.h.toNat := by rw [Nat.div_lt_iff_lt_mul hw, Nat.mul_comm]; exact hk
  have h1 := hs.2.2 (r.y.toNat + k / r.w.toNat) (r.x.toNat + k % r.w.toNat) (by omega) (by omega)
  have e1 : (r.x + (dx : Int)).toNat = dx + r.x.toNat := by omega
  have e2 : (r.y + (dy : Int)).toNat = dy + r.y.toNat := by omega
  show rd p.xs (((((r.y + (dy : Int)).toNat + k / r.w.toNat) * p.W + (r.x + (dx : Int)).toNat + k % r.w.toNat : Nat)) : Int) = rd q.xs ((((r.y.toNat + k / r.w.toNat) * q.W + r.x.toNat + k % r.w.toNat : Nat)) : Int)
  rw [e1, e2]
  simp only [Nat.add_assoc] at h1 ⊢
  exact h1.symm
theorem least_tr {q p : Pn} {dx dy : Nat} (hs : q.sub p dx dy) (e : En) : ∀ (N : Nat) (r : Rt), inR q r → (least p e N (r.tr dx dy)).2 = (least q e N r).2
  | 0, r, _ => rfl
  | N + 1, r, hr => by
    have hb : best p e (r.tr dx dy) = best q e r := by
      unfold best allE
      rw [best_tr hs e hr 0, best_tr hs e hr 1, best_tr hs e hr 2]
    have hS : sumS e.cut (least p e N) (qs (r.tr dx dy)) = sumS e.cut (least q e N) (qs r) := by
      unfold sumS
      rw [qs_tr, List.map_map]
      congr 2
      refine List.map_congr_left fun x hx => ?_
      exact least_tr hs e N x (qs_in hr x hx).1
    rw [least, least, hb, hS]
    show (if r.w * r.h = 1 then _ else _ : List Pt × Int).2 = _
    split
    · rfl
    · split <;> rfl
theorem lstS_congr {f g : Rt → List Pt × Int} : ∀ {l : List Rt}, (∀ q ∈ l, f q = g q) → lstS f l = lstS g l
  | [], _ => rfl
  | a :: l, h => by
    have h1 := lstS_congr (f := f) (g := g) (l := l) fun q hq => h q (by simp [hq])
    have h2 := h a (by simp)
    unfold lstS at h1 ⊢
    rw [List.flatMap_cons, List.flatMap_cons, h1, h2]
/-- What is left of the fuel is the same. -/
theorem least_fuel {p : Pn} {e : En} : ∀ (N : Nat) (r : Rt), inR p r → r.w * r.h ≤ N → least p e (N + 1) r = least p e N r
  | 0, r, h, hN => by have := area_pos h; unfold area at this; omega
  | N + 1, r, h, hN => by
    by_cases h1 : r.w * r.h = 1
    · rw [least, if_pos h1, least, if_pos h1]
    have hq : ∀ q ∈ qs r, least p e (N + 1) q = least p e N q := fun q hq => by
      obtain ⟨k1, k2⟩ := qs_in h q hq
      have := k2 h1
      unfold area at this
      exact least_fuel N q k1 (by omega)
    have e1 : sumS e.cut (least p e (N + 1)) (qs r) = sumS e.cut (least p e N) (qs r) := by
      unfold sumS
      congr 2
      exact List.map_congr_left fun q h => by rw [hq q h]
    have e2 : lstS (least p e (N + 1)) (qs r) = lstS (least p e N) (qs r) := by
      exact lstS_congr hq
    rw [least, if_neg h1, e1, e2]
    conv => rhs; rw [least, if_neg h1]
/-- A part of the least tree is the least tree of its rectangle. -/
theorem least_leaf {p : Pn} {e : En} : ∀ (N : Nat) (r : Rt), inR p r → r.w * r.h ≤ N → ∀ x ∈ (least p e N r).1, x = onePt p e x.rt ∧ inR p x.rt ∧ (least p e N x.rt).2 = best p e x.rt ∧ x.w * x.h ≤ N
  | 0, r, h, hN => by have := area_pos h; unfold area at this; omega
  | N + 1, r, h, hN => by
    by_cases h1 : r.w * r.h = 1
    · intro x hx
      have hL : least p e (N + 1) r = ([onePt p e r], best p e r) := by rw [least, if_pos h1]
      rw [hL] at hx
      rw [List.mem_singleton] at hx
      subst hx
      exact ⟨rfl, h, show (least p e (N + 1) r).2 = best p e r by rw [hL], hN⟩
    by_cases h2 : sumS e.cut (least p e N) (qs r) < best p e r
    · intro x hx
      rw [least, if_neg h1, if_pos h2] at hx
      unfold lstS at hx
      rw [List.mem_flatMap] at hx
      obtain ⟨a, ha, hx⟩ := hx
      obtain ⟨k1, k2⟩ := qs_in h a ha
      have := k2 h1
      unfold area at this
      obtain ⟨q1, q2, q3, q4⟩ := least_leaf N a k1 (by omega) x hx
      exact ⟨q1, q2, by rw [least_fuel N x.rt q2 q4]; exact q3, by push_cast; omega⟩
    · intro x hx
      have hL : least p e (N + 1) r = ([onePt p e r], best p e r) := by rw [least, if_neg h1, if_neg h2]
      rw [hL] at hx
      rw [List.mem_singleton] at hx
      subst hx
      exact ⟨rfl, h, show (least p e (N + 1) r).2 = best p e r by rw [hL], hN⟩
theorem best_en {p : Pn} {e : En} {r : Rt} : 0 ≤ kindI p e r ∧ kindI p e r ≤ 2 ∧ (rpOf p r).en e (kindI p e r).toNat = best p e r := by
  obtain ⟨h1, h2, h3⟩ := first3 ((rpOf p r).en e 0) ((rpOf p r).en e 1) ((rpOf p r).en e 2)
  change 0 ≤ kindI p e r at h1
  change kindI p e r < 3 at h2
  change rd [(rpOf p r).en e 0, (rpOf p r).en e 1, (rpOf p r).en e 2] (kindI p e r) = best p e r at h3
  refine ⟨h1, by omega, ?_⟩
  rw [← h3]
  have : kindI p e r = 0 ∨ kindI p e r = 1 ∨ kindI p e r = 2 := by omega
  rcases this with q | q | q <;> rw [q] <;> rfl
def b5_3 : IR :=
  .seq (.seq (.reg false [⟨some 66, none, ⟨[], []⟩, .mov (.t 12)⟩,
    ⟨some 67, none, ⟨[], []⟩, .fld (.t 9) 1⟩,
    ⟨some 68, none, ⟨[], []⟩, .ld false none 0 0 (.t 67)⟩,
    ⟨some 69, none, ⟨[], []⟩, .fld (.t 9) 3⟩,
    ⟨some 70, none, ⟨[], []⟩, .ld false none 0 0 (.t 69)⟩,
    ⟨some 71, none, ⟨[], []⟩, .bin 0 .add (.t 68) (.t 70)⟩,
    ⟨some 72, none, ⟨[], []⟩, .bin 0 .lss (.t 66) (.t 71)⟩] [66, 67, 68, 69, 70, 71] []) (.cond (.t 72) (.skip) (.exit 4))) (.seq (.block 5 (.reg true [⟨some 75, none, ⟨[], []⟩, .fld (.t 10) 2⟩,
    ⟨some 76, none, ⟨[26], []⟩, .ld false none 0 0 (.t 75)⟩,
    ⟨some 77, none, ⟨[], []⟩, .fld (.t 2) 2⟩,
    ⟨some 78, none, ⟨[], []⟩, .ld false none 0 0 (.t 77)⟩,
    ⟨some 79, none, ⟨[], []⟩, .mov (.t 11)⟩,
    ⟨some 80, none, ⟨[], []⟩, .fld (.t 2) 0⟩,
    ⟨some 81, none, ⟨[], []⟩, .ld false none 0 0 (.t 80)⟩,
    ⟨some 82, none, ⟨[], []⟩, .bin 0 .mul (.t 79) (.t 81)⟩,
    ⟨some 83, none, ⟨[], []⟩, .mov (.t 12)⟩,
    ⟨some 84, none, ⟨[], []⟩, .bin 0 .add (.t 82) (.t 83)⟩,
    ⟨some 85, none, ⟨[], []⟩, .idxS (.t 78) (.t 84) 1⟩,
    ⟨some 86, none, ⟨[], []⟩, .ld true none 0 0 (.t 85)⟩,
    ⟨some 87, none, ⟨[], []⟩, .bslice 26 [.t 86]⟩,
    ⟨some 88, none, ⟨[], []⟩, .app 27 1 8 (.t 76) (.t 87)⟩,
    ⟨some 89, none, ⟨[], []⟩, .fld (.t 10) 2⟩,
    ⟨none, none, ⟨[], []⟩, .sto false 1 .i64 (.t 89) (.t 88)⟩] [72, 75, 76, 77, 78, 79, 80, 81, 82, 83, 84, 85, 86, 87, 88, 89] [])) (.reg false [⟨some 73, none, ⟨[], []⟩, .mov (.t 12)⟩,
    ⟨some 74, none, ⟨[], []⟩, .bin 0 .add (.t 73) (.k (.int .i64 1))⟩,
    ⟨some 12, none, ⟨[], []⟩, .mov (.t 74)⟩] [73, 74] []))
def r5_4 : IR :=
  .reg false [⟨some 62, none, ⟨[], []⟩, .mov (.t 11)⟩,
    ⟨some 63, none, ⟨[], []⟩, .bin 0 .add (.t 62) (.k (.int .i64 1))⟩,
    ⟨some 11, none, ⟨[], []⟩, .mov (.t 63)⟩] [12, 62, 63] []
def b5_2 : IR :=
  .seq (.seq (.reg false [⟨some 55, none, ⟨[], []⟩, .mov (.t 11)⟩,
    ⟨some 56, none, ⟨[], []⟩, .fld (.t 9) 2⟩,
    ⟨some 57, none, ⟨[], []⟩, .ld false none 0 0 (.t 56)⟩,
    ⟨some 58, none, ⟨[], []⟩, .fld (.t 9) 4⟩,
    ⟨some 59, none, ⟨[], []⟩, .ld false none 0 0 (.t 58)⟩,
    ⟨some 60, none, ⟨[], []⟩, .bin 0 .add (.t 57) (.t 59)⟩,
    ⟨some 61, none, ⟨[], []⟩, .bin 0 .lss (.t 55) (.t 60)⟩] [55, 56, 57, 58, 59, 60] []) (.cond (.t 61) (.skip) (.exit 2))) (.seq (.block 3 (.seq (.reg false [⟨some 64, none, ⟨[], []⟩, .fld (.t 9) 1⟩,
    ⟨some 65, none, ⟨[], []⟩, .ld false none 0 0 (.t 64)⟩,
    ⟨some 12, none, ⟨[], []⟩, .mov (.t 65)⟩] [61, 64, 65] []) (.block 4 (.loop b5_3)))) (r5_4))
def r5_5 : IR :=
  .seq (.reg false [⟨some 91, none, ⟨[], []⟩, .ld false (some 3) 0 0 (.t 2)⟩,
    ⟨some 92, none, ⟨[], []⟩, .ld false (some 4) 0 0 (.t 3)⟩,
    ⟨some 93, none, ⟨[], []⟩, .ld false (some 5) 0 0 (.t 9)⟩,
    ⟨some 94, none, ⟨[], []⟩, .call (some 4) 28 16 [.t 91, .t 92, .t 93]⟩,
    ⟨some 90, none, ⟨[], []⟩, .mov (.t 94)⟩,
    ⟨some 95, none, ⟨[], []⟩, .ext (.t 90) 0⟩,
    ⟨some 96, none, ⟨[], []⟩, .ext (.t 90) 1⟩,
    ⟨some 13, none, ⟨[], []⟩, .mov (.t 95)⟩,
    ⟨some 14, none, ⟨[], []⟩, .mov (.t 96)⟩] [9, 11, 90, 91, 92, 93, 94, 95, 96] []) (.seq (.reg false [⟨some 98, none, ⟨[], []⟩, .ld false (some 3) 0 0 (.t 10)⟩,
    ⟨some 99, none, ⟨[], []⟩, .ld false (some 4) 0 0 (.t 3)⟩,
    ⟨some 100, none, ⟨[], []⟩, .call (some 4) 32 11 [.t 98, .t 99]⟩,
    ⟨some 97, none, ⟨[], []⟩, .mov (.t 100)⟩,
    ⟨some 101, none, ⟨[], []⟩, .ext (.t 97) 0⟩,
    ⟨some 102, none, ⟨[], []⟩, .ext (.t 97) 1⟩,
    ⟨some 103, none, ⟨[], []⟩, .ext (.t 97) 2⟩,
    ⟨some 15, none, ⟨[], []⟩, .mov (.t 101)⟩,
    ⟨some 16, none, ⟨[], []⟩, .mov (.t 102)⟩,
    ⟨some 17, none, ⟨[], []⟩, .mov (.t 103)⟩] [10, 15, 97, 98, 99, 100, 101, 102, 103] []) (.seq (.reg false [⟨some 104, none, ⟨[], []⟩, .mov (.t 14)⟩,
    ⟨some 105, none, ⟨[], []⟩, .bin 0 .neq (.t 104) (.k (.int .i64 0))⟩,
    ⟨some 106, none, ⟨[], []⟩, .mov (.t 105)⟩,
    ⟨some 107, some (106, false), ⟨[], []⟩, .mov (.t 17)⟩,
    ⟨some 108, some (106, false), ⟨[], []⟩, .bin 0 .neq (.t 107) (.k (.int .i64 0))⟩,
    ⟨some 109, none, ⟨[], []⟩, .pick (.t 106) (.k (.bool true)) (.t 108)⟩,
    ⟨some 110, none, ⟨[], []⟩, .mov (.t 109)⟩,
    ⟨some 111, some (110, false), ⟨[], []⟩, .mov (.t 16)⟩,
    ⟨some 112, some (110, false), ⟨[], []⟩, .mov (.t 13)⟩,
    ⟨some 113, some (110, false), ⟨[], []⟩, .bin 0 .neq (.t 111) (.t 112)⟩,
    ⟨some 114, none, ⟨[], []⟩, .pick (.t 110) (.k (.bool true)) (.t 113)⟩] [13, 14, 16, 17, 104, 105, 106, 107, 108, 109, 110, 111, 112, 113] []) (.cond (.t 114) (.seq (.reg false [⟨some 4, none, ⟨[], []⟩, .mov (.k (.bool false))⟩] [2, 3, 5, 8, 114] []) (.ret)) (.skip))))
def r5_6 : IR :=
  .reg false [⟨some 42, none, ⟨[], []⟩, .mov (.t 8)⟩,
    ⟨some 43, none, ⟨[], []⟩, .bin 0 .add (.t 42) (.k (.int .i64 1))⟩,
    ⟨some 8, none, ⟨[], []⟩, .mov (.t 43)⟩] [4, 42, 43, 114] []
def b5_1 : IR :=
  .seq (.seq (.reg false [⟨some 34, none, ⟨[], []⟩, .mov (.t 8)⟩,
    ⟨some 35, none, ⟨[], []⟩, .mov (.t 5)⟩,
    ⟨some 36, none, ⟨[], []⟩, .len (.t 35)⟩,
    ⟨some 37, none, ⟨[], []⟩, .bin 0 .lss (.t 34) (.t 36)⟩,
    ⟨some 38, none, ⟨[], []⟩, .mov (.t 37)⟩,
    ⟨some 39, some (38, true), ⟨[], []⟩, .mov (.t 8)⟩,
    ⟨some 40, some (38, true), ⟨[], []⟩, .bin 0 .lss (.t 39) (.k (.int .i64 40))⟩,
    ⟨some 41, none, ⟨[], []⟩, .pick (.t 38) (.t 40) (.k (.bool false))⟩] [34, 35, 36, 37, 38, 39, 40] []) (.cond (.t 41) (.skip) (.exit 0))) (.seq (.block 1 (.seq (.reg false [⟨some 44, none, ⟨[], []⟩, .mov (.t 5)⟩,
    ⟨some 45, none, ⟨[], []⟩, .mov (.t 8)⟩,
    ⟨some 46, none, ⟨[], []⟩, .idxS (.t 44) (.t 45) 5⟩,
    ⟨some 47, none, ⟨[], []⟩, .ld true (some 5) 0 0 (.t 46)⟩,
    ⟨some 9, none, ⟨[], []⟩, .alloc 24 [.int .i64 0, .int .i64 0, .int .i64 0, .int .i64 0, .int .i64 0]⟩,
    ⟨none, none, ⟨[], []⟩, .sto false 5 .i64 (.t 9) (.t 47)⟩] [41, 44, 45, 46, 47] []) (.seq (.reg false [⟨some 48, none, ⟨[], []⟩, .fld (.t 9) 3⟩,
    ⟨some 49, none, ⟨[], []⟩, .ld false none 0 0 (.t 48)⟩,
    ⟨some 50, none, ⟨[], []⟩, .fld (.t 9) 4⟩,
    ⟨some 51, none, ⟨[], []⟩, .ld false none 0 0 (.t 50)⟩,
    ⟨some 52, none, ⟨[], []⟩, .build [.int .i64 0, .int .i64 0, nilSV] [(0, 1, .t 49), (1, 1, .t 51)]⟩,
    ⟨some 10, none, ⟨[], []⟩, .alloc 25 [.int .i64 0, .int .i64 0, nilSV]⟩,
    ⟨none, none, ⟨[], []⟩, .sto false 3 .i64 (.t 10) (.t 52)⟩] [48, 49, 50, 51, 52] []) (.seq (.seq (.reg false [⟨some 53, none, ⟨[], []⟩, .fld (.t 9) 2⟩,
    ⟨some 54, none, ⟨[], []⟩, .ld false none 0 0 (.t 53)⟩,
    ⟨some 11, none, ⟨[], []⟩, .mov (.t 54)⟩] [53, 54] []) (.block 2 (.loop b5_2))) (r5_5))))) (r5_6))
def r5_7 : IR :=
  .seq (.reg false [⟨some 115, none, ⟨[], []⟩, .call (some 4) 36 10 []⟩,
    ⟨some 4, none, ⟨[], []⟩, .mov (.t 115)⟩] [2, 3, 5, 8, 115] []) (.ret)
def ir5 : IR :=
  .seq (.reg false [⟨some 2, none, ⟨[], []⟩, .box 10 (.t 0)⟩,
    ⟨some 3, none, ⟨[], []⟩, .box 11 (.t 1)⟩,
    ⟨some 4, none, ⟨[], []⟩, .mov (.k (.bool false))⟩] [0, 1, 4] []) (.seq (.seq (.reg false [⟨some 18, none, ⟨[], []⟩, .fld (.t 2) 2⟩,
    ⟨some 19, none, ⟨[], []⟩, .ld false none 0 0 (.t 18)⟩,
    ⟨some 20, none, ⟨[], []⟩, .len (.t 19)⟩,
    ⟨some 21, none, ⟨[], []⟩, .bin 0 .gtr (.t 20) (.k (.int .i64 400))⟩] [18, 19, 20] []) (.cond (.t 21) (.seq (.reg false [⟨some 22, none, ⟨[], []⟩, .call (some 4) 12 10 []⟩,
    ⟨some 4, none, ⟨[], []⟩, .mov (.t 22)⟩] [2, 3, 21, 22] []) (.ret)) (.skip))) (.seq (.reg false [⟨some 23, none, ⟨[], []⟩, .fld (.t 3) 0⟩,
    ⟨none, none, ⟨[], []⟩, .sto false 1 .i64 (.t 23) (.k (.int .i64 0))⟩] [4, 21, 23] []) (.seq (.reg false [⟨some 25, none, ⟨[], []⟩, .ld false (some 3) 0 0 (.t 2)⟩,
    ⟨some 26, none, ⟨[], []⟩, .ld false (some 4) 0 0 (.t 3)⟩,
    ⟨some 27, none, ⟨[], []⟩, .call (some 4) 16 11 [.t 25, .t 26]⟩,
    ⟨some 24, none, ⟨[], []⟩, .mov (.t 27)⟩,
    ⟨some 28, none, ⟨[], []⟩, .ext (.t 24) 0⟩,
    ⟨some 29, none, ⟨[], []⟩, .ext (.t 24) 1⟩,
    ⟨some 30, none, ⟨[], []⟩, .ext (.t 24) 2⟩,
    ⟨some 5, none, ⟨[], []⟩, .mov (.t 28)⟩,
    ⟨some 6, none, ⟨[], []⟩, .mov (.t 29)⟩,
    ⟨some 7, none, ⟨[], []⟩, .mov (.t 30)⟩] [6, 24, 25, 26, 27, 28, 29, 30] []) (.seq (.seq (.reg false [⟨some 31, none, ⟨[], []⟩, .mov (.t 7)⟩,
    ⟨some 32, none, ⟨[], []⟩, .bin 0 .neq (.t 31) (.k (.int .i64 0))⟩] [7, 31] []) (.cond (.t 32) (.seq (.reg false [⟨some 33, none, ⟨[], []⟩, .call (some 4) 20 10 []⟩,
    ⟨some 4, none, ⟨[], []⟩, .mov (.t 33)⟩] [2, 3, 5, 32, 33] []) (.ret)) (.skip))) (.seq (.seq (.reg false [⟨some 8, none, ⟨[], []⟩, .mov (.k (.int .i64 0))⟩] [4, 32] []) (.block 0 (.loop b5_1))) (r5_7))))))
def kp5_3 : List Nat := [2, 3, 5, 8, 9, 10, 11, 12]
def kl5_3 : List Nat := [26, 27]
attribute [push_cast] kp5_3 kl5_3
def kp5_2 : List Nat := [2, 3, 5, 8, 9, 10, 11]
def kl5_2 : List Nat := [26, 27]
attribute [push_cast] kp5_2 kl5_2
def kp5_1 : List Nat := [2, 3, 5, 8]
def kl5_1 : List Nat := [24, 25, 26, 27, 28, 29, 30, 31, 32, 33, 34, 35]
attribute [push_cast] kp5_1 kl5_1
set_option maxRecDepth 4000 in
theorem comp5 : (Try.f5.body.bind fun c => compC tab isP chkAll ir5 c) = some ir5 := by kernel_rfl
/-- The plane of a part. -/
def subL (W x y w h : Nat) (xs : List Int) : List Int := tabl (h * w) (cutF W x y w xs)
theorem sp_free {W H : Nat} {xs : List Int} {e : En} (hG : (⟨W, H, xs⟩ : Pl).Gr) (hE : e.Ok) {kd : Int} {x y w h : Nat} (hq : (⟨kd, x, y, w, h⟩ : Pt) ∈ (spS ⟨W, H, xs⟩ e).1) :
    paE ⟨W, H, xs⟩ e ⟨kd, x, y, w, h⟩ = 0 ∧ spE ⟨w, h, subL W x y w h xs⟩ e = 0 ∧ (spS ⟨w, h, subL W x y w h xs⟩ e).2 = paN ⟨W, H, xs⟩ e ⟨kd, x, y, w, h⟩ := by
  obtain ⟨hn, hn8, hW, hH, hll, hcov, hinp⟩ := sp_cov hG hE
  obtain ⟨i1, i2, i3, i4, i5, i6⟩ := hinp _ hq
  simp only at i1 i2 i3 i4 i5 i6
  have h0 : 0 < xs.length := by
    rcases Nat.eq_zero_or_pos xs.length with q | q
    · have : spS ⟨W, H, xs⟩ e = ([], 0) := by unfold spS; rw [if_neg fun (H' : spOk _ _) => by have := H'.2.2; simp only at this; omega]
      rw [this] at hq; cases hq
    · exact q
  have hS : spOk ⟨W, H, xs⟩ e := ⟨hG, hE, h0⟩
  obtain ⟨g1, g2, g3, g4, g5⟩ := hG.pn h0
  have hsp : spS ⟨W, H, xs⟩ e = least (⟨W, H, xs⟩ : Pl).pn e fuelN (⟨W, H, xs⟩ : Pl).rt := by unfold spS; rw [if_pos hS]
  rw [hsp] at hq
  obtain ⟨q1, q2, q3, q4⟩ := least_leaf fuelN _ g2 g3 _ hq
  obtain ⟨b1, b2, b3⟩ := best_en (p := (⟨W, H, xs⟩ : Pl).pn) (e := e) (r := (⟨kd, x, y, w, h⟩ : Pt).rt)
  have hk : kd = kindI (⟨W, H, xs⟩ : Pl).pn e (⟨kd, x, y, w, h⟩ : Pt).rt := congrArg Pt.kind q1
  rw [← hk] at b1 b2 b3
  have hIn : (⟨kd, x, y, w, h⟩ : Pt).In W H := ⟨b1, b2, i1, i2, i3, i4, by simp only; omega, by simp only; omega, by simp only; omega, by simp only; omega⟩
  have hpN : paN ⟨W, H, xs⟩ e ⟨kd, x, y, w, h⟩ = best (⟨W, H, xs⟩ : Pl).pn e (⟨kd, x, y, w, h⟩ : Pt).rt := by unfold paN; rw [if_pos ⟨hG, hE, hIn⟩]; exact b3
  have hlen : (subL W x y w h xs).length = h * w := tabl_length _ _
  have hwp : 0 < w := by omega
  have hhp : 0 < h := by omega
  have hat : ∀ i j, i < h → j < w → rd (subL W x y w h xs) ((i * w + j : Nat) : Int) = rd xs (((y + i) * W + (x + j) : Nat) : Int) ∧ (y + i) * W + (x + j) < xs.length := fun i j hi hj => by
    have hij : i * w + j < h * w := by
      have := Nat.mul_le_mul_right w (show i + 1 ≤ h from hi)
      rw [Nat.add_mul] at this; omega
    have hlt : (y + i + 1) * W ≤ H * W := Nat.mul_le_mul_right W (by omega)
    rw [Nat.add_mul (y + i) 1] at hlt
    refine ⟨?_, by omega⟩
    unfold subL
    rw [rd_tabl hij, cutF_at hj]
    congr 1
  have hsub : (⟨w, h, subL W x y w h xs⟩ : Pn).sub (⟨W, H, xs⟩ : Pl).pn x y := ⟨by show x + w ≤ (W : Int).toNat; omega, by show y + h ≤ (H : Int).toNat; omega, fun i j hi hj => (hat i j hi hj).1⟩
  have hgr : AllIn 0 255 (subL W x y w h xs) := allIn_rd.2 fun k hk => by
    rw [hlen] at hk
    have hm := Nat.mod_lt k hwp
    have hd : k / w < h := by rw [Nat.div_lt_iff_lt_mul hwp]; exact hk
    have e1 : k / w * w + k % w = k := by rw [Nat.mul_comm]; exact Nat.div_add_mod k w
    obtain ⟨a1, a2⟩ := hat (k / w) (k % w) hd hm
    rw [e1] at a1
    rw [a1]
    exact allIn_rd.1 hG.2.2 _ a2
  have hle : (w : Int) * h ≤ 8192 := by
    have : (w : Int) * h ≤ W * H := Int.mul_le_mul (by omega) (by omega) (by omega) (by omega)
    have h5 : (W : Int) * H ≤ 8192 := by
      have hl : (xs.length : Int) = W * H := hG.2.1
      omega
    omega
  have hGs : (⟨w, h, subL W x y w h xs⟩ : Pl).Gr := ⟨⟨by simp only; omega, by simp only; omega, by simp only; omega, by simp only; omega, hle⟩, by simp only; rw [hlen, Int.natCast_mul, Int.mul_comm], hgr⟩
  have h0s : 0 < (subL W x y w h xs).length := by rw [hlen]; exact Nat.mul_pos hhp hwp
  have hSs : spOk ⟨w, h, subL W x y w h xs⟩ e := ⟨hGs, hE, h0s⟩
  have hsps : spS ⟨w, h, subL W x y w h xs⟩ e = least ⟨w, h, subL W x y w h xs⟩ e fuelN ⟨0, 0, w, h⟩ := by unfold spS; rw [if_pos hSs]; rfl
  have htr := least_tr hsub e fuelN ⟨0, 0, w, h⟩ ⟨Int.le_refl _, Int.le_refl _, by simp only; omega, by simp only; omega, by simp only; omega, by simp only; omega⟩
  have ert : (⟨0, 0, w, h⟩ : Rt).tr x y = (⟨kd, x, y, w, h⟩ : Pt).rt := by simp [Rt.tr, Pt.rt]
  rw [ert] at htr
  refine ⟨by unfold paE; rw [if_pos hG, if_pos ⟨hE, hIn⟩], by unfold spE; rw [if_pos hGs, if_pos hE], ?_⟩
  rw [hsps, ← htr, q3, hpN]
set_option maxRecDepth 4000 in
set_option maxHeartbeats 2000000 in
theorem tri5 (p : Pl) (hp : p.xs.length ≤ 140737488355328) (e : En) (L : Xf.Loc) : Tri Try.prog 5 [plV p L 0, .agg [.int .i64 e.cut, .int .i64 e.paper, .int .i64 e.text, .int .i64 e.pic]]
    [some (.ro, L, .ints .i64 p.xs)] (fun v _ => v = .bool true) := by
  obtain ⟨c0, q, t, i⟩ := e
  simp only
  have hno : ¬ (p.Gr ∧ (⟨0, q, t, i⟩ : En).Ok) → spS p ⟨0, q, t, i⟩ = ([], 0) ∧ ¬ spE p ⟨0, q, t, i⟩ = 0 := fun h => by
    refine ⟨by unfold spS; rw [if_neg fun H => h ⟨H.1, H.2.1⟩], ?_⟩
    unfold spE
    split
    · rename_i hG; rw [if_neg fun hE => h ⟨hG, hE⟩]; decide
    · decide
  by_cases hok : p.Gr ∧ (⟨0, q, t, i⟩ : En).Ok
  case neg =>
    obtain ⟨h1, h2⟩ := hno hok
    obtain ⟨w, h, xs⟩ := p
    change xs.length ≤ 140737488355328 at hp
    change Tri Try.prog 5 [plV ⟨w, h, xs⟩ L 0, .agg [.int .i64 c0, .int .i64 q, .int .i64 t, .int .i64 i]] [some (.ro, L, .ints .i64 xs)] _
    refine tri_evS (hyp (l := [(10, ent10), (11, ent11), (16, ent16)]) (lp := []) ⟨e10, e11, e16, trivial⟩ trivial) Try.func5 comp5 (rs := [.tmp 4]) (by rfl) Try.ntmps5 40 ?_
    simp -implicitDefEqProofs only [push_cast, false_implies, reduceCtorEq, Classical.not_not, Nat.reduceAdd, Nat.reduceSub, Nat.reduceMul, Nat.reduceLeDiff, Nat.reduceLT, Nat.reduceEqDiff, Nat.reduceBEq, Nat.reduceBNe, Int.reduceNeg, Int.reduceToNat, Bool.or_false, Bool.false_or, Bool.or_true, Bool.true_or, BEq.rfl, Bool.not_eq_true, Bool.not_eq_false, decide_eq_true_eq, not_true_eq_false, not_false_eq_true, ite_true, ite_false, List.append_nil, and_assoc, Nat.mul_zero, Nat.zero_mul, ir5, fs10, fs11, hp, h1, h2, plV, enV, esz, List.length_nil, List.map_nil]
  obtain ⟨hG, hE⟩ := hok
  have hsE : spE p ⟨0, q, t, i⟩ = 0 := by unfold spE; rw [if_pos hG, if_pos hE]
  obtain ⟨w, h, xs⟩ := p
  obtain ⟨W, rfl⟩ : ∃ n : Nat, w = (n : Int) := ⟨w.toNat, by have : SidesOk w h := hG.1; have := this.1; omega⟩
  obtain ⟨H, rfl⟩ : ∃ n : Nat, h = (n : Int) := ⟨h.toNat, by have : SidesOk W h := hG.1; have := this.2.1; omega⟩
  obtain ⟨hn, hn8, hW, hH, hll, hcov, hinp⟩ := sp_cov hG hE
  have hfree := fun {kd : Int} {x y w h : Nat} (hq : (⟨kd, x, y, w, h⟩ : Pt) ∈ (spS ⟨W, H, xs⟩ ⟨0, q, t, i⟩).1) => sp_free hG hE hq
  obtain ⟨l, hl⟩ : ∃ l, (spS ⟨W, H, xs⟩ ⟨0, q, t, i⟩).1 = l := ⟨_, rfl⟩
  rw [hl] at hll hcov hinp hfree
  change xs.length ≤ 140737488355328 at hp
  change Tri Try.prog 5 [plV ⟨W, H, xs⟩ L 0, .agg [.int .i64 c0, .int .i64 q, .int .i64 t, .int .i64 i]] [some (.ro, L, .ints .i64 xs)] _
  refine tri_evS (hyp (l := [(10, ent10), (11, ent11), (16, ent16)]) (lp := []) ⟨e10, e11, e16, trivial⟩ trivial) Try.func5 comp5 (rs := [.tmp 4]) (by rfl) Try.ntmps5 40 ?_
  simp -implicitDefEqProofs only [push_cast, false_implies, reduceCtorEq, Classical.not_not, Nat.reduceAdd, Nat.reduceSub, Nat.reduceMul, Nat.reduceLeDiff, Nat.reduceLT, Nat.reduceEqDiff, Nat.reduceBEq, Nat.reduceBNe, Int.reduceNeg, Int.reduceToNat, Bool.or_false, Bool.false_or, Bool.or_true, Bool.true_or, BEq.rfl, Bool.not_eq_true, Bool.not_eq_false, decide_eq_true_eq, not_true_eq_false, not_false_eq_true, ite_true, ite_false, List.append_nil, and_assoc, Nat.mul_zero, Nat.zero_mul, ir5, fs10, fs11, hp, hsE, hl, plV, enV]
  intro X hL X1
  repeat (refine And.intro (by first | omega | trivial | (intros; omega)) ?_)
  obtain ⟨LP, hLP⟩ : ∃ LP, lx (spOk ⟨W, H, xs⟩ ⟨0, q, t, i⟩) (fun j => X1 2 (16 + j)) 0 = LP := ⟨_, rfl⟩
  simp only [hLP]
  have hlm : (l.map Pt.rc).length = l.length := List.length_map _
  refine evS_loopU (A := Nat) kp5_1 kl5_1 (fun i => [(8, .int .i64 i)]) (fun _ => []) (fun i => i ≤ l.length ∧ i ≤ 40) (fun i => l.length - i) 0 ⟨Nat.zero_le _, Nat.zero_le _⟩ (Sub.pt ?_) ?_
  · simp -implicitDefEqProofs only [push_cast, false_implies, reduceCtorEq, Classical.not_not, Nat.reduceAdd, Nat.reduceSub, Nat.reduceMul, Nat.reduceLeDiff, Nat.reduceLT, Nat.reduceEqDiff, Nat.reduceBEq, Nat.reduceBNe, Int.reduceNeg, Int.reduceToNat, Bool.or_false, Bool.false_or, Bool.or_true, Bool.true_or, BEq.rfl, Bool.not_eq_true, Bool.not_eq_false, decide_eq_true_eq, not_true_eq_false, not_false_eq_true, ite_true, ite_false, List.append_nil, and_assoc, Nat.mul_zero, Nat.zero_mul]
  intro k ⟨hk, hk40⟩ K hK
  by_cases hk' : k < l.length ∧ k < 40
  · have he5 := esz_pos (s := 5) (n := l.length) (by omega)
    have r1 := recAt_Pt hk'.1 []
    have hmem := rdPt_mem hk'.1
    have hb := hinp _ hmem
    obtain ⟨pt, hpt⟩ : ∃ pt, rdPt l k = pt := ⟨_, rfl⟩
    rw [hpt] at r1 hb hmem
    obtain ⟨kd, x, y, w, h⟩ := pt
    obtain ⟨b1, b2, b3, b4, b5, b6⟩ := hb
    simp only at b1 b2 b3 b4 b5 b6
    obtain ⟨x, rfl⟩ : ∃ n : Nat, x = (n : Int) := ⟨x.toNat, by omega⟩
    obtain ⟨y, rfl⟩ : ∃ n : Nat, y = (n : Int) := ⟨y.toNat, by omega⟩
    obtain ⟨w, rfl⟩ : ∃ n : Nat, w = (n : Int) := ⟨w.toNat, by omega⟩
    obtain ⟨h, rfl⟩ : ∃ n : Nat, h = (n : Int) := ⟨h.toNat, by omega⟩
    obtain ⟨f1, f2, f3⟩ := hfree hmem
    have hk1 := hk'.1
    have hk2 := hk'.2
    simp -implicitDefEqProofs only [push_cast, false_implies, reduceCtorEq, Classical.not_not, Nat.reduceAdd, Nat.reduceSub, Nat.reduceMul, Nat.reduceLeDiff, Nat.reduceLT, Nat.reduceEqDiff, Nat.reduceBEq, Nat.reduceBNe, Int.reduceNeg, Int.reduceToNat, Bool.or_false, Bool.false_or, Bool.or_true, Bool.true_or, BEq.rfl, Bool.not_eq_true, Bool.not_eq_false, decide_eq_true_eq, not_true_eq_false, not_false_eq_true, ite_true, ite_false, List.append_nil, and_assoc, Nat.mul_zero, Nat.zero_mul, b5_1, r1, Pt.rc, he5, hlm]
    refine ⟨fun _ X2 => ?_, fun h => by omega⟩
    repeat (refine And.intro (by first | omega | trivial | (intros; omega)) ?_)
    intro X3
    have hhw : (h : Int) * w ≤ 40000 := (mul_bd (a := (h : Int)) (b := (w : Int)) (A := 200) (B := 200) (by omega) (by omega) (by omega) (by omega)).2
    obtain ⟨F, hF⟩ : ∃ F, cutF W x y w xs = F := ⟨_, rfl⟩
    have hFat : ∀ {v u : Nat}, u < w → rd xs (((y + v) * W + (x + u) : Nat) : Int) = F (v * w + u) := fun {v u} hu => by rw [← hF, cutF_at hu]; congr 1
    refine evS_loopU (A := Nat × Xf.Loc) kp5_2 kl5_2 (fun v => [(11, .int .i64 ((y + v.1 : Nat) : Int))])
      (fun v => [(25, .mine, X3 5 25, .cells [.int .i64 w, .int .i64 h, .sl 27 v.2 (esz 1 (v.1 * w)) 0 ((v.1 * w : Nat) : Int)]), (27, .mine, v.2, .ints .i64 (tabl (v.1 * w) F))])
      (fun v => v.1 ≤ h) (fun v => h - v.1) (0, nilLoc) (Nat.zero_le _) (Sub.pt ?_) ?_
    · simp -implicitDefEqProofs only [push_cast, false_implies, reduceCtorEq, Classical.not_not, Nat.reduceAdd, Nat.reduceSub, Nat.reduceMul, Nat.reduceLeDiff, Nat.reduceLT, Nat.reduceEqDiff, Nat.reduceBEq, Nat.reduceBNe, Int.reduceNeg, Int.reduceToNat, Bool.or_false, Bool.false_or, Bool.or_true, Bool.true_or, BEq.rfl, Bool.not_eq_true, Bool.not_eq_false, decide_eq_true_eq, not_true_eq_false, not_false_eq_true, ite_true, ite_false, List.append_nil, and_assoc, Nat.mul_zero, Nat.zero_mul, esz, Nat.zero_mul, tabl_zero]
    intro ⟨v, M⟩ (hv : v ≤ h) K2 hK2
    by_cases hv' : v < h
    · simp -implicitDefEqProofs only [push_cast, false_implies, reduceCtorEq, Classical.not_not, Nat.reduceAdd, Nat.reduceSub, Nat.reduceMul, Nat.reduceLeDiff, Nat.reduceLT, Nat.reduceEqDiff, Nat.reduceBEq, Nat.reduceBNe, Int.reduceNeg, Int.reduceToNat, Bool.or_false, Bool.false_or, Bool.or_true, Bool.true_or, BEq.rfl, Bool.not_eq_true, Bool.not_eq_false, decide_eq_true_eq, not_true_eq_false, not_false_eq_true, ite_true, ite_false, List.append_nil, and_assoc, Nat.mul_zero, Nat.zero_mul, b5_2, r5_4]
      repeat (refine And.intro (by first | omega | trivial | (intros; omega)) ?_)
      refine ⟨fun _ => ?_, fun h => by omega⟩
      refine evS_loopU (A := Nat × Xf.Loc) kp5_3 kl5_3 (fun u => [(12, .int .i64 ((x + u.1 : Nat) : Int))])
        (fun u => [(25, .mine, X3 5 25, .cells [.int .i64 w, .int .i64 h, .sl 27 u.2 (esz 1 (v * w + u.1)) 0 ((v * w + u.1 : Nat) : Int)]), (27, .mine, u.2, .ints .i64 (tabl (v * w + u.1) F))])
        (fun u => u.1 ≤ w) (fun u => w - u.1) (0, M) (Nat.zero_le _) (Sub.pt ?_) ?_
      · simp -implicitDefEqProofs only [push_cast, false_implies, reduceCtorEq, Classical.not_not, Nat.reduceAdd, Nat.reduceSub, Nat.reduceMul, Nat.reduceLeDiff, Nat.reduceLT, Nat.reduceEqDiff, Nat.reduceBEq, Nat.reduceBNe, Int.reduceNeg, Int.reduceToNat, Bool.or_false, Bool.false_or, Bool.or_true, Bool.true_or, BEq.rfl, Bool.not_eq_true, Bool.not_eq_false, decide_eq_true_eq, not_true_eq_false, not_false_eq_true, ite_true, ite_false, List.append_nil, and_assoc, Nat.mul_zero, Nat.zero_mul, Nat.add_zero]
      intro ⟨u, N⟩ (hu : u ≤ w) K3 hK3
      have hvw : (v + 1) * w ≤ h * w := Nat.mul_le_mul_right _ hv'
      rw [Nat.add_mul] at hvw
      have hhwN : h * w ≤ 40000 := by have := Int.natCast_mul h w; omega
      by_cases hu' : u < w
      · have hlt : (y + v + 1) * W ≤ H * W := Nat.mul_le_mul_right W (by omega)
        rw [Nat.add_mul (y + v) 1] at hlt
        have hix : (y + v) * W + (x + u) < xs.length := by omega
        have hm := mul_bd (a := ((y + v : Nat) : Int)) (b := (W : Int)) (A := 200) (B := 200) (by omega) (by omega) (by omega) (by omega)
        have eidx : ((y : Int) + v) * W + (x + u) = (((y + v) * W + (x + u) : Nat) : Int) := by simp
        have hr := hFat (v := v) (u := u) hu'
        have hsn := tabl_snoc (v * w + u) F
        have hlen := tabl_length (v * w + u) F
        push_cast at hm
        obtain ⟨ix, hixx⟩ : ∃ ix, (y + v) * W + (x + u) = ix := ⟨_, rfl⟩
        rw [hixx] at hix eidx hr
        obtain ⟨kk, hkk⟩ : ∃ kk, v * w + u = kk := ⟨_, rfl⟩
        have hkk1 : v * w + (u + 1) = kk + 1 := by omega
        rw [hkk] at hr hsn hlen
        have hk4 : kk + 1 ≤ 40000 := by omega
        simp only [hkk]
        simp -implicitDefEqProofs only [push_cast, false_implies, reduceCtorEq, Classical.not_not, Nat.reduceAdd, Nat.reduceSub, Nat.reduceMul, Nat.reduceLeDiff, Nat.reduceLT, Nat.reduceEqDiff, Nat.reduceBEq, Nat.reduceBNe, Int.reduceNeg, Int.reduceToNat, Bool.or_false, Bool.false_or, Bool.or_true, Bool.true_or, BEq.rfl, Bool.not_eq_true, Bool.not_eq_false, decide_eq_true_eq, not_true_eq_false, not_false_eq_true, ite_true, ite_false, List.append_nil, and_assoc, Nat.mul_zero, Nat.zero_mul, b5_3, eidx, hr, hlen]
        refine And.intro (by omega) (And.intro (by omega) ?_)
        refine ⟨fun _ X4 => ?_, fun h => by omega⟩
        repeat (refine And.intro (by first | omega | trivial | (intros; omega)) ?_)
        refine hK3 (u + 1, X4 13 27) (show u + 1 ≤ w from hu') (show w - (u + 1) < w - u by omega) _ _ (Sub.pt ?_)
        simp only [hkk1]
        simp -implicitDefEqProofs only [push_cast, false_implies, reduceCtorEq, Classical.not_not, Nat.reduceAdd, Nat.reduceSub, Nat.reduceMul, Nat.reduceLeDiff, Nat.reduceLT, Nat.reduceEqDiff, Nat.reduceBEq, Nat.reduceBNe, Int.reduceNeg, Int.reduceToNat, Bool.or_false, Bool.false_or, Bool.or_true, Bool.true_or, BEq.rfl, Bool.not_eq_true, Bool.not_eq_false, decide_eq_true_eq, not_true_eq_false, not_false_eq_true, ite_true, ite_false, List.append_nil, and_assoc, Nat.mul_zero, Nat.zero_mul, hsn, esz, Int.add_assoc]
      · obtain rfl : u = w := by omega
        clear hK3
        simp -implicitDefEqProofs only [push_cast, false_implies, reduceCtorEq, Classical.not_not, Nat.reduceAdd, Nat.reduceSub, Nat.reduceMul, Nat.reduceLeDiff, Nat.reduceLT, Nat.reduceEqDiff, Nat.reduceBEq, Nat.reduceBNe, Int.reduceNeg, Int.reduceToNat, Bool.or_false, Bool.false_or, Bool.or_true, Bool.true_or, BEq.rfl, Bool.not_eq_true, Bool.not_eq_false, decide_eq_true_eq, not_true_eq_false, not_false_eq_true, ite_true, ite_false, List.append_nil, and_assoc, Nat.mul_zero, Nat.zero_mul, b5_3, Int.lt_irrefl, true_implies, true_and]
        repeat (refine And.intro (by first | omega | trivial | (intros; omega)) ?_)
        refine hK2 (v + 1, N) (show v + 1 ≤ h from hv') (show h - (v + 1) < h - v by omega) _ _ (Sub.pt ?_)
        simp -implicitDefEqProofs only [push_cast, false_implies, reduceCtorEq, Classical.not_not, Nat.reduceAdd, Nat.reduceSub, Nat.reduceMul, Nat.reduceLeDiff, Nat.reduceLT, Nat.reduceEqDiff, Nat.reduceBEq, Nat.reduceBNe, Int.reduceNeg, Int.reduceToNat, Bool.or_false, Bool.false_or, Bool.or_true, Bool.true_or, BEq.rfl, Bool.not_eq_true, Bool.not_eq_false, decide_eq_true_eq, not_true_eq_false, not_false_eq_true, ite_true, ite_false, List.append_nil, and_assoc, Nat.mul_zero, Nat.zero_mul, Nat.add_mul, Nat.one_mul, Int.add_assoc]
    · obtain rfl : v = h := by omega
      clear hK2
      have eh : esz 1 (v * w) = 1 := esz_pos (Nat.mul_pos (by omega) (by omega))
      have eL : tabl (v * w) F = subL W x y w v xs := by unfold subL; rw [hF]
      have eN : (subL W x y w v xs).length = v * w := tabl_length _ _
      simp -implicitDefEqProofs only [push_cast, false_implies, reduceCtorEq, Classical.not_not, Nat.reduceAdd, Nat.reduceSub, Nat.reduceMul, Nat.reduceLeDiff, Nat.reduceLT, Nat.reduceEqDiff, Nat.reduceBEq, Nat.reduceBNe, Int.reduceNeg, Int.reduceToNat, Bool.or_false, Bool.false_or, Bool.or_true, Bool.true_or, BEq.rfl, Bool.not_eq_true, Bool.not_eq_false, decide_eq_true_eq, not_true_eq_false, not_false_eq_true, ite_true, ite_false, List.append_nil, and_assoc, Nat.mul_zero, Nat.zero_mul, b5_2, r5_4, r5_5, r5_6, fs16, fs11, plV, enV, ptV, hp, eh, eL, eN, f1, f2, f3, Int.lt_irrefl, true_implies, true_and]
      have hN : v * w ≤ 40000 := by have := Int.natCast_mul v w; omega
      repeat (refine And.intro (by first | omega | trivial | (intros; omega)) ?_)
      intro X5
      repeat (refine And.intro (by first | omega | trivial | (intros; omega)) ?_)
      refine hK (k + 1) ⟨show k + 1 ≤ l.length from hk1, show k + 1 ≤ 40 from hk2⟩ (show l.length - (k + 1) < l.length - k by omega) _ _ (Sub.pt ?_)
      simp -implicitDefEqProofs only [push_cast, false_implies, reduceCtorEq, Classical.not_not, Nat.reduceAdd, Nat.reduceSub, Nat.reduceMul, Nat.reduceLeDiff, Nat.reduceLT, Nat.reduceEqDiff, Nat.reduceBEq, Nat.reduceBNe, Int.reduceNeg, Int.reduceToNat, Bool.or_false, Bool.false_or, Bool.or_true, Bool.true_or, BEq.rfl, Bool.not_eq_true, Bool.not_eq_false, decide_eq_true_eq, not_true_eq_false, not_false_eq_true, ite_true, ite_false, List.append_nil, and_assoc, Nat.mul_zero, Nat.zero_mul, he5]
  · by_cases hk1 : k < l.length
    · have h4 : ¬ ((k : Int) < 40) := by omega
      clear hK
      simp -implicitDefEqProofs only [push_cast, false_implies, reduceCtorEq, Classical.not_not, Nat.reduceAdd, Nat.reduceSub, Nat.reduceMul, Nat.reduceLeDiff, Nat.reduceLT, Nat.reduceEqDiff, Nat.reduceBEq, Nat.reduceBNe, Int.reduceNeg, Int.reduceToNat, Bool.or_false, Bool.false_or, Bool.or_true, Bool.true_or, BEq.rfl, Bool.not_eq_true, Bool.not_eq_false, decide_eq_true_eq, not_true_eq_false, not_false_eq_true, ite_true, ite_false, List.append_nil, and_assoc, Nat.mul_zero, Nat.zero_mul, b5_1, r5_7, fs10, hlm, h4]
    · obtain rfl : k = l.length := by omega
      clear hK
      simp -implicitDefEqProofs only [push_cast, false_implies, reduceCtorEq, Classical.not_not, Nat.reduceAdd, Nat.reduceSub, Nat.reduceMul, Nat.reduceLeDiff, Nat.reduceLT, Nat.reduceEqDiff, Nat.reduceBEq, Nat.reduceBNe, Int.reduceNeg, Int.reduceToNat, Bool.or_false, Bool.false_or, Bool.or_true, Bool.true_or, BEq.rfl, Bool.not_eq_true, Bool.not_eq_false, decide_eq_true_eq, not_true_eq_false, not_false_eq_true, ite_true, ite_false, List.append_nil, and_assoc, Nat.mul_zero, Nat.zero_mul, b5_1, r5_7, fs10, hlm, Int.lt_irrefl, true_implies, true_and]
end Go.Proofs.Ytbndfifoakmdnaa
