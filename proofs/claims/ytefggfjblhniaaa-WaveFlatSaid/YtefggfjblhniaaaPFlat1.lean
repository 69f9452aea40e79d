import Derived.Test.YtefggfjblhniaaaPFlat0
set_option linter.unusedVariables false
set_option linter.unusedSimpArgs false
set_option maxRecDepth 1000
namespace Go.Proofs.Ytefggfjblhniaaa
open Xf
theorem fwd_flat {kind : Int} {W H : Nat} (hW : 0 < W) {xs : List Int} {v : Int} (hl : xs.length = H * W) (hv : ∀ k : Nat, k < xs.length → rd xs (k : Int) = v) : ∀ (i k : Nat), k < H * W → rd (fwd lineL kind W H xs i) (k : Int) = flatAt W H v i k
  | 0, k, hk => by
    rw [fwd, hv k (by omega)]
    unfold flatAt
    have h1 : k % W < W := Nat.mod_lt _ hW
    have h2 : k / W < H := Nat.div_lt_of_lt_mul (by rw [Nat.mul_comm]; exact hk)
    rw [if_pos ⟨h2, h1⟩]
  | i + 1, k, hk => by
    have ih := fwd_flat (kind := kind) hW hl hv i
    have b1 := hlf_le W i
    have b2 := hlf_le H i
    have b3 : hlf W (i + 1) = hlf W i - hlf W i / 2 := by simp only [hlf]; omega
    have b4 : hlf H (i + 1) = hlf H i - hlf H i / 2 := by simp only [hlf]; omega
    have fl := fwd_length lineL kind W H xs i
    have hh : hlf H i * W ≤ (fwd lineL kind W H xs i).length := by rw [fl, hl]; exact Nat.mul_le_mul_right _ b2
    have hkm : k % W < W := Nat.mod_lt _ hW
    -- rows
    have rows1 : ∀ q : Nat, q < H * W → rd (rwL lineL kind W (hlf W i) (fwd lineL kind W H xs i) (hlf H i)) (q : Int) = if q / W < hlf H i ∧ q % W < hlf W (i + 1) then v else 0 := fun q hq => by
      rw [rwL_at trn_line b1 _ _ hh]
      by_cases c : q / W < hlf H i ∧ q % W < hlf W i
      · rw [if_pos c]
        have hrow : ∀ j : Nat, j < hlf W i → rowF (fwd lineL kind W H xs i) ((q / W * W : Nat) : Int) 1 (hlf W i) j = v := fun j hj => by
          have e : ((q / W * W : Nat) : Int) + (j : Int) * 1 = ((q / W * W + j : Nat) : Int) := by simp
          obtain ⟨d1, d2⟩ := dmN (W := W) (a := q / W) (b := j) (by omega)
          have hlt : q / W * W + j < H * W := by
            have : (q / W + 1) * W ≤ H * W := Nat.mul_le_mul_right _ (by omega)
            rw [Nat.add_mul] at this; omega
          rw [rowF_at hj, e, ih _ hlt]
          unfold flatAt
          rw [d1, d2, if_pos ⟨c.1, hj⟩]
        rw [line_flat hrow c.2, b3]
        by_cases d : q % W < hlf W i - hlf W i / 2
        · rw [if_pos d, if_pos ⟨c.1, d⟩]
        · rw [if_neg d, if_neg (fun z => d z.2)]
      · rw [if_neg c, ih q hq]
        unfold flatAt
        rw [if_neg c, if_neg]
        rintro ⟨z1, z2⟩
        exact c ⟨z1, by omega⟩
    rw [fwd, stF, clL_at trn_line _ (by rw [rwL_length]; exact hh) _ b1]
    unfold flatAt
    by_cases c : k % W < hlf W i ∧ k / W < hlf H i
    · rw [if_pos c]
      have hcol : ∀ j : Nat, j < hlf H i → rowF (rwL lineL kind W (hlf W i) (fwd lineL kind W H xs i) (hlf H i)) ((k % W : Nat) : Int) W (hlf H i) j = if k % W < hlf W (i + 1) then v else 0 := fun j hj => by
        have e : ((k % W : Nat) : Int) + (j : Int) * W = ((j * W + k % W : Nat) : Int) := by simp; omega
        obtain ⟨d1, d2⟩ := dmN (a := j) hkm
        have hlt : j * W + k % W < H * W := by
          have : (j + 1) * W ≤ H * W := Nat.mul_le_mul_right _ (by omega)
          rw [Nat.add_mul] at this; omega
        rw [rowF_at hj, e, rows1 _ hlt, d1, d2]
        by_cases z : k % W < hlf W (i + 1)
        · rw [if_pos ⟨hj, z⟩, if_pos z]
        · rw [if_neg (fun y => z y.2), if_neg z]
      rw [line_flat hcol c.2, ← b4]
      by_cases d : k / W < hlf H (i + 1)
      · rw [if_pos d]
        by_cases z : k % W < hlf W (i + 1)
        · rw [if_pos z, if_pos ⟨d, z⟩]
        · rw [if_neg z, if_neg (fun y => z y.2)]
      · rw [if_neg d, if_neg (fun y => d y.1)]
    · rw [if_neg c, rows1 k hk]
      have : ¬ (k / W < hlf H i ∧ k % W < hlf W (i + 1)) := fun y => c ⟨by omega, y.1⟩
      rw [if_neg this, if_neg]
      rintro ⟨z1, z2⟩
      exact c ⟨by omega, by omega⟩
theorem hlf_anti (w : Nat) : ∀ {i j : Nat}, i ≤ j → hlf w j ≤ hlf w i := by
  intro i j h
  obtain ⟨d, rfl⟩ := Nat.exists_eq_add_of_le h
  induction d with
  | zero => exact Nat.le_refl _
  | succ d ih => exact Nat.le_trans (hlf_mono w (i + d)) (ih (by omega))
/-- The low part has the kind 0; the other bands lie outside of it. -/
theorem bd_kind {w h n : Nat} {b : Bd} (hb : b ∈ keptBd (bdD w h n n)) : (b.kd = 0 ∧ b.x = 0 ∧ b.y = 0 ∧ b.w = hlf w n ∧ b.h = hlf h n) ∨ (¬ b.kd = 0 ∧ ((hlf w n : Int) ≤ b.x ∨ (hlf h n : Int) ≤ b.y)) := by
  have hm : b ∈ bdD w h n n := by unfold keptBd at hb; exact (List.mem_filter.1 hb).1
  have key : ∀ k, k ≤ n → ∀ x ∈ bdD w h n k, (x.kd = 0 ∧ x.x = 0 ∧ x.y = 0 ∧ x.w = hlf w n ∧ x.h = hlf h n) ∨ (¬ x.kd = 0 ∧ ((hlf w n : Int) ≤ x.x ∨ (hlf h n : Int) ≤ x.y)) := by
    intro k
    induction k with
    | zero => intro _ x hx; simp only [bdD, List.mem_singleton] at hx; subst hx; exact .inl ⟨rfl, rfl, rfl, rfl, rfl⟩
    | succ k ih =>
      intro hk x hx
      rw [bdD, List.mem_append] at hx
      rcases hx with hx | hx
      · exact ih (by omega) x hx
      · have a1 := hlf_anti w (i := n - k) (j := n) (by omega)
        have a2 := hlf_anti h (i := n - k) (j := n) (by omega)
        simp only [bd3, List.mem_cons, List.not_mem_nil, or_false] at hx
        right
        rcases hx with rfl | rfl | rfl <;> simp only <;> omega
  exact key n (Nat.le_refl n) b hm
def b8_1 : IR :=
  .seq (.reg false [⟨some 68, none, ⟨[], []⟩, .bin 0 .lss (.t 67) (.t 66)⟩] [] []) (.seq (.cond (.t 68) (.skip) (.exit 0)) (.seq (.block 1 (.seq (.reg false [⟨some 69, none, ⟨[], []⟩, .mov (.t 67)⟩,
    ⟨some 12, none, ⟨[], []⟩, .mov (.t 69)⟩] [68, 69] []) (.reg false [⟨some 70, none, ⟨[], []⟩, .fld (.t 11) 2⟩,
    ⟨some 71, none, ⟨[], []⟩, .ld false none 0 0 (.t 70)⟩,
    ⟨some 72, none, ⟨[], []⟩, .mov (.t 12)⟩,
    ⟨some 73, none, ⟨[], []⟩, .mov (.t 2)⟩,
    ⟨some 74, none, ⟨[], []⟩, .idxS (.t 71) (.t 72) 1⟩,
    ⟨none, none, ⟨[], []⟩, .sto true 1 .i64 (.t 74) (.t 73)⟩] [12, 70, 71, 72, 73, 74] []))) (.reg false [⟨some 75, none, ⟨[], []⟩, .bin 0 .add (.t 67) (.k (.int .i64 1))⟩,
    ⟨some 67, none, ⟨[], []⟩, .mov (.t 75)⟩] [75] [])))
def b8_4 : IR :=
  .seq (.seq (.reg false [⟨some 124, none, ⟨[], []⟩, .mov (.t 21)⟩,
    ⟨some 125, none, ⟨[], []⟩, .fld (.t 18) 2⟩,
    ⟨some 126, none, ⟨[], []⟩, .ld false none 0 0 (.t 125)⟩,
    ⟨some 127, none, ⟨[], []⟩, .fld (.t 18) 4⟩,
    ⟨some 128, none, ⟨[], []⟩, .ld false none 0 0 (.t 127)⟩,
    ⟨some 129, none, ⟨[], []⟩, .bin 0 .add (.t 126) (.t 128)⟩,
    ⟨some 130, none, ⟨[], []⟩, .bin 0 .lss (.t 124) (.t 129)⟩] [124, 125, 126, 127, 128, 129] []) (.cond (.t 130) (.skip) (.exit 6))) (.seq (.block 7 (.seq (.reg false [⟨some 133, none, ⟨[], []⟩, .fld (.t 13) 2⟩,
    ⟨some 134, none, ⟨[], []⟩, .ld false none 0 0 (.t 133)⟩,
    ⟨some 135, none, ⟨[], []⟩, .mov (.t 20)⟩,
    ⟨some 136, none, ⟨[], []⟩, .mov (.t 0)⟩,
    ⟨some 137, none, ⟨[], []⟩, .bin 0 .mul (.t 135) (.t 136)⟩,
    ⟨some 138, none, ⟨[], []⟩, .mov (.t 21)⟩,
    ⟨some 139, none, ⟨[], []⟩, .bin 0 .add (.t 137) (.t 138)⟩,
    ⟨some 140, none, ⟨[], []⟩, .idxS (.t 134) (.t 139) 1⟩,
    ⟨some 141, none, ⟨[], []⟩, .ld true none 0 0 (.t 140)⟩,
    ⟨some 142, none, ⟨[], []⟩, .mov (.t 19)⟩,
    ⟨some 143, none, ⟨[], []⟩, .bin 0 .neq (.t 141) (.t 142)⟩] [130, 133, 134, 135, 136, 137, 138, 139, 140, 141, 142] []) (.cond (.t 143) (.seq (.reg false [⟨some 10, none, ⟨[], []⟩, .mov (.k (.bool false))⟩] [0, 2, 13, 18, 19, 20, 21, 101, 102, 103, 143] []) (.ret)) (.skip)))) (.reg false [⟨some 131, none, ⟨[], []⟩, .mov (.t 21)⟩,
    ⟨some 132, none, ⟨[], []⟩, .bin 0 .add (.t 131) (.k (.int .i64 1))⟩,
    ⟨some 21, none, ⟨[], []⟩, .mov (.t 132)⟩] [10, 131, 132, 143] []))
def r8_5 : IR :=
  .reg false [⟨some 120, none, ⟨[], []⟩, .mov (.t 20)⟩,
    ⟨some 121, none, ⟨[], []⟩, .bin 0 .add (.t 120) (.k (.int .i64 1))⟩,
    ⟨some 20, none, ⟨[], []⟩, .mov (.t 121)⟩] [21, 120, 121] []
def b8_3 : IR :=
  .seq (.seq (.reg false [⟨some 113, none, ⟨[], []⟩, .mov (.t 20)⟩,
    ⟨some 114, none, ⟨[], []⟩, .fld (.t 18) 3⟩,
    ⟨some 115, none, ⟨[], []⟩, .ld false none 0 0 (.t 114)⟩,
    ⟨some 116, none, ⟨[], []⟩, .fld (.t 18) 5⟩,
    ⟨some 117, none, ⟨[], []⟩, .ld false none 0 0 (.t 116)⟩,
    ⟨some 118, none, ⟨[], []⟩, .bin 0 .add (.t 115) (.t 117)⟩,
    ⟨some 119, none, ⟨[], []⟩, .bin 0 .lss (.t 113) (.t 118)⟩] [113, 114, 115, 116, 117, 118] []) (.cond (.t 119) (.skip) (.exit 4))) (.seq (.block 5 (.seq (.reg false [⟨some 122, none, ⟨[], []⟩, .fld (.t 18) 2⟩,
    ⟨some 123, none, ⟨[], []⟩, .ld false none 0 0 (.t 122)⟩,
    ⟨some 21, none, ⟨[], []⟩, .mov (.t 123)⟩] [119, 122, 123] []) (.block 6 (.loop b8_4)))) (r8_5))
def r8_6 : IR :=
  .reg false [⟨some 144, none, ⟨[], []⟩, .bin 0 .add (.t 103) (.k (.int .i64 1))⟩,
    ⟨some 103, none, ⟨[], []⟩, .mov (.t 144)⟩] [18, 19, 20, 144] []
def b8_2 : IR :=
  .seq (.reg false [⟨some 104, none, ⟨[], []⟩, .bin 0 .lss (.t 103) (.t 102)⟩] [] []) (.seq (.cond (.t 104) (.skip) (.exit 2)) (.seq (.block 3 (.seq (.reg false [⟨some 105, none, ⟨[], []⟩, .idxS (.t 101) (.t 103) 6⟩,
    ⟨some 106, none, ⟨[], []⟩, .ld true (some 6) 0 0 (.t 105)⟩,
    ⟨some 18, none, ⟨[], []⟩, .alloc 25 [.int .i64 0, .int .i64 0, .int .i64 0, .int .i64 0, .int .i64 0, .int .i64 0]⟩,
    ⟨none, none, ⟨[], []⟩, .sto false 6 .i64 (.t 18) (.t 106)⟩] [104, 105, 106] []) (.seq (.reg false [⟨some 19, none, ⟨[], []⟩, .mov (.k (.int .i64 0))⟩] [] []) (.seq (.seq (.reg false [⟨some 107, none, ⟨[], []⟩, .fld (.t 18) 1⟩,
    ⟨some 108, none, ⟨[], []⟩, .ld false none 0 0 (.t 107)⟩,
    ⟨some 109, none, ⟨[], []⟩, .bin 0 .eql (.t 108) (.k (.int .i64 0))⟩] [107, 108] []) (.cond (.t 109) (.reg false [⟨some 110, none, ⟨[], []⟩, .mov (.t 2)⟩,
    ⟨some 19, none, ⟨[], []⟩, .mov (.t 110)⟩] [109, 110] []) (.skip))) (.seq (.reg false [⟨some 111, none, ⟨[], []⟩, .fld (.t 18) 3⟩,
    ⟨some 112, none, ⟨[], []⟩, .ld false none 0 0 (.t 111)⟩,
    ⟨some 20, none, ⟨[], []⟩, .mov (.t 112)⟩] [109, 111, 112] []) (.block 4 (.loop b8_3))))))) (r8_6)))
def r8_7 : IR :=
  .seq (.reg false [⟨some 145, none, ⟨[], []⟩, .call (some 4) 26 13 []⟩,
    ⟨some 10, none, ⟨[], []⟩, .mov (.t 145)⟩] [0, 2, 13, 101, 102, 103, 145] []) (.ret)
def r8_8 : IR :=
  .seq (.reg false [⟨some 77, none, ⟨[], []⟩, .ld false (some 3) 0 0 (.t 11)⟩,
    ⟨some 78, none, ⟨[], []⟩, .mov (.t 3)⟩,
    ⟨some 79, none, ⟨[], []⟩, .mov (.t 4)⟩,
    ⟨some 80, none, ⟨[], []⟩, .call (some 4) 16 28 [.t 77, .t 78, .t 79]⟩,
    ⟨some 76, none, ⟨[], []⟩, .mov (.t 80)⟩,
    ⟨some 81, none, ⟨[], []⟩, .ext (.t 76) 0⟩,
    ⟨some 82, none, ⟨[], []⟩, .ext (.t 76) 1⟩,
    ⟨some 13, none, ⟨[], []⟩, .alloc 20 [.int .i64 0, .int .i64 0, nilSV]⟩,
    ⟨none, none, ⟨[], []⟩, .sto false 3 .i64 (.t 13) (.t 81)⟩,
    ⟨some 14, none, ⟨[], []⟩, .mov (.t 82)⟩] [3, 66, 67, 76, 77, 78, 79, 80, 81, 82] []) (.seq (.seq (.reg false [⟨some 83, none, ⟨[], []⟩, .mov (.t 14)⟩,
    ⟨some 84, none, ⟨[], []⟩, .bin 0 .neq (.t 83) (.k (.int .i64 0))⟩,
    ⟨some 85, none, ⟨[], []⟩, .mov (.t 84)⟩,
    ⟨some 86, some (85, false), ⟨[], []⟩, .fld (.t 13) 2⟩,
    ⟨some 87, some (85, false), ⟨[], []⟩, .ld false none 0 0 (.t 86)⟩,
    ⟨some 88, some (85, false), ⟨[], []⟩, .len (.t 87)⟩,
    ⟨some 89, some (85, false), ⟨[], []⟩, .fld (.t 11) 2⟩,
    ⟨some 90, some (85, false), ⟨[], []⟩, .ld false none 0 0 (.t 89)⟩,
    ⟨some 91, some (85, false), ⟨[], []⟩, .len (.t 90)⟩,
    ⟨some 92, some (85, false), ⟨[], []⟩, .bin 0 .neq (.t 88) (.t 91)⟩,
    ⟨some 93, none, ⟨[], []⟩, .pick (.t 85) (.k (.bool true)) (.t 92)⟩] [11, 14, 83, 84, 85, 86, 87, 88, 89, 90, 91, 92] []) (.cond (.t 93) (.seq (.reg false [⟨some 10, none, ⟨[], []⟩, .mov (.k (.bool false))⟩] [0, 1, 2, 4, 13, 93] []) (.ret)) (.skip))) (.seq (.reg false [⟨some 95, none, ⟨[], []⟩, .mov (.t 0)⟩,
    ⟨some 96, none, ⟨[], []⟩, .mov (.t 1)⟩,
    ⟨some 97, none, ⟨[], []⟩, .mov (.t 4)⟩,
    ⟨some 98, none, ⟨[], []⟩, .call (some 4) 21 27 [.t 95, .t 96, .t 97]⟩,
    ⟨some 94, none, ⟨[], []⟩, .mov (.t 98)⟩,
    ⟨some 99, none, ⟨[], []⟩, .ext (.t 94) 0⟩,
    ⟨some 100, none, ⟨[], []⟩, .ext (.t 94) 1⟩,
    ⟨some 15, none, ⟨[], []⟩, .mov (.t 99)⟩,
    ⟨some 16, none, ⟨[], []⟩, .mov (.t 100)⟩] [1, 4, 10, 16, 93, 94, 95, 96, 97, 98, 99, 100] []) (.seq (.seq (.reg false [⟨some 101, none, ⟨[], []⟩, .mov (.t 15)⟩,
    ⟨some 102, none, ⟨[], []⟩, .len (.t 101)⟩,
    ⟨some 103, none, ⟨[], []⟩, .mov (.k (.int .i64 0))⟩] [15] []) (.block 2 (.loop b8_2))) (r8_7))))
def ir8 : IR :=
  .seq (.reg false [⟨some 10, none, ⟨[], []⟩, .mov (.k (.bool false))⟩] [10] []) (.seq (.seq (.reg false [⟨some 22, none, ⟨[], []⟩, .mov (.t 0)⟩,
    ⟨some 23, none, ⟨[], []⟩, .bin 0 .lss (.t 22) (.k (.int .i64 0))⟩,
    ⟨some 24, none, ⟨[], []⟩, .mov (.t 23)⟩,
    ⟨some 25, some (24, false), ⟨[], []⟩, .mov (.t 0)⟩,
    ⟨some 26, some (24, false), ⟨[], []⟩, .bin 0 .gtr (.t 25) (.k (.int .i64 200))⟩,
    ⟨some 27, none, ⟨[], []⟩, .pick (.t 24) (.k (.bool true)) (.t 26)⟩,
    ⟨some 28, none, ⟨[], []⟩, .mov (.t 27)⟩,
    ⟨some 29, some (28, false), ⟨[], []⟩, .mov (.t 1)⟩,
    ⟨some 30, some (28, false), ⟨[], []⟩, .bin 0 .lss (.t 29) (.k (.int .i64 0))⟩,
    ⟨some 31, none, ⟨[], []⟩, .pick (.t 28) (.k (.bool true)) (.t 30)⟩,
    ⟨some 32, none, ⟨[], []⟩, .mov (.t 31)⟩,
    ⟨some 33, some (32, false), ⟨[], []⟩, .mov (.t 1)⟩,
    ⟨some 34, some (32, false), ⟨[], []⟩, .bin 0 .gtr (.t 33) (.k (.int .i64 200))⟩,
    ⟨some 35, none, ⟨[], []⟩, .pick (.t 32) (.k (.bool true)) (.t 34)⟩,
    ⟨some 36, none, ⟨[], []⟩, .mov (.t 35)⟩,
    ⟨some 37, some (36, false), ⟨[], []⟩, .mov (.t 0)⟩,
    ⟨some 38, some (36, false), ⟨[], []⟩, .mov (.t 1)⟩,
    ⟨some 39, some (36, false), ⟨[], []⟩, .bin 0 .mul (.t 37) (.t 38)⟩,
    ⟨some 40, some (36, false), ⟨[], []⟩, .bin 0 .gtr (.t 39) (.k (.int .i64 8192))⟩,
    ⟨some 41, none, ⟨[], []⟩, .pick (.t 36) (.k (.bool true)) (.t 40)⟩,
    ⟨some 42, none, ⟨[], []⟩, .mov (.t 41)⟩,
    ⟨some 43, some (42, false), ⟨[], []⟩, .mov (.t 2)⟩,
    ⟨some 44, some (42, false), ⟨[], []⟩, .bin 0 .lss (.t 43) (.k (.int .i64 (-1024)))⟩,
    ⟨some 45, none, ⟨[], []⟩, .pick (.t 42) (.k (.bool true)) (.t 44)⟩,
    ⟨some 46, none, ⟨[], []⟩, .mov (.t 45)⟩,
    ⟨some 47, some (46, false), ⟨[], []⟩, .mov (.t 2)⟩,
    ⟨some 48, some (46, false), ⟨[], []⟩, .bin 0 .gtr (.t 47) (.k (.int .i64 1024))⟩,
    ⟨some 49, none, ⟨[], []⟩, .pick (.t 46) (.k (.bool true)) (.t 48)⟩,
    ⟨some 50, none, ⟨[], []⟩, .mov (.t 49)⟩,
    ⟨some 51, some (50, false), ⟨[], []⟩, .mov (.t 3)⟩,
    ⟨some 52, some (50, false), ⟨[], []⟩, .mov (.t 4)⟩,
    ⟨some 53, some (50, false), ⟨[], []⟩, .callp 30 [.t 51, .t 52]⟩,
    ⟨some 54, some (50, false), ⟨[], []⟩, .not (.t 53)⟩,
    ⟨some 55, none, ⟨[], []⟩, .pick (.t 50) (.k (.bool true)) (.t 54)⟩] [22, 23, 24, 25, 26, 27, 28, 29, 30, 31, 32, 33, 34, 35, 36, 37, 38, 39, 40, 41, 42, 43, 44, 45, 46, 47, 48, 49, 50, 51, 52, 53, 54] []) (.cond (.t 55) (.seq (.reg false [⟨some 56, none, ⟨[], []⟩, .call (some 4) 10 13 []⟩,
    ⟨some 10, none, ⟨[], []⟩, .mov (.t 56)⟩] [0, 1, 2, 3, 4, 55, 56] []) (.ret)) (.skip))) (.seq (.reg false [⟨some 57, none, ⟨[], []⟩, .mov (.t 0)⟩,
    ⟨some 58, none, ⟨[], []⟩, .mov (.t 1)⟩,
    ⟨some 59, none, ⟨[], []⟩, .mov (.t 0)⟩,
    ⟨some 60, none, ⟨[], []⟩, .mov (.t 1)⟩,
    ⟨some 61, none, ⟨[], []⟩, .bin 0 .mul (.t 59) (.t 60)⟩,
    ⟨some 62, none, ⟨[], []⟩, .mks 14 (.int .i64 0) 8 (.t 61) (.t 61)⟩,
    ⟨some 63, none, ⟨[], []⟩, .build [.int .i64 0, .int .i64 0, nilSV] [(0, 1, .t 57), (1, 1, .t 58), (2, 1, .t 62)]⟩,
    ⟨some 11, none, ⟨[], []⟩, .alloc 15 [.int .i64 0, .int .i64 0, nilSV]⟩,
    ⟨none, none, ⟨[], []⟩, .sto false 3 .i64 (.t 11) (.t 63)⟩] [10, 55, 57, 58, 59, 60, 61, 62, 63] []) (.seq (.seq (.reg false [⟨some 64, none, ⟨[], []⟩, .fld (.t 11) 2⟩,
    ⟨some 65, none, ⟨[], []⟩, .ld false none 0 0 (.t 64)⟩,
    ⟨some 66, none, ⟨[], []⟩, .len (.t 65)⟩,
    ⟨some 67, none, ⟨[], []⟩, .mov (.k (.int .i64 0))⟩] [64, 65] []) (.block 0 (.loop b8_1))) (r8_8))))
def kp8_1 : List Nat := [0, 1, 2, 3, 4, 11, 66, 67]
def kl8_1 : List Nat := []
attribute [push_cast] kp8_1 kl8_1
def kp8_4 : List Nat := [0, 2, 13, 18, 19, 20, 21, 101, 102, 103]
def kl8_4 : List Nat := []
attribute [push_cast] kp8_4 kl8_4
def kp8_3 : List Nat := [0, 2, 13, 18, 19, 20, 101, 102, 103]
def kl8_3 : List Nat := []
attribute [push_cast] kp8_3 kl8_3
def kp8_2 : List Nat := [0, 2, 13, 101, 102, 103]
def kl8_2 : List Nat := [25]
attribute [push_cast] kp8_2 kl8_2
set_option maxRecDepth 4000 in
theorem comp8 : (Try.f8.body.bind fun c => compC tab isP chkAll ir8 c) = some ir8 := by kernel_rfl
def flOk (w h v kind n : Int) : Prop := SidesOk w h ∧ -1024 ≤ v ∧ v ≤ 1024 ∧ stOk kind n
instance (w h v kind n : Int) : Decidable (flOk w h v kind n) := by unfold flOk; infer_instance
set_option maxRecDepth 2000 in
set_option maxHeartbeats 1000000 in
theorem tri8 (w h v kind n : Int) : Tri Try.prog 8 [.int .i64 w, .int .i64 h, .int .i64 v, .int .i64 kind, .int .i64 n] [] (fun v _ => v = .bool true) := by
  by_cases hf : flOk w h v kind n
  · obtain ⟨hs, hv1, hv2, hS⟩ := id hf
    obtain ⟨a1, a2, a3, a4, a5⟩ := id hs
    obtain ⟨hk, hn0, hn6⟩ := id hS
    obtain ⟨W, rfl⟩ : ∃ m : Nat, w = (m : Int) := ⟨w.toNat, by omega⟩
    obtain ⟨H, rfl⟩ : ∃ m : Nat, h = (m : Int) := ⟨h.toNat, by omega⟩
    obtain ⟨n, rfl⟩ : ∃ m : Nat, n = (m : Int) := ⟨n.toNat, by omega⟩
    have hm := hs.bd
    have em : ((W : Int) * H).toNat = H * W := by rw [← Int.natCast_mul, Int.toNat_natCast, Nat.mul_comm]
    have em2 : ((H * W : Nat) : Int) = (W : Int) * H := by rw [Nat.mul_comm]; simp
    have hb : bnOk W H n := ⟨by omega, by omega, by omega, by omega, by omega, by omega⟩
    have c1 : ¬ ((W : Int) < 0) := by omega
    have c2 : ¬ (200 < (W : Int)) := by omega
    have c3 : ¬ ((H : Int) < 0) := by omega
    have c4 : ¬ (200 < (H : Int)) := by omega
    have c5 : ¬ (8192 < (W : Int) * H) := by omega
    have c6 : ¬ (v < -1024) := by omega
    have c7 : ¬ (1024 < v) := by omega
    refine tri_evS (hyp (l := [(13, ent13), (28, ent28), (27, ent27)]) (lp := [(30, styF)]) ⟨e13, e28, e27, trivial⟩ ⟨p30, trivial⟩) Try.func8 comp8 (rs := [.tmp 10]) (by rfl) Try.ntmps8 30 ?_
    simp -implicitDefEqProofs only [push_cast, false_implies, reduceCtorEq, Classical.not_not, Nat.reduceAdd, Nat.reduceSub, Nat.reduceMul, Nat.reduceLeDiff, Nat.reduceLT, Nat.reduceEqDiff, Nat.reduceBEq, Nat.reduceBNe, Int.reduceNeg, Int.reduceToNat, Bool.or_false, Bool.false_or, Bool.or_true, Bool.true_or, BEq.rfl, Bool.not_eq_true, Bool.not_eq_false, decide_eq_true_eq, not_true_eq_false, not_false_eq_true, ite_true, ite_false, List.append_nil, and_assoc, Nat.mul_zero, Nat.zero_mul, ir8, fs13, c1, c2, c3, c4, c5, c6, c7, hS, true_implies, true_and, not_true_eq_false, not_false_eq_true, and_true, em, or_self]
    repeat (refine And.intro (by first | omega | trivial | (intros; omega)) ?_)
    intro X0
    repeat (refine And.intro (by first | omega | trivial | (intros; omega)) ?_)
    refine evS_loopU (A := Nat) kp8_1 kl8_1 (fun i => [(67, .int .i64 i)]) (fun i => [(14, .mine, X0 5 14, .ints .i64 (fillTo (H * W) i v 0))]) (fun i => i ≤ H * W) (fun i => H * W - i) 0 (Nat.zero_le _) (Sub.pt ?_) ?_
    · simp -implicitDefEqProofs only [push_cast, false_implies, reduceCtorEq, Classical.not_not, Nat.reduceAdd, Nat.reduceSub, Nat.reduceMul, Nat.reduceLeDiff, Nat.reduceLT, Nat.reduceEqDiff, Nat.reduceBEq, Nat.reduceBNe, Int.reduceNeg, Int.reduceToNat, Bool.or_false, Bool.false_or, Bool.or_true, Bool.true_or, BEq.rfl, Bool.not_eq_true, Bool.not_eq_false, decide_eq_true_eq, not_true_eq_false, not_false_eq_true, ite_true, ite_false, List.append_nil, and_assoc, Nat.mul_zero, Nat.zero_mul, fillTo_zero]
    intro i (hi : i ≤ H * W) K hK
    by_cases hi' : i < H * W
    · have hlt : (i : Int) < (W : Int) * H := by rw [← em2]; omega
      have q1 := fillTo_set hi' v 0
      have q2 := fillTo_length hi v 0
      have q3 : (i : Int) < (H : Int) * W := by rw [Int.mul_comm]; exact hlt
      simp -implicitDefEqProofs only [push_cast, false_implies, reduceCtorEq, Classical.not_not, Nat.reduceAdd, Nat.reduceSub, Nat.reduceMul, Nat.reduceLeDiff, Nat.reduceLT, Nat.reduceEqDiff, Nat.reduceBEq, Nat.reduceBNe, Int.reduceNeg, Int.reduceToNat, Bool.or_false, Bool.false_or, Bool.or_true, Bool.true_or, BEq.rfl, Bool.not_eq_true, Bool.not_eq_false, decide_eq_true_eq, not_true_eq_false, not_false_eq_true, ite_true, ite_false, List.append_nil, and_assoc, Nat.mul_zero, Nat.zero_mul, b8_1, q2]
      refine ⟨fun _ => ?_, fun hl => by omega⟩
      repeat (refine And.intro (by first | omega | trivial | (intros; omega)) ?_)
      refine hK (i + 1) (by omega) (by omega) _ _ (Sub.pt ?_)
      simp -implicitDefEqProofs only [push_cast, false_implies, reduceCtorEq, Classical.not_not, Nat.reduceAdd, Nat.reduceSub, Nat.reduceMul, Nat.reduceLeDiff, Nat.reduceLT, Nat.reduceEqDiff, Nat.reduceBEq, Nat.reduceBNe, Int.reduceNeg, Int.reduceToNat, Bool.or_false, Bool.false_or, Bool.or_true, Bool.true_or, BEq.rfl, Bool.not_eq_true, Bool.not_eq_false, decide_eq_true_eq, not_true_eq_false, not_false_eq_true, ite_true, ite_false, List.append_nil, and_assoc, Nat.mul_zero, Nat.zero_mul, Int.toNat_natCast, q1]
    · obtain rfl : i = H * W := by omega
      clear hK
      rw [fillTo_all]
      obtain ⟨xs, hxs⟩ : ∃ xs, List.replicate (H * W) v = xs := ⟨_, rfl⟩
      have hxl : xs.length = H * W := by rw [← hxs, List.length_replicate]
      have hxm : ∀ y ∈ xs, y = v := fun y hy => by rw [← hxs] at hy; exact (List.mem_replicate.1 hy).2
      have hxv : ∀ k : Nat, k < xs.length → rd xs (k : Int) = v := fun k hk => by rw [rd_lt _ _ hk]; exact hxm _ (List.getElem_mem hk)
      have hxi : ((xs.length : Nat) : Int) = (W : Int) * H := by rw [hxl]; exact em2
      have hO : fwOk ⟨W, H, xs⟩ kind n := ⟨⟨hs, hxi, fun y hy => by rw [hxm y hy]; omega⟩, hS, fun y hy => by rw [hxm y hy]; omega⟩
      have hP : fwP ⟨W, H, xs⟩ kind n = ⟨W, H, fwd lineL kind W H xs n⟩ := if_pos hO
      have hE : fwE ⟨W, H, xs⟩ kind n = 0 := if_pos hO
      have hXl := fwd_length lineL kind W H xs n
      have hX : 0 < W → ∀ k : Nat, k < H * W → rd (fwd lineL kind W H xs n) (k : Int) = flatAt W H v n k := fun hW k hk => fwd_flat hW hxl hxv n k hk
      generalize fwd lineL kind W H xs n = X at hP hXl hX
      have hXi : ((X.length : Nat) : Int) = (W : Int) * H := by rw [hXl]; exact hxi
      have hle := bnL_le W H n
      have hL : bnL W H n = keptBd (bdD W H n n) := by unfold bnL bnA; rw [if_pos hb]; simp only [Int.toNat_natCast]
      have hin : ∀ b ∈ bnL W H n, 0 ≤ b.x ∧ 0 ≤ b.y ∧ 1 ≤ b.w ∧ 1 ≤ b.h ∧ b.x + b.w ≤ W ∧ b.y + b.h ≤ H := fun b hb => by rw [hL] at hb; exact kept_in (by omega) (by omega) hb
      have hkd : ∀ b ∈ bnL W H n, (b.kd = 0 ∧ b.x = 0 ∧ b.y = 0 ∧ b.w = hlf W n ∧ b.h = hlf H n) ∨ (¬ b.kd = 0 ∧ ((hlf W n : Int) ≤ b.x ∨ (hlf H n : Int) ≤ b.y)) := fun b hb => by rw [hL] at hb; exact bd_kind hb
      have r2 : ∀ i : Nat, i < (bnL W H n).length → recAt (i : Int) [] ((bnL W H n).map Bd.rc) = (rdBd (bnL W H n) i).rc := fun i hi => recAt_Bd' (by omega) (by omega) []
      generalize hbl : bnL W H n = l at hle hin r2 hkd
      have hcm : (H : Int) * W = (W : Int) * H := Int.mul_comm _ _
      simp -implicitDefEqProofs only [push_cast, false_implies, reduceCtorEq, Classical.not_not, Nat.reduceAdd, Nat.reduceSub, Nat.reduceMul, Nat.reduceLeDiff, Nat.reduceLT, Nat.reduceEqDiff, Nat.reduceBEq, Nat.reduceBNe, Int.reduceNeg, Int.reduceToNat, Bool.or_false, Bool.false_or, Bool.or_true, Bool.true_or, BEq.rfl, Bool.not_eq_true, Bool.not_eq_false, decide_eq_true_eq, not_true_eq_false, not_false_eq_true, ite_true, ite_false, List.append_nil, and_assoc, Nat.mul_zero, Nat.zero_mul, b8_1, r8_8, fs28, fs27, hxs, hxi, hXi, hP, hE, hbl, hcm, Int.lt_irrefl, true_implies, true_and, not_true_eq_false, not_false_eq_true, and_true, or_self]
      intro X1
      repeat (refine And.intro (by first | omega | trivial | (intros; omega)) ?_)
      intro X2
      refine evS_loopU (A := Nat) kp8_2 kl8_2 (fun i => [(103, .int .i64 i)]) (fun i => []) (fun i => i ≤ l.length) (fun i => l.length - i) 0 (Nat.zero_le _) (Sub.pt ?_) ?_
      · simp -implicitDefEqProofs only [push_cast, false_implies, reduceCtorEq, Classical.not_not, Nat.reduceAdd, Nat.reduceSub, Nat.reduceMul, Nat.reduceLeDiff, Nat.reduceLT, Nat.reduceEqDiff, Nat.reduceBEq, Nat.reduceBNe, Int.reduceNeg, Int.reduceToNat, Bool.or_false, Bool.false_or, Bool.or_true, Bool.true_or, BEq.rfl, Bool.not_eq_true, Bool.not_eq_false, decide_eq_true_eq, not_true_eq_false, not_false_eq_true, ite_true, ite_false, List.append_nil, and_assoc, Nat.mul_zero, Nat.zero_mul]
      intro i (hi : i ≤ l.length) K hK
      by_cases hi' : i < l.length
      · have p2 := r2 i hi'
        have g0 := hin _ (rdBd_mem hi')
        have g7 := hkd _ (rdBd_mem hi')
        have es : esz 6 l.length = 6 := esz_pos (by omega)
        have hlm : (l.map Bd.rc).length = l.length := List.length_map _
        obtain ⟨b, hb⟩ : ∃ b, rdBd l (i : Int) = b := ⟨_, rfl⟩
        rw [hb] at p2 g0 g7
        obtain ⟨lv, kd, bx, by', bw, bh⟩ := b
        obtain ⟨g1, g2, g3, g4, g5, g6⟩ := g0
        simp only at g1 g2 g3 g4 g5 g6 g7
        obtain ⟨t, ht⟩ : ∃ t, (if kd = 0 then v else 0) = t := ⟨_, rfl⟩
        -- what stands at each place of the band
        have hat : ∀ yn xn : Nat, by' ≤ yn → (yn : Int) < by' + bh → bx ≤ xn → (xn : Int) < bx + bw → yn * W + xn < H * W ∧ rd X ((yn * W + xn : Nat) : Int) = t := fun yn xn h1 h2 h3 h4 => by
          have hlt : yn * W + xn < H * W := by
            have : (yn + 1) * W ≤ H * W := Nat.mul_le_mul_right _ (by omega)
            rw [Nat.add_mul] at this; omega
          refine ⟨hlt, ?_⟩
          rw [hX (by omega) _ hlt, ← ht]
          obtain ⟨d1, d2⟩ := dmN (W := W) (a := yn) (b := xn) (by omega)
          unfold flatAt
          rw [d1, d2]
          rcases g7 with ⟨k1, k2, k3, k4, k5⟩ | ⟨k1, k2⟩
          · rw [if_pos (by omega), if_pos k1]
          · rw [if_neg (by omega), if_neg k1]
        simp -implicitDefEqProofs only [push_cast, false_implies, reduceCtorEq, Classical.not_not, Nat.reduceAdd, Nat.reduceSub, Nat.reduceMul, Nat.reduceLeDiff, Nat.reduceLT, Nat.reduceEqDiff, Nat.reduceBEq, Nat.reduceBNe, Int.reduceNeg, Int.reduceToNat, Bool.or_false, Bool.false_or, Bool.or_true, Bool.true_or, BEq.rfl, Bool.not_eq_true, Bool.not_eq_false, decide_eq_true_eq, not_true_eq_false, not_false_eq_true, ite_true, ite_false, List.append_nil, and_assoc, Nat.mul_zero, Nat.zero_mul, b8_2, r8_6, r8_7, p2, es, hlm, Bd.rc]
        refine ⟨fun _ => ?_, fun hl => by omega⟩
        intro X3
        repeat (refine And.intro (by first | omega | trivial | (intros; omega)) ?_)
        refine ⟨fun hk0 => ?_, fun hk0 => ?_⟩
        case' refine_1 => rw [if_pos hk0] at ht
        case' refine_2 => rw [if_neg hk0] at ht
        all_goals
          subst ht
          refine evS_loopU (A := Int) kp8_3 kl8_3 (fun y => [(20, .int .i64 y)]) (fun y => []) (fun y => by' ≤ y ∧ y ≤ by' + bh) (fun y => (by' + bh - y).toNat) by' ⟨by omega, by omega⟩ (Sub.pt ?_) ?_
          · simp -implicitDefEqProofs only [push_cast, false_implies, reduceCtorEq, Classical.not_not, Nat.reduceAdd, Nat.reduceSub, Nat.reduceMul, Nat.reduceLeDiff, Nat.reduceLT, Nat.reduceEqDiff, Nat.reduceBEq, Nat.reduceBNe, Int.reduceNeg, Int.reduceToNat, Bool.or_false, Bool.false_or, Bool.or_true, Bool.true_or, BEq.rfl, Bool.not_eq_true, Bool.not_eq_false, decide_eq_true_eq, not_true_eq_false, not_false_eq_true, ite_true, ite_false, List.append_nil, and_assoc, Nat.mul_zero, Nat.zero_mul]
          intro y ⟨hy1, hy2⟩ K2 hK2
          by_cases hy : y < by' + bh
          · simp -implicitDefEqProofs only [push_cast, false_implies, reduceCtorEq, Classical.not_not, Nat.reduceAdd, Nat.reduceSub, Nat.reduceMul, Nat.reduceLeDiff, Nat.reduceLT, Nat.reduceEqDiff, Nat.reduceBEq, Nat.reduceBNe, Int.reduceNeg, Int.reduceToNat, Bool.or_false, Bool.false_or, Bool.or_true, Bool.true_or, BEq.rfl, Bool.not_eq_true, Bool.not_eq_false, decide_eq_true_eq, not_true_eq_false, not_false_eq_true, ite_true, ite_false, List.append_nil, and_assoc, Nat.mul_zero, Nat.zero_mul, b8_3, r8_5]
            refine ⟨by omega, by omega, fun _ => ?_, fun hl => by omega⟩
            refine evS_loopU (A := Int) kp8_4 kl8_4 (fun x => [(21, .int .i64 x)]) (fun x => []) (fun x => bx ≤ x ∧ x ≤ bx + bw) (fun x => (bx + bw - x).toNat) bx ⟨by omega, by omega⟩ (Sub.pt ?_) ?_
            · simp -implicitDefEqProofs only [push_cast, false_implies, reduceCtorEq, Classical.not_not, Nat.reduceAdd, Nat.reduceSub, Nat.reduceMul, Nat.reduceLeDiff, Nat.reduceLT, Nat.reduceEqDiff, Nat.reduceBEq, Nat.reduceBNe, Int.reduceNeg, Int.reduceToNat, Bool.or_false, Bool.false_or, Bool.or_true, Bool.true_or, BEq.rfl, Bool.not_eq_true, Bool.not_eq_false, decide_eq_true_eq, not_true_eq_false, not_false_eq_true, ite_true, ite_false, List.append_nil, and_assoc, Nat.mul_zero, Nat.zero_mul]
            intro x ⟨hx1, hx2⟩ K3 hK3
            by_cases hx : x < bx + bw
            · obtain ⟨yn, rfl⟩ : ∃ m : Nat, y = (m : Int) := ⟨y.toNat, by omega⟩
              obtain ⟨xn, rfl⟩ : ∃ m : Nat, x = (m : Int) := ⟨x.toNat, by omega⟩
              obtain ⟨hlt, f3⟩ := hat yn xn hy1 hy hx1 hx
              have ei : (yn : Int) * W + xn = ((yn * W + xn : Nat) : Int) := by simp
              have hmm := mul_bd (a := (yn : Int)) (b := (W : Int)) (A := 200) (B := 200) (by omega) (by omega) (by omega) (by omega)
              generalize hkk : yn * W + xn = kk at ei f3 hlt
              have hkl : ((kk : Nat) : Int) < (W : Int) * H := by rw [← em2]; omega
              simp -implicitDefEqProofs only [push_cast, false_implies, reduceCtorEq, Classical.not_not, Nat.reduceAdd, Nat.reduceSub, Nat.reduceMul, Nat.reduceLeDiff, Nat.reduceLT, Nat.reduceEqDiff, Nat.reduceBEq, Nat.reduceBNe, Int.reduceNeg, Int.reduceToNat, Bool.or_false, Bool.false_or, Bool.or_true, Bool.true_or, BEq.rfl, Bool.not_eq_true, Bool.not_eq_false, decide_eq_true_eq, not_true_eq_false, not_false_eq_true, ite_true, ite_false, List.append_nil, and_assoc, Nat.mul_zero, Nat.zero_mul, b8_4, ei, f3, hXi, true_implies, true_and, not_true_eq_false, not_false_eq_true]
              refine ⟨by omega, by omega, fun _ => ?_, fun hl => by omega⟩
              repeat (refine And.intro (by first | omega | trivial | (intros; omega)) ?_)
              refine hK3 ((xn : Int) + 1) ⟨by omega, by omega⟩ (by omega) _ _ (Sub.pt ?_)
              simp -implicitDefEqProofs only [push_cast, false_implies, reduceCtorEq, Classical.not_not, Nat.reduceAdd, Nat.reduceSub, Nat.reduceMul, Nat.reduceLeDiff, Nat.reduceLT, Nat.reduceEqDiff, Nat.reduceBEq, Nat.reduceBNe, Int.reduceNeg, Int.reduceToNat, Bool.or_false, Bool.false_or, Bool.or_true, Bool.true_or, BEq.rfl, Bool.not_eq_true, Bool.not_eq_false, decide_eq_true_eq, not_true_eq_false, not_false_eq_true, ite_true, ite_false, List.append_nil, and_assoc, Nat.mul_zero, Nat.zero_mul]
            · obtain rfl : x = bx + bw := by omega
              clear hK3
              simp -implicitDefEqProofs only [push_cast, false_implies, reduceCtorEq, Classical.not_not, Nat.reduceAdd, Nat.reduceSub, Nat.reduceMul, Nat.reduceLeDiff, Nat.reduceLT, Nat.reduceEqDiff, Nat.reduceBEq, Nat.reduceBNe, Int.reduceNeg, Int.reduceToNat, Bool.or_false, Bool.false_or, Bool.or_true, Bool.true_or, BEq.rfl, Bool.not_eq_true, Bool.not_eq_false, decide_eq_true_eq, not_true_eq_false, not_false_eq_true, ite_true, ite_false, List.append_nil, and_assoc, Nat.mul_zero, Nat.zero_mul, b8_4, Int.lt_irrefl, true_implies, true_and]
              repeat (refine And.intro (by first | omega | trivial | (intros; omega)) ?_)
              refine hK2 (y + 1) ⟨by omega, by omega⟩ (by omega) _ _ (Sub.pt ?_)
              simp -implicitDefEqProofs only [push_cast, false_implies, reduceCtorEq, Classical.not_not, Nat.reduceAdd, Nat.reduceSub, Nat.reduceMul, Nat.reduceLeDiff, Nat.reduceLT, Nat.reduceEqDiff, Nat.reduceBEq, Nat.reduceBNe, Int.reduceNeg, Int.reduceToNat, Bool.or_false, Bool.false_or, Bool.or_true, Bool.true_or, BEq.rfl, Bool.not_eq_true, Bool.not_eq_false, decide_eq_true_eq, not_true_eq_false, not_false_eq_true, ite_true, ite_false, List.append_nil, and_assoc, Nat.mul_zero, Nat.zero_mul]
          · obtain rfl : y = by' + bh := by omega
            clear hK2
            simp -implicitDefEqProofs only [push_cast, false_implies, reduceCtorEq, Classical.not_not, Nat.reduceAdd, Nat.reduceSub, Nat.reduceMul, Nat.reduceLeDiff, Nat.reduceLT, Nat.reduceEqDiff, Nat.reduceBEq, Nat.reduceBNe, Int.reduceNeg, Int.reduceToNat, Bool.or_false, Bool.false_or, Bool.or_true, Bool.true_or, BEq.rfl, Bool.not_eq_true, Bool.not_eq_false, decide_eq_true_eq, not_true_eq_false, not_false_eq_true, ite_true, ite_false, List.append_nil, and_assoc, Nat.mul_zero, Nat.zero_mul, b8_3, r8_5, Int.lt_irrefl, true_implies, true_and]
            repeat (refine And.intro (by first | omega | trivial | (intros; omega)) ?_)
            refine hK (i + 1) (by omega) (by omega) _ _ (Sub.pt ?_)
            simp -implicitDefEqProofs only [push_cast, false_implies, reduceCtorEq, Classical.not_not, Nat.reduceAdd, Nat.reduceSub, Nat.reduceMul, Nat.reduceLeDiff, Nat.reduceLT, Nat.reduceEqDiff, Nat.reduceBEq, Nat.reduceBNe, Int.reduceNeg, Int.reduceToNat, Bool.or_false, Bool.false_or, Bool.or_true, Bool.true_or, BEq.rfl, Bool.not_eq_true, Bool.not_eq_false, decide_eq_true_eq, not_true_eq_false, not_false_eq_true, ite_true, ite_false, List.append_nil, and_assoc, Nat.mul_zero, Nat.zero_mul, es]
      · obtain rfl : i = l.length := by omega
        clear hK
        simp -implicitDefEqProofs only [push_cast, false_implies, reduceCtorEq, Classical.not_not, Nat.reduceAdd, Nat.reduceSub, Nat.reduceMul, Nat.reduceLeDiff, Nat.reduceLT, Nat.reduceEqDiff, Nat.reduceBEq, Nat.reduceBNe, Int.reduceNeg, Int.reduceToNat, Bool.or_false, Bool.false_or, Bool.or_true, Bool.true_or, BEq.rfl, Bool.not_eq_true, Bool.not_eq_false, decide_eq_true_eq, not_true_eq_false, not_false_eq_true, ite_true, ite_false, List.append_nil, and_assoc, Nat.mul_zero, Nat.zero_mul, b8_2, r8_6, r8_7, fs13, Int.lt_irrefl]
  · refine tri_evS (hyp (l := [(13, ent13), (28, ent28), (27, ent27)]) (lp := [(30, styF)]) ⟨e13, e28, e27, trivial⟩ ⟨p30, trivial⟩) Try.func8 comp8 (rs := [.tmp 10]) (by rfl) Try.ntmps8 30 ?_
    simp -implicitDefEqProofs only [push_cast, false_implies, reduceCtorEq, Classical.not_not, Nat.reduceAdd, Nat.reduceSub, Nat.reduceMul, Nat.reduceLeDiff, Nat.reduceLT, Nat.reduceEqDiff, Nat.reduceBEq, Nat.reduceBNe, Int.reduceNeg, Int.reduceToNat, Bool.or_false, Bool.false_or, Bool.or_true, Bool.true_or, BEq.rfl, Bool.not_eq_true, Bool.not_eq_false, decide_eq_true_eq, not_true_eq_false, not_false_eq_true, ite_true, ite_false, List.append_nil, and_assoc, Nat.mul_zero, Nat.zero_mul, ir8, fs13]
    refine ⟨fun hq => ?_, fun hn => absurd ?_ hf⟩
    · have := mul_bd (a := w) (b := h) (A := 200) (B := 200) (by omega) (by omega) (by omega) (by omega)
      exact ⟨hq, hq, by omega, by omega⟩
    · have hS : stOk kind n := Classical.byContradiction fun q => hn (.inr q)
      exact ⟨⟨by omega, by omega, by omega, by omega, by omega⟩, by omega, by omega, hS⟩
end Go.Proofs.Ytefggfjblhniaaa
