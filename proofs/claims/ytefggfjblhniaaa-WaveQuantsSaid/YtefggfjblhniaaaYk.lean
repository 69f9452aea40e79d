import Derived.Test.YtefggfjblhniaaaYj
set_option linter.unusedVariables false
set_option linter.unusedSimpArgs false
/-! The law WaveQuants. -/
namespace Go.Proofs.Ytefggfjblhniaaa
open Xf
set_option maxRecDepth 4000
/- incunable/incunablelaw18.WaveQuants : slots 128, labels 10..55; loop b5_1 keeps [1, 13, 87, 88, 89] -/
def b5_1 : IR :=
  .seq (.reg false [⟨some 90, none, ⟨[], []⟩, .bin 0 .lss (.t 89) (.t 88)⟩] [] []) (.seq (.cond (.t 90) (.skip) (.exit 0)) (.seq (.block 1 (.seq (.reg false [⟨some 91, none, ⟨[], []⟩, .mov (.t 89)⟩,
    ⟨some 92, none, ⟨[], []⟩, .idxS (.t 87) (.t 89) 1⟩,
    ⟨some 93, none, ⟨[], []⟩, .ld true none 0 0 (.t 92)⟩,
    ⟨some 14, none, ⟨[], []⟩, .mov (.t 91)⟩,
    ⟨some 15, none, ⟨[], []⟩, .mov (.t 93)⟩] [90, 91, 92, 93] []) (.seq (.reg false [⟨some 94, none, ⟨[], []⟩, .mov (.t 15)⟩,
    ⟨some 95, none, ⟨[], []⟩, .fld (.t 13) 2⟩,
    ⟨some 96, none, ⟨[], []⟩, .ld false none 0 0 (.t 95)⟩,
    ⟨some 97, none, ⟨[], []⟩, .mov (.t 14)⟩,
    ⟨some 98, none, ⟨[], []⟩, .idxS (.t 96) (.t 97) 1⟩,
    ⟨some 99, none, ⟨[], []⟩, .ld true none 0 0 (.t 98)⟩,
    ⟨some 100, none, ⟨[], []⟩, .bin 0 .sub (.t 94) (.t 99)⟩,
    ⟨some 16, none, ⟨[], []⟩, .mov (.t 100)⟩] [14, 94, 95, 96, 97, 98, 99, 100] []) (.seq (.reg false [⟨some 101, none, ⟨[], []⟩, .mov (.t 16)⟩,
    ⟨some 102, none, ⟨[], []⟩, .mov (.t 1)⟩,
    ⟨some 103, none, ⟨[], []⟩, .neg 0 (.t 102)⟩,
    ⟨some 104, none, ⟨[], []⟩, .bin 0 .leq (.t 101) (.t 103)⟩,
    ⟨some 105, none, ⟨[], []⟩, .mov (.t 104)⟩,
    ⟨some 106, some (105, false), ⟨[], []⟩, .mov (.t 16)⟩,
    ⟨some 107, some (105, false), ⟨[], []⟩, .mov (.t 1)⟩,
    ⟨some 108, some (105, false), ⟨[], []⟩, .bin 0 .geq (.t 106) (.t 107)⟩,
    ⟨some 109, none, ⟨[], []⟩, .pick (.t 105) (.k (.bool true)) (.t 108)⟩,
    ⟨some 110, none, ⟨[], []⟩, .mov (.t 109)⟩,
    ⟨some 111, some (110, false), ⟨[], []⟩, .mov (.t 15)⟩,
    ⟨some 112, some (110, false), ⟨[], []⟩, .bin 0 .gtr (.t 111) (.k (.int .i64 0))⟩,
    ⟨some 113, some (110, false), ⟨[], []⟩, .mov (.t 112)⟩,
    ⟨some 114, some (113, true), ⟨[], []⟩, .mov (.t 16)⟩,
    ⟨some 115, some (113, true), ⟨[], []⟩, .bin 0 .lss (.t 114) (.k (.int .i64 0))⟩,
    ⟨some 116, some (110, false), ⟨[], []⟩, .pick (.t 113) (.t 115) (.k (.bool false))⟩,
    ⟨some 117, none, ⟨[], []⟩, .pick (.t 110) (.k (.bool true)) (.t 116)⟩,
    ⟨some 118, none, ⟨[], []⟩, .mov (.t 117)⟩,
    ⟨some 119, some (118, false), ⟨[], []⟩, .mov (.t 15)⟩,
    ⟨some 120, some (118, false), ⟨[], []⟩, .bin 0 .lss (.t 119) (.k (.int .i64 0))⟩,
    ⟨some 121, some (118, false), ⟨[], []⟩, .mov (.t 120)⟩,
    ⟨some 122, some (121, true), ⟨[], []⟩, .mov (.t 16)⟩,
    ⟨some 123, some (121, true), ⟨[], []⟩, .bin 0 .gtr (.t 122) (.k (.int .i64 0))⟩,
    ⟨some 124, some (118, false), ⟨[], []⟩, .pick (.t 121) (.t 123) (.k (.bool false))⟩,
    ⟨some 125, none, ⟨[], []⟩, .pick (.t 118) (.k (.bool true)) (.t 124)⟩] [15, 16, 101, 102, 103, 104, 105, 106, 107, 108, 109, 110, 111, 112, 113, 114, 115, 116, 117, 118, 119, 120, 121, 122, 123, 124] []) (.cond (.t 125) (.seq (.reg false [⟨some 4, none, ⟨[], []⟩, .mov (.k (.bool false))⟩] [1, 13, 87, 88, 89, 125] []) (.ret)) (.skip)))))) (.reg false [⟨some 126, none, ⟨[], []⟩, .bin 0 .add (.t 89) (.k (.int .i64 1))⟩,
    ⟨some 89, none, ⟨[], []⟩, .mov (.t 126)⟩] [4, 125, 126] [])))
def r5_2 : IR :=
  .seq (.reg false [⟨some 127, none, ⟨[], []⟩, .call (some 4) 52 13 []⟩,
    ⟨some 4, none, ⟨[], []⟩, .mov (.t 127)⟩] [1, 13, 87, 88, 89, 127] []) (.ret)
def ir5 : IR :=
  .seq (.reg false [⟨some 2, none, ⟨[], []⟩, .box 10 (.t 0)⟩,
    ⟨some 4, none, ⟨[], []⟩, .mov (.k (.bool false))⟩] [0, 4] []) (.seq (.reg false [⟨some 18, none, ⟨[], []⟩, .ld false (some 3) 0 0 (.t 2)⟩,
    ⟨some 19, none, ⟨[], []⟩, .mov (.t 1)⟩,
    ⟨some 20, none, ⟨[], []⟩, .call (some 4) 11 20 [.t 18, .t 19]⟩,
    ⟨some 17, none, ⟨[], []⟩, .mov (.t 20)⟩,
    ⟨some 21, none, ⟨[], []⟩, .ext (.t 17) 0⟩,
    ⟨some 22, none, ⟨[], []⟩, .ext (.t 17) 1⟩,
    ⟨some 5, none, ⟨[], []⟩, .alloc 15 [.int .i64 0, .int .i64 0, nilSV]⟩,
    ⟨none, none, ⟨[], []⟩, .sto false 3 .i64 (.t 5) (.t 21)⟩,
    ⟨some 6, none, ⟨[], []⟩, .mov (.t 22)⟩] [17, 18, 19, 20, 21, 22] []) (.seq (.reg false [⟨some 24, none, ⟨[], []⟩, .ld false (some 3) 0 0 (.t 2)⟩,
    ⟨some 25, none, ⟨[], []⟩, .mov (.t 1)⟩,
    ⟨some 26, none, ⟨[], []⟩, .call (some 4) 16 21 [.t 24, .t 25]⟩,
    ⟨some 23, none, ⟨[], []⟩, .mov (.t 26)⟩,
    ⟨some 27, none, ⟨[], []⟩, .ext (.t 23) 0⟩,
    ⟨some 28, none, ⟨[], []⟩, .ext (.t 23) 1⟩,
    ⟨some 7, none, ⟨[], []⟩, .alloc 20 [.int .i64 0, .int .i64 0, nilSV]⟩,
    ⟨none, none, ⟨[], []⟩, .sto false 3 .i64 (.t 7) (.t 27)⟩,
    ⟨some 8, none, ⟨[], []⟩, .mov (.t 28)⟩] [23, 24, 25, 26, 27, 28] []) (.seq (.reg false [⟨some 30, none, ⟨[], []⟩, .ld false (some 3) 0 0 (.t 2)⟩,
    ⟨some 31, none, ⟨[], []⟩, .mov (.t 1)⟩,
    ⟨some 32, none, ⟨[], []⟩, .call (some 4) 21 22 [.t 30, .t 31]⟩,
    ⟨some 29, none, ⟨[], []⟩, .mov (.t 32)⟩,
    ⟨some 33, none, ⟨[], []⟩, .ext (.t 29) 0⟩,
    ⟨some 34, none, ⟨[], []⟩, .ext (.t 29) 1⟩,
    ⟨some 9, none, ⟨[], []⟩, .alloc 25 [.int .i64 0, .int .i64 0, nilSV]⟩,
    ⟨none, none, ⟨[], []⟩, .sto false 3 .i64 (.t 9) (.t 33)⟩,
    ⟨some 10, none, ⟨[], []⟩, .mov (.t 34)⟩] [29, 30, 31, 32, 33, 34] []) (.seq (.reg false [⟨some 36, none, ⟨[], []⟩, .ld false (some 3) 0 0 (.t 2)⟩,
    ⟨some 37, none, ⟨[], []⟩, .mov (.t 1)⟩,
    ⟨some 38, none, ⟨[], []⟩, .call (some 4) 26 23 [.t 36, .t 37]⟩,
    ⟨some 35, none, ⟨[], []⟩, .mov (.t 38)⟩,
    ⟨some 39, none, ⟨[], []⟩, .ext (.t 35) 0⟩,
    ⟨some 40, none, ⟨[], []⟩, .ext (.t 35) 1⟩,
    ⟨some 11, none, ⟨[], []⟩, .alloc 30 [.int .i64 0, .int .i64 0, nilSV]⟩,
    ⟨none, none, ⟨[], []⟩, .sto false 3 .i64 (.t 11) (.t 39)⟩,
    ⟨some 12, none, ⟨[], []⟩, .mov (.t 40)⟩] [35, 36, 37, 38, 39, 40] []) (.seq (.seq (.reg false [⟨some 41, none, ⟨[], []⟩, .mov (.t 6)⟩,
    ⟨some 42, none, ⟨[], []⟩, .mov (.t 8)⟩,
    ⟨some 43, none, ⟨[], []⟩, .bin 0 .neq (.t 41) (.t 42)⟩,
    ⟨some 44, none, ⟨[], []⟩, .mov (.t 43)⟩,
    ⟨some 45, some (44, false), ⟨[], []⟩, .ld false (some 3) 0 0 (.t 5)⟩,
    ⟨some 46, some (44, false), ⟨[], []⟩, .ld false (some 3) 0 0 (.t 7)⟩,
    ⟨some 47, some (44, false), ⟨[], []⟩, .call (some 4) 31 24 [.t 45, .t 46]⟩,
    ⟨some 48, some (44, false), ⟨[], []⟩, .not (.t 47)⟩,
    ⟨some 49, none, ⟨[], []⟩, .pick (.t 44) (.k (.bool true)) (.t 48)⟩,
    ⟨some 50, none, ⟨[], []⟩, .mov (.t 49)⟩,
    ⟨some 51, some (50, false), ⟨[], []⟩, .mov (.t 10)⟩,
    ⟨some 52, some (50, false), ⟨[], []⟩, .mov (.t 12)⟩,
    ⟨some 53, some (50, false), ⟨[], []⟩, .bin 0 .neq (.t 51) (.t 52)⟩,
    ⟨some 54, none, ⟨[], []⟩, .pick (.t 50) (.k (.bool true)) (.t 53)⟩,
    ⟨some 55, none, ⟨[], []⟩, .mov (.t 54)⟩,
    ⟨some 56, some (55, false), ⟨[], []⟩, .ld false (some 3) 0 0 (.t 9)⟩,
    ⟨some 57, some (55, false), ⟨[], []⟩, .ld false (some 3) 0 0 (.t 11)⟩,
    ⟨some 58, some (55, false), ⟨[], []⟩, .call (some 4) 35 24 [.t 56, .t 57]⟩,
    ⟨some 59, some (55, false), ⟨[], []⟩, .not (.t 58)⟩,
    ⟨some 60, none, ⟨[], []⟩, .pick (.t 55) (.k (.bool true)) (.t 59)⟩] [7, 8, 9, 10, 11, 12, 41, 42, 43, 44, 45, 46, 47, 48, 49, 50, 51, 52, 53, 54, 55, 56, 57, 58, 59] []) (.cond (.t 60) (.seq (.reg false [⟨some 4, none, ⟨[], []⟩, .mov (.k (.bool false))⟩] [1, 2, 5, 6, 60] []) (.ret)) (.skip))) (.seq (.seq (.reg false [⟨some 61, none, ⟨[], []⟩, .mov (.t 6)⟩,
    ⟨some 62, none, ⟨[], []⟩, .bin 0 .neq (.t 61) (.k (.int .i64 0))⟩] [4, 6, 60, 61] []) (.cond (.t 62) (.seq (.reg false [⟨some 63, none, ⟨[], []⟩, .call (some 4) 39 13 []⟩,
    ⟨some 4, none, ⟨[], []⟩, .mov (.t 63)⟩] [1, 2, 5, 62, 63] []) (.ret)) (.skip))) (.seq (.reg false [⟨some 65, none, ⟨[], []⟩, .ld false (some 3) 0 0 (.t 5)⟩,
    ⟨some 66, none, ⟨[], []⟩, .mov (.t 1)⟩,
    ⟨some 67, none, ⟨[], []⟩, .call (some 4) 43 22 [.t 65, .t 66]⟩,
    ⟨some 64, none, ⟨[], []⟩, .mov (.t 67)⟩,
    ⟨some 68, none, ⟨[], []⟩, .ext (.t 64) 0⟩,
    ⟨some 69, none, ⟨[], []⟩, .ext (.t 64) 1⟩,
    ⟨some 13, none, ⟨[], []⟩, .alloc 47 [.int .i64 0, .int .i64 0, nilSV]⟩,
    ⟨none, none, ⟨[], []⟩, .sto false 3 .i64 (.t 13) (.t 68)⟩,
    ⟨some 6, none, ⟨[], []⟩, .mov (.t 69)⟩] [4, 5, 62, 64, 65, 66, 67, 68, 69] []) (.seq (.seq (.reg false [⟨some 70, none, ⟨[], []⟩, .mov (.t 6)⟩,
    ⟨some 71, none, ⟨[], []⟩, .bin 0 .neq (.t 70) (.k (.int .i64 0))⟩,
    ⟨some 72, none, ⟨[], []⟩, .mov (.t 71)⟩,
    ⟨some 73, some (72, false), ⟨[], []⟩, .fld (.t 13) 2⟩,
    ⟨some 74, some (72, false), ⟨[], []⟩, .ld false none 0 0 (.t 73)⟩,
    ⟨some 75, some (72, false), ⟨[], []⟩, .len (.t 74)⟩,
    ⟨some 76, some (72, false), ⟨[], []⟩, .fld (.t 2) 2⟩,
    ⟨some 77, some (72, false), ⟨[], []⟩, .ld false none 0 0 (.t 76)⟩,
    ⟨some 78, some (72, false), ⟨[], []⟩, .len (.t 77)⟩,
    ⟨some 79, some (72, false), ⟨[], []⟩, .bin 0 .neq (.t 75) (.t 78)⟩,
    ⟨some 80, none, ⟨[], []⟩, .pick (.t 72) (.k (.bool true)) (.t 79)⟩,
    ⟨some 81, none, ⟨[], []⟩, .mov (.t 80)⟩,
    ⟨some 82, some (81, false), ⟨[], []⟩, .ld false (some 3) 0 0 (.t 13)⟩,
    ⟨some 83, some (81, false), ⟨[], []⟩, .call (some 4) 48 25 [.t 82]⟩,
    ⟨some 84, some (81, false), ⟨[], []⟩, .not (.t 83)⟩,
    ⟨some 85, none, ⟨[], []⟩, .pick (.t 81) (.k (.bool true)) (.t 84)⟩] [6, 70, 71, 72, 73, 74, 75, 76, 77, 78, 79, 80, 81, 82, 83, 84] []) (.cond (.t 85) (.seq (.reg false [⟨some 4, none, ⟨[], []⟩, .mov (.k (.bool false))⟩] [1, 2, 13, 85] []) (.ret)) (.skip))) (.seq (.seq (.reg false [⟨some 86, none, ⟨[], []⟩, .fld (.t 2) 2⟩,
    ⟨some 87, none, ⟨[], []⟩, .ld false none 0 0 (.t 86)⟩,
    ⟨some 88, none, ⟨[], []⟩, .len (.t 87)⟩,
    ⟨some 89, none, ⟨[], []⟩, .mov (.k (.int .i64 0))⟩] [2, 4, 85, 86] []) (.block 0 (.loop b5_1))) (r5_2))))))))))
def kp5_1 : List Nat := [1, 13, 87, 88, 89]
def kl5_1 : List Nat := []
attribute [push_cast] kp5_1 kl5_1
theorem comp5 : (Try.f5.body.bind fun c => compC tab isP chkAll ir5 c) = some ir5 := by kernel_rfl
set_option maxRecDepth 512

theorem tmod_facts {n q : Int} (hq : 0 < q) : n.tdiv q * q = n - n.tmod q ∧ -q < n.tmod q ∧ n.tmod q < q ∧ (0 < n → 0 ≤ n.tmod q) ∧ (n < 0 → n.tmod q ≤ 0) := by
  have h0 := Int.tmod_add_mul_tdiv n q
  have h1 : n.tdiv q * q = q * n.tdiv q := Int.mul_comm _ _
  have h2 := Int.tmod_lt_of_pos n hq
  have h3 := Int.lt_tmod_of_pos n hq
  have h4 := Int.tmod_eq_emod (a := n) (b := q)
  have h5 := Int.emod_nonneg n (show q ≠ 0 by omega)
  have h6 := Int.emod_lt_of_pos n hq
  refine ⟨by omega, h3, h2, fun h => ?_, fun h => ?_⟩
  · rw [if_pos (.inl (by omega))] at h4; omega
  · by_cases hd : q ∣ n
    · have := Int.emod_eq_zero_of_dvd hd
      rw [if_pos (.inr hd)] at h4; omega
    · rw [if_neg (by rintro (a | a); omega; exact hd a)] at h4; omega
theorem quant_back {p : Pl} {q : Int} (h : eOk qT p q) : ∃ B : List Int, eOk uT (eachP qT p q) q ∧ eachP uT (eachP qT p q) q = ⟨p.w, p.h, B⟩ ∧ (⟨p.w, p.h, B⟩ : Pl).Ok ∧ B.length = p.xs.length ∧ p.xs.length ≤ 8192 ∧ (1 ≤ q ∧ q ≤ 1000) ∧
    ∀ k : Nat, k < p.xs.length → rd B k = rd p.xs k - (rd p.xs k).tmod q ∧ (-16777216 ≤ rd p.xs k ∧ rd p.xs k ≤ 16777216) := by
  obtain ⟨w, hh, xs⟩ := p
  have e : eachP qT ⟨w, hh, xs⟩ q = ⟨w, hh, eachL qT xs q⟩ := if_pos h
  rw [e]
  obtain ⟨⟨hs, hl, ha⟩, hq, hlim⟩ := id h
  simp only at hs hl ha hlim
  have hm := hs.bd
  have hel : (eachL qT xs q).length = xs.length := tabl_length _ _
  have hx : (⟨w, hh, eachL qT xs q⟩ : Pl).Ok := ⟨hs, by simp only; rw [hel]; exact hl, hlim⟩
  have key : ∀ k : Nat, k < xs.length → rd (eachL uT (eachL qT xs q) q) k = rd xs k - (rd xs k).tmod q := by
    intro k hk
    have h1 : k < (eachL qT xs q).length := by rw [hel]; exact hk
    have h2 : rd (eachL uT (eachL qT xs q) q) k = uT (rd (eachL qT xs q) k) q := by
      conv => lhs; unfold eachL
      rw [rd_tabl (by rw [tabl_length]; exact hk)]; rfl
    have h3 : rd (eachL qT xs q) k = qT (rd xs k) q := by unfold eachL; rw [rd_tabl hk]
    rw [h2, h3]
    exact (tmod_facts (n := rd xs k) (q := q) (by have := hq.1; omega)).1
  have hle : (eachL uT (eachL qT xs q) q).length = xs.length := by
    have : (eachL uT (eachL qT xs q) q).length = (eachL qT xs q).length := tabl_length _ _
    omega
  have hbd : AllIn (-16777216) 16777216 (eachL uT (eachL qT xs q) q) := by
    rw [allIn_rd]
    intro j hj
    rw [hle] at hj
    rw [key j hj]
    have h1 := allIn_rd.1 ha j hj
    have h2 := tmod_facts (n := rd xs j) (q := q) (by have := hq.1; omega)
    have h3 := Int.tmod_add_mul_tdiv (rd xs j) q
    have h4 := Int.tmod_eq_emod (a := rd xs j) (b := q)
    obtain ⟨_, h5, h6, h7, h8⟩ := h2
    have h9 : ((rd xs j).tmod q).natAbs ≤ (rd xs j).natAbs := by rw [Int.natAbs_tmod]; exact Nat.mod_le _ _
    by_cases hz : rd xs j = 0
    · rw [hz, Int.zero_tmod]; omega
    · omega
  have hO : eOk uT ⟨w, hh, eachL qT xs q⟩ q := ⟨hx, hq, hbd⟩
  refine ⟨eachL uT (eachL qT xs q) q, hO, if_pos hO, ⟨hs, by simp only; rw [hle]; exact hl, hbd⟩, hle, by simp only; omega, hq, fun k hk => ⟨key k hk, allIn_rd.1 ha k hk⟩⟩
theorem eachP_len (T : Int → Int → Int) {p : Pl} {q : Int} (hp : p.xs.length ≤ 140737488355328) : (eachP T p q).xs.length ≤ 140737488355328 := by
  unfold eachP
  split
  · simp only [eachL, tabl_length]; exact hp
  · exact Nat.zero_le _

theorem tri5 (p : Pl) (hp : p.xs.length ≤ 140737488355328) (q : Int) (L : Xf.Loc) : Tri Try.prog 5 [plV p L 0, .int .i64 q]
    [some (.ro, L, .ints .i64 p.xs)] (fun v _ => v = .bool true) := by
  obtain ⟨w, h, xs⟩ := p
  change Tri Try.prog 5 [plV ⟨w, h, xs⟩ L 0, .int .i64 q] [some (.ro, L, .ints .i64 xs)] _
  have l1 := eachP_len qT (p := ⟨w, h, xs⟩) (q := q) hp
  have l2 := eachP_len uT (p := ⟨w, h, xs⟩) (q := q) hp
  have r1 := Pl.Eq.refl (eachP qT ⟨w, h, xs⟩ q)
  have r2 := Pl.Eq.refl (eachP uT ⟨w, h, xs⟩ q)
  change xs.length ≤ 140737488355328 at hp
  generalize hU : eachP uT ⟨w, h, xs⟩ q = U at l2 r2
  obtain ⟨uw, uh, uxs⟩ := U
  change uxs.length ≤ 140737488355328 at l2
  by_cases hc : eOk qT ⟨w, h, xs⟩ q
  · obtain ⟨B, hO, hB, hBo, lB, hl, hq, hk⟩ := quant_back hc
    have hE : eErr qT ⟨w, h, xs⟩ q = 0 := if_pos hc
    have hE2 : eErr uT (eachP qT ⟨w, h, xs⟩ q) q = 0 := if_pos hO
    simp only at hB hBo lB hl hk
    generalize hX : eachP qT ⟨w, h, xs⟩ q = X at l1 r1 hO hB hE2
    obtain ⟨xw, xh, xxs⟩ := X
    change xxs.length ≤ 140737488355328 at l1
    refine tri_evS (hyp (l := [(13, ent13), (24, ent24), (25, ent25), (20, ent20), (21, ent21), (22, ent22), (23, ent23)]) (lp := []) ⟨e13, e24, e25, e20, e21, e22, e23, trivial⟩ trivial) Try.func5 comp5 (rs := [.tmp 4]) (by rfl) Try.ntmps5 56 ?_
    simp -implicitDefEqProofs only [push_cast, false_implies, reduceCtorEq, Classical.not_not, Nat.reduceAdd, Nat.reduceSub, Nat.reduceMul, Nat.reduceLeDiff, Nat.reduceLT, Nat.reduceEqDiff, Nat.reduceBEq, Nat.reduceBNe, Int.reduceNeg, Int.reduceToNat, Bool.or_false, Bool.false_or, Bool.or_true, Bool.true_or, BEq.rfl, Bool.not_eq_true, Bool.not_eq_false, decide_eq_true_eq, not_true_eq_false, not_false_eq_true, ite_true, ite_false, List.append_nil, and_assoc, Nat.mul_zero, Nat.zero_mul, ir5, fs13, fs24, fs60, fs20, fs22, hp, l1, l2, r1, r2, hU, hX, hB, hE, hE2, hBo, lB, if_true]
    intro X X1 X2 X3 X4 X5
    refine evS_loopU (A := Nat) kp5_1 kl5_1 (fun i => [(89, .int .i64 i)]) (fun _ => []) (fun i => i ≤ xs.length) (fun i => xs.length - i) 0 (by omega) (Sub.pt ?_) ?_
    · simp -implicitDefEqProofs only [push_cast, false_implies, reduceCtorEq, Classical.not_not, Nat.reduceAdd, Nat.reduceSub, Nat.reduceMul, Nat.reduceLeDiff, Nat.reduceLT, Nat.reduceEqDiff, Nat.reduceBEq, Nat.reduceBNe, Int.reduceNeg, Int.reduceToNat, Bool.or_false, Bool.false_or, Bool.or_true, Bool.true_or, BEq.rfl, Bool.not_eq_true, Bool.not_eq_false, decide_eq_true_eq, not_true_eq_false, not_false_eq_true, ite_true, ite_false, List.append_nil, and_assoc, Nat.mul_zero, Nat.zero_mul]
    intro k (hk1 : k ≤ xs.length) K hK
    simp -implicitDefEqProofs only [push_cast, false_implies, reduceCtorEq, Classical.not_not, Nat.reduceAdd, Nat.reduceSub, Nat.reduceMul, Nat.reduceLeDiff, Nat.reduceLT, Nat.reduceEqDiff, Nat.reduceBEq, Nat.reduceBNe, Int.reduceNeg, Int.reduceToNat, Bool.or_false, Bool.false_or, Bool.or_true, Bool.true_or, BEq.rfl, Bool.not_eq_true, Bool.not_eq_false, decide_eq_true_eq, not_true_eq_false, not_false_eq_true, ite_true, ite_false, List.append_nil, and_assoc, Nat.mul_zero, Nat.zero_mul, b5_1, r5_2, fs13]
    intro hl2
    obtain ⟨k1, k2, k3⟩ := hk k (by omega)
    obtain ⟨_, t2, t3, t4, t5⟩ := tmod_facts (n := rd xs k) (q := q) (by omega)
    simp only [k1]
    repeat (refine And.intro (by first | omega | trivial | (intros; omega)) ?_)
    refine fun _ => ⟨by omega, by omega, hK (k + 1) (by omega) (by omega) _ _ (Sub.pt ?_)⟩
    simp -implicitDefEqProofs only [push_cast, false_implies, reduceCtorEq, Classical.not_not, Nat.reduceAdd, Nat.reduceSub, Nat.reduceMul, Nat.reduceLeDiff, Nat.reduceLT, Nat.reduceEqDiff, Nat.reduceBEq, Nat.reduceBNe, Int.reduceNeg, Int.reduceToNat, Bool.or_false, Bool.false_or, Bool.or_true, Bool.true_or, BEq.rfl, Bool.not_eq_true, Bool.not_eq_false, decide_eq_true_eq, not_true_eq_false, not_false_eq_true, ite_true, ite_false, List.append_nil, and_assoc, Nat.mul_zero, Nat.zero_mul]
  · obtain ⟨c, hcc, hc0⟩ : ∃ c : Int, eErr qT ⟨w, h, xs⟩ q = c ∧ ¬ c = 0 := ⟨_, rfl, by unfold eErr; rw [if_neg hc]; split; split; all_goals decide⟩
    have hX : eachP qT ⟨w, h, xs⟩ q = pl0 := if_neg hc
    have r3 := Pl.Eq.refl pl0
    have l3 : pl0.xs.length ≤ 140737488355328 := Nat.zero_le _
    refine tri_evS (hyp (l := [(13, ent13), (24, ent24), (25, ent25), (20, ent20), (21, ent21), (22, ent22), (23, ent23)]) (lp := []) ⟨e13, e24, e25, e20, e21, e22, e23, trivial⟩ trivial) Try.func5 comp5 (rs := [.tmp 4]) (by rfl) Try.ntmps5 56 ?_
    simp -implicitDefEqProofs only [push_cast, false_implies, reduceCtorEq, Classical.not_not, Nat.reduceAdd, Nat.reduceSub, Nat.reduceMul, Nat.reduceLeDiff, Nat.reduceLT, Nat.reduceEqDiff, Nat.reduceBEq, Nat.reduceBNe, Int.reduceNeg, Int.reduceToNat, Bool.or_false, Bool.false_or, Bool.or_true, Bool.true_or, BEq.rfl, Bool.not_eq_true, Bool.not_eq_false, decide_eq_true_eq, not_true_eq_false, not_false_eq_true, ite_true, ite_false, List.append_nil, and_assoc, Nat.mul_zero, Nat.zero_mul, ir5, fs13, fs24, fs60, fs20, fs22, hp, l2, l3, r2, r3, hU, hX, hcc, hc0]
end Go.Proofs.Ytefggfjblhniaaa
