import Derived.Test.YtnmbimhcfioeiaaVp
set_option linter.unusedVariables false
set_option linter.unusedSimpArgs false
/-! The law ColourBacks. -/
namespace Go.Proofs.Ytnmbimhcfioeiaa
open Xf
set_option maxRecDepth 4000
/- incunable/incunablelaw19.ColourBacks : slots 142, labels 10..43; loop b6_1 keeps [3, 7, 11, 12] -/
def b6_1 : IR :=
  .seq (.seq (.reg false [⟨some 74, none, ⟨[], []⟩, .mov (.t 12)⟩,
    ⟨some 75, none, ⟨[], []⟩, .fld (.t 3) 2⟩,
    ⟨some 76, none, ⟨[], []⟩, .ld false none 0 0 (.t 75)⟩,
    ⟨some 77, none, ⟨[], []⟩, .len (.t 76)⟩,
    ⟨some 78, none, ⟨[], []⟩, .bin 0 .lss (.t 74) (.t 77)⟩] [74, 75, 76, 77] []) (.cond (.t 78) (.skip) (.exit 0))) (.seq (.block 1 (.seq (.reg false [⟨some 81, none, ⟨[], []⟩, .fld (.t 7) 2⟩,
    ⟨some 82, none, ⟨[], []⟩, .ld false none 0 0 (.t 81)⟩,
    ⟨some 83, none, ⟨[], []⟩, .mov (.t 12)⟩,
    ⟨some 84, none, ⟨[], []⟩, .idxS (.t 82) (.t 83) 1⟩,
    ⟨some 85, none, ⟨[], []⟩, .ld true none 0 0 (.t 84)⟩,
    ⟨some 86, none, ⟨[], []⟩, .bin 0 .gtr (.t 85) (.k (.int .i64 0))⟩,
    ⟨some 87, none, ⟨[], []⟩, .mov (.t 86)⟩,
    ⟨some 88, some (87, true), ⟨[], []⟩, .fld (.t 7) 2⟩,
    ⟨some 89, some (87, true), ⟨[], []⟩, .ld false none 0 0 (.t 88)⟩,
    ⟨some 90, some (87, true), ⟨[], []⟩, .mov (.t 12)⟩,
    ⟨some 91, some (87, true), ⟨[], []⟩, .idxS (.t 89) (.t 90) 1⟩,
    ⟨some 92, some (87, true), ⟨[], []⟩, .ld true none 0 0 (.t 91)⟩,
    ⟨some 93, some (87, true), ⟨[], []⟩, .bin 0 .lss (.t 92) (.k (.int .i64 255))⟩,
    ⟨some 94, none, ⟨[], []⟩, .pick (.t 87) (.t 93) (.k (.bool false))⟩,
    ⟨some 95, none, ⟨[], []⟩, .mov (.t 94)⟩,
    ⟨some 96, some (95, true), ⟨[], []⟩, .fld (.t 7) 3⟩,
    ⟨some 97, some (95, true), ⟨[], []⟩, .ld false none 0 0 (.t 96)⟩,
    ⟨some 98, some (95, true), ⟨[], []⟩, .mov (.t 12)⟩,
    ⟨some 99, some (95, true), ⟨[], []⟩, .idxS (.t 97) (.t 98) 1⟩,
    ⟨some 100, some (95, true), ⟨[], []⟩, .ld true none 0 0 (.t 99)⟩,
    ⟨some 101, some (95, true), ⟨[], []⟩, .bin 0 .gtr (.t 100) (.k (.int .i64 0))⟩,
    ⟨some 102, none, ⟨[], []⟩, .pick (.t 95) (.t 101) (.k (.bool false))⟩,
    ⟨some 103, none, ⟨[], []⟩, .mov (.t 102)⟩,
    ⟨some 104, some (103, true), ⟨[], []⟩, .fld (.t 7) 3⟩,
    ⟨some 105, some (103, true), ⟨[], []⟩, .ld false none 0 0 (.t 104)⟩,
    ⟨some 106, some (103, true), ⟨[], []⟩, .mov (.t 12)⟩,
    ⟨some 107, some (103, true), ⟨[], []⟩, .idxS (.t 105) (.t 106) 1⟩,
    ⟨some 108, some (103, true), ⟨[], []⟩, .ld true none 0 0 (.t 107)⟩,
    ⟨some 109, some (103, true), ⟨[], []⟩, .bin 0 .lss (.t 108) (.k (.int .i64 255))⟩,
    ⟨some 110, none, ⟨[], []⟩, .pick (.t 103) (.t 109) (.k (.bool false))⟩,
    ⟨some 111, none, ⟨[], []⟩, .mov (.t 110)⟩,
    ⟨some 112, some (111, true), ⟨[], []⟩, .fld (.t 7) 4⟩,
    ⟨some 113, some (111, true), ⟨[], []⟩, .ld false none 0 0 (.t 112)⟩,
    ⟨some 114, some (111, true), ⟨[], []⟩, .mov (.t 12)⟩,
    ⟨some 115, some (111, true), ⟨[], []⟩, .idxS (.t 113) (.t 114) 1⟩,
    ⟨some 116, some (111, true), ⟨[], []⟩, .ld true none 0 0 (.t 115)⟩,
    ⟨some 117, some (111, true), ⟨[], []⟩, .bin 0 .gtr (.t 116) (.k (.int .i64 0))⟩,
    ⟨some 118, none, ⟨[], []⟩, .pick (.t 111) (.t 117) (.k (.bool false))⟩,
    ⟨some 119, none, ⟨[], []⟩, .mov (.t 118)⟩,
    ⟨some 120, some (119, true), ⟨[], []⟩, .fld (.t 7) 4⟩,
    ⟨some 121, some (119, true), ⟨[], []⟩, .ld false none 0 0 (.t 120)⟩,
    ⟨some 122, some (119, true), ⟨[], []⟩, .mov (.t 12)⟩,
    ⟨some 123, some (119, true), ⟨[], []⟩, .idxS (.t 121) (.t 122) 1⟩,
    ⟨some 124, some (119, true), ⟨[], []⟩, .ld true none 0 0 (.t 123)⟩,
    ⟨some 125, some (119, true), ⟨[], []⟩, .bin 0 .lss (.t 124) (.k (.int .i64 255))⟩,
    ⟨some 126, none, ⟨[], []⟩, .pick (.t 119) (.t 125) (.k (.bool false))⟩,
    ⟨some 13, none, ⟨[], []⟩, .mov (.t 126)⟩] [78, 81, 82, 83, 84, 85, 86, 87, 88, 89, 90, 91, 92, 93, 94, 95, 96, 97, 98, 99, 100, 101, 102, 103, 104, 105, 106, 107, 108, 109, 110, 111, 112, 113, 114, 115, 116, 117, 118, 119, 120, 121, 122, 123, 124, 125, 126] []) (.seq (.reg true [⟨some 127, none, ⟨[], []⟩, .mov (.t 13)⟩,
    ⟨some 128, none, ⟨[], []⟩, .mov (.t 127)⟩,
    ⟨some 129, some (128, true), ⟨[], []⟩, .fld (.t 11) 2⟩,
    ⟨some 130, some (128, true), ⟨[], []⟩, .ld false none 0 0 (.t 129)⟩,
    ⟨some 131, some (128, true), ⟨[], []⟩, .mov (.t 12)⟩,
    ⟨some 132, some (128, true), ⟨[], []⟩, .idxS (.t 130) (.t 131) 1⟩,
    ⟨some 133, some (128, true), ⟨[], []⟩, .ld true none 0 0 (.t 132)⟩,
    ⟨some 134, some (128, true), ⟨[], []⟩, .fld (.t 3) 2⟩,
    ⟨some 135, some (128, true), ⟨[], []⟩, .ld false none 0 0 (.t 134)⟩,
    ⟨some 136, some (128, true), ⟨[], []⟩, .mov (.t 12)⟩,
    ⟨some 137, some (128, true), ⟨[], []⟩, .idxS (.t 135) (.t 136) 1⟩,
    ⟨some 138, some (128, true), ⟨[], []⟩, .ld true none 0 0 (.t 137)⟩,
    ⟨some 139, some (128, true), ⟨[], []⟩, .bin 0 .neq (.t 133) (.t 138)⟩,
    ⟨some 140, none, ⟨[], []⟩, .pick (.t 128) (.t 139) (.k (.bool false))⟩] [13, 127, 128, 129, 130, 131, 132, 133, 134, 135, 136, 137, 138, 139] []) (.cond (.t 140) (.seq (.reg false [⟨some 6, none, ⟨[], []⟩, .mov (.k (.bool false))⟩] [3, 7, 11, 12, 140] []) (.ret)) (.skip))))) (.reg false [⟨some 79, none, ⟨[], []⟩, .mov (.t 12)⟩,
    ⟨some 80, none, ⟨[], []⟩, .bin 0 .add (.t 79) (.k (.int .i64 1))⟩,
    ⟨some 12, none, ⟨[], []⟩, .mov (.t 80)⟩] [6, 79, 80, 140] []))
def r6_2 : IR :=
  .seq (.reg false [⟨some 141, none, ⟨[], []⟩, .call (some 4) 40 12 []⟩,
    ⟨some 6, none, ⟨[], []⟩, .mov (.t 141)⟩] [3, 7, 11, 12, 141] []) (.ret)
def ir6 : IR :=
  .seq (.reg false [⟨some 3, none, ⟨[], []⟩, .box 10 (.t 0)⟩,
    ⟨some 4, none, ⟨[], []⟩, .box 11 (.t 1)⟩,
    ⟨some 5, none, ⟨[], []⟩, .box 12 (.t 2)⟩,
    ⟨some 6, none, ⟨[], []⟩, .mov (.k (.bool false))⟩] [0, 1, 2, 6] []) (.seq (.seq (.reg false [⟨some 14, none, ⟨[], []⟩, .fld (.t 3) 2⟩,
    ⟨some 15, none, ⟨[], []⟩, .ld false none 0 0 (.t 14)⟩,
    ⟨some 16, none, ⟨[], []⟩, .len (.t 15)⟩,
    ⟨some 17, none, ⟨[], []⟩, .fld (.t 4) 2⟩,
    ⟨some 18, none, ⟨[], []⟩, .ld false none 0 0 (.t 17)⟩,
    ⟨some 19, none, ⟨[], []⟩, .len (.t 18)⟩,
    ⟨some 20, none, ⟨[], []⟩, .bin 0 .add (.t 16) (.t 19)⟩,
    ⟨some 21, none, ⟨[], []⟩, .fld (.t 5) 2⟩,
    ⟨some 22, none, ⟨[], []⟩, .ld false none 0 0 (.t 21)⟩,
    ⟨some 23, none, ⟨[], []⟩, .len (.t 22)⟩,
    ⟨some 24, none, ⟨[], []⟩, .bin 0 .add (.t 20) (.t 23)⟩,
    ⟨some 25, none, ⟨[], []⟩, .bin 0 .gtr (.t 24) (.k (.int .i64 9000))⟩] [14, 15, 16, 17, 18, 19, 20, 21, 22, 23, 24] []) (.cond (.t 25) (.seq (.reg false [⟨some 26, none, ⟨[], []⟩, .call (some 4) 13 12 []⟩,
    ⟨some 6, none, ⟨[], []⟩, .mov (.t 26)⟩] [3, 4, 5, 25, 26] []) (.ret)) (.skip))) (.seq (.reg false [⟨some 28, none, ⟨[], []⟩, .ld false (some 3) 0 0 (.t 3)⟩,
    ⟨some 29, none, ⟨[], []⟩, .ld false (some 3) 0 0 (.t 4)⟩,
    ⟨some 30, none, ⟨[], []⟩, .ld false (some 3) 0 0 (.t 5)⟩,
    ⟨some 31, none, ⟨[], []⟩, .call (some 4) 17 23 [.t 28, .t 29, .t 30]⟩,
    ⟨some 27, none, ⟨[], []⟩, .mov (.t 31)⟩,
    ⟨some 32, none, ⟨[], []⟩, .ext (.t 27) 0⟩,
    ⟨some 33, none, ⟨[], []⟩, .ext (.t 27) 1⟩,
    ⟨some 7, none, ⟨[], []⟩, .alloc 21 [.int .i64 0, .int .i64 0, nilSV, nilSV, nilSV]⟩,
    ⟨none, none, ⟨[], []⟩, .sto false 5 .i64 (.t 7) (.t 32)⟩,
    ⟨some 8, none, ⟨[], []⟩, .mov (.t 33)⟩] [6, 25, 27, 28, 29, 30, 31, 32, 33] []) (.seq (.reg false [⟨some 35, none, ⟨[], []⟩, .ld false (some 3) 0 0 (.t 3)⟩,
    ⟨some 36, none, ⟨[], []⟩, .ld false (some 3) 0 0 (.t 4)⟩,
    ⟨some 37, none, ⟨[], []⟩, .ld false (some 3) 0 0 (.t 5)⟩,
    ⟨some 38, none, ⟨[], []⟩, .call (some 4) 22 24 [.t 35, .t 36, .t 37]⟩,
    ⟨some 34, none, ⟨[], []⟩, .mov (.t 38)⟩,
    ⟨some 39, none, ⟨[], []⟩, .ext (.t 34) 0⟩,
    ⟨some 40, none, ⟨[], []⟩, .ext (.t 34) 1⟩,
    ⟨some 9, none, ⟨[], []⟩, .alloc 26 [.int .i64 0, .int .i64 0, nilSV, nilSV, nilSV]⟩,
    ⟨none, none, ⟨[], []⟩, .sto false 5 .i64 (.t 9) (.t 39)⟩,
    ⟨some 10, none, ⟨[], []⟩, .mov (.t 40)⟩] [4, 5, 34, 35, 36, 37, 38, 39, 40] []) (.seq (.seq (.reg false [⟨some 41, none, ⟨[], []⟩, .mov (.t 8)⟩,
    ⟨some 42, none, ⟨[], []⟩, .mov (.t 10)⟩,
    ⟨some 43, none, ⟨[], []⟩, .bin 0 .neq (.t 41) (.t 42)⟩,
    ⟨some 44, none, ⟨[], []⟩, .mov (.t 43)⟩,
    ⟨some 45, some (44, false), ⟨[], []⟩, .ld false (some 5) 0 0 (.t 7)⟩,
    ⟨some 46, some (44, false), ⟨[], []⟩, .ld false (some 5) 0 0 (.t 9)⟩,
    ⟨some 47, some (44, false), ⟨[], []⟩, .call (some 4) 27 17 [.t 45, .t 46]⟩,
    ⟨some 48, some (44, false), ⟨[], []⟩, .not (.t 47)⟩,
    ⟨some 49, none, ⟨[], []⟩, .pick (.t 44) (.k (.bool true)) (.t 48)⟩] [9, 10, 41, 42, 43, 44, 45, 46, 47, 48] []) (.cond (.t 49) (.seq (.reg false [⟨some 6, none, ⟨[], []⟩, .mov (.k (.bool false))⟩] [3, 7, 8, 49] []) (.ret)) (.skip))) (.seq (.seq (.reg false [⟨some 50, none, ⟨[], []⟩, .mov (.t 8)⟩,
    ⟨some 51, none, ⟨[], []⟩, .bin 0 .neq (.t 50) (.k (.int .i64 0))⟩] [6, 8, 49, 50] []) (.cond (.t 51) (.seq (.reg false [⟨some 52, none, ⟨[], []⟩, .call (some 4) 31 12 []⟩,
    ⟨some 6, none, ⟨[], []⟩, .mov (.t 52)⟩] [3, 7, 51, 52] []) (.ret)) (.skip))) (.seq (.reg false [⟨some 54, none, ⟨[], []⟩, .ld false (some 5) 0 0 (.t 7)⟩,
    ⟨some 55, none, ⟨[], []⟩, .call (some 4) 35 25 [.t 54]⟩,
    ⟨some 53, none, ⟨[], []⟩, .mov (.t 55)⟩,
    ⟨some 56, none, ⟨[], []⟩, .ext (.t 53) 0⟩,
    ⟨some 57, none, ⟨[], []⟩, .ext (.t 53) 1⟩,
    ⟨some 11, none, ⟨[], []⟩, .alloc 39 [.int .i64 0, .int .i64 0, nilSV]⟩,
    ⟨none, none, ⟨[], []⟩, .sto false 3 .i64 (.t 11) (.t 56)⟩,
    ⟨some 8, none, ⟨[], []⟩, .mov (.t 57)⟩] [6, 51, 53, 54, 55, 56, 57] []) (.seq (.seq (.reg false [⟨some 58, none, ⟨[], []⟩, .mov (.t 8)⟩,
    ⟨some 59, none, ⟨[], []⟩, .bin 0 .neq (.t 58) (.k (.int .i64 0))⟩,
    ⟨some 60, none, ⟨[], []⟩, .mov (.t 59)⟩,
    ⟨some 61, some (60, false), ⟨[], []⟩, .fld (.t 11) 0⟩,
    ⟨some 62, some (60, false), ⟨[], []⟩, .ld false none 0 0 (.t 61)⟩,
    ⟨some 63, some (60, false), ⟨[], []⟩, .fld (.t 3) 0⟩,
    ⟨some 64, some (60, false), ⟨[], []⟩, .ld false none 0 0 (.t 63)⟩,
    ⟨some 65, some (60, false), ⟨[], []⟩, .bin 0 .neq (.t 62) (.t 64)⟩,
    ⟨some 66, none, ⟨[], []⟩, .pick (.t 60) (.k (.bool true)) (.t 65)⟩,
    ⟨some 67, none, ⟨[], []⟩, .mov (.t 66)⟩,
    ⟨some 68, some (67, false), ⟨[], []⟩, .fld (.t 11) 1⟩,
    ⟨some 69, some (67, false), ⟨[], []⟩, .ld false none 0 0 (.t 68)⟩,
    ⟨some 70, some (67, false), ⟨[], []⟩, .fld (.t 3) 1⟩,
    ⟨some 71, some (67, false), ⟨[], []⟩, .ld false none 0 0 (.t 70)⟩,
    ⟨some 72, some (67, false), ⟨[], []⟩, .bin 0 .neq (.t 69) (.t 71)⟩,
    ⟨some 73, none, ⟨[], []⟩, .pick (.t 67) (.k (.bool true)) (.t 72)⟩] [8, 58, 59, 60, 61, 62, 63, 64, 65, 66, 67, 68, 69, 70, 71, 72] []) (.cond (.t 73) (.seq (.reg false [⟨some 6, none, ⟨[], []⟩, .mov (.k (.bool false))⟩] [3, 7, 11, 73] []) (.ret)) (.skip))) (.seq (.seq (.reg false [⟨some 12, none, ⟨[], []⟩, .mov (.k (.int .i64 0))⟩] [6, 73] []) (.block 0 (.loop b6_1))) (r6_2)))))))))
def kp6_1 : List Nat := [3, 7, 11, 12]
def kl6_1 : List Nat := []
attribute [push_cast] kp6_1 kl6_1
theorem comp6 : (Try.f6.body.bind fun c => compC tab isP chkAll ir6 c) = some ir6 := by kernel_rfl
set_option maxRecDepth 512

theorem clampI_val (n : Int) : ValOk (clampI n) := by unfold ValOk clampI; omega
theorem back_grey {w h w1 h1 w2 h2 : Int} {xs ys ws : List Int} {L1 L2 L3 : Xf.Loc} (H : (⟨⟨⟨w, h, xs⟩, L1⟩, ⟨⟨w1, h1, ys⟩, L2⟩, ⟨⟨w2, h2, ws⟩, L3⟩⟩ : Bk).Ok) :
    ∃ R G B T, (∀ L1 L2 L3, (⟨⟨⟨w, h, xs⟩, L1⟩, ⟨⟨w1, h1, ys⟩, L2⟩, ⟨⟨w2, h2, ws⟩, L3⟩⟩ : Bk).Ok ∧ backI ⟨⟨⟨w, h, xs⟩, L1⟩, ⟨⟨w1, h1, ys⟩, L2⟩, ⟨⟨w2, h2, ws⟩, L3⟩⟩ = ⟨w, h, R, G, B⟩) ∧ (⟨w, h, R, G, B⟩ : Im).Ok ∧ turn tY ⟨w, h, R, G, B⟩ = ⟨w, h, T⟩ ∧
      R.length = xs.length ∧ G.length = xs.length ∧ B.length = xs.length ∧ T.length = xs.length ∧ (w * h ≤ 8192 ∧ (xs.length : Int) = w * h) ∧
      ∀ k : Nat, k < xs.length → 0 < rd R k ∧ rd R k < 255 ∧ 0 < rd G k ∧ rd G k < 255 ∧ 0 < rd B k ∧ rd B k < 255 → rd T k = rd xs k := by
  have H0 := H
  obtain ⟨hs, hl, ly, lz, rfl, rfl, rfl, rfl, hv⟩ := H.val
  have key : ∀ f : Nat → Int, (∀ k, ValOk (f k)) → ((tabl xs.length f).length : Int) = w2 * h2 ∧ AllVal (tabl xs.length f) := by
    intro f hf
    refine ⟨by rw [tabl_length]; exact hl, ?_⟩
    rw [allVal_rd]
    intro j hj
    rw [tabl_length] at hj
    rw [rd_tabl hj]; exact hf j
  have hO : (⟨w2, h2, tabl xs.length (bkR xs ys ws), tabl xs.length (bkG xs ys ws), tabl xs.length (bkB xs ys ws)⟩ : Im).Ok :=
    ⟨hs, key _ fun k => clampI_val _, key _ fun k => clampI_val _, key _ fun k => clampI_val _⟩
  refine ⟨_, _, _, tabl xs.length (tY ⟨w2, h2, tabl xs.length (bkR xs ys ws), tabl xs.length (bkG xs ys ws), tabl xs.length (bkB xs ys ws)⟩), fun _ _ _ => ⟨H0, by unfold backI; exact if_pos H0⟩, hO, ?_, tabl_length _ _, tabl_length _ _, tabl_length _ _, tabl_length _ _, ⟨hs.2.2.2.2, hl⟩, ?_⟩
  · unfold turn; rw [if_pos hO]; simp only [tabl_length]
  · intro k hk hi
    rw [rd_tabl hk]
    unfold tY
    simp only
    rw [rd_tabl hk, rd_tabl hk, rd_tabl hk] at hi ⊢
    unfold bkR bkG bkB bG clampI at hi ⊢
    omega

theorem tri6 (b : Bk) (hb : b.small) : Tri Try.prog 6 [plV b.y.p b.y.L 0, plV b.u.p b.u.L 1, plV b.v.p b.v.L 2]
    [some (.ro, b.y.L, .ints .i64 b.y.p.xs), some (.ro, b.u.L, .ints .i64 b.u.p.xs), some (.ro, b.v.L, .ints .i64 b.v.p.xs)] (fun v _ => v = .bool true) := by
  obtain ⟨⟨⟨w, h, xs⟩, L1⟩, ⟨⟨w1, h1, ys⟩, L2⟩, ⟨⟨w2, h2, ws⟩, L3⟩⟩ := b
  have hb2 := hb
  obtain ⟨s1, s2, s3⟩ : xs.length ≤ 140737488355328 ∧ ys.length ≤ 140737488355328 ∧ ws.length ≤ 140737488355328 := hb
  by_cases hc : (⟨⟨⟨w, h, xs⟩, L1⟩, ⟨⟨w1, h1, ys⟩, L2⟩, ⟨⟨w2, h2, ws⟩, L3⟩⟩ : Bk).Ok
  · obtain ⟨R, G, B, T, hk, hO, hT, lR, lG, lB, lT, ⟨hm, hl⟩, hi⟩ := back_grey hc
    have k1 := fun L1 L2 L3 => (hk L1 L2 L3).1
    have k2 := fun L1 L2 L3 => (hk L1 L2 L3).2
    have hr := Im.Eq.refl ⟨w, h, R, G, B⟩
    have hsm : (⟨w, h, R, G, B⟩ : Im).small := ⟨by simp only; omega, by simp only; omega, by simp only; omega⟩
    refine tri_evS (hyp (l := [(12, ent12), (17, ent17), (25, ent25), (24, ent24), (23, ent23)]) (lp := []) ⟨e12, e17, e25, e24, e23, trivial⟩ trivial) Try.func6 comp6 (rs := [.tmp 6]) (by rfl) Try.ntmps6 44 ?_
    simp -implicitDefEqProofs only [push_cast, false_implies, reduceCtorEq, Classical.not_not, Nat.reduceAdd, Nat.reduceSub, Nat.reduceMul, Nat.reduceLeDiff, Nat.reduceLT, Nat.reduceEqDiff, Nat.reduceBEq, Nat.reduceBNe, Int.reduceNeg, Int.reduceToNat, Bool.or_false, Bool.false_or, Bool.or_true, Bool.true_or, BEq.rfl, Bool.not_eq_true, Bool.not_eq_false, decide_eq_true_eq, not_true_eq_false, not_false_eq_true, ite_true, ite_false, List.append_nil, and_assoc, Nat.mul_zero, Nat.zero_mul, ir6, fs12, fs17, fs25, fs23, hb2, k1, k2, hr, hsm, hO, hT, if_true]
    intro X
    repeat (refine ⟨by first | omega | trivial | (intros; omega), ?_⟩)
    intro _ X1 X2 X3
    refine evS_loopU (A := Nat) kp6_1 kl6_1 (fun i => [(12, .int .i64 i)]) (fun _ => []) (fun i => i ≤ xs.length) (fun i => xs.length - i) 0 (by omega) (Sub.pt ?_) ?_
    · simp -implicitDefEqProofs only [push_cast, false_implies, reduceCtorEq, Classical.not_not, Nat.reduceAdd, Nat.reduceSub, Nat.reduceMul, Nat.reduceLeDiff, Nat.reduceLT, Nat.reduceEqDiff, Nat.reduceBEq, Nat.reduceBNe, Int.reduceNeg, Int.reduceToNat, Bool.or_false, Bool.false_or, Bool.or_true, Bool.true_or, BEq.rfl, Bool.not_eq_true, Bool.not_eq_false, decide_eq_true_eq, not_true_eq_false, not_false_eq_true, ite_true, ite_false, List.append_nil, and_assoc, Nat.mul_zero, Nat.zero_mul]
    intro k (hk : k ≤ xs.length) K hK
    simp -implicitDefEqProofs only [push_cast, false_implies, reduceCtorEq, Classical.not_not, Nat.reduceAdd, Nat.reduceSub, Nat.reduceMul, Nat.reduceLeDiff, Nat.reduceLT, Nat.reduceEqDiff, Nat.reduceBEq, Nat.reduceBNe, Int.reduceNeg, Int.reduceToNat, Bool.or_false, Bool.false_or, Bool.or_true, Bool.true_or, BEq.rfl, Bool.not_eq_true, Bool.not_eq_false, decide_eq_true_eq, not_true_eq_false, not_false_eq_true, ite_true, ite_false, List.append_nil, and_assoc, Nat.mul_zero, Nat.zero_mul, b6_1, r6_2, fs12]
    intro hk1
    have hi2 := hi k (by omega)
    repeat (refine ⟨by first | omega | trivial | (intros; omega), ?_⟩)
    refine fun _ => ⟨by omega, by omega, hK (k + 1) (by omega) (by omega) _ _ (Sub.pt ?_)⟩
    simp -implicitDefEqProofs only [push_cast, false_implies, reduceCtorEq, Classical.not_not, Nat.reduceAdd, Nat.reduceSub, Nat.reduceMul, Nat.reduceLeDiff, Nat.reduceLT, Nat.reduceEqDiff, Nat.reduceBEq, Nat.reduceBNe, Int.reduceNeg, Int.reduceToNat, Bool.or_false, Bool.false_or, Bool.or_true, Bool.true_or, BEq.rfl, Bool.not_eq_true, Bool.not_eq_false, decide_eq_true_eq, not_true_eq_false, not_false_eq_true, ite_true, ite_false, List.append_nil, and_assoc, Nat.mul_zero, Nat.zero_mul]
  · have hr := Im.Eq.refl im0
    have hsm : im0.small := ⟨by decide, by decide, by decide⟩
    have hn : backI ⟨⟨⟨w, h, xs⟩, L1⟩, ⟨⟨w1, h1, ys⟩, L2⟩, ⟨⟨w2, h2, ws⟩, L3⟩⟩ = im0 := if_neg hc
    obtain ⟨c, hcc, hc0⟩ : ∃ c : Int, (if (⟨⟨⟨w, h, xs⟩, L1⟩, ⟨⟨w1, h1, ys⟩, L2⟩, ⟨⟨w2, h2, ws⟩, L3⟩⟩ : Bk).planes then (2 : Int) else 70) = c ∧ ¬ c = 0 := ⟨_, rfl, by split <;> decide⟩
    refine tri_evS (hyp (l := [(12, ent12), (17, ent17), (25, ent25), (24, ent24), (23, ent23)]) (lp := []) ⟨e12, e17, e25, e24, e23, trivial⟩ trivial) Try.func6 comp6 (rs := [.tmp 6]) (by rfl) Try.ntmps6 44 ?_
    simp -implicitDefEqProofs only [push_cast, false_implies, reduceCtorEq, Classical.not_not, Nat.reduceAdd, Nat.reduceSub, Nat.reduceMul, Nat.reduceLeDiff, Nat.reduceLT, Nat.reduceEqDiff, Nat.reduceBEq, Nat.reduceBNe, Int.reduceNeg, Int.reduceToNat, Bool.or_false, Bool.false_or, Bool.or_true, Bool.true_or, BEq.rfl, Bool.not_eq_true, Bool.not_eq_false, decide_eq_true_eq, not_true_eq_false, not_false_eq_true, ite_true, ite_false, List.append_nil, and_assoc, Nat.mul_zero, Nat.zero_mul, ir6, fs12, fs17, fs25, fs23, hcc, hc0, hb2, hc, hn, hr, hsm, if_false]
    omega
end Go.Proofs.Ytnmbimhcfioeiaa
