import Derived.Test.YtnmbimhcfioeiaaVn
set_option linter.unusedVariables false
set_option linter.unusedSimpArgs false
/-! The reference's planes and Back; Grey. -/
namespace Go.Proofs.Ytnmbimhcfioeiaa
open Xf
set_option maxRecDepth 4000
/- incunable/incunableref17.IsPlane : slots 42, labels 10..10; loop b51_1 keeps [1, 3] -/
def b51_1 : IR :=
  .seq (.seq (.reg false [⟨some 21, none, ⟨[], []⟩, .mov (.t 3)⟩,
    ⟨some 22, none, ⟨[], []⟩, .fld (.t 1) 2⟩,
    ⟨some 23, none, ⟨[], []⟩, .ld false none 0 0 (.t 22)⟩,
    ⟨some 24, none, ⟨[], []⟩, .len (.t 23)⟩,
    ⟨some 25, none, ⟨[], []⟩, .bin 0 .lss (.t 21) (.t 24)⟩] [21, 22, 23, 24] []) (.cond (.t 25) (.skip) (.exit 0))) (.seq (.block 1 (.seq (.reg false [⟨some 28, none, ⟨[], []⟩, .fld (.t 1) 2⟩,
    ⟨some 29, none, ⟨[], []⟩, .ld false none 0 0 (.t 28)⟩,
    ⟨some 30, none, ⟨[], []⟩, .mov (.t 3)⟩,
    ⟨some 31, none, ⟨[], []⟩, .idxS (.t 29) (.t 30) 1⟩,
    ⟨some 32, none, ⟨[], []⟩, .ld true none 0 0 (.t 31)⟩,
    ⟨some 33, none, ⟨[], []⟩, .bin 0 .lss (.t 32) (.k (.int .i64 (-16777216)))⟩,
    ⟨some 34, none, ⟨[], []⟩, .mov (.t 33)⟩,
    ⟨some 35, some (34, false), ⟨[], []⟩, .fld (.t 1) 2⟩,
    ⟨some 36, some (34, false), ⟨[], []⟩, .ld false none 0 0 (.t 35)⟩,
    ⟨some 37, some (34, false), ⟨[], []⟩, .mov (.t 3)⟩,
    ⟨some 38, some (34, false), ⟨[], []⟩, .idxS (.t 36) (.t 37) 1⟩,
    ⟨some 39, some (34, false), ⟨[], []⟩, .ld true none 0 0 (.t 38)⟩,
    ⟨some 40, some (34, false), ⟨[], []⟩, .bin 0 .gtr (.t 39) (.k (.int .i64 16777216))⟩,
    ⟨some 41, none, ⟨[], []⟩, .pick (.t 34) (.k (.bool true)) (.t 40)⟩] [25, 28, 29, 30, 31, 32, 33, 34, 35, 36, 37, 38, 39, 40] []) (.cond (.t 41) (.seq (.reg false [⟨some 2, none, ⟨[], []⟩, .mov (.k (.bool false))⟩] [1, 3, 41] []) (.ret)) (.skip)))) (.reg false [⟨some 26, none, ⟨[], []⟩, .mov (.t 3)⟩,
    ⟨some 27, none, ⟨[], []⟩, .bin 0 .add (.t 26) (.k (.int .i64 1))⟩,
    ⟨some 3, none, ⟨[], []⟩, .mov (.t 27)⟩] [2, 26, 27, 41] []))
def r51_2 : IR :=
  .seq (.reg false [⟨some 2, none, ⟨[], []⟩, .mov (.k (.bool true))⟩] [1, 3] []) (.ret)
def ir51 : IR :=
  .seq (.reg false [⟨some 1, none, ⟨[], []⟩, .box 10 (.t 0)⟩,
    ⟨some 2, none, ⟨[], []⟩, .mov (.k (.bool false))⟩] [0, 2] []) (.seq (.seq (.reg false [⟨some 4, none, ⟨[], []⟩, .fld (.t 1) 0⟩,
    ⟨some 5, none, ⟨[], []⟩, .ld false none 0 0 (.t 4)⟩,
    ⟨some 6, none, ⟨[], []⟩, .fld (.t 1) 1⟩,
    ⟨some 7, none, ⟨[], []⟩, .ld false none 0 0 (.t 6)⟩,
    ⟨some 8, none, ⟨[], []⟩, .callp 43 [.t 5, .t 7]⟩,
    ⟨some 9, none, ⟨[], []⟩, .not (.t 8)⟩,
    ⟨some 10, none, ⟨[], []⟩, .mov (.t 9)⟩,
    ⟨some 11, some (10, false), ⟨[], []⟩, .fld (.t 1) 2⟩,
    ⟨some 12, some (10, false), ⟨[], []⟩, .ld false none 0 0 (.t 11)⟩,
    ⟨some 13, some (10, false), ⟨[], []⟩, .len (.t 12)⟩,
    ⟨some 14, some (10, false), ⟨[], []⟩, .fld (.t 1) 0⟩,
    ⟨some 15, some (10, false), ⟨[], []⟩, .ld false none 0 0 (.t 14)⟩,
    ⟨some 16, some (10, false), ⟨[], []⟩, .fld (.t 1) 1⟩,
    ⟨some 17, some (10, false), ⟨[], []⟩, .ld false none 0 0 (.t 16)⟩,
    ⟨some 18, some (10, false), ⟨[], []⟩, .bin 0 .mul (.t 15) (.t 17)⟩,
    ⟨some 19, some (10, false), ⟨[], []⟩, .bin 0 .neq (.t 13) (.t 18)⟩,
    ⟨some 20, none, ⟨[], []⟩, .pick (.t 10) (.k (.bool true)) (.t 19)⟩] [4, 5, 6, 7, 8, 9, 10, 11, 12, 13, 14, 15, 16, 17, 18, 19] []) (.cond (.t 20) (.seq (.reg false [⟨some 2, none, ⟨[], []⟩, .mov (.k (.bool false))⟩] [1, 20] []) (.ret)) (.skip))) (.seq (.seq (.reg false [⟨some 3, none, ⟨[], []⟩, .mov (.k (.int .i64 0))⟩] [2, 20] []) (.block 0 (.loop b51_1))) (r51_2)))
def kp51_1 : List Nat := [1, 3]
def kl51_1 : List Nat := []
attribute [push_cast] kp51_1 kl51_1
theorem comp51 : (Try.f51.body.bind fun c => compC tab isP chkAll ir51 c) = some ir51 := by kernel_rfl
/- incunable/incunableref19.Back : slots 116, labels 10..32; loop b24_1 keeps [3, 4, 5, 6, 8, 9] -/
def b24_1 : IR :=
  .seq (.seq (.reg false [⟨some 57, none, ⟨[], []⟩, .mov (.t 9)⟩,
    ⟨some 58, none, ⟨[], []⟩, .fld (.t 3) 2⟩,
    ⟨some 59, none, ⟨[], []⟩, .ld false none 0 0 (.t 58)⟩,
    ⟨some 60, none, ⟨[], []⟩, .len (.t 59)⟩,
    ⟨some 61, none, ⟨[], []⟩, .bin 0 .lss (.t 57) (.t 60)⟩] [57, 58, 59, 60] []) (.cond (.t 61) (.skip) (.exit 0))) (.seq (.block 1 (.seq (.reg true [⟨some 64, none, ⟨[], []⟩, .fld (.t 3) 2⟩,
    ⟨some 65, none, ⟨[], []⟩, .ld false none 0 0 (.t 64)⟩,
    ⟨some 66, none, ⟨[], []⟩, .mov (.t 9)⟩,
    ⟨some 67, none, ⟨[], []⟩, .idxS (.t 65) (.t 66) 1⟩,
    ⟨some 68, none, ⟨[], []⟩, .ld true none 0 0 (.t 67)⟩,
    ⟨some 69, none, ⟨[], []⟩, .fld (.t 4) 2⟩,
    ⟨some 70, none, ⟨[], []⟩, .ld false none 0 0 (.t 69)⟩,
    ⟨some 71, none, ⟨[], []⟩, .mov (.t 9)⟩,
    ⟨some 72, none, ⟨[], []⟩, .idxS (.t 70) (.t 71) 1⟩,
    ⟨some 73, none, ⟨[], []⟩, .ld true none 0 0 (.t 72)⟩,
    ⟨some 74, none, ⟨[], []⟩, .fld (.t 5) 2⟩,
    ⟨some 75, none, ⟨[], []⟩, .ld false none 0 0 (.t 74)⟩,
    ⟨some 76, none, ⟨[], []⟩, .mov (.t 9)⟩,
    ⟨some 77, none, ⟨[], []⟩, .idxS (.t 75) (.t 76) 1⟩,
    ⟨some 78, none, ⟨[], []⟩, .ld true none 0 0 (.t 77)⟩,
    ⟨some 79, none, ⟨[], []⟩, .bin 0 .add (.t 73) (.t 78)⟩,
    ⟨some 80, none, ⟨[], []⟩, .callp 48 [.t 79, .k (.int .i64 4)]⟩,
    ⟨some 81, none, ⟨[], []⟩, .bin 0 .sub (.t 68) (.t 80)⟩,
    ⟨some 10, none, ⟨[], []⟩, .mov (.t 81)⟩] [61, 64, 65, 66, 67, 68, 69, 70, 71, 72, 73, 74, 75, 76, 77, 78, 79, 80, 81] []) (.seq (.reg true [⟨some 82, none, ⟨[], []⟩, .fld (.t 8) 2⟩,
    ⟨some 83, none, ⟨[27], []⟩, .ld false none 0 0 (.t 82)⟩,
    ⟨some 84, none, ⟨[], []⟩, .fld (.t 5) 2⟩,
    ⟨some 85, none, ⟨[], []⟩, .ld false none 0 0 (.t 84)⟩,
    ⟨some 86, none, ⟨[], []⟩, .mov (.t 9)⟩,
    ⟨some 87, none, ⟨[], []⟩, .idxS (.t 85) (.t 86) 1⟩,
    ⟨some 88, none, ⟨[], []⟩, .ld true none 0 0 (.t 87)⟩,
    ⟨some 89, none, ⟨[], []⟩, .mov (.t 10)⟩,
    ⟨some 90, none, ⟨[], []⟩, .bin 0 .add (.t 88) (.t 89)⟩,
    ⟨some 91, none, ⟨[], []⟩, .callp 52 [.t 90]⟩,
    ⟨some 92, none, ⟨[], []⟩, .bslice 27 [.t 91]⟩,
    ⟨some 93, none, ⟨[], []⟩, .app 28 1 8 (.t 83) (.t 92)⟩,
    ⟨some 94, none, ⟨[], []⟩, .fld (.t 8) 2⟩,
    ⟨none, none, ⟨[], []⟩, .sto false 1 .i64 (.t 94) (.t 93)⟩] [82, 83, 84, 85, 86, 87, 88, 89, 90, 91, 92, 93, 94] []) (.seq (.reg true [⟨some 95, none, ⟨[], []⟩, .fld (.t 8) 3⟩,
    ⟨some 96, none, ⟨[29], []⟩, .ld false none 0 0 (.t 95)⟩,
    ⟨some 97, none, ⟨[], []⟩, .mov (.t 10)⟩,
    ⟨some 98, none, ⟨[], []⟩, .callp 52 [.t 97]⟩,
    ⟨some 99, none, ⟨[], []⟩, .bslice 29 [.t 98]⟩,
    ⟨some 100, none, ⟨[], []⟩, .app 30 1 8 (.t 96) (.t 99)⟩,
    ⟨some 101, none, ⟨[], []⟩, .fld (.t 8) 3⟩,
    ⟨none, none, ⟨[], []⟩, .sto false 1 .i64 (.t 101) (.t 100)⟩] [95, 96, 97, 98, 99, 100, 101] []) (.reg true [⟨some 102, none, ⟨[], []⟩, .fld (.t 8) 4⟩,
    ⟨some 103, none, ⟨[31], []⟩, .ld false none 0 0 (.t 102)⟩,
    ⟨some 104, none, ⟨[], []⟩, .fld (.t 4) 2⟩,
    ⟨some 105, none, ⟨[], []⟩, .ld false none 0 0 (.t 104)⟩,
    ⟨some 106, none, ⟨[], []⟩, .mov (.t 9)⟩,
    ⟨some 107, none, ⟨[], []⟩, .idxS (.t 105) (.t 106) 1⟩,
    ⟨some 108, none, ⟨[], []⟩, .ld true none 0 0 (.t 107)⟩,
    ⟨some 109, none, ⟨[], []⟩, .mov (.t 10)⟩,
    ⟨some 110, none, ⟨[], []⟩, .bin 0 .add (.t 108) (.t 109)⟩,
    ⟨some 111, none, ⟨[], []⟩, .callp 52 [.t 110]⟩,
    ⟨some 112, none, ⟨[], []⟩, .bslice 31 [.t 111]⟩,
    ⟨some 113, none, ⟨[], []⟩, .app 32 1 8 (.t 103) (.t 112)⟩,
    ⟨some 114, none, ⟨[], []⟩, .fld (.t 8) 4⟩,
    ⟨none, none, ⟨[], []⟩, .sto false 1 .i64 (.t 114) (.t 113)⟩] [10, 102, 103, 104, 105, 106, 107, 108, 109, 110, 111, 112, 113, 114] []))))) (.reg false [⟨some 62, none, ⟨[], []⟩, .mov (.t 9)⟩,
    ⟨some 63, none, ⟨[], []⟩, .bin 0 .add (.t 62) (.k (.int .i64 1))⟩,
    ⟨some 9, none, ⟨[], []⟩, .mov (.t 63)⟩] [62, 63] []))
def r24_2 : IR :=
  .seq (.reg false [⟨some 115, none, ⟨[], []⟩, .ld false (some 5) 0 0 (.t 8)⟩,
    ⟨none, none, ⟨[], []⟩, .sto false 5 .i64 (.t 6) (.t 115)⟩,
    ⟨some 7, none, ⟨[], []⟩, .mov (.k (.int .i64 0))⟩] [3, 4, 5, 8, 9, 115] []) (.ret)
def ir24 : IR :=
  .seq (.reg false [⟨some 3, none, ⟨[], []⟩, .box 10 (.t 0)⟩,
    ⟨some 4, none, ⟨[], []⟩, .box 11 (.t 1)⟩,
    ⟨some 5, none, ⟨[], []⟩, .box 12 (.t 2)⟩,
    ⟨some 6, none, ⟨[], []⟩, .alloc 13 [.int .i64 0, .int .i64 0, nilSV, nilSV, nilSV]⟩,
    ⟨some 7, none, ⟨[], []⟩, .mov (.k (.int .i64 0))⟩] [0, 1, 2, 7] []) (.seq (.seq (.reg false [⟨some 11, none, ⟨[], []⟩, .ld false (some 3) 0 0 (.t 3)⟩,
    ⟨some 12, none, ⟨[], []⟩, .call (some 4) 14 51 [.t 11]⟩,
    ⟨some 13, none, ⟨[], []⟩, .not (.t 12)⟩,
    ⟨some 14, none, ⟨[], []⟩, .mov (.t 13)⟩,
    ⟨some 15, some (14, false), ⟨[], []⟩, .ld false (some 3) 0 0 (.t 4)⟩,
    ⟨some 16, some (14, false), ⟨[], []⟩, .call (some 4) 18 51 [.t 15]⟩,
    ⟨some 17, some (14, false), ⟨[], []⟩, .not (.t 16)⟩,
    ⟨some 18, none, ⟨[], []⟩, .pick (.t 14) (.k (.bool true)) (.t 17)⟩,
    ⟨some 19, none, ⟨[], []⟩, .mov (.t 18)⟩,
    ⟨some 20, some (19, false), ⟨[], []⟩, .ld false (some 3) 0 0 (.t 5)⟩,
    ⟨some 21, some (19, false), ⟨[], []⟩, .call (some 4) 22 51 [.t 20]⟩,
    ⟨some 22, some (19, false), ⟨[], []⟩, .not (.t 21)⟩,
    ⟨some 23, none, ⟨[], []⟩, .pick (.t 19) (.k (.bool true)) (.t 22)⟩] [11, 12, 13, 14, 15, 16, 17, 18, 19, 20, 21, 22] []) (.cond (.t 23) (.seq (.reg false [⟨some 24, none, ⟨[], []⟩, .build [.int .i64 0, .int .i64 0, nilSV, nilSV, nilSV] []⟩,
    ⟨none, none, ⟨[], []⟩, .sto false 5 .i64 (.t 6) (.t 24)⟩,
    ⟨some 7, none, ⟨[], []⟩, .mov (.k (.int .i64 70))⟩] [3, 4, 5, 23, 24] []) (.ret)) (.skip))) (.seq (.seq (.reg false [⟨some 25, none, ⟨[], []⟩, .fld (.t 4) 0⟩,
    ⟨some 26, none, ⟨[], []⟩, .ld false none 0 0 (.t 25)⟩,
    ⟨some 27, none, ⟨[], []⟩, .fld (.t 3) 0⟩,
    ⟨some 28, none, ⟨[], []⟩, .ld false none 0 0 (.t 27)⟩,
    ⟨some 29, none, ⟨[], []⟩, .bin 0 .neq (.t 26) (.t 28)⟩,
    ⟨some 30, none, ⟨[], []⟩, .mov (.t 29)⟩,
    ⟨some 31, some (30, false), ⟨[], []⟩, .fld (.t 4) 1⟩,
    ⟨some 32, some (30, false), ⟨[], []⟩, .ld false none 0 0 (.t 31)⟩,
    ⟨some 33, some (30, false), ⟨[], []⟩, .fld (.t 3) 1⟩,
    ⟨some 34, some (30, false), ⟨[], []⟩, .ld false none 0 0 (.t 33)⟩,
    ⟨some 35, some (30, false), ⟨[], []⟩, .bin 0 .neq (.t 32) (.t 34)⟩,
    ⟨some 36, none, ⟨[], []⟩, .pick (.t 30) (.k (.bool true)) (.t 35)⟩,
    ⟨some 37, none, ⟨[], []⟩, .mov (.t 36)⟩,
    ⟨some 38, some (37, false), ⟨[], []⟩, .fld (.t 5) 0⟩,
    ⟨some 39, some (37, false), ⟨[], []⟩, .ld false none 0 0 (.t 38)⟩,
    ⟨some 40, some (37, false), ⟨[], []⟩, .fld (.t 3) 0⟩,
    ⟨some 41, some (37, false), ⟨[], []⟩, .ld false none 0 0 (.t 40)⟩,
    ⟨some 42, some (37, false), ⟨[], []⟩, .bin 0 .neq (.t 39) (.t 41)⟩,
    ⟨some 43, none, ⟨[], []⟩, .pick (.t 37) (.k (.bool true)) (.t 42)⟩,
    ⟨some 44, none, ⟨[], []⟩, .mov (.t 43)⟩,
    ⟨some 45, some (44, false), ⟨[], []⟩, .fld (.t 5) 1⟩,
    ⟨some 46, some (44, false), ⟨[], []⟩, .ld false none 0 0 (.t 45)⟩,
    ⟨some 47, some (44, false), ⟨[], []⟩, .fld (.t 3) 1⟩,
    ⟨some 48, some (44, false), ⟨[], []⟩, .ld false none 0 0 (.t 47)⟩,
    ⟨some 49, some (44, false), ⟨[], []⟩, .bin 0 .neq (.t 46) (.t 48)⟩,
    ⟨some 50, none, ⟨[], []⟩, .pick (.t 44) (.k (.bool true)) (.t 49)⟩] [7, 23, 25, 26, 27, 28, 29, 30, 31, 32, 33, 34, 35, 36, 37, 38, 39, 40, 41, 42, 43, 44, 45, 46, 47, 48, 49] []) (.cond (.t 50) (.seq (.reg false [⟨some 51, none, ⟨[], []⟩, .build [.int .i64 0, .int .i64 0, nilSV, nilSV, nilSV] []⟩,
    ⟨none, none, ⟨[], []⟩, .sto false 5 .i64 (.t 6) (.t 51)⟩,
    ⟨some 7, none, ⟨[], []⟩, .mov (.k (.int .i64 2))⟩] [3, 4, 5, 50, 51] []) (.ret)) (.skip))) (.seq (.reg false [⟨some 52, none, ⟨[], []⟩, .fld (.t 3) 0⟩,
    ⟨some 53, none, ⟨[], []⟩, .ld false none 0 0 (.t 52)⟩,
    ⟨some 54, none, ⟨[], []⟩, .fld (.t 3) 1⟩,
    ⟨some 55, none, ⟨[], []⟩, .ld false none 0 0 (.t 54)⟩,
    ⟨some 56, none, ⟨[], []⟩, .build [.int .i64 0, .int .i64 0, nilSV, nilSV, nilSV] [(0, 1, .t 53), (1, 1, .t 55)]⟩,
    ⟨some 8, none, ⟨[], []⟩, .alloc 26 [.int .i64 0, .int .i64 0, nilSV, nilSV, nilSV]⟩,
    ⟨none, none, ⟨[], []⟩, .sto false 5 .i64 (.t 8) (.t 56)⟩] [7, 50, 52, 53, 54, 55, 56] []) (.seq (.seq (.reg false [⟨some 9, none, ⟨[], []⟩, .mov (.k (.int .i64 0))⟩] [] []) (.block 0 (.loop b24_1))) (r24_2)))))
def kp24_1 : List Nat := [3, 4, 5, 6, 8, 9]
def kl24_1 : List Nat := [27, 28, 29, 30, 31, 32]
attribute [push_cast] kp24_1 kl24_1
theorem comp24 : (Try.f24.body.bind fun c => compC tab isP chkAll ir24 c) = some ir24 := by kernel_rfl
/- incunable/colour.Grey : slots 17, labels 10..18 -/
def ir25 : IR :=
  .seq (.reg false [⟨some 1, none, ⟨[], []⟩, .box 10 (.t 0)⟩,
    ⟨some 2, none, ⟨[], []⟩, .alloc 11 [.int .i64 0, .int .i64 0, nilSV]⟩,
    ⟨some 3, none, ⟨[], []⟩, .mov (.k (.int .i64 0))⟩] [0, 3] []) (.seq (.reg false [⟨some 9, none, ⟨[], []⟩, .ld false (some 5) 0 0 (.t 1)⟩,
    ⟨some 10, none, ⟨[], []⟩, .call (some 4) 12 20 [.t 9]⟩,
    ⟨some 8, none, ⟨[], []⟩, .mov (.t 10)⟩,
    ⟨some 11, none, ⟨[], []⟩, .ext (.t 8) 0⟩,
    ⟨some 12, none, ⟨[], []⟩, .ext (.t 8) 1⟩,
    ⟨some 13, none, ⟨[], []⟩, .ext (.t 8) 2⟩,
    ⟨some 14, none, ⟨[], []⟩, .ext (.t 8) 3⟩,
    ⟨some 4, none, ⟨[], []⟩, .alloc 16 [.int .i64 0, .int .i64 0, nilSV]⟩,
    ⟨some 5, none, ⟨[], []⟩, .alloc 17 [.int .i64 0, .int .i64 0, nilSV]⟩,
    ⟨some 6, none, ⟨[], []⟩, .alloc 18 [.int .i64 0, .int .i64 0, nilSV]⟩,
    ⟨none, none, ⟨[], []⟩, .sto false 3 .i64 (.t 4) (.t 11)⟩,
    ⟨none, none, ⟨[], []⟩, .sto false 3 .i64 (.t 5) (.t 12)⟩,
    ⟨none, none, ⟨[], []⟩, .sto false 3 .i64 (.t 6) (.t 13)⟩,
    ⟨some 7, none, ⟨[], []⟩, .mov (.t 14)⟩] [1, 5, 6, 8, 9, 10, 11, 12, 13, 14] []) (.seq (.reg false [⟨some 15, none, ⟨[], []⟩, .ld false (some 3) 0 0 (.t 4)⟩,
    ⟨some 16, none, ⟨[], []⟩, .mov (.t 7)⟩,
    ⟨none, none, ⟨[], []⟩, .sto false 3 .i64 (.t 2) (.t 15)⟩,
    ⟨some 3, none, ⟨[], []⟩, .mov (.t 16)⟩] [4, 7, 15, 16] []) (.ret)))
theorem comp25 : (Try.f25.body.bind fun c => compC tab isP chkAll ir25 c) = some ir25 := by kernel_rfl
/- incunable/incunableref19.Grey : slots 17, labels 10..18 -/
def ir26 : IR :=
  .seq (.reg false [⟨some 1, none, ⟨[], []⟩, .box 10 (.t 0)⟩,
    ⟨some 2, none, ⟨[], []⟩, .alloc 11 [.int .i64 0, .int .i64 0, nilSV]⟩,
    ⟨some 3, none, ⟨[], []⟩, .mov (.k (.int .i64 0))⟩] [0, 3] []) (.seq (.reg false [⟨some 9, none, ⟨[], []⟩, .ld false (some 5) 0 0 (.t 1)⟩,
    ⟨some 10, none, ⟨[], []⟩, .call (some 4) 12 21 [.t 9]⟩,
    ⟨some 8, none, ⟨[], []⟩, .mov (.t 10)⟩,
    ⟨some 11, none, ⟨[], []⟩, .ext (.t 8) 0⟩,
    ⟨some 12, none, ⟨[], []⟩, .ext (.t 8) 1⟩,
    ⟨some 13, none, ⟨[], []⟩, .ext (.t 8) 2⟩,
    ⟨some 14, none, ⟨[], []⟩, .ext (.t 8) 3⟩,
    ⟨some 4, none, ⟨[], []⟩, .alloc 16 [.int .i64 0, .int .i64 0, nilSV]⟩,
    ⟨some 5, none, ⟨[], []⟩, .alloc 17 [.int .i64 0, .int .i64 0, nilSV]⟩,
    ⟨some 6, none, ⟨[], []⟩, .alloc 18 [.int .i64 0, .int .i64 0, nilSV]⟩,
    ⟨none, none, ⟨[], []⟩, .sto false 3 .i64 (.t 4) (.t 11)⟩,
    ⟨none, none, ⟨[], []⟩, .sto false 3 .i64 (.t 5) (.t 12)⟩,
    ⟨none, none, ⟨[], []⟩, .sto false 3 .i64 (.t 6) (.t 13)⟩,
    ⟨some 7, none, ⟨[], []⟩, .mov (.t 14)⟩] [1, 5, 6, 8, 9, 10, 11, 12, 13, 14] []) (.seq (.reg false [⟨some 15, none, ⟨[], []⟩, .ld false (some 3) 0 0 (.t 4)⟩,
    ⟨some 16, none, ⟨[], []⟩, .mov (.t 7)⟩,
    ⟨none, none, ⟨[], []⟩, .sto false 3 .i64 (.t 2) (.t 15)⟩,
    ⟨some 3, none, ⟨[], []⟩, .mov (.t 16)⟩] [4, 7, 15, 16] []) (.ret)))
theorem comp26 : (Try.f26.body.bind fun c => compC tab isP chkAll ir26 c) = some ir26 := by kernel_rfl
set_option maxRecDepth 512

theorem ok51 : FSOk Try.prog 51 fs49 := by
  refine ⟨⟨_, Try.func51, by kernel_rfl, by kernel_rfl⟩, fun a => ⟨by simp [fs49, push_cast, noMine, argOwn, Chunk.frArg], by simp [fs49, push_cast, outOk, Chunk.ext], fun x => .inl (by simp [fs49, push_cast, frNew, frOut, Chunk.fr])⟩, fun a hp => ?_⟩
  obtain ⟨⟨w, h, xs⟩, L⟩ := a
  change xs.length ≤ 140737488355328 at hp
  change Tri Try.prog 51 [plV ⟨w, h, xs⟩ L 0] [some (.ro, L, .ints .i64 xs)] (postF fs49 ⟨⟨w, h, xs⟩, L⟩)
  refine tri_evS (hyp (l := []) (lp := [(43, sidesF)]) trivial ⟨p43, trivial⟩) Try.func51 comp51 (rs := [.tmp 2]) (by rfl) Try.ntmps51 11 ?_
  simp -implicitDefEqProofs only [push_cast, false_implies, reduceCtorEq, Classical.not_not, Nat.reduceAdd, Nat.reduceSub, Nat.reduceMul, Nat.reduceLeDiff, Nat.reduceLT, Nat.reduceEqDiff, Nat.reduceBEq, Nat.reduceBNe, Int.reduceNeg, Int.reduceToNat, Bool.or_false, Bool.false_or, Bool.or_true, Bool.true_or, BEq.rfl, Bool.not_eq_true, Bool.not_eq_false, decide_eq_true_eq, not_true_eq_false, not_false_eq_true, ite_true, ite_false, List.append_nil, and_assoc, Nat.mul_zero, Nat.zero_mul, ir51]
  refine fun X => ⟨fun H => ?_, fun hn => ?_, fun hy => ?_⟩
  · have := H.bd
    exact ⟨H, by omega, by omega⟩
  · have e : ¬ (⟨w, h, xs⟩ : Pl).Ok := fun H => by
      obtain ⟨a1, b, _⟩ := H
      simp only at a1 b
      simp [a1, b] at hn
    refine postF.mk' (fun _ => default) [some 0] ?_
    simp -implicitDefEqProofs only [push_cast, false_implies, reduceCtorEq, Classical.not_not, Nat.reduceAdd, Nat.reduceSub, Nat.reduceMul, Nat.reduceLeDiff, Nat.reduceLT, Nat.reduceEqDiff, Nat.reduceBEq, Nat.reduceBNe, Int.reduceNeg, Int.reduceToNat, Bool.or_false, Bool.false_or, Bool.or_true, Bool.true_or, BEq.rfl, Bool.not_eq_true, Bool.not_eq_false, decide_eq_true_eq, not_true_eq_false, not_false_eq_true, ite_true, ite_false, List.append_nil, and_assoc, Nat.mul_zero, Nat.zero_mul, fs49, e, decide_false]
  have hs : SidesOk w h := Classical.byContradiction fun H => hy (.inl H)
  have hl : (xs.length : Int) = w * h := Classical.byContradiction fun H => hy (.inr H)
  refine evS_loopU (A := Nat) kp51_1 kl51_1 (fun i => [(3, .int .i64 i)]) (fun _ => [])
    (fun i => i ≤ xs.length ∧ ∀ j, j < i → -16777216 ≤ rd xs (j : Nat) ∧ rd xs (j : Nat) ≤ 16777216) (fun i => xs.length - i) 0 ⟨by omega, by omega⟩ (Sub.pt ?_) ?_
  · simp -implicitDefEqProofs only [push_cast, false_implies, reduceCtorEq, Classical.not_not, Nat.reduceAdd, Nat.reduceSub, Nat.reduceMul, Nat.reduceLeDiff, Nat.reduceLT, Nat.reduceEqDiff, Nat.reduceBEq, Nat.reduceBNe, Int.reduceNeg, Int.reduceToNat, Bool.or_false, Bool.false_or, Bool.or_true, Bool.true_or, BEq.rfl, Bool.not_eq_true, Bool.not_eq_false, decide_eq_true_eq, not_true_eq_false, not_false_eq_true, ite_true, ite_false, List.append_nil, and_assoc, Nat.mul_zero, Nat.zero_mul]
  intro i ⟨h1, h2⟩ K hK
  simp -implicitDefEqProofs only [push_cast, false_implies, reduceCtorEq, Classical.not_not, Nat.reduceAdd, Nat.reduceSub, Nat.reduceMul, Nat.reduceLeDiff, Nat.reduceLT, Nat.reduceEqDiff, Nat.reduceBEq, Nat.reduceBNe, Int.reduceNeg, Int.reduceToNat, Bool.or_false, Bool.false_or, Bool.or_true, Bool.true_or, BEq.rfl, Bool.not_eq_true, Bool.not_eq_false, decide_eq_true_eq, not_true_eq_false, not_false_eq_true, ite_true, ite_false, List.append_nil, and_assoc, Nat.mul_zero, Nat.zero_mul, b51_1, r51_2]
  refine ⟨fun hl => ?_, fun hl => ?_⟩
  · repeat (refine And.intro (by first | omega | trivial | (intros; omega)) ?_)
    refine ⟨fun hb => ?_, fun hg => ⟨by omega, by omega, ?_⟩⟩
    · have e : ¬ (⟨w, h, xs⟩ : Pl).Ok := fun H => by
        have := allIn_rd.1 H.2.2 i (show i < xs.length by omega)
        simp only at this
        omega
      refine postF.mk' (fun _ => default) [some 0] ?_
      simp -implicitDefEqProofs only [push_cast, false_implies, reduceCtorEq, Classical.not_not, Nat.reduceAdd, Nat.reduceSub, Nat.reduceMul, Nat.reduceLeDiff, Nat.reduceLT, Nat.reduceEqDiff, Nat.reduceBEq, Nat.reduceBNe, Int.reduceNeg, Int.reduceToNat, Bool.or_false, Bool.false_or, Bool.or_true, Bool.true_or, BEq.rfl, Bool.not_eq_true, Bool.not_eq_false, decide_eq_true_eq, not_true_eq_false, not_false_eq_true, ite_true, ite_false, List.append_nil, and_assoc, Nat.mul_zero, Nat.zero_mul, fs49, e, decide_false]
    · refine hK (i + 1) ⟨by omega, fun j hj => ?_⟩ (show xs.length - (i + 1) < xs.length - i by omega) _ _ (Sub.pt ?_)
      · by_cases e : j = i
        · subst e; omega
        · exact h2 j (by omega)
      · simp -implicitDefEqProofs only [push_cast, false_implies, reduceCtorEq, Classical.not_not, Nat.reduceAdd, Nat.reduceSub, Nat.reduceMul, Nat.reduceLeDiff, Nat.reduceLT, Nat.reduceEqDiff, Nat.reduceBEq, Nat.reduceBNe, Int.reduceNeg, Int.reduceToNat, Bool.or_false, Bool.false_or, Bool.or_true, Bool.true_or, BEq.rfl, Bool.not_eq_true, Bool.not_eq_false, decide_eq_true_eq, not_true_eq_false, not_false_eq_true, ite_true, ite_false, List.append_nil, and_assoc, Nat.mul_zero, Nat.zero_mul]
  · have e : (⟨w, h, xs⟩ : Pl).Ok := ⟨hs, ‹_›, allIn_rd.2 fun j (hj : j < xs.length) => h2 j (by omega)⟩
    refine postF.mk' (fun _ => default) [some 0] ?_
    simp -implicitDefEqProofs only [push_cast, false_implies, reduceCtorEq, Classical.not_not, Nat.reduceAdd, Nat.reduceSub, Nat.reduceMul, Nat.reduceLeDiff, Nat.reduceLT, Nat.reduceEqDiff, Nat.reduceBEq, Nat.reduceBNe, Int.reduceNeg, Int.reduceToNat, Bool.or_false, Bool.false_or, Bool.or_true, Bool.true_or, BEq.rfl, Bool.not_eq_true, Bool.not_eq_false, decide_eq_true_eq, not_true_eq_false, not_false_eq_true, ite_true, ite_false, List.append_nil, and_assoc, Nat.mul_zero, Nat.zero_mul, fs49, e, decide_true]
def ent51 : Entry := spOf fs49 inv49
theorem e51 : EntryOk Try.prog 51 ent51 := entry_of ok51 inv49
@[push_cast] theorem ent51_app (us : List SV) (look : Look) (x : Nat → Xf.Loc) (k : Nat) : ent51 us look x k = spOf fs49 inv49 us look x k := rfl

theorem ok24 : FSOk Try.prog 24 fs23 := by
  refine ⟨⟨_, Try.func24, by kernel_rfl, by kernel_rfl⟩, fun a => ⟨by simp [fs23, push_cast, noMine, argOwn, Chunk.frArg], by simp [fs23, push_cast, outOk, Chunk.ext], fun x => .inl (by simp [fs23, push_cast, frNew, frOut, Chunk.fr])⟩, fun a hp => ?_⟩
  obtain ⟨⟨⟨w, h, xs⟩, L1⟩, ⟨⟨w1, h1, ys⟩, L2⟩, ⟨⟨w2, h2, ws⟩, L3⟩⟩ := a
  obtain ⟨hp1, hp2, hp3⟩ : xs.length ≤ 140737488355328 ∧ ys.length ≤ 140737488355328 ∧ ws.length ≤ 140737488355328 := hp
  change Tri Try.prog 24 [plV ⟨w, h, xs⟩ L1 0, plV ⟨w1, h1, ys⟩ L2 1, plV ⟨w2, h2, ws⟩ L3 2] [some (.ro, L1, .ints .i64 xs), some (.ro, L2, .ints .i64 ys), some (.ro, L3, .ints .i64 ws)] (postF fs23 ⟨⟨⟨w, h, xs⟩, L1⟩, ⟨⟨w1, h1, ys⟩, L2⟩, ⟨⟨w2, h2, ws⟩, L3⟩⟩)
  refine tri_evS (hyp (l := [(51, ent51)]) (lp := [(52, clampF), (48, downF)]) ⟨e51, trivial⟩ ⟨p52, p48, trivial⟩) Try.func24 comp24 (rs := [.cell 6 (some 5), .tmp 7]) (by rfl) Try.ntmps24 33 ?_
  simp -implicitDefEqProofs only [push_cast, false_implies, reduceCtorEq, Classical.not_not, Nat.reduceAdd, Nat.reduceSub, Nat.reduceMul, Nat.reduceLeDiff, Nat.reduceLT, Nat.reduceEqDiff, Nat.reduceBEq, Nat.reduceBNe, Int.reduceNeg, Int.reduceToNat, Bool.or_false, Bool.false_or, Bool.or_true, Bool.true_or, BEq.rfl, Bool.not_eq_true, Bool.not_eq_false, decide_eq_true_eq, not_true_eq_false, not_false_eq_true, ite_true, ite_false, List.append_nil, and_assoc, Nat.mul_zero, Nat.zero_mul, ir24, fs49, hp1, hp2, hp3]
  intro X
  have he : (⟨⟨⟨w, h, xs⟩, L1⟩, ⟨⟨w1, h1, ys⟩, L2⟩, ⟨⟨w2, h2, ws⟩, L3⟩⟩ : Bk).planes ↔ ((⟨w, h, xs⟩ : Pl).Ok ∧ (⟨w1, h1, ys⟩ : Pl).Ok ∧ (⟨w2, h2, ws⟩ : Pl).Ok) := Iff.rfl
  have hd : (⟨⟨⟨w, h, xs⟩, L1⟩, ⟨⟨w1, h1, ys⟩, L2⟩, ⟨⟨w2, h2, ws⟩, L3⟩⟩ : Bk).sides ↔ (w1 = w ∧ h1 = h ∧ w2 = w ∧ h2 = h) := Iff.rfl
  have hO : (⟨⟨⟨w, h, xs⟩, L1⟩, ⟨⟨w1, h1, ys⟩, L2⟩, ⟨⟨w2, h2, ws⟩, L3⟩⟩ : Bk).Ok ↔ (⟨⟨⟨w, h, xs⟩, L1⟩, ⟨⟨w1, h1, ys⟩, L2⟩, ⟨⟨w2, h2, ws⟩, L3⟩⟩ : Bk).planes ∧ (⟨⟨⟨w, h, xs⟩, L1⟩, ⟨⟨w1, h1, ys⟩, L2⟩, ⟨⟨w2, h2, ws⟩, L3⟩⟩ : Bk).sides := Iff.rfl
  generalize hb : (⟨⟨⟨w, h, xs⟩, L1⟩, ⟨⟨w1, h1, ys⟩, L2⟩, ⟨⟨w2, h2, ws⟩, L3⟩⟩ : Bk) = b at he hd hO ⊢
  refine ⟨fun hn => ?_, fun hy => ⟨fun hn => ?_, fun hs X1 => ?_⟩⟩
  · have e1 : ¬ b.planes := by rw [he]; simp only [← and_assoc]; intro H; simp [H] at hn
    have e2 : ¬ b.Ok := fun H => e1 (hO.1 H).1
    refine postF.mk' (fun _ => default) [some 0, some 1, some 2, none, none, none] ?_
    subst hb
    simp -implicitDefEqProofs only [push_cast, false_implies, reduceCtorEq, Classical.not_not, Nat.reduceAdd, Nat.reduceSub, Nat.reduceMul, Nat.reduceLeDiff, Nat.reduceLT, Nat.reduceEqDiff, Nat.reduceBEq, Nat.reduceBNe, Int.reduceNeg, Int.reduceToNat, Bool.or_false, Bool.false_or, Bool.or_true, Bool.true_or, BEq.rfl, Bool.not_eq_true, Bool.not_eq_false, decide_eq_true_eq, not_true_eq_false, not_false_eq_true, ite_true, ite_false, List.append_nil, and_assoc, Nat.mul_zero, Nat.zero_mul, fs23, backI, e1, e2, if_false, lx, im0]
  · have e1 : b.planes := by rw [he]; simp only [not_or, Classical.not_not] at hy; exact ⟨hy.1.1, hy.1.2, hy.2⟩
    have e2 : ¬ b.Ok := fun H => by have := hd.1 (hO.1 H).2; omega
    refine postF.mk' (fun _ => default) [some 0, some 1, some 2, none, none, none] ?_
    subst hb
    simp -implicitDefEqProofs only [push_cast, false_implies, reduceCtorEq, Classical.not_not, Nat.reduceAdd, Nat.reduceSub, Nat.reduceMul, Nat.reduceLeDiff, Nat.reduceLT, Nat.reduceEqDiff, Nat.reduceBEq, Nat.reduceBNe, Int.reduceNeg, Int.reduceToNat, Bool.or_false, Bool.false_or, Bool.or_true, Bool.true_or, BEq.rfl, Bool.not_eq_true, Bool.not_eq_false, decide_eq_true_eq, not_true_eq_false, not_false_eq_true, ite_true, ite_false, List.append_nil, and_assoc, Nat.mul_zero, Nat.zero_mul, fs23, backI, e1, e2, if_false, if_true, lx, im0]
  have e1 : b.planes := by rw [he]; simp only [not_or, Classical.not_not] at hy; exact ⟨hy.1.1, hy.1.2, hy.2⟩
  have e2 : b.Ok := hO.2 ⟨e1, hd.2 (by omega)⟩
  subst hb
  obtain ⟨hsd, hl, ly, lz, rfl, rfl, rfl, rfl, hv⟩ := e2.val
  have hm := hsd.bd
  refine evS_loopU (A := L3T) kp24_1 kl24_1 (fun y => [(9, .int .i64 y.1)])
    (fun y => [(26, .mine, X1 5 26, .cells [.int .i64 w2, .int .i64 h2, .sl 28 y.2.1 1 0 y.1, .sl 30 y.2.2.1 1 0 y.1, .sl 32 y.2.2.2 1 0 y.1]),
      (28, .mine, y.2.1, .ints .i64 (tabl y.1 (bkR xs ys ws))), (30, .mine, y.2.2.1, .ints .i64 (tabl y.1 (bkG xs ys ws))), (32, .mine, y.2.2.2, .ints .i64 (tabl y.1 (bkB xs ys ws)))])
    (fun y => y.1 ≤ xs.length) (fun y => xs.length - y.1) (0, nilLoc, nilLoc, nilLoc) (Nat.zero_le _) (Sub.pt ?_) ?_
  · simp -implicitDefEqProofs only [push_cast, false_implies, reduceCtorEq, Classical.not_not, Nat.reduceAdd, Nat.reduceSub, Nat.reduceMul, Nat.reduceLeDiff, Nat.reduceLT, Nat.reduceEqDiff, Nat.reduceBEq, Nat.reduceBNe, Int.reduceNeg, Int.reduceToNat, Bool.or_false, Bool.false_or, Bool.or_true, Bool.true_or, BEq.rfl, Bool.not_eq_true, Bool.not_eq_false, decide_eq_true_eq, not_true_eq_false, not_false_eq_true, ite_true, ite_false, List.append_nil, and_assoc, Nat.mul_zero, Nat.zero_mul, tabl_zero]
  intro ⟨k, N1, N2, N3⟩ (hk : k ≤ xs.length) K hK
  simp -implicitDefEqProofs only [push_cast, false_implies, reduceCtorEq, Classical.not_not, Nat.reduceAdd, Nat.reduceSub, Nat.reduceMul, Nat.reduceLeDiff, Nat.reduceLT, Nat.reduceEqDiff, Nat.reduceBEq, Nat.reduceBNe, Int.reduceNeg, Int.reduceToNat, Bool.or_false, Bool.false_or, Bool.or_true, Bool.true_or, BEq.rfl, Bool.not_eq_true, Bool.not_eq_false, decide_eq_true_eq, not_true_eq_false, not_false_eq_true, ite_true, ite_false, List.append_nil, and_assoc, Nat.mul_zero, Nat.zero_mul, b24_1, r24_2]
  refine ⟨fun hk1 => ?_, fun hk1 => ?_⟩
  · have hk' : k < xs.length := by omega
    obtain ⟨v1, v2, v3⟩ := hv k hk'
    simp only [tabl_length]
    repeat (refine And.intro (by first | omega | trivial | (intros; omega)) ?_)
    intro X2
    repeat (refine And.intro (by first | omega | trivial | (intros; omega)) ?_)
    intro X3
    repeat (refine And.intro (by first | omega | trivial | (intros; omega)) ?_)
    intro X4
    repeat (refine And.intro (by first | omega | trivial | (intros; omega)) ?_)
    refine hK (k + 1, X2 11 28, X3 5 30, X4 11 32) hk' (show xs.length - (k + 1) < xs.length - k by omega) _ _ (Sub.pt ?_)
    have qR : tabl k (bkR xs ys ws) ++ [clampI (rd ws k + (rd xs k - (rd ys k + rd ws k) / 4))] = tabl (k + 1) (bkR xs ys ws) := tabl_snoc k _
    have qG : tabl k (bkG xs ys ws) ++ [clampI (rd xs k - (rd ys k + rd ws k) / 4)] = tabl (k + 1) (bkG xs ys ws) := tabl_snoc k _
    have qB : tabl k (bkB xs ys ws) ++ [clampI (rd ys k + (rd xs k - (rd ys k + rd ws k) / 4))] = tabl (k + 1) (bkB xs ys ws) := tabl_snoc k _
    simp -implicitDefEqProofs only [push_cast, false_implies, reduceCtorEq, Classical.not_not, Nat.reduceAdd, Nat.reduceSub, Nat.reduceMul, Nat.reduceLeDiff, Nat.reduceLT, Nat.reduceEqDiff, Nat.reduceBEq, Nat.reduceBNe, Int.reduceNeg, Int.reduceToNat, Bool.or_false, Bool.false_or, Bool.or_true, Bool.true_or, BEq.rfl, Bool.not_eq_true, Bool.not_eq_false, decide_eq_true_eq, not_true_eq_false, not_false_eq_true, ite_true, ite_false, List.append_nil, and_assoc, Nat.mul_zero, Nat.zero_mul, qR, qG, qB]
  · obtain rfl : k = xs.length := by omega
    refine postF.mk' (locs [N1, N2, N3]) [some 0, some 1, some 2, some 28, some 30, some 32] ?_
    simp -implicitDefEqProofs only [push_cast, false_implies, reduceCtorEq, Classical.not_not, Nat.reduceAdd, Nat.reduceSub, Nat.reduceMul, Nat.reduceLeDiff, Nat.reduceLT, Nat.reduceEqDiff, Nat.reduceBEq, Nat.reduceBNe, Int.reduceNeg, Int.reduceToNat, Bool.or_false, Bool.false_or, Bool.or_true, Bool.true_or, BEq.rfl, Bool.not_eq_true, Bool.not_eq_false, decide_eq_true_eq, not_true_eq_false, not_false_eq_true, ite_true, ite_false, List.append_nil, and_assoc, Nat.mul_zero, Nat.zero_mul, fs23, backI, e2, if_true, lx, tabl_length, hl]
def ent24 : Entry := spOf fs23 inv23
theorem e24 : EntryOk Try.prog 24 ent24 := entry_of ok24 inv23
@[push_cast] theorem ent24_app (us : List SV) (look : Look) (x : Nat → Xf.Loc) (k : Nat) : ent24 us look x k = spOf fs23 inv23 us look x k := rfl

def fs25 : FS where
  A := ImA
  args := fun a => [imV a.i a.L1 a.L2 a.L3 0]
  mem := fun a => imM a.i a.L1 a.L2 a.L3
  pre := fun a => a.i.small
  res := fun a x => .tup [plV (turn tY a.i) (lx a.i.Ok x 0) 3, .int .i64 (if a.i.Ok then 0 else 75)]
  out := fun _ _ => []
  new := fun a x => [(lx a.i.Ok x 0, .ints .i64 (turn tY a.i).xs)]
theorem ok25 : FSOk Try.prog 25 fs25 := by
  refine ⟨⟨_, Try.func25, by kernel_rfl, by kernel_rfl⟩, fun a => ⟨by simp [fs25, imM, push_cast, noMine, argOwn, Chunk.frArg], by simp [fs25, imM, push_cast, outOk, Chunk.ext], fun x => .inl (by simp [fs25, imM, push_cast, frNew, frOut, Chunk.fr])⟩, fun a hp => ?_⟩
  obtain ⟨⟨w, h, R, G, B⟩, L1, L2, L3⟩ := a
  change (⟨w, h, R, G, B⟩ : Im).small at hp
  change Tri Try.prog 25 [imV ⟨w, h, R, G, B⟩ L1 L2 L3 0] (imM ⟨w, h, R, G, B⟩ L1 L2 L3) (postF fs25 ⟨⟨w, h, R, G, B⟩, L1, L2, L3⟩)
  refine tri_evS (hyp (l := [(20, ent20)]) (lp := []) ⟨e20, trivial⟩ trivial) Try.func25 comp25 (rs := [.cell 2 (some 3), .tmp 3]) (by rfl) Try.ntmps25 19 ?_
  simp -implicitDefEqProofs only [push_cast, false_implies, reduceCtorEq, Classical.not_not, Nat.reduceAdd, Nat.reduceSub, Nat.reduceMul, Nat.reduceLeDiff, Nat.reduceLT, Nat.reduceEqDiff, Nat.reduceBEq, Nat.reduceBNe, Int.reduceNeg, Int.reduceToNat, Bool.or_false, Bool.false_or, Bool.or_true, Bool.true_or, BEq.rfl, Bool.not_eq_true, Bool.not_eq_false, decide_eq_true_eq, not_true_eq_false, not_false_eq_true, ite_true, ite_false, List.append_nil, and_assoc, Nat.mul_zero, Nat.zero_mul, ir25, fs20]
  refine fun X X1 => ⟨hp, ?_⟩
  refine postF.mk' (fun j => X1 1 (12 + j)) [some 0, some 1, some 2, some 12] ?_
  simp -implicitDefEqProofs only [push_cast, false_implies, reduceCtorEq, Classical.not_not, Nat.reduceAdd, Nat.reduceSub, Nat.reduceMul, Nat.reduceLeDiff, Nat.reduceLT, Nat.reduceEqDiff, Nat.reduceBEq, Nat.reduceBNe, Int.reduceNeg, Int.reduceToNat, Bool.or_false, Bool.false_or, Bool.or_true, Bool.true_or, BEq.rfl, Bool.not_eq_true, Bool.not_eq_false, decide_eq_true_eq, not_true_eq_false, not_false_eq_true, ite_true, ite_false, List.append_nil, and_assoc, Nat.mul_zero, Nat.zero_mul, fs25, fs20]
def ent25 : Entry := spOf fs25 inv15
theorem e25 : EntryOk Try.prog 25 ent25 := entry_of ok25 inv15
@[push_cast] theorem ent25_app (us : List SV) (look : Look) (x : Nat → Xf.Loc) (k : Nat) : ent25 us look x k = spOf fs25 inv15 us look x k := rfl
theorem ok26 : FSOk Try.prog 26 fs25 := by
  refine ⟨⟨_, Try.func26, by kernel_rfl, by kernel_rfl⟩, fun a => ⟨by simp [fs25, imM, push_cast, noMine, argOwn, Chunk.frArg], by simp [fs25, imM, push_cast, outOk, Chunk.ext], fun x => .inl (by simp [fs25, imM, push_cast, frNew, frOut, Chunk.fr])⟩, fun a hp => ?_⟩
  obtain ⟨⟨w, h, R, G, B⟩, L1, L2, L3⟩ := a
  change (⟨w, h, R, G, B⟩ : Im).small at hp
  change Tri Try.prog 26 [imV ⟨w, h, R, G, B⟩ L1 L2 L3 0] (imM ⟨w, h, R, G, B⟩ L1 L2 L3) (postF fs25 ⟨⟨w, h, R, G, B⟩, L1, L2, L3⟩)
  refine tri_evS (hyp (l := [(21, ent21)]) (lp := []) ⟨e21, trivial⟩ trivial) Try.func26 comp26 (rs := [.cell 2 (some 3), .tmp 3]) (by rfl) Try.ntmps26 19 ?_
  simp -implicitDefEqProofs only [push_cast, false_implies, reduceCtorEq, Classical.not_not, Nat.reduceAdd, Nat.reduceSub, Nat.reduceMul, Nat.reduceLeDiff, Nat.reduceLT, Nat.reduceEqDiff, Nat.reduceBEq, Nat.reduceBNe, Int.reduceNeg, Int.reduceToNat, Bool.or_false, Bool.false_or, Bool.or_true, Bool.true_or, BEq.rfl, Bool.not_eq_true, Bool.not_eq_false, decide_eq_true_eq, not_true_eq_false, not_false_eq_true, ite_true, ite_false, List.append_nil, and_assoc, Nat.mul_zero, Nat.zero_mul, ir26, fs20]
  refine fun X X1 => ⟨hp, ?_⟩
  refine postF.mk' (fun j => X1 1 (12 + j)) [some 0, some 1, some 2, some 12] ?_
  simp -implicitDefEqProofs only [push_cast, false_implies, reduceCtorEq, Classical.not_not, Nat.reduceAdd, Nat.reduceSub, Nat.reduceMul, Nat.reduceLeDiff, Nat.reduceLT, Nat.reduceEqDiff, Nat.reduceBEq, Nat.reduceBNe, Int.reduceNeg, Int.reduceToNat, Bool.or_false, Bool.false_or, Bool.or_true, Bool.true_or, BEq.rfl, Bool.not_eq_true, Bool.not_eq_false, decide_eq_true_eq, not_true_eq_false, not_false_eq_true, ite_true, ite_false, List.append_nil, and_assoc, Nat.mul_zero, Nat.zero_mul, fs25, fs20]
def ent26 : Entry := spOf fs25 inv15
theorem e26 : EntryOk Try.prog 26 ent26 := entry_of ok26 inv15
@[push_cast] theorem ent26_app (us : List SV) (look : Look) (x : Nat → Xf.Loc) (k : Nat) : ent26 us look x k = spOf fs25 inv15 us look x k := rfl
end Go.Proofs.Ytnmbimhcfioeiaa
