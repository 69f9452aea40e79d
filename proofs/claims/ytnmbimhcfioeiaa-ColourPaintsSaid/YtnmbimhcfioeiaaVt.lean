import Derived.Test.YtnmbimhcfioeiaaVr
set_option linter.unusedVariables false
set_option linter.unusedSimpArgs false
/-! Means, sums over rectangles; Halve. -/
namespace Go.Proofs.Ytnmbimhcfioeiaa
open Xf
set_option maxRecDepth 4000
/- incunable/colour.mean : slots 24, labels 10..9 -/
def ir62 : IR :=
  .seq (.reg false [⟨some 4, none, ⟨[], []⟩, .mov (.k (.int .i64 0))⟩] [4] []) (.seq (.reg false [⟨some 8, none, ⟨[], []⟩, .mov (.t 0)⟩,
    ⟨some 9, none, ⟨[], []⟩, .bin 1 .mul (.k (.int .i64 2)) (.t 8)⟩,
    ⟨some 10, none, ⟨[], []⟩, .mov (.t 1)⟩,
    ⟨some 11, none, ⟨[], []⟩, .bin 1 .add (.t 9) (.t 10)⟩,
    ⟨some 12, none, ⟨[], []⟩, .mov (.t 1)⟩,
    ⟨some 13, none, ⟨[], []⟩, .bin 1 .mul (.k (.int .i64 2)) (.t 12)⟩,
    ⟨some 5, none, ⟨[], []⟩, .mov (.t 11)⟩,
    ⟨some 6, none, ⟨[], []⟩, .mov (.t 13)⟩] [0, 1, 8, 9, 10, 11, 12, 13] []) (.seq (.reg false [⟨some 14, none, ⟨[], []⟩, .mov (.t 5)⟩,
    ⟨some 15, none, ⟨[], []⟩, .mov (.t 6)⟩,
    ⟨some 16, none, ⟨[], []⟩, .bin 1 .quo (.t 14) (.t 15)⟩,
    ⟨some 7, none, ⟨[], []⟩, .mov (.t 16)⟩] [14, 15, 16] []) (.seq (.seq (.reg false [⟨some 17, none, ⟨[], []⟩, .mov (.t 5)⟩,
    ⟨some 18, none, ⟨[], []⟩, .mov (.t 6)⟩,
    ⟨some 19, none, ⟨[], []⟩, .bin 1 .rem (.t 17) (.t 18)⟩,
    ⟨some 20, none, ⟨[], []⟩, .bin 1 .lss (.t 19) (.k (.int .i64 0))⟩] [5, 6, 17, 18, 19] []) (.cond (.t 20) (.reg false [⟨some 21, none, ⟨[], []⟩, .mov (.t 7)⟩,
    ⟨some 22, none, ⟨[], []⟩, .bin 1 .sub (.t 21) (.k (.int .i64 1))⟩,
    ⟨some 7, none, ⟨[], []⟩, .mov (.t 22)⟩] [20, 21, 22] []) (.skip))) (.seq (.reg false [⟨some 23, none, ⟨[], []⟩, .mov (.t 7)⟩,
    ⟨some 4, none, ⟨[], []⟩, .mov (.t 23)⟩] [7, 20, 23] []) (.ret)))))
theorem comp62 : (Try.f62.body.bind fun c => compC tab isP chkAll ir62 c) = some ir62 := by kernel_rfl
/- incunable/incunableref19.Mean : slots 12, labels 10..9 -/
def ir63 : IR :=
  .seq (.reg false [⟨some 4, none, ⟨[], []⟩, .mov (.k (.int .i64 0))⟩] [4] []) (.seq (.reg false [⟨some 5, none, ⟨[], []⟩, .mov (.t 0)⟩,
    ⟨some 6, none, ⟨[], []⟩, .bin 0 .mul (.k (.int .i64 2)) (.t 5)⟩,
    ⟨some 7, none, ⟨[], []⟩, .mov (.t 1)⟩,
    ⟨some 8, none, ⟨[], []⟩, .bin 0 .add (.t 6) (.t 7)⟩,
    ⟨some 9, none, ⟨[], []⟩, .mov (.t 1)⟩,
    ⟨some 10, none, ⟨[], []⟩, .bin 0 .mul (.k (.int .i64 2)) (.t 9)⟩,
    ⟨some 11, none, ⟨[], []⟩, .callp 48 [.t 8, .t 10]⟩,
    ⟨some 4, none, ⟨[], []⟩, .mov (.t 11)⟩] [0, 1, 5, 6, 7, 8, 9, 10, 11] []) (.ret))
theorem comp63 : (Try.f63.body.bind fun c => compC tab isP chkAll ir63 c) = some ir63 := by kernel_rfl
/- incunable/colour.Halve : slots 87, labels 10..20; loop b33_1 keeps [1, 2, 4, 25, 26]; loop b33_2 keeps [1, 2, 4, 5, 25, 26, 30, 31]; loop b33_3 keeps [1, 2, 4, 5, 6, 7, 8, 9, 25, 26, 30, 31]; loop b33_4 keeps [1, 2, 4, 5, 6, 7, 8, 9, 10, 25, 26, 30, 31] -/
def b33_4 : IR :=
  .seq (.seq (.reg false [⟨some 48, none, ⟨[], []⟩, .mov (.t 10)⟩,
    ⟨some 49, none, ⟨[], []⟩, .mov (.t 6)⟩,
    ⟨some 50, none, ⟨[], []⟩, .bin 0 .mul (.k (.int .i64 2)) (.t 49)⟩,
    ⟨some 51, none, ⟨[], []⟩, .bin 0 .add (.t 50) (.k (.int .i64 2))⟩,
    ⟨some 52, none, ⟨[], []⟩, .fld (.t 1) 0⟩,
    ⟨some 53, none, ⟨[], []⟩, .ld false none 0 0 (.t 52)⟩,
    ⟨some 54, none, ⟨[], []⟩, .mn (.t 51) (.t 53)⟩,
    ⟨some 55, none, ⟨[], []⟩, .bin 0 .lss (.t 48) (.t 54)⟩] [48, 49, 50, 51, 52, 53, 54] []) (.cond (.t 55) (.skip) (.exit 6))) (.seq (.block 7 (.reg false [⟨some 58, none, ⟨[], []⟩, .mov (.t 7)⟩,
    ⟨some 59, none, ⟨[], []⟩, .fld (.t 1) 2⟩,
    ⟨some 60, none, ⟨[], []⟩, .ld false none 0 0 (.t 59)⟩,
    ⟨some 61, none, ⟨[], []⟩, .mov (.t 9)⟩,
    ⟨some 62, none, ⟨[], []⟩, .fld (.t 1) 0⟩,
    ⟨some 63, none, ⟨[], []⟩, .ld false none 0 0 (.t 62)⟩,
    ⟨some 64, none, ⟨[], []⟩, .bin 0 .mul (.t 61) (.t 63)⟩,
    ⟨some 65, none, ⟨[], []⟩, .mov (.t 10)⟩,
    ⟨some 66, none, ⟨[], []⟩, .bin 0 .add (.t 64) (.t 65)⟩,
    ⟨some 67, none, ⟨[], []⟩, .idxS (.t 60) (.t 66) 1⟩,
    ⟨some 68, none, ⟨[], []⟩, .ld true none 0 0 (.t 67)⟩,
    ⟨some 69, none, ⟨[], []⟩, .bin 0 .add (.t 58) (.t 68)⟩,
    ⟨some 70, none, ⟨[], []⟩, .mov (.t 8)⟩,
    ⟨some 71, none, ⟨[], []⟩, .bin 0 .add (.t 70) (.k (.int .i64 1))⟩,
    ⟨some 7, none, ⟨[], []⟩, .mov (.t 69)⟩,
    ⟨some 8, none, ⟨[], []⟩, .mov (.t 71)⟩] [55, 58, 59, 60, 61, 62, 63, 64, 65, 66, 67, 68, 69, 70, 71] [])) (.reg false [⟨some 56, none, ⟨[], []⟩, .mov (.t 10)⟩,
    ⟨some 57, none, ⟨[], []⟩, .bin 0 .add (.t 56) (.k (.int .i64 1))⟩,
    ⟨some 10, none, ⟨[], []⟩, .mov (.t 57)⟩] [56, 57] []))
def r33_5 : IR :=
  .reg false [⟨some 44, none, ⟨[], []⟩, .mov (.t 9)⟩,
    ⟨some 45, none, ⟨[], []⟩, .bin 0 .add (.t 44) (.k (.int .i64 1))⟩,
    ⟨some 9, none, ⟨[], []⟩, .mov (.t 45)⟩] [10, 44, 45] []
def b33_3 : IR :=
  .seq (.seq (.reg false [⟨some 36, none, ⟨[], []⟩, .mov (.t 9)⟩,
    ⟨some 37, none, ⟨[], []⟩, .mov (.t 5)⟩,
    ⟨some 38, none, ⟨[], []⟩, .bin 0 .mul (.k (.int .i64 2)) (.t 37)⟩,
    ⟨some 39, none, ⟨[], []⟩, .bin 0 .add (.t 38) (.k (.int .i64 2))⟩,
    ⟨some 40, none, ⟨[], []⟩, .fld (.t 1) 1⟩,
    ⟨some 41, none, ⟨[], []⟩, .ld false none 0 0 (.t 40)⟩,
    ⟨some 42, none, ⟨[], []⟩, .mn (.t 39) (.t 41)⟩,
    ⟨some 43, none, ⟨[], []⟩, .bin 0 .lss (.t 36) (.t 42)⟩] [36, 37, 38, 39, 40, 41, 42] []) (.cond (.t 43) (.skip) (.exit 4))) (.seq (.block 5 (.seq (.reg false [⟨some 46, none, ⟨[], []⟩, .mov (.t 6)⟩,
    ⟨some 47, none, ⟨[], []⟩, .bin 0 .mul (.k (.int .i64 2)) (.t 46)⟩,
    ⟨some 10, none, ⟨[], []⟩, .mov (.t 47)⟩] [43, 46, 47] []) (.block 6 (.loop b33_4)))) (r33_5))
def r33_6 : IR :=
  .reg true [⟨some 72, none, ⟨[], []⟩, .fld (.t 4) 2⟩,
    ⟨some 73, none, ⟨[], []⟩, .ld false none 0 0 (.t 72)⟩,
    ⟨some 74, none, ⟨[], []⟩, .mov (.t 5)⟩,
    ⟨some 75, none, ⟨[], []⟩, .fld (.t 4) 0⟩,
    ⟨some 76, none, ⟨[], []⟩, .ld false none 0 0 (.t 75)⟩,
    ⟨some 77, none, ⟨[], []⟩, .bin 0 .mul (.t 74) (.t 76)⟩,
    ⟨some 78, none, ⟨[], []⟩, .mov (.t 6)⟩,
    ⟨some 79, none, ⟨[], []⟩, .bin 0 .add (.t 77) (.t 78)⟩,
    ⟨some 80, none, ⟨[], []⟩, .mov (.t 7)⟩,
    ⟨some 81, none, ⟨[], []⟩, .mov (.t 8)⟩,
    ⟨some 82, none, ⟨[], []⟩, .callp 62 [.t 80, .t 81]⟩,
    ⟨some 83, none, ⟨[], []⟩, .idxS (.t 73) (.t 79) 1⟩,
    ⟨none, none, ⟨[], []⟩, .sto true 1 .i64 (.t 83) (.t 82)⟩] [6, 7, 8, 9, 72, 73, 74, 75, 76, 77, 78, 79, 80, 81, 82, 83] []
def r33_7 : IR :=
  .reg false [⟨some 84, none, ⟨[], []⟩, .bin 0 .add (.t 31) (.k (.int .i64 1))⟩,
    ⟨some 31, none, ⟨[], []⟩, .mov (.t 84)⟩] [84] []
def b33_2 : IR :=
  .seq (.reg false [⟨some 32, none, ⟨[], []⟩, .bin 0 .lss (.t 31) (.t 30)⟩] [] []) (.seq (.cond (.t 32) (.skip) (.exit 2)) (.seq (.block 3 (.seq (.reg false [⟨some 33, none, ⟨[], []⟩, .mov (.t 31)⟩,
    ⟨some 6, none, ⟨[], []⟩, .mov (.t 33)⟩] [32, 33] []) (.seq (.reg false [⟨some 7, none, ⟨[], []⟩, .mov (.k (.int .i64 0))⟩,
    ⟨some 8, none, ⟨[], []⟩, .mov (.k (.int .i64 0))⟩] [] []) (.seq (.seq (.reg false [⟨some 34, none, ⟨[], []⟩, .mov (.t 5)⟩,
    ⟨some 35, none, ⟨[], []⟩, .bin 0 .mul (.k (.int .i64 2)) (.t 34)⟩,
    ⟨some 9, none, ⟨[], []⟩, .mov (.t 35)⟩] [34, 35] []) (.block 4 (.loop b33_3))) (r33_6))))) (r33_7)))
def r33_8 : IR :=
  .reg false [⟨some 85, none, ⟨[], []⟩, .bin 0 .add (.t 26) (.k (.int .i64 1))⟩,
    ⟨some 26, none, ⟨[], []⟩, .mov (.t 85)⟩] [5, 30, 31, 85] []
def b33_1 : IR :=
  .seq (.reg false [⟨some 27, none, ⟨[], []⟩, .bin 0 .lss (.t 26) (.t 25)⟩] [] []) (.seq (.cond (.t 27) (.skip) (.exit 0)) (.seq (.block 1 (.seq (.reg false [⟨some 28, none, ⟨[], []⟩, .mov (.t 26)⟩,
    ⟨some 5, none, ⟨[], []⟩, .mov (.t 28)⟩] [27, 28] []) (.seq (.reg false [⟨some 29, none, ⟨[], []⟩, .fld (.t 4) 0⟩,
    ⟨some 30, none, ⟨[], []⟩, .ld false none 0 0 (.t 29)⟩,
    ⟨some 31, none, ⟨[], []⟩, .mov (.k (.int .i64 0))⟩] [29] []) (.block 2 (.loop b33_2))))) (r33_8)))
def r33_9 : IR :=
  .seq (.reg false [⟨some 86, none, ⟨[], []⟩, .ld false (some 3) 0 0 (.t 4)⟩,
    ⟨none, none, ⟨[], []⟩, .sto false 3 .i64 (.t 2) (.t 86)⟩,
    ⟨some 3, none, ⟨[], []⟩, .mov (.k (.int .i64 0))⟩] [1, 4, 25, 26, 86] []) (.ret)
def ir33 : IR :=
  .seq (.reg false [⟨some 1, none, ⟨[], []⟩, .box 10 (.t 0)⟩,
    ⟨some 2, none, ⟨[], []⟩, .alloc 11 [.int .i64 0, .int .i64 0, nilSV]⟩,
    ⟨some 3, none, ⟨[], []⟩, .mov (.k (.int .i64 0))⟩] [0, 3] []) (.seq (.seq (.reg false [⟨some 11, none, ⟨[], []⟩, .ld false (some 3) 0 0 (.t 1)⟩,
    ⟨some 12, none, ⟨[], []⟩, .call (some 4) 12 49 [.t 11]⟩,
    ⟨some 13, none, ⟨[], []⟩, .not (.t 12)⟩] [11, 12] []) (.cond (.t 13) (.seq (.reg false [⟨some 14, none, ⟨[], []⟩, .build [.int .i64 0, .int .i64 0, nilSV] []⟩,
    ⟨none, none, ⟨[], []⟩, .sto false 3 .i64 (.t 2) (.t 14)⟩,
    ⟨some 3, none, ⟨[], []⟩, .mov (.k (.int .i64 70))⟩] [1, 13, 14] []) (.ret)) (.skip))) (.seq (.reg false [⟨some 15, none, ⟨[], []⟩, .fld (.t 1) 0⟩,
    ⟨some 16, none, ⟨[], []⟩, .ld false none 0 0 (.t 15)⟩,
    ⟨some 17, none, ⟨[], []⟩, .bin 0 .add (.t 16) (.k (.int .i64 1))⟩,
    ⟨some 18, none, ⟨[], []⟩, .bin 0 .quo (.t 17) (.k (.int .i64 2))⟩,
    ⟨some 19, none, ⟨[], []⟩, .fld (.t 1) 1⟩,
    ⟨some 20, none, ⟨[], []⟩, .ld false none 0 0 (.t 19)⟩,
    ⟨some 21, none, ⟨[], []⟩, .bin 0 .add (.t 20) (.k (.int .i64 1))⟩,
    ⟨some 22, none, ⟨[], []⟩, .bin 0 .quo (.t 21) (.k (.int .i64 2))⟩,
    ⟨some 23, none, ⟨[], []⟩, .call (some 4) 16 47 [.t 18, .t 22]⟩,
    ⟨some 4, none, ⟨[], []⟩, .alloc 20 [.int .i64 0, .int .i64 0, nilSV]⟩,
    ⟨none, none, ⟨[], []⟩, .sto false 3 .i64 (.t 4) (.t 23)⟩] [3, 13, 15, 16, 17, 18, 19, 20, 21, 22, 23] []) (.seq (.seq (.reg false [⟨some 24, none, ⟨[], []⟩, .fld (.t 4) 1⟩,
    ⟨some 25, none, ⟨[], []⟩, .ld false none 0 0 (.t 24)⟩,
    ⟨some 26, none, ⟨[], []⟩, .mov (.k (.int .i64 0))⟩] [24] []) (.block 0 (.loop b33_1))) (r33_9))))
def kp33_4 : List Nat := [1, 2, 4, 5, 6, 7, 8, 9, 10, 25, 26, 30, 31]
def kl33_4 : List Nat := []
attribute [push_cast] kp33_4 kl33_4
def kp33_3 : List Nat := [1, 2, 4, 5, 6, 7, 8, 9, 25, 26, 30, 31]
def kl33_3 : List Nat := []
attribute [push_cast] kp33_3 kl33_3
def kp33_2 : List Nat := [1, 2, 4, 5, 25, 26, 30, 31]
def kl33_2 : List Nat := []
attribute [push_cast] kp33_2 kl33_2
def kp33_1 : List Nat := [1, 2, 4, 25, 26]
def kl33_1 : List Nat := []
attribute [push_cast] kp33_1 kl33_1
theorem comp33 : (Try.f33.body.bind fun c => compC tab isP chkAll ir33 c) = some ir33 := by kernel_rfl
/- incunable/incunableref19.Halve : slots 79, labels 10..18; loop b34_1 keeps [1, 2, 4, 5]; loop b34_2 keeps [1, 2, 4, 5, 6]; loop b34_3 keeps [1, 2, 4, 5, 6, 7, 8, 9]; loop b34_4 keeps [1, 2, 4, 5, 6, 7, 8, 9, 10] -/
def b34_4 : IR :=
  .seq (.seq (.reg false [⟨some 47, none, ⟨[], []⟩, .mov (.t 10)⟩,
    ⟨some 48, none, ⟨[], []⟩, .mov (.t 6)⟩,
    ⟨some 49, none, ⟨[], []⟩, .bin 0 .add (.t 48) (.k (.int .i64 2))⟩,
    ⟨some 50, none, ⟨[], []⟩, .fld (.t 1) 0⟩,
    ⟨some 51, none, ⟨[], []⟩, .ld false none 0 0 (.t 50)⟩,
    ⟨some 52, none, ⟨[], []⟩, .mn (.t 49) (.t 51)⟩,
    ⟨some 53, none, ⟨[], []⟩, .bin 0 .lss (.t 47) (.t 52)⟩] [47, 48, 49, 50, 51, 52] []) (.cond (.t 53) (.skip) (.exit 6))) (.seq (.block 7 (.reg false [⟨some 56, none, ⟨[], []⟩, .mov (.t 7)⟩,
    ⟨some 57, none, ⟨[], []⟩, .fld (.t 1) 2⟩,
    ⟨some 58, none, ⟨[], []⟩, .ld false none 0 0 (.t 57)⟩,
    ⟨some 59, none, ⟨[], []⟩, .mov (.t 9)⟩,
    ⟨some 60, none, ⟨[], []⟩, .fld (.t 1) 0⟩,
    ⟨some 61, none, ⟨[], []⟩, .ld false none 0 0 (.t 60)⟩,
    ⟨some 62, none, ⟨[], []⟩, .bin 0 .mul (.t 59) (.t 61)⟩,
    ⟨some 63, none, ⟨[], []⟩, .mov (.t 10)⟩,
    ⟨some 64, none, ⟨[], []⟩, .bin 0 .add (.t 62) (.t 63)⟩,
    ⟨some 65, none, ⟨[], []⟩, .idxS (.t 58) (.t 64) 1⟩,
    ⟨some 66, none, ⟨[], []⟩, .ld true none 0 0 (.t 65)⟩,
    ⟨some 67, none, ⟨[], []⟩, .bin 0 .add (.t 56) (.t 66)⟩,
    ⟨some 68, none, ⟨[], []⟩, .mov (.t 8)⟩,
    ⟨some 69, none, ⟨[], []⟩, .bin 0 .add (.t 68) (.k (.int .i64 1))⟩,
    ⟨some 7, none, ⟨[], []⟩, .mov (.t 67)⟩,
    ⟨some 8, none, ⟨[], []⟩, .mov (.t 69)⟩] [53, 56, 57, 58, 59, 60, 61, 62, 63, 64, 65, 66, 67, 68, 69] [])) (.reg false [⟨some 54, none, ⟨[], []⟩, .mov (.t 10)⟩,
    ⟨some 55, none, ⟨[], []⟩, .bin 0 .add (.t 54) (.k (.int .i64 1))⟩,
    ⟨some 10, none, ⟨[], []⟩, .mov (.t 55)⟩] [54, 55] []))
def r34_5 : IR :=
  .reg false [⟨some 44, none, ⟨[], []⟩, .mov (.t 9)⟩,
    ⟨some 45, none, ⟨[], []⟩, .bin 0 .add (.t 44) (.k (.int .i64 1))⟩,
    ⟨some 9, none, ⟨[], []⟩, .mov (.t 45)⟩] [10, 44, 45] []
def b34_3 : IR :=
  .seq (.seq (.reg false [⟨some 37, none, ⟨[], []⟩, .mov (.t 9)⟩,
    ⟨some 38, none, ⟨[], []⟩, .mov (.t 5)⟩,
    ⟨some 39, none, ⟨[], []⟩, .bin 0 .add (.t 38) (.k (.int .i64 2))⟩,
    ⟨some 40, none, ⟨[], []⟩, .fld (.t 1) 1⟩,
    ⟨some 41, none, ⟨[], []⟩, .ld false none 0 0 (.t 40)⟩,
    ⟨some 42, none, ⟨[], []⟩, .mn (.t 39) (.t 41)⟩,
    ⟨some 43, none, ⟨[], []⟩, .bin 0 .lss (.t 37) (.t 42)⟩] [37, 38, 39, 40, 41, 42] []) (.cond (.t 43) (.skip) (.exit 4))) (.seq (.block 5 (.seq (.reg false [⟨some 46, none, ⟨[], []⟩, .mov (.t 6)⟩,
    ⟨some 10, none, ⟨[], []⟩, .mov (.t 46)⟩] [43, 46] []) (.block 6 (.loop b34_4)))) (r34_5))
def r34_6 : IR :=
  .reg true [⟨some 70, none, ⟨[], []⟩, .fld (.t 4) 2⟩,
    ⟨some 71, none, ⟨[17], []⟩, .ld false none 0 0 (.t 70)⟩,
    ⟨some 72, none, ⟨[], []⟩, .mov (.t 7)⟩,
    ⟨some 73, none, ⟨[], []⟩, .mov (.t 8)⟩,
    ⟨some 74, none, ⟨[], []⟩, .callp 63 [.t 72, .t 73]⟩,
    ⟨some 75, none, ⟨[], []⟩, .bslice 17 [.t 74]⟩,
    ⟨some 76, none, ⟨[], []⟩, .app 18 1 8 (.t 71) (.t 75)⟩,
    ⟨some 77, none, ⟨[], []⟩, .fld (.t 4) 2⟩,
    ⟨none, none, ⟨[], []⟩, .sto false 1 .i64 (.t 77) (.t 76)⟩] [7, 8, 9, 70, 71, 72, 73, 74, 75, 76, 77] []
def r34_7 : IR :=
  .reg false [⟨some 34, none, ⟨[], []⟩, .mov (.t 6)⟩,
    ⟨some 35, none, ⟨[], []⟩, .bin 0 .add (.t 34) (.k (.int .i64 2))⟩,
    ⟨some 6, none, ⟨[], []⟩, .mov (.t 35)⟩] [34, 35] []
def b34_2 : IR :=
  .seq (.seq (.reg false [⟨some 30, none, ⟨[], []⟩, .mov (.t 6)⟩,
    ⟨some 31, none, ⟨[], []⟩, .fld (.t 1) 0⟩,
    ⟨some 32, none, ⟨[], []⟩, .ld false none 0 0 (.t 31)⟩,
    ⟨some 33, none, ⟨[], []⟩, .bin 0 .lss (.t 30) (.t 32)⟩] [30, 31, 32] []) (.cond (.t 33) (.skip) (.exit 2))) (.seq (.block 3 (.seq (.reg false [⟨some 7, none, ⟨[], []⟩, .mov (.k (.int .i64 0))⟩,
    ⟨some 8, none, ⟨[], []⟩, .mov (.k (.int .i64 0))⟩] [33] []) (.seq (.seq (.reg false [⟨some 36, none, ⟨[], []⟩, .mov (.t 5)⟩,
    ⟨some 9, none, ⟨[], []⟩, .mov (.t 36)⟩] [36] []) (.block 4 (.loop b34_3))) (r34_6)))) (r34_7))
def r34_8 : IR :=
  .reg false [⟨some 28, none, ⟨[], []⟩, .mov (.t 5)⟩,
    ⟨some 29, none, ⟨[], []⟩, .bin 0 .add (.t 28) (.k (.int .i64 2))⟩,
    ⟨some 5, none, ⟨[], []⟩, .mov (.t 29)⟩] [6, 28, 29] []
def b34_1 : IR :=
  .seq (.seq (.reg false [⟨some 24, none, ⟨[], []⟩, .mov (.t 5)⟩,
    ⟨some 25, none, ⟨[], []⟩, .fld (.t 1) 1⟩,
    ⟨some 26, none, ⟨[], []⟩, .ld false none 0 0 (.t 25)⟩,
    ⟨some 27, none, ⟨[], []⟩, .bin 0 .lss (.t 24) (.t 26)⟩] [24, 25, 26] []) (.cond (.t 27) (.skip) (.exit 0))) (.seq (.block 1 (.seq (.reg false [⟨some 6, none, ⟨[], []⟩, .mov (.k (.int .i64 0))⟩] [27] []) (.block 2 (.loop b34_2)))) (r34_8))
def r34_9 : IR :=
  .seq (.reg false [⟨some 78, none, ⟨[], []⟩, .ld false (some 3) 0 0 (.t 4)⟩,
    ⟨none, none, ⟨[], []⟩, .sto false 3 .i64 (.t 2) (.t 78)⟩,
    ⟨some 3, none, ⟨[], []⟩, .mov (.k (.int .i64 0))⟩] [1, 4, 5, 78] []) (.ret)
def ir34 : IR :=
  .seq (.reg false [⟨some 1, none, ⟨[], []⟩, .box 10 (.t 0)⟩,
    ⟨some 2, none, ⟨[], []⟩, .alloc 11 [.int .i64 0, .int .i64 0, nilSV]⟩,
    ⟨some 3, none, ⟨[], []⟩, .mov (.k (.int .i64 0))⟩] [0, 3] []) (.seq (.seq (.reg false [⟨some 11, none, ⟨[], []⟩, .ld false (some 3) 0 0 (.t 1)⟩,
    ⟨some 12, none, ⟨[], []⟩, .call (some 4) 12 51 [.t 11]⟩,
    ⟨some 13, none, ⟨[], []⟩, .not (.t 12)⟩] [11, 12] []) (.cond (.t 13) (.seq (.reg false [⟨some 14, none, ⟨[], []⟩, .build [.int .i64 0, .int .i64 0, nilSV] []⟩,
    ⟨none, none, ⟨[], []⟩, .sto false 3 .i64 (.t 2) (.t 14)⟩,
    ⟨some 3, none, ⟨[], []⟩, .mov (.k (.int .i64 70))⟩] [1, 13, 14] []) (.ret)) (.skip))) (.seq (.reg false [⟨some 15, none, ⟨[], []⟩, .fld (.t 1) 0⟩,
    ⟨some 16, none, ⟨[], []⟩, .ld false none 0 0 (.t 15)⟩,
    ⟨some 17, none, ⟨[], []⟩, .bin 0 .add (.t 16) (.k (.int .i64 1))⟩,
    ⟨some 18, none, ⟨[], []⟩, .bin 0 .quo (.t 17) (.k (.int .i64 2))⟩,
    ⟨some 19, none, ⟨[], []⟩, .fld (.t 1) 1⟩,
    ⟨some 20, none, ⟨[], []⟩, .ld false none 0 0 (.t 19)⟩,
    ⟨some 21, none, ⟨[], []⟩, .bin 0 .add (.t 20) (.k (.int .i64 1))⟩,
    ⟨some 22, none, ⟨[], []⟩, .bin 0 .quo (.t 21) (.k (.int .i64 2))⟩,
    ⟨some 23, none, ⟨[], []⟩, .build [.int .i64 0, .int .i64 0, nilSV] [(0, 1, .t 18), (1, 1, .t 22)]⟩,
    ⟨some 4, none, ⟨[], []⟩, .alloc 16 [.int .i64 0, .int .i64 0, nilSV]⟩,
    ⟨none, none, ⟨[], []⟩, .sto false 3 .i64 (.t 4) (.t 23)⟩] [3, 13, 15, 16, 17, 18, 19, 20, 21, 22, 23] []) (.seq (.seq (.reg false [⟨some 5, none, ⟨[], []⟩, .mov (.k (.int .i64 0))⟩] [] []) (.block 0 (.loop b34_1))) (r34_9))))
def kp34_4 : List Nat := [1, 2, 4, 5, 6, 7, 8, 9, 10]
def kl34_4 : List Nat := []
attribute [push_cast] kp34_4 kl34_4
def kp34_3 : List Nat := [1, 2, 4, 5, 6, 7, 8, 9]
def kl34_3 : List Nat := []
attribute [push_cast] kp34_3 kl34_3
def kp34_2 : List Nat := [1, 2, 4, 5, 6]
def kl34_2 : List Nat := [17, 18]
attribute [push_cast] kp34_2 kl34_2
def kp34_1 : List Nat := [1, 2, 4, 5]
def kl34_1 : List Nat := [17, 18]
attribute [push_cast] kp34_1 kl34_1
theorem comp34 : (Try.f34.body.bind fun c => compC tab isP chkAll ir34 c) = some ir34 := by kernel_rfl
set_option maxRecDepth 512

def meanI (s n : Int) : Int := (2 * s + n) / (2 * n)
def meanF : EntryP
  | [.int .i64 s, .int .i64 n] => some (-1099511627776 ≤ s ∧ s ≤ 1099511627776 ∧ 0 < n ∧ n ≤ 1099511627776, .int .i64 (meanI s n))
  | _ => none
attribute [push_cast] meanF
theorem p62 : EntryPOk Try.prog 62 meanF := by
  refine ⟨⟨_, Try.func62, by kernel_rfl, by kernel_rfl⟩, fun us p v h hp => ?_⟩
  unfold meanF at h
  split at h <;> cases h
  rename_i s n
  obtain ⟨h1, h2, h3, h4⟩ := hp
  refine tri_evS (hyp (l := []) (lp := []) trivial trivial) Try.func62 comp62 (rs := [.tmp 4]) (by rfl) Try.ntmps62 10 ?_
  have e1 : IntKind.i64.wrap (2 * s) = 2 * s := inR_wrap (k := .i64) ⟨by omega, by omega⟩
  have e2 : IntKind.i64.wrap (2 * s + n) = 2 * s + n := inR_wrap (k := .i64) ⟨by omega, by omega⟩
  have e3 : IntKind.i64.wrap (2 * n) = 2 * n := inR_wrap (k := .i64) ⟨by omega, by omega⟩
  simp -implicitDefEqProofs only [push_cast, false_implies, reduceCtorEq, Classical.not_not, Nat.reduceAdd, Nat.reduceSub, Nat.reduceMul, Nat.reduceLeDiff, Nat.reduceLT, Nat.reduceEqDiff, Nat.reduceBEq, Nat.reduceBNe, Int.reduceNeg, Int.reduceToNat, Bool.or_false, Bool.false_or, Bool.or_true, Bool.true_or, BEq.rfl, Bool.not_eq_true, Bool.not_eq_false, decide_eq_true_eq, not_true_eq_false, not_false_eq_true, ite_true, ite_false, List.append_nil, and_assoc, Nat.mul_zero, Nat.zero_mul, ir62, meanF, meanI, e1, e2, e3]
  have hd := tdiv_bd (2 * s + n) (2 * n)
  have he := down_eq (a := 2 * s + n) (b := 2 * n) (by omega)
  repeat (refine And.intro (by first | omega | trivial | (intros; omega)) ?_)
  refine ⟨fun h => ?_, fun h => ?_⟩
  · rw [inR_wrap (k := .i64) ⟨by omega, by omega⟩, he.1 h]
  · rw [he.2 h]
theorem p63 : EntryPOk Try.prog 63 meanF := by
  refine ⟨⟨_, Try.func63, by kernel_rfl, by kernel_rfl⟩, fun us p v h hp => ?_⟩
  unfold meanF at h
  split at h <;> cases h
  rename_i s n
  obtain ⟨h1, h2, h3, h4⟩ := hp
  refine tri_evS (hyp (l := []) (lp := [(48, downF)]) trivial ⟨p48, trivial⟩) Try.func63 comp63 (rs := [.tmp 4]) (by rfl) Try.ntmps63 10 ?_
  simp -implicitDefEqProofs only [push_cast, false_implies, reduceCtorEq, Classical.not_not, Nat.reduceAdd, Nat.reduceSub, Nat.reduceMul, Nat.reduceLeDiff, Nat.reduceLT, Nat.reduceEqDiff, Nat.reduceBEq, Nat.reduceBNe, Int.reduceNeg, Int.reduceToNat, Bool.or_false, Bool.false_or, Bool.or_true, Bool.true_or, BEq.rfl, Bool.not_eq_true, Bool.not_eq_false, decide_eq_true_eq, not_true_eq_false, not_false_eq_true, ite_true, ite_false, List.append_nil, and_assoc, Nat.mul_zero, Nat.zero_mul, ir63, meanF, meanI]
  omega

/-! Sums over rectangles. -/
theorem rd_bd {lo hi : Int} {xs : List Int} (h : AllIn lo hi xs) (h0 : lo ≤ 0) (h1 : 0 ≤ hi) (k : Int) : lo ≤ rd xs k ∧ rd xs k ≤ hi := by
  by_cases hk : k.toNat < xs.length
  · have e : rd xs k = xs[k.toNat] := by simp [rd, hk]
    rw [e]; exact h _ (List.getElem_mem hk)
  · have e : rd xs k = 0 := by simp [rd, List.getElem?_eq_none (Nat.not_lt.1 hk)]
    rw [e]; exact ⟨h0, h1⟩
def rowS (xs : List Int) (w v X : Int) : Nat → Int
  | 0 => 0
  | j + 1 => rowS xs w v X j + rd xs (v * w + (X + j))
def blkS (xs : List Int) (w Y X : Int) (c : Nat) : Nat → Int
  | 0 => 0
  | i + 1 => blkS xs w Y X c i + rowS xs w (Y + i) X c
theorem rowS_bd {xs : List Int} (h : AllIn (-16777216) 16777216 xs) (w v X : Int) : ∀ j : Nat, -(16777216 * j) ≤ rowS xs w v X j ∧ rowS xs w v X j ≤ 16777216 * j
  | 0 => by simp [rowS]
  | j + 1 => by
    have := rowS_bd h w v X j
    have := rd_bd h (by omega) (by omega) (v * w + (X + j))
    simp only [rowS]
    omega
theorem blkS_bd {xs : List Int} (h : AllIn (-16777216) 16777216 xs) (w Y X : Int) {c : Nat} (hc : c ≤ 200) : ∀ i : Nat, -(3355443200 * i) ≤ blkS xs w Y X c i ∧ blkS xs w Y X c i ≤ 3355443200 * i
  | 0 => by simp [blkS]
  | i + 1 => by
    have := blkS_bd h w Y X hc i
    have := rowS_bd h w (Y + i) X c
    simp only [blkS]
    omega
/-- How many of two lie below a side. -/
def two (y h : Int) : Nat := (min (2 * y + 2) h - 2 * y).toNat
def halfF (w h : Int) (xs : List Int) (k : Nat) : Int :=
  meanI (blkS xs w (2 * ((k / ((w + 1) / 2).toNat : Nat) : Int)) (2 * ((k % ((w + 1) / 2).toNat : Nat) : Int)) (two (k % ((w + 1) / 2).toNat : Nat) w) (two (k / ((w + 1) / 2).toNat : Nat) h))
    ((two (k / ((w + 1) / 2).toNat : Nat) h : Int) * two (k % ((w + 1) / 2).toNat : Nat) w)
theorem dm_at {w v u : Nat} (hu : u < w) : (v * w + u) / w = v ∧ (v * w + u) % w = u := by
  constructor
  · rw [Nat.mul_comm, Nat.mul_add_div (by omega), Nat.div_eq_of_lt hu, Nat.add_zero]
  · rw [Nat.mul_comm, Nat.mul_add_mod, Nat.mod_eq_of_lt hu]
theorem halfF_at {w h : Int} {xs : List Int} {W y x : Nat} (hW : ((w + 1) / 2).toNat = W) (hx : x < W) :
    halfF w h xs (y * W + x) = meanI (blkS xs w (2 * (y : Int)) (2 * (x : Int)) (two x w) (two y h)) ((two y h : Int) * two x w) := by
  unfold halfF
  rw [hW, (dm_at hx).1, (dm_at hx).2]
def half (p : Pl) : Pl := if p.Ok then ⟨(p.w + 1) / 2, (p.h + 1) / 2, tabl (((p.h + 1) / 2).toNat * ((p.w + 1) / 2).toNat) (halfF p.w p.h p.xs)⟩ else pl0
def fs33 : FS where
  A := PlA
  args := fun a => [plV a.p a.L 0]
  mem := fun a => [some (.ro, a.L, .ints .i64 a.p.xs)]
  pre := fun a => a.p.xs.length ≤ 140737488355328
  res := fun a x => .tup [plV (half a.p) (lx a.p.Ok x 0) 1, .int .i64 (if a.p.Ok then 0 else 70)]
  out := fun _ _ => []
  new := fun a x => [(lx a.p.Ok x 0, .ints .i64 (half a.p).xs)]
theorem ok33 : FSOk Try.prog 33 fs33 := by
  refine ⟨⟨_, Try.func33, by kernel_rfl, by kernel_rfl⟩, fun a => ⟨by simp [fs33, push_cast, noMine, argOwn, Chunk.frArg], by simp [fs33, push_cast, outOk, Chunk.ext], fun x => .inl (by simp [fs33, push_cast, frNew, frOut, Chunk.fr])⟩, fun a hp => ?_⟩
  obtain ⟨⟨w, h, xs⟩, L⟩ := a
  change xs.length ≤ 140737488355328 at hp
  change Tri Try.prog 33 [plV ⟨w, h, xs⟩ L 0] [some (.ro, L, .ints .i64 xs)] (postF fs33 ⟨⟨w, h, xs⟩, L⟩)
  refine tri_evS (hyp (l := [(49, ent49), (47, ent47)]) (lp := [(62, meanF)]) ⟨e49, e47, trivial⟩ ⟨p62, trivial⟩) Try.func33 comp33 (rs := [.cell 2 (some 3), .tmp 3]) (by rfl) Try.ntmps33 21 ?_
  simp -implicitDefEqProofs only [push_cast, false_implies, reduceCtorEq, Classical.not_not, Nat.reduceAdd, Nat.reduceSub, Nat.reduceMul, Nat.reduceLeDiff, Nat.reduceLT, Nat.reduceEqDiff, Nat.reduceBEq, Nat.reduceBNe, Int.reduceNeg, Int.reduceToNat, Bool.or_false, Bool.false_or, Bool.or_true, Bool.true_or, BEq.rfl, Bool.not_eq_true, Bool.not_eq_false, decide_eq_true_eq, not_true_eq_false, not_false_eq_true, ite_true, ite_false, List.append_nil, and_assoc, Nat.mul_zero, Nat.zero_mul, ir33, fs49, fs47]
  refine fun X => ⟨hp, fun hn => ?_, fun hy => ?_⟩
  · refine postF.mk' (fun _ => default) [some 0, none] ?_
    simp -implicitDefEqProofs only [push_cast, false_implies, reduceCtorEq, Classical.not_not, Nat.reduceAdd, Nat.reduceSub, Nat.reduceMul, Nat.reduceLeDiff, Nat.reduceLT, Nat.reduceEqDiff, Nat.reduceBEq, Nat.reduceBNe, Int.reduceNeg, Int.reduceToNat, Bool.or_false, Bool.false_or, Bool.or_true, Bool.true_or, BEq.rfl, Bool.not_eq_true, Bool.not_eq_false, decide_eq_true_eq, not_true_eq_false, not_false_eq_true, ite_true, ite_false, List.append_nil, and_assoc, Nat.mul_zero, Nat.zero_mul, fs33, half, hn, if_false, lx, pl0]
  obtain ⟨hs, hl, ha⟩ : SidesOk w h ∧ (xs.length : Int) = w * h ∧ AllIn (-16777216) 16777216 xs := id hy
  obtain ⟨a1, a2, a3, a4, a5⟩ := id hs
  obtain ⟨W, hW⟩ : ∃ W : Nat, (w + 1) / 2 = (W : Int) := ⟨((w + 1) / 2).toNat, by omega⟩
  obtain ⟨H, hH⟩ : ∃ H : Nat, (h + 1) / 2 = (H : Int) := ⟨((h + 1) / 2).toNat, by omega⟩
  have hHW := mul_bd (a := (W : Int)) (b := H) (A := w) (B := h) (by omega) (by omega) (by omega) (by omega)
  rw [hW, hH]
  intro X1
  have hsO : SidesOk W H := ⟨by omega, by omega, by omega, by omega, by omega⟩
  have ez : ((W : Int) * H).toNat = H * W := by rw [Int.mul_comm, ← Int.natCast_mul, Int.toNat_natCast]
  repeat (refine And.intro (by first | omega | trivial | (intros; omega)) ?_)
  have eW : ((w + 1) / 2).toNat = W := by omega
  refine evS_loopU (A := Nat) kp33_1 kl33_1 (fun y => [(26, .int .i64 y)]) (fun y => [(16, .mine, X1 8 16, .ints .i64 (prt (H * W) (y * W) (halfF w h xs)))]) (fun y => y ≤ H) (fun y => H - y) 0 (by omega) (Sub.pt ?_) ?_
  · simp -implicitDefEqProofs only [push_cast, false_implies, reduceCtorEq, Classical.not_not, Nat.reduceAdd, Nat.reduceSub, Nat.reduceMul, Nat.reduceLeDiff, Nat.reduceLT, Nat.reduceEqDiff, Nat.reduceBEq, Nat.reduceBNe, Int.reduceNeg, Int.reduceToNat, Bool.or_false, Bool.false_or, Bool.or_true, Bool.true_or, BEq.rfl, Bool.not_eq_true, Bool.not_eq_false, decide_eq_true_eq, not_true_eq_false, not_false_eq_true, ite_true, ite_false, List.append_nil, and_assoc, Nat.mul_zero, Nat.zero_mul, zs, ez, prt_zero]
  intro y (hy1 : y ≤ H) K1 hK1
  simp -implicitDefEqProofs only [push_cast, false_implies, reduceCtorEq, Classical.not_not, Nat.reduceAdd, Nat.reduceSub, Nat.reduceMul, Nat.reduceLeDiff, Nat.reduceLT, Nat.reduceEqDiff, Nat.reduceBEq, Nat.reduceBNe, Int.reduceNeg, Int.reduceToNat, Bool.or_false, Bool.false_or, Bool.or_true, Bool.true_or, BEq.rfl, Bool.not_eq_true, Bool.not_eq_false, decide_eq_true_eq, not_true_eq_false, not_false_eq_true, ite_true, ite_false, List.append_nil, and_assoc, Nat.mul_zero, Nat.zero_mul, b33_1, r33_8, r33_9]
  refine ⟨fun hl1 => ?_, fun hl1 => ?_⟩
  · refine evS_loopU (A := Nat) kp33_2 kl33_2 (fun x => [(31, .int .i64 x)]) (fun x => [(16, .mine, X1 8 16, .ints .i64 (prt (H * W) (y * W + x) (halfF w h xs)))]) (fun x => x ≤ W) (fun x => W - x) 0 (by omega) (Sub.pt ?_) ?_
    · simp -implicitDefEqProofs only [push_cast, false_implies, reduceCtorEq, Classical.not_not, Nat.reduceAdd, Nat.reduceSub, Nat.reduceMul, Nat.reduceLeDiff, Nat.reduceLT, Nat.reduceEqDiff, Nat.reduceBEq, Nat.reduceBNe, Int.reduceNeg, Int.reduceToNat, Bool.or_false, Bool.false_or, Bool.or_true, Bool.true_or, BEq.rfl, Bool.not_eq_true, Bool.not_eq_false, decide_eq_true_eq, not_true_eq_false, not_false_eq_true, ite_true, ite_false, List.append_nil, and_assoc, Nat.mul_zero, Nat.zero_mul]
    intro x (hx1 : x ≤ W) K2 hK2
    simp -implicitDefEqProofs only [push_cast, false_implies, reduceCtorEq, Classical.not_not, Nat.reduceAdd, Nat.reduceSub, Nat.reduceMul, Nat.reduceLeDiff, Nat.reduceLT, Nat.reduceEqDiff, Nat.reduceBEq, Nat.reduceBNe, Int.reduceNeg, Int.reduceToNat, Bool.or_false, Bool.false_or, Bool.or_true, Bool.true_or, BEq.rfl, Bool.not_eq_true, Bool.not_eq_false, decide_eq_true_eq, not_true_eq_false, not_false_eq_true, ite_true, ite_false, List.append_nil, and_assoc, Nat.mul_zero, Nat.zero_mul, b33_2, r33_7, r33_8]
    refine ⟨fun hl2 => ?_, fun hl2 => ?_⟩
    · repeat (refine And.intro (by first | omega | trivial | (intros; omega)) ?_)
      obtain ⟨c, hc⟩ : ∃ c, two x w = c := ⟨_, rfl⟩
      obtain ⟨r, hr⟩ : ∃ c, two y h = c := ⟨_, rfl⟩
      have hc1 : 1 ≤ c ∧ c ≤ 2 ∧ min (2 * (x : Int) + 2) w = 2 * x + c := by unfold two at hc; omega
      have hr1 : 1 ≤ r ∧ r ≤ 2 ∧ min (2 * (y : Int) + 2) h = 2 * y + r := by unfold two at hr; omega
      have hrc := mul_bd (a := (r : Int)) (b := c) (A := 2) (B := 2) (by omega) (by omega) (by omega) (by omega)
      have hrc0 : 0 < (r : Int) * c := Int.mul_pos (by omega) (by omega)
      refine evS_loopU (A := Nat) kp33_3 kl33_3 (fun i => [(7, .int .i64 (blkS xs w (2 * y) (2 * x) c i)), (8, .int .i64 ((i : Int) * c)), (9, .int .i64 (2 * y + i))]) (fun _ => []) (fun i => i ≤ r) (fun i => r - i) 0 (by omega) (Sub.pt ?_) ?_
      · simp -implicitDefEqProofs only [push_cast, false_implies, reduceCtorEq, Classical.not_not, Nat.reduceAdd, Nat.reduceSub, Nat.reduceMul, Nat.reduceLeDiff, Nat.reduceLT, Nat.reduceEqDiff, Nat.reduceBEq, Nat.reduceBNe, Int.reduceNeg, Int.reduceToNat, Bool.or_false, Bool.false_or, Bool.or_true, Bool.true_or, BEq.rfl, Bool.not_eq_true, Bool.not_eq_false, decide_eq_true_eq, not_true_eq_false, not_false_eq_true, ite_true, ite_false, List.append_nil, and_assoc, Nat.mul_zero, Nat.zero_mul, blkS, Int.zero_mul, Int.add_zero, Int.natCast_zero]
      intro i (hi1 : i ≤ r) K3 hK3
      simp -implicitDefEqProofs only [push_cast, false_implies, reduceCtorEq, Classical.not_not, Nat.reduceAdd, Nat.reduceSub, Nat.reduceMul, Nat.reduceLeDiff, Nat.reduceLT, Nat.reduceEqDiff, Nat.reduceBEq, Nat.reduceBNe, Int.reduceNeg, Int.reduceToNat, Bool.or_false, Bool.false_or, Bool.or_true, Bool.true_or, BEq.rfl, Bool.not_eq_true, Bool.not_eq_false, decide_eq_true_eq, not_true_eq_false, not_false_eq_true, ite_true, ite_false, List.append_nil, and_assoc, Nat.mul_zero, Nat.zero_mul, b33_3, r33_6, hr1.2.2]
      repeat (refine And.intro (by first | omega | trivial | (intros; omega)) ?_)
      refine ⟨fun hl3 => ?_, fun hl3 => ?_⟩
      · repeat (refine And.intro (by first | omega | trivial | (intros; omega)) ?_)
        refine evS_loopU (A := Nat) kp33_4 kl33_4 (fun j => [(7, .int .i64 (blkS xs w (2 * y) (2 * x) c i + rowS xs w (2 * y + i) (2 * x) j)), (8, .int .i64 ((i : Int) * c + j)), (10, .int .i64 (2 * x + j))]) (fun _ => []) (fun j => j ≤ c) (fun j => c - j) 0 (by omega) (Sub.pt ?_) ?_
        · simp -implicitDefEqProofs only [push_cast, false_implies, reduceCtorEq, Classical.not_not, Nat.reduceAdd, Nat.reduceSub, Nat.reduceMul, Nat.reduceLeDiff, Nat.reduceLT, Nat.reduceEqDiff, Nat.reduceBEq, Nat.reduceBNe, Int.reduceNeg, Int.reduceToNat, Bool.or_false, Bool.false_or, Bool.or_true, Bool.true_or, BEq.rfl, Bool.not_eq_true, Bool.not_eq_false, decide_eq_true_eq, not_true_eq_false, not_false_eq_true, ite_true, ite_false, List.append_nil, and_assoc, Nat.mul_zero, Nat.zero_mul, rowS, Int.add_zero, Int.natCast_zero]
        intro j (hj1 : j ≤ c) K4 hK4
        have bS := blkS_bd ha w (2 * y) (2 * x) (c := c) (by omega) i
        have bR := rowS_bd ha w (2 * y + i) (2 * x) j
        have hic := mul_bd (a := (i : Int)) (b := c) (A := 2) (B := 2) (by omega) (by omega) (by omega) (by omega)
        simp -implicitDefEqProofs only [push_cast, false_implies, reduceCtorEq, Classical.not_not, Nat.reduceAdd, Nat.reduceSub, Nat.reduceMul, Nat.reduceLeDiff, Nat.reduceLT, Nat.reduceEqDiff, Nat.reduceBEq, Nat.reduceBNe, Int.reduceNeg, Int.reduceToNat, Bool.or_false, Bool.false_or, Bool.or_true, Bool.true_or, BEq.rfl, Bool.not_eq_true, Bool.not_eq_false, decide_eq_true_eq, not_true_eq_false, not_false_eq_true, ite_true, ite_false, List.append_nil, and_assoc, Nat.mul_zero, Nat.zero_mul, b33_4, r33_5, hc1.2.2]
        repeat (refine And.intro (by first | omega | trivial | (intros; omega)) ?_)
        refine ⟨fun hl4 => ?_, fun hl4 => ?_⟩
        · have hix := idx_bd (a := 2 * (y : Int) + i) (b := 2 * (x : Int) + j) (W := w) (H := h) (by omega) (by omega) (by omega) (by omega)
          have hvw := mul_bd (a := 2 * (y : Int) + i) (b := w) (A := 200) (B := 200) (by omega) (by omega) (by omega) (by omega)
          have bV := rd_bd ha (by omega) (by omega) ((2 * (y : Int) + i) * w + (2 * x + j))
          repeat (refine And.intro (by first | omega | trivial | (intros; omega)) ?_)
          refine hK4 (j + 1) (by omega) (by omega) _ _ (Sub.pt ?_)
          simp -implicitDefEqProofs only [push_cast, false_implies, reduceCtorEq, Classical.not_not, Nat.reduceAdd, Nat.reduceSub, Nat.reduceMul, Nat.reduceLeDiff, Nat.reduceLT, Nat.reduceEqDiff, Nat.reduceBEq, Nat.reduceBNe, Int.reduceNeg, Int.reduceToNat, Bool.or_false, Bool.false_or, Bool.or_true, Bool.true_or, BEq.rfl, Bool.not_eq_true, Bool.not_eq_false, decide_eq_true_eq, not_true_eq_false, not_false_eq_true, ite_true, ite_false, List.append_nil, and_assoc, Nat.mul_zero, Nat.zero_mul, rowS, ← Int.add_assoc]
        · repeat (refine And.intro (by first | omega | trivial | (intros; omega)) ?_)
          refine hK3 (i + 1) (by omega) (by omega) _ _ (Sub.pt ?_)
          have hj : j = c := by omega
          simp -implicitDefEqProofs only [push_cast, false_implies, reduceCtorEq, Classical.not_not, Nat.reduceAdd, Nat.reduceSub, Nat.reduceMul, Nat.reduceLeDiff, Nat.reduceLT, Nat.reduceEqDiff, Nat.reduceBEq, Nat.reduceBNe, Int.reduceNeg, Int.reduceToNat, Bool.or_false, Bool.false_or, Bool.or_true, Bool.true_or, BEq.rfl, Bool.not_eq_true, Bool.not_eq_false, decide_eq_true_eq, not_true_eq_false, not_false_eq_true, ite_true, ite_false, List.append_nil, and_assoc, Nat.mul_zero, Nat.zero_mul, blkS, hj, Int.add_mul, Int.one_mul, ← Int.add_assoc]
      · have hir : i = r := by omega
        have bS := blkS_bd ha w (2 * y) (2 * x) (c := c) (by omega) i
        have hy2 := mul_bd (a := (y : Int)) (b := W) (A := 100) (B := 100) (by omega) (by omega) (by omega) (by omega)
        have hix := idx_bd (a := (y : Int)) (b := (x : Int)) (W := W) (H := H) (by omega) (by omega) (by omega) (by omega)
        have lP := prt_length (n := H * W) (i := y * W + x) (by rw [← Int.ofNat_le]; simp only [Int.natCast_add, Int.natCast_mul]; rw [Int.mul_comm (H : Int)]; omega) (halfF w h xs)
        subst hir
        repeat (refine And.intro (by first | omega | trivial | (intros; omega)) ?_)
        refine hK2 (x + 1) (by omega) (by omega) _ _ (Sub.pt ?_)
        have et : ((y : Int) * W + x).toNat = y * W + x := by
          have : ((y * W + x : Nat) : Int) = (y : Int) * W + x := by simp
          omega
        have hlt : y * W + x < H * W := by
          rw [← Int.ofNat_lt]; simp only [Int.natCast_add, Int.natCast_mul]; rw [Int.mul_comm (H : Int)]; omega
        have q : (prt (H * W) (y * W + x) (halfF w h xs)).set (y * W + x) (meanI (blkS xs w (2 * y) (2 * x) c i) ((i : Int) * c)) = prt (H * W) (y * W + x + 1) (halfF w h xs) := by
          rw [← prt_set hlt, halfF_at eW (by omega), hc, hr]
        simp -implicitDefEqProofs only [push_cast, false_implies, reduceCtorEq, Classical.not_not, Nat.reduceAdd, Nat.reduceSub, Nat.reduceMul, Nat.reduceLeDiff, Nat.reduceLT, Nat.reduceEqDiff, Nat.reduceBEq, Nat.reduceBNe, Int.reduceNeg, Int.reduceToNat, Bool.or_false, Bool.false_or, Bool.or_true, Bool.true_or, BEq.rfl, Bool.not_eq_true, Bool.not_eq_false, decide_eq_true_eq, not_true_eq_false, not_false_eq_true, ite_true, ite_false, List.append_nil, and_assoc, Nat.mul_zero, Nat.zero_mul, et, q, ← Nat.add_assoc]
    · repeat (refine And.intro (by first | omega | trivial | (intros; omega)) ?_)
      have hxW : x = W := by omega
      refine hK1 (y + 1) (by omega) (by omega) _ _ (Sub.pt ?_)
      have e3 : (y + 1) * W = y * W + W := by rw [Nat.add_mul, Nat.one_mul]
      simp -implicitDefEqProofs only [push_cast, false_implies, reduceCtorEq, Classical.not_not, Nat.reduceAdd, Nat.reduceSub, Nat.reduceMul, Nat.reduceLeDiff, Nat.reduceLT, Nat.reduceEqDiff, Nat.reduceBEq, Nat.reduceBNe, Int.reduceNeg, Int.reduceToNat, Bool.or_false, Bool.false_or, Bool.or_true, Bool.true_or, BEq.rfl, Bool.not_eq_true, Bool.not_eq_false, decide_eq_true_eq, not_true_eq_false, not_false_eq_true, ite_true, ite_false, List.append_nil, and_assoc, Nat.mul_zero, Nat.zero_mul, e3, hxW]
  · obtain rfl : y = H := by omega
    refine postF.mk' (fun _ => X1 8 16) [some 0, some 16] ?_
    have e4 : half ⟨w, h, xs⟩ = ⟨W, y, tabl (y * W) (halfF w h xs)⟩ := by
      unfold half; rw [if_pos hy]; simp only [hW, hH, Int.toNat_natCast]
    have e5 : ((y * W : Nat) : Int) = (W : Int) * y := by rw [Int.natCast_mul, Int.mul_comm]
    simp -implicitDefEqProofs only [push_cast, false_implies, reduceCtorEq, Classical.not_not, Nat.reduceAdd, Nat.reduceSub, Nat.reduceMul, Nat.reduceLeDiff, Nat.reduceLT, Nat.reduceEqDiff, Nat.reduceBEq, Nat.reduceBNe, Int.reduceNeg, Int.reduceToNat, Bool.or_false, Bool.false_or, Bool.or_true, Bool.true_or, BEq.rfl, Bool.not_eq_true, Bool.not_eq_false, decide_eq_true_eq, not_true_eq_false, not_false_eq_true, ite_true, ite_false, List.append_nil, and_assoc, Nat.mul_zero, Nat.zero_mul, fs33, hy, e4, lx, if_true, prt_all, tabl_length, e5]
def ent33 : Entry := spOf fs33 inv49
theorem e33 : EntryOk Try.prog 33 ent33 := entry_of ok33 inv49
@[push_cast] theorem ent33_app (us : List SV) (look : Look) (x : Nat → Xf.Loc) (k : Nat) : ent33 us look x k = spOf fs33 inv49 us look x k := rfl

theorem ok34 : FSOk Try.prog 34 fs33 := by
  refine ⟨⟨_, Try.func34, by kernel_rfl, by kernel_rfl⟩, fun a => ⟨by simp [fs33, push_cast, noMine, argOwn, Chunk.frArg], by simp [fs33, push_cast, outOk, Chunk.ext], fun x => .inl (by simp [fs33, push_cast, frNew, frOut, Chunk.fr])⟩, fun a hp => ?_⟩
  obtain ⟨⟨w, h, xs⟩, L⟩ := a
  change xs.length ≤ 140737488355328 at hp
  change Tri Try.prog 34 [plV ⟨w, h, xs⟩ L 0] [some (.ro, L, .ints .i64 xs)] (postF fs33 ⟨⟨w, h, xs⟩, L⟩)
  refine tri_evS (hyp (l := [(51, ent51)]) (lp := [(63, meanF)]) ⟨e51, trivial⟩ ⟨p63, trivial⟩) Try.func34 comp34 (rs := [.cell 2 (some 3), .tmp 3]) (by rfl) Try.ntmps34 19 ?_
  simp -implicitDefEqProofs only [push_cast, false_implies, reduceCtorEq, Classical.not_not, Nat.reduceAdd, Nat.reduceSub, Nat.reduceMul, Nat.reduceLeDiff, Nat.reduceLT, Nat.reduceEqDiff, Nat.reduceBEq, Nat.reduceBNe, Int.reduceNeg, Int.reduceToNat, Bool.or_false, Bool.false_or, Bool.or_true, Bool.true_or, BEq.rfl, Bool.not_eq_true, Bool.not_eq_false, decide_eq_true_eq, not_true_eq_false, not_false_eq_true, ite_true, ite_false, List.append_nil, and_assoc, Nat.mul_zero, Nat.zero_mul, ir34, fs49]
  refine fun X => ⟨hp, fun hn => ?_, fun hy => ?_⟩
  · refine postF.mk' (fun _ => default) [some 0, none] ?_
    simp -implicitDefEqProofs only [push_cast, false_implies, reduceCtorEq, Classical.not_not, Nat.reduceAdd, Nat.reduceSub, Nat.reduceMul, Nat.reduceLeDiff, Nat.reduceLT, Nat.reduceEqDiff, Nat.reduceBEq, Nat.reduceBNe, Int.reduceNeg, Int.reduceToNat, Bool.or_false, Bool.false_or, Bool.or_true, Bool.true_or, BEq.rfl, Bool.not_eq_true, Bool.not_eq_false, decide_eq_true_eq, not_true_eq_false, not_false_eq_true, ite_true, ite_false, List.append_nil, and_assoc, Nat.mul_zero, Nat.zero_mul, fs33, half, hn, if_false, lx, pl0]
  obtain ⟨hs, hl, ha⟩ : SidesOk w h ∧ (xs.length : Int) = w * h ∧ AllIn (-16777216) 16777216 xs := id hy
  obtain ⟨a1, a2, a3, a4, a5⟩ := id hs
  obtain ⟨W, hW⟩ : ∃ W : Nat, (w + 1) / 2 = (W : Int) := ⟨((w + 1) / 2).toNat, by omega⟩
  obtain ⟨H, hH⟩ : ∃ H : Nat, (h + 1) / 2 = (H : Int) := ⟨((h + 1) / 2).toNat, by omega⟩
  have hHW := mul_bd (a := (W : Int)) (b := H) (A := w) (B := h) (by omega) (by omega) (by omega) (by omega)
  rw [hW, hH]
  intro X1
  repeat (refine And.intro (by first | omega | trivial | (intros; omega)) ?_)
  have eW : ((w + 1) / 2).toNat = W := by omega
  refine evS_loopU (A := Nat × Xf.Loc) kp34_1 kl34_1 (fun y => [(5, .int .i64 (2 * y.1))])
    (fun y => [(16, .mine, X1 9 16, .cells [.int .i64 W, .int .i64 H, .sl 18 y.2 1 0 ((y.1 : Int) * W)]), (18, .mine, y.2, .ints .i64 (tabl (y.1 * W) (halfF w h xs)))]) (fun y => y.1 ≤ H) (fun y => H - y.1) (0, nilLoc) (Nat.zero_le _) (Sub.pt ?_) ?_
  · simp -implicitDefEqProofs only [push_cast, false_implies, reduceCtorEq, Classical.not_not, Nat.reduceAdd, Nat.reduceSub, Nat.reduceMul, Nat.reduceLeDiff, Nat.reduceLT, Nat.reduceEqDiff, Nat.reduceBEq, Nat.reduceBNe, Int.reduceNeg, Int.reduceToNat, Bool.or_false, Bool.false_or, Bool.or_true, Bool.true_or, BEq.rfl, Bool.not_eq_true, Bool.not_eq_false, decide_eq_true_eq, not_true_eq_false, not_false_eq_true, ite_true, ite_false, List.append_nil, and_assoc, Nat.mul_zero, Nat.zero_mul, Nat.zero_mul, Int.zero_mul, Int.mul_zero, Int.natCast_zero, tabl_zero]
  intro ⟨y, N⟩ (hy1 : y ≤ H) K1 hK1
  simp -implicitDefEqProofs only [push_cast, false_implies, reduceCtorEq, Classical.not_not, Nat.reduceAdd, Nat.reduceSub, Nat.reduceMul, Nat.reduceLeDiff, Nat.reduceLT, Nat.reduceEqDiff, Nat.reduceBEq, Nat.reduceBNe, Int.reduceNeg, Int.reduceToNat, Bool.or_false, Bool.false_or, Bool.or_true, Bool.true_or, BEq.rfl, Bool.not_eq_true, Bool.not_eq_false, decide_eq_true_eq, not_true_eq_false, not_false_eq_true, ite_true, ite_false, List.append_nil, and_assoc, Nat.mul_zero, Nat.zero_mul, b34_1, r34_8, r34_9]
  refine ⟨fun hl1 => ?_, fun hl1 => ?_⟩
  · refine evS_loopU (A := Nat × Xf.Loc) kp34_2 kl34_2 (fun x => [(6, .int .i64 (2 * x.1))])
      (fun x => [(16, .mine, X1 9 16, .cells [.int .i64 W, .int .i64 H, .sl 18 x.2 1 0 ((y : Int) * W + x.1)]), (18, .mine, x.2, .ints .i64 (tabl (y * W + x.1) (halfF w h xs)))]) (fun x => x.1 ≤ W) (fun x => W - x.1) (0, N) (Nat.zero_le _) (Sub.pt ?_) ?_
    · simp -implicitDefEqProofs only [push_cast, false_implies, reduceCtorEq, Classical.not_not, Nat.reduceAdd, Nat.reduceSub, Nat.reduceMul, Nat.reduceLeDiff, Nat.reduceLT, Nat.reduceEqDiff, Nat.reduceBEq, Nat.reduceBNe, Int.reduceNeg, Int.reduceToNat, Bool.or_false, Bool.false_or, Bool.or_true, Bool.true_or, BEq.rfl, Bool.not_eq_true, Bool.not_eq_false, decide_eq_true_eq, not_true_eq_false, not_false_eq_true, ite_true, ite_false, List.append_nil, and_assoc, Nat.mul_zero, Nat.zero_mul, Nat.add_zero, Int.add_zero, Int.mul_zero, Int.natCast_zero]
    intro ⟨x, N2⟩ (hx1 : x ≤ W) K2 hK2
    simp -implicitDefEqProofs only [push_cast, false_implies, reduceCtorEq, Classical.not_not, Nat.reduceAdd, Nat.reduceSub, Nat.reduceMul, Nat.reduceLeDiff, Nat.reduceLT, Nat.reduceEqDiff, Nat.reduceBEq, Nat.reduceBNe, Int.reduceNeg, Int.reduceToNat, Bool.or_false, Bool.false_or, Bool.or_true, Bool.true_or, BEq.rfl, Bool.not_eq_true, Bool.not_eq_false, decide_eq_true_eq, not_true_eq_false, not_false_eq_true, ite_true, ite_false, List.append_nil, and_assoc, Nat.mul_zero, Nat.zero_mul, b34_2, r34_7, r34_8]
    refine ⟨fun hl2 => ?_, fun hl2 => ?_⟩
    · repeat (refine And.intro (by first | omega | trivial | (intros; omega)) ?_)
      obtain ⟨c, hc⟩ : ∃ c, two x w = c := ⟨_, rfl⟩
      obtain ⟨r, hr⟩ : ∃ c, two y h = c := ⟨_, rfl⟩
      have hc1 : 1 ≤ c ∧ c ≤ 2 ∧ min (2 * (x : Int) + 2) w = 2 * x + c := by unfold two at hc; omega
      have hr1 : 1 ≤ r ∧ r ≤ 2 ∧ min (2 * (y : Int) + 2) h = 2 * y + r := by unfold two at hr; omega
      have hrc := mul_bd (a := (r : Int)) (b := c) (A := 2) (B := 2) (by omega) (by omega) (by omega) (by omega)
      have hrc0 : 0 < (r : Int) * c := Int.mul_pos (by omega) (by omega)
      refine evS_loopU (A := Nat) kp34_3 kl34_3 (fun i => [(7, .int .i64 (blkS xs w (2 * y) (2 * x) c i)), (8, .int .i64 ((i : Int) * c)), (9, .int .i64 (2 * y + i))]) (fun _ => []) (fun i => i ≤ r) (fun i => r - i) 0 (by omega) (Sub.pt ?_) ?_
      · simp -implicitDefEqProofs only [push_cast, false_implies, reduceCtorEq, Classical.not_not, Nat.reduceAdd, Nat.reduceSub, Nat.reduceMul, Nat.reduceLeDiff, Nat.reduceLT, Nat.reduceEqDiff, Nat.reduceBEq, Nat.reduceBNe, Int.reduceNeg, Int.reduceToNat, Bool.or_false, Bool.false_or, Bool.or_true, Bool.true_or, BEq.rfl, Bool.not_eq_true, Bool.not_eq_false, decide_eq_true_eq, not_true_eq_false, not_false_eq_true, ite_true, ite_false, List.append_nil, and_assoc, Nat.mul_zero, Nat.zero_mul, blkS, Int.zero_mul, Int.add_zero, Int.natCast_zero]
      intro i (hi1 : i ≤ r) K3 hK3
      simp -implicitDefEqProofs only [push_cast, false_implies, reduceCtorEq, Classical.not_not, Nat.reduceAdd, Nat.reduceSub, Nat.reduceMul, Nat.reduceLeDiff, Nat.reduceLT, Nat.reduceEqDiff, Nat.reduceBEq, Nat.reduceBNe, Int.reduceNeg, Int.reduceToNat, Bool.or_false, Bool.false_or, Bool.or_true, Bool.true_or, BEq.rfl, Bool.not_eq_true, Bool.not_eq_false, decide_eq_true_eq, not_true_eq_false, not_false_eq_true, ite_true, ite_false, List.append_nil, and_assoc, Nat.mul_zero, Nat.zero_mul, b34_3, r34_6, hr1.2.2]
      repeat (refine And.intro (by first | omega | trivial | (intros; omega)) ?_)
      refine ⟨fun hl3 => ?_, fun hl3 => ?_⟩
      · repeat (refine And.intro (by first | omega | trivial | (intros; omega)) ?_)
        refine evS_loopU (A := Nat) kp34_4 kl34_4 (fun j => [(7, .int .i64 (blkS xs w (2 * y) (2 * x) c i + rowS xs w (2 * y + i) (2 * x) j)), (8, .int .i64 ((i : Int) * c + j)), (10, .int .i64 (2 * x + j))]) (fun _ => []) (fun j => j ≤ c) (fun j => c - j) 0 (by omega) (Sub.pt ?_) ?_
        · simp -implicitDefEqProofs only [push_cast, false_implies, reduceCtorEq, Classical.not_not, Nat.reduceAdd, Nat.reduceSub, Nat.reduceMul, Nat.reduceLeDiff, Nat.reduceLT, Nat.reduceEqDiff, Nat.reduceBEq, Nat.reduceBNe, Int.reduceNeg, Int.reduceToNat, Bool.or_false, Bool.false_or, Bool.or_true, Bool.true_or, BEq.rfl, Bool.not_eq_true, Bool.not_eq_false, decide_eq_true_eq, not_true_eq_false, not_false_eq_true, ite_true, ite_false, List.append_nil, and_assoc, Nat.mul_zero, Nat.zero_mul, rowS, Int.add_zero, Int.natCast_zero]
        intro j (hj1 : j ≤ c) K4 hK4
        have bS := blkS_bd ha w (2 * y) (2 * x) (c := c) (by omega) i
        have bR := rowS_bd ha w (2 * y + i) (2 * x) j
        have hic := mul_bd (a := (i : Int)) (b := c) (A := 2) (B := 2) (by omega) (by omega) (by omega) (by omega)
        simp -implicitDefEqProofs only [push_cast, false_implies, reduceCtorEq, Classical.not_not, Nat.reduceAdd, Nat.reduceSub, Nat.reduceMul, Nat.reduceLeDiff, Nat.reduceLT, Nat.reduceEqDiff, Nat.reduceBEq, Nat.reduceBNe, Int.reduceNeg, Int.reduceToNat, Bool.or_false, Bool.false_or, Bool.or_true, Bool.true_or, BEq.rfl, Bool.not_eq_true, Bool.not_eq_false, decide_eq_true_eq, not_true_eq_false, not_false_eq_true, ite_true, ite_false, List.append_nil, and_assoc, Nat.mul_zero, Nat.zero_mul, b34_4, r34_5, hc1.2.2]
        repeat (refine And.intro (by first | omega | trivial | (intros; omega)) ?_)
        refine ⟨fun hl4 => ?_, fun hl4 => ?_⟩
        · have hix := idx_bd (a := 2 * (y : Int) + i) (b := 2 * (x : Int) + j) (W := w) (H := h) (by omega) (by omega) (by omega) (by omega)
          have hvw := mul_bd (a := 2 * (y : Int) + i) (b := w) (A := 200) (B := 200) (by omega) (by omega) (by omega) (by omega)
          have bV := rd_bd ha (by omega) (by omega) ((2 * (y : Int) + i) * w + (2 * x + j))
          repeat (refine And.intro (by first | omega | trivial | (intros; omega)) ?_)
          refine hK4 (j + 1) (by omega) (by omega) _ _ (Sub.pt ?_)
          simp -implicitDefEqProofs only [push_cast, false_implies, reduceCtorEq, Classical.not_not, Nat.reduceAdd, Nat.reduceSub, Nat.reduceMul, Nat.reduceLeDiff, Nat.reduceLT, Nat.reduceEqDiff, Nat.reduceBEq, Nat.reduceBNe, Int.reduceNeg, Int.reduceToNat, Bool.or_false, Bool.false_or, Bool.or_true, Bool.true_or, BEq.rfl, Bool.not_eq_true, Bool.not_eq_false, decide_eq_true_eq, not_true_eq_false, not_false_eq_true, ite_true, ite_false, List.append_nil, and_assoc, Nat.mul_zero, Nat.zero_mul, rowS, ← Int.add_assoc]
        · repeat (refine And.intro (by first | omega | trivial | (intros; omega)) ?_)
          refine hK3 (i + 1) (by omega) (by omega) _ _ (Sub.pt ?_)
          have hj : j = c := by omega
          simp -implicitDefEqProofs only [push_cast, false_implies, reduceCtorEq, Classical.not_not, Nat.reduceAdd, Nat.reduceSub, Nat.reduceMul, Nat.reduceLeDiff, Nat.reduceLT, Nat.reduceEqDiff, Nat.reduceBEq, Nat.reduceBNe, Int.reduceNeg, Int.reduceToNat, Bool.or_false, Bool.false_or, Bool.or_true, Bool.true_or, BEq.rfl, Bool.not_eq_true, Bool.not_eq_false, decide_eq_true_eq, not_true_eq_false, not_false_eq_true, ite_true, ite_false, List.append_nil, and_assoc, Nat.mul_zero, Nat.zero_mul, blkS, hj, Int.add_mul, Int.one_mul, ← Int.add_assoc]
      · have hir : i = r := by omega
        have bS := blkS_bd ha w (2 * y) (2 * x) (c := c) (by omega) i
        have lT := tabl_length (y * W + x) (halfF w h xs)
        have lc : ((y * W + x : Nat) : Int) = (y : Int) * W + x := by simp
        have hix := idx_bd (a := (y : Int)) (b := (x : Int)) (W := W) (H := H) (by omega) (by omega) (by omega) (by omega)
        subst hir
        repeat (refine And.intro (by first | omega | trivial | (intros; omega)) ?_)
        intro X2
        rw [lT, lc]
        repeat (refine And.intro (by first | omega | trivial | (intros; omega)) ?_)
        refine hK2 (x + 1, X2 6 18) (show x + 1 ≤ W by omega) (show W - (x + 1) < W - x by omega) _ _ (Sub.pt ?_)
        have q : tabl (y * W + x) (halfF w h xs) ++ [meanI (blkS xs w (2 * y) (2 * x) c i) ((i : Int) * c)] = tabl (y * W + x + 1) (halfF w h xs) := by
          rw [← tabl_snoc, halfF_at eW (by omega), hc, hr]
        simp -implicitDefEqProofs only [push_cast, false_implies, reduceCtorEq, Classical.not_not, Nat.reduceAdd, Nat.reduceSub, Nat.reduceMul, Nat.reduceLeDiff, Nat.reduceLT, Nat.reduceEqDiff, Nat.reduceBEq, Nat.reduceBNe, Int.reduceNeg, Int.reduceToNat, Bool.or_false, Bool.false_or, Bool.or_true, Bool.true_or, BEq.rfl, Bool.not_eq_true, Bool.not_eq_false, decide_eq_true_eq, not_true_eq_false, not_false_eq_true, ite_true, ite_false, List.append_nil, and_assoc, Nat.mul_zero, Nat.zero_mul, q, ← Nat.add_assoc, ← Int.add_assoc, Int.mul_add, Int.mul_one]
    · repeat (refine And.intro (by first | omega | trivial | (intros; omega)) ?_)
      have hxW : x = W := by omega
      refine hK1 (y + 1, N2) (show y + 1 ≤ H by omega) (show H - (y + 1) < H - y by omega) _ _ (Sub.pt ?_)
      have e3 : (y + 1) * W = y * W + W := by rw [Nat.add_mul, Nat.one_mul]
      simp -implicitDefEqProofs only [push_cast, false_implies, reduceCtorEq, Classical.not_not, Nat.reduceAdd, Nat.reduceSub, Nat.reduceMul, Nat.reduceLeDiff, Nat.reduceLT, Nat.reduceEqDiff, Nat.reduceBEq, Nat.reduceBNe, Int.reduceNeg, Int.reduceToNat, Bool.or_false, Bool.false_or, Bool.or_true, Bool.true_or, BEq.rfl, Bool.not_eq_true, Bool.not_eq_false, decide_eq_true_eq, not_true_eq_false, not_false_eq_true, ite_true, ite_false, List.append_nil, and_assoc, Nat.mul_zero, Nat.zero_mul, e3, hxW, Int.add_mul, Int.one_mul, Int.mul_add, Int.mul_one]
  · obtain rfl : y = H := by omega
    refine postF.mk' (fun _ => N) [some 0, some 18] ?_
    have e4 : half ⟨w, h, xs⟩ = ⟨W, y, tabl (y * W) (halfF w h xs)⟩ := by
      unfold half; rw [if_pos hy]; simp only [hW, hH, Int.toNat_natCast]
    simp -implicitDefEqProofs only [push_cast, false_implies, reduceCtorEq, Classical.not_not, Nat.reduceAdd, Nat.reduceSub, Nat.reduceMul, Nat.reduceLeDiff, Nat.reduceLT, Nat.reduceEqDiff, Nat.reduceBEq, Nat.reduceBNe, Int.reduceNeg, Int.reduceToNat, Bool.or_false, Bool.false_or, Bool.or_true, Bool.true_or, BEq.rfl, Bool.not_eq_true, Bool.not_eq_false, decide_eq_true_eq, not_true_eq_false, not_false_eq_true, ite_true, ite_false, List.append_nil, and_assoc, Nat.mul_zero, Nat.zero_mul, fs33, hy, e4, lx, if_true, tabl_length]
def ent34 : Entry := spOf fs33 inv49
theorem e34 : EntryOk Try.prog 34 ent34 := entry_of ok34 inv49
@[push_cast] theorem ent34_app (us : List SV) (look : Look) (x : Nat → Xf.Loc) (k : Nat) : ent34 us look x k = spOf fs33 inv49 us look x k := rfl
end Go.Proofs.Ytnmbimhcfioeiaa
