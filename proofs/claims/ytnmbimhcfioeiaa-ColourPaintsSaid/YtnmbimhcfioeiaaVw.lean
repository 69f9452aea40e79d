import Derived.Test.YtnmbimhcfioeiaaVu
set_option linter.unusedVariables false
set_option linter.unusedSimpArgs false
/-! Bitmaps; copies of images. -/
namespace Go.Proofs.Ytnmbimhcfioeiaa
open Xf
set_option maxRecDepth 4000
/- incunable/bitmap.fits : slots 25, labels 10..9 -/
def ir69 : IR :=
  .seq (.reg false [⟨some 4, none, ⟨[], []⟩, .mov (.k (.bool false))⟩] [4] []) (.seq (.reg false [⟨some 5, none, ⟨[], []⟩, .mov (.t 0)⟩,
    ⟨some 6, none, ⟨[], []⟩, .bin 0 .geq (.t 5) (.k (.int .i64 0))⟩,
    ⟨some 7, none, ⟨[], []⟩, .mov (.t 6)⟩,
    ⟨some 8, some (7, true), ⟨[], []⟩, .mov (.t 1)⟩,
    ⟨some 9, some (7, true), ⟨[], []⟩, .bin 0 .geq (.t 8) (.k (.int .i64 0))⟩,
    ⟨some 10, none, ⟨[], []⟩, .pick (.t 7) (.t 9) (.k (.bool false))⟩,
    ⟨some 11, none, ⟨[], []⟩, .mov (.t 10)⟩,
    ⟨some 12, some (11, true), ⟨[], []⟩, .mov (.t 0)⟩,
    ⟨some 13, some (11, true), ⟨[], []⟩, .bin 0 .leq (.t 12) (.k (.int .i64 200))⟩,
    ⟨some 14, none, ⟨[], []⟩, .pick (.t 11) (.t 13) (.k (.bool false))⟩,
    ⟨some 15, none, ⟨[], []⟩, .mov (.t 14)⟩,
    ⟨some 16, some (15, true), ⟨[], []⟩, .mov (.t 1)⟩,
    ⟨some 17, some (15, true), ⟨[], []⟩, .bin 0 .leq (.t 16) (.k (.int .i64 200))⟩,
    ⟨some 18, none, ⟨[], []⟩, .pick (.t 15) (.t 17) (.k (.bool false))⟩,
    ⟨some 19, none, ⟨[], []⟩, .mov (.t 18)⟩,
    ⟨some 20, some (19, true), ⟨[], []⟩, .mov (.t 0)⟩,
    ⟨some 21, some (19, true), ⟨[], []⟩, .mov (.t 1)⟩,
    ⟨some 22, some (19, true), ⟨[], []⟩, .bin 0 .mul (.t 20) (.t 21)⟩,
    ⟨some 23, some (19, true), ⟨[], []⟩, .bin 0 .leq (.t 22) (.k (.int .i64 8192))⟩,
    ⟨some 24, none, ⟨[], []⟩, .pick (.t 19) (.t 23) (.k (.bool false))⟩,
    ⟨some 4, none, ⟨[], []⟩, .mov (.t 24)⟩] [0, 1, 5, 6, 7, 8, 9, 10, 11, 12, 13, 14, 15, 16, 17, 18, 19, 20, 21, 22, 23, 24] []) (.ret))
theorem comp69 : (Try.f69.body.bind fun c => compC tab isP chkAll ir69 c) = some ir69 := by kernel_rfl
/- incunable/bitmap.Valid : slots 32, labels 10..10; loop b57_1 keeps [23, 24, 25] -/
def b57_1 : IR :=
  .seq (.reg false [⟨some 26, none, ⟨[], []⟩, .bin 0 .lss (.t 25) (.t 24)⟩] [] []) (.seq (.cond (.t 26) (.skip) (.exit 0)) (.seq (.block 1 (.seq (.reg false [⟨some 27, none, ⟨[], []⟩, .idxS (.t 23) (.t 25) 1⟩,
    ⟨some 28, none, ⟨[], []⟩, .ld true none 0 0 (.t 27)⟩,
    ⟨some 4, none, ⟨[], []⟩, .mov (.t 28)⟩] [26, 27, 28] []) (.seq (.reg false [⟨some 29, none, ⟨[], []⟩, .mov (.t 4)⟩,
    ⟨some 30, none, ⟨[], []⟩, .bin 0 .gtr (.t 29) (.k (.int .u8 1))⟩] [4, 29] []) (.cond (.t 30) (.seq (.reg false [⟨some 2, none, ⟨[], []⟩, .mov (.k (.bool false))⟩] [23, 24, 25, 30] []) (.ret)) (.skip))))) (.reg false [⟨some 31, none, ⟨[], []⟩, .bin 0 .add (.t 25) (.k (.int .i64 1))⟩,
    ⟨some 25, none, ⟨[], []⟩, .mov (.t 31)⟩] [2, 30, 31] [])))
def r57_2 : IR :=
  .seq (.reg false [⟨some 2, none, ⟨[], []⟩, .mov (.k (.bool true))⟩] [23, 24, 25] []) (.ret)
def ir57 : IR :=
  .seq (.reg false [⟨some 1, none, ⟨[], []⟩, .box 10 (.t 0)⟩,
    ⟨some 2, none, ⟨[], []⟩, .mov (.k (.bool false))⟩] [0, 2] []) (.seq (.seq (.reg false [⟨some 5, none, ⟨[], []⟩, .fld (.t 1) 0⟩,
    ⟨some 6, none, ⟨[], []⟩, .ld false none 0 0 (.t 5)⟩,
    ⟨some 7, none, ⟨[], []⟩, .fld (.t 1) 1⟩,
    ⟨some 8, none, ⟨[], []⟩, .ld false none 0 0 (.t 7)⟩,
    ⟨some 9, none, ⟨[], []⟩, .callp 69 [.t 6, .t 8]⟩,
    ⟨some 10, none, ⟨[], []⟩, .not (.t 9)⟩,
    ⟨some 11, none, ⟨[], []⟩, .mov (.t 10)⟩,
    ⟨some 12, some (11, false), ⟨[], []⟩, .fld (.t 1) 2⟩,
    ⟨some 13, some (11, false), ⟨[], []⟩, .ld false none 0 0 (.t 12)⟩,
    ⟨some 14, some (11, false), ⟨[], []⟩, .len (.t 13)⟩,
    ⟨some 15, some (11, false), ⟨[], []⟩, .fld (.t 1) 0⟩,
    ⟨some 16, some (11, false), ⟨[], []⟩, .ld false none 0 0 (.t 15)⟩,
    ⟨some 17, some (11, false), ⟨[], []⟩, .fld (.t 1) 1⟩,
    ⟨some 18, some (11, false), ⟨[], []⟩, .ld false none 0 0 (.t 17)⟩,
    ⟨some 19, some (11, false), ⟨[], []⟩, .bin 0 .mul (.t 16) (.t 18)⟩,
    ⟨some 20, some (11, false), ⟨[], []⟩, .bin 0 .neq (.t 14) (.t 19)⟩,
    ⟨some 21, none, ⟨[], []⟩, .pick (.t 11) (.k (.bool true)) (.t 20)⟩] [5, 6, 7, 8, 9, 10, 11, 12, 13, 14, 15, 16, 17, 18, 19, 20] []) (.cond (.t 21) (.seq (.reg false [⟨some 2, none, ⟨[], []⟩, .mov (.k (.bool false))⟩] [1, 21] []) (.ret)) (.skip))) (.seq (.seq (.reg false [⟨some 22, none, ⟨[], []⟩, .fld (.t 1) 2⟩,
    ⟨some 23, none, ⟨[], []⟩, .ld false none 0 0 (.t 22)⟩,
    ⟨some 24, none, ⟨[], []⟩, .len (.t 23)⟩,
    ⟨some 25, none, ⟨[], []⟩, .mov (.k (.int .i64 0))⟩] [1, 2, 21, 22] []) (.block 0 (.loop b57_1))) (r57_2)))
def kp57_1 : List Nat := [23, 24, 25]
def kl57_1 : List Nat := []
attribute [push_cast] kp57_1 kl57_1
theorem comp57 : (Try.f57.body.bind fun c => compC tab isP chkAll ir57 c) = some ir57 := by kernel_rfl
/- incunable/incunableref05.Valid : slots 34, labels 10..10; loop b60_1 keeps [1, 3] -/
def b60_1 : IR :=
  .seq (.seq (.reg false [⟨some 21, none, ⟨[], []⟩, .mov (.t 3)⟩,
    ⟨some 22, none, ⟨[], []⟩, .fld (.t 1) 2⟩,
    ⟨some 23, none, ⟨[], []⟩, .ld false none 0 0 (.t 22)⟩,
    ⟨some 24, none, ⟨[], []⟩, .len (.t 23)⟩,
    ⟨some 25, none, ⟨[], []⟩, .bin 0 .lss (.t 21) (.t 24)⟩] [21, 22, 23, 24] []) (.cond (.t 25) (.skip) (.exit 0))) (.seq (.block 1 (.seq (.reg false [⟨some 28, none, ⟨[], []⟩, .fld (.t 1) 2⟩,
    ⟨some 29, none, ⟨[], []⟩, .ld false none 0 0 (.t 28)⟩,
    ⟨some 30, none, ⟨[], []⟩, .mov (.t 3)⟩,
    ⟨some 31, none, ⟨[], []⟩, .idxS (.t 29) (.t 30) 1⟩,
    ⟨some 32, none, ⟨[], []⟩, .ld true none 0 0 (.t 31)⟩,
    ⟨some 33, none, ⟨[], []⟩, .bin 0 .gtr (.t 32) (.k (.int .u8 1))⟩] [25, 28, 29, 30, 31, 32] []) (.cond (.t 33) (.seq (.reg false [⟨some 2, none, ⟨[], []⟩, .mov (.k (.bool false))⟩] [1, 3, 33] []) (.ret)) (.skip)))) (.reg false [⟨some 26, none, ⟨[], []⟩, .mov (.t 3)⟩,
    ⟨some 27, none, ⟨[], []⟩, .bin 0 .add (.t 26) (.k (.int .i64 1))⟩,
    ⟨some 3, none, ⟨[], []⟩, .mov (.t 27)⟩] [2, 26, 27, 33] []))
def r60_2 : IR :=
  .seq (.reg false [⟨some 2, none, ⟨[], []⟩, .mov (.k (.bool true))⟩] [1, 3] []) (.ret)
def ir60 : IR :=
  .seq (.reg false [⟨some 1, none, ⟨[], []⟩, .box 10 (.t 0)⟩,
    ⟨some 2, none, ⟨[], []⟩, .mov (.k (.bool false))⟩] [0, 2] []) (.seq (.seq (.reg false [⟨some 4, none, ⟨[], []⟩, .fld (.t 1) 0⟩,
    ⟨some 5, none, ⟨[], []⟩, .ld false none 0 0 (.t 4)⟩,
    ⟨some 6, none, ⟨[], []⟩, .fld (.t 1) 1⟩,
    ⟨some 7, none, ⟨[], []⟩, .ld false none 0 0 (.t 6)⟩,
    ⟨some 8, none, ⟨[], []⟩, .callp 43 [.t 5, .t 7]⟩,
    ⟨some 9, none, ⟨[], []⟩, .not (.t 8)⟩,
    ⟨some 10, none, ⟨[], []⟩, .mov (.t 9)⟩,
    ⟨some 11, some (10, false), ⟨[], []⟩, .fld (.t 1) 2⟩,
    ⟨some 12, some (10, false), ⟨[], []⟩, .ld false none 0 0 (.t 11)⟩,
    ⟨some 13, some (10, false), ⟨[], []⟩, .len (.t 12)⟩,
    ⟨some 14, some (10, false), ⟨[], []⟩, .fld (.t 1) 0⟩,
    ⟨some 15, some (10, false), ⟨[], []⟩, .ld false none 0 0 (.t 14)⟩,
    ⟨some 16, some (10, false), ⟨[], []⟩, .fld (.t 1) 1⟩,
    ⟨some 17, some (10, false), ⟨[], []⟩, .ld false none 0 0 (.t 16)⟩,
    ⟨some 18, some (10, false), ⟨[], []⟩, .bin 0 .mul (.t 15) (.t 17)⟩,
    ⟨some 19, some (10, false), ⟨[], []⟩, .bin 0 .neq (.t 13) (.t 18)⟩,
    ⟨some 20, none, ⟨[], []⟩, .pick (.t 10) (.k (.bool true)) (.t 19)⟩] [4, 5, 6, 7, 8, 9, 10, 11, 12, 13, 14, 15, 16, 17, 18, 19] []) (.cond (.t 20) (.seq (.reg false [⟨some 2, none, ⟨[], []⟩, .mov (.k (.bool false))⟩] [1, 20] []) (.ret)) (.skip))) (.seq (.seq (.reg false [⟨some 3, none, ⟨[], []⟩, .mov (.k (.int .i64 0))⟩] [2, 20] []) (.block 0 (.loop b60_1))) (r60_2)))
def kp60_1 : List Nat := [1, 3]
def kl60_1 : List Nat := []
attribute [push_cast] kp60_1 kl60_1
theorem comp60 : (Try.f60.body.bind fun c => compC tab isP chkAll ir60 c) = some ir60 := by kernel_rfl
/- incunable/incunableref05.inside : slots 25, labels 10..10 -/
def ir70 : IR :=
  .seq (.reg false [⟨some 3, none, ⟨[], []⟩, .box 10 (.t 0)⟩,
    ⟨some 6, none, ⟨[], []⟩, .mov (.k (.bool false))⟩] [0, 6] []) (.seq (.reg false [⟨some 7, none, ⟨[], []⟩, .mov (.t 1)⟩,
    ⟨some 8, none, ⟨[], []⟩, .bin 0 .geq (.t 7) (.k (.int .i64 0))⟩,
    ⟨some 9, none, ⟨[], []⟩, .mov (.t 8)⟩,
    ⟨some 10, some (9, true), ⟨[], []⟩, .mov (.t 2)⟩,
    ⟨some 11, some (9, true), ⟨[], []⟩, .bin 0 .geq (.t 10) (.k (.int .i64 0))⟩,
    ⟨some 12, none, ⟨[], []⟩, .pick (.t 9) (.t 11) (.k (.bool false))⟩,
    ⟨some 13, none, ⟨[], []⟩, .mov (.t 12)⟩,
    ⟨some 14, some (13, true), ⟨[], []⟩, .mov (.t 1)⟩,
    ⟨some 15, some (13, true), ⟨[], []⟩, .fld (.t 3) 0⟩,
    ⟨some 16, some (13, true), ⟨[], []⟩, .ld false none 0 0 (.t 15)⟩,
    ⟨some 17, some (13, true), ⟨[], []⟩, .bin 0 .lss (.t 14) (.t 16)⟩,
    ⟨some 18, none, ⟨[], []⟩, .pick (.t 13) (.t 17) (.k (.bool false))⟩,
    ⟨some 19, none, ⟨[], []⟩, .mov (.t 18)⟩,
    ⟨some 20, some (19, true), ⟨[], []⟩, .mov (.t 2)⟩,
    ⟨some 21, some (19, true), ⟨[], []⟩, .fld (.t 3) 1⟩,
    ⟨some 22, some (19, true), ⟨[], []⟩, .ld false none 0 0 (.t 21)⟩,
    ⟨some 23, some (19, true), ⟨[], []⟩, .bin 0 .lss (.t 20) (.t 22)⟩,
    ⟨some 24, none, ⟨[], []⟩, .pick (.t 19) (.t 23) (.k (.bool false))⟩,
    ⟨some 6, none, ⟨[], []⟩, .mov (.t 24)⟩] [1, 2, 3, 7, 8, 9, 10, 11, 12, 13, 14, 15, 16, 17, 18, 19, 20, 21, 22, 23, 24] []) (.ret))
theorem comp70 : (Try.f70.body.bind fun c => compC tab isP chkAll ir70 c) = some ir70 := by kernel_rfl
/- incunable/incunableref05.At : slots 23, labels 10..14 -/
def ir61 : IR :=
  .seq (.reg false [⟨some 3, none, ⟨[], []⟩, .box 10 (.t 0)⟩,
    ⟨some 6, none, ⟨[], []⟩, .mov (.k (.int .i64 0))⟩] [0, 6] []) (.seq (.seq (.reg false [⟨some 7, none, ⟨[], []⟩, .ld false (some 3) 0 0 (.t 3)⟩,
    ⟨some 8, none, ⟨[], []⟩, .mov (.t 1)⟩,
    ⟨some 9, none, ⟨[], []⟩, .mov (.t 2)⟩,
    ⟨some 10, none, ⟨[], []⟩, .call (some 4) 11 70 [.t 7, .t 8, .t 9]⟩,
    ⟨some 11, none, ⟨[], []⟩, .not (.t 10)⟩] [7, 8, 9, 10] []) (.cond (.t 11) (.seq (.reg false [⟨some 6, none, ⟨[], []⟩, .mov (.k (.int .i64 0))⟩] [1, 2, 3, 11] []) (.ret)) (.skip))) (.seq (.reg false [⟨some 12, none, ⟨[], []⟩, .fld (.t 3) 2⟩,
    ⟨some 13, none, ⟨[], []⟩, .ld false none 0 0 (.t 12)⟩,
    ⟨some 14, none, ⟨[], []⟩, .mov (.t 2)⟩,
    ⟨some 15, none, ⟨[], []⟩, .fld (.t 3) 0⟩,
    ⟨some 16, none, ⟨[], []⟩, .ld false none 0 0 (.t 15)⟩,
    ⟨some 17, none, ⟨[], []⟩, .bin 0 .mul (.t 14) (.t 16)⟩,
    ⟨some 18, none, ⟨[], []⟩, .mov (.t 1)⟩,
    ⟨some 19, none, ⟨[], []⟩, .bin 0 .add (.t 17) (.t 18)⟩,
    ⟨some 20, none, ⟨[], []⟩, .idxS (.t 13) (.t 19) 1⟩,
    ⟨some 21, none, ⟨[], []⟩, .ld true none 0 0 (.t 20)⟩,
    ⟨some 22, none, ⟨[], []⟩, .cvt 0 .i64 (.t 21)⟩,
    ⟨some 6, none, ⟨[], []⟩, .mov (.t 22)⟩] [1, 2, 3, 11, 12, 13, 14, 15, 16, 17, 18, 19, 20, 21, 22] []) (.ret)))
theorem comp61 : (Try.f61.body.bind fun c => compC tab isP chkAll ir61 c) = some ir61 := by kernel_rfl
/- incunable/colour.own : slots 16, labels 10..23 -/
def ir59 : IR :=
  .seq (.reg false [⟨some 1, none, ⟨[], []⟩, .box 10 (.t 0)⟩,
    ⟨some 2, none, ⟨[], []⟩, .alloc 11 [.int .i64 0, .int .i64 0, nilSV, nilSV, nilSV]⟩] [0] []) (.seq (.reg true [⟨some 3, none, ⟨[], []⟩, .fld (.t 1) 2⟩,
    ⟨some 4, none, ⟨[], []⟩, .ld false none 0 0 (.t 3)⟩,
    ⟨some 5, none, ⟨[], []⟩, .call (some 4) 12 54 [.t 4]⟩,
    ⟨some 6, none, ⟨[], []⟩, .fld (.t 1) 3⟩,
    ⟨some 7, none, ⟨[12, 13, 14, 15], []⟩, .ld false none 0 0 (.t 6)⟩,
    ⟨some 8, none, ⟨[], []⟩, .call (some 4) 16 54 [.t 7]⟩,
    ⟨some 9, none, ⟨[], []⟩, .fld (.t 1) 4⟩,
    ⟨some 10, none, ⟨[12, 13, 14, 15, 16, 17, 18, 19], []⟩, .ld false none 0 0 (.t 9)⟩,
    ⟨some 11, none, ⟨[], []⟩, .call (some 4) 20 54 [.t 10]⟩,
    ⟨some 12, none, ⟨[], []⟩, .fld (.t 1) 2⟩,
    ⟨none, none, ⟨[], []⟩, .sto false 1 .i64 (.t 12) (.t 5)⟩,
    ⟨some 13, none, ⟨[], []⟩, .fld (.t 1) 3⟩,
    ⟨none, none, ⟨[], []⟩, .sto false 1 .i64 (.t 13) (.t 8)⟩,
    ⟨some 14, none, ⟨[], []⟩, .fld (.t 1) 4⟩,
    ⟨none, none, ⟨[], []⟩, .sto false 1 .i64 (.t 14) (.t 11)⟩] [3, 4, 5, 6, 7, 8, 9, 10, 11, 12, 13, 14] []) (.seq (.reg false [⟨some 15, none, ⟨[], []⟩, .ld false (some 5) 0 0 (.t 1)⟩,
    ⟨none, none, ⟨[], []⟩, .sto false 5 .i64 (.t 2) (.t 15)⟩] [1, 15] []) (.ret)))
theorem comp59 : (Try.f59.body.bind fun c => compC tab isP chkAll ir59 c) = some ir59 := by kernel_rfl
/- incunable/incunableref19.Copy : slots 20, labels 10..17 -/
def ir30 : IR :=
  .seq (.reg false [⟨some 1, none, ⟨[], []⟩, .box 10 (.t 0)⟩,
    ⟨some 2, none, ⟨[], []⟩, .alloc 11 [.int .i64 0, .int .i64 0, nilSV, nilSV, nilSV]⟩] [0] []) (.seq (.reg true [⟨some 3, none, ⟨[], []⟩, .fld (.t 1) 0⟩,
    ⟨some 4, none, ⟨[12, 13, 14, 15, 16, 17], []⟩, .ld false none 0 0 (.t 3)⟩,
    ⟨some 5, none, ⟨[], []⟩, .fld (.t 1) 1⟩,
    ⟨some 6, none, ⟨[12, 13, 14, 15, 16, 17], []⟩, .ld false none 0 0 (.t 5)⟩,
    ⟨some 7, none, ⟨[], []⟩, .bslice 12 []⟩,
    ⟨some 8, none, ⟨[], []⟩, .fld (.t 1) 2⟩,
    ⟨some 9, none, ⟨[12, 14, 16], []⟩, .ld false none 0 0 (.t 8)⟩,
    ⟨some 10, none, ⟨[14, 16], []⟩, .app 13 1 8 (.t 7) (.t 9)⟩,
    ⟨some 11, none, ⟨[], []⟩, .bslice 14 []⟩,
    ⟨some 12, none, ⟨[], []⟩, .fld (.t 1) 3⟩,
    ⟨some 13, none, ⟨[12, 13, 14, 16], []⟩, .ld false none 0 0 (.t 12)⟩,
    ⟨some 14, none, ⟨[16], []⟩, .app 15 1 8 (.t 11) (.t 13)⟩,
    ⟨some 15, none, ⟨[], []⟩, .bslice 16 []⟩,
    ⟨some 16, none, ⟨[], []⟩, .fld (.t 1) 4⟩,
    ⟨some 17, none, ⟨[12, 13, 14, 15, 16], []⟩, .ld false none 0 0 (.t 16)⟩,
    ⟨some 18, none, ⟨[], []⟩, .app 17 1 8 (.t 15) (.t 17)⟩,
    ⟨some 19, none, ⟨[], []⟩, .build [.int .i64 0, .int .i64 0, nilSV, nilSV, nilSV] [(0, 1, .t 4), (1, 1, .t 6), (2, 1, .t 10), (3, 1, .t 14), (4, 1, .t 18)]⟩,
    ⟨none, none, ⟨[], []⟩, .sto false 5 .i64 (.t 2) (.t 19)⟩] [1, 3, 4, 5, 6, 7, 8, 9, 10, 11, 12, 13, 14, 15, 16, 17, 18, 19] []) (.ret))
theorem comp30 : (Try.f30.body.bind fun c => compC tab isP chkAll ir30 c) = some ir30 := by kernel_rfl
set_option maxRecDepth 512

structure Bm where
  w : Int
  h : Int
  xs : List Int
def bmV (b : Bm) (L : Xf.Loc) (c : Nat) : SV := .agg [.int .i64 b.w, .int .i64 b.h, .sl c L 1 0 b.xs.length]
attribute [push_cast] bmV
structure BmA where
  b : Bm
  L : Xf.Loc
def getB (look : Look) : SV → Option (BmA × List Nat)
  | .agg [.int .i64 w, .int .i64 h, .sl c _ 1 0 _] => match rowI (lkZ look (.ints .u8 []) c) with
    | some (L, .u8, xs) => some (⟨⟨w, h, xs⟩, L⟩, [c])
    | _ => none
  | _ => none
attribute [push_cast] getB
def Bits (xs : List Int) : Prop := ∀ n, n ∈ xs → n ≤ 1
instance (xs : List Int) : Decidable (Bits xs) := by unfold Bits; infer_instance
theorem bits_rd {xs : List Int} : Bits xs ↔ ∀ j : Nat, j < xs.length → rd xs j ≤ 1 := by
  unfold Bits
  constructor
  · intro h j hj; rw [rd_lt xs j hj]; exact h _ (List.getElem_mem hj)
  · intro h n hn
    obtain ⟨j, hj, rfl⟩ := List.mem_iff_getElem.1 hn
    have := h j hj
    rwa [rd_lt xs j hj] at this
def Bm.Ok (b : Bm) : Prop := SidesOk b.w b.h ∧ b.xs.length = b.w * b.h ∧ Bits b.xs
instance (b : Bm) : Decidable b.Ok := by unfold Bm.Ok; infer_instance
theorem p69 : EntryPOk Try.prog 69 sidesF := by
  refine ⟨⟨_, Try.func69, by kernel_rfl, by kernel_rfl⟩, fun us p v h hp => ?_⟩
  unfold sidesF at h
  split at h <;> cases h
  refine tri_evS (hyp (l := []) (lp := []) trivial trivial) Try.func69 comp69 (rs := [.tmp 4]) (by rfl) Try.ntmps69 10 ?_
  simp -implicitDefEqProofs only [push_cast, false_implies, reduceCtorEq, Classical.not_not, Nat.reduceAdd, Nat.reduceSub, Nat.reduceMul, Nat.reduceLeDiff, Nat.reduceLT, Nat.reduceEqDiff, Nat.reduceBEq, Nat.reduceBNe, Int.reduceNeg, Int.reduceToNat, Bool.or_false, Bool.false_or, Bool.or_true, Bool.true_or, BEq.rfl, Bool.not_eq_true, Bool.not_eq_false, decide_eq_true_eq, not_true_eq_false, not_false_eq_true, ite_true, ite_false, List.append_nil, and_assoc, Nat.mul_zero, Nat.zero_mul, ir69, sidesF]
  refine ⟨fun h => ?_, by simp only [SidesOk, and_assoc]⟩
  have := mul_bd h.1 h.2.2.1 h.2.1 h.2.2.2
  omega
def fs57 : FS where
  A := BmA
  args := fun a => [bmV a.b a.L 0]
  mem := fun a => [some (.ro, a.L, .ints .u8 a.b.xs)]
  pre := fun a => a.b.xs.length ≤ 140737488355328
  res := fun a _ => .bool (decide a.b.Ok)
  out := fun _ _ => []
  new := fun _ _ => []
def inv57 : List SV → Look → Option (BmA × List Nat)
  | [v], look => getB look v
  | _, _ => none
attribute [push_cast] inv57
theorem ok57 : FSOk Try.prog 57 fs57 := by
  refine ⟨⟨_, Try.func57, by kernel_rfl, by kernel_rfl⟩, fun a => ⟨by simp [fs57, push_cast, noMine, argOwn, Chunk.frArg], by simp [fs57, push_cast, outOk, Chunk.ext], fun x => .inl (by simp [fs57, push_cast, frNew, frOut, Chunk.fr])⟩, fun a hp => ?_⟩
  obtain ⟨⟨w, h, xs⟩, L⟩ := a
  change xs.length ≤ 140737488355328 at hp
  change Tri Try.prog 57 [bmV ⟨w, h, xs⟩ L 0] [some (.ro, L, .ints .u8 xs)] (postF fs57 ⟨⟨w, h, xs⟩, L⟩)
  refine tri_evS (hyp (l := []) (lp := [(69, sidesF)]) trivial ⟨p69, trivial⟩) Try.func57 comp57 (rs := [.tmp 2]) (by rfl) Try.ntmps57 11 ?_
  simp -implicitDefEqProofs only [push_cast, false_implies, reduceCtorEq, Classical.not_not, Nat.reduceAdd, Nat.reduceSub, Nat.reduceMul, Nat.reduceLeDiff, Nat.reduceLT, Nat.reduceEqDiff, Nat.reduceBEq, Nat.reduceBNe, Int.reduceNeg, Int.reduceToNat, Bool.or_false, Bool.false_or, Bool.or_true, Bool.true_or, BEq.rfl, Bool.not_eq_true, Bool.not_eq_false, decide_eq_true_eq, not_true_eq_false, not_false_eq_true, ite_true, ite_false, List.append_nil, and_assoc, Nat.mul_zero, Nat.zero_mul, ir57]
  refine fun X => ⟨fun H => ?_, fun hn => ?_, fun hy => ?_⟩
  · have := H.bd
    exact ⟨H, by omega, by omega⟩
  · have e : ¬ (⟨w, h, xs⟩ : Bm).Ok := fun H => by
      obtain ⟨a1, b, _⟩ := H
      simp only at a1 b
      simp [a1, b] at hn
    refine postF.mk' (fun _ => default) [some 0] ?_
    simp -implicitDefEqProofs only [push_cast, false_implies, reduceCtorEq, Classical.not_not, Nat.reduceAdd, Nat.reduceSub, Nat.reduceMul, Nat.reduceLeDiff, Nat.reduceLT, Nat.reduceEqDiff, Nat.reduceBEq, Nat.reduceBNe, Int.reduceNeg, Int.reduceToNat, Bool.or_false, Bool.false_or, Bool.or_true, Bool.true_or, BEq.rfl, Bool.not_eq_true, Bool.not_eq_false, decide_eq_true_eq, not_true_eq_false, not_false_eq_true, ite_true, ite_false, List.append_nil, and_assoc, Nat.mul_zero, Nat.zero_mul, fs57, e, decide_false]
  have hs : SidesOk w h := Classical.byContradiction fun H => hy (.inl H)
  have hl : (xs.length : Int) = w * h := Classical.byContradiction fun H => hy (.inr H)
  refine evS_loopU (A := Nat) kp57_1 kl57_1 (fun i => [(25, .int .i64 i)]) (fun _ => [])
    (fun i => i ≤ xs.length ∧ ∀ j, j < i → rd xs (j : Nat) ≤ 1) (fun i => xs.length - i) 0 ⟨by omega, by omega⟩ (Sub.pt ?_) ?_
  · simp -implicitDefEqProofs only [push_cast, false_implies, reduceCtorEq, Classical.not_not, Nat.reduceAdd, Nat.reduceSub, Nat.reduceMul, Nat.reduceLeDiff, Nat.reduceLT, Nat.reduceEqDiff, Nat.reduceBEq, Nat.reduceBNe, Int.reduceNeg, Int.reduceToNat, Bool.or_false, Bool.false_or, Bool.or_true, Bool.true_or, BEq.rfl, Bool.not_eq_true, Bool.not_eq_false, decide_eq_true_eq, not_true_eq_false, not_false_eq_true, ite_true, ite_false, List.append_nil, and_assoc, Nat.mul_zero, Nat.zero_mul]
  intro i ⟨h1, h2⟩ K hK
  simp -implicitDefEqProofs only [push_cast, false_implies, reduceCtorEq, Classical.not_not, Nat.reduceAdd, Nat.reduceSub, Nat.reduceMul, Nat.reduceLeDiff, Nat.reduceLT, Nat.reduceEqDiff, Nat.reduceBEq, Nat.reduceBNe, Int.reduceNeg, Int.reduceToNat, Bool.or_false, Bool.false_or, Bool.or_true, Bool.true_or, BEq.rfl, Bool.not_eq_true, Bool.not_eq_false, decide_eq_true_eq, not_true_eq_false, not_false_eq_true, ite_true, ite_false, List.append_nil, and_assoc, Nat.mul_zero, Nat.zero_mul, b57_1, r57_2]
  refine ⟨fun hl => ?_, fun hl => ?_⟩
  · repeat (refine And.intro (by first | omega | trivial | (intros; omega)) ?_)
    refine ⟨fun hb => ?_, fun hg => ⟨by omega, by omega, ?_⟩⟩
    · have e : ¬ (⟨w, h, xs⟩ : Bm).Ok := fun H => by
        have := bits_rd.1 H.2.2 i (show i < xs.length by omega)
        simp only at this
        omega
      refine postF.mk' (fun _ => default) [some 0] ?_
      simp -implicitDefEqProofs only [push_cast, false_implies, reduceCtorEq, Classical.not_not, Nat.reduceAdd, Nat.reduceSub, Nat.reduceMul, Nat.reduceLeDiff, Nat.reduceLT, Nat.reduceEqDiff, Nat.reduceBEq, Nat.reduceBNe, Int.reduceNeg, Int.reduceToNat, Bool.or_false, Bool.false_or, Bool.or_true, Bool.true_or, BEq.rfl, Bool.not_eq_true, Bool.not_eq_false, decide_eq_true_eq, not_true_eq_false, not_false_eq_true, ite_true, ite_false, List.append_nil, and_assoc, Nat.mul_zero, Nat.zero_mul, fs57, e, decide_false]
    · refine hK (i + 1) ⟨by omega, fun j hj => ?_⟩ (show xs.length - (i + 1) < xs.length - i by omega) _ _ (Sub.pt ?_)
      · by_cases e : j = i
        · subst e; omega
        · exact h2 j (by omega)
      · simp -implicitDefEqProofs only [push_cast, false_implies, reduceCtorEq, Classical.not_not, Nat.reduceAdd, Nat.reduceSub, Nat.reduceMul, Nat.reduceLeDiff, Nat.reduceLT, Nat.reduceEqDiff, Nat.reduceBEq, Nat.reduceBNe, Int.reduceNeg, Int.reduceToNat, Bool.or_false, Bool.false_or, Bool.or_true, Bool.true_or, BEq.rfl, Bool.not_eq_true, Bool.not_eq_false, decide_eq_true_eq, not_true_eq_false, not_false_eq_true, ite_true, ite_false, List.append_nil, and_assoc, Nat.mul_zero, Nat.zero_mul]
  · have e : (⟨w, h, xs⟩ : Bm).Ok := ⟨hs, ‹_›, bits_rd.2 fun j (hj : j < xs.length) => h2 j (by omega)⟩
    refine postF.mk' (fun _ => default) [some 0] ?_
    simp -implicitDefEqProofs only [push_cast, false_implies, reduceCtorEq, Classical.not_not, Nat.reduceAdd, Nat.reduceSub, Nat.reduceMul, Nat.reduceLeDiff, Nat.reduceLT, Nat.reduceEqDiff, Nat.reduceBEq, Nat.reduceBNe, Int.reduceNeg, Int.reduceToNat, Bool.or_false, Bool.false_or, Bool.or_true, Bool.true_or, BEq.rfl, Bool.not_eq_true, Bool.not_eq_false, decide_eq_true_eq, not_true_eq_false, not_false_eq_true, ite_true, ite_false, List.append_nil, and_assoc, Nat.mul_zero, Nat.zero_mul, fs57, e, decide_true]
def ent57 : Entry := spOf fs57 inv57
theorem e57 : EntryOk Try.prog 57 ent57 := entry_of ok57 inv57
@[push_cast] theorem ent57_app (us : List SV) (look : Look) (x : Nat → Xf.Loc) (k : Nat) : ent57 us look x k = spOf fs57 inv57 us look x k := rfl
theorem ok60 : FSOk Try.prog 60 fs57 := by
  refine ⟨⟨_, Try.func60, by kernel_rfl, by kernel_rfl⟩, fun a => ⟨by simp [fs57, push_cast, noMine, argOwn, Chunk.frArg], by simp [fs57, push_cast, outOk, Chunk.ext], fun x => .inl (by simp [fs57, push_cast, frNew, frOut, Chunk.fr])⟩, fun a hp => ?_⟩
  obtain ⟨⟨w, h, xs⟩, L⟩ := a
  change xs.length ≤ 140737488355328 at hp
  change Tri Try.prog 60 [bmV ⟨w, h, xs⟩ L 0] [some (.ro, L, .ints .u8 xs)] (postF fs57 ⟨⟨w, h, xs⟩, L⟩)
  refine tri_evS (hyp (l := []) (lp := [(43, sidesF)]) trivial ⟨p43, trivial⟩) Try.func60 comp60 (rs := [.tmp 2]) (by rfl) Try.ntmps60 11 ?_
  simp -implicitDefEqProofs only [push_cast, false_implies, reduceCtorEq, Classical.not_not, Nat.reduceAdd, Nat.reduceSub, Nat.reduceMul, Nat.reduceLeDiff, Nat.reduceLT, Nat.reduceEqDiff, Nat.reduceBEq, Nat.reduceBNe, Int.reduceNeg, Int.reduceToNat, Bool.or_false, Bool.false_or, Bool.or_true, Bool.true_or, BEq.rfl, Bool.not_eq_true, Bool.not_eq_false, decide_eq_true_eq, not_true_eq_false, not_false_eq_true, ite_true, ite_false, List.append_nil, and_assoc, Nat.mul_zero, Nat.zero_mul, ir60]
  refine fun X => ⟨fun H => ?_, fun hn => ?_, fun hy => ?_⟩
  · have := H.bd
    exact ⟨H, by omega, by omega⟩
  · have e : ¬ (⟨w, h, xs⟩ : Bm).Ok := fun H => by
      obtain ⟨a1, b, _⟩ := H
      simp only at a1 b
      simp [a1, b] at hn
    refine postF.mk' (fun _ => default) [some 0] ?_
    simp -implicitDefEqProofs only [push_cast, false_implies, reduceCtorEq, Classical.not_not, Nat.reduceAdd, Nat.reduceSub, Nat.reduceMul, Nat.reduceLeDiff, Nat.reduceLT, Nat.reduceEqDiff, Nat.reduceBEq, Nat.reduceBNe, Int.reduceNeg, Int.reduceToNat, Bool.or_false, Bool.false_or, Bool.or_true, Bool.true_or, BEq.rfl, Bool.not_eq_true, Bool.not_eq_false, decide_eq_true_eq, not_true_eq_false, not_false_eq_true, ite_true, ite_false, List.append_nil, and_assoc, Nat.mul_zero, Nat.zero_mul, fs57, e, decide_false]
  have hs : SidesOk w h := Classical.byContradiction fun H => hy (.inl H)
  have hl : (xs.length : Int) = w * h := Classical.byContradiction fun H => hy (.inr H)
  refine evS_loopU (A := Nat) kp60_1 kl60_1 (fun i => [(3, .int .i64 i)]) (fun _ => [])
    (fun i => i ≤ xs.length ∧ ∀ j, j < i → rd xs (j : Nat) ≤ 1) (fun i => xs.length - i) 0 ⟨by omega, by omega⟩ (Sub.pt ?_) ?_
  · simp -implicitDefEqProofs only [push_cast, false_implies, reduceCtorEq, Classical.not_not, Nat.reduceAdd, Nat.reduceSub, Nat.reduceMul, Nat.reduceLeDiff, Nat.reduceLT, Nat.reduceEqDiff, Nat.reduceBEq, Nat.reduceBNe, Int.reduceNeg, Int.reduceToNat, Bool.or_false, Bool.false_or, Bool.or_true, Bool.true_or, BEq.rfl, Bool.not_eq_true, Bool.not_eq_false, decide_eq_true_eq, not_true_eq_false, not_false_eq_true, ite_true, ite_false, List.append_nil, and_assoc, Nat.mul_zero, Nat.zero_mul]
  intro i ⟨h1, h2⟩ K hK
  simp -implicitDefEqProofs only [push_cast, false_implies, reduceCtorEq, Classical.not_not, Nat.reduceAdd, Nat.reduceSub, Nat.reduceMul, Nat.reduceLeDiff, Nat.reduceLT, Nat.reduceEqDiff, Nat.reduceBEq, Nat.reduceBNe, Int.reduceNeg, Int.reduceToNat, Bool.or_false, Bool.false_or, Bool.or_true, Bool.true_or, BEq.rfl, Bool.not_eq_true, Bool.not_eq_false, decide_eq_true_eq, not_true_eq_false, not_false_eq_true, ite_true, ite_false, List.append_nil, and_assoc, Nat.mul_zero, Nat.zero_mul, b60_1, r60_2]
  refine ⟨fun hl => ?_, fun hl => ?_⟩
  · repeat (refine And.intro (by first | omega | trivial | (intros; omega)) ?_)
    refine ⟨fun hb => ?_, fun hg => ⟨by omega, by omega, ?_⟩⟩
    · have e : ¬ (⟨w, h, xs⟩ : Bm).Ok := fun H => by
        have := bits_rd.1 H.2.2 i (show i < xs.length by omega)
        simp only at this
        omega
      refine postF.mk' (fun _ => default) [some 0] ?_
      simp -implicitDefEqProofs only [push_cast, false_implies, reduceCtorEq, Classical.not_not, Nat.reduceAdd, Nat.reduceSub, Nat.reduceMul, Nat.reduceLeDiff, Nat.reduceLT, Nat.reduceEqDiff, Nat.reduceBEq, Nat.reduceBNe, Int.reduceNeg, Int.reduceToNat, Bool.or_false, Bool.false_or, Bool.or_true, Bool.true_or, BEq.rfl, Bool.not_eq_true, Bool.not_eq_false, decide_eq_true_eq, not_true_eq_false, not_false_eq_true, ite_true, ite_false, List.append_nil, and_assoc, Nat.mul_zero, Nat.zero_mul, fs57, e, decide_false]
    · refine hK (i + 1) ⟨by omega, fun j hj => ?_⟩ (show xs.length - (i + 1) < xs.length - i by omega) _ _ (Sub.pt ?_)
      · by_cases e : j = i
        · subst e; omega
        · exact h2 j (by omega)
      · simp -implicitDefEqProofs only [push_cast, false_implies, reduceCtorEq, Classical.not_not, Nat.reduceAdd, Nat.reduceSub, Nat.reduceMul, Nat.reduceLeDiff, Nat.reduceLT, Nat.reduceEqDiff, Nat.reduceBEq, Nat.reduceBNe, Int.reduceNeg, Int.reduceToNat, Bool.or_false, Bool.false_or, Bool.or_true, Bool.true_or, BEq.rfl, Bool.not_eq_true, Bool.not_eq_false, decide_eq_true_eq, not_true_eq_false, not_false_eq_true, ite_true, ite_false, List.append_nil, and_assoc, Nat.mul_zero, Nat.zero_mul]
  · have e : (⟨w, h, xs⟩ : Bm).Ok := ⟨hs, ‹_›, bits_rd.2 fun j (hj : j < xs.length) => h2 j (by omega)⟩
    refine postF.mk' (fun _ => default) [some 0] ?_
    simp -implicitDefEqProofs only [push_cast, false_implies, reduceCtorEq, Classical.not_not, Nat.reduceAdd, Nat.reduceSub, Nat.reduceMul, Nat.reduceLeDiff, Nat.reduceLT, Nat.reduceEqDiff, Nat.reduceBEq, Nat.reduceBNe, Int.reduceNeg, Int.reduceToNat, Bool.or_false, Bool.false_or, Bool.or_true, Bool.true_or, BEq.rfl, Bool.not_eq_true, Bool.not_eq_false, decide_eq_true_eq, not_true_eq_false, not_false_eq_true, ite_true, ite_false, List.append_nil, and_assoc, Nat.mul_zero, Nat.zero_mul, fs57, e, decide_true]
def ent60 : Entry := spOf fs57 inv57
theorem e60 : EntryOk Try.prog 60 ent60 := entry_of ok60 inv57
@[push_cast] theorem ent60_app (us : List SV) (look : Look) (x : Nat → Xf.Loc) (k : Nat) : ent60 us look x k = spOf fs57 inv57 us look x k := rfl

structure AtA where
  a : BmA
  x : Int
  y : Int
def AtA.inside (a : AtA) : Prop := 0 ≤ a.x ∧ 0 ≤ a.y ∧ a.x < a.a.b.w ∧ a.y < a.a.b.h
instance (a : AtA) : Decidable a.inside := by unfold AtA.inside; infer_instance
def atV (a : AtA) : Int := if a.inside then rd a.a.b.xs (a.y * a.a.b.w + a.x) else 0
def fs70 : FS where
  A := AtA
  args := fun a => [bmV a.a.b a.a.L 0, .int .i64 a.x, .int .i64 a.y]
  mem := fun a => [some (.ro, a.a.L, .ints .u8 a.a.b.xs)]
  pre := fun _ => True
  res := fun a _ => .bool (decide a.inside)
  out := fun _ _ => []
  new := fun _ _ => []
def inv70 : List SV → Look → Option (AtA × List Nat)
  | [v, .int .i64 x, .int .i64 y], look => match getB look v with
    | some (a, g) => some (⟨a, x, y⟩, g)
    | _ => none
  | _, _ => none
attribute [push_cast] inv70
theorem ok70 : FSOk Try.prog 70 fs70 := by
  refine ⟨⟨_, Try.func70, by kernel_rfl, by kernel_rfl⟩, fun a => ⟨by simp [fs70, push_cast, noMine, argOwn, Chunk.frArg], by simp [fs70, push_cast, outOk, Chunk.ext], fun x => .inl (by simp [fs70, push_cast, frNew, frOut, Chunk.fr])⟩, fun a hp => ?_⟩
  obtain ⟨⟨⟨w, h, xs⟩, L⟩, x, y⟩ := a
  change Tri Try.prog 70 [bmV ⟨w, h, xs⟩ L 0, .int .i64 x, .int .i64 y] [some (.ro, L, .ints .u8 xs)] (postF fs70 ⟨⟨⟨w, h, xs⟩, L⟩, x, y⟩)
  refine tri_evS (hyp (l := []) (lp := []) trivial trivial) Try.func70 comp70 (rs := [.tmp 6]) (by rfl) Try.ntmps70 11 ?_
  simp -implicitDefEqProofs only [push_cast, false_implies, reduceCtorEq, Classical.not_not, Nat.reduceAdd, Nat.reduceSub, Nat.reduceMul, Nat.reduceLeDiff, Nat.reduceLT, Nat.reduceEqDiff, Nat.reduceBEq, Nat.reduceBNe, Int.reduceNeg, Int.reduceToNat, Bool.or_false, Bool.false_or, Bool.or_true, Bool.true_or, BEq.rfl, Bool.not_eq_true, Bool.not_eq_false, decide_eq_true_eq, not_true_eq_false, not_false_eq_true, ite_true, ite_false, List.append_nil, and_assoc, Nat.mul_zero, Nat.zero_mul, ir70]
  refine fun X => ⟨fun H => ⟨H.1, H.2, H⟩, fun H => ⟨H.1, H.2.1, H.2.2, H⟩, postF.mk' (fun _ => default) [some 0] ?_⟩
  simp -implicitDefEqProofs only [push_cast, false_implies, reduceCtorEq, Classical.not_not, Nat.reduceAdd, Nat.reduceSub, Nat.reduceMul, Nat.reduceLeDiff, Nat.reduceLT, Nat.reduceEqDiff, Nat.reduceBEq, Nat.reduceBNe, Int.reduceNeg, Int.reduceToNat, Bool.or_false, Bool.false_or, Bool.or_true, Bool.true_or, BEq.rfl, Bool.not_eq_true, Bool.not_eq_false, decide_eq_true_eq, not_true_eq_false, not_false_eq_true, ite_true, ite_false, List.append_nil, and_assoc, Nat.mul_zero, Nat.zero_mul, fs70, AtA.inside]
def ent70 : Entry := spOf fs70 inv70
theorem e70 : EntryOk Try.prog 70 ent70 := entry_of ok70 inv70
@[push_cast] theorem ent70_app (us : List SV) (look : Look) (x : Nat → Xf.Loc) (k : Nat) : ent70 us look x k = spOf fs70 inv70 us look x k := rfl
def fs61 : FS := { fs70 with pre := fun a => a.a.b.Ok ∧ ∀ n, n ∈ a.a.b.xs → 0 ≤ n, res := fun a _ => .int .i64 (atV a) }
theorem ok61 : FSOk Try.prog 61 fs61 := by
  refine ⟨⟨_, Try.func61, by kernel_rfl, by kernel_rfl⟩, fun a => ⟨by simp [fs61, fs70, push_cast, noMine, argOwn, Chunk.frArg], by simp [fs61, fs70, push_cast, outOk, Chunk.ext], fun x => .inl (by simp [fs61, fs70, push_cast, frNew, frOut, Chunk.fr])⟩, fun a hp => ?_⟩
  obtain ⟨⟨⟨w, h, xs⟩, L⟩, x, y⟩ := a
  obtain ⟨⟨hs, hl, hb⟩, h0⟩ : (⟨w, h, xs⟩ : Bm).Ok ∧ ∀ n, n ∈ xs → 0 ≤ n := hp
  change Tri Try.prog 61 [bmV ⟨w, h, xs⟩ L 0, .int .i64 x, .int .i64 y] [some (.ro, L, .ints .u8 xs)] (postF fs61 ⟨⟨⟨w, h, xs⟩, L⟩, x, y⟩)
  refine tri_evS (hyp (l := [(70, ent70)]) (lp := []) ⟨e70, trivial⟩ trivial) Try.func61 comp61 (rs := [.tmp 6]) (by rfl) Try.ntmps61 15 ?_
  simp -implicitDefEqProofs only [push_cast, false_implies, reduceCtorEq, Classical.not_not, Nat.reduceAdd, Nat.reduceSub, Nat.reduceMul, Nat.reduceLeDiff, Nat.reduceLT, Nat.reduceEqDiff, Nat.reduceBEq, Nat.reduceBNe, Int.reduceNeg, Int.reduceToNat, Bool.or_false, Bool.false_or, Bool.or_true, Bool.true_or, BEq.rfl, Bool.not_eq_true, Bool.not_eq_false, decide_eq_true_eq, not_true_eq_false, not_false_eq_true, ite_true, ite_false, List.append_nil, and_assoc, Nat.mul_zero, Nat.zero_mul, ir61, fs70]
  refine fun X => ⟨fun hn => ?_, fun hy => ?_⟩
  · refine postF.mk' (fun _ => default) [some 0] ?_
    simp -implicitDefEqProofs only [push_cast, false_implies, reduceCtorEq, Classical.not_not, Nat.reduceAdd, Nat.reduceSub, Nat.reduceMul, Nat.reduceLeDiff, Nat.reduceLT, Nat.reduceEqDiff, Nat.reduceBEq, Nat.reduceBNe, Int.reduceNeg, Int.reduceToNat, Bool.or_false, Bool.false_or, Bool.or_true, Bool.true_or, BEq.rfl, Bool.not_eq_true, Bool.not_eq_false, decide_eq_true_eq, not_true_eq_false, not_false_eq_true, ite_true, ite_false, List.append_nil, and_assoc, Nat.mul_zero, Nat.zero_mul, fs61, fs70, atV, hn, if_false]
  · obtain ⟨b1, b2, b3, b4⟩ : 0 ≤ x ∧ 0 ≤ y ∧ x < w ∧ y < h := id hy
    obtain ⟨a1, a2, a3, a4, a5⟩ := id hs
    simp only at a1 a2 a3 a4 a5 hl hb
    have hi := idx_bd b2 b4 b1 b3
    have hm := mul_bd b2 (show y ≤ 200 by omega) a1 a3
    have hv : 0 ≤ rd xs (y * w + x) ∧ rd xs (y * w + x) ≤ 1 := by
      have hk : (y * w + x).toNat < xs.length := by omega
      have e : rd xs (y * w + x) = xs[(y * w + x).toNat] := by simp [rd, hk]
      rw [e]; exact ⟨h0 _ (List.getElem_mem hk), hb _ (List.getElem_mem hk)⟩
    repeat (refine And.intro (by first | omega | trivial | (intros; omega)) ?_)
    refine postF.mk' (fun _ => default) [some 0] ?_
    simp -implicitDefEqProofs only [push_cast, false_implies, reduceCtorEq, Classical.not_not, Nat.reduceAdd, Nat.reduceSub, Nat.reduceMul, Nat.reduceLeDiff, Nat.reduceLT, Nat.reduceEqDiff, Nat.reduceBEq, Nat.reduceBNe, Int.reduceNeg, Int.reduceToNat, Bool.or_false, Bool.false_or, Bool.or_true, Bool.true_or, BEq.rfl, Bool.not_eq_true, Bool.not_eq_false, decide_eq_true_eq, not_true_eq_false, not_false_eq_true, ite_true, ite_false, List.append_nil, and_assoc, Nat.mul_zero, Nat.zero_mul, fs61, fs70, atV, hy, if_true]
def ent61 : Entry := spOf fs61 inv70
theorem e61 : EntryOk Try.prog 61 ent61 := entry_of ok61 inv70
@[push_cast] theorem ent61_app (us : List SV) (look : Look) (x : Nat → Xf.Loc) (k : Nat) : ent61 us look x k = spOf fs61 inv70 us look x k := rfl

/-! Copies. -/
def fs59 : FS where
  A := ImA
  args := fun a => [imV a.i a.L1 a.L2 a.L3 0]
  mem := fun a => imM a.i a.L1 a.L2 a.L3
  pre := fun a => a.i.R.length ≤ 1000000000000 ∧ a.i.G.length ≤ 1000000000000 ∧ a.i.B.length ≤ 1000000000000
  res := fun a x => imV a.i (x 0) (x 1) (x 2) 3
  out := fun _ _ => []
  new := fun a x => imN a.i x
theorem ok59 : FSOk Try.prog 59 fs59 := by
  refine ⟨⟨_, Try.func59, by kernel_rfl, by kernel_rfl⟩, fun a => ⟨by simp [fs59, imM, push_cast, noMine, argOwn, Chunk.frArg], by simp [fs59, imM, push_cast, outOk, Chunk.ext], fun x => .inl (by simp [fs59, imM, push_cast, frNew, frOut, Chunk.fr])⟩, fun a hp => ?_⟩
  obtain ⟨⟨w, h, R, G, B⟩, L1, L2, L3⟩ := a
  obtain ⟨h1, h2, h3⟩ : R.length ≤ 1000000000000 ∧ G.length ≤ 1000000000000 ∧ B.length ≤ 1000000000000 := hp
  change Tri Try.prog 59 [imV ⟨w, h, R, G, B⟩ L1 L2 L3 0] (imM ⟨w, h, R, G, B⟩ L1 L2 L3) (postF fs59 ⟨⟨w, h, R, G, B⟩, L1, L2, L3⟩)
  refine tri_evS (hyp (l := [(54, ent54)]) (lp := []) ⟨e54, trivial⟩ trivial) Try.func59 comp59 (rs := [.cell 2 (some 5)]) (by rfl) Try.ntmps59 24 ?_
  simp -implicitDefEqProofs only [push_cast, false_implies, reduceCtorEq, Classical.not_not, Nat.reduceAdd, Nat.reduceSub, Nat.reduceMul, Nat.reduceLeDiff, Nat.reduceLT, Nat.reduceEqDiff, Nat.reduceBEq, Nat.reduceBNe, Int.reduceNeg, Int.reduceToNat, Bool.or_false, Bool.false_or, Bool.or_true, Bool.true_or, BEq.rfl, Bool.not_eq_true, Bool.not_eq_false, decide_eq_true_eq, not_true_eq_false, not_false_eq_true, ite_true, ite_false, List.append_nil, and_assoc, Nat.mul_zero, Nat.zero_mul, ir59, fs54, h1, h2, h3]
  refine fun X X1 => ?_
  refine postF.mk' (locs [X1 2 12, X1 5 16, X1 8 20]) [some 0, some 1, some 2, some 12, some 16, some 20] ?_
  simp -implicitDefEqProofs only [push_cast, false_implies, reduceCtorEq, Classical.not_not, Nat.reduceAdd, Nat.reduceSub, Nat.reduceMul, Nat.reduceLeDiff, Nat.reduceLT, Nat.reduceEqDiff, Nat.reduceBEq, Nat.reduceBNe, Int.reduceNeg, Int.reduceToNat, Bool.or_false, Bool.false_or, Bool.or_true, Bool.true_or, BEq.rfl, Bool.not_eq_true, Bool.not_eq_false, decide_eq_true_eq, not_true_eq_false, not_false_eq_true, ite_true, ite_false, List.append_nil, and_assoc, Nat.mul_zero, Nat.zero_mul, fs59, imN]
def ent59 : Entry := spOf fs59 inv15
theorem e59 : EntryOk Try.prog 59 ent59 := entry_of ok59 inv15
@[push_cast] theorem ent59_app (us : List SV) (look : Look) (x : Nat → Xf.Loc) (k : Nat) : ent59 us look x k = spOf fs59 inv15 us look x k := rfl
theorem ok30 : FSOk Try.prog 30 fs59 := by
  refine ⟨⟨_, Try.func30, by kernel_rfl, by kernel_rfl⟩, fun a => ⟨by simp [fs59, imM, push_cast, noMine, argOwn, Chunk.frArg], by simp [fs59, imM, push_cast, outOk, Chunk.ext], fun x => .inl (by simp [fs59, imM, push_cast, frNew, frOut, Chunk.fr])⟩, fun a hp => ?_⟩
  obtain ⟨⟨w, h, R, G, B⟩, L1, L2, L3⟩ := a
  obtain ⟨h1, h2, h3⟩ : R.length ≤ 1000000000000 ∧ G.length ≤ 1000000000000 ∧ B.length ≤ 1000000000000 := hp
  change Tri Try.prog 30 [imV ⟨w, h, R, G, B⟩ L1 L2 L3 0] (imM ⟨w, h, R, G, B⟩ L1 L2 L3) (postF fs59 ⟨⟨w, h, R, G, B⟩, L1, L2, L3⟩)
  refine tri_evS (hyp (l := []) (lp := []) trivial trivial) Try.func30 comp30 (rs := [.cell 2 (some 5)]) (by rfl) Try.ntmps30 18 ?_
  simp -implicitDefEqProofs only [push_cast, false_implies, reduceCtorEq, Classical.not_not, Nat.reduceAdd, Nat.reduceSub, Nat.reduceMul, Nat.reduceLeDiff, Nat.reduceLT, Nat.reduceEqDiff, Nat.reduceBEq, Nat.reduceBNe, Int.reduceNeg, Int.reduceToNat, Bool.or_false, Bool.false_or, Bool.or_true, Bool.true_or, BEq.rfl, Bool.not_eq_true, Bool.not_eq_false, decide_eq_true_eq, not_true_eq_false, not_false_eq_true, ite_true, ite_false, List.append_nil, and_assoc, Nat.mul_zero, Nat.zero_mul, ir30]
  refine fun X X1 => ?_
  repeat (refine And.intro (by first | omega | trivial | (intros; omega)) ?_)
  refine postF.mk' (locs [X1 7 13, X1 11 15, X1 15 17]) [some 0, some 1, some 2, some 13, some 15, some 17] ?_
  simp -implicitDefEqProofs only [push_cast, false_implies, reduceCtorEq, Classical.not_not, Nat.reduceAdd, Nat.reduceSub, Nat.reduceMul, Nat.reduceLeDiff, Nat.reduceLT, Nat.reduceEqDiff, Nat.reduceBEq, Nat.reduceBNe, Int.reduceNeg, Int.reduceToNat, Bool.or_false, Bool.false_or, Bool.or_true, Bool.true_or, BEq.rfl, Bool.not_eq_true, Bool.not_eq_false, decide_eq_true_eq, not_true_eq_false, not_false_eq_true, ite_true, ite_false, List.append_nil, and_assoc, Nat.mul_zero, Nat.zero_mul, fs59, imN]
def ent30 : Entry := spOf fs59 inv15
theorem e30 : EntryOk Try.prog 30 ent30 := entry_of ok30 inv15
@[push_cast] theorem ent30_app (us : List SV) (look : Look) (x : Nat → Xf.Loc) (k : Nat) : ent30 us look x k = spOf fs59 inv15 us look x k := rfl
end Go.Proofs.Ytnmbimhcfioeiaa
