import Derived.Test.YtnmbimhcfioeiaaVp
set_option linter.unusedVariables false
set_option linter.unusedSimpArgs false
/-! FromGrey; the law ColourGreys. -/
namespace Go.Proofs.Ytnmbimhcfioeiaa
open Xf
set_option maxRecDepth 4000
/- slices.Clone[[]int,int] : slots 8, labels 10..11 -/
def ir54 : IR :=
  .seq (.reg false [⟨some 2, none, ⟨[], []⟩, .mov (.k nilSV)⟩] [2] []) (.seq (.seq (.reg false [⟨some 3, none, ⟨[], []⟩, .mov (.t 0)⟩,
    ⟨some 4, none, ⟨[], []⟩, .binS .eql (.t 3) (.k nilSV)⟩] [3] []) (.cond (.t 4) (.seq (.reg false [⟨some 2, none, ⟨[], []⟩, .mov (.k nilSV)⟩] [0, 4] []) (.ret)) (.skip))) (.seq (.reg false [⟨some 5, none, ⟨[], []⟩, .bslice 10 []⟩,
    ⟨some 6, none, ⟨[], []⟩, .mov (.t 0)⟩,
    ⟨some 7, none, ⟨[], []⟩, .app 11 1 8 (.t 5) (.t 6)⟩,
    ⟨some 2, none, ⟨[], []⟩, .mov (.t 7)⟩] [0, 4, 5, 6, 7] []) (.ret)))
theorem comp54 : (Try.f54.body.bind fun c => compC tab isP chkAll ir54 c) = some ir54 := by kernel_rfl
/- slices.Equal[[]int,int] : slots 26, labels 10..9; loop b56_1 keeps [0, 1, 12, 13] -/
def b56_1 : IR :=
  .seq (.reg false [⟨some 14, none, ⟨[], []⟩, .bin 0 .lss (.t 13) (.t 12)⟩] [] []) (.seq (.cond (.t 14) (.skip) (.exit 0)) (.seq (.block 1 (.seq (.reg false [⟨some 15, none, ⟨[], []⟩, .mov (.t 13)⟩,
    ⟨some 5, none, ⟨[], []⟩, .mov (.t 15)⟩] [14, 15] []) (.seq (.reg true [⟨some 16, none, ⟨[], []⟩, .mov (.t 0)⟩,
    ⟨some 17, none, ⟨[], []⟩, .mov (.t 5)⟩,
    ⟨some 18, none, ⟨[], []⟩, .idxS (.t 16) (.t 17) 1⟩,
    ⟨some 19, none, ⟨[], []⟩, .ld true none 0 0 (.t 18)⟩,
    ⟨some 20, none, ⟨[], []⟩, .mov (.t 1)⟩,
    ⟨some 21, none, ⟨[], []⟩, .mov (.t 5)⟩,
    ⟨some 22, none, ⟨[], []⟩, .idxS (.t 20) (.t 21) 1⟩,
    ⟨some 23, none, ⟨[], []⟩, .ld true none 0 0 (.t 22)⟩,
    ⟨some 24, none, ⟨[], []⟩, .bin 0 .neq (.t 19) (.t 23)⟩] [5, 16, 17, 18, 19, 20, 21, 22, 23] []) (.cond (.t 24) (.seq (.reg false [⟨some 4, none, ⟨[], []⟩, .mov (.k (.bool false))⟩] [0, 1, 12, 13, 24] []) (.ret)) (.skip))))) (.reg false [⟨some 25, none, ⟨[], []⟩, .bin 0 .add (.t 13) (.k (.int .i64 1))⟩,
    ⟨some 13, none, ⟨[], []⟩, .mov (.t 25)⟩] [4, 24, 25] [])))
def r56_2 : IR :=
  .seq (.reg false [⟨some 4, none, ⟨[], []⟩, .mov (.k (.bool true))⟩] [0, 1, 12, 13] []) (.ret)
def ir56 : IR :=
  .seq (.reg false [⟨some 4, none, ⟨[], []⟩, .mov (.k (.bool false))⟩] [4] []) (.seq (.seq (.reg false [⟨some 6, none, ⟨[], []⟩, .mov (.t 0)⟩,
    ⟨some 7, none, ⟨[], []⟩, .len (.t 6)⟩,
    ⟨some 8, none, ⟨[], []⟩, .mov (.t 1)⟩,
    ⟨some 9, none, ⟨[], []⟩, .len (.t 8)⟩,
    ⟨some 10, none, ⟨[], []⟩, .bin 0 .neq (.t 7) (.t 9)⟩] [6, 7, 8, 9] []) (.cond (.t 10) (.seq (.reg false [⟨some 4, none, ⟨[], []⟩, .mov (.k (.bool false))⟩] [0, 1, 10] []) (.ret)) (.skip))) (.seq (.seq (.reg false [⟨some 11, none, ⟨[], []⟩, .mov (.t 0)⟩,
    ⟨some 12, none, ⟨[], []⟩, .len (.t 11)⟩,
    ⟨some 13, none, ⟨[], []⟩, .mov (.k (.int .i64 0))⟩] [4, 10, 11] []) (.block 0 (.loop b56_1))) (r56_2)))
def kp56_1 : List Nat := [0, 1, 12, 13]
def kl56_1 : List Nat := []
attribute [push_cast] kp56_1 kl56_1
theorem comp56 : (Try.f56.body.bind fun c => compC tab isP chkAll ir56 c) = some ir56 := by kernel_rfl
/- incunable/colour.Same : slots 38, labels 10..23 -/
def ir29 : IR :=
  .seq (.reg false [⟨some 2, none, ⟨[], []⟩, .box 10 (.t 0)⟩,
    ⟨some 3, none, ⟨[], []⟩, .box 11 (.t 1)⟩,
    ⟨some 4, none, ⟨[], []⟩, .mov (.k (.bool false))⟩] [0, 1, 4] []) (.seq (.reg false [⟨some 5, none, ⟨[], []⟩, .fld (.t 2) 0⟩,
    ⟨some 6, none, ⟨[], []⟩, .ld false none 0 0 (.t 5)⟩,
    ⟨some 7, none, ⟨[], []⟩, .fld (.t 3) 0⟩,
    ⟨some 8, none, ⟨[], []⟩, .ld false none 0 0 (.t 7)⟩,
    ⟨some 9, none, ⟨[], []⟩, .bin 0 .eql (.t 6) (.t 8)⟩,
    ⟨some 10, none, ⟨[], []⟩, .mov (.t 9)⟩,
    ⟨some 11, some (10, true), ⟨[], []⟩, .fld (.t 2) 1⟩,
    ⟨some 12, some (10, true), ⟨[], []⟩, .ld false none 0 0 (.t 11)⟩,
    ⟨some 13, some (10, true), ⟨[], []⟩, .fld (.t 3) 1⟩,
    ⟨some 14, some (10, true), ⟨[], []⟩, .ld false none 0 0 (.t 13)⟩,
    ⟨some 15, some (10, true), ⟨[], []⟩, .bin 0 .eql (.t 12) (.t 14)⟩,
    ⟨some 16, none, ⟨[], []⟩, .pick (.t 10) (.t 15) (.k (.bool false))⟩,
    ⟨some 17, none, ⟨[], []⟩, .mov (.t 16)⟩,
    ⟨some 18, some (17, true), ⟨[], []⟩, .fld (.t 2) 2⟩,
    ⟨some 19, some (17, true), ⟨[], []⟩, .ld false none 0 0 (.t 18)⟩,
    ⟨some 20, some (17, true), ⟨[], []⟩, .fld (.t 3) 2⟩,
    ⟨some 21, some (17, true), ⟨[], []⟩, .ld false none 0 0 (.t 20)⟩,
    ⟨some 22, some (17, true), ⟨[], []⟩, .call (some 4) 12 56 [.t 19, .t 21]⟩,
    ⟨some 23, none, ⟨[], []⟩, .pick (.t 17) (.t 22) (.k (.bool false))⟩,
    ⟨some 24, none, ⟨[], []⟩, .mov (.t 23)⟩,
    ⟨some 25, some (24, true), ⟨[], []⟩, .fld (.t 2) 3⟩,
    ⟨some 26, some (24, true), ⟨[], []⟩, .ld false none 0 0 (.t 25)⟩,
    ⟨some 27, some (24, true), ⟨[], []⟩, .fld (.t 3) 3⟩,
    ⟨some 28, some (24, true), ⟨[], []⟩, .ld false none 0 0 (.t 27)⟩,
    ⟨some 29, some (24, true), ⟨[], []⟩, .call (some 4) 16 56 [.t 26, .t 28]⟩,
    ⟨some 30, none, ⟨[], []⟩, .pick (.t 24) (.t 29) (.k (.bool false))⟩,
    ⟨some 31, none, ⟨[], []⟩, .mov (.t 30)⟩,
    ⟨some 32, some (31, true), ⟨[], []⟩, .fld (.t 2) 4⟩,
    ⟨some 33, some (31, true), ⟨[], []⟩, .ld false none 0 0 (.t 32)⟩,
    ⟨some 34, some (31, true), ⟨[], []⟩, .fld (.t 3) 4⟩,
    ⟨some 35, some (31, true), ⟨[], []⟩, .ld false none 0 0 (.t 34)⟩,
    ⟨some 36, some (31, true), ⟨[], []⟩, .call (some 4) 20 56 [.t 33, .t 35]⟩,
    ⟨some 37, none, ⟨[], []⟩, .pick (.t 31) (.t 36) (.k (.bool false))⟩,
    ⟨some 4, none, ⟨[], []⟩, .mov (.t 37)⟩] [2, 3, 5, 6, 7, 8, 9, 10, 11, 12, 13, 14, 15, 16, 17, 18, 19, 20, 21, 22, 23, 24, 25, 26, 27, 28, 29, 30, 31, 32, 33, 34, 35, 36, 37] []) (.ret))
theorem comp29 : (Try.f29.body.bind fun c => compC tab isP chkAll ir29 c) = some ir29 := by kernel_rfl
/- incunable/incunableref17.IsGrey : slots 28, labels 10..14; loop b55_1 keeps [1, 3] -/
def b55_1 : IR :=
  .seq (.seq (.reg false [⟨some 7, none, ⟨[], []⟩, .mov (.t 3)⟩,
    ⟨some 8, none, ⟨[], []⟩, .fld (.t 1) 2⟩,
    ⟨some 9, none, ⟨[], []⟩, .ld false none 0 0 (.t 8)⟩,
    ⟨some 10, none, ⟨[], []⟩, .len (.t 9)⟩,
    ⟨some 11, none, ⟨[], []⟩, .bin 0 .lss (.t 7) (.t 10)⟩] [7, 8, 9, 10] []) (.cond (.t 11) (.skip) (.exit 0))) (.seq (.block 1 (.seq (.reg false [⟨some 14, none, ⟨[], []⟩, .fld (.t 1) 2⟩,
    ⟨some 15, none, ⟨[], []⟩, .ld false none 0 0 (.t 14)⟩,
    ⟨some 16, none, ⟨[], []⟩, .mov (.t 3)⟩,
    ⟨some 17, none, ⟨[], []⟩, .idxS (.t 15) (.t 16) 1⟩,
    ⟨some 18, none, ⟨[], []⟩, .ld true none 0 0 (.t 17)⟩,
    ⟨some 19, none, ⟨[], []⟩, .bin 0 .lss (.t 18) (.k (.int .i64 0))⟩,
    ⟨some 20, none, ⟨[], []⟩, .mov (.t 19)⟩,
    ⟨some 21, some (20, false), ⟨[], []⟩, .fld (.t 1) 2⟩,
    ⟨some 22, some (20, false), ⟨[], []⟩, .ld false none 0 0 (.t 21)⟩,
    ⟨some 23, some (20, false), ⟨[], []⟩, .mov (.t 3)⟩,
    ⟨some 24, some (20, false), ⟨[], []⟩, .idxS (.t 22) (.t 23) 1⟩,
    ⟨some 25, some (20, false), ⟨[], []⟩, .ld true none 0 0 (.t 24)⟩,
    ⟨some 26, some (20, false), ⟨[], []⟩, .bin 0 .gtr (.t 25) (.k (.int .i64 255))⟩,
    ⟨some 27, none, ⟨[], []⟩, .pick (.t 20) (.k (.bool true)) (.t 26)⟩] [11, 14, 15, 16, 17, 18, 19, 20, 21, 22, 23, 24, 25, 26] []) (.cond (.t 27) (.seq (.reg false [⟨some 2, none, ⟨[], []⟩, .mov (.k (.bool false))⟩] [1, 3, 27] []) (.ret)) (.skip)))) (.reg false [⟨some 12, none, ⟨[], []⟩, .mov (.t 3)⟩,
    ⟨some 13, none, ⟨[], []⟩, .bin 0 .add (.t 12) (.k (.int .i64 1))⟩,
    ⟨some 3, none, ⟨[], []⟩, .mov (.t 13)⟩] [2, 12, 13, 27] []))
def r55_2 : IR :=
  .seq (.reg false [⟨some 2, none, ⟨[], []⟩, .mov (.k (.bool true))⟩] [1, 3] []) (.ret)
def ir55 : IR :=
  .seq (.reg false [⟨some 1, none, ⟨[], []⟩, .box 10 (.t 0)⟩,
    ⟨some 2, none, ⟨[], []⟩, .mov (.k (.bool false))⟩] [0, 2] []) (.seq (.seq (.reg false [⟨some 4, none, ⟨[], []⟩, .ld false (some 3) 0 0 (.t 1)⟩,
    ⟨some 5, none, ⟨[], []⟩, .call (some 4) 11 51 [.t 4]⟩,
    ⟨some 6, none, ⟨[], []⟩, .not (.t 5)⟩] [4, 5] []) (.cond (.t 6) (.seq (.reg false [⟨some 2, none, ⟨[], []⟩, .mov (.k (.bool false))⟩] [1, 6] []) (.ret)) (.skip))) (.seq (.seq (.reg false [⟨some 3, none, ⟨[], []⟩, .mov (.k (.int .i64 0))⟩] [2, 6] []) (.block 0 (.loop b55_1))) (r55_2)))
def kp55_1 : List Nat := [1, 3]
def kl55_1 : List Nat := []
attribute [push_cast] kp55_1 kl55_1
theorem comp55 : (Try.f55.body.bind fun c => compC tab isP chkAll ir55 c) = some ir55 := by kernel_rfl
/- incunable/colour.FromGrey : slots 22, labels 10..27 -/
def ir27 : IR :=
  .seq (.reg false [⟨some 1, none, ⟨[], []⟩, .box 10 (.t 0)⟩,
    ⟨some 2, none, ⟨[], []⟩, .alloc 11 [.int .i64 0, .int .i64 0, nilSV, nilSV, nilSV]⟩,
    ⟨some 3, none, ⟨[], []⟩, .mov (.k (.int .i64 0))⟩] [0, 3] []) (.seq (.seq (.reg false [⟨some 4, none, ⟨[], []⟩, .ld false (some 3) 0 0 (.t 1)⟩,
    ⟨some 5, none, ⟨[], []⟩, .call (some 4) 12 53 [.t 4]⟩,
    ⟨some 6, none, ⟨[], []⟩, .not (.t 5)⟩] [4, 5] []) (.cond (.t 6) (.seq (.reg false [⟨some 7, none, ⟨[], []⟩, .build [.int .i64 0, .int .i64 0, nilSV, nilSV, nilSV] []⟩,
    ⟨none, none, ⟨[], []⟩, .sto false 5 .i64 (.t 2) (.t 7)⟩,
    ⟨some 3, none, ⟨[], []⟩, .mov (.k (.int .i64 70))⟩] [1, 6, 7] []) (.ret)) (.skip))) (.seq (.reg true [⟨some 8, none, ⟨[], []⟩, .fld (.t 1) 0⟩,
    ⟨some 9, none, ⟨[16, 17, 18, 19, 20, 21, 22, 23, 24, 25, 26, 27], []⟩, .ld false none 0 0 (.t 8)⟩,
    ⟨some 10, none, ⟨[], []⟩, .fld (.t 1) 1⟩,
    ⟨some 11, none, ⟨[16, 17, 18, 19, 20, 21, 22, 23, 24, 25, 26, 27], []⟩, .ld false none 0 0 (.t 10)⟩,
    ⟨some 12, none, ⟨[], []⟩, .fld (.t 1) 2⟩,
    ⟨some 13, none, ⟨[], []⟩, .ld false none 0 0 (.t 12)⟩,
    ⟨some 14, none, ⟨[], []⟩, .call (some 4) 16 54 [.t 13]⟩,
    ⟨some 15, none, ⟨[], []⟩, .fld (.t 1) 2⟩,
    ⟨some 16, none, ⟨[16, 17, 18, 19], []⟩, .ld false none 0 0 (.t 15)⟩,
    ⟨some 17, none, ⟨[], []⟩, .call (some 4) 20 54 [.t 16]⟩,
    ⟨some 18, none, ⟨[], []⟩, .fld (.t 1) 2⟩,
    ⟨some 19, none, ⟨[16, 17, 18, 19, 20, 21, 22, 23], []⟩, .ld false none 0 0 (.t 18)⟩,
    ⟨some 20, none, ⟨[], []⟩, .call (some 4) 24 54 [.t 19]⟩,
    ⟨some 21, none, ⟨[], []⟩, .build [.int .i64 0, .int .i64 0, nilSV, nilSV, nilSV] [(0, 1, .t 9), (1, 1, .t 11), (2, 1, .t 14), (3, 1, .t 17), (4, 1, .t 20)]⟩,
    ⟨none, none, ⟨[], []⟩, .sto false 5 .i64 (.t 2) (.t 21)⟩,
    ⟨some 3, none, ⟨[], []⟩, .mov (.k (.int .i64 0))⟩] [1, 6, 8, 9, 10, 11, 12, 13, 14, 15, 16, 17, 18, 19, 20, 21] []) (.ret)))
theorem comp27 : (Try.f27.body.bind fun c => compC tab isP chkAll ir27 c) = some ir27 := by kernel_rfl
/- incunable/incunableref19.FromGrey : slots 25, labels 10..21 -/
def ir28 : IR :=
  .seq (.reg false [⟨some 1, none, ⟨[], []⟩, .box 10 (.t 0)⟩,
    ⟨some 2, none, ⟨[], []⟩, .alloc 11 [.int .i64 0, .int .i64 0, nilSV, nilSV, nilSV]⟩,
    ⟨some 3, none, ⟨[], []⟩, .mov (.k (.int .i64 0))⟩] [0, 3] []) (.seq (.seq (.reg false [⟨some 4, none, ⟨[], []⟩, .ld false (some 3) 0 0 (.t 1)⟩,
    ⟨some 5, none, ⟨[], []⟩, .call (some 4) 12 55 [.t 4]⟩,
    ⟨some 6, none, ⟨[], []⟩, .not (.t 5)⟩] [4, 5] []) (.cond (.t 6) (.seq (.reg false [⟨some 7, none, ⟨[], []⟩, .build [.int .i64 0, .int .i64 0, nilSV, nilSV, nilSV] []⟩,
    ⟨none, none, ⟨[], []⟩, .sto false 5 .i64 (.t 2) (.t 7)⟩,
    ⟨some 3, none, ⟨[], []⟩, .mov (.k (.int .i64 70))⟩] [1, 6, 7] []) (.ret)) (.skip))) (.seq (.reg true [⟨some 8, none, ⟨[], []⟩, .fld (.t 1) 0⟩,
    ⟨some 9, none, ⟨[16, 17, 18, 19, 20, 21], []⟩, .ld false none 0 0 (.t 8)⟩,
    ⟨some 10, none, ⟨[], []⟩, .fld (.t 1) 1⟩,
    ⟨some 11, none, ⟨[16, 17, 18, 19, 20, 21], []⟩, .ld false none 0 0 (.t 10)⟩,
    ⟨some 12, none, ⟨[], []⟩, .bslice 16 []⟩,
    ⟨some 13, none, ⟨[], []⟩, .fld (.t 1) 2⟩,
    ⟨some 14, none, ⟨[16, 18, 20], []⟩, .ld false none 0 0 (.t 13)⟩,
    ⟨some 15, none, ⟨[18, 20], []⟩, .app 17 1 8 (.t 12) (.t 14)⟩,
    ⟨some 16, none, ⟨[], []⟩, .bslice 18 []⟩,
    ⟨some 17, none, ⟨[], []⟩, .fld (.t 1) 2⟩,
    ⟨some 18, none, ⟨[16, 17, 18, 20], []⟩, .ld false none 0 0 (.t 17)⟩,
    ⟨some 19, none, ⟨[20], []⟩, .app 19 1 8 (.t 16) (.t 18)⟩,
    ⟨some 20, none, ⟨[], []⟩, .bslice 20 []⟩,
    ⟨some 21, none, ⟨[], []⟩, .fld (.t 1) 2⟩,
    ⟨some 22, none, ⟨[16, 17, 18, 19, 20], []⟩, .ld false none 0 0 (.t 21)⟩,
    ⟨some 23, none, ⟨[], []⟩, .app 21 1 8 (.t 20) (.t 22)⟩,
    ⟨some 24, none, ⟨[], []⟩, .build [.int .i64 0, .int .i64 0, nilSV, nilSV, nilSV] [(0, 1, .t 9), (1, 1, .t 11), (2, 1, .t 15), (3, 1, .t 19), (4, 1, .t 23)]⟩,
    ⟨none, none, ⟨[], []⟩, .sto false 5 .i64 (.t 2) (.t 24)⟩,
    ⟨some 3, none, ⟨[], []⟩, .mov (.k (.int .i64 0))⟩] [1, 6, 8, 9, 10, 11, 12, 13, 14, 15, 16, 17, 18, 19, 20, 21, 22, 23, 24] []) (.ret)))
theorem comp28 : (Try.f28.body.bind fun c => compC tab isP chkAll ir28 c) = some ir28 := by kernel_rfl
set_option maxRecDepth 512

theorem Dens.mem : ∀ {cs : List SV} {vs : List Value} {c : SV}, Dens cs vs → c ∈ cs → ∃ v, Den c v
  | [], _, _, _, h => by cases h
  | d :: cs, vs, c, hd, h => by
    simp only [Dens] at hd
    obtain ⟨v, vs', _, h1, h2⟩ := hd
    rcases List.mem_cons.1 h with rfl | h
    · exact ⟨v, h1⟩
    · exact Dens.mem h2 h
/-- Of a nil slice that is handed over the length is 0. -/
theorem Tri.ofNil {P : Program} {f : FuncId} {args : List SV} {m : Mem} {post : SV → Mem → Prop} {c : Nat} {L : Xf.Loc} {s : Nat} {n : Int} (hm : SV.sl c L s 0 n ∈ args) (h : (L.nil = true → n = 0) → Tri P f args m post) : Tri P f args m post := by
  intro w vs hd hw
  refine h ?_ w vs hd hw
  intro hn
  obtain ⟨v, hv⟩ := Dens.mem hd hm
  simp only [Den] at hv
  obtain ⟨h1, h2, h3, h4, _⟩ := hv
  have := h4 hn
  omega

def fs54 : FS where
  A := RowA
  args := fun a => [.sl 0 a.L 1 0 a.xs.length]
  mem := rowM
  pre := fun a => a.xs.length ≤ 1000000000000
  res := fun a x => .sl 1 (x 0) 1 0 a.xs.length
  out := fun _ _ => []
  new := fun a x => [(x 0, .ints .i64 a.xs)]
def inv54 : List SV → Look → Option (RowA × List Nat)
  | [.sl c _ 1 0 _], look => match rowI (lkZ look (.ints .i64 []) c) with
    | some (L, .i64, xs) => some (⟨L, xs⟩, [c])
    | _ => none
  | _, _ => none
attribute [push_cast] inv54
theorem ok54 : FSOk Try.prog 54 fs54 := by
  refine ⟨⟨_, Try.func54, by kernel_rfl, by kernel_rfl⟩, fun a => ⟨by simp [fs54, rowM, push_cast, noMine, argOwn, Chunk.frArg], by simp [fs54, rowM, push_cast, outOk, Chunk.ext], fun x => .inl (by simp [fs54, rowM, push_cast, frNew, frOut, Chunk.fr])⟩, fun a hp => ?_⟩
  obtain ⟨L, xs⟩ := a
  change xs.length ≤ 1000000000000 at hp
  change Tri Try.prog 54 [.sl 0 L 1 0 xs.length] [some (.ro, L, .ints .i64 xs)] (postF fs54 ⟨L, xs⟩)
  refine Tri.ofNil (List.mem_singleton.2 rfl) fun hn => ?_
  cases hL : L.nil
  · refine tri_evS (hyp (l := []) (lp := []) trivial trivial) Try.func54 comp54 (rs := [.tmp 2]) (by rfl) Try.ntmps54 12 ?_
    simp -implicitDefEqProofs only [push_cast, false_implies, reduceCtorEq, Classical.not_not, Nat.reduceAdd, Nat.reduceSub, Nat.reduceMul, Nat.reduceLeDiff, Nat.reduceLT, Nat.reduceEqDiff, Nat.reduceBEq, Nat.reduceBNe, Int.reduceNeg, Int.reduceToNat, Bool.or_false, Bool.false_or, Bool.or_true, Bool.true_or, BEq.rfl, Bool.not_eq_true, Bool.not_eq_false, decide_eq_true_eq, not_true_eq_false, not_false_eq_true, ite_true, ite_false, List.append_nil, and_assoc, Nat.mul_zero, Nat.zero_mul, ir54, hL]
    exact ⟨rfl, fun X => ⟨by omega, postF.mk' (fun _ => X 2 11) [some 0, some 11] (by simp -implicitDefEqProofs only [push_cast, false_implies, reduceCtorEq, Classical.not_not, Nat.reduceAdd, Nat.reduceSub, Nat.reduceMul, Nat.reduceLeDiff, Nat.reduceLT, Nat.reduceEqDiff, Nat.reduceBEq, Nat.reduceBNe, Int.reduceNeg, Int.reduceToNat, Bool.or_false, Bool.false_or, Bool.or_true, Bool.true_or, BEq.rfl, Bool.not_eq_true, Bool.not_eq_false, decide_eq_true_eq, not_true_eq_false, not_false_eq_true, ite_true, ite_false, List.append_nil, and_assoc, Nat.mul_zero, Nat.zero_mul, fs54])⟩⟩
  · obtain rfl : xs = [] := List.eq_nil_of_length_eq_zero (by have := hn hL; omega)
    refine tri_evS (hyp (l := []) (lp := []) trivial trivial) Try.func54 comp54 (rs := [.tmp 2]) (by rfl) Try.ntmps54 12 ?_
    simp -implicitDefEqProofs only [push_cast, false_implies, reduceCtorEq, Classical.not_not, Nat.reduceAdd, Nat.reduceSub, Nat.reduceMul, Nat.reduceLeDiff, Nat.reduceLT, Nat.reduceEqDiff, Nat.reduceBEq, Nat.reduceBNe, Int.reduceNeg, Int.reduceToNat, Bool.or_false, Bool.false_or, Bool.or_true, Bool.true_or, BEq.rfl, Bool.not_eq_true, Bool.not_eq_false, decide_eq_true_eq, not_true_eq_false, not_false_eq_true, ite_true, ite_false, List.append_nil, and_assoc, Nat.mul_zero, Nat.zero_mul, ir54, hL]
    exact ⟨rfl, postF.mk' (fun _ => nilLoc0) [some 0, none] (by simp -implicitDefEqProofs only [push_cast, false_implies, reduceCtorEq, Classical.not_not, Nat.reduceAdd, Nat.reduceSub, Nat.reduceMul, Nat.reduceLeDiff, Nat.reduceLT, Nat.reduceEqDiff, Nat.reduceBEq, Nat.reduceBNe, Int.reduceNeg, Int.reduceToNat, Bool.or_false, Bool.false_or, Bool.or_true, Bool.true_or, BEq.rfl, Bool.not_eq_true, Bool.not_eq_false, decide_eq_true_eq, not_true_eq_false, not_false_eq_true, ite_true, ite_false, List.append_nil, and_assoc, Nat.mul_zero, Nat.zero_mul, fs54, List.length_nil])⟩
def ent54 : Entry := spOf fs54 inv54
theorem e54 : EntryOk Try.prog 54 ent54 := entry_of ok54 inv54
@[push_cast] theorem ent54_app (us : List SV) (look : Look) (x : Nat → Xf.Loc) (k : Nat) : ent54 us look x k = spOf fs54 inv54 us look x k := rfl

structure Row2 where
  L : Xf.Loc
  xs : List Int
  M : Xf.Loc
  ys : List Int
def fs56 : FS where
  A := Row2
  args := fun a => [.sl 0 a.L 1 0 a.xs.length, .sl 1 a.M 1 0 a.ys.length]
  mem := fun a => [some (.ro, a.L, .ints .i64 a.xs), some (.ro, a.M, .ints .i64 a.ys)]
  pre := fun a => a.xs.length ≤ 140737488355328 ∧ a.ys.length ≤ 140737488355328
  res := fun a _ => .bool (decide (a.xs = a.ys))
  out := fun _ _ => []
  new := fun _ _ => []
def inv56 : List SV → Look → Option (Row2 × List Nat)
  | [.sl c _ 1 0 _, .sl d _ 1 0 _], look => match rowI (lkZ look (.ints .i64 []) c), rowI (lkZ look (.ints .i64 []) d) with
    | some (L, .i64, xs), some (M, .i64, ys) => some (⟨L, xs, M, ys⟩, [c, d])
    | _, _ => none
  | _, _ => none
attribute [push_cast] inv56
theorem ok56 : FSOk Try.prog 56 fs56 := by
  refine ⟨⟨_, Try.func56, by kernel_rfl, by kernel_rfl⟩, fun a => ⟨by simp [fs56, push_cast, noMine, argOwn, Chunk.frArg], by simp [fs56, push_cast, outOk, Chunk.ext], fun x => .inl (by simp [fs56, push_cast, frNew, frOut, Chunk.fr])⟩, fun a hp => ?_⟩
  obtain ⟨L, xs, M, ys⟩ := a
  obtain ⟨hp1, hp2⟩ : xs.length ≤ 140737488355328 ∧ ys.length ≤ 140737488355328 := hp
  change Tri Try.prog 56 [.sl 0 L 1 0 xs.length, .sl 1 M 1 0 ys.length] [some (.ro, L, .ints .i64 xs), some (.ro, M, .ints .i64 ys)] (postF fs56 ⟨L, xs, M, ys⟩)
  refine tri_evS (hyp (l := []) (lp := []) trivial trivial) Try.func56 comp56 (rs := [.tmp 4]) (by rfl) Try.ntmps56 10 ?_
  simp -implicitDefEqProofs only [push_cast, false_implies, reduceCtorEq, Classical.not_not, Nat.reduceAdd, Nat.reduceSub, Nat.reduceMul, Nat.reduceLeDiff, Nat.reduceLT, Nat.reduceEqDiff, Nat.reduceBEq, Nat.reduceBNe, Int.reduceNeg, Int.reduceToNat, Bool.or_false, Bool.false_or, Bool.or_true, Bool.true_or, BEq.rfl, Bool.not_eq_true, Bool.not_eq_false, decide_eq_true_eq, not_true_eq_false, not_false_eq_true, ite_true, ite_false, List.append_nil, and_assoc, Nat.mul_zero, Nat.zero_mul, ir56]
  refine ⟨fun hn => ?_, fun hy => ?_⟩
  · have e : ¬ xs = ys := fun H => by subst H; exact hn rfl
    refine postF.mk' (fun _ => default) [some 0, some 1] ?_
    simp -implicitDefEqProofs only [push_cast, false_implies, reduceCtorEq, Classical.not_not, Nat.reduceAdd, Nat.reduceSub, Nat.reduceMul, Nat.reduceLeDiff, Nat.reduceLT, Nat.reduceEqDiff, Nat.reduceBEq, Nat.reduceBNe, Int.reduceNeg, Int.reduceToNat, Bool.or_false, Bool.false_or, Bool.or_true, Bool.true_or, BEq.rfl, Bool.not_eq_true, Bool.not_eq_false, decide_eq_true_eq, not_true_eq_false, not_false_eq_true, ite_true, ite_false, List.append_nil, and_assoc, Nat.mul_zero, Nat.zero_mul, fs56, e, decide_false]
  have hl : xs.length = ys.length := by omega
  refine evS_loopU (A := Nat) kp56_1 kl56_1 (fun i => [(13, .int .i64 i)]) (fun _ => [])
    (fun i => i ≤ xs.length ∧ ∀ j, j < i → rd xs (j : Nat) = rd ys (j : Nat)) (fun i => xs.length - i) 0 ⟨by omega, by omega⟩ (Sub.pt ?_) ?_
  · simp -implicitDefEqProofs only [push_cast, false_implies, reduceCtorEq, Classical.not_not, Nat.reduceAdd, Nat.reduceSub, Nat.reduceMul, Nat.reduceLeDiff, Nat.reduceLT, Nat.reduceEqDiff, Nat.reduceBEq, Nat.reduceBNe, Int.reduceNeg, Int.reduceToNat, Bool.or_false, Bool.false_or, Bool.or_true, Bool.true_or, BEq.rfl, Bool.not_eq_true, Bool.not_eq_false, decide_eq_true_eq, not_true_eq_false, not_false_eq_true, ite_true, ite_false, List.append_nil, and_assoc, Nat.mul_zero, Nat.zero_mul]
  intro i ⟨h1, h2⟩ K hK
  simp -implicitDefEqProofs only [push_cast, false_implies, reduceCtorEq, Classical.not_not, Nat.reduceAdd, Nat.reduceSub, Nat.reduceMul, Nat.reduceLeDiff, Nat.reduceLT, Nat.reduceEqDiff, Nat.reduceBEq, Nat.reduceBNe, Int.reduceNeg, Int.reduceToNat, Bool.or_false, Bool.false_or, Bool.or_true, Bool.true_or, BEq.rfl, Bool.not_eq_true, Bool.not_eq_false, decide_eq_true_eq, not_true_eq_false, not_false_eq_true, ite_true, ite_false, List.append_nil, and_assoc, Nat.mul_zero, Nat.zero_mul, b56_1, r56_2]
  refine ⟨fun h => ?_, fun h => ?_⟩
  · repeat (refine And.intro (by first | omega | trivial | (intros; omega)) ?_)
    refine ⟨fun hb => ?_, fun hg => ⟨by omega, by omega, ?_⟩⟩
    · have e : ¬ xs = ys := fun H => by subst H; exact hb rfl
      refine postF.mk' (fun _ => default) [some 0, some 1] ?_
      simp -implicitDefEqProofs only [push_cast, false_implies, reduceCtorEq, Classical.not_not, Nat.reduceAdd, Nat.reduceSub, Nat.reduceMul, Nat.reduceLeDiff, Nat.reduceLT, Nat.reduceEqDiff, Nat.reduceBEq, Nat.reduceBNe, Int.reduceNeg, Int.reduceToNat, Bool.or_false, Bool.false_or, Bool.or_true, Bool.true_or, BEq.rfl, Bool.not_eq_true, Bool.not_eq_false, decide_eq_true_eq, not_true_eq_false, not_false_eq_true, ite_true, ite_false, List.append_nil, and_assoc, Nat.mul_zero, Nat.zero_mul, fs56, e, decide_false]
    · refine hK (i + 1) ⟨by omega, fun j hj => ?_⟩ (show xs.length - (i + 1) < xs.length - i by omega) _ _ (Sub.pt ?_)
      · by_cases e : j = i
        · subst e; exact hg
        · exact h2 j (by omega)
      · simp -implicitDefEqProofs only [push_cast, false_implies, reduceCtorEq, Classical.not_not, Nat.reduceAdd, Nat.reduceSub, Nat.reduceMul, Nat.reduceLeDiff, Nat.reduceLT, Nat.reduceEqDiff, Nat.reduceBEq, Nat.reduceBNe, Int.reduceNeg, Int.reduceToNat, Bool.or_false, Bool.false_or, Bool.or_true, Bool.true_or, BEq.rfl, Bool.not_eq_true, Bool.not_eq_false, decide_eq_true_eq, not_true_eq_false, not_false_eq_true, ite_true, ite_false, List.append_nil, and_assoc, Nat.mul_zero, Nat.zero_mul]
  · have e : xs = ys := eq_of_rd hl fun j hj => h2 j (by omega)
    refine postF.mk' (fun _ => default) [some 0, some 1] ?_
    simp -implicitDefEqProofs only [push_cast, false_implies, reduceCtorEq, Classical.not_not, Nat.reduceAdd, Nat.reduceSub, Nat.reduceMul, Nat.reduceLeDiff, Nat.reduceLT, Nat.reduceEqDiff, Nat.reduceBEq, Nat.reduceBNe, Int.reduceNeg, Int.reduceToNat, Bool.or_false, Bool.false_or, Bool.or_true, Bool.true_or, BEq.rfl, Bool.not_eq_true, Bool.not_eq_false, decide_eq_true_eq, not_true_eq_false, not_false_eq_true, ite_true, ite_false, List.append_nil, and_assoc, Nat.mul_zero, Nat.zero_mul, fs56, e, decide_true]
def ent56 : Entry := spOf fs56 inv56
theorem e56 : EntryOk Try.prog 56 ent56 := entry_of ok56 inv56
@[push_cast] theorem ent56_app (us : List SV) (look : Look) (x : Nat → Xf.Loc) (k : Nat) : ent56 us look x k = spOf fs56 inv56 us look x k := rfl

theorem ok29 : FSOk Try.prog 29 fs17 := by
  refine ⟨⟨_, Try.func29, by kernel_rfl, by kernel_rfl⟩, fun a => ⟨by simp [fs17, push_cast, noMine, argOwn, Chunk.frArg], by simp [fs17, push_cast, outOk, Chunk.ext], fun x => .inl (by simp [fs17, push_cast, frNew, frOut, Chunk.fr])⟩, fun a hp => ?_⟩
  obtain ⟨⟨⟨w, h, R, G, B⟩, L1, L2, L3⟩, ⟨⟨w', h', R', G', B'⟩, M1, M2, M3⟩⟩ := a
  obtain ⟨⟨s1, s2, s3⟩, s4, s5, s6⟩ := hp
  simp only at s1 s2 s3 s4 s5 s6
  change Tri Try.prog 29 [imV ⟨w, h, R, G, B⟩ L1 L2 L3 0, imV ⟨w', h', R', G', B'⟩ M1 M2 M3 3] [some (.ro, L1, .ints .i64 R), some (.ro, L2, .ints .i64 G), some (.ro, L3, .ints .i64 B), some (.ro, M1, .ints .i64 R'), some (.ro, M2, .ints .i64 G'), some (.ro, M3, .ints .i64 B')] (postF fs17 ⟨⟨⟨w, h, R, G, B⟩, L1, L2, L3⟩, ⟨⟨w', h', R', G', B'⟩, M1, M2, M3⟩⟩)
  refine tri_evS (hyp (l := [(56, ent56)]) (lp := []) ⟨e56, trivial⟩ trivial) Try.func29 comp29 (rs := [.tmp 4]) (by rfl) Try.ntmps29 24 ?_
  simp -implicitDefEqProofs only [push_cast, false_implies, reduceCtorEq, Classical.not_not, Nat.reduceAdd, Nat.reduceSub, Nat.reduceMul, Nat.reduceLeDiff, Nat.reduceLT, Nat.reduceEqDiff, Nat.reduceBEq, Nat.reduceBNe, Int.reduceNeg, Int.reduceToNat, Bool.or_false, Bool.false_or, Bool.or_true, Bool.true_or, BEq.rfl, Bool.not_eq_true, Bool.not_eq_false, decide_eq_true_eq, not_true_eq_false, not_false_eq_true, ite_true, ite_false, List.append_nil, and_assoc, Nat.mul_zero, Nat.zero_mul, ir29, fs56, s1, s2, s3, s4, s5, s6]
  refine fun X => ⟨fun H => ⟨H.1, H.2, H⟩, fun H => ⟨H.1, H.2.1, H.2.2, H⟩, fun H => ⟨H.1, H.2.1, H.2.2.1, H.2.2.2, H⟩, ?_⟩
  refine postF.mk' (fun _ => default) [some 0, some 1, some 2, some 3, some 4, some 5] ?_
  simp -implicitDefEqProofs only [push_cast, false_implies, reduceCtorEq, Classical.not_not, Nat.reduceAdd, Nat.reduceSub, Nat.reduceMul, Nat.reduceLeDiff, Nat.reduceLT, Nat.reduceEqDiff, Nat.reduceBEq, Nat.reduceBNe, Int.reduceNeg, Int.reduceToNat, Bool.or_false, Bool.false_or, Bool.or_true, Bool.true_or, BEq.rfl, Bool.not_eq_true, Bool.not_eq_false, decide_eq_true_eq, not_true_eq_false, not_false_eq_true, ite_true, ite_false, List.append_nil, and_assoc, Nat.mul_zero, Nat.zero_mul, fs17, Im.Eq]
def ent29 : Entry := spOf fs17 inv17
theorem e29 : EntryOk Try.prog 29 ent29 := entry_of ok29 inv17
@[push_cast] theorem ent29_app (us : List SV) (look : Look) (x : Nat → Xf.Loc) (k : Nat) : ent29 us look x k = spOf fs17 inv17 us look x k := rfl

theorem Pl.gr_iff {p : Pl} : p.Gr ↔ p.Ok ∧ AllIn 0 255 p.xs := by
  constructor
  · intro H; exact ⟨⟨H.1, H.2.1, fun n hn => by have := H.2.2 n hn; omega⟩, H.2.2⟩
  · intro H; exact ⟨H.1.1, H.1.2.1, H.2⟩
theorem ok55 : FSOk Try.prog 55 fs53 := by
  refine ⟨⟨_, Try.func55, by kernel_rfl, by kernel_rfl⟩, fun a => ⟨by simp [fs53, fs49, push_cast, noMine, argOwn, Chunk.frArg], by simp [fs53, fs49, push_cast, outOk, Chunk.ext], fun x => .inl (by simp [fs53, fs49, push_cast, frNew, frOut, Chunk.fr])⟩, fun a hp => ?_⟩
  obtain ⟨⟨w, h, xs⟩, L⟩ := a
  change xs.length ≤ 140737488355328 at hp
  change Tri Try.prog 55 [plV ⟨w, h, xs⟩ L 0] [some (.ro, L, .ints .i64 xs)] (postF fs53 ⟨⟨w, h, xs⟩, L⟩)
  refine tri_evS (hyp (l := [(51, ent51)]) (lp := []) ⟨e51, trivial⟩ trivial) Try.func55 comp55 (rs := [.tmp 2]) (by rfl) Try.ntmps55 15 ?_
  simp -implicitDefEqProofs only [push_cast, false_implies, reduceCtorEq, Classical.not_not, Nat.reduceAdd, Nat.reduceSub, Nat.reduceMul, Nat.reduceLeDiff, Nat.reduceLT, Nat.reduceEqDiff, Nat.reduceBEq, Nat.reduceBNe, Int.reduceNeg, Int.reduceToNat, Bool.or_false, Bool.false_or, Bool.or_true, Bool.true_or, BEq.rfl, Bool.not_eq_true, Bool.not_eq_false, decide_eq_true_eq, not_true_eq_false, not_false_eq_true, ite_true, ite_false, List.append_nil, and_assoc, Nat.mul_zero, Nat.zero_mul, ir55, fs49, hp]
  refine fun X => ⟨fun hn => ?_, fun hy => ?_⟩
  · have e : ¬ (⟨w, h, xs⟩ : Pl).Gr := fun H => hn (Pl.gr_iff.1 H).1
    refine postF.mk' (fun _ => default) [some 0] ?_
    simp -implicitDefEqProofs only [push_cast, false_implies, reduceCtorEq, Classical.not_not, Nat.reduceAdd, Nat.reduceSub, Nat.reduceMul, Nat.reduceLeDiff, Nat.reduceLT, Nat.reduceEqDiff, Nat.reduceBEq, Nat.reduceBNe, Int.reduceNeg, Int.reduceToNat, Bool.or_false, Bool.false_or, Bool.or_true, Bool.true_or, BEq.rfl, Bool.not_eq_true, Bool.not_eq_false, decide_eq_true_eq, not_true_eq_false, not_false_eq_true, ite_true, ite_false, List.append_nil, and_assoc, Nat.mul_zero, Nat.zero_mul, fs53, fs49, e, decide_false]
  refine evS_loopU (A := Nat) kp55_1 kl55_1 (fun i => [(3, .int .i64 i)]) (fun _ => [])
    (fun i => i ≤ xs.length ∧ ∀ j, j < i → 0 ≤ rd xs (j : Nat) ∧ rd xs (j : Nat) ≤ 255) (fun i => xs.length - i) 0 ⟨by omega, by omega⟩ (Sub.pt ?_) ?_
  · simp -implicitDefEqProofs only [push_cast, false_implies, reduceCtorEq, Classical.not_not, Nat.reduceAdd, Nat.reduceSub, Nat.reduceMul, Nat.reduceLeDiff, Nat.reduceLT, Nat.reduceEqDiff, Nat.reduceBEq, Nat.reduceBNe, Int.reduceNeg, Int.reduceToNat, Bool.or_false, Bool.false_or, Bool.or_true, Bool.true_or, BEq.rfl, Bool.not_eq_true, Bool.not_eq_false, decide_eq_true_eq, not_true_eq_false, not_false_eq_true, ite_true, ite_false, List.append_nil, and_assoc, Nat.mul_zero, Nat.zero_mul]
  intro i ⟨h1, h2⟩ K hK
  simp -implicitDefEqProofs only [push_cast, false_implies, reduceCtorEq, Classical.not_not, Nat.reduceAdd, Nat.reduceSub, Nat.reduceMul, Nat.reduceLeDiff, Nat.reduceLT, Nat.reduceEqDiff, Nat.reduceBEq, Nat.reduceBNe, Int.reduceNeg, Int.reduceToNat, Bool.or_false, Bool.false_or, Bool.or_true, Bool.true_or, BEq.rfl, Bool.not_eq_true, Bool.not_eq_false, decide_eq_true_eq, not_true_eq_false, not_false_eq_true, ite_true, ite_false, List.append_nil, and_assoc, Nat.mul_zero, Nat.zero_mul, b55_1, r55_2]
  refine ⟨fun hl => ?_, fun hl => ?_⟩
  · repeat (refine And.intro (by first | omega | trivial | (intros; omega)) ?_)
    refine ⟨fun hb => ?_, fun hg => ⟨by omega, by omega, ?_⟩⟩
    · have e : ¬ (⟨w, h, xs⟩ : Pl).Gr := fun H => by
        have := allIn_rd.1 H.2.2 i (show i < xs.length by omega)
        simp only at this
        omega
      refine postF.mk' (fun _ => default) [some 0] ?_
      simp -implicitDefEqProofs only [push_cast, false_implies, reduceCtorEq, Classical.not_not, Nat.reduceAdd, Nat.reduceSub, Nat.reduceMul, Nat.reduceLeDiff, Nat.reduceLT, Nat.reduceEqDiff, Nat.reduceBEq, Nat.reduceBNe, Int.reduceNeg, Int.reduceToNat, Bool.or_false, Bool.false_or, Bool.or_true, Bool.true_or, BEq.rfl, Bool.not_eq_true, Bool.not_eq_false, decide_eq_true_eq, not_true_eq_false, not_false_eq_true, ite_true, ite_false, List.append_nil, and_assoc, Nat.mul_zero, Nat.zero_mul, fs53, fs49, e, decide_false]
    · refine hK (i + 1) ⟨by omega, fun j hj => ?_⟩ (show xs.length - (i + 1) < xs.length - i by omega) _ _ (Sub.pt ?_)
      · by_cases e : j = i
        · subst e; omega
        · exact h2 j (by omega)
      · simp -implicitDefEqProofs only [push_cast, false_implies, reduceCtorEq, Classical.not_not, Nat.reduceAdd, Nat.reduceSub, Nat.reduceMul, Nat.reduceLeDiff, Nat.reduceLT, Nat.reduceEqDiff, Nat.reduceBEq, Nat.reduceBNe, Int.reduceNeg, Int.reduceToNat, Bool.or_false, Bool.false_or, Bool.or_true, Bool.true_or, BEq.rfl, Bool.not_eq_true, Bool.not_eq_false, decide_eq_true_eq, not_true_eq_false, not_false_eq_true, ite_true, ite_false, List.append_nil, and_assoc, Nat.mul_zero, Nat.zero_mul]
  · have e : (⟨w, h, xs⟩ : Pl).Gr := Pl.gr_iff.2 ⟨hy, allIn_rd.2 fun j (hj : j < xs.length) => h2 j (by omega)⟩
    refine postF.mk' (fun _ => default) [some 0] ?_
    simp -implicitDefEqProofs only [push_cast, false_implies, reduceCtorEq, Classical.not_not, Nat.reduceAdd, Nat.reduceSub, Nat.reduceMul, Nat.reduceLeDiff, Nat.reduceLT, Nat.reduceEqDiff, Nat.reduceBEq, Nat.reduceBNe, Int.reduceNeg, Int.reduceToNat, Bool.or_false, Bool.false_or, Bool.or_true, Bool.true_or, BEq.rfl, Bool.not_eq_true, Bool.not_eq_false, decide_eq_true_eq, not_true_eq_false, not_false_eq_true, ite_true, ite_false, List.append_nil, and_assoc, Nat.mul_zero, Nat.zero_mul, fs53, fs49, e, decide_true]
def ent55 : Entry := spOf fs53 inv49
theorem e55 : EntryOk Try.prog 55 ent55 := entry_of ok55 inv49
@[push_cast] theorem ent55_app (us : List SV) (look : Look) (x : Nat → Xf.Loc) (k : Nat) : ent55 us look x k = spOf fs53 inv49 us look x k := rfl

def greyI (p : Pl) : Im := if p.Gr then ⟨p.w, p.h, p.xs, p.xs, p.xs⟩ else im0
def fs27 : FS where
  A := PlA
  args := fun a => [plV a.p a.L 0]
  mem := fun a => [some (.ro, a.L, .ints .i64 a.p.xs)]
  pre := fun a => a.p.xs.length ≤ 140737488355328
  res := fun a x => .tup [imV (greyI a.p) (lx a.p.Gr x 0) (lx a.p.Gr x 1) (lx a.p.Gr x 2) 1, .int .i64 (if a.p.Gr then 0 else 70)]
  out := fun _ _ => []
  new := fun a x => imN (greyI a.p) (lx a.p.Gr x)
theorem ok27 : FSOk Try.prog 27 fs27 := by
  refine ⟨⟨_, Try.func27, by kernel_rfl, by kernel_rfl⟩, fun a => ⟨by simp [fs27, push_cast, noMine, argOwn, Chunk.frArg], by simp [fs27, push_cast, outOk, Chunk.ext], fun x => .inl (by simp [fs27, push_cast, frNew, frOut, Chunk.fr])⟩, fun a hp => ?_⟩
  obtain ⟨⟨w, h, xs⟩, L⟩ := a
  change xs.length ≤ 140737488355328 at hp
  change Tri Try.prog 27 [plV ⟨w, h, xs⟩ L 0] [some (.ro, L, .ints .i64 xs)] (postF fs27 ⟨⟨w, h, xs⟩, L⟩)
  refine tri_evS (hyp (l := [(53, ent53), (54, ent54)]) (lp := []) ⟨e53, e54, trivial⟩ trivial) Try.func27 comp27 (rs := [.cell 2 (some 5), .tmp 3]) (by rfl) Try.ntmps27 28 ?_
  simp -implicitDefEqProofs only [push_cast, false_implies, reduceCtorEq, Classical.not_not, Nat.reduceAdd, Nat.reduceSub, Nat.reduceMul, Nat.reduceLeDiff, Nat.reduceLT, Nat.reduceEqDiff, Nat.reduceBEq, Nat.reduceBNe, Int.reduceNeg, Int.reduceToNat, Bool.or_false, Bool.false_or, Bool.or_true, Bool.true_or, BEq.rfl, Bool.not_eq_true, Bool.not_eq_false, decide_eq_true_eq, not_true_eq_false, not_false_eq_true, ite_true, ite_false, List.append_nil, and_assoc, Nat.mul_zero, Nat.zero_mul, ir27, fs53, fs49, fs54]
  refine fun X => ⟨hp, fun hn => ?_, fun hy X1 => ?_⟩
  · refine postF.mk' (fun _ => default) [some 0, none, none, none] ?_
    simp -implicitDefEqProofs only [push_cast, false_implies, reduceCtorEq, Classical.not_not, Nat.reduceAdd, Nat.reduceSub, Nat.reduceMul, Nat.reduceLeDiff, Nat.reduceLT, Nat.reduceEqDiff, Nat.reduceBEq, Nat.reduceBNe, Int.reduceNeg, Int.reduceToNat, Bool.or_false, Bool.false_or, Bool.or_true, Bool.true_or, BEq.rfl, Bool.not_eq_true, Bool.not_eq_false, decide_eq_true_eq, not_true_eq_false, not_false_eq_true, ite_true, ite_false, List.append_nil, and_assoc, Nat.mul_zero, Nat.zero_mul, fs27, greyI, hn, if_false, lx, im0]
  · have hs : SidesOk w h := hy.1
    have hl : (xs.length : Int) = w * h := hy.2.1
    have hm := hs.bd
    repeat (refine And.intro (by first | omega | trivial | (intros; omega)) ?_)
    refine postF.mk' (locs [X1 6 16, X1 9 20, X1 12 24]) [some 0, some 16, some 20, some 24] ?_
    simp -implicitDefEqProofs only [push_cast, false_implies, reduceCtorEq, Classical.not_not, Nat.reduceAdd, Nat.reduceSub, Nat.reduceMul, Nat.reduceLeDiff, Nat.reduceLT, Nat.reduceEqDiff, Nat.reduceBEq, Nat.reduceBNe, Int.reduceNeg, Int.reduceToNat, Bool.or_false, Bool.false_or, Bool.or_true, Bool.true_or, BEq.rfl, Bool.not_eq_true, Bool.not_eq_false, decide_eq_true_eq, not_true_eq_false, not_false_eq_true, ite_true, ite_false, List.append_nil, and_assoc, Nat.mul_zero, Nat.zero_mul, fs27, greyI, hy, if_true, lx]
def ent27 : Entry := spOf fs27 inv49
theorem e27 : EntryOk Try.prog 27 ent27 := entry_of ok27 inv49
@[push_cast] theorem ent27_app (us : List SV) (look : Look) (x : Nat → Xf.Loc) (k : Nat) : ent27 us look x k = spOf fs27 inv49 us look x k := rfl
theorem ok28 : FSOk Try.prog 28 fs27 := by
  refine ⟨⟨_, Try.func28, by kernel_rfl, by kernel_rfl⟩, fun a => ⟨by simp [fs27, push_cast, noMine, argOwn, Chunk.frArg], by simp [fs27, push_cast, outOk, Chunk.ext], fun x => .inl (by simp [fs27, push_cast, frNew, frOut, Chunk.fr])⟩, fun a hp => ?_⟩
  obtain ⟨⟨w, h, xs⟩, L⟩ := a
  change xs.length ≤ 140737488355328 at hp
  change Tri Try.prog 28 [plV ⟨w, h, xs⟩ L 0] [some (.ro, L, .ints .i64 xs)] (postF fs27 ⟨⟨w, h, xs⟩, L⟩)
  refine tri_evS (hyp (l := [(55, ent55)]) (lp := []) ⟨e55, trivial⟩ trivial) Try.func28 comp28 (rs := [.cell 2 (some 5), .tmp 3]) (by rfl) Try.ntmps28 22 ?_
  simp -implicitDefEqProofs only [push_cast, false_implies, reduceCtorEq, Classical.not_not, Nat.reduceAdd, Nat.reduceSub, Nat.reduceMul, Nat.reduceLeDiff, Nat.reduceLT, Nat.reduceEqDiff, Nat.reduceBEq, Nat.reduceBNe, Int.reduceNeg, Int.reduceToNat, Bool.or_false, Bool.false_or, Bool.or_true, Bool.true_or, BEq.rfl, Bool.not_eq_true, Bool.not_eq_false, decide_eq_true_eq, not_true_eq_false, not_false_eq_true, ite_true, ite_false, List.append_nil, and_assoc, Nat.mul_zero, Nat.zero_mul, ir28, fs53, fs49]
  refine fun X => ⟨hp, fun hn => ?_, fun hy X1 => ?_⟩
  · refine postF.mk' (fun _ => default) [some 0, none, none, none] ?_
    simp -implicitDefEqProofs only [push_cast, false_implies, reduceCtorEq, Classical.not_not, Nat.reduceAdd, Nat.reduceSub, Nat.reduceMul, Nat.reduceLeDiff, Nat.reduceLT, Nat.reduceEqDiff, Nat.reduceBEq, Nat.reduceBNe, Int.reduceNeg, Int.reduceToNat, Bool.or_false, Bool.false_or, Bool.or_true, Bool.true_or, BEq.rfl, Bool.not_eq_true, Bool.not_eq_false, decide_eq_true_eq, not_true_eq_false, not_false_eq_true, ite_true, ite_false, List.append_nil, and_assoc, Nat.mul_zero, Nat.zero_mul, fs27, greyI, hn, if_false, lx, im0]
  · have hs : SidesOk w h := hy.1
    have hl : (xs.length : Int) = w * h := hy.2.1
    have hm := hs.bd
    repeat (refine And.intro (by first | omega | trivial | (intros; omega)) ?_)
    refine postF.mk' (locs [X1 7 17, X1 11 19, X1 15 21]) [some 0, some 17, some 19, some 21] ?_
    simp -implicitDefEqProofs only [push_cast, false_implies, reduceCtorEq, Classical.not_not, Nat.reduceAdd, Nat.reduceSub, Nat.reduceMul, Nat.reduceLeDiff, Nat.reduceLT, Nat.reduceEqDiff, Nat.reduceBEq, Nat.reduceBNe, Int.reduceNeg, Int.reduceToNat, Bool.or_false, Bool.false_or, Bool.or_true, Bool.true_or, BEq.rfl, Bool.not_eq_true, Bool.not_eq_false, decide_eq_true_eq, not_true_eq_false, not_false_eq_true, ite_true, ite_false, List.append_nil, and_assoc, Nat.mul_zero, Nat.zero_mul, fs27, greyI, hy, if_true, lx]
def ent28 : Entry := spOf fs27 inv49
theorem e28 : EntryOk Try.prog 28 ent28 := entry_of ok28 inv49
@[push_cast] theorem ent28_app (us : List SV) (look : Look) (x : Nat → Xf.Loc) (k : Nat) : ent28 us look x k = spOf fs27 inv49 us look x k := rfl
end Go.Proofs.Ytnmbimhcfioeiaa
