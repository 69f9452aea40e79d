import Derived.Test.YtefggfjblhniaaaYa
set_option linter.unusedVariables false
set_option linter.unusedSimpArgs false
/-! Wave: lift, near, a line. -/
namespace Go.Proofs.Ytefggfjblhniaaa
open Xf
set_option maxRecDepth 4000
/- incunable/wave.lift : slots 46, labels 10..9 -/
def ir66 : IR :=
  .seq (.reg false [⟨some 6, none, ⟨[], []⟩, .mov (.k (.int .i64 0))⟩] [6] []) (.seq (.block 0 (.seq (.reg false [⟨some 8, none, ⟨[], []⟩, .mov (.t 1)⟩,
    ⟨some 9, none, ⟨[], []⟩, .len (.t 8)⟩,
    ⟨some 10, none, ⟨[], []⟩, .bin 0 .eql (.t 9) (.k (.int .i64 0))⟩,
    ⟨some 11, none, ⟨[], []⟩, .mov (.t 10)⟩,
    ⟨some 12, some (11, false), ⟨[], []⟩, .mov (.t 0)⟩,
    ⟨some 13, some (11, false), ⟨[], []⟩, .bin 0 .eql (.t 12) (.k (.int .i64 1))⟩,
    ⟨some 14, some (11, false), ⟨[], []⟩, .mov (.t 13)⟩,
    ⟨some 15, some (14, true), ⟨[], []⟩, .mov (.t 2)⟩,
    ⟨some 16, some (14, true), ⟨[], []⟩, .mov (.t 1)⟩,
    ⟨some 17, some (14, true), ⟨[], []⟩, .len (.t 16)⟩,
    ⟨some 18, some (14, true), ⟨[], []⟩, .bin 0 .geq (.t 15) (.t 17)⟩,
    ⟨some 19, some (11, false), ⟨[], []⟩, .pick (.t 14) (.t 18) (.k (.bool false))⟩,
    ⟨some 20, none, ⟨[], []⟩, .pick (.t 11) (.k (.bool true)) (.t 19)⟩,
    ⟨some 7, none, ⟨[], []⟩, .mov (.t 20)⟩] [8, 9, 10, 11, 12, 13, 14, 15, 16, 17, 18, 19, 20] []) (.cond (.t 7) (.seq (.reg false [⟨some 6, none, ⟨[], []⟩, .mov (.k (.int .i64 0))⟩] [0, 1, 2, 7] []) (.ret)) (.seq (.reg false [⟨some 22, none, ⟨[], []⟩, .mov (.t 0)⟩,
    ⟨some 23, none, ⟨[], []⟩, .bin 0 .eql (.t 22) (.k (.int .i64 1))⟩,
    ⟨some 21, none, ⟨[], []⟩, .mov (.t 23)⟩] [0, 7, 22, 23] []) (.cond (.t 21) (.seq (.reg false [⟨some 24, none, ⟨[], []⟩, .mov (.t 1)⟩,
    ⟨some 25, none, ⟨[], []⟩, .mov (.t 2)⟩,
    ⟨some 26, none, ⟨[], []⟩, .idxS (.t 24) (.t 25) 1⟩,
    ⟨some 27, none, ⟨[], []⟩, .ld true none 0 0 (.t 26)⟩,
    ⟨some 28, none, ⟨[], []⟩, .bin 0 .shr (.t 27) (.k (.int .u64 1))⟩,
    ⟨some 6, none, ⟨[], []⟩, .mov (.t 28)⟩] [1, 2, 21, 24, 25, 26, 27, 28] []) (.ret)) (.skip)))))) (.seq (.reg true [⟨some 29, none, ⟨[], []⟩, .mov (.t 1)⟩,
    ⟨some 30, none, ⟨[], []⟩, .mov (.t 2)⟩,
    ⟨some 31, none, ⟨[], []⟩, .bin 0 .sub (.t 30) (.k (.int .i64 1))⟩,
    ⟨some 32, none, ⟨[], []⟩, .mx (.t 31) (.k (.int .i64 0))⟩,
    ⟨some 33, none, ⟨[], []⟩, .idxS (.t 29) (.t 32) 1⟩,
    ⟨some 34, none, ⟨[], []⟩, .ld true none 0 0 (.t 33)⟩,
    ⟨some 35, none, ⟨[], []⟩, .mov (.t 1)⟩,
    ⟨some 36, none, ⟨[], []⟩, .mov (.t 2)⟩,
    ⟨some 37, none, ⟨[], []⟩, .mov (.t 1)⟩,
    ⟨some 38, none, ⟨[], []⟩, .len (.t 37)⟩,
    ⟨some 39, none, ⟨[], []⟩, .bin 0 .sub (.t 38) (.k (.int .i64 1))⟩,
    ⟨some 40, none, ⟨[], []⟩, .mn (.t 36) (.t 39)⟩,
    ⟨some 41, none, ⟨[], []⟩, .idxS (.t 35) (.t 40) 1⟩,
    ⟨some 42, none, ⟨[], []⟩, .ld true none 0 0 (.t 41)⟩,
    ⟨some 43, none, ⟨[], []⟩, .bin 0 .add (.t 34) (.t 42)⟩,
    ⟨some 44, none, ⟨[], []⟩, .bin 0 .add (.t 43) (.k (.int .i64 2))⟩,
    ⟨some 45, none, ⟨[], []⟩, .bin 0 .shr (.t 44) (.k (.int .u64 2))⟩,
    ⟨some 6, none, ⟨[], []⟩, .mov (.t 45)⟩] [1, 2, 21, 29, 30, 31, 32, 33, 34, 35, 36, 37, 38, 39, 40, 41, 42, 43, 44, 45] []) (.ret)))
theorem comp66 : (Try.f66.body.bind fun c => compC tab isP chkAll ir66 c) = some ir66 := by kernel_rfl
/- incunable/incunableref18.near : slots 14, labels 10..9 -/
def ir41 : IR :=
  .seq (.reg false [⟨some 4, none, ⟨[], []⟩, .mov (.k (.int .i64 0))⟩] [4] []) (.seq (.reg false [⟨some 5, none, ⟨[], []⟩, .mov (.t 0)⟩,
    ⟨some 6, none, ⟨[], []⟩, .mov (.t 1)⟩,
    ⟨some 7, none, ⟨[], []⟩, .mx (.t 6) (.k (.int .i64 0))⟩,
    ⟨some 8, none, ⟨[], []⟩, .mov (.t 0)⟩,
    ⟨some 9, none, ⟨[], []⟩, .len (.t 8)⟩,
    ⟨some 10, none, ⟨[], []⟩, .bin 0 .sub (.t 9) (.k (.int .i64 1))⟩,
    ⟨some 11, none, ⟨[], []⟩, .mn (.t 7) (.t 10)⟩,
    ⟨some 12, none, ⟨[], []⟩, .idxS (.t 5) (.t 11) 1⟩,
    ⟨some 13, none, ⟨[], []⟩, .ld true none 0 0 (.t 12)⟩,
    ⟨some 4, none, ⟨[], []⟩, .mov (.t 13)⟩] [0, 1, 5, 6, 7, 8, 9, 10, 11, 12, 13] []) (.ret))
theorem comp41 : (Try.f41.body.bind fun c => compC tab isP chkAll ir41 c) = some ir41 := by kernel_rfl
/- incunable/wave.line : slots 101, labels 10..18; loop b38_1 keeps [0, 1, 5, 6, 7, 20, 21]; loop b38_2 keeps [0, 1, 7, 10, 80, 81] -/
def b38_1 : IR :=
  .seq (.reg false [⟨some 22, none, ⟨[], []⟩, .bin 0 .lss (.t 21) (.t 20)⟩] [] []) (.seq (.cond (.t 22) (.skip) (.exit 0)) (.seq (.block 1 (.seq (.reg false [⟨some 23, none, ⟨[], []⟩, .mov (.t 21)⟩,
    ⟨some 8, none, ⟨[], []⟩, .mov (.t 23)⟩] [22, 23] []) (.seq (.reg true [⟨some 24, none, ⟨[], []⟩, .mov (.t 7)⟩,
    ⟨some 25, none, ⟨[], []⟩, .mov (.t 8)⟩,
    ⟨some 26, none, ⟨[], []⟩, .mov (.t 1)⟩,
    ⟨some 27, none, ⟨[], []⟩, .mov (.t 8)⟩,
    ⟨some 28, none, ⟨[], []⟩, .bin 0 .mul (.k (.int .i64 2)) (.t 27)⟩,
    ⟨some 29, none, ⟨[], []⟩, .bin 0 .add (.t 28) (.k (.int .i64 1))⟩,
    ⟨some 30, none, ⟨[], []⟩, .idxS (.t 26) (.t 29) 1⟩,
    ⟨some 31, none, ⟨[], []⟩, .ld true none 0 0 (.t 30)⟩,
    ⟨some 32, none, ⟨[], []⟩, .mov (.t 1)⟩,
    ⟨some 33, none, ⟨[], []⟩, .mov (.t 8)⟩,
    ⟨some 34, none, ⟨[], []⟩, .bin 0 .mul (.k (.int .i64 2)) (.t 33)⟩,
    ⟨some 35, none, ⟨[], []⟩, .idxS (.t 32) (.t 34) 1⟩,
    ⟨some 36, none, ⟨[], []⟩, .ld true none 0 0 (.t 35)⟩,
    ⟨some 37, none, ⟨[], []⟩, .bin 0 .sub (.t 31) (.t 36)⟩,
    ⟨some 38, none, ⟨[], []⟩, .idxS (.t 24) (.t 25) 1⟩,
    ⟨none, none, ⟨[], []⟩, .sto true 1 .i64 (.t 38) (.t 37)⟩] [24, 25, 26, 27, 28, 29, 30, 31, 32, 33, 34, 35, 36, 37, 38] []) (.seq (.reg false [⟨some 39, none, ⟨[], []⟩, .mov (.t 0)⟩,
    ⟨some 40, none, ⟨[], []⟩, .bin 0 .eql (.t 39) (.k (.int .i64 0))⟩] [39] []) (.cond (.t 40) (.seq (.reg false [⟨some 41, none, ⟨[], []⟩, .mov (.t 1)⟩,
    ⟨some 42, none, ⟨[], []⟩, .mov (.t 8)⟩,
    ⟨some 43, none, ⟨[], []⟩, .bin 0 .mul (.k (.int .i64 2)) (.t 42)⟩,
    ⟨some 44, none, ⟨[], []⟩, .idxS (.t 41) (.t 43) 1⟩,
    ⟨some 45, none, ⟨[], []⟩, .ld true none 0 0 (.t 44)⟩,
    ⟨some 9, none, ⟨[], []⟩, .mov (.t 45)⟩] [40, 41, 42, 43, 44, 45] []) (.seq (.seq (.reg false [⟨some 46, none, ⟨[], []⟩, .mov (.t 8)⟩,
    ⟨some 47, none, ⟨[], []⟩, .bin 0 .mul (.k (.int .i64 2)) (.t 46)⟩,
    ⟨some 48, none, ⟨[], []⟩, .bin 0 .add (.t 47) (.k (.int .i64 2))⟩,
    ⟨some 49, none, ⟨[], []⟩, .mov (.t 5)⟩,
    ⟨some 50, none, ⟨[], []⟩, .bin 0 .lss (.t 48) (.t 49)⟩] [46, 47, 48, 49] []) (.cond (.t 50) (.reg false [⟨some 51, none, ⟨[], []⟩, .mov (.t 1)⟩,
    ⟨some 52, none, ⟨[], []⟩, .mov (.t 8)⟩,
    ⟨some 53, none, ⟨[], []⟩, .bin 0 .mul (.k (.int .i64 2)) (.t 52)⟩,
    ⟨some 54, none, ⟨[], []⟩, .bin 0 .add (.t 53) (.k (.int .i64 2))⟩,
    ⟨some 55, none, ⟨[], []⟩, .idxS (.t 51) (.t 54) 1⟩,
    ⟨some 56, none, ⟨[], []⟩, .ld true none 0 0 (.t 55)⟩,
    ⟨some 9, none, ⟨[], []⟩, .mov (.t 56)⟩] [50, 51, 52, 53, 54, 55, 56] []) (.skip))) (.reg true [⟨some 57, none, ⟨[], []⟩, .mov (.t 7)⟩,
    ⟨some 58, none, ⟨[], []⟩, .mov (.t 8)⟩,
    ⟨some 59, none, ⟨[], []⟩, .mov (.t 1)⟩,
    ⟨some 60, none, ⟨[], []⟩, .mov (.t 8)⟩,
    ⟨some 61, none, ⟨[], []⟩, .bin 0 .mul (.k (.int .i64 2)) (.t 60)⟩,
    ⟨some 62, none, ⟨[], []⟩, .bin 0 .add (.t 61) (.k (.int .i64 1))⟩,
    ⟨some 63, none, ⟨[], []⟩, .idxS (.t 59) (.t 62) 1⟩,
    ⟨some 64, none, ⟨[], []⟩, .ld true none 0 0 (.t 63)⟩,
    ⟨some 65, none, ⟨[], []⟩, .mov (.t 1)⟩,
    ⟨some 66, none, ⟨[], []⟩, .mov (.t 8)⟩,
    ⟨some 67, none, ⟨[], []⟩, .bin 0 .mul (.k (.int .i64 2)) (.t 66)⟩,
    ⟨some 68, none, ⟨[], []⟩, .idxS (.t 65) (.t 67) 1⟩,
    ⟨some 69, none, ⟨[], []⟩, .ld true none 0 0 (.t 68)⟩,
    ⟨some 70, none, ⟨[], []⟩, .mov (.t 9)⟩,
    ⟨some 71, none, ⟨[], []⟩, .bin 0 .add (.t 69) (.t 70)⟩,
    ⟨some 72, none, ⟨[], []⟩, .bin 0 .shr (.t 71) (.k (.int .u64 1))⟩,
    ⟨some 73, none, ⟨[], []⟩, .bin 0 .sub (.t 64) (.t 72)⟩,
    ⟨some 74, none, ⟨[], []⟩, .idxS (.t 57) (.t 58) 1⟩,
    ⟨none, none, ⟨[], []⟩, .sto true 1 .i64 (.t 74) (.t 73)⟩] [8, 9, 50, 57, 58, 59, 60, 61, 62, 63, 64, 65, 66, 67, 68, 69, 70, 71, 72, 73, 74] []))) (.skip)))))) (.reg false [⟨some 75, none, ⟨[], []⟩, .bin 0 .add (.t 21) (.k (.int .i64 1))⟩,
    ⟨some 21, none, ⟨[], []⟩, .mov (.t 75)⟩] [8, 40, 75] [])))
def b38_2 : IR :=
  .seq (.reg false [⟨some 82, none, ⟨[], []⟩, .bin 0 .lss (.t 81) (.t 80)⟩] [] []) (.seq (.cond (.t 82) (.skip) (.exit 2)) (.seq (.block 3 (.seq (.reg false [⟨some 83, none, ⟨[], []⟩, .mov (.t 81)⟩,
    ⟨some 11, none, ⟨[], []⟩, .mov (.t 83)⟩] [82, 83] []) (.reg true [⟨some 84, none, ⟨[], []⟩, .mov (.t 10)⟩,
    ⟨some 85, none, ⟨[], []⟩, .mov (.t 1)⟩,
    ⟨some 86, none, ⟨[], []⟩, .mov (.t 11)⟩,
    ⟨some 87, none, ⟨[], []⟩, .bin 0 .mul (.k (.int .i64 2)) (.t 86)⟩,
    ⟨some 88, none, ⟨[], []⟩, .idxS (.t 85) (.t 87) 1⟩,
    ⟨some 89, none, ⟨[12, 13, 14, 15], []⟩, .ld true none 0 0 (.t 88)⟩,
    ⟨some 90, none, ⟨[], []⟩, .mov (.t 0)⟩,
    ⟨some 91, none, ⟨[], []⟩, .mov (.t 7)⟩,
    ⟨some 92, none, ⟨[], []⟩, .mov (.t 11)⟩,
    ⟨some 93, none, ⟨[], []⟩, .call (some 4) 12 66 [.t 90, .t 91, .t 92]⟩,
    ⟨some 94, none, ⟨[], []⟩, .bin 0 .add (.t 89) (.t 93)⟩,
    ⟨some 95, none, ⟨[], []⟩, .bslice 16 [.t 94]⟩,
    ⟨some 96, none, ⟨[], []⟩, .app 17 1 8 (.t 84) (.t 95)⟩,
    ⟨some 10, none, ⟨[], []⟩, .mov (.t 96)⟩] [11, 84, 85, 86, 87, 88, 89, 90, 91, 92, 93, 94, 95, 96] []))) (.reg false [⟨some 97, none, ⟨[], []⟩, .bin 0 .add (.t 81) (.k (.int .i64 1))⟩,
    ⟨some 81, none, ⟨[], []⟩, .mov (.t 97)⟩] [97] [])))
def r38_3 : IR :=
  .seq (.reg false [⟨some 98, none, ⟨[], []⟩, .mov (.t 10)⟩,
    ⟨some 99, none, ⟨[], []⟩, .mov (.t 7)⟩,
    ⟨some 100, none, ⟨[], []⟩, .app 18 1 8 (.t 98) (.t 99)⟩,
    ⟨some 4, none, ⟨[], []⟩, .mov (.t 100)⟩] [0, 1, 7, 10, 80, 81, 98, 99, 100] []) (.ret)
def r38_4 : IR :=
  .seq (.reg false [⟨some 76, none, ⟨[], []⟩, .mov (.t 5)⟩,
    ⟨some 77, none, ⟨[], []⟩, .mks 11 (.int .i64 0) 8 (.k (.int .i64 0)) (.t 76)⟩,
    ⟨some 10, none, ⟨[], []⟩, .mov (.t 77)⟩] [20, 21, 76, 77] []) (.seq (.seq (.reg false [⟨some 78, none, ⟨[], []⟩, .mov (.t 5)⟩,
    ⟨some 79, none, ⟨[], []⟩, .mov (.t 6)⟩,
    ⟨some 80, none, ⟨[], []⟩, .bin 0 .sub (.t 78) (.t 79)⟩,
    ⟨some 81, none, ⟨[], []⟩, .mov (.k (.int .i64 0))⟩] [5, 6, 78, 79] []) (.block 2 (.loop b38_2))) (r38_3))
def ir38 : IR :=
  .seq (.reg false [⟨some 4, none, ⟨[], []⟩, .mov (.k nilSV)⟩] [4] []) (.seq (.reg false [⟨some 12, none, ⟨[], []⟩, .mov (.t 1)⟩,
    ⟨some 13, none, ⟨[], []⟩, .len (.t 12)⟩,
    ⟨some 14, none, ⟨[], []⟩, .mov (.t 1)⟩,
    ⟨some 15, none, ⟨[], []⟩, .len (.t 14)⟩,
    ⟨some 16, none, ⟨[], []⟩, .bin 0 .quo (.t 15) (.k (.int .i64 2))⟩,
    ⟨some 5, none, ⟨[], []⟩, .mov (.t 13)⟩,
    ⟨some 6, none, ⟨[], []⟩, .mov (.t 16)⟩] [12, 13, 14, 15, 16] []) (.seq (.reg false [⟨some 17, none, ⟨[], []⟩, .mov (.t 6)⟩,
    ⟨some 18, none, ⟨[], []⟩, .mks 10 (.int .i64 0) 8 (.t 17) (.t 17)⟩,
    ⟨some 7, none, ⟨[], []⟩, .mov (.t 18)⟩] [17, 18] []) (.seq (.seq (.reg false [⟨some 19, none, ⟨[], []⟩, .mov (.t 7)⟩,
    ⟨some 20, none, ⟨[], []⟩, .len (.t 19)⟩,
    ⟨some 21, none, ⟨[], []⟩, .mov (.k (.int .i64 0))⟩] [19] []) (.block 0 (.loop b38_1))) (r38_4))))
def kp38_1 : List Nat := [0, 1, 5, 6, 7, 20, 21]
def kl38_1 : List Nat := []
attribute [push_cast] kp38_1 kl38_1
def kp38_2 : List Nat := [0, 1, 7, 10, 80, 81]
def kl38_2 : List Nat := [12, 13, 14, 15, 16, 17]
attribute [push_cast] kp38_2 kl38_2
theorem comp38 : (Try.f38.body.bind fun c => compC tab isP chkAll ir38 c) = some ir38 := by kernel_rfl
set_option maxRecDepth 512

def liftG (kind : Int) (g : Int → Int) (n i : Int) : Int :=
  if n = 0 ∨ kind = 1 ∧ n ≤ i then 0 else if kind = 1 then g i / 2 else (g (max (i - 1) 0) + g (min i (n - 1)) + 2) / 4
structure LiftA where
  kind : Int
  L : Xf.Loc
  xs : List Int
  lo : Int
  n : Int
  i : Int
def fs66 : FS where
  A := LiftA
  args := fun a => [.int .i64 a.kind, .sl 0 a.L 1 a.lo a.n, .int .i64 a.i]
  mem := fun a => [some (.ro, a.L, .ints .i64 a.xs)]
  pre := fun a => a.xs.length ≤ 140737488355328 ∧ 0 ≤ a.lo ∧ 0 ≤ a.n ∧ a.lo + a.n ≤ a.xs.length ∧ 0 ≤ a.i ∧ a.i ≤ a.n ∧ AllIn (-1099511627776) 1099511627776 a.xs
  res := fun a _ => .int .i64 (liftG a.kind (fun j => rd a.xs (a.lo + j)) a.n a.i)
  out := fun _ _ => []
  new := fun _ _ => []
def inv66 : List SV → Look → Option (LiftA × List Nat)
  | [.int .i64 k, .sl c _ 1 lo n, .int .i64 i], look => match rowI (lkZ look (.ints .i64 []) c) with
    | some (L, .i64, xs) => some (⟨k, L, xs, lo, n, i⟩, [c])
    | _ => none
  | _, _ => none
attribute [push_cast] inv66
theorem ok66 : FSOk Try.prog 66 fs66 := by
  refine ⟨⟨_, Try.func66, by kernel_rfl, by kernel_rfl⟩, fun a => ⟨by simp [fs66, push_cast, noMine, argOwn, Chunk.frArg], by simp [fs66, push_cast, outOk, Chunk.ext], fun x => .inl (by simp [fs66, push_cast, frNew, frOut, Chunk.fr])⟩, fun a hp => ?_⟩
  obtain ⟨kind, L, xs, lo, n, i⟩ := a
  obtain ⟨h1, h2, h3, h4, h5, h6, h7⟩ : xs.length ≤ 140737488355328 ∧ 0 ≤ lo ∧ 0 ≤ n ∧ lo + n ≤ xs.length ∧ 0 ≤ i ∧ i ≤ n ∧ AllIn (-1099511627776) 1099511627776 xs := hp
  change Tri Try.prog 66 [.int .i64 kind, .sl 0 L 1 lo n, .int .i64 i] [some (.ro, L, .ints .i64 xs)] (postF fs66 ⟨kind, L, xs, lo, n, i⟩)
  have b1 := rd_bd h7 (by omega) (by omega) (lo + i)
  have b2 := rd_bd h7 (by omega) (by omega) (lo + max (i - 1) 0)
  have b3 := rd_bd h7 (by omega) (by omega) (lo + min i (n - 1))
  refine tri_evS (hyp (l := []) (lp := []) trivial trivial) Try.func66 comp66 (rs := [.tmp 6]) (by rfl) Try.ntmps66 10 ?_
  simp -implicitDefEqProofs only [push_cast, false_implies, reduceCtorEq, Classical.not_not, Nat.reduceAdd, Nat.reduceSub, Nat.reduceMul, Nat.reduceLeDiff, Nat.reduceLT, Nat.reduceEqDiff, Nat.reduceBEq, Nat.reduceBNe, Int.reduceNeg, Int.reduceToNat, Bool.or_false, Bool.false_or, Bool.or_true, Bool.true_or, BEq.rfl, Bool.not_eq_true, Bool.not_eq_false, decide_eq_true_eq, not_true_eq_false, not_false_eq_true, ite_true, ite_false, List.append_nil, and_assoc, Nat.mul_zero, Nat.zero_mul, ir66]
  have e1 : (2 : Int) ^ 1 = 2 := rfl
  have e2 : (2 : Int) ^ 2 = 4 := rfl
  refine ⟨fun H => ⟨H.1, H.2, H⟩, fun H => ⟨H, fun q => ⟨H, q⟩⟩, fun h => ?_, fun h => ⟨fun hk => ?_, fun hk => ?_⟩⟩
  · refine postF.mk' (fun _ => default) [some 0] ?_
    simp -implicitDefEqProofs only [push_cast, false_implies, reduceCtorEq, Classical.not_not, Nat.reduceAdd, Nat.reduceSub, Nat.reduceMul, Nat.reduceLeDiff, Nat.reduceLT, Nat.reduceEqDiff, Nat.reduceBEq, Nat.reduceBNe, Int.reduceNeg, Int.reduceToNat, Bool.or_false, Bool.false_or, Bool.or_true, Bool.true_or, BEq.rfl, Bool.not_eq_true, Bool.not_eq_false, decide_eq_true_eq, not_true_eq_false, not_false_eq_true, ite_true, ite_false, List.append_nil, and_assoc, Nat.mul_zero, Nat.zero_mul, fs66, liftG, h, if_true]
  · repeat (refine And.intro (by first | omega | trivial | (intros; omega)) ?_)
    refine postF.mk' (fun _ => default) [some 0] ?_
    simp -implicitDefEqProofs only [push_cast, false_implies, reduceCtorEq, Classical.not_not, Nat.reduceAdd, Nat.reduceSub, Nat.reduceMul, Nat.reduceLeDiff, Nat.reduceLT, Nat.reduceEqDiff, Nat.reduceBEq, Nat.reduceBNe, Int.reduceNeg, Int.reduceToNat, Bool.or_false, Bool.false_or, Bool.or_true, Bool.true_or, BEq.rfl, Bool.not_eq_true, Bool.not_eq_false, decide_eq_true_eq, not_true_eq_false, not_false_eq_true, ite_true, ite_false, List.append_nil, and_assoc, Nat.mul_zero, Nat.zero_mul, fs66, liftG, h, if_false, hk, if_true, e1]
    rw [if_neg (by omega)]
  · repeat (refine And.intro (by first | omega | trivial | (intros; omega)) ?_)
    refine postF.mk' (fun _ => default) [some 0] ?_
    simp -implicitDefEqProofs only [push_cast, false_implies, reduceCtorEq, Classical.not_not, Nat.reduceAdd, Nat.reduceSub, Nat.reduceMul, Nat.reduceLeDiff, Nat.reduceLT, Nat.reduceEqDiff, Nat.reduceBEq, Nat.reduceBNe, Int.reduceNeg, Int.reduceToNat, Bool.or_false, Bool.false_or, Bool.or_true, Bool.true_or, BEq.rfl, Bool.not_eq_true, Bool.not_eq_false, decide_eq_true_eq, not_true_eq_false, not_false_eq_true, ite_true, ite_false, List.append_nil, and_assoc, Nat.mul_zero, Nat.zero_mul, fs66, e2]
    unfold liftG
    rw [if_neg h, if_neg hk]
def ent66 : Entry := spOf fs66 inv66
theorem e66 : EntryOk Try.prog 66 ent66 := entry_of ok66 inv66
@[push_cast] theorem ent66_app (us : List SV) (look : Look) (x : Nat → Xf.Loc) (k : Nat) : ent66 us look x k = spOf fs66 inv66 us look x k := rfl
structure NearA where
  L : Xf.Loc
  xs : List Int
  lo : Int
  n : Int
  i : Int
def nearV (xs : List Int) (lo n i : Int) : Int := rd xs (lo + min (max i 0) (n - 1))
def fs41 : FS where
  A := NearA
  args := fun a => [.sl 0 a.L 1 a.lo a.n, .int .i64 a.i]
  mem := fun a => [some (.ro, a.L, .ints .i64 a.xs)]
  pre := fun a => a.xs.length ≤ 140737488355328 ∧ 0 ≤ a.lo ∧ 0 < a.n ∧ a.lo + a.n ≤ a.xs.length
  res := fun a _ => .int .i64 (nearV a.xs a.lo a.n a.i)
  out := fun _ _ => []
  new := fun _ _ => []
def inv41 : List SV → Look → Option (NearA × List Nat)
  | [.sl c _ 1 lo n, .int .i64 i], look => match rowI (lkZ look (.ints .i64 []) c) with
    | some (L, .i64, xs) => some (⟨L, xs, lo, n, i⟩, [c])
    | _ => none
  | _, _ => none
attribute [push_cast] inv41
theorem ok41 : FSOk Try.prog 41 fs41 := by
  refine ⟨⟨_, Try.func41, by kernel_rfl, by kernel_rfl⟩, fun a => ⟨by simp [fs41, push_cast, noMine, argOwn, Chunk.frArg], by simp [fs41, push_cast, outOk, Chunk.ext], fun x => .inl (by simp [fs41, push_cast, frNew, frOut, Chunk.fr])⟩, fun a hp => ?_⟩
  obtain ⟨L, xs, lo, n, i⟩ := a
  obtain ⟨h1, h2, h3, h4⟩ : xs.length ≤ 140737488355328 ∧ 0 ≤ lo ∧ 0 < n ∧ lo + n ≤ xs.length := hp
  change Tri Try.prog 41 [.sl 0 L 1 lo n, .int .i64 i] [some (.ro, L, .ints .i64 xs)] (postF fs41 ⟨L, xs, lo, n, i⟩)
  refine tri_evS (hyp (l := []) (lp := []) trivial trivial) Try.func41 comp41 (rs := [.tmp 4]) (by rfl) Try.ntmps41 10 ?_
  simp -implicitDefEqProofs only [push_cast, false_implies, reduceCtorEq, Classical.not_not, Nat.reduceAdd, Nat.reduceSub, Nat.reduceMul, Nat.reduceLeDiff, Nat.reduceLT, Nat.reduceEqDiff, Nat.reduceBEq, Nat.reduceBNe, Int.reduceNeg, Int.reduceToNat, Bool.or_false, Bool.false_or, Bool.or_true, Bool.true_or, BEq.rfl, Bool.not_eq_true, Bool.not_eq_false, decide_eq_true_eq, not_true_eq_false, not_false_eq_true, ite_true, ite_false, List.append_nil, and_assoc, Nat.mul_zero, Nat.zero_mul, ir41]
  repeat (refine And.intro (by first | omega | trivial | (intros; omega)) ?_)
  refine postF.mk' (fun _ => default) [some 0] ?_
  simp -implicitDefEqProofs only [push_cast, false_implies, reduceCtorEq, Classical.not_not, Nat.reduceAdd, Nat.reduceSub, Nat.reduceMul, Nat.reduceLeDiff, Nat.reduceLT, Nat.reduceEqDiff, Nat.reduceBEq, Nat.reduceBNe, Int.reduceNeg, Int.reduceToNat, Bool.or_false, Bool.false_or, Bool.or_true, Bool.true_or, BEq.rfl, Bool.not_eq_true, Bool.not_eq_false, decide_eq_true_eq, not_true_eq_false, not_false_eq_true, ite_true, ite_false, List.append_nil, and_assoc, Nat.mul_zero, Nat.zero_mul, fs41, nearV]
def ent41 : Entry := spOf fs41 inv41
theorem e41 : EntryOk Try.prog 41 ent41 := entry_of ok41 inv41
@[push_cast] theorem ent41_app (us : List SV) (look : Look) (x : Nat → Xf.Loc) (k : Nat) : ent41 us look x k = spOf fs41 inv41 us look x k := rfl

/-! A line. -/
def nxt (n : Int) (f : Int → Int) (i : Int) : Int := if 2 * i + 2 < n then f (2 * i + 2) else f (2 * i)
def hiF (kind : Int) (n : Nat) (f : Int → Int) (i : Nat) : Int := if kind = 1 then f (2 * i + 1) - f (2 * i) else f (2 * i + 1) - (f (2 * i) + nxt n f i) / 2
def hiL (kind : Int) (n : Nat) (f : Int → Int) : List Int := tabl (n / 2) (hiF kind n f)
def loF (kind : Int) (n : Nat) (f : Int → Int) (i : Nat) : Int := f (2 * i) + liftG kind (fun j => rd (hiL kind n f) j) (n / 2 : Nat) i
def lineL (kind : Int) (n : Nat) (f : Int → Int) : List Int := tabl (n - n / 2) (loF kind n f) ++ hiL kind n f
theorem lineL_length (kind : Int) (n : Nat) (f : Int → Int) : (lineL kind n f).length = n := by simp [lineL, hiL, tabl_length]; omega
def BdF (B : Int) (f : Int → Int) : Prop := ∀ j, -B ≤ f j ∧ f j ≤ B
theorem hiF_bd {kind : Int} {n : Nat} {f : Int → Int} {B : Int} (h : BdF B f) (i : Nat) : -(2 * B) ≤ hiF kind n f i ∧ hiF kind n f i ≤ 2 * B := by
  have h1 := h (2 * i)
  have h2 := h (2 * i + 1)
  have h3 := h (2 * i + 2)
  unfold hiF nxt
  split
  · omega
  · split <;> omega
theorem hiL_bd {kind : Int} {n : Nat} {f : Int → Int} {B : Int} (h : BdF B f) : AllIn (-(2 * B)) (2 * B) (hiL kind n f) := by
  rw [allIn_rd]
  intro j hj
  unfold hiL at hj ⊢
  rw [tabl_length] at hj
  rw [rd_tabl hj]
  exact hiF_bd h j
theorem liftG_bd {kind : Int} {g : Int → Int} {B : Int} (h : BdF B g) (h0 : 0 ≤ B) (n i : Int) : -(B + 1) ≤ liftG kind g n i ∧ liftG kind g n i ≤ B + 1 := by
  have h1 := h i
  have h2 := h (max (i - 1) 0)
  have h3 := h (min i (n - 1))
  unfold liftG
  split
  · omega
  · split <;> omega
theorem BdF.rd {xs : List Int} {B : Int} (h : AllIn (-B) B xs) (h0 : 0 ≤ B) (lo : Int) : BdF B (fun j => rd xs (lo + j)) := fun j => rd_bd h (by omega) h0 _
theorem BdF.rd0 {xs : List Int} {B : Int} (h : AllIn (-B) B xs) (h0 : 0 ≤ B) : BdF B (fun j => Xf.rd xs j) := fun j => rd_bd h (by omega) h0 _
structure LineA where
  kind : Int
  L : Xf.Loc
  xs : List Int
  lo : Int
  n : Nat
def fs38 : FS where
  A := LineA
  args := fun a => [.int .i64 a.kind, .sl 0 a.L 1 a.lo a.n]
  mem := fun a => [some (.ro, a.L, .ints .i64 a.xs)]
  pre := fun a => (a.kind = 0 ∨ a.kind = 1) ∧ a.xs.length ≤ 140737488355328 ∧ 0 ≤ a.lo ∧ a.lo + a.n ≤ a.xs.length ∧ a.n ≤ 1000000 ∧ AllIn (-1073741824) 1073741824 a.xs
  res := fun a x => .sl 1 (x 0) 1 0 a.n
  out := fun _ _ => []
  new := fun a x => [(x 0, .ints .i64 (lineL a.kind a.n (fun j => rd a.xs (a.lo + j))))]
def inv38 : List SV → Look → Option (LineA × List Nat)
  | [.int .i64 k, .sl c _ 1 lo n], look => match rowI (lkZ look (.ints .i64 []) c) with
    | some (L, .i64, xs) => some (⟨k, L, xs, lo, n.toNat⟩, [c])
    | _ => none
  | _, _ => none
attribute [push_cast] inv38
theorem ok38 : FSOk Try.prog 38 fs38 := by
  refine ⟨⟨_, Try.func38, by kernel_rfl, by kernel_rfl⟩, fun a => ⟨by simp [fs38, push_cast, noMine, argOwn, Chunk.frArg], by simp [fs38, push_cast, outOk, Chunk.ext], fun x => .inl (by simp [fs38, push_cast, frNew, frOut, Chunk.fr])⟩, fun a hp => ?_⟩
  obtain ⟨kind, L, xs, lo, n⟩ := a
  obtain ⟨hk, h1, h2, h3, h4, h5⟩ : (kind = 0 ∨ kind = 1) ∧ xs.length ≤ 140737488355328 ∧ 0 ≤ lo ∧ lo + n ≤ xs.length ∧ n ≤ 1000000 ∧ AllIn (-1073741824) 1073741824 xs := hp
  change Tri Try.prog 38 [.int .i64 kind, .sl 0 L 1 lo n] [some (.ro, L, .ints .i64 xs)] (postF fs38 ⟨kind, L, xs, lo, n⟩)
  obtain ⟨f, hf⟩ : ∃ f : Int → Int, (fun j => rd xs (lo + j)) = f := ⟨_, rfl⟩
  have hfj : ∀ j, rd xs (lo + j) = f j := fun j => by rw [← hf]
  have hB : BdF 1073741824 f := by rw [← hf]; exact BdF.rd h5 (by omega) lo
  obtain ⟨m, hm⟩ : ∃ m, n / 2 = m := ⟨_, rfl⟩
  have en : ((n : Int) / 2) = (m : Int) := by omega
  refine tri_evS (hyp (l := [(66, ent66)]) (lp := []) ⟨e66, trivial⟩ trivial) Try.func38 comp38 (rs := [.tmp 4]) (by rfl) Try.ntmps38 19 ?_
  simp -implicitDefEqProofs only [push_cast, false_implies, reduceCtorEq, Classical.not_not, Nat.reduceAdd, Nat.reduceSub, Nat.reduceMul, Nat.reduceLeDiff, Nat.reduceLT, Nat.reduceEqDiff, Nat.reduceBEq, Nat.reduceBNe, Int.reduceNeg, Int.reduceToNat, Bool.or_false, Bool.false_or, Bool.or_true, Bool.true_or, BEq.rfl, Bool.not_eq_true, Bool.not_eq_false, decide_eq_true_eq, not_true_eq_false, not_false_eq_true, ite_true, ite_false, List.append_nil, and_assoc, Nat.mul_zero, Nat.zero_mul, ir38]
  rw [en]
  repeat (refine And.intro (by first | omega | trivial | (intros; omega)) ?_)
  intro X
  repeat (refine And.intro (by first | omega | trivial | (intros; omega)) ?_)
  have ez : (m : Int).toNat = m := Int.toNat_natCast _
  refine evS_loopU (A := Nat) kp38_1 kl38_1 (fun i => [(21, .int .i64 i)]) (fun i => [(10, .mine, X 1 10, .ints .i64 (prt m i (hiF kind n f)))]) (fun i => i ≤ m) (fun i => m - i) 0 (by omega) (Sub.pt ?_) ?_
  · simp -implicitDefEqProofs only [push_cast, false_implies, reduceCtorEq, Classical.not_not, Nat.reduceAdd, Nat.reduceSub, Nat.reduceMul, Nat.reduceLeDiff, Nat.reduceLT, Nat.reduceEqDiff, Nat.reduceBEq, Nat.reduceBNe, Int.reduceNeg, Int.reduceToNat, Bool.or_false, Bool.false_or, Bool.or_true, Bool.true_or, BEq.rfl, Bool.not_eq_true, Bool.not_eq_false, decide_eq_true_eq, not_true_eq_false, not_false_eq_true, ite_true, ite_false, List.append_nil, and_assoc, Nat.mul_zero, Nat.zero_mul, prt_zero, ez]
  intro i (hi : i ≤ m) K hK
  simp -implicitDefEqProofs only [push_cast, false_implies, reduceCtorEq, Classical.not_not, Nat.reduceAdd, Nat.reduceSub, Nat.reduceMul, Nat.reduceLeDiff, Nat.reduceLT, Nat.reduceEqDiff, Nat.reduceBEq, Nat.reduceBNe, Int.reduceNeg, Int.reduceToNat, Bool.or_false, Bool.false_or, Bool.or_true, Bool.true_or, BEq.rfl, Bool.not_eq_true, Bool.not_eq_false, decide_eq_true_eq, not_true_eq_false, not_false_eq_true, ite_true, ite_false, List.append_nil, and_assoc, Nat.mul_zero, Nat.zero_mul, b38_1, r38_4]
  refine ⟨fun hl => ?_, fun hl => ?_⟩
  · have hi' : i < m := by omega
    have lP := prt_length hi (hiF kind n f)
    have q : (prt m i (hiF kind n f)).set i (hiF kind n f i) = prt m (i + 1) (hiF kind n f) := prt_set hi' _
    have b0 := hB (2 * i)
    have b1 := hB (2 * i + 1)
    have b2 := hB (2 * i + 2)
    have e2 : (2 : Int) ^ 1 = 2 := rfl
    simp only [hfj, List.length_set, e2]
    repeat (refine And.intro (by first | omega | trivial | (intros; omega)) ?_)
    refine ⟨fun hk0 => ?_, fun hk0 => ?_⟩
    · repeat (refine And.intro (by first | omega | trivial | (intros; omega)) ?_)
      refine ⟨fun hr => ?_, fun hr => ?_⟩
      · repeat (refine And.intro (by first | omega | trivial | (intros; omega)) ?_)
        refine hK (i + 1) (by omega) (by omega) _ _ (Sub.pt ?_)
        have e : f (2 * i + 1) - (f (2 * i) + f (2 * i + 2)) / 2 = hiF kind n f i := by simp [hiF, nxt, hk0, hr]
        simp -implicitDefEqProofs only [push_cast, false_implies, reduceCtorEq, Classical.not_not, Nat.reduceAdd, Nat.reduceSub, Nat.reduceMul, Nat.reduceLeDiff, Nat.reduceLT, Nat.reduceEqDiff, Nat.reduceBEq, Nat.reduceBNe, Int.reduceNeg, Int.reduceToNat, Bool.or_false, Bool.false_or, Bool.or_true, Bool.true_or, BEq.rfl, Bool.not_eq_true, Bool.not_eq_false, decide_eq_true_eq, not_true_eq_false, not_false_eq_true, ite_true, ite_false, List.append_nil, and_assoc, Nat.mul_zero, Nat.zero_mul, Int.toNat_natCast, List.set_set, e, q]
      · repeat (refine And.intro (by first | omega | trivial | (intros; omega)) ?_)
        refine hK (i + 1) (by omega) (by omega) _ _ (Sub.pt ?_)
        have e : f (2 * i + 1) - (f (2 * i) + f (2 * i)) / 2 = hiF kind n f i := by simp [hiF, nxt, hk0, hr]
        simp -implicitDefEqProofs only [push_cast, false_implies, reduceCtorEq, Classical.not_not, Nat.reduceAdd, Nat.reduceSub, Nat.reduceMul, Nat.reduceLeDiff, Nat.reduceLT, Nat.reduceEqDiff, Nat.reduceBEq, Nat.reduceBNe, Int.reduceNeg, Int.reduceToNat, Bool.or_false, Bool.false_or, Bool.or_true, Bool.true_or, BEq.rfl, Bool.not_eq_true, Bool.not_eq_false, decide_eq_true_eq, not_true_eq_false, not_false_eq_true, ite_true, ite_false, List.append_nil, and_assoc, Nat.mul_zero, Nat.zero_mul, Int.toNat_natCast, List.set_set, e, q]
    · repeat (refine And.intro (by first | omega | trivial | (intros; omega)) ?_)
      refine hK (i + 1) (by omega) (by omega) _ _ (Sub.pt ?_)
      have e : f (2 * i + 1) - f (2 * i) = hiF kind n f i := by simp [hiF, hk.resolve_left hk0]
      simp -implicitDefEqProofs only [push_cast, false_implies, reduceCtorEq, Classical.not_not, Nat.reduceAdd, Nat.reduceSub, Nat.reduceMul, Nat.reduceLeDiff, Nat.reduceLT, Nat.reduceEqDiff, Nat.reduceBEq, Nat.reduceBNe, Int.reduceNeg, Int.reduceToNat, Bool.or_false, Bool.false_or, Bool.or_true, Bool.true_or, BEq.rfl, Bool.not_eq_true, Bool.not_eq_false, decide_eq_true_eq, not_true_eq_false, not_false_eq_true, ite_true, ite_false, List.append_nil, and_assoc, Nat.mul_zero, Nat.zero_mul, Int.toNat_natCast, e, q]
  · obtain rfl : i = m := by omega
    rw [prt_all]
    have hh : tabl i (hiF kind n f) = hiL kind n f := by unfold hiL; rw [hm]
    rw [hh]
    have hHB := hiL_bd (kind := kind) (n := n) hB
    have hHl : (hiL kind n f).length = i := by unfold hiL; rw [tabl_length, hm]
    have hAl : AllIn (-1099511627776) 1099511627776 (hiL kind n f) := fun q hq => by have := hHB q hq; omega
    have hLB := fun j => liftG_bd (kind := kind) (BdF.rd0 (B := 2147483648) (fun q hq => by have := hHB q hq; omega : AllIn (-2147483648) 2147483648 (hiL kind n f)) (by omega)) (by omega) i j
    intro X1
    repeat (refine And.intro (by first | omega | trivial | (intros; omega)) ?_)
    refine evS_loopU (A := Nat × Xf.Loc) kp38_2 (11 :: kl38_2) (fun y => [(10, .sl 17 y.2 1 0 y.1), (81, .int .i64 y.1)]) (fun y => [(17, .mine, y.2, .ints .i64 (tabl y.1 (loF kind n f)))]) (fun y => y.1 ≤ n - i) (fun y => n - i - y.1) (0, X1 1 11) (Nat.zero_le _) (Sub.of (mkG 20 [(0, 0), (10, 10), (17, 11)]) ?_) ?_
    · simp -implicitDefEqProofs only [push_cast, false_implies, reduceCtorEq, Classical.not_not, Nat.reduceAdd, Nat.reduceSub, Nat.reduceMul, Nat.reduceLeDiff, Nat.reduceLT, Nat.reduceEqDiff, Nat.reduceBEq, Nat.reduceBNe, Int.reduceNeg, Int.reduceToNat, Bool.or_false, Bool.false_or, Bool.or_true, Bool.true_or, BEq.rfl, Bool.not_eq_true, Bool.not_eq_false, decide_eq_true_eq, not_true_eq_false, not_false_eq_true, ite_true, ite_false, List.append_nil, and_assoc, Nat.mul_zero, Nat.zero_mul, tabl_zero]
    intro ⟨j, N⟩ (hj : j ≤ n - i) K hK
    simp -implicitDefEqProofs only [push_cast, false_implies, reduceCtorEq, Classical.not_not, Nat.reduceAdd, Nat.reduceSub, Nat.reduceMul, Nat.reduceLeDiff, Nat.reduceLT, Nat.reduceEqDiff, Nat.reduceBEq, Nat.reduceBNe, Int.reduceNeg, Int.reduceToNat, Bool.or_false, Bool.false_or, Bool.or_true, Bool.true_or, BEq.rfl, Bool.not_eq_true, Bool.not_eq_false, decide_eq_true_eq, not_true_eq_false, not_false_eq_true, ite_true, ite_false, List.append_nil, and_assoc, Nat.mul_zero, Nat.zero_mul, b38_2, r38_3, fs66]
    refine ⟨fun hl => ?_, fun hl => ?_⟩
    · have b0 := hB (2 * j)
      have b3 := hLB j
      simp only [hfj, tabl_length, hHl]
      intro X2
      repeat (refine And.intro (by first | omega | trivial | (intros; omega)) ?_)
      refine hK (j + 1, X2 12 17) (show j + 1 ≤ n - i by omega) (show n - i - (j + 1) < n - i - j by omega) _ _ (Sub.pt ?_)
      have q : tabl j (loF kind n f) ++ [f (2 * j) + liftG kind (fun j => rd (hiL kind n f) j) i j] = tabl (j + 1) (loF kind n f) := by
        rw [← tabl_snoc]; unfold loF; rw [hm]
      simp -implicitDefEqProofs only [push_cast, false_implies, reduceCtorEq, Classical.not_not, Nat.reduceAdd, Nat.reduceSub, Nat.reduceMul, Nat.reduceLeDiff, Nat.reduceLT, Nat.reduceEqDiff, Nat.reduceBEq, Nat.reduceBNe, Int.reduceNeg, Int.reduceToNat, Bool.or_false, Bool.false_or, Bool.or_true, Bool.true_or, BEq.rfl, Bool.not_eq_true, Bool.not_eq_false, decide_eq_true_eq, not_true_eq_false, not_false_eq_true, ite_true, ite_false, List.append_nil, and_assoc, Nat.mul_zero, Nat.zero_mul, q]
    · have hj2 : j = n - i := by omega
      have ee : ((n - i : Nat) : Int) = n - i := by omega
      simp only [tabl_length, hHl]
      intro X2
      repeat (refine And.intro (by first | omega | trivial | (intros; omega)) ?_)
      refine postF.mk' (fun _ => X2 2 18) [some 0, some 18] ?_
      have q : tabl j (loF kind n f) ++ hiL kind n f = lineL kind n (fun j => rd xs (lo + j)) := by
        rw [hf, hj2]; unfold lineL; rw [hm]
      simp -implicitDefEqProofs only [push_cast, false_implies, reduceCtorEq, Classical.not_not, Nat.reduceAdd, Nat.reduceSub, Nat.reduceMul, Nat.reduceLeDiff, Nat.reduceLT, Nat.reduceEqDiff, Nat.reduceBEq, Nat.reduceBNe, Int.reduceNeg, Int.reduceToNat, Bool.or_false, Bool.false_or, Bool.or_true, Bool.true_or, BEq.rfl, Bool.not_eq_true, Bool.not_eq_false, decide_eq_true_eq, not_true_eq_false, not_false_eq_true, ite_true, ite_false, List.append_nil, and_assoc, Nat.mul_zero, Nat.zero_mul, fs38, q]
      omega
def ent38 : Entry := spOf fs38 inv38
theorem e38 : EntryOk Try.prog 38 ent38 := entry_of ok38 inv38
@[push_cast] theorem ent38_app (us : List SV) (look : Look) (x : Nat → Xf.Loc) (k : Nat) : ent38 us look x k = spOf fs38 inv38 us look x k := rfl
end Go.Proofs.Ytefggfjblhniaaa
