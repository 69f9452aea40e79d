import Derived.Test.YtnmbimhcfioeiaaVt
set_option linter.unusedVariables false
set_option linter.unusedSimpArgs false
/-! Double; the law ColourHalves. -/
namespace Go.Proofs.Ytnmbimhcfioeiaa
open Xf
set_option maxRecDepth 4000
/- incunable/colour.Double : slots 66, labels 10..20; loop b35_1 keeps [1, 3, 6, 8, 40, 41] -/
def b35_1 : IR :=
  .seq (.reg false [⟨some 42, none, ⟨[], []⟩, .bin 0 .lss (.t 41) (.t 40)⟩] [] []) (.seq (.cond (.t 42) (.skip) (.exit 0)) (.seq (.block 1 (.seq (.reg false [⟨some 43, none, ⟨[], []⟩, .mov (.t 41)⟩,
    ⟨some 9, none, ⟨[], []⟩, .mov (.t 43)⟩] [42, 43] []) (.reg true [⟨some 44, none, ⟨[], []⟩, .fld (.t 8) 2⟩,
    ⟨some 45, none, ⟨[], []⟩, .ld false none 0 0 (.t 44)⟩,
    ⟨some 46, none, ⟨[], []⟩, .mov (.t 9)⟩,
    ⟨some 47, none, ⟨[], []⟩, .fld (.t 3) 2⟩,
    ⟨some 48, none, ⟨[], []⟩, .ld false none 0 0 (.t 47)⟩,
    ⟨some 49, none, ⟨[], []⟩, .mov (.t 9)⟩,
    ⟨some 50, none, ⟨[], []⟩, .mov (.t 1)⟩,
    ⟨some 51, none, ⟨[], []⟩, .bin 0 .quo (.t 49) (.t 50)⟩,
    ⟨some 52, none, ⟨[], []⟩, .bin 0 .quo (.t 51) (.k (.int .i64 2))⟩,
    ⟨some 53, none, ⟨[], []⟩, .fld (.t 3) 0⟩,
    ⟨some 54, none, ⟨[], []⟩, .ld false none 0 0 (.t 53)⟩,
    ⟨some 55, none, ⟨[], []⟩, .bin 0 .mul (.t 52) (.t 54)⟩,
    ⟨some 56, none, ⟨[], []⟩, .mov (.t 9)⟩,
    ⟨some 57, none, ⟨[], []⟩, .mov (.t 1)⟩,
    ⟨some 58, none, ⟨[], []⟩, .bin 0 .rem (.t 56) (.t 57)⟩,
    ⟨some 59, none, ⟨[], []⟩, .bin 0 .quo (.t 58) (.k (.int .i64 2))⟩,
    ⟨some 60, none, ⟨[], []⟩, .bin 0 .add (.t 55) (.t 59)⟩,
    ⟨some 61, none, ⟨[], []⟩, .idxS (.t 48) (.t 60) 1⟩,
    ⟨some 62, none, ⟨[], []⟩, .ld true none 0 0 (.t 61)⟩,
    ⟨some 63, none, ⟨[], []⟩, .idxS (.t 45) (.t 46) 1⟩,
    ⟨none, none, ⟨[], []⟩, .sto true 1 .i64 (.t 63) (.t 62)⟩] [9, 44, 45, 46, 47, 48, 49, 50, 51, 52, 53, 54, 55, 56, 57, 58, 59, 60, 61, 62, 63] []))) (.reg false [⟨some 64, none, ⟨[], []⟩, .bin 0 .add (.t 41) (.k (.int .i64 1))⟩,
    ⟨some 41, none, ⟨[], []⟩, .mov (.t 64)⟩] [64] [])))
def r35_2 : IR :=
  .seq (.reg false [⟨some 65, none, ⟨[], []⟩, .ld false (some 3) 0 0 (.t 8)⟩,
    ⟨none, none, ⟨[], []⟩, .sto false 3 .i64 (.t 6) (.t 65)⟩,
    ⟨some 7, none, ⟨[], []⟩, .mov (.k (.int .i64 0))⟩] [1, 3, 8, 40, 41, 65] []) (.ret)
def ir35 : IR :=
  .seq (.reg false [⟨some 3, none, ⟨[], []⟩, .box 10 (.t 0)⟩,
    ⟨some 6, none, ⟨[], []⟩, .alloc 11 [.int .i64 0, .int .i64 0, nilSV]⟩,
    ⟨some 7, none, ⟨[], []⟩, .mov (.k (.int .i64 0))⟩] [0, 7] []) (.seq (.seq (.reg false [⟨some 10, none, ⟨[], []⟩, .ld false (some 3) 0 0 (.t 3)⟩,
    ⟨some 11, none, ⟨[], []⟩, .call (some 4) 12 49 [.t 10]⟩,
    ⟨some 12, none, ⟨[], []⟩, .not (.t 11)⟩] [10, 11] []) (.cond (.t 12) (.seq (.reg false [⟨some 13, none, ⟨[], []⟩, .build [.int .i64 0, .int .i64 0, nilSV] []⟩,
    ⟨none, none, ⟨[], []⟩, .sto false 3 .i64 (.t 6) (.t 13)⟩,
    ⟨some 7, none, ⟨[], []⟩, .mov (.k (.int .i64 70))⟩] [1, 2, 3, 12, 13] []) (.ret)) (.skip))) (.seq (.seq (.reg false [⟨some 14, none, ⟨[], []⟩, .mov (.t 1)⟩,
    ⟨some 15, none, ⟨[], []⟩, .mov (.t 2)⟩,
    ⟨some 16, none, ⟨[], []⟩, .callp 39 [.t 14, .t 15]⟩,
    ⟨some 17, none, ⟨[], []⟩, .not (.t 16)⟩,
    ⟨some 18, none, ⟨[], []⟩, .mov (.t 17)⟩,
    ⟨some 19, some (18, false), ⟨[], []⟩, .fld (.t 3) 0⟩,
    ⟨some 20, some (18, false), ⟨[], []⟩, .ld false none 0 0 (.t 19)⟩,
    ⟨some 21, some (18, false), ⟨[], []⟩, .mov (.t 1)⟩,
    ⟨some 22, some (18, false), ⟨[], []⟩, .bin 0 .add (.t 21) (.k (.int .i64 1))⟩,
    ⟨some 23, some (18, false), ⟨[], []⟩, .bin 0 .quo (.t 22) (.k (.int .i64 2))⟩,
    ⟨some 24, some (18, false), ⟨[], []⟩, .bin 0 .neq (.t 20) (.t 23)⟩,
    ⟨some 25, none, ⟨[], []⟩, .pick (.t 18) (.k (.bool true)) (.t 24)⟩,
    ⟨some 26, none, ⟨[], []⟩, .mov (.t 25)⟩,
    ⟨some 27, some (26, false), ⟨[], []⟩, .fld (.t 3) 1⟩,
    ⟨some 28, some (26, false), ⟨[], []⟩, .ld false none 0 0 (.t 27)⟩,
    ⟨some 29, some (26, false), ⟨[], []⟩, .mov (.t 2)⟩,
    ⟨some 30, some (26, false), ⟨[], []⟩, .bin 0 .add (.t 29) (.k (.int .i64 1))⟩,
    ⟨some 31, some (26, false), ⟨[], []⟩, .bin 0 .quo (.t 30) (.k (.int .i64 2))⟩,
    ⟨some 32, some (26, false), ⟨[], []⟩, .bin 0 .neq (.t 28) (.t 31)⟩,
    ⟨some 33, none, ⟨[], []⟩, .pick (.t 26) (.k (.bool true)) (.t 32)⟩] [7, 12, 14, 15, 16, 17, 18, 19, 20, 21, 22, 23, 24, 25, 26, 27, 28, 29, 30, 31, 32] []) (.cond (.t 33) (.seq (.reg false [⟨some 34, none, ⟨[], []⟩, .build [.int .i64 0, .int .i64 0, nilSV] []⟩,
    ⟨none, none, ⟨[], []⟩, .sto false 3 .i64 (.t 6) (.t 34)⟩,
    ⟨some 7, none, ⟨[], []⟩, .mov (.k (.int .i64 2))⟩] [1, 2, 3, 33, 34] []) (.ret)) (.skip))) (.seq (.reg false [⟨some 35, none, ⟨[], []⟩, .mov (.t 1)⟩,
    ⟨some 36, none, ⟨[], []⟩, .mov (.t 2)⟩,
    ⟨some 37, none, ⟨[], []⟩, .call (some 4) 16 47 [.t 35, .t 36]⟩,
    ⟨some 8, none, ⟨[], []⟩, .alloc 20 [.int .i64 0, .int .i64 0, nilSV]⟩,
    ⟨none, none, ⟨[], []⟩, .sto false 3 .i64 (.t 8) (.t 37)⟩] [2, 7, 33, 35, 36, 37] []) (.seq (.seq (.reg false [⟨some 38, none, ⟨[], []⟩, .fld (.t 8) 2⟩,
    ⟨some 39, none, ⟨[], []⟩, .ld false none 0 0 (.t 38)⟩,
    ⟨some 40, none, ⟨[], []⟩, .len (.t 39)⟩,
    ⟨some 41, none, ⟨[], []⟩, .mov (.k (.int .i64 0))⟩] [38, 39] []) (.block 0 (.loop b35_1))) (r35_2)))))
def kp35_1 : List Nat := [1, 3, 6, 8, 40, 41]
def kl35_1 : List Nat := []
attribute [push_cast] kp35_1 kl35_1
theorem comp35 : (Try.f35.body.bind fun c => compC tab isP chkAll ir35 c) = some ir35 := by kernel_rfl
/- incunable/incunableref19.Double : slots 67, labels 10..18; loop b36_1 keeps [1, 2, 3, 6, 8, 9]; loop b36_2 keeps [1, 2, 3, 6, 8, 9, 10] -/
def b36_2 : IR :=
  .seq (.seq (.reg false [⟨some 44, none, ⟨[], []⟩, .mov (.t 10)⟩,
    ⟨some 45, none, ⟨[], []⟩, .mov (.t 1)⟩,
    ⟨some 46, none, ⟨[], []⟩, .bin 0 .lss (.t 44) (.t 45)⟩] [44, 45] []) (.cond (.t 46) (.skip) (.exit 2))) (.seq (.block 3 (.reg true [⟨some 49, none, ⟨[], []⟩, .fld (.t 8) 2⟩,
    ⟨some 50, none, ⟨[17], []⟩, .ld false none 0 0 (.t 49)⟩,
    ⟨some 51, none, ⟨[], []⟩, .fld (.t 3) 2⟩,
    ⟨some 52, none, ⟨[], []⟩, .ld false none 0 0 (.t 51)⟩,
    ⟨some 53, none, ⟨[], []⟩, .mov (.t 9)⟩,
    ⟨some 54, none, ⟨[], []⟩, .bin 0 .quo (.t 53) (.k (.int .i64 2))⟩,
    ⟨some 55, none, ⟨[], []⟩, .fld (.t 3) 0⟩,
    ⟨some 56, none, ⟨[], []⟩, .ld false none 0 0 (.t 55)⟩,
    ⟨some 57, none, ⟨[], []⟩, .bin 0 .mul (.t 54) (.t 56)⟩,
    ⟨some 58, none, ⟨[], []⟩, .mov (.t 10)⟩,
    ⟨some 59, none, ⟨[], []⟩, .bin 0 .quo (.t 58) (.k (.int .i64 2))⟩,
    ⟨some 60, none, ⟨[], []⟩, .bin 0 .add (.t 57) (.t 59)⟩,
    ⟨some 61, none, ⟨[], []⟩, .idxS (.t 52) (.t 60) 1⟩,
    ⟨some 62, none, ⟨[], []⟩, .ld true none 0 0 (.t 61)⟩,
    ⟨some 63, none, ⟨[], []⟩, .bslice 17 [.t 62]⟩,
    ⟨some 64, none, ⟨[], []⟩, .app 18 1 8 (.t 50) (.t 63)⟩,
    ⟨some 65, none, ⟨[], []⟩, .fld (.t 8) 2⟩,
    ⟨none, none, ⟨[], []⟩, .sto false 1 .i64 (.t 65) (.t 64)⟩] [46, 49, 50, 51, 52, 53, 54, 55, 56, 57, 58, 59, 60, 61, 62, 63, 64, 65] [])) (.reg false [⟨some 47, none, ⟨[], []⟩, .mov (.t 10)⟩,
    ⟨some 48, none, ⟨[], []⟩, .bin 0 .add (.t 47) (.k (.int .i64 1))⟩,
    ⟨some 10, none, ⟨[], []⟩, .mov (.t 48)⟩] [47, 48] []))
def r36_3 : IR :=
  .reg false [⟨some 42, none, ⟨[], []⟩, .mov (.t 9)⟩,
    ⟨some 43, none, ⟨[], []⟩, .bin 0 .add (.t 42) (.k (.int .i64 1))⟩,
    ⟨some 9, none, ⟨[], []⟩, .mov (.t 43)⟩] [10, 42, 43] []
def b36_1 : IR :=
  .seq (.seq (.reg false [⟨some 39, none, ⟨[], []⟩, .mov (.t 9)⟩,
    ⟨some 40, none, ⟨[], []⟩, .mov (.t 2)⟩,
    ⟨some 41, none, ⟨[], []⟩, .bin 0 .lss (.t 39) (.t 40)⟩] [39, 40] []) (.cond (.t 41) (.skip) (.exit 0))) (.seq (.block 1 (.seq (.reg false [⟨some 10, none, ⟨[], []⟩, .mov (.k (.int .i64 0))⟩] [41] []) (.block 2 (.loop b36_2)))) (r36_3))
def r36_4 : IR :=
  .seq (.reg false [⟨some 66, none, ⟨[], []⟩, .ld false (some 3) 0 0 (.t 8)⟩,
    ⟨none, none, ⟨[], []⟩, .sto false 3 .i64 (.t 6) (.t 66)⟩,
    ⟨some 7, none, ⟨[], []⟩, .mov (.k (.int .i64 0))⟩] [1, 2, 3, 8, 9, 66] []) (.ret)
def ir36 : IR :=
  .seq (.reg false [⟨some 3, none, ⟨[], []⟩, .box 10 (.t 0)⟩,
    ⟨some 6, none, ⟨[], []⟩, .alloc 11 [.int .i64 0, .int .i64 0, nilSV]⟩,
    ⟨some 7, none, ⟨[], []⟩, .mov (.k (.int .i64 0))⟩] [0, 7] []) (.seq (.seq (.reg false [⟨some 11, none, ⟨[], []⟩, .ld false (some 3) 0 0 (.t 3)⟩,
    ⟨some 12, none, ⟨[], []⟩, .call (some 4) 12 51 [.t 11]⟩,
    ⟨some 13, none, ⟨[], []⟩, .not (.t 12)⟩] [11, 12] []) (.cond (.t 13) (.seq (.reg false [⟨some 14, none, ⟨[], []⟩, .build [.int .i64 0, .int .i64 0, nilSV] []⟩,
    ⟨none, none, ⟨[], []⟩, .sto false 3 .i64 (.t 6) (.t 14)⟩,
    ⟨some 7, none, ⟨[], []⟩, .mov (.k (.int .i64 70))⟩] [1, 2, 3, 13, 14] []) (.ret)) (.skip))) (.seq (.seq (.reg false [⟨some 15, none, ⟨[], []⟩, .mov (.t 1)⟩,
    ⟨some 16, none, ⟨[], []⟩, .mov (.t 2)⟩,
    ⟨some 17, none, ⟨[], []⟩, .callp 43 [.t 15, .t 16]⟩,
    ⟨some 18, none, ⟨[], []⟩, .not (.t 17)⟩,
    ⟨some 19, none, ⟨[], []⟩, .mov (.t 18)⟩,
    ⟨some 20, some (19, false), ⟨[], []⟩, .fld (.t 3) 0⟩,
    ⟨some 21, some (19, false), ⟨[], []⟩, .ld false none 0 0 (.t 20)⟩,
    ⟨some 22, some (19, false), ⟨[], []⟩, .mov (.t 1)⟩,
    ⟨some 23, some (19, false), ⟨[], []⟩, .bin 0 .add (.t 22) (.k (.int .i64 1))⟩,
    ⟨some 24, some (19, false), ⟨[], []⟩, .bin 0 .quo (.t 23) (.k (.int .i64 2))⟩,
    ⟨some 25, some (19, false), ⟨[], []⟩, .bin 0 .neq (.t 21) (.t 24)⟩,
    ⟨some 26, none, ⟨[], []⟩, .pick (.t 19) (.k (.bool true)) (.t 25)⟩,
    ⟨some 27, none, ⟨[], []⟩, .mov (.t 26)⟩,
    ⟨some 28, some (27, false), ⟨[], []⟩, .fld (.t 3) 1⟩,
    ⟨some 29, some (27, false), ⟨[], []⟩, .ld false none 0 0 (.t 28)⟩,
    ⟨some 30, some (27, false), ⟨[], []⟩, .mov (.t 2)⟩,
    ⟨some 31, some (27, false), ⟨[], []⟩, .bin 0 .add (.t 30) (.k (.int .i64 1))⟩,
    ⟨some 32, some (27, false), ⟨[], []⟩, .bin 0 .quo (.t 31) (.k (.int .i64 2))⟩,
    ⟨some 33, some (27, false), ⟨[], []⟩, .bin 0 .neq (.t 29) (.t 32)⟩,
    ⟨some 34, none, ⟨[], []⟩, .pick (.t 27) (.k (.bool true)) (.t 33)⟩] [7, 13, 15, 16, 17, 18, 19, 20, 21, 22, 23, 24, 25, 26, 27, 28, 29, 30, 31, 32, 33] []) (.cond (.t 34) (.seq (.reg false [⟨some 35, none, ⟨[], []⟩, .build [.int .i64 0, .int .i64 0, nilSV] []⟩,
    ⟨none, none, ⟨[], []⟩, .sto false 3 .i64 (.t 6) (.t 35)⟩,
    ⟨some 7, none, ⟨[], []⟩, .mov (.k (.int .i64 2))⟩] [1, 2, 3, 34, 35] []) (.ret)) (.skip))) (.seq (.reg false [⟨some 36, none, ⟨[], []⟩, .mov (.t 1)⟩,
    ⟨some 37, none, ⟨[], []⟩, .mov (.t 2)⟩,
    ⟨some 38, none, ⟨[], []⟩, .build [.int .i64 0, .int .i64 0, nilSV] [(0, 1, .t 36), (1, 1, .t 37)]⟩,
    ⟨some 8, none, ⟨[], []⟩, .alloc 16 [.int .i64 0, .int .i64 0, nilSV]⟩,
    ⟨none, none, ⟨[], []⟩, .sto false 3 .i64 (.t 8) (.t 38)⟩] [7, 34, 36, 37, 38] []) (.seq (.seq (.reg false [⟨some 9, none, ⟨[], []⟩, .mov (.k (.int .i64 0))⟩] [] []) (.block 0 (.loop b36_1))) (r36_4)))))
def kp36_2 : List Nat := [1, 2, 3, 6, 8, 9, 10]
def kl36_2 : List Nat := [17, 18]
attribute [push_cast] kp36_2 kl36_2
def kp36_1 : List Nat := [1, 2, 3, 6, 8, 9]
def kl36_1 : List Nat := [17, 18]
attribute [push_cast] kp36_1 kl36_1
theorem comp36 : (Try.f36.body.bind fun c => compC tab isP chkAll ir36 c) = some ir36 := by kernel_rfl
set_option maxRecDepth 512

structure PlD where
  a : PlA
  w : Int
  h : Int
def PlD.fit (d : PlD) : Prop := SidesOk d.w d.h ∧ d.a.p.w = (d.w + 1) / 2 ∧ d.a.p.h = (d.h + 1) / 2
instance (d : PlD) : Decidable d.fit := by unfold PlD.fit; infer_instance
def PlD.Ok (d : PlD) : Prop := d.a.p.Ok ∧ d.fit
instance (d : PlD) : Decidable d.Ok := by unfold PlD.Ok; infer_instance
def dblF (w pw : Int) (xs : List Int) : Nat → Int := fun k => rd xs ((k : Int) / w / 2 * pw + (k : Int) % w / 2)
def dbl (d : PlD) : Pl := if d.Ok then ⟨d.w, d.h, tabl (d.w * d.h).toNat (dblF d.w d.a.p.w d.a.p.xs)⟩ else pl0
def fs35 : FS where
  A := PlD
  args := fun d => [plV d.a.p d.a.L 0, .int .i64 d.w, .int .i64 d.h]
  mem := fun d => [some (.ro, d.a.L, .ints .i64 d.a.p.xs)]
  pre := fun d => d.a.p.xs.length ≤ 140737488355328
  res := fun d x => .tup [plV (dbl d) (lx d.Ok x 0) 1, .int .i64 (if d.Ok then 0 else if d.a.p.Ok then 2 else 70)]
  out := fun _ _ => []
  new := fun d x => [(lx d.Ok x 0, .ints .i64 (dbl d).xs)]
def inv35 : List SV → Look → Option (PlD × List Nat)
  | [v, .int .i64 w, .int .i64 h], look => match getP look v with
    | some (a, g) => some (⟨a, w, h⟩, g)
    | _ => none
  | _, _ => none
attribute [push_cast] inv35
theorem dmI {w v u : Nat} (hu : u < w) : ((v * w + u : Nat) : Int) / (w : Int) = v ∧ ((v * w + u : Nat) : Int) % (w : Int) = u := by
  constructor
  · rw [← Int.natCast_ediv, (dm_at hu).1]
  · rw [← Int.natCast_emod, (dm_at hu).2]
theorem ok35 : FSOk Try.prog 35 fs35 := by
  refine ⟨⟨_, Try.func35, by kernel_rfl, by kernel_rfl⟩, fun a => ⟨by simp [fs35, push_cast, noMine, argOwn, Chunk.frArg], by simp [fs35, push_cast, outOk, Chunk.ext], fun x => .inl (by simp [fs35, push_cast, frNew, frOut, Chunk.fr])⟩, fun a hp => ?_⟩
  obtain ⟨⟨⟨pw, ph, xs⟩, L⟩, w, h⟩ := a
  change xs.length ≤ 140737488355328 at hp
  change Tri Try.prog 35 [plV ⟨pw, ph, xs⟩ L 0, .int .i64 w, .int .i64 h] [some (.ro, L, .ints .i64 xs)] (postF fs35 ⟨⟨⟨pw, ph, xs⟩, L⟩, w, h⟩)
  refine tri_evS (hyp (l := [(49, ent49), (47, ent47)]) (lp := [(39, sidesF)]) ⟨e49, e47, trivial⟩ ⟨p39, trivial⟩) Try.func35 comp35 (rs := [.cell 6 (some 3), .tmp 7]) (by rfl) Try.ntmps35 21 ?_
  simp -implicitDefEqProofs only [push_cast, false_implies, reduceCtorEq, Classical.not_not, Nat.reduceAdd, Nat.reduceSub, Nat.reduceMul, Nat.reduceLeDiff, Nat.reduceLT, Nat.reduceEqDiff, Nat.reduceBEq, Nat.reduceBNe, Int.reduceNeg, Int.reduceToNat, Bool.or_false, Bool.false_or, Bool.or_true, Bool.true_or, BEq.rfl, Bool.not_eq_true, Bool.not_eq_false, decide_eq_true_eq, not_true_eq_false, not_false_eq_true, ite_true, ite_false, List.append_nil, and_assoc, Nat.mul_zero, Nat.zero_mul, ir35, fs49, fs47]
  refine fun X => ⟨hp, fun hn => ?_, fun hy => ?_⟩
  · have e : ¬ (⟨⟨⟨pw, ph, xs⟩, L⟩, w, h⟩ : PlD).Ok := fun H => hn H.1
    refine postF.mk' (fun _ => default) [some 0, none] ?_
    simp -implicitDefEqProofs only [push_cast, false_implies, reduceCtorEq, Classical.not_not, Nat.reduceAdd, Nat.reduceSub, Nat.reduceMul, Nat.reduceLeDiff, Nat.reduceLT, Nat.reduceEqDiff, Nat.reduceBEq, Nat.reduceBNe, Int.reduceNeg, Int.reduceToNat, Bool.or_false, Bool.false_or, Bool.or_true, Bool.true_or, BEq.rfl, Bool.not_eq_true, Bool.not_eq_false, decide_eq_true_eq, not_true_eq_false, not_false_eq_true, ite_true, ite_false, List.append_nil, and_assoc, Nat.mul_zero, Nat.zero_mul, fs35, dbl, e, hn, if_false, lx, pl0]
  have hS : SidesOk w h → 0 ≤ w ∧ 0 ≤ h ∧ w ≤ 200 ∧ h ≤ 200 ∧ w * h ≤ 8192 := id
  refine ⟨fun H => ⟨H, ?_⟩, fun H => ⟨H, ?_⟩, fun H => ⟨H, ?_⟩, fun H => ⟨H, ?_⟩, fun hb => ?_, fun hg X1 => ?_⟩
  · have := hS H; omega
  · have := hS H; omega
  · have := hS (Classical.byContradiction fun q => H (.inl q)); omega
  · have := hS (Classical.byContradiction fun q => H (.inl q)); omega
  · have e : ¬ (⟨⟨⟨pw, ph, xs⟩, L⟩, w, h⟩ : PlD).Ok := fun H => by
      obtain ⟨_, b1, b2, b3⟩ := H
      simp only at b1 b2 b3
      simp [b1, b2, b3] at hb
    refine postF.mk' (fun _ => default) [some 0, none] ?_
    simp -implicitDefEqProofs only [push_cast, false_implies, reduceCtorEq, Classical.not_not, Nat.reduceAdd, Nat.reduceSub, Nat.reduceMul, Nat.reduceLeDiff, Nat.reduceLT, Nat.reduceEqDiff, Nat.reduceBEq, Nat.reduceBNe, Int.reduceNeg, Int.reduceToNat, Bool.or_false, Bool.false_or, Bool.or_true, Bool.true_or, BEq.rfl, Bool.not_eq_true, Bool.not_eq_false, decide_eq_true_eq, not_true_eq_false, not_false_eq_true, ite_true, ite_false, List.append_nil, and_assoc, Nat.mul_zero, Nat.zero_mul, fs35, dbl, e, hy, if_false, if_true, lx, pl0]
  have hs : SidesOk w h := Classical.byContradiction fun q => hg (.inl (.inl q))
  have hw2 : pw = (w + 1) / 2 := Classical.byContradiction fun q => hg (.inl (.inr q))
  have hh2 : ph = (h + 1) / 2 := Classical.byContradiction fun q => hg (.inr q)
  have e : (⟨⟨⟨pw, ph, xs⟩, L⟩, w, h⟩ : PlD).Ok := ⟨hy, hs, hw2, hh2⟩
  have hm := hs.bd
  obtain ⟨a1, a2, a3, a4, a5⟩ := id hs
  obtain ⟨hps, hl, ha⟩ : SidesOk pw ph ∧ (xs.length : Int) = pw * ph ∧ AllIn (-16777216) 16777216 xs := id hy
  refine ⟨hs, ?_⟩
  refine evS_loopU (A := Nat) kp35_1 kl35_1 (fun k => [(41, .int .i64 k)]) (fun k => [(16, .mine, X1 2 16, .ints .i64 (prt (w * h).toNat k (dblF w pw xs)))]) (fun k => k ≤ (w * h).toNat) (fun k => (w * h).toNat - k) 0 (by omega) (Sub.pt ?_) ?_
  · simp -implicitDefEqProofs only [push_cast, false_implies, reduceCtorEq, Classical.not_not, Nat.reduceAdd, Nat.reduceSub, Nat.reduceMul, Nat.reduceLeDiff, Nat.reduceLT, Nat.reduceEqDiff, Nat.reduceBEq, Nat.reduceBNe, Int.reduceNeg, Int.reduceToNat, Bool.or_false, Bool.false_or, Bool.or_true, Bool.true_or, BEq.rfl, Bool.not_eq_true, Bool.not_eq_false, decide_eq_true_eq, not_true_eq_false, not_false_eq_true, ite_true, ite_false, List.append_nil, and_assoc, Nat.mul_zero, Nat.zero_mul, zs, prt_zero]
  intro k (hk : k ≤ (w * h).toNat) K hK
  simp -implicitDefEqProofs only [push_cast, false_implies, reduceCtorEq, Classical.not_not, Nat.reduceAdd, Nat.reduceSub, Nat.reduceMul, Nat.reduceLeDiff, Nat.reduceLT, Nat.reduceEqDiff, Nat.reduceBEq, Nat.reduceBNe, Int.reduceNeg, Int.reduceToNat, Bool.or_false, Bool.false_or, Bool.or_true, Bool.true_or, BEq.rfl, Bool.not_eq_true, Bool.not_eq_false, decide_eq_true_eq, not_true_eq_false, not_false_eq_true, ite_true, ite_false, List.append_nil, and_assoc, Nat.mul_zero, Nat.zero_mul, b35_1, r35_2]
  refine ⟨fun hk1 => ?_, fun hk1 => ?_⟩
  · have hk' : k < (w * h).toNat := by omega
    obtain ⟨b1, b2, b3, b4, b5⟩ := dm_bd (k := k) (by omega) hk1 a1
    have hi := idx_bd (a := (k : Int) / w / 2) (b := (k : Int) % w / 2) (W := pw) (H := ph) (by omega) (by omega) (by omega) (by omega)
    have hmb := mul_bd (show 0 ≤ (k : Int) / w / 2 by omega) (show (k : Int) / w / 2 ≤ 200 by omega) hps.1 hps.2.2.1
    have lP := prt_length hk (dblF w pw xs)
    repeat (refine And.intro (by first | omega | trivial | (intros; omega)) ?_)
    refine hK (k + 1) (by omega) (by omega) _ _ (Sub.pt ?_)
    have q : (prt (w * h).toNat k (dblF w pw xs)).set k (rd xs ((k : Int) / w / 2 * pw + (k : Int) % w / 2)) = prt (w * h).toNat (k + 1) (dblF w pw xs) := prt_set hk' _
    simp -implicitDefEqProofs only [push_cast, false_implies, reduceCtorEq, Classical.not_not, Nat.reduceAdd, Nat.reduceSub, Nat.reduceMul, Nat.reduceLeDiff, Nat.reduceLT, Nat.reduceEqDiff, Nat.reduceBEq, Nat.reduceBNe, Int.reduceNeg, Int.reduceToNat, Bool.or_false, Bool.false_or, Bool.or_true, Bool.true_or, BEq.rfl, Bool.not_eq_true, Bool.not_eq_false, decide_eq_true_eq, not_true_eq_false, not_false_eq_true, ite_true, ite_false, List.append_nil, and_assoc, Nat.mul_zero, Nat.zero_mul, q, Int.toNat_natCast]
  · obtain rfl : k = (w * h).toNat := by omega
    refine postF.mk' (fun _ => X1 2 16) [some 0, some 16] ?_
    simp -implicitDefEqProofs only [push_cast, false_implies, reduceCtorEq, Classical.not_not, Nat.reduceAdd, Nat.reduceSub, Nat.reduceMul, Nat.reduceLeDiff, Nat.reduceLT, Nat.reduceEqDiff, Nat.reduceBEq, Nat.reduceBNe, Int.reduceNeg, Int.reduceToNat, Bool.or_false, Bool.false_or, Bool.or_true, Bool.true_or, BEq.rfl, Bool.not_eq_true, Bool.not_eq_false, decide_eq_true_eq, not_true_eq_false, not_false_eq_true, ite_true, ite_false, List.append_nil, and_assoc, Nat.mul_zero, Nat.zero_mul, fs35, dbl, e, lx, if_true, prt_all, tabl_length, Int.toNat_of_nonneg hm.1]
def ent35 : Entry := spOf fs35 inv35
theorem e35 : EntryOk Try.prog 35 ent35 := entry_of ok35 inv35
@[push_cast] theorem ent35_app (us : List SV) (look : Look) (x : Nat → Xf.Loc) (k : Nat) : ent35 us look x k = spOf fs35 inv35 us look x k := rfl

theorem ok36 : FSOk Try.prog 36 fs35 := by
  refine ⟨⟨_, Try.func36, by kernel_rfl, by kernel_rfl⟩, fun a => ⟨by simp [fs35, push_cast, noMine, argOwn, Chunk.frArg], by simp [fs35, push_cast, outOk, Chunk.ext], fun x => .inl (by simp [fs35, push_cast, frNew, frOut, Chunk.fr])⟩, fun a hp => ?_⟩
  obtain ⟨⟨⟨pw, ph, xs⟩, L⟩, w, h⟩ := a
  change xs.length ≤ 140737488355328 at hp
  change Tri Try.prog 36 [plV ⟨pw, ph, xs⟩ L 0, .int .i64 w, .int .i64 h] [some (.ro, L, .ints .i64 xs)] (postF fs35 ⟨⟨⟨pw, ph, xs⟩, L⟩, w, h⟩)
  refine tri_evS (hyp (l := [(51, ent51)]) (lp := [(43, sidesF)]) ⟨e51, trivial⟩ ⟨p43, trivial⟩) Try.func36 comp36 (rs := [.cell 6 (some 3), .tmp 7]) (by rfl) Try.ntmps36 19 ?_
  simp -implicitDefEqProofs only [push_cast, false_implies, reduceCtorEq, Classical.not_not, Nat.reduceAdd, Nat.reduceSub, Nat.reduceMul, Nat.reduceLeDiff, Nat.reduceLT, Nat.reduceEqDiff, Nat.reduceBEq, Nat.reduceBNe, Int.reduceNeg, Int.reduceToNat, Bool.or_false, Bool.false_or, Bool.or_true, Bool.true_or, BEq.rfl, Bool.not_eq_true, Bool.not_eq_false, decide_eq_true_eq, not_true_eq_false, not_false_eq_true, ite_true, ite_false, List.append_nil, and_assoc, Nat.mul_zero, Nat.zero_mul, ir36, fs49]
  refine fun X => ⟨hp, fun hn => ?_, fun hy => ?_⟩
  · have e : ¬ (⟨⟨⟨pw, ph, xs⟩, L⟩, w, h⟩ : PlD).Ok := fun H => hn H.1
    refine postF.mk' (fun _ => default) [some 0, none] ?_
    simp -implicitDefEqProofs only [push_cast, false_implies, reduceCtorEq, Classical.not_not, Nat.reduceAdd, Nat.reduceSub, Nat.reduceMul, Nat.reduceLeDiff, Nat.reduceLT, Nat.reduceEqDiff, Nat.reduceBEq, Nat.reduceBNe, Int.reduceNeg, Int.reduceToNat, Bool.or_false, Bool.false_or, Bool.or_true, Bool.true_or, BEq.rfl, Bool.not_eq_true, Bool.not_eq_false, decide_eq_true_eq, not_true_eq_false, not_false_eq_true, ite_true, ite_false, List.append_nil, and_assoc, Nat.mul_zero, Nat.zero_mul, fs35, dbl, e, hn, if_false, lx, pl0]
  have hS : SidesOk w h → 0 ≤ w ∧ 0 ≤ h ∧ w ≤ 200 ∧ h ≤ 200 ∧ w * h ≤ 8192 := id
  refine ⟨fun H => ⟨H, ?_⟩, fun H => ⟨H, ?_⟩, fun H => ⟨H, ?_⟩, fun H => ⟨H, ?_⟩, fun hb => ?_, fun hg X1 => ?_⟩
  · have := hS H; omega
  · have := hS H; omega
  · have := hS (Classical.byContradiction fun q => H (.inl q)); omega
  · have := hS (Classical.byContradiction fun q => H (.inl q)); omega
  · have e : ¬ (⟨⟨⟨pw, ph, xs⟩, L⟩, w, h⟩ : PlD).Ok := fun H => by
      obtain ⟨_, b1, b2, b3⟩ := H
      simp only at b1 b2 b3
      simp [b1, b2, b3] at hb
    refine postF.mk' (fun _ => default) [some 0, none] ?_
    simp -implicitDefEqProofs only [push_cast, false_implies, reduceCtorEq, Classical.not_not, Nat.reduceAdd, Nat.reduceSub, Nat.reduceMul, Nat.reduceLeDiff, Nat.reduceLT, Nat.reduceEqDiff, Nat.reduceBEq, Nat.reduceBNe, Int.reduceNeg, Int.reduceToNat, Bool.or_false, Bool.false_or, Bool.or_true, Bool.true_or, BEq.rfl, Bool.not_eq_true, Bool.not_eq_false, decide_eq_true_eq, not_true_eq_false, not_false_eq_true, ite_true, ite_false, List.append_nil, and_assoc, Nat.mul_zero, Nat.zero_mul, fs35, dbl, e, hy, if_false, if_true, lx, pl0]
  have hs : SidesOk w h := Classical.byContradiction fun q => hg (.inl (.inl q))
  have hw2 : pw = (w + 1) / 2 := Classical.byContradiction fun q => hg (.inl (.inr q))
  have hh2 : ph = (h + 1) / 2 := Classical.byContradiction fun q => hg (.inr q)
  have e : (⟨⟨⟨pw, ph, xs⟩, L⟩, w, h⟩ : PlD).Ok := ⟨hy, hs, hw2, hh2⟩
  have hm := hs.bd
  obtain ⟨a1, a2, a3, a4, a5⟩ := id hs
  obtain ⟨hps, hl, ha⟩ : SidesOk pw ph ∧ (xs.length : Int) = pw * ph ∧ AllIn (-16777216) 16777216 xs := id hy
  obtain ⟨w, rfl⟩ : ∃ n : Nat, w = (n : Int) := ⟨w.toNat, by omega⟩
  obtain ⟨h, rfl⟩ : ∃ n : Nat, h = (n : Int) := ⟨h.toNat, by omega⟩
  refine evS_loopU (A := Nat × Xf.Loc) kp36_1 kl36_1 (fun y => [(9, .int .i64 y.1)])
    (fun y => [(16, .mine, X1 3 16, .cells [.int .i64 w, .int .i64 h, .sl 18 y.2 1 0 ((y.1 : Int) * w)]), (18, .mine, y.2, .ints .i64 (tabl (y.1 * w) (dblF w pw xs)))]) (fun y => y.1 ≤ h) (fun y => h - y.1) (0, nilLoc) (Nat.zero_le _) (Sub.pt ?_) ?_
  · simp -implicitDefEqProofs only [push_cast, false_implies, reduceCtorEq, Classical.not_not, Nat.reduceAdd, Nat.reduceSub, Nat.reduceMul, Nat.reduceLeDiff, Nat.reduceLT, Nat.reduceEqDiff, Nat.reduceBEq, Nat.reduceBNe, Int.reduceNeg, Int.reduceToNat, Bool.or_false, Bool.false_or, Bool.or_true, Bool.true_or, BEq.rfl, Bool.not_eq_true, Bool.not_eq_false, decide_eq_true_eq, not_true_eq_false, not_false_eq_true, ite_true, ite_false, List.append_nil, and_assoc, Nat.mul_zero, Nat.zero_mul, Nat.zero_mul, Int.zero_mul, Int.natCast_zero, tabl_zero]
  intro ⟨y, N⟩ (hy1 : y ≤ h) K1 hK1
  simp -implicitDefEqProofs only [push_cast, false_implies, reduceCtorEq, Classical.not_not, Nat.reduceAdd, Nat.reduceSub, Nat.reduceMul, Nat.reduceLeDiff, Nat.reduceLT, Nat.reduceEqDiff, Nat.reduceBEq, Nat.reduceBNe, Int.reduceNeg, Int.reduceToNat, Bool.or_false, Bool.false_or, Bool.or_true, Bool.true_or, BEq.rfl, Bool.not_eq_true, Bool.not_eq_false, decide_eq_true_eq, not_true_eq_false, not_false_eq_true, ite_true, ite_false, List.append_nil, and_assoc, Nat.mul_zero, Nat.zero_mul, b36_1, r36_3, r36_4]
  refine ⟨fun hl1 => ?_, fun hl1 => ?_⟩
  · refine evS_loopU (A := Nat × Xf.Loc) kp36_2 kl36_2 (fun x => [(10, .int .i64 x.1)])
      (fun x => [(16, .mine, X1 3 16, .cells [.int .i64 w, .int .i64 h, .sl 18 x.2 1 0 ((y : Int) * w + x.1)]), (18, .mine, x.2, .ints .i64 (tabl (y * w + x.1) (dblF w pw xs)))]) (fun x => x.1 ≤ w) (fun x => w - x.1) (0, N) (Nat.zero_le _) (Sub.pt ?_) ?_
    · simp -implicitDefEqProofs only [push_cast, false_implies, reduceCtorEq, Classical.not_not, Nat.reduceAdd, Nat.reduceSub, Nat.reduceMul, Nat.reduceLeDiff, Nat.reduceLT, Nat.reduceEqDiff, Nat.reduceBEq, Nat.reduceBNe, Int.reduceNeg, Int.reduceToNat, Bool.or_false, Bool.false_or, Bool.or_true, Bool.true_or, BEq.rfl, Bool.not_eq_true, Bool.not_eq_false, decide_eq_true_eq, not_true_eq_false, not_false_eq_true, ite_true, ite_false, List.append_nil, and_assoc, Nat.mul_zero, Nat.zero_mul, Nat.add_zero, Int.add_zero, Int.natCast_zero]
    intro ⟨x, N2⟩ (hx1 : x ≤ w) K2 hK2
    simp -implicitDefEqProofs only [push_cast, false_implies, reduceCtorEq, Classical.not_not, Nat.reduceAdd, Nat.reduceSub, Nat.reduceMul, Nat.reduceLeDiff, Nat.reduceLT, Nat.reduceEqDiff, Nat.reduceBEq, Nat.reduceBNe, Int.reduceNeg, Int.reduceToNat, Bool.or_false, Bool.false_or, Bool.or_true, Bool.true_or, BEq.rfl, Bool.not_eq_true, Bool.not_eq_false, decide_eq_true_eq, not_true_eq_false, not_false_eq_true, ite_true, ite_false, List.append_nil, and_assoc, Nat.mul_zero, Nat.zero_mul, b36_2, r36_3]
    refine ⟨fun hl2 => ?_, fun hl2 => ?_⟩
    · have hi := idx_bd (a := (y : Int) / 2) (b := (x : Int) / 2) (W := pw) (H := ph) (by omega) (by omega) (by omega) (by omega)
      have hmb := mul_bd (show 0 ≤ (y : Int) / 2 by omega) (show (y : Int) / 2 ≤ 200 by omega) hps.1 hps.2.2.1
      have hix := idx_bd (a := (y : Int)) (b := (x : Int)) (W := w) (H := h) (by omega) (by omega) (by omega) (by omega)
      have lT := tabl_length (y * w + x) (dblF w pw xs)
      have lc : ((y * w + x : Nat) : Int) = (y : Int) * w + x := by simp
      repeat (refine And.intro (by first | omega | trivial | (intros; omega)) ?_)
      intro X2
      rw [lT, lc]
      repeat (refine And.intro (by first | omega | trivial | (intros; omega)) ?_)
      refine hK2 (x + 1, X2 15 18) (show x + 1 ≤ w by omega) (show w - (x + 1) < w - x by omega) _ _ (Sub.pt ?_)
      have q : tabl (y * w + x) (dblF w pw xs) ++ [rd xs ((y : Int) / 2 * pw + (x : Int) / 2)] = tabl (y * w + x + 1) (dblF w pw xs) := by
        rw [← tabl_snoc]; unfold dblF; rw [(dmI (show x < w by omega)).1, (dmI (show x < w by omega)).2]
      simp -implicitDefEqProofs only [push_cast, false_implies, reduceCtorEq, Classical.not_not, Nat.reduceAdd, Nat.reduceSub, Nat.reduceMul, Nat.reduceLeDiff, Nat.reduceLT, Nat.reduceEqDiff, Nat.reduceBEq, Nat.reduceBNe, Int.reduceNeg, Int.reduceToNat, Bool.or_false, Bool.false_or, Bool.or_true, Bool.true_or, BEq.rfl, Bool.not_eq_true, Bool.not_eq_false, decide_eq_true_eq, not_true_eq_false, not_false_eq_true, ite_true, ite_false, List.append_nil, and_assoc, Nat.mul_zero, Nat.zero_mul, q, ← Nat.add_assoc, ← Int.add_assoc]
    · repeat (refine And.intro (by first | omega | trivial | (intros; omega)) ?_)
      have hxW : x = w := by omega
      refine hK1 (y + 1, N2) (show y + 1 ≤ h by omega) (show h - (y + 1) < h - y by omega) _ _ (Sub.pt ?_)
      have e3 : (y + 1) * w = y * w + w := by rw [Nat.add_mul, Nat.one_mul]
      simp -implicitDefEqProofs only [push_cast, false_implies, reduceCtorEq, Classical.not_not, Nat.reduceAdd, Nat.reduceSub, Nat.reduceMul, Nat.reduceLeDiff, Nat.reduceLT, Nat.reduceEqDiff, Nat.reduceBEq, Nat.reduceBNe, Int.reduceNeg, Int.reduceToNat, Bool.or_false, Bool.false_or, Bool.or_true, Bool.true_or, BEq.rfl, Bool.not_eq_true, Bool.not_eq_false, decide_eq_true_eq, not_true_eq_false, not_false_eq_true, ite_true, ite_false, List.append_nil, and_assoc, Nat.mul_zero, Nat.zero_mul, e3, hxW, Int.add_mul, Int.one_mul]
  · obtain rfl : y = h := by omega
    refine postF.mk' (fun _ => N) [some 0, some 18] ?_
    have e4 : ((w : Int) * (y : Int)).toNat = y * w := by rw [Int.mul_comm, ← Int.natCast_mul, Int.toNat_natCast]
    simp -implicitDefEqProofs only [push_cast, false_implies, reduceCtorEq, Classical.not_not, Nat.reduceAdd, Nat.reduceSub, Nat.reduceMul, Nat.reduceLeDiff, Nat.reduceLT, Nat.reduceEqDiff, Nat.reduceBEq, Nat.reduceBNe, Int.reduceNeg, Int.reduceToNat, Bool.or_false, Bool.false_or, Bool.or_true, Bool.true_or, BEq.rfl, Bool.not_eq_true, Bool.not_eq_false, decide_eq_true_eq, not_true_eq_false, not_false_eq_true, ite_true, ite_false, List.append_nil, and_assoc, Nat.mul_zero, Nat.zero_mul, fs35, dbl, e, e4, lx, if_true, tabl_length]
def ent36 : Entry := spOf fs35 inv35
theorem e36 : EntryOk Try.prog 36 ent36 := entry_of ok36 inv35
@[push_cast] theorem ent36_app (us : List SV) (look : Look) (x : Nat → Xf.Loc) (k : Nat) : ent36 us look x k = spOf fs35 inv35 us look x k := rfl
end Go.Proofs.Ytnmbimhcfioeiaa
