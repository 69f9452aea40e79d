import Derived.Test.YtefggfjblhniaaaYi
set_option linter.unusedVariables false
set_option linter.unusedSimpArgs false
/-! Wave: the reference's Quant and Unquant. -/
namespace Go.Proofs.Ytefggfjblhniaaa
open Xf
set_option maxRecDepth 4000
/- incunable/incunableref18.clone : slots 12, labels 10..13 -/
def ir44 : IR :=
  .seq (.reg false [⟨some 1, none, ⟨[], []⟩, .box 10 (.t 0)⟩,
    ⟨some 2, none, ⟨[], []⟩, .alloc 11 [.int .i64 0, .int .i64 0, nilSV]⟩] [0] []) (.seq (.reg true [⟨some 3, none, ⟨[], []⟩, .fld (.t 1) 0⟩,
    ⟨some 4, none, ⟨[12, 13], []⟩, .ld false none 0 0 (.t 3)⟩,
    ⟨some 5, none, ⟨[], []⟩, .fld (.t 1) 1⟩,
    ⟨some 6, none, ⟨[12, 13], []⟩, .ld false none 0 0 (.t 5)⟩,
    ⟨some 7, none, ⟨[], []⟩, .bslice 12 []⟩,
    ⟨some 8, none, ⟨[], []⟩, .fld (.t 1) 2⟩,
    ⟨some 9, none, ⟨[12], []⟩, .ld false none 0 0 (.t 8)⟩,
    ⟨some 10, none, ⟨[], []⟩, .app 13 1 8 (.t 7) (.t 9)⟩,
    ⟨some 11, none, ⟨[], []⟩, .build [.int .i64 0, .int .i64 0, nilSV] [(0, 1, .t 4), (1, 1, .t 6), (2, 1, .t 10)]⟩,
    ⟨none, none, ⟨[], []⟩, .sto false 3 .i64 (.t 2) (.t 11)⟩] [1, 3, 4, 5, 6, 7, 8, 9, 10, 11] []) (.ret))
theorem comp44 : (Try.f44.body.bind fun c => compC tab isP chkAll ir44 c) = some ir44 := by kernel_rfl
/- incunable/incunableref18.Same : slots 24, labels 10..15 -/
def ir24 : IR :=
  .seq (.reg false [⟨some 2, none, ⟨[], []⟩, .box 10 (.t 0)⟩,
    ⟨some 3, none, ⟨[], []⟩, .box 11 (.t 1)⟩,
    ⟨some 4, none, ⟨[], []⟩, .mov (.k (.bool false))⟩] [0, 1, 4] []) (.seq (.reg false [⟨some 5, none, ⟨[], []⟩, .fld (.t 2) 0⟩,
    ⟨some 6, none, ⟨[], []⟩, .ld false none 0 0 (.t 5)⟩,
    ⟨some 7, none, ⟨[], []⟩, .fld (.t 3) 0⟩,
    ⟨some 8, none, ⟨[], []⟩, .ld false none 0 0 (.t 7)⟩,
    ⟨some 9, none, ⟨[], []⟩, .bin 0 .eql (.t 6) (.t 8)⟩,
    ⟨some 10, none, ⟨[], []⟩, .mov (.t 9)⟩,
    ⟨some 11, some (10, true), ⟨[], []⟩, .fld (.t 2) 1⟩,
    ⟨some 12, some (10, true), ⟨[], []⟩, .ld false none 0 0 (.t 11)⟩,
    ⟨some 13, some (10, true), ⟨[], []⟩, .fld (.t 3) 1⟩,
    ⟨some 14, some (10, true), ⟨[], []⟩, .ld false none 0 0 (.t 13)⟩,
    ⟨some 15, some (10, true), ⟨[], []⟩, .bin 0 .eql (.t 12) (.t 14)⟩,
    ⟨some 16, none, ⟨[], []⟩, .pick (.t 10) (.t 15) (.k (.bool false))⟩,
    ⟨some 17, none, ⟨[], []⟩, .mov (.t 16)⟩,
    ⟨some 18, some (17, true), ⟨[], []⟩, .fld (.t 2) 2⟩,
    ⟨some 19, some (17, true), ⟨[], []⟩, .ld false none 0 0 (.t 18)⟩,
    ⟨some 20, some (17, true), ⟨[], []⟩, .fld (.t 3) 2⟩,
    ⟨some 21, some (17, true), ⟨[], []⟩, .ld false none 0 0 (.t 20)⟩,
    ⟨some 22, some (17, true), ⟨[], []⟩, .call (some 4) 12 17 [.t 19, .t 21]⟩,
    ⟨some 23, none, ⟨[], []⟩, .pick (.t 17) (.t 22) (.k (.bool false))⟩,
    ⟨some 4, none, ⟨[], []⟩, .mov (.t 23)⟩] [2, 3, 5, 6, 7, 8, 9, 10, 11, 12, 13, 14, 15, 16, 17, 18, 19, 20, 21, 22, 23] []) (.ret))
theorem comp24 : (Try.f24.body.bind fun c => compC tab isP chkAll ir24 c) = some ir24 := by kernel_rfl
/- incunable/incunableref18.Quant : slots 39, labels 10..20; loop b21_1 keeps [1, 4, 6, 23, 24, 25] -/
def b21_1 : IR :=
  .seq (.reg false [⟨some 26, none, ⟨[], []⟩, .bin 1 .lss (.t 25) (.t 24)⟩] [] []) (.seq (.cond (.t 26) (.skip) (.exit 0)) (.seq (.block 1 (.seq (.reg false [⟨some 27, none, ⟨[], []⟩, .mov (.t 25)⟩,
    ⟨some 28, none, ⟨[], []⟩, .idxS (.t 23) (.t 25) 1⟩,
    ⟨some 29, none, ⟨[], []⟩, .ld true none 0 0 (.t 28)⟩,
    ⟨some 7, none, ⟨[], []⟩, .mov (.t 27)⟩,
    ⟨some 8, none, ⟨[], []⟩, .mov (.t 29)⟩] [26, 27, 28, 29] []) (.reg true [⟨some 30, none, ⟨[], []⟩, .fld (.t 6) 2⟩,
    ⟨some 31, none, ⟨[], []⟩, .ld false none 0 0 (.t 30)⟩,
    ⟨some 32, none, ⟨[], []⟩, .mov (.t 7)⟩,
    ⟨some 33, none, ⟨[], []⟩, .mov (.t 8)⟩,
    ⟨some 34, none, ⟨[], []⟩, .mov (.t 1)⟩,
    ⟨some 35, none, ⟨[], []⟩, .bin 1 .quo (.t 33) (.t 34)⟩,
    ⟨some 36, none, ⟨[], []⟩, .idxS (.t 31) (.t 32) 1⟩,
    ⟨none, none, ⟨[], []⟩, .sto true 1 .i64 (.t 36) (.t 35)⟩] [7, 8, 30, 31, 32, 33, 34, 35, 36] []))) (.reg false [⟨some 37, none, ⟨[], []⟩, .bin 1 .add (.t 25) (.k (.int .i64 1))⟩,
    ⟨some 25, none, ⟨[], []⟩, .mov (.t 37)⟩] [37] [])))
def r21_2 : IR :=
  .seq (.reg false [⟨some 38, none, ⟨[], []⟩, .ld false (some 3) 0 0 (.t 6)⟩,
    ⟨none, none, ⟨[], []⟩, .sto false 3 .i64 (.t 4) (.t 38)⟩,
    ⟨some 5, none, ⟨[], []⟩, .mov (.k (.int .i64 0))⟩] [1, 6, 23, 24, 25, 38] []) (.ret)
def ir21 : IR :=
  .seq (.reg false [⟨some 2, none, ⟨[], []⟩, .box 10 (.t 0)⟩,
    ⟨some 4, none, ⟨[], []⟩, .alloc 11 [.int .i64 0, .int .i64 0, nilSV]⟩,
    ⟨some 5, none, ⟨[], []⟩, .mov (.k (.int .i64 0))⟩] [0, 5] []) (.seq (.seq (.reg false [⟨some 9, none, ⟨[], []⟩, .ld false (some 3) 0 0 (.t 2)⟩,
    ⟨some 10, none, ⟨[], []⟩, .call (some 4) 12 25 [.t 9]⟩,
    ⟨some 11, none, ⟨[], []⟩, .not (.t 10)⟩] [9, 10] []) (.cond (.t 11) (.seq (.reg false [⟨some 12, none, ⟨[], []⟩, .build [.int .i64 0, .int .i64 0, nilSV] []⟩,
    ⟨none, none, ⟨[], []⟩, .sto false 3 .i64 (.t 4) (.t 12)⟩,
    ⟨some 5, none, ⟨[], []⟩, .mov (.k (.int .i64 70))⟩] [1, 2, 11, 12] []) (.ret)) (.skip))) (.seq (.seq (.reg false [⟨some 13, none, ⟨[], []⟩, .mov (.t 1)⟩,
    ⟨some 14, none, ⟨[], []⟩, .bin 1 .lss (.t 13) (.k (.int .i64 1))⟩,
    ⟨some 15, none, ⟨[], []⟩, .mov (.t 14)⟩,
    ⟨some 16, some (15, false), ⟨[], []⟩, .mov (.t 1)⟩,
    ⟨some 17, some (15, false), ⟨[], []⟩, .bin 1 .gtr (.t 16) (.k (.int .i64 1000))⟩,
    ⟨some 18, none, ⟨[], []⟩, .pick (.t 15) (.k (.bool true)) (.t 17)⟩] [5, 11, 13, 14, 15, 16, 17] []) (.cond (.t 18) (.seq (.reg false [⟨some 19, none, ⟨[], []⟩, .build [.int .i64 0, .int .i64 0, nilSV] []⟩,
    ⟨none, none, ⟨[], []⟩, .sto false 3 .i64 (.t 4) (.t 19)⟩,
    ⟨some 5, none, ⟨[], []⟩, .mov (.k (.int .i64 2))⟩] [1, 2, 18, 19] []) (.ret)) (.skip))) (.seq (.reg false [⟨some 20, none, ⟨[], []⟩, .ld false (some 3) 0 0 (.t 2)⟩,
    ⟨some 21, none, ⟨[], []⟩, .call (some 4) 16 44 [.t 20]⟩,
    ⟨some 6, none, ⟨[], []⟩, .alloc 20 [.int .i64 0, .int .i64 0, nilSV]⟩,
    ⟨none, none, ⟨[], []⟩, .sto false 3 .i64 (.t 6) (.t 21)⟩] [5, 18, 20, 21] []) (.seq (.seq (.reg false [⟨some 22, none, ⟨[], []⟩, .fld (.t 2) 2⟩,
    ⟨some 23, none, ⟨[], []⟩, .ld false none 0 0 (.t 22)⟩,
    ⟨some 24, none, ⟨[], []⟩, .len (.t 23)⟩,
    ⟨some 25, none, ⟨[], []⟩, .mov (.k (.int .i64 0))⟩] [2, 22] []) (.block 0 (.loop b21_1))) (r21_2)))))
def kp21_1 : List Nat := [1, 4, 6, 23, 24, 25]
def kl21_1 : List Nat := []
attribute [push_cast] kp21_1 kl21_1
theorem comp21 : (Try.f21.body.bind fun c => compC tab isP chkAll ir21 c) = some ir21 := by kernel_rfl
/- incunable/incunableref18.Unquant : slots 50, labels 10..20; loop b23_1 keeps [1, 4, 6, 23, 24, 25] -/
def b23_1 : IR :=
  .seq (.reg false [⟨some 26, none, ⟨[], []⟩, .bin 0 .lss (.t 25) (.t 24)⟩] [] []) (.seq (.cond (.t 26) (.skip) (.exit 0)) (.seq (.block 1 (.seq (.reg false [⟨some 27, none, ⟨[], []⟩, .mov (.t 25)⟩,
    ⟨some 28, none, ⟨[], []⟩, .idxS (.t 23) (.t 25) 1⟩,
    ⟨some 29, none, ⟨[], []⟩, .ld true none 0 0 (.t 28)⟩,
    ⟨some 7, none, ⟨[], []⟩, .mov (.t 27)⟩,
    ⟨some 8, none, ⟨[], []⟩, .mov (.t 29)⟩] [26, 27, 28, 29] []) (.seq (.seq (.reg false [⟨some 30, none, ⟨[], []⟩, .mov (.t 8)⟩,
    ⟨some 31, none, ⟨[], []⟩, .mov (.t 1)⟩,
    ⟨some 32, none, ⟨[], []⟩, .bin 0 .mul (.t 30) (.t 31)⟩,
    ⟨some 33, none, ⟨[], []⟩, .bin 0 .lss (.t 32) (.k (.int .i64 (-16777216)))⟩,
    ⟨some 34, none, ⟨[], []⟩, .mov (.t 33)⟩,
    ⟨some 35, some (34, false), ⟨[], []⟩, .mov (.t 8)⟩,
    ⟨some 36, some (34, false), ⟨[], []⟩, .mov (.t 1)⟩,
    ⟨some 37, some (34, false), ⟨[], []⟩, .bin 0 .mul (.t 35) (.t 36)⟩,
    ⟨some 38, some (34, false), ⟨[], []⟩, .bin 0 .gtr (.t 37) (.k (.int .i64 16777216))⟩,
    ⟨some 39, none, ⟨[], []⟩, .pick (.t 34) (.k (.bool true)) (.t 38)⟩] [30, 31, 32, 33, 34, 35, 36, 37, 38] []) (.cond (.t 39) (.seq (.reg false [⟨some 40, none, ⟨[], []⟩, .build [.int .i64 0, .int .i64 0, nilSV] []⟩,
    ⟨none, none, ⟨[], []⟩, .sto false 3 .i64 (.t 4) (.t 40)⟩,
    ⟨some 5, none, ⟨[], []⟩, .mov (.k (.int .i64 4))⟩] [1, 6, 7, 8, 23, 24, 25, 39, 40] []) (.ret)) (.skip))) (.reg false [⟨some 41, none, ⟨[], []⟩, .fld (.t 6) 2⟩,
    ⟨some 42, none, ⟨[], []⟩, .ld false none 0 0 (.t 41)⟩,
    ⟨some 43, none, ⟨[], []⟩, .mov (.t 7)⟩,
    ⟨some 44, none, ⟨[], []⟩, .mov (.t 8)⟩,
    ⟨some 45, none, ⟨[], []⟩, .mov (.t 1)⟩,
    ⟨some 46, none, ⟨[], []⟩, .bin 0 .mul (.t 44) (.t 45)⟩,
    ⟨some 47, none, ⟨[], []⟩, .idxS (.t 42) (.t 43) 1⟩,
    ⟨none, none, ⟨[], []⟩, .sto true 1 .i64 (.t 47) (.t 46)⟩] [5, 7, 8, 39, 41, 42, 43, 44, 45, 46, 47] [])))) (.reg false [⟨some 48, none, ⟨[], []⟩, .bin 0 .add (.t 25) (.k (.int .i64 1))⟩,
    ⟨some 25, none, ⟨[], []⟩, .mov (.t 48)⟩] [48] [])))
def r23_2 : IR :=
  .seq (.reg false [⟨some 49, none, ⟨[], []⟩, .ld false (some 3) 0 0 (.t 6)⟩,
    ⟨none, none, ⟨[], []⟩, .sto false 3 .i64 (.t 4) (.t 49)⟩,
    ⟨some 5, none, ⟨[], []⟩, .mov (.k (.int .i64 0))⟩] [1, 6, 23, 24, 25, 49] []) (.ret)
def ir23 : IR :=
  .seq (.reg false [⟨some 2, none, ⟨[], []⟩, .box 10 (.t 0)⟩,
    ⟨some 4, none, ⟨[], []⟩, .alloc 11 [.int .i64 0, .int .i64 0, nilSV]⟩,
    ⟨some 5, none, ⟨[], []⟩, .mov (.k (.int .i64 0))⟩] [0, 5] []) (.seq (.seq (.reg false [⟨some 9, none, ⟨[], []⟩, .ld false (some 3) 0 0 (.t 2)⟩,
    ⟨some 10, none, ⟨[], []⟩, .call (some 4) 12 25 [.t 9]⟩,
    ⟨some 11, none, ⟨[], []⟩, .not (.t 10)⟩] [9, 10] []) (.cond (.t 11) (.seq (.reg false [⟨some 12, none, ⟨[], []⟩, .build [.int .i64 0, .int .i64 0, nilSV] []⟩,
    ⟨none, none, ⟨[], []⟩, .sto false 3 .i64 (.t 4) (.t 12)⟩,
    ⟨some 5, none, ⟨[], []⟩, .mov (.k (.int .i64 70))⟩] [1, 2, 11, 12] []) (.ret)) (.skip))) (.seq (.seq (.reg false [⟨some 13, none, ⟨[], []⟩, .mov (.t 1)⟩,
    ⟨some 14, none, ⟨[], []⟩, .bin 0 .lss (.t 13) (.k (.int .i64 1))⟩,
    ⟨some 15, none, ⟨[], []⟩, .mov (.t 14)⟩,
    ⟨some 16, some (15, false), ⟨[], []⟩, .mov (.t 1)⟩,
    ⟨some 17, some (15, false), ⟨[], []⟩, .bin 0 .gtr (.t 16) (.k (.int .i64 1000))⟩,
    ⟨some 18, none, ⟨[], []⟩, .pick (.t 15) (.k (.bool true)) (.t 17)⟩] [5, 11, 13, 14, 15, 16, 17] []) (.cond (.t 18) (.seq (.reg false [⟨some 19, none, ⟨[], []⟩, .build [.int .i64 0, .int .i64 0, nilSV] []⟩,
    ⟨none, none, ⟨[], []⟩, .sto false 3 .i64 (.t 4) (.t 19)⟩,
    ⟨some 5, none, ⟨[], []⟩, .mov (.k (.int .i64 2))⟩] [1, 2, 18, 19] []) (.ret)) (.skip))) (.seq (.reg false [⟨some 20, none, ⟨[], []⟩, .ld false (some 3) 0 0 (.t 2)⟩,
    ⟨some 21, none, ⟨[], []⟩, .call (some 4) 16 44 [.t 20]⟩,
    ⟨some 6, none, ⟨[], []⟩, .alloc 20 [.int .i64 0, .int .i64 0, nilSV]⟩,
    ⟨none, none, ⟨[], []⟩, .sto false 3 .i64 (.t 6) (.t 21)⟩] [5, 18, 20, 21] []) (.seq (.seq (.reg false [⟨some 22, none, ⟨[], []⟩, .fld (.t 2) 2⟩,
    ⟨some 23, none, ⟨[], []⟩, .ld false none 0 0 (.t 22)⟩,
    ⟨some 24, none, ⟨[], []⟩, .len (.t 23)⟩,
    ⟨some 25, none, ⟨[], []⟩, .mov (.k (.int .i64 0))⟩] [2, 22] []) (.block 0 (.loop b23_1))) (r23_2)))))
def kp23_1 : List Nat := [1, 4, 6, 23, 24, 25]
def kl23_1 : List Nat := []
attribute [push_cast] kp23_1 kl23_1
theorem comp23 : (Try.f23.body.bind fun c => compC tab isP chkAll ir23 c) = some ir23 := by kernel_rfl
set_option maxRecDepth 512

def fs44 : FS where
  A := PlA
  args := fun a => [plV a.p a.L 0]
  mem := fun a => [some (.ro, a.L, .ints .i64 a.p.xs)]
  pre := fun a => a.p.xs.length ≤ 1000000000000
  res := fun a x => plV a.p (x 0) 1
  out := fun _ _ => []
  new := fun a x => [(x 0, .ints .i64 a.p.xs)]
theorem ok44 : FSOk Try.prog 44 fs44 := by
  refine ⟨⟨_, Try.func44, by kernel_rfl, by kernel_rfl⟩, fun a => ⟨by simp [fs44, push_cast, noMine, argOwn, Chunk.frArg], by simp [fs44, push_cast, outOk, Chunk.ext], fun x => .inl (by simp [fs44, push_cast, frNew, frOut, Chunk.fr])⟩, fun a hp => ?_⟩
  obtain ⟨⟨w, h, xs⟩, L⟩ := a
  change xs.length ≤ 1000000000000 at hp
  change Tri Try.prog 44 [plV ⟨w, h, xs⟩ L 0] [some (.ro, L, .ints .i64 xs)] (postF fs44 ⟨⟨w, h, xs⟩, L⟩)
  refine tri_evS (hyp (l := []) (lp := []) trivial trivial) Try.func44 comp44 (rs := [.cell 2 (some 3)]) (by rfl) Try.ntmps44 14 ?_
  simp -implicitDefEqProofs only [push_cast, false_implies, reduceCtorEq, Classical.not_not, Nat.reduceAdd, Nat.reduceSub, Nat.reduceMul, Nat.reduceLeDiff, Nat.reduceLT, Nat.reduceEqDiff, Nat.reduceBEq, Nat.reduceBNe, Int.reduceNeg, Int.reduceToNat, Bool.or_false, Bool.false_or, Bool.or_true, Bool.true_or, BEq.rfl, Bool.not_eq_true, Bool.not_eq_false, decide_eq_true_eq, not_true_eq_false, not_false_eq_true, ite_true, ite_false, List.append_nil, and_assoc, Nat.mul_zero, Nat.zero_mul, ir44]
  refine fun X X1 => ?_
  repeat (refine And.intro (by first | omega | trivial | (intros; omega)) ?_)
  refine postF.mk' (fun _ => X1 7 13) [some 0, some 13] ?_
  simp -implicitDefEqProofs only [push_cast, false_implies, reduceCtorEq, Classical.not_not, Nat.reduceAdd, Nat.reduceSub, Nat.reduceMul, Nat.reduceLeDiff, Nat.reduceLT, Nat.reduceEqDiff, Nat.reduceBEq, Nat.reduceBNe, Int.reduceNeg, Int.reduceToNat, Bool.or_false, Bool.false_or, Bool.or_true, Bool.true_or, BEq.rfl, Bool.not_eq_true, Bool.not_eq_false, decide_eq_true_eq, not_true_eq_false, not_false_eq_true, ite_true, ite_false, List.append_nil, and_assoc, Nat.mul_zero, Nat.zero_mul, fs44]
def ent44 : Entry := spOf fs44 inv60
theorem e44 : EntryOk Try.prog 44 ent44 := entry_of ok44 inv60
@[push_cast] theorem ent44_app (us : List SV) (look : Look) (x : Nat → Xf.Loc) (k : Nat) : ent44 us look x k = spOf fs44 inv60 us look x k := rfl
def fs24 : FS where
  A := Pl2
  args := fun a => [plV a.a.p a.a.L 0, plV a.b.p a.b.L 1]
  mem := fun a => [some (.ro, a.a.L, .ints .i64 a.a.p.xs), some (.ro, a.b.L, .ints .i64 a.b.p.xs)]
  pre := fun a => a.a.p.xs.length ≤ 140737488355328 ∧ a.b.p.xs.length ≤ 140737488355328
  res := fun a _ => .bool (decide (a.a.p.Eq a.b.p))
  out := fun _ _ => []
  new := fun _ _ => []
def inv24 : List SV → Look → Option (Pl2 × List Nat)
  | [v, u], look => match getP look v, getP look u with
    | some (a, g), some (b, g') => some (⟨a, b⟩, g ++ g')
    | _, _ => none
  | _, _ => none
attribute [push_cast] inv24
theorem ok24 : FSOk Try.prog 24 fs24 := by
  refine ⟨⟨_, Try.func24, by kernel_rfl, by kernel_rfl⟩, fun a => ⟨by simp [fs24, push_cast, noMine, argOwn, Chunk.frArg], by simp [fs24, push_cast, outOk, Chunk.ext], fun x => .inl (by simp [fs24, push_cast, frNew, frOut, Chunk.fr])⟩, fun a hp => ?_⟩
  obtain ⟨⟨⟨w, h, xs⟩, L⟩, ⟨⟨w', h', ys⟩, M⟩⟩ := a
  obtain ⟨hp1, hp2⟩ : xs.length ≤ 140737488355328 ∧ ys.length ≤ 140737488355328 := hp
  change Tri Try.prog 24 [plV ⟨w, h, xs⟩ L 0, plV ⟨w', h', ys⟩ M 1] [some (.ro, L, .ints .i64 xs), some (.ro, M, .ints .i64 ys)] (postF fs24 ⟨⟨⟨w, h, xs⟩, L⟩, ⟨⟨w', h', ys⟩, M⟩⟩)
  refine tri_evS (hyp (l := [(17, ent17)]) (lp := []) ⟨e17, trivial⟩ trivial) Try.func24 comp24 (rs := [.tmp 4]) (by rfl) Try.ntmps24 16 ?_
  simp -implicitDefEqProofs only [push_cast, false_implies, reduceCtorEq, Classical.not_not, Nat.reduceAdd, Nat.reduceSub, Nat.reduceMul, Nat.reduceLeDiff, Nat.reduceLT, Nat.reduceEqDiff, Nat.reduceBEq, Nat.reduceBNe, Int.reduceNeg, Int.reduceToNat, Bool.or_false, Bool.false_or, Bool.or_true, Bool.true_or, BEq.rfl, Bool.not_eq_true, Bool.not_eq_false, decide_eq_true_eq, not_true_eq_false, not_false_eq_true, ite_true, ite_false, List.append_nil, and_assoc, Nat.mul_zero, Nat.zero_mul, ir24, fs17, hp1, hp2]
  refine fun X => ⟨fun H => ⟨H.1, H.2, H⟩, ?_⟩
  refine postF.mk' (fun _ => default) [some 0, some 1] ?_
  simp -implicitDefEqProofs only [push_cast, false_implies, reduceCtorEq, Classical.not_not, Nat.reduceAdd, Nat.reduceSub, Nat.reduceMul, Nat.reduceLeDiff, Nat.reduceLT, Nat.reduceEqDiff, Nat.reduceBEq, Nat.reduceBNe, Int.reduceNeg, Int.reduceToNat, Bool.or_false, Bool.false_or, Bool.or_true, Bool.true_or, BEq.rfl, Bool.not_eq_true, Bool.not_eq_false, decide_eq_true_eq, not_true_eq_false, not_false_eq_true, ite_true, ite_false, List.append_nil, and_assoc, Nat.mul_zero, Nat.zero_mul, fs24, Pl.Eq]
def ent24 : Entry := spOf fs24 inv24
theorem e24 : EntryOk Try.prog 24 ent24 := entry_of ok24 inv24
@[push_cast] theorem ent24_app (us : List SV) (look : Look) (x : Nat → Xf.Loc) (k : Nat) : ent24 us look x k = spOf fs24 inv24 us look x k := rfl

theorem eachL_q {xs : List Int} (h : AllIn (-16777216) 16777216 xs) (q : Int) : AllIn (-16777216) 16777216 (eachL qT xs q) := by
  rw [allIn_rd]
  intro j hj
  unfold eachL at hj ⊢
  rw [tabl_length] at hj
  rw [rd_tabl hj]
  exact qT_bd (rd_bd h (by omega) (by omega) _)
theorem ok21 : FSOk Try.prog 21 fs20 := by
  refine ⟨⟨_, Try.func21, by kernel_rfl, by kernel_rfl⟩, fun a => ⟨by simp [fs20, push_cast, noMine, argOwn, Chunk.frArg], by simp [fs20, push_cast, outOk, Chunk.ext], fun x => .inl (by simp [fs20, push_cast, frNew, frOut, Chunk.fr])⟩, fun a hp => ?_⟩
  obtain ⟨⟨⟨w, h, xs⟩, L⟩, q, M⟩ := a
  change xs.length ≤ 140737488355328 at hp
  change Tri Try.prog 21 [plV ⟨w, h, xs⟩ L 0, .int .i64 q] [some (.ro, L, .ints .i64 xs)] (postF fs20 ⟨⟨⟨w, h, xs⟩, L⟩, q, M⟩)
  refine tri_evS (hyp (l := [(25, ent25), (44, ent44)]) (lp := []) ⟨e25, e44, trivial⟩ trivial) Try.func21 comp21 (rs := [.cell 4 (some 3), .tmp 5]) (by rfl) Try.ntmps21 21 ?_
  simp -implicitDefEqProofs only [push_cast, false_implies, reduceCtorEq, Classical.not_not, Nat.reduceAdd, Nat.reduceSub, Nat.reduceMul, Nat.reduceLeDiff, Nat.reduceLT, Nat.reduceEqDiff, Nat.reduceBEq, Nat.reduceBNe, Int.reduceNeg, Int.reduceToNat, Bool.or_false, Bool.false_or, Bool.or_true, Bool.true_or, BEq.rfl, Bool.not_eq_true, Bool.not_eq_false, decide_eq_true_eq, not_true_eq_false, not_false_eq_true, ite_true, ite_false, List.append_nil, and_assoc, Nat.mul_zero, Nat.zero_mul, ir21, fs60, fs44]
  refine fun X => ⟨hp, fun hn => ?_, fun hy => ⟨fun hb => ?_, fun hg X1 => ?_⟩⟩
  · have e : ¬ eOk qT ⟨w, h, xs⟩ q := fun H => hn H.1
    refine postF.mk' (fun _ => default) [some 0, none] ?_
    simp -implicitDefEqProofs only [push_cast, false_implies, reduceCtorEq, Classical.not_not, Nat.reduceAdd, Nat.reduceSub, Nat.reduceMul, Nat.reduceLeDiff, Nat.reduceLT, Nat.reduceEqDiff, Nat.reduceBEq, Nat.reduceBNe, Int.reduceNeg, Int.reduceToNat, Bool.or_false, Bool.false_or, Bool.or_true, Bool.true_or, BEq.rfl, Bool.not_eq_true, Bool.not_eq_false, decide_eq_true_eq, not_true_eq_false, not_false_eq_true, ite_true, ite_false, List.append_nil, and_assoc, Nat.mul_zero, Nat.zero_mul, fs20, eachP, eErr, e, hn, if_false, lx, pl0]
  · have e0 : ¬ qR q := fun H => by obtain ⟨r1, r2⟩ := H; omega
    have e : ¬ eOk qT ⟨w, h, xs⟩ q := fun H => e0 H.2.1
    refine postF.mk' (fun _ => default) [some 0, none] ?_
    simp -implicitDefEqProofs only [push_cast, false_implies, reduceCtorEq, Classical.not_not, Nat.reduceAdd, Nat.reduceSub, Nat.reduceMul, Nat.reduceLeDiff, Nat.reduceLT, Nat.reduceEqDiff, Nat.reduceBEq, Nat.reduceBNe, Int.reduceNeg, Int.reduceToNat, Bool.or_false, Bool.false_or, Bool.or_true, Bool.true_or, BEq.rfl, Bool.not_eq_true, Bool.not_eq_false, decide_eq_true_eq, not_true_eq_false, not_false_eq_true, ite_true, ite_false, List.append_nil, and_assoc, Nat.mul_zero, Nat.zero_mul, fs20, eachP, eErr, e, e0, hy, if_false, if_true, lx, pl0]
  have hq : qR q := ⟨by omega, by omega⟩
  obtain ⟨hq1, hq2⟩ := id hq
  obtain ⟨hs, hl, ha⟩ : SidesOk w h ∧ (xs.length : Int) = w * h ∧ AllIn (-16777216) 16777216 xs := id hy
  have hm := hs.bd
  have e : eOk qT ⟨w, h, xs⟩ q := ⟨hy, hq, eachL_q ha q⟩
  obtain ⟨f, hf⟩ : ∃ f : Nat → Int, (fun k => qT (rd xs (k : Nat)) q) = f := ⟨_, rfl⟩
  have hfk : ∀ k : Nat, f k = (rd xs k).tdiv q := fun k => by rw [← hf]; rfl
  repeat (refine And.intro (by first | omega | trivial | (intros; omega)) ?_)
  refine evS_loopU (A := Nat) kp21_1 kl21_1 (fun k => [(25, .int .i64 k)]) (fun k => [(16, .mine, X1 1 16, .ints .i64 (trn xs.length k f xs))])
    (fun k => k ≤ xs.length) (fun k => xs.length - k) 0 (by omega) (Sub.pt ?_) ?_
  · simp -implicitDefEqProofs only [push_cast, false_implies, reduceCtorEq, Classical.not_not, Nat.reduceAdd, Nat.reduceSub, Nat.reduceMul, Nat.reduceLeDiff, Nat.reduceLT, Nat.reduceEqDiff, Nat.reduceBEq, Nat.reduceBNe, Int.reduceNeg, Int.reduceToNat, Bool.or_false, Bool.false_or, Bool.or_true, Bool.true_or, BEq.rfl, Bool.not_eq_true, Bool.not_eq_false, decide_eq_true_eq, not_true_eq_false, not_false_eq_true, ite_true, ite_false, List.append_nil, and_assoc, Nat.mul_zero, Nat.zero_mul, trn_zero f rfl]
  intro k (hk : k ≤ xs.length) K hK
  simp -implicitDefEqProofs only [push_cast, false_implies, reduceCtorEq, Classical.not_not, Nat.reduceAdd, Nat.reduceSub, Nat.reduceMul, Nat.reduceLeDiff, Nat.reduceLT, Nat.reduceEqDiff, Nat.reduceBEq, Nat.reduceBNe, Int.reduceNeg, Int.reduceToNat, Bool.or_false, Bool.false_or, Bool.or_true, Bool.true_or, BEq.rfl, Bool.not_eq_true, Bool.not_eq_false, decide_eq_true_eq, not_true_eq_false, not_false_eq_true, ite_true, ite_false, List.append_nil, and_assoc, Nat.mul_zero, Nat.zero_mul, b21_1, r21_2]
  refine ⟨fun hl => ?_, fun hl => ?_⟩
  · have hv := rd_bd ha (by omega) (by omega) (k : Int)
    have ht := tdiv_bd (rd xs k) q
    have hk' : k < xs.length := by omega
    have q2 := trn_set hk' f xs (hfk k)
    simp only [trn_length]
    repeat (refine And.intro (by first | omega | trivial | (intros; omega)) ?_)
    refine hK (k + 1) (by omega) (by omega) _ _ (Sub.pt ?_)
    have ew : IntKind.i64.wrap ((k : Int) + 1) = k + 1 := inR_wrap (k := .i64) ⟨by omega, by omega⟩
    simp -implicitDefEqProofs only [push_cast, false_implies, reduceCtorEq, Classical.not_not, Nat.reduceAdd, Nat.reduceSub, Nat.reduceMul, Nat.reduceLeDiff, Nat.reduceLT, Nat.reduceEqDiff, Nat.reduceBEq, Nat.reduceBNe, Int.reduceNeg, Int.reduceToNat, Bool.or_false, Bool.false_or, Bool.or_true, Bool.true_or, BEq.rfl, Bool.not_eq_true, Bool.not_eq_false, decide_eq_true_eq, not_true_eq_false, not_false_eq_true, ite_true, ite_false, List.append_nil, and_assoc, Nat.mul_zero, Nat.zero_mul, ew, Int.toNat_natCast, q2]
  · obtain rfl : k = xs.length := by omega
    refine postF.mk' (fun _ => X1 1 16) [some 0, some 16] ?_
    have hL : tabl xs.length f = eachL qT xs q := by unfold eachL; rw [hf]
    have hel : (eachL qT xs q).length = xs.length := tabl_length _ _
    simp -implicitDefEqProofs only [push_cast, false_implies, reduceCtorEq, Classical.not_not, Nat.reduceAdd, Nat.reduceSub, Nat.reduceMul, Nat.reduceLeDiff, Nat.reduceLT, Nat.reduceEqDiff, Nat.reduceBEq, Nat.reduceBNe, Int.reduceNeg, Int.reduceToNat, Bool.or_false, Bool.false_or, Bool.or_true, Bool.true_or, BEq.rfl, Bool.not_eq_true, Bool.not_eq_false, decide_eq_true_eq, not_true_eq_false, not_false_eq_true, ite_true, ite_false, List.append_nil, and_assoc, Nat.mul_zero, Nat.zero_mul, fs20, eachP, eErr, e, trn_all, hL, hel, if_true, lx]
def ent21 : Entry := spOf fs20 inv20
theorem e21 : EntryOk Try.prog 21 ent21 := entry_of ok21 inv20
@[push_cast] theorem ent21_app (us : List SV) (look : Look) (x : Nat → Xf.Loc) (k : Nat) : ent21 us look x k = spOf fs20 inv20 us look x k := rfl

theorem ok23 : FSOk Try.prog 23 fs22 := by
  refine ⟨⟨_, Try.func23, by kernel_rfl, by kernel_rfl⟩, fun a => ⟨by simp [fs22, push_cast, noMine, argOwn, Chunk.frArg], by simp [fs22, push_cast, outOk, Chunk.ext], fun x => .inl (by simp [fs22, push_cast, frNew, frOut, Chunk.fr])⟩, fun a hp => ?_⟩
  obtain ⟨⟨⟨w, h, xs⟩, L⟩, q, M⟩ := a
  change xs.length ≤ 140737488355328 at hp
  change Tri Try.prog 23 [plV ⟨w, h, xs⟩ L 0, .int .i64 q] [some (.ro, L, .ints .i64 xs)] (postF fs22 ⟨⟨⟨w, h, xs⟩, L⟩, q, M⟩)
  refine tri_evS (hyp (l := [(25, ent25), (44, ent44)]) (lp := []) ⟨e25, e44, trivial⟩ trivial) Try.func23 comp23 (rs := [.cell 4 (some 3), .tmp 5]) (by rfl) Try.ntmps23 21 ?_
  simp -implicitDefEqProofs only [push_cast, false_implies, reduceCtorEq, Classical.not_not, Nat.reduceAdd, Nat.reduceSub, Nat.reduceMul, Nat.reduceLeDiff, Nat.reduceLT, Nat.reduceEqDiff, Nat.reduceBEq, Nat.reduceBNe, Int.reduceNeg, Int.reduceToNat, Bool.or_false, Bool.false_or, Bool.or_true, Bool.true_or, BEq.rfl, Bool.not_eq_true, Bool.not_eq_false, decide_eq_true_eq, not_true_eq_false, not_false_eq_true, ite_true, ite_false, List.append_nil, and_assoc, Nat.mul_zero, Nat.zero_mul, ir23, fs60, fs44]
  refine fun X => ⟨hp, fun hn => ?_, fun hy => ⟨fun hb => ?_, fun hg X1 => ?_⟩⟩
  · have e : ¬ eOk uT ⟨w, h, xs⟩ q := fun H => hn H.1
    refine postF.mk' (fun _ => default) [some 0, none] ?_
    simp -implicitDefEqProofs only [push_cast, false_implies, reduceCtorEq, Classical.not_not, Nat.reduceAdd, Nat.reduceSub, Nat.reduceMul, Nat.reduceLeDiff, Nat.reduceLT, Nat.reduceEqDiff, Nat.reduceBEq, Nat.reduceBNe, Int.reduceNeg, Int.reduceToNat, Bool.or_false, Bool.false_or, Bool.or_true, Bool.true_or, BEq.rfl, Bool.not_eq_true, Bool.not_eq_false, decide_eq_true_eq, not_true_eq_false, not_false_eq_true, ite_true, ite_false, List.append_nil, and_assoc, Nat.mul_zero, Nat.zero_mul, fs22, eachP, eErr, e, hn, if_false, lx, pl0]
  · have e0 : ¬ qR q := fun H => by obtain ⟨r1, r2⟩ := H; omega
    have e : ¬ eOk uT ⟨w, h, xs⟩ q := fun H => e0 H.2.1
    refine postF.mk' (fun _ => default) [some 0, none] ?_
    simp -implicitDefEqProofs only [push_cast, false_implies, reduceCtorEq, Classical.not_not, Nat.reduceAdd, Nat.reduceSub, Nat.reduceMul, Nat.reduceLeDiff, Nat.reduceLT, Nat.reduceEqDiff, Nat.reduceBEq, Nat.reduceBNe, Int.reduceNeg, Int.reduceToNat, Bool.or_false, Bool.false_or, Bool.or_true, Bool.true_or, BEq.rfl, Bool.not_eq_true, Bool.not_eq_false, decide_eq_true_eq, not_true_eq_false, not_false_eq_true, ite_true, ite_false, List.append_nil, and_assoc, Nat.mul_zero, Nat.zero_mul, fs22, eachP, eErr, e, e0, hy, if_false, if_true, lx, pl0]
  have hq : qR q := ⟨by omega, by omega⟩
  obtain ⟨hq1, hq2⟩ := id hq
  obtain ⟨hs, hl, ha⟩ : SidesOk w h ∧ (xs.length : Int) = w * h ∧ AllIn (-16777216) 16777216 xs := id hy
  have hm := hs.bd
  obtain ⟨f, hf⟩ : ∃ f : Nat → Int, (fun k => uT (rd xs (k : Nat)) q) = f := ⟨_, rfl⟩
  have hfk : ∀ k : Nat, f k = rd xs k * q := fun k => by rw [← hf]; rfl
  have hL : tabl xs.length f = eachL uT xs q := by unfold eachL; rw [hf]
  have hel : (eachL uT xs q).length = xs.length := tabl_length _ _
  repeat (refine And.intro (by first | omega | trivial | (intros; omega)) ?_)
  refine evS_loopU (A := Nat) kp23_1 kl23_1 (fun k => [(25, .int .i64 k)]) (fun k => [(16, .mine, X1 1 16, .ints .i64 (trn xs.length k f xs))])
    (fun k => k ≤ xs.length ∧ ∀ j : Nat, j < k → -16777216 ≤ f j ∧ f j ≤ 16777216) (fun k => xs.length - k) 0 ⟨by omega, by omega⟩ (Sub.pt ?_) ?_
  · simp -implicitDefEqProofs only [push_cast, false_implies, reduceCtorEq, Classical.not_not, Nat.reduceAdd, Nat.reduceSub, Nat.reduceMul, Nat.reduceLeDiff, Nat.reduceLT, Nat.reduceEqDiff, Nat.reduceBEq, Nat.reduceBNe, Int.reduceNeg, Int.reduceToNat, Bool.or_false, Bool.false_or, Bool.or_true, Bool.true_or, BEq.rfl, Bool.not_eq_true, Bool.not_eq_false, decide_eq_true_eq, not_true_eq_false, not_false_eq_true, ite_true, ite_false, List.append_nil, and_assoc, Nat.mul_zero, Nat.zero_mul, trn_zero f rfl]
  intro k ⟨hk, hin⟩ K hK
  simp -implicitDefEqProofs only [push_cast, false_implies, reduceCtorEq, Classical.not_not, Nat.reduceAdd, Nat.reduceSub, Nat.reduceMul, Nat.reduceLeDiff, Nat.reduceLT, Nat.reduceEqDiff, Nat.reduceBEq, Nat.reduceBNe, Int.reduceNeg, Int.reduceToNat, Bool.or_false, Bool.false_or, Bool.or_true, Bool.true_or, BEq.rfl, Bool.not_eq_true, Bool.not_eq_false, decide_eq_true_eq, not_true_eq_false, not_false_eq_true, ite_true, ite_false, List.append_nil, and_assoc, Nat.mul_zero, Nat.zero_mul, b23_1, r23_2]
  refine ⟨fun hl => ?_, fun hl => ?_⟩
  · have hv := rd_bd ha (by omega) (by omega) (k : Int)
    have ht := uT_bd hv hq
    unfold uT at ht
    have hk' : k < xs.length := by omega
    have q2 := trn_set hk' f xs (hfk k)
    simp only [trn_length]
    repeat (refine And.intro (by first | omega | trivial | (intros; omega)) ?_)
    refine ⟨fun hb => ?_, fun hg => ?_⟩
    · have e : ¬ eOk uT ⟨w, h, xs⟩ q := fun H => by
        have h3 := H.2.2
        simp only at h3
        rw [← hL, allIn_rd] at h3
        have := h3 k (by rw [tabl_length]; exact hk')
        rw [rd_tabl hk', hfk] at this
        omega
      refine postF.mk' (fun _ => default) [some 0, none] ?_
      simp -implicitDefEqProofs only [push_cast, false_implies, reduceCtorEq, Classical.not_not, Nat.reduceAdd, Nat.reduceSub, Nat.reduceMul, Nat.reduceLeDiff, Nat.reduceLT, Nat.reduceEqDiff, Nat.reduceBEq, Nat.reduceBNe, Int.reduceNeg, Int.reduceToNat, Bool.or_false, Bool.false_or, Bool.or_true, Bool.true_or, BEq.rfl, Bool.not_eq_true, Bool.not_eq_false, decide_eq_true_eq, not_true_eq_false, not_false_eq_true, ite_true, ite_false, List.append_nil, and_assoc, Nat.mul_zero, Nat.zero_mul, fs22, eachP, eErr, e, hq, hy, if_false, if_true, lx, pl0]
    · repeat (refine And.intro (by first | omega | trivial | (intros; omega)) ?_)
      refine hK (k + 1) ⟨by omega, fun j hj => ?_⟩ (by omega) _ _ (Sub.pt ?_)
      · by_cases ej : j = k
        · subst ej; rw [hfk]; omega
        · exact hin j (by omega)
      · simp -implicitDefEqProofs only [push_cast, false_implies, reduceCtorEq, Classical.not_not, Nat.reduceAdd, Nat.reduceSub, Nat.reduceMul, Nat.reduceLeDiff, Nat.reduceLT, Nat.reduceEqDiff, Nat.reduceBEq, Nat.reduceBNe, Int.reduceNeg, Int.reduceToNat, Bool.or_false, Bool.false_or, Bool.or_true, Bool.true_or, BEq.rfl, Bool.not_eq_true, Bool.not_eq_false, decide_eq_true_eq, not_true_eq_false, not_false_eq_true, ite_true, ite_false, List.append_nil, and_assoc, Nat.mul_zero, Nat.zero_mul, Int.toNat_natCast, q2]
  · obtain rfl : k = xs.length := by omega
    have e : eOk uT ⟨w, h, xs⟩ q := ⟨hy, hq, by
      rw [← hL, allIn_rd]
      intro j hj
      rw [tabl_length] at hj
      rw [rd_tabl hj]
      exact hin j hj⟩
    refine postF.mk' (fun _ => X1 1 16) [some 0, some 16] ?_
    simp -implicitDefEqProofs only [push_cast, false_implies, reduceCtorEq, Classical.not_not, Nat.reduceAdd, Nat.reduceSub, Nat.reduceMul, Nat.reduceLeDiff, Nat.reduceLT, Nat.reduceEqDiff, Nat.reduceBEq, Nat.reduceBNe, Int.reduceNeg, Int.reduceToNat, Bool.or_false, Bool.false_or, Bool.or_true, Bool.true_or, BEq.rfl, Bool.not_eq_true, Bool.not_eq_false, decide_eq_true_eq, not_true_eq_false, not_false_eq_true, ite_true, ite_false, List.append_nil, and_assoc, Nat.mul_zero, Nat.zero_mul, fs22, eachP, eErr, e, trn_all, hL, hel, if_true, lx]
def ent23 : Entry := spOf fs22 inv22
theorem e23 : EntryOk Try.prog 23 ent23 := entry_of ok23 inv22
@[push_cast] theorem ent23_app (us : List SV) (look : Look) (x : Nat → Xf.Loc) (k : Nat) : ent23 us look x k = spOf fs22 inv22 us look x k := rfl
end Go.Proofs.Ytefggfjblhniaaa
