import Derived.Test.YtnmbimhcfioeiaaVf
set_option linter.unusedVariables false
set_option linter.unusedSimpArgs false
/-! Sane, Large; the law ColourNew. -/
namespace Go.Proofs.Ytnmbimhcfioeiaa
open Xf
set_option maxRecDepth 4000
/- incunable/incunablelaw19.Sane : slots 56, labels 10..19 -/
def ir12 : IR :=
  .seq (.reg false [⟨some 0, none, ⟨[], []⟩, .mov (.k (.bool false))⟩] [0] []) (.seq (.reg false [⟨some 6, none, ⟨[], []⟩, .bslice 10 [.k (.int .i64 255)]⟩,
    ⟨some 7, none, ⟨[], []⟩, .bslice 11 [.k (.int .i64 0)]⟩,
    ⟨some 8, none, ⟨[], []⟩, .bslice 12 [.k (.int .i64 0)]⟩,
    ⟨some 9, none, ⟨[], []⟩, .build [.int .i64 0, .int .i64 0, nilSV, nilSV, nilSV] [(0, 1, .k (.int .i64 1)), (1, 1, .k (.int .i64 1)), (2, 1, .t 6), (3, 1, .t 7), (4, 1, .t 8)]⟩,
    ⟨some 10, none, ⟨[], []⟩, .call (some 4) 13 20 [.t 9]⟩,
    ⟨some 5, none, ⟨[], []⟩, .mov (.t 10)⟩,
    ⟨some 11, none, ⟨[], []⟩, .ext (.t 5) 0⟩,
    ⟨some 12, none, ⟨[], []⟩, .ext (.t 5) 1⟩,
    ⟨some 13, none, ⟨[], []⟩, .ext (.t 5) 2⟩,
    ⟨some 14, none, ⟨[], []⟩, .ext (.t 5) 3⟩,
    ⟨some 1, none, ⟨[], []⟩, .alloc 17 [.int .i64 0, .int .i64 0, nilSV]⟩,
    ⟨some 2, none, ⟨[], []⟩, .alloc 18 [.int .i64 0, .int .i64 0, nilSV]⟩,
    ⟨some 3, none, ⟨[], []⟩, .alloc 19 [.int .i64 0, .int .i64 0, nilSV]⟩,
    ⟨none, none, ⟨[], []⟩, .sto false 3 .i64 (.t 1) (.t 11)⟩,
    ⟨none, none, ⟨[], []⟩, .sto false 3 .i64 (.t 2) (.t 12)⟩,
    ⟨none, none, ⟨[], []⟩, .sto false 3 .i64 (.t 3) (.t 13)⟩,
    ⟨some 4, none, ⟨[], []⟩, .mov (.t 14)⟩] [5, 6, 7, 8, 9, 10, 11, 12, 13, 14] []) (.seq (.reg false [⟨some 15, none, ⟨[], []⟩, .mov (.t 4)⟩,
    ⟨some 16, none, ⟨[], []⟩, .bin 0 .eql (.t 15) (.k (.int .i64 0))⟩,
    ⟨some 17, none, ⟨[], []⟩, .mov (.t 16)⟩,
    ⟨some 18, some (17, true), ⟨[], []⟩, .fld (.t 1) 2⟩,
    ⟨some 19, some (17, true), ⟨[], []⟩, .ld false none 0 0 (.t 18)⟩,
    ⟨some 20, some (17, true), ⟨[], []⟩, .len (.t 19)⟩,
    ⟨some 21, some (17, true), ⟨[], []⟩, .bin 0 .eql (.t 20) (.k (.int .i64 1))⟩,
    ⟨some 22, none, ⟨[], []⟩, .pick (.t 17) (.t 21) (.k (.bool false))⟩,
    ⟨some 23, none, ⟨[], []⟩, .mov (.t 22)⟩,
    ⟨some 24, some (23, true), ⟨[], []⟩, .fld (.t 2) 2⟩,
    ⟨some 25, some (23, true), ⟨[], []⟩, .ld false none 0 0 (.t 24)⟩,
    ⟨some 26, some (23, true), ⟨[], []⟩, .len (.t 25)⟩,
    ⟨some 27, some (23, true), ⟨[], []⟩, .bin 0 .eql (.t 26) (.k (.int .i64 1))⟩,
    ⟨some 28, none, ⟨[], []⟩, .pick (.t 23) (.t 27) (.k (.bool false))⟩,
    ⟨some 29, none, ⟨[], []⟩, .mov (.t 28)⟩,
    ⟨some 30, some (29, true), ⟨[], []⟩, .fld (.t 3) 2⟩,
    ⟨some 31, some (29, true), ⟨[], []⟩, .ld false none 0 0 (.t 30)⟩,
    ⟨some 32, some (29, true), ⟨[], []⟩, .len (.t 31)⟩,
    ⟨some 33, some (29, true), ⟨[], []⟩, .bin 0 .eql (.t 32) (.k (.int .i64 1))⟩,
    ⟨some 34, none, ⟨[], []⟩, .pick (.t 29) (.t 33) (.k (.bool false))⟩,
    ⟨some 35, none, ⟨[], []⟩, .mov (.t 34)⟩,
    ⟨some 36, some (35, true), ⟨[], []⟩, .fld (.t 1) 2⟩,
    ⟨some 37, some (35, true), ⟨[], []⟩, .ld false none 0 0 (.t 36)⟩,
    ⟨some 38, some (35, true), ⟨[], []⟩, .idxS (.t 37) (.k (.int .i64 0)) 1⟩,
    ⟨some 39, some (35, true), ⟨[], []⟩, .ld true none 0 0 (.t 38)⟩,
    ⟨some 40, some (35, true), ⟨[], []⟩, .bin 0 .eql (.t 39) (.k (.int .i64 63))⟩,
    ⟨some 41, none, ⟨[], []⟩, .pick (.t 35) (.t 40) (.k (.bool false))⟩,
    ⟨some 42, none, ⟨[], []⟩, .mov (.t 41)⟩,
    ⟨some 43, some (42, true), ⟨[], []⟩, .fld (.t 2) 2⟩,
    ⟨some 44, some (42, true), ⟨[], []⟩, .ld false none 0 0 (.t 43)⟩,
    ⟨some 45, some (42, true), ⟨[], []⟩, .idxS (.t 44) (.k (.int .i64 0)) 1⟩,
    ⟨some 46, some (42, true), ⟨[], []⟩, .ld true none 0 0 (.t 45)⟩,
    ⟨some 47, some (42, true), ⟨[], []⟩, .bin 0 .eql (.t 46) (.k (.int .i64 0))⟩,
    ⟨some 48, none, ⟨[], []⟩, .pick (.t 42) (.t 47) (.k (.bool false))⟩,
    ⟨some 49, none, ⟨[], []⟩, .mov (.t 48)⟩,
    ⟨some 50, some (49, true), ⟨[], []⟩, .fld (.t 3) 2⟩,
    ⟨some 51, some (49, true), ⟨[], []⟩, .ld false none 0 0 (.t 50)⟩,
    ⟨some 52, some (49, true), ⟨[], []⟩, .idxS (.t 51) (.k (.int .i64 0)) 1⟩,
    ⟨some 53, some (49, true), ⟨[], []⟩, .ld true none 0 0 (.t 52)⟩,
    ⟨some 54, some (49, true), ⟨[], []⟩, .bin 0 .eql (.t 53) (.k (.int .i64 255))⟩,
    ⟨some 55, none, ⟨[], []⟩, .pick (.t 49) (.t 54) (.k (.bool false))⟩,
    ⟨some 0, none, ⟨[], []⟩, .mov (.t 55)⟩] [1, 2, 3, 4, 15, 16, 17, 18, 19, 20, 21, 22, 23, 24, 25, 26, 27, 28, 29, 30, 31, 32, 33, 34, 35, 36, 37, 38, 39, 40, 41, 42, 43, 44, 45, 46, 47, 48, 49, 50, 51, 52, 53, 54, 55] []) (.ret)))
theorem comp12 : (Try.f12.body.bind fun c => compC tab isP chkAll ir12 c) = some ir12 := by kernel_rfl
/- incunable/incunablelaw19.Large : slots 15, labels 10..10 -/
def ir11 : IR :=
  .seq (.reg false [⟨some 1, none, ⟨[], []⟩, .box 10 (.t 0)⟩,
    ⟨some 2, none, ⟨[], []⟩, .mov (.k (.bool false))⟩] [0, 2] []) (.seq (.reg false [⟨some 3, none, ⟨[], []⟩, .fld (.t 1) 2⟩,
    ⟨some 4, none, ⟨[], []⟩, .ld false none 0 0 (.t 3)⟩,
    ⟨some 5, none, ⟨[], []⟩, .len (.t 4)⟩,
    ⟨some 6, none, ⟨[], []⟩, .fld (.t 1) 3⟩,
    ⟨some 7, none, ⟨[], []⟩, .ld false none 0 0 (.t 6)⟩,
    ⟨some 8, none, ⟨[], []⟩, .len (.t 7)⟩,
    ⟨some 9, none, ⟨[], []⟩, .bin 0 .add (.t 5) (.t 8)⟩,
    ⟨some 10, none, ⟨[], []⟩, .fld (.t 1) 4⟩,
    ⟨some 11, none, ⟨[], []⟩, .ld false none 0 0 (.t 10)⟩,
    ⟨some 12, none, ⟨[], []⟩, .len (.t 11)⟩,
    ⟨some 13, none, ⟨[], []⟩, .bin 0 .add (.t 9) (.t 12)⟩,
    ⟨some 14, none, ⟨[], []⟩, .bin 0 .gtr (.t 13) (.k (.int .i64 9000))⟩,
    ⟨some 2, none, ⟨[], []⟩, .mov (.t 14)⟩] [1, 3, 4, 5, 6, 7, 8, 9, 10, 11, 12, 13, 14] []) (.ret))
theorem comp11 : (Try.f11.body.bind fun c => compC tab isP chkAll ir11 c) = some ir11 := by kernel_rfl
/- incunable/incunablelaw19.ColourNew : slots 64, labels 10..45 -/
def ir3 : IR :=
  .seq (.reg false [⟨some 1, none, ⟨[], []⟩, .box 10 (.t 0)⟩,
    ⟨some 2, none, ⟨[], []⟩, .mov (.k (.bool false))⟩] [0, 2] []) (.seq (.reg true [⟨some 13, none, ⟨[], []⟩, .fld (.t 1) 0⟩,
    ⟨some 14, none, ⟨[11], []⟩, .ld false (some 5) 0 0 (.t 13)⟩,
    ⟨some 15, none, ⟨[], []⟩, .fld (.t 1) 5⟩,
    ⟨some 16, none, ⟨[11], []⟩, .ld false none 0 0 (.t 15)⟩,
    ⟨some 17, none, ⟨[], []⟩, .fld (.t 1) 6⟩,
    ⟨some 18, none, ⟨[11], []⟩, .ld false none 0 0 (.t 17)⟩,
    ⟨some 19, none, ⟨[], []⟩, .fld (.t 1) 7⟩,
    ⟨some 20, none, ⟨[11], []⟩, .ld false none 0 0 (.t 19)⟩,
    ⟨some 21, none, ⟨[], []⟩, .fld (.t 1) 8⟩,
    ⟨some 22, none, ⟨[11], []⟩, .ld false none 0 0 (.t 21)⟩,
    ⟨some 23, none, ⟨[], []⟩, .fld (.t 1) 9⟩,
    ⟨some 24, none, ⟨[11], []⟩, .ld false none 0 0 (.t 23)⟩,
    ⟨some 3, none, ⟨[], []⟩, .alloc 11 [.int .i64 0, .int .i64 0, nilSV, nilSV, nilSV]⟩,
    ⟨none, none, ⟨[], [11]⟩, .sto false 5 .i64 (.t 3) (.t 14)⟩,
    ⟨some 4, none, ⟨[], []⟩, .mov (.t 16)⟩,
    ⟨some 5, none, ⟨[], []⟩, .mov (.t 18)⟩,
    ⟨some 6, none, ⟨[], []⟩, .mov (.t 20)⟩,
    ⟨some 7, none, ⟨[], []⟩, .mov (.t 22)⟩,
    ⟨some 8, none, ⟨[], []⟩, .mov (.t 24)⟩] [1, 13, 14, 15, 16, 17, 18, 19, 20, 21, 22, 23, 24] []) (.seq (.seq (.reg false [⟨some 25, none, ⟨[], []⟩, .ld false (some 5) 0 0 (.t 3)⟩,
    ⟨some 26, none, ⟨[], []⟩, .call (some 4) 12 11 [.t 25]⟩] [25] []) (.cond (.t 26) (.seq (.reg false [⟨some 27, none, ⟨[], []⟩, .call (some 4) 16 12 []⟩,
    ⟨some 2, none, ⟨[], []⟩, .mov (.t 27)⟩] [3, 4, 5, 6, 7, 8, 26, 27] []) (.ret)) (.skip))) (.seq (.reg false [⟨some 29, none, ⟨[], []⟩, .mov (.t 4)⟩,
    ⟨some 30, none, ⟨[], []⟩, .mov (.t 5)⟩,
    ⟨some 31, none, ⟨[], []⟩, .mov (.t 6)⟩,
    ⟨some 32, none, ⟨[], []⟩, .mov (.t 7)⟩,
    ⟨some 33, none, ⟨[], []⟩, .mov (.t 8)⟩,
    ⟨some 34, none, ⟨[], []⟩, .call (some 4) 20 13 [.t 29, .t 30, .t 31, .t 32, .t 33]⟩,
    ⟨some 28, none, ⟨[], []⟩, .mov (.t 34)⟩,
    ⟨some 35, none, ⟨[], []⟩, .ext (.t 28) 0⟩,
    ⟨some 36, none, ⟨[], []⟩, .ext (.t 28) 1⟩,
    ⟨some 9, none, ⟨[], []⟩, .alloc 24 [.int .i64 0, .int .i64 0, nilSV, nilSV, nilSV]⟩,
    ⟨none, none, ⟨[], []⟩, .sto false 5 .i64 (.t 9) (.t 35)⟩,
    ⟨some 10, none, ⟨[], []⟩, .mov (.t 36)⟩] [2, 26, 28, 29, 30, 31, 32, 33, 34, 35, 36] []) (.seq (.reg false [⟨some 38, none, ⟨[], []⟩, .mov (.t 4)⟩,
    ⟨some 39, none, ⟨[], []⟩, .mov (.t 5)⟩,
    ⟨some 40, none, ⟨[], []⟩, .mov (.t 6)⟩,
    ⟨some 41, none, ⟨[], []⟩, .mov (.t 7)⟩,
    ⟨some 42, none, ⟨[], []⟩, .mov (.t 8)⟩,
    ⟨some 43, none, ⟨[], []⟩, .call (some 4) 25 14 [.t 38, .t 39, .t 40, .t 41, .t 42]⟩,
    ⟨some 37, none, ⟨[], []⟩, .mov (.t 43)⟩,
    ⟨some 44, none, ⟨[], []⟩, .ext (.t 37) 0⟩,
    ⟨some 45, none, ⟨[], []⟩, .ext (.t 37) 1⟩,
    ⟨some 11, none, ⟨[], []⟩, .alloc 29 [.int .i64 0, .int .i64 0, nilSV, nilSV, nilSV]⟩,
    ⟨none, none, ⟨[], []⟩, .sto false 5 .i64 (.t 11) (.t 44)⟩,
    ⟨some 12, none, ⟨[], []⟩, .mov (.t 45)⟩] [4, 5, 6, 7, 8, 37, 38, 39, 40, 41, 42, 43, 44, 45] []) (.seq (.reg true [⟨some 46, none, ⟨[], []⟩, .ld false (some 5) 0 0 (.t 3)⟩,
    ⟨some 47, none, ⟨[], []⟩, .call (some 4) 30 15 [.t 46]⟩,
    ⟨some 48, none, ⟨[30, 31, 32, 33], []⟩, .ld false (some 5) 0 0 (.t 3)⟩,
    ⟨some 49, none, ⟨[], []⟩, .call (some 4) 34 16 [.t 48]⟩,
    ⟨some 50, none, ⟨[], []⟩, .binB .eql (.t 47) (.t 49)⟩,
    ⟨some 51, none, ⟨[], []⟩, .mov (.t 50)⟩,
    ⟨some 52, some (51, true), ⟨[], []⟩, .mov (.t 10)⟩,
    ⟨some 53, some (51, true), ⟨[], []⟩, .mov (.t 12)⟩,
    ⟨some 54, some (51, true), ⟨[], []⟩, .bin 0 .eql (.t 52) (.t 53)⟩,
    ⟨some 55, none, ⟨[], []⟩, .pick (.t 51) (.t 54) (.k (.bool false))⟩,
    ⟨some 56, none, ⟨[], []⟩, .mov (.t 55)⟩,
    ⟨some 57, some (56, true), ⟨[], []⟩, .ld false (some 5) 0 0 (.t 9)⟩,
    ⟨some 58, some (56, true), ⟨[], []⟩, .ld false (some 5) 0 0 (.t 11)⟩,
    ⟨some 59, some (56, true), ⟨[], []⟩, .call (some 4) 38 17 [.t 57, .t 58]⟩,
    ⟨some 60, none, ⟨[], []⟩, .pick (.t 56) (.t 59) (.k (.bool false))⟩,
    ⟨some 61, none, ⟨[], []⟩, .mov (.t 60)⟩,
    ⟨some 62, some (61, true), ⟨[], []⟩, .call (some 4) 42 12 []⟩,
    ⟨some 63, none, ⟨[], []⟩, .pick (.t 61) (.t 62) (.k (.bool false))⟩,
    ⟨some 2, none, ⟨[], []⟩, .mov (.t 63)⟩] [3, 9, 10, 11, 12, 46, 47, 48, 49, 50, 51, 52, 53, 54, 55, 56, 57, 58, 59, 60, 61, 62, 63] []) (.ret))))))
theorem comp3 : (Try.f3.body.bind fun c => compC tab isP chkAll ir3 c) = some ir3 := by kernel_rfl
set_option maxRecDepth 512

def im1 : Im := ⟨1, 1, [255], [0], [0]⟩
theorem im1_ok : im1.Ok := by
  refine ⟨⟨by decide, by decide, by decide, by decide, by decide⟩, ⟨rfl, ?_⟩, ⟨rfl, ?_⟩, ⟨rfl, ?_⟩⟩ <;> intro n hn <;> simp [im1] at hn <;> subst hn <;> exact ⟨by decide, by decide⟩
theorem im1_Y : turn tY im1 = ⟨1, 1, [63]⟩ := by unfold turn; rw [if_pos im1_ok]; rfl
theorem im1_U : turn tU im1 = ⟨1, 1, [0]⟩ := by unfold turn; rw [if_pos im1_ok]; rfl
theorem im1_V : turn tV im1 = ⟨1, 1, [255]⟩ := by unfold turn; rw [if_pos im1_ok]; rfl
def fs12 : FS where
  A := Unit
  args := fun _ => []
  mem := fun _ => []
  pre := fun _ => True
  res := fun _ _ => .bool true
  out := fun _ _ => []
  new := fun _ _ => []
def inv12 : List SV → Look → Option (Unit × List Nat)
  | [], _ => some ((), [])
  | _, _ => none
attribute [push_cast] inv12
theorem ok12 : FSOk Try.prog 12 fs12 := by
  refine ⟨⟨_, Try.func12, by kernel_rfl, by kernel_rfl⟩, fun a => ⟨by simp [fs12, push_cast, noMine, argOwn, Chunk.frArg], by simp [fs12, push_cast, outOk, Chunk.ext], fun x => .inl (by simp [fs12, push_cast, frNew, frOut, Chunk.fr])⟩, fun a hp => ?_⟩
  change Tri Try.prog 12 [] [] (postF fs12 a)
  refine tri_evS (hyp (l := [(20, ent20)]) (lp := []) ⟨e20, trivial⟩ trivial) Try.func12 comp12 (rs := [.tmp 0]) (by rfl) Try.ntmps12 22 ?_
  have f1 : (⟨1, 1, [255], [0], [0]⟩ : Im) = im1 := rfl
  have f2 : im1.small := ⟨by decide, by decide, by decide⟩
  simp -implicitDefEqProofs only [push_cast, false_implies, reduceCtorEq, Classical.not_not, Nat.reduceAdd, Nat.reduceSub, Nat.reduceMul, Nat.reduceLeDiff, Nat.reduceLT, Nat.reduceEqDiff, Nat.reduceBEq, Nat.reduceBNe, Int.reduceNeg, Int.reduceToNat, Bool.or_false, Bool.false_or, Bool.or_true, Bool.true_or, BEq.rfl, Bool.not_eq_true, Bool.not_eq_false, decide_eq_true_eq, not_true_eq_false, not_false_eq_true, ite_true, ite_false, List.append_nil, and_assoc, Nat.mul_zero, Nat.zero_mul, ir12, fs20, f1, f2, im1_Y, im1_U, im1_V, im1_ok, lx, if_true]
  intro X
  refine ⟨rfl, rfl, rfl, rfl, rfl, rfl, rfl, rfl, by decide, by decide, by decide, by decide, fun h => ⟨h, by decide, by decide⟩, fun h => ⟨h.1, h.2, by decide, by decide⟩, ?_⟩
  refine postF.mk' (fun _ => default) [] ?_
  have r1 : rd [63] 0 = 63 := rfl
  have r2 : rd [0] 0 = 0 := rfl
  have r3 : rd [255] 0 = 255 := rfl
  simp -implicitDefEqProofs only [push_cast, false_implies, reduceCtorEq, Classical.not_not, Nat.reduceAdd, Nat.reduceSub, Nat.reduceMul, Nat.reduceLeDiff, Nat.reduceLT, Nat.reduceEqDiff, Nat.reduceBEq, Nat.reduceBNe, Int.reduceNeg, Int.reduceToNat, Bool.or_false, Bool.false_or, Bool.or_true, Bool.true_or, BEq.rfl, Bool.not_eq_true, Bool.not_eq_false, decide_eq_true_eq, not_true_eq_false, not_false_eq_true, ite_true, ite_false, List.append_nil, and_assoc, Nat.mul_zero, Nat.zero_mul, fs12, r1, r2, r3, decide_true]
def ent12 : Entry := spOf fs12 inv12
theorem e12 : EntryOk Try.prog 12 ent12 := entry_of ok12 inv12
@[push_cast] theorem ent12_app (us : List SV) (look : Look) (x : Nat → Xf.Loc) (k : Nat) : ent12 us look x k = spOf fs12 inv12 us look x k := rfl

def fs11 : FS := { fs15 with res := fun a _ => .bool (decide (9000 < (a.i.R.length : Int) + a.i.G.length + a.i.B.length)) }
theorem ok11 : FSOk Try.prog 11 fs11 := by
  refine ⟨⟨_, Try.func11, by kernel_rfl, by kernel_rfl⟩, fun a => ⟨by simp [fs11, fs15, imM, push_cast, noMine, argOwn, Chunk.frArg], by simp [fs11, fs15, imM, push_cast, outOk, Chunk.ext], fun x => .inl (by simp [fs11, fs15, imM, push_cast, frNew, frOut, Chunk.fr])⟩, fun a hp => ?_⟩
  obtain ⟨⟨w, h, R, G, B⟩, L1, L2, L3⟩ := a
  obtain ⟨h1, h2, h3⟩ : R.length ≤ 140737488355328 ∧ G.length ≤ 140737488355328 ∧ B.length ≤ 140737488355328 := hp
  change Tri Try.prog 11 [imV ⟨w, h, R, G, B⟩ L1 L2 L3 0] (imM ⟨w, h, R, G, B⟩ L1 L2 L3) (postF fs11 ⟨⟨w, h, R, G, B⟩, L1, L2, L3⟩)
  refine tri_evS (hyp (l := []) (lp := []) trivial trivial) Try.func11 comp11 (rs := [.tmp 2]) (by rfl) Try.ntmps11 12 ?_
  simp -implicitDefEqProofs only [push_cast, false_implies, reduceCtorEq, Classical.not_not, Nat.reduceAdd, Nat.reduceSub, Nat.reduceMul, Nat.reduceLeDiff, Nat.reduceLT, Nat.reduceEqDiff, Nat.reduceBEq, Nat.reduceBNe, Int.reduceNeg, Int.reduceToNat, Bool.or_false, Bool.false_or, Bool.or_true, Bool.true_or, BEq.rfl, Bool.not_eq_true, Bool.not_eq_false, decide_eq_true_eq, not_true_eq_false, not_false_eq_true, ite_true, ite_false, List.append_nil, and_assoc, Nat.mul_zero, Nat.zero_mul, ir11]
  intro X
  repeat (refine ⟨by omega, ?_⟩)
  refine postF.mk' (fun _ => default) [some 0, some 1, some 2] ?_
  simp -implicitDefEqProofs only [push_cast, false_implies, reduceCtorEq, Classical.not_not, Nat.reduceAdd, Nat.reduceSub, Nat.reduceMul, Nat.reduceLeDiff, Nat.reduceLT, Nat.reduceEqDiff, Nat.reduceBEq, Nat.reduceBNe, Int.reduceNeg, Int.reduceToNat, Bool.or_false, Bool.false_or, Bool.or_true, Bool.true_or, BEq.rfl, Bool.not_eq_true, Bool.not_eq_false, decide_eq_true_eq, not_true_eq_false, not_false_eq_true, ite_true, ite_false, List.append_nil, and_assoc, Nat.mul_zero, Nat.zero_mul, fs11, fs15]
def ent11 : Entry := spOf fs11 inv15
theorem e11 : EntryOk Try.prog 11 ent11 := entry_of ok11 inv15
@[push_cast] theorem ent11_app (us : List SV) (look : Look) (x : Nat → Xf.Loc) (k : Nat) : ent11 us look x k = spOf fs11 inv15 us look x k := rfl

theorem newI_small (a : NewA) : (newI a).small := by
  unfold newI
  by_cases h : a.Ok
  · rw [if_pos h]
    have := h.1.bd
    refine ⟨?_, ?_, ?_⟩ <;> simp [cst] <;> omega
  · rw [if_neg h]; exact ⟨by decide, by decide, by decide⟩
theorem tri3 (i : Im) (hi : i.small) (a : NewA) (L1 L2 L3 : Xf.Loc) : Tri Try.prog 3 [.agg [.int .i64 i.w, .int .i64 i.h, .sl 0 L1 1 0 i.R.length, .sl 1 L2 1 0 i.G.length, .sl 2 L3 1 0 i.B.length, .int .i64 a.w, .int .i64 a.h, .int .i64 a.r, .int .i64 a.g, .int .i64 a.b]]
    (imM i L1 L2 L3) (fun v _ => v = .bool true) := by
  obtain ⟨w, h, R, G, B⟩ := i
  obtain ⟨W, H, r, g, b⟩ := a
  refine tri_evS (hyp (l := [(11, ent11), (12, ent12), (13, ent13), (14, ent14), (15, ent15), (16, ent16), (17, ent17)]) (lp := []) ⟨e11, e12, e13, e14, e15, e16, e17, trivial⟩ trivial) Try.func3 comp3 (rs := [.tmp 2]) (by rfl) Try.ntmps3 48 ?_
  have hs := newI_small ⟨W, H, r, g, b⟩
  have hr := Im.Eq.refl (newI ⟨W, H, r, g, b⟩)
  simp -implicitDefEqProofs only [push_cast, false_implies, reduceCtorEq, Classical.not_not, Nat.reduceAdd, Nat.reduceSub, Nat.reduceMul, Nat.reduceLeDiff, Nat.reduceLT, Nat.reduceEqDiff, Nat.reduceBEq, Nat.reduceBNe, Int.reduceNeg, Int.reduceToNat, Bool.or_false, Bool.false_or, Bool.or_true, Bool.true_or, BEq.rfl, Bool.not_eq_true, Bool.not_eq_false, decide_eq_true_eq, not_true_eq_false, not_false_eq_true, ite_true, ite_false, List.append_nil, and_assoc, Nat.mul_zero, Nat.zero_mul, ir3, fs11, fs12, fs13, fs15, fs17, hi, hs, hr]
end Go.Proofs.Ytnmbimhcfioeiaa
