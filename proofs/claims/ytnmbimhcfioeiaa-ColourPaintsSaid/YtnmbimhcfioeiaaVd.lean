import Derived.Test.YtnmbimhcfioeiaaVc
set_option linter.unusedVariables false
set_option linter.unusedSimpArgs false
/-! The reference's New, Valid, Same. -/
namespace Go.Proofs.Ytnmbimhcfioeiaa
open Xf
set_option maxRecDepth 4000
/- incunable/incunableref19.Of : slots 42, labels 10..17; loop b45_1 keeps [0, 1, 2, 3, 4, 10, 11, 12] -/
def b45_1 : IR :=
  .seq (.seq (.reg false [⟨some 16, none, ⟨[], []⟩, .mov (.t 12)⟩,
    ⟨some 17, none, ⟨[], []⟩, .mov (.t 0)⟩,
    ⟨some 18, none, ⟨[], []⟩, .mov (.t 1)⟩,
    ⟨some 19, none, ⟨[], []⟩, .bin 0 .mul (.t 17) (.t 18)⟩,
    ⟨some 20, none, ⟨[], []⟩, .bin 0 .lss (.t 16) (.t 19)⟩] [16, 17, 18, 19] []) (.cond (.t 20) (.skip) (.exit 0))) (.seq (.block 1 (.reg true [⟨some 23, none, ⟨[], []⟩, .fld (.t 11) 2⟩,
    ⟨some 24, none, ⟨[12, 14, 16], []⟩, .ld false none 0 0 (.t 23)⟩,
    ⟨some 25, none, ⟨[], []⟩, .mov (.t 2)⟩,
    ⟨some 26, none, ⟨[], []⟩, .bslice 12 [.t 25]⟩,
    ⟨some 27, none, ⟨[14, 16], []⟩, .app 13 1 8 (.t 24) (.t 26)⟩,
    ⟨some 28, none, ⟨[], []⟩, .fld (.t 11) 3⟩,
    ⟨some 29, none, ⟨[12, 13, 14, 16], []⟩, .ld false none 0 0 (.t 28)⟩,
    ⟨some 30, none, ⟨[], []⟩, .mov (.t 3)⟩,
    ⟨some 31, none, ⟨[], []⟩, .bslice 14 [.t 30]⟩,
    ⟨some 32, none, ⟨[16], []⟩, .app 15 1 8 (.t 29) (.t 31)⟩,
    ⟨some 33, none, ⟨[], []⟩, .fld (.t 11) 4⟩,
    ⟨some 34, none, ⟨[12, 13, 14, 15, 16], []⟩, .ld false none 0 0 (.t 33)⟩,
    ⟨some 35, none, ⟨[], []⟩, .mov (.t 4)⟩,
    ⟨some 36, none, ⟨[], []⟩, .bslice 16 [.t 35]⟩,
    ⟨some 37, none, ⟨[], []⟩, .app 17 1 8 (.t 34) (.t 36)⟩,
    ⟨some 38, none, ⟨[], []⟩, .fld (.t 11) 2⟩,
    ⟨none, none, ⟨[], []⟩, .sto false 1 .i64 (.t 38) (.t 27)⟩,
    ⟨some 39, none, ⟨[], []⟩, .fld (.t 11) 3⟩,
    ⟨none, none, ⟨[], []⟩, .sto false 1 .i64 (.t 39) (.t 32)⟩,
    ⟨some 40, none, ⟨[], []⟩, .fld (.t 11) 4⟩,
    ⟨none, none, ⟨[], []⟩, .sto false 1 .i64 (.t 40) (.t 37)⟩] [20, 23, 24, 25, 26, 27, 28, 29, 30, 31, 32, 33, 34, 35, 36, 37, 38, 39, 40] [])) (.reg false [⟨some 21, none, ⟨[], []⟩, .mov (.t 12)⟩,
    ⟨some 22, none, ⟨[], []⟩, .bin 0 .add (.t 21) (.k (.int .i64 1))⟩,
    ⟨some 12, none, ⟨[], []⟩, .mov (.t 22)⟩] [21, 22] []))
def r45_2 : IR :=
  .seq (.reg false [⟨some 41, none, ⟨[], []⟩, .ld false (some 5) 0 0 (.t 11)⟩,
    ⟨none, none, ⟨[], []⟩, .sto false 5 .i64 (.t 10) (.t 41)⟩] [0, 1, 2, 3, 4, 11, 12, 41] []) (.ret)
def ir45 : IR :=
  .seq (.reg false [⟨some 10, none, ⟨[], []⟩, .alloc 10 [.int .i64 0, .int .i64 0, nilSV, nilSV, nilSV]⟩] [] []) (.seq (.reg false [⟨some 13, none, ⟨[], []⟩, .mov (.t 0)⟩,
    ⟨some 14, none, ⟨[], []⟩, .mov (.t 1)⟩,
    ⟨some 15, none, ⟨[], []⟩, .build [.int .i64 0, .int .i64 0, nilSV, nilSV, nilSV] [(0, 1, .t 13), (1, 1, .t 14)]⟩,
    ⟨some 11, none, ⟨[], []⟩, .alloc 11 [.int .i64 0, .int .i64 0, nilSV, nilSV, nilSV]⟩,
    ⟨none, none, ⟨[], []⟩, .sto false 5 .i64 (.t 11) (.t 15)⟩] [13, 14, 15] []) (.seq (.seq (.reg false [⟨some 12, none, ⟨[], []⟩, .mov (.k (.int .i64 0))⟩] [] []) (.block 0 (.loop b45_1))) (r45_2)))
def kp45_1 : List Nat := [0, 1, 2, 3, 4, 10, 11, 12]
def kl45_1 : List Nat := [12, 13, 14, 15, 16, 17]
attribute [push_cast] kp45_1 kl45_1
theorem comp45 : (Try.f45.body.bind fun c => compC tab isP chkAll ir45 c) = some ir45 := by kernel_rfl
/- incunable/incunableref19.New : slots 38, labels 10..14 -/
def ir14 : IR :=
  .seq (.reg false [⟨some 10, none, ⟨[], []⟩, .alloc 10 [.int .i64 0, .int .i64 0, nilSV, nilSV, nilSV]⟩,
    ⟨some 11, none, ⟨[], []⟩, .mov (.k (.int .i64 0))⟩] [11] []) (.seq (.seq (.reg false [⟨some 12, none, ⟨[], []⟩, .mov (.t 0)⟩,
    ⟨some 13, none, ⟨[], []⟩, .mov (.t 1)⟩,
    ⟨some 14, none, ⟨[], []⟩, .callp 43 [.t 12, .t 13]⟩,
    ⟨some 15, none, ⟨[], []⟩, .not (.t 14)⟩,
    ⟨some 16, none, ⟨[], []⟩, .mov (.t 15)⟩,
    ⟨some 17, some (16, false), ⟨[], []⟩, .mov (.t 2)⟩,
    ⟨some 18, some (16, false), ⟨[], []⟩, .callp 44 [.t 17]⟩,
    ⟨some 19, some (16, false), ⟨[], []⟩, .not (.t 18)⟩,
    ⟨some 20, none, ⟨[], []⟩, .pick (.t 16) (.k (.bool true)) (.t 19)⟩,
    ⟨some 21, none, ⟨[], []⟩, .mov (.t 20)⟩,
    ⟨some 22, some (21, false), ⟨[], []⟩, .mov (.t 3)⟩,
    ⟨some 23, some (21, false), ⟨[], []⟩, .callp 44 [.t 22]⟩,
    ⟨some 24, some (21, false), ⟨[], []⟩, .not (.t 23)⟩,
    ⟨some 25, none, ⟨[], []⟩, .pick (.t 21) (.k (.bool true)) (.t 24)⟩,
    ⟨some 26, none, ⟨[], []⟩, .mov (.t 25)⟩,
    ⟨some 27, some (26, false), ⟨[], []⟩, .mov (.t 4)⟩,
    ⟨some 28, some (26, false), ⟨[], []⟩, .callp 44 [.t 27]⟩,
    ⟨some 29, some (26, false), ⟨[], []⟩, .not (.t 28)⟩,
    ⟨some 30, none, ⟨[], []⟩, .pick (.t 26) (.k (.bool true)) (.t 29)⟩] [12, 13, 14, 15, 16, 17, 18, 19, 20, 21, 22, 23, 24, 25, 26, 27, 28, 29] []) (.cond (.t 30) (.seq (.reg false [⟨some 31, none, ⟨[], []⟩, .build [.int .i64 0, .int .i64 0, nilSV, nilSV, nilSV] []⟩,
    ⟨none, none, ⟨[], []⟩, .sto false 5 .i64 (.t 10) (.t 31)⟩,
    ⟨some 11, none, ⟨[], []⟩, .mov (.k (.int .i64 2))⟩] [0, 1, 2, 3, 4, 30, 31] []) (.ret)) (.skip))) (.seq (.reg false [⟨some 32, none, ⟨[], []⟩, .mov (.t 0)⟩,
    ⟨some 33, none, ⟨[], []⟩, .mov (.t 1)⟩,
    ⟨some 34, none, ⟨[], []⟩, .mov (.t 2)⟩,
    ⟨some 35, none, ⟨[], []⟩, .mov (.t 3)⟩,
    ⟨some 36, none, ⟨[], []⟩, .mov (.t 4)⟩,
    ⟨some 37, none, ⟨[], []⟩, .call (some 4) 11 45 [.t 32, .t 33, .t 34, .t 35, .t 36]⟩,
    ⟨none, none, ⟨[], []⟩, .sto false 5 .i64 (.t 10) (.t 37)⟩,
    ⟨some 11, none, ⟨[], []⟩, .mov (.k (.int .i64 0))⟩] [0, 1, 2, 3, 4, 30, 32, 33, 34, 35, 36, 37] []) (.ret)))
theorem comp14 : (Try.f14.body.bind fun c => compC tab isP chkAll ir14 c) = some ir14 := by kernel_rfl
/- incunable/incunableref19.Valid : slots 65, labels 10..10; loop b16_1 keeps [1, 3, 4] -/
def b16_1 : IR :=
  .seq (.seq (.reg false [⟨some 35, none, ⟨[], []⟩, .mov (.t 4)⟩,
    ⟨some 36, none, ⟨[], []⟩, .mov (.t 3)⟩,
    ⟨some 37, none, ⟨[], []⟩, .bin 0 .lss (.t 35) (.t 36)⟩] [35, 36] []) (.cond (.t 37) (.skip) (.exit 0))) (.seq (.block 1 (.seq (.reg false [⟨some 40, none, ⟨[], []⟩, .fld (.t 1) 2⟩,
    ⟨some 41, none, ⟨[], []⟩, .ld false none 0 0 (.t 40)⟩,
    ⟨some 42, none, ⟨[], []⟩, .mov (.t 4)⟩,
    ⟨some 43, none, ⟨[], []⟩, .idxS (.t 41) (.t 42) 1⟩,
    ⟨some 44, none, ⟨[], []⟩, .ld true none 0 0 (.t 43)⟩,
    ⟨some 45, none, ⟨[], []⟩, .callp 44 [.t 44]⟩,
    ⟨some 46, none, ⟨[], []⟩, .not (.t 45)⟩,
    ⟨some 47, none, ⟨[], []⟩, .mov (.t 46)⟩,
    ⟨some 48, some (47, false), ⟨[], []⟩, .fld (.t 1) 3⟩,
    ⟨some 49, some (47, false), ⟨[], []⟩, .ld false none 0 0 (.t 48)⟩,
    ⟨some 50, some (47, false), ⟨[], []⟩, .mov (.t 4)⟩,
    ⟨some 51, some (47, false), ⟨[], []⟩, .idxS (.t 49) (.t 50) 1⟩,
    ⟨some 52, some (47, false), ⟨[], []⟩, .ld true none 0 0 (.t 51)⟩,
    ⟨some 53, some (47, false), ⟨[], []⟩, .callp 44 [.t 52]⟩,
    ⟨some 54, some (47, false), ⟨[], []⟩, .not (.t 53)⟩,
    ⟨some 55, none, ⟨[], []⟩, .pick (.t 47) (.k (.bool true)) (.t 54)⟩,
    ⟨some 56, none, ⟨[], []⟩, .mov (.t 55)⟩,
    ⟨some 57, some (56, false), ⟨[], []⟩, .fld (.t 1) 4⟩,
    ⟨some 58, some (56, false), ⟨[], []⟩, .ld false none 0 0 (.t 57)⟩,
    ⟨some 59, some (56, false), ⟨[], []⟩, .mov (.t 4)⟩,
    ⟨some 60, some (56, false), ⟨[], []⟩, .idxS (.t 58) (.t 59) 1⟩,
    ⟨some 61, some (56, false), ⟨[], []⟩, .ld true none 0 0 (.t 60)⟩,
    ⟨some 62, some (56, false), ⟨[], []⟩, .callp 44 [.t 61]⟩,
    ⟨some 63, some (56, false), ⟨[], []⟩, .not (.t 62)⟩,
    ⟨some 64, none, ⟨[], []⟩, .pick (.t 56) (.k (.bool true)) (.t 63)⟩] [37, 40, 41, 42, 43, 44, 45, 46, 47, 48, 49, 50, 51, 52, 53, 54, 55, 56, 57, 58, 59, 60, 61, 62, 63] []) (.cond (.t 64) (.seq (.reg false [⟨some 2, none, ⟨[], []⟩, .mov (.k (.bool false))⟩] [1, 3, 4, 64] []) (.ret)) (.skip)))) (.reg false [⟨some 38, none, ⟨[], []⟩, .mov (.t 4)⟩,
    ⟨some 39, none, ⟨[], []⟩, .bin 0 .add (.t 38) (.k (.int .i64 1))⟩,
    ⟨some 4, none, ⟨[], []⟩, .mov (.t 39)⟩] [2, 38, 39, 64] []))
def r16_2 : IR :=
  .seq (.reg false [⟨some 2, none, ⟨[], []⟩, .mov (.k (.bool true))⟩] [1, 3, 4] []) (.ret)
def ir16 : IR :=
  .seq (.reg false [⟨some 1, none, ⟨[], []⟩, .box 10 (.t 0)⟩,
    ⟨some 2, none, ⟨[], []⟩, .mov (.k (.bool false))⟩] [0, 2] []) (.seq (.seq (.reg false [⟨some 5, none, ⟨[], []⟩, .fld (.t 1) 0⟩,
    ⟨some 6, none, ⟨[], []⟩, .ld false none 0 0 (.t 5)⟩,
    ⟨some 7, none, ⟨[], []⟩, .fld (.t 1) 1⟩,
    ⟨some 8, none, ⟨[], []⟩, .ld false none 0 0 (.t 7)⟩,
    ⟨some 9, none, ⟨[], []⟩, .callp 43 [.t 6, .t 8]⟩,
    ⟨some 10, none, ⟨[], []⟩, .not (.t 9)⟩] [5, 6, 7, 8, 9] []) (.cond (.t 10) (.seq (.reg false [⟨some 2, none, ⟨[], []⟩, .mov (.k (.bool false))⟩] [1, 10] []) (.ret)) (.skip))) (.seq (.reg false [⟨some 11, none, ⟨[], []⟩, .fld (.t 1) 0⟩,
    ⟨some 12, none, ⟨[], []⟩, .ld false none 0 0 (.t 11)⟩,
    ⟨some 13, none, ⟨[], []⟩, .fld (.t 1) 1⟩,
    ⟨some 14, none, ⟨[], []⟩, .ld false none 0 0 (.t 13)⟩,
    ⟨some 15, none, ⟨[], []⟩, .bin 0 .mul (.t 12) (.t 14)⟩,
    ⟨some 3, none, ⟨[], []⟩, .mov (.t 15)⟩] [2, 10, 11, 12, 13, 14, 15] []) (.seq (.seq (.reg false [⟨some 16, none, ⟨[], []⟩, .fld (.t 1) 2⟩,
    ⟨some 17, none, ⟨[], []⟩, .ld false none 0 0 (.t 16)⟩,
    ⟨some 18, none, ⟨[], []⟩, .len (.t 17)⟩,
    ⟨some 19, none, ⟨[], []⟩, .mov (.t 3)⟩,
    ⟨some 20, none, ⟨[], []⟩, .bin 0 .neq (.t 18) (.t 19)⟩,
    ⟨some 21, none, ⟨[], []⟩, .mov (.t 20)⟩,
    ⟨some 22, some (21, false), ⟨[], []⟩, .fld (.t 1) 3⟩,
    ⟨some 23, some (21, false), ⟨[], []⟩, .ld false none 0 0 (.t 22)⟩,
    ⟨some 24, some (21, false), ⟨[], []⟩, .len (.t 23)⟩,
    ⟨some 25, some (21, false), ⟨[], []⟩, .mov (.t 3)⟩,
    ⟨some 26, some (21, false), ⟨[], []⟩, .bin 0 .neq (.t 24) (.t 25)⟩,
    ⟨some 27, none, ⟨[], []⟩, .pick (.t 21) (.k (.bool true)) (.t 26)⟩,
    ⟨some 28, none, ⟨[], []⟩, .mov (.t 27)⟩,
    ⟨some 29, some (28, false), ⟨[], []⟩, .fld (.t 1) 4⟩,
    ⟨some 30, some (28, false), ⟨[], []⟩, .ld false none 0 0 (.t 29)⟩,
    ⟨some 31, some (28, false), ⟨[], []⟩, .len (.t 30)⟩,
    ⟨some 32, some (28, false), ⟨[], []⟩, .mov (.t 3)⟩,
    ⟨some 33, some (28, false), ⟨[], []⟩, .bin 0 .neq (.t 31) (.t 32)⟩,
    ⟨some 34, none, ⟨[], []⟩, .pick (.t 28) (.k (.bool true)) (.t 33)⟩] [16, 17, 18, 19, 20, 21, 22, 23, 24, 25, 26, 27, 28, 29, 30, 31, 32, 33] []) (.cond (.t 34) (.seq (.reg false [⟨some 2, none, ⟨[], []⟩, .mov (.k (.bool false))⟩] [1, 3, 34] []) (.ret)) (.skip))) (.seq (.seq (.reg false [⟨some 4, none, ⟨[], []⟩, .mov (.k (.int .i64 0))⟩] [2, 34] []) (.block 0 (.loop b16_1))) (r16_2)))))
def kp16_1 : List Nat := [1, 3, 4]
def kl16_1 : List Nat := []
attribute [push_cast] kp16_1 kl16_1
theorem comp16 : (Try.f16.body.bind fun c => compC tab isP chkAll ir16 c) = some ir16 := by kernel_rfl
set_option maxRecDepth 512

/-! Of -/
def fs45 : FS where
  A := NewA
  args := fun a => [.int .i64 a.w, .int .i64 a.h, .int .i64 a.r, .int .i64 a.g, .int .i64 a.b]
  mem := fun _ => []
  pre := fun a => a.Ok
  res := fun a x => imV (newI a) (x 0) (x 1) (x 2) 0
  out := fun _ _ => []
  new := fun a x => imN (newI a) x
def I45 (w h r g b : Int) (L0 L1 : Xf.Loc) (i : Nat × Xf.Loc × Xf.Loc × Xf.Loc) : List Ent × Mem :=
  (mkS 42 [(0, .int .i64 w), (1, .int .i64 h), (2, .int .i64 r), (3, .int .i64 g), (4, .int .i64 b), (10, .ptr 10 L0 0 0 0), (11, .ptr 11 L1 0 0 0), (12, .int .i64 i.1)],
    mkM 22 [(10, .mine, L0, .cells [.int .i64 0, .int .i64 0, nilSV, nilSV, nilSV]), (11, .mine, L1, .cells [.int .i64 w, .int .i64 h, .sl 13 i.2.1 1 0 i.1, .sl 15 i.2.2.1 1 0 i.1, .sl 17 i.2.2.2 1 0 i.1]),
      (13, .mine, i.2.1, .ints .i64 (List.replicate i.1 r)), (15, .mine, i.2.2.1, .ints .i64 (List.replicate i.1 g)), (17, .mine, i.2.2.2, .ints .i64 (List.replicate i.1 b))])
def lp45 (w h r g b : Int) (L0 L1 : Xf.Loc) : LoopS where
  A := Nat × Xf.Loc × Xf.Loc × Xf.Loc
  I := I45 w h r g b L0 L1
  R := fun i => i.1 ≤ (w * h).toNat
  mu := fun i => (w * h).toNat - i.1
theorem ok45 : FSOk Try.prog 45 fs45 := by
  refine ⟨⟨_, Try.func45, by kernel_rfl, by kernel_rfl⟩, fun a => ⟨by simp [fs45, push_cast, noMine, argOwn, Chunk.frArg], by simp [fs45, push_cast, outOk, Chunk.ext], fun x => .inl (by simp [fs45, push_cast, frNew, frOut, Chunk.fr])⟩, fun a e => ?_⟩
  obtain ⟨w, h, r, g, b⟩ := a
  change (⟨w, h, r, g, b⟩ : NewA).Ok at e
  have hm := (show SidesOk w h from e.1).bd
  change Tri Try.prog 45 [.int .i64 w, .int .i64 h, .int .i64 r, .int .i64 g, .int .i64 b] [] (postF fs45 ⟨w, h, r, g, b⟩)
  refine tri_evS (hyp (l := []) (lp := []) trivial trivial) Try.func45 comp45 (rs := [.cell 10 (some 5)]) (by rfl) Try.ntmps45 22 ?_
  simp -implicitDefEqProofs only [push_cast, false_implies, reduceCtorEq, Classical.not_not, Nat.reduceAdd, Nat.reduceSub, Nat.reduceMul, Nat.reduceLeDiff, Nat.reduceLT, Nat.reduceEqDiff, Nat.reduceBEq, Nat.reduceBNe, Int.reduceNeg, Int.reduceToNat, Bool.or_false, Bool.false_or, Bool.or_true, Bool.true_or, BEq.rfl, Bool.not_eq_true, Bool.not_eq_false, decide_eq_true_eq, not_true_eq_false, not_false_eq_true, ite_true, ite_false, List.append_nil, and_assoc, Nat.mul_zero, Nat.zero_mul, ir45]
  intro X X1
  refine evS_loop _ _ _ (lp45 w h r g b (X 0 10) (X1 3 11)) ((0, nilLoc, nilLoc, nilLoc) : Nat × Xf.Loc × Xf.Loc × Xf.Loc) (Nat.zero_le _) ?_ ?_
  · change Sub _ _ (I45 w h r g b (X 0 10) (X1 3 11) (0, nilLoc, nilLoc, nilLoc)).1 (I45 w h r g b (X 0 10) (X1 3 11) (0, nilLoc, nilLoc, nilLoc)).2
    refine Sub.of (mkG 22 [(10, 10), (11, 11)]) ?_
    simp -implicitDefEqProofs only [push_cast, false_implies, reduceCtorEq, Classical.not_not, Nat.reduceAdd, Nat.reduceSub, Nat.reduceMul, Nat.reduceLeDiff, Nat.reduceLT, Nat.reduceEqDiff, Nat.reduceBEq, Nat.reduceBNe, Int.reduceNeg, Int.reduceToNat, Bool.or_false, Bool.false_or, Bool.or_true, Bool.true_or, BEq.rfl, Bool.not_eq_true, Bool.not_eq_false, decide_eq_true_eq, not_true_eq_false, not_false_eq_true, ite_true, ite_false, List.append_nil, and_assoc, Nat.mul_zero, Nat.zero_mul, I45, List.replicate_zero]
  · intro (⟨i, L1, L2, L3⟩ : Nat × Xf.Loc × Xf.Loc × Xf.Loc) (hi : i ≤ (w * h).toNat)
    change evS _ _ _ _ (I45 w h r g b (X 0 10) (X1 3 11) (i, L1, L2, L3)).1 (I45 w h r g b (X 0 10) (X1 3 11) (i, L1, L2, L3)).2
    simp -implicitDefEqProofs only [push_cast, false_implies, reduceCtorEq, Classical.not_not, Nat.reduceAdd, Nat.reduceSub, Nat.reduceMul, Nat.reduceLeDiff, Nat.reduceLT, Nat.reduceEqDiff, Nat.reduceBEq, Nat.reduceBNe, Int.reduceNeg, Int.reduceToNat, Bool.or_false, Bool.false_or, Bool.or_true, Bool.true_or, BEq.rfl, Bool.not_eq_true, Bool.not_eq_false, decide_eq_true_eq, not_true_eq_false, not_false_eq_true, ite_true, ite_false, List.append_nil, and_assoc, Nat.mul_zero, Nat.zero_mul, I45, b45_1, r45_2]
    refine ⟨by omega, by omega, fun hl X2 => ?_, fun hl => ?_⟩
    · have hl' : i < (w * h).toNat := by omega
      simp only [List.length_replicate, true_and]
      refine ⟨by omega, by omega, by omega, by omega, by omega, lpK_mk ((i + 1, X2 4 13, X2 9 15, X2 14 17) : Nat × Xf.Loc × Xf.Loc × Xf.Loc) hl' (show (w * h).toNat - (i + 1) < (w * h).toNat - i by omega) ?_⟩
      change Sub _ _ (I45 w h r g b (X 0 10) (X1 3 11) (i + 1, X2 4 13, X2 9 15, X2 14 17)).1 (I45 w h r g b (X 0 10) (X1 3 11) (i + 1, X2 4 13, X2 9 15, X2 14 17)).2
      refine Sub.of (mkG 22 [(10, 10), (11, 11), (13, 13), (15, 15), (17, 17)]) ?_
      simp -implicitDefEqProofs only [push_cast, false_implies, reduceCtorEq, Classical.not_not, Nat.reduceAdd, Nat.reduceSub, Nat.reduceMul, Nat.reduceLeDiff, Nat.reduceLT, Nat.reduceEqDiff, Nat.reduceBEq, Nat.reduceBNe, Int.reduceNeg, Int.reduceToNat, Bool.or_false, Bool.false_or, Bool.or_true, Bool.true_or, BEq.rfl, Bool.not_eq_true, Bool.not_eq_false, decide_eq_true_eq, not_true_eq_false, not_false_eq_true, ite_true, ite_false, List.append_nil, and_assoc, Nat.mul_zero, Nat.zero_mul, I45, rep_snoc]
    · obtain rfl : i = (w * h).toNat := by omega
      refine postF.mk' (locs [L1, L2, L3]) [some 13, some 15, some 17] ?_
      simp -implicitDefEqProofs only [push_cast, false_implies, reduceCtorEq, Classical.not_not, Nat.reduceAdd, Nat.reduceSub, Nat.reduceMul, Nat.reduceLeDiff, Nat.reduceLT, Nat.reduceEqDiff, Nat.reduceBEq, Nat.reduceBNe, Int.reduceNeg, Int.reduceToNat, Bool.or_false, Bool.false_or, Bool.or_true, Bool.true_or, BEq.rfl, Bool.not_eq_true, Bool.not_eq_false, decide_eq_true_eq, not_true_eq_false, not_false_eq_true, ite_true, ite_false, List.append_nil, and_assoc, Nat.mul_zero, Nat.zero_mul, fs45, newI, e, cst, if_true, List.length_replicate]
def ent45 : Entry := spOf fs45 inv13
theorem e45 : EntryOk Try.prog 45 ent45 := entry_of ok45 inv13
@[push_cast] theorem ent45_app (us : List SV) (look : Look) (x : Nat → Xf.Loc) (k : Nat) : ent45 us look x k = spOf fs45 inv13 us look x k := rfl

theorem ok14 : FSOk Try.prog 14 fs13 := by
  refine ⟨⟨_, Try.func14, by kernel_rfl, by kernel_rfl⟩, fun a => ⟨by simp [fs13, push_cast, noMine, argOwn, Chunk.frArg], by simp [fs13, push_cast, outOk, Chunk.ext], fun x => .inl (by simp [fs13, push_cast, frNew, frOut, Chunk.fr])⟩, fun a hp => ?_⟩
  obtain ⟨w, h, r, g, b⟩ := a
  change Tri Try.prog 14 [.int .i64 w, .int .i64 h, .int .i64 r, .int .i64 g, .int .i64 b] [] (postF fs13 ⟨w, h, r, g, b⟩)
  refine tri_evS (hyp (l := [(45, ent45)]) (lp := [(43, sidesF), (44, valF)]) ⟨e45, trivial⟩ ⟨p43, p44, trivial⟩) Try.func14 comp14 (rs := [.cell 10 (some 5), .tmp 11]) (by rfl) Try.ntmps14 22 ?_
  simp -implicitDefEqProofs only [push_cast, false_implies, reduceCtorEq, Classical.not_not, Nat.reduceAdd, Nat.reduceSub, Nat.reduceMul, Nat.reduceLeDiff, Nat.reduceLT, Nat.reduceEqDiff, Nat.reduceBEq, Nat.reduceBNe, Int.reduceNeg, Int.reduceToNat, Bool.or_false, Bool.false_or, Bool.or_true, Bool.true_or, BEq.rfl, Bool.not_eq_true, Bool.not_eq_false, decide_eq_true_eq, not_true_eq_false, not_false_eq_true, ite_true, ite_false, List.append_nil, and_assoc, Nat.mul_zero, Nat.zero_mul, ir14, fs45]
  intro X
  refine ⟨fun hn => ?_, fun hy X1 => ?_⟩
  · have e : ¬ (⟨w, h, r, g, b⟩ : NewA).Ok := by unfold NewA.Ok; simp only; intro ⟨h1, h2, h3, h4⟩; simp [h1, h2, h3, h4] at hn
    refine postF.mk' (fun _ => default) [none, none, none] ?_
    simp -implicitDefEqProofs only [push_cast, false_implies, reduceCtorEq, Classical.not_not, Nat.reduceAdd, Nat.reduceSub, Nat.reduceMul, Nat.reduceLeDiff, Nat.reduceLT, Nat.reduceEqDiff, Nat.reduceBEq, Nat.reduceBNe, Int.reduceNeg, Int.reduceToNat, Bool.or_false, Bool.false_or, Bool.or_true, Bool.true_or, BEq.rfl, Bool.not_eq_true, Bool.not_eq_false, decide_eq_true_eq, not_true_eq_false, not_false_eq_true, ite_true, ite_false, List.append_nil, and_assoc, Nat.mul_zero, Nat.zero_mul, fs13, newI, im0, lx, e, List.length_nil, Int.natCast_zero, if_false]
  · simp only [not_or, Classical.not_not] at hy
    obtain ⟨⟨⟨h1, h2⟩, h3⟩, h4⟩ := hy
    have e : (⟨w, h, r, g, b⟩ : NewA).Ok := ⟨h1, h2, h3, h4⟩
    refine ⟨e, postF.mk' (locs [X1 5 11, X1 5 12, X1 5 13]) [some 11, some 12, some 13] ?_⟩
    simp -implicitDefEqProofs only [push_cast, false_implies, reduceCtorEq, Classical.not_not, Nat.reduceAdd, Nat.reduceSub, Nat.reduceMul, Nat.reduceLeDiff, Nat.reduceLT, Nat.reduceEqDiff, Nat.reduceBEq, Nat.reduceBNe, Int.reduceNeg, Int.reduceToNat, Bool.or_false, Bool.false_or, Bool.or_true, Bool.true_or, BEq.rfl, Bool.not_eq_true, Bool.not_eq_false, decide_eq_true_eq, not_true_eq_false, not_false_eq_true, ite_true, ite_false, List.append_nil, and_assoc, Nat.mul_zero, Nat.zero_mul, fs13, lx, e, if_true]
def ent14 : Entry := spOf fs13 inv13
theorem e14 : EntryOk Try.prog 14 ent14 := entry_of ok14 inv13
@[push_cast] theorem ent14_app (us : List SV) (look : Look) (x : Nat → Xf.Loc) (k : Nat) : ent14 us look x k = spOf fs13 inv13 us look x k := rfl

/-! Valid -/
def I16 (w h : Int) (R G B : List Int) (L1 L2 L3 L0 : Xf.Loc) (i : Nat) : List Ent × Mem :=
  (mkS 65 [(1, .ptr 10 L0 0 0 0), (3, .int .i64 (w * h)), (4, .int .i64 i)],
    mkM 17 [(0, .ro, L1, .ints .i64 R), (1, .ro, L2, .ints .i64 G), (2, .ro, L3, .ints .i64 B), (10, .mine, L0, .cells [.int .i64 w, .int .i64 h, .sl 0 L1 1 0 R.length, .sl 1 L2 1 0 G.length, .sl 2 L3 1 0 B.length])])
def lp16 (w h : Int) (R G B : List Int) (L1 L2 L3 L0 : Xf.Loc) : LoopS where
  A := Nat
  I := I16 w h R G B L1 L2 L3 L0
  R := fun i => i ≤ (w * h).toNat ∧ ∀ j, j < i → ValOk (rd R (j : Nat)) ∧ ValOk (rd G (j : Nat)) ∧ ValOk (rd B (j : Nat))
  mu := fun i => (w * h).toNat - i
theorem allVal_rd {xs : List Int} : AllVal xs ↔ ∀ j : Nat, j < xs.length → ValOk (rd xs j) := by
  unfold AllVal
  constructor
  · intro h j hj; rw [rd_lt xs j hj]; exact h _ (List.getElem_mem hj)
  · intro h x hx
    obtain ⟨j, hj, rfl⟩ := List.getElem_of_mem hx
    have := h j hj
    rwa [rd_lt xs j hj] at this
theorem ok16 : FSOk Try.prog 16 fs15 := by
  refine ⟨⟨_, Try.func16, by kernel_rfl, by kernel_rfl⟩, fun a => ⟨by simp [fs15, imM, push_cast, noMine, argOwn, Chunk.frArg], by simp [fs15, imM, push_cast, outOk, Chunk.ext], fun x => .inl (by simp [fs15, imM, push_cast, frNew, frOut, Chunk.fr])⟩, fun a hp => ?_⟩
  obtain ⟨⟨w, h, R, G, B⟩, L1, L2, L3⟩ := a
  change Tri Try.prog 16 [imV ⟨w, h, R, G, B⟩ L1 L2 L3 0] (imM ⟨w, h, R, G, B⟩ L1 L2 L3) (postF fs15 ⟨⟨w, h, R, G, B⟩, L1, L2, L3⟩)
  refine tri_evS (hyp (l := []) (lp := [(43, sidesF), (44, valF)]) trivial ⟨p43, p44, trivial⟩) Try.func16 comp16 (rs := [.tmp 2]) (by rfl) Try.ntmps16 14 ?_
  simp -implicitDefEqProofs only [push_cast, false_implies, reduceCtorEq, Classical.not_not, Nat.reduceAdd, Nat.reduceSub, Nat.reduceMul, Nat.reduceLeDiff, Nat.reduceLT, Nat.reduceEqDiff, Nat.reduceBEq, Nat.reduceBNe, Int.reduceNeg, Int.reduceToNat, Bool.or_false, Bool.false_or, Bool.or_true, Bool.true_or, BEq.rfl, Bool.not_eq_true, Bool.not_eq_false, decide_eq_true_eq, not_true_eq_false, not_false_eq_true, ite_true, ite_false, List.append_nil, and_assoc, Nat.mul_zero, Nat.zero_mul, ir16]
  intro X
  have fin : ∀ p : Prop, [Decidable p] → (p ↔ (⟨w, h, R, G, B⟩ : Im).Ok) → decide p = decide (⟨w, h, R, G, B⟩ : Im).Ok := fun p _ e => decide_eq_decide.2 e
  refine ⟨fun hn => ?_, fun hs => ?_⟩
  · have e : ¬ (⟨w, h, R, G, B⟩ : Im).Ok := fun H => hn H.1
    refine postF.mk' (fun _ => default) [some 0, some 1, some 2] ?_
    simp -implicitDefEqProofs only [push_cast, false_implies, reduceCtorEq, Classical.not_not, Nat.reduceAdd, Nat.reduceSub, Nat.reduceMul, Nat.reduceLeDiff, Nat.reduceLT, Nat.reduceEqDiff, Nat.reduceBEq, Nat.reduceBNe, Int.reduceNeg, Int.reduceToNat, Bool.or_false, Bool.false_or, Bool.or_true, Bool.true_or, BEq.rfl, Bool.not_eq_true, Bool.not_eq_false, decide_eq_true_eq, not_true_eq_false, not_false_eq_true, ite_true, ite_false, List.append_nil, and_assoc, Nat.mul_zero, Nat.zero_mul, fs15, e, decide_false]
  · have hm := hs.bd
    refine ⟨by omega, by omega, fun hn => ?_, fun hy => ?_⟩
    · have e : ¬ (⟨w, h, R, G, B⟩ : Im).Ok := fun H => by
        obtain ⟨_, ⟨a, _⟩, ⟨b, _⟩, ⟨c, _⟩⟩ := H
        simp only at a b c
        omega
      refine postF.mk' (fun _ => default) [some 0, some 1, some 2] ?_
      simp -implicitDefEqProofs only [push_cast, false_implies, reduceCtorEq, Classical.not_not, Nat.reduceAdd, Nat.reduceSub, Nat.reduceMul, Nat.reduceLeDiff, Nat.reduceLT, Nat.reduceEqDiff, Nat.reduceBEq, Nat.reduceBNe, Int.reduceNeg, Int.reduceToNat, Bool.or_false, Bool.false_or, Bool.or_true, Bool.true_or, BEq.rfl, Bool.not_eq_true, Bool.not_eq_false, decide_eq_true_eq, not_true_eq_false, not_false_eq_true, ite_true, ite_false, List.append_nil, and_assoc, Nat.mul_zero, Nat.zero_mul, fs15, e, decide_false]
    · obtain ⟨a, b, c⟩ : R.length = w * h ∧ G.length = w * h ∧ B.length = w * h := by omega
      refine evS_loop _ _ _ (lp16 w h R G B L1 L2 L3 (X 0 10)) (0 : Nat) ⟨Nat.zero_le _, fun j hj => absurd hj (Nat.not_lt_zero _)⟩ ?_ ?_
      · change Sub _ _ (I16 w h R G B L1 L2 L3 (X 0 10) 0).1 (I16 w h R G B L1 L2 L3 (X 0 10) 0).2
        simp -implicitDefEqProofs only [push_cast, false_implies, reduceCtorEq, Classical.not_not, Nat.reduceAdd, Nat.reduceSub, Nat.reduceMul, Nat.reduceLeDiff, Nat.reduceLT, Nat.reduceEqDiff, Nat.reduceBEq, Nat.reduceBNe, Int.reduceNeg, Int.reduceToNat, Bool.or_false, Bool.false_or, Bool.or_true, Bool.true_or, BEq.rfl, Bool.not_eq_true, Bool.not_eq_false, decide_eq_true_eq, not_true_eq_false, not_false_eq_true, ite_true, ite_false, List.append_nil, and_assoc, Nat.mul_zero, Nat.zero_mul, I16]
        exact Sub.refl _ _
      · intro (i : Nat) ⟨(hi : i ≤ (w * h).toNat), (hj : ∀ j, j < i → ValOk (rd R (j : Nat)) ∧ ValOk (rd G (j : Nat)) ∧ ValOk (rd B (j : Nat)))⟩
        change evS _ _ _ _ (I16 w h R G B L1 L2 L3 (X 0 10) i).1 (I16 w h R G B L1 L2 L3 (X 0 10) i).2
        simp -implicitDefEqProofs only [push_cast, false_implies, reduceCtorEq, Classical.not_not, Nat.reduceAdd, Nat.reduceSub, Nat.reduceMul, Nat.reduceLeDiff, Nat.reduceLT, Nat.reduceEqDiff, Nat.reduceBEq, Nat.reduceBNe, Int.reduceNeg, Int.reduceToNat, Bool.or_false, Bool.false_or, Bool.or_true, Bool.true_or, BEq.rfl, Bool.not_eq_true, Bool.not_eq_false, decide_eq_true_eq, not_true_eq_false, not_false_eq_true, ite_true, ite_false, List.append_nil, and_assoc, Nat.mul_zero, Nat.zero_mul, I16, b16_1, r16_2]
        refine ⟨fun hl => ⟨by omega, by omega, by omega, by omega, fun h => ⟨h, h, by omega, by omega⟩, fun h => ⟨h, by omega, by omega⟩, fun h => ⟨h, h, by omega, by omega⟩, fun h => ⟨h, by omega, by omega⟩, fun hb => ?_, fun hg => ⟨by omega, by omega, ?_⟩⟩, fun hl => ?_⟩
        · have e : ¬ (⟨w, h, R, G, B⟩ : Im).Ok := fun H => by
            obtain ⟨_, ⟨_, x⟩, ⟨_, y⟩, ⟨_, z⟩⟩ := H
            rcases hb with (hb | hb) | hb
            · exact hb (allVal_rd.1 x i (show i < R.length by omega))
            · exact hb (allVal_rd.1 y i (show i < G.length by omega))
            · exact hb (allVal_rd.1 z i (show i < B.length by omega))
          refine postF.mk' (fun _ => default) [some 0, some 1, some 2] ?_
          simp -implicitDefEqProofs only [push_cast, false_implies, reduceCtorEq, Classical.not_not, Nat.reduceAdd, Nat.reduceSub, Nat.reduceMul, Nat.reduceLeDiff, Nat.reduceLT, Nat.reduceEqDiff, Nat.reduceBEq, Nat.reduceBNe, Int.reduceNeg, Int.reduceToNat, Bool.or_false, Bool.false_or, Bool.or_true, Bool.true_or, BEq.rfl, Bool.not_eq_true, Bool.not_eq_false, decide_eq_true_eq, not_true_eq_false, not_false_eq_true, ite_true, ite_false, List.append_nil, and_assoc, Nat.mul_zero, Nat.zero_mul, fs15, e, decide_false]
        · refine lpK_mk (i + 1 : Nat) ⟨by omega, fun j h => ?_⟩ (show (w * h).toNat - (i + 1) < (w * h).toNat - i by omega) ?_
          · by_cases e : j = i
            · subst e; simp only [not_or, Classical.not_not] at hg; exact ⟨hg.1.1, hg.1.2, hg.2⟩
            · exact hj j (by omega)
          · change Sub _ _ (I16 w h R G B L1 L2 L3 (X 0 10) (i + 1)).1 (I16 w h R G B L1 L2 L3 (X 0 10) (i + 1)).2
            simp -implicitDefEqProofs only [push_cast, false_implies, reduceCtorEq, Classical.not_not, Nat.reduceAdd, Nat.reduceSub, Nat.reduceMul, Nat.reduceLeDiff, Nat.reduceLT, Nat.reduceEqDiff, Nat.reduceBEq, Nat.reduceBNe, Int.reduceNeg, Int.reduceToNat, Bool.or_false, Bool.false_or, Bool.or_true, Bool.true_or, BEq.rfl, Bool.not_eq_true, Bool.not_eq_false, decide_eq_true_eq, not_true_eq_false, not_false_eq_true, ite_true, ite_false, List.append_nil, and_assoc, Nat.mul_zero, Nat.zero_mul, I16]
            exact Sub.refl _ _
        · have e : (⟨w, h, R, G, B⟩ : Im).Ok := ⟨hs, ⟨a, allVal_rd.2 fun j h => (hj j (by simp only at h; omega)).1⟩, ⟨b, allVal_rd.2 fun j h => (hj j (by simp only at h; omega)).2.1⟩, ⟨c, allVal_rd.2 fun j h => (hj j (by simp only at h; omega)).2.2⟩⟩
          refine postF.mk' (fun _ => default) [some 0, some 1, some 2] ?_
          simp -implicitDefEqProofs only [push_cast, false_implies, reduceCtorEq, Classical.not_not, Nat.reduceAdd, Nat.reduceSub, Nat.reduceMul, Nat.reduceLeDiff, Nat.reduceLT, Nat.reduceEqDiff, Nat.reduceBEq, Nat.reduceBNe, Int.reduceNeg, Int.reduceToNat, Bool.or_false, Bool.false_or, Bool.or_true, Bool.true_or, BEq.rfl, Bool.not_eq_true, Bool.not_eq_false, decide_eq_true_eq, not_true_eq_false, not_false_eq_true, ite_true, ite_false, List.append_nil, and_assoc, Nat.mul_zero, Nat.zero_mul, fs15, e, decide_true]
def ent16 : Entry := spOf fs15 inv15
theorem e16 : EntryOk Try.prog 16 ent16 := entry_of ok16 inv15
@[push_cast] theorem ent16_app (us : List SV) (look : Look) (x : Nat → Xf.Loc) (k : Nat) : ent16 us look x k = spOf fs15 inv15 us look x k := rfl

end Go.Proofs.Ytnmbimhcfioeiaa
