import Derived.Test.YtefggfjblhniaaaVe
set_option linter.unusedVariables false
set_option linter.unusedSimpArgs false
/-! Turn. -/
namespace Go.Proofs.Ytefggfjblhniaaa
open Xf
set_option maxRecDepth 4000
/- incunable/colour.blankPlane : slots 12, labels 10..11 -/
def ir59 : IR :=
  .seq (.reg false [⟨some 4, none, ⟨[], []⟩, .alloc 10 [.int .i64 0, .int .i64 0, nilSV]⟩] [] []) (.seq (.reg false [⟨some 5, none, ⟨[], []⟩, .mov (.t 0)⟩,
    ⟨some 6, none, ⟨[], []⟩, .mov (.t 1)⟩,
    ⟨some 7, none, ⟨[], []⟩, .mov (.t 0)⟩,
    ⟨some 8, none, ⟨[], []⟩, .mov (.t 1)⟩,
    ⟨some 9, none, ⟨[], []⟩, .bin 0 .mul (.t 7) (.t 8)⟩,
    ⟨some 10, none, ⟨[], []⟩, .mks 11 (.int .i64 0) 8 (.t 9) (.t 9)⟩,
    ⟨some 11, none, ⟨[], []⟩, .build [.int .i64 0, .int .i64 0, nilSV] [(0, 1, .t 5), (1, 1, .t 6), (2, 1, .t 10)]⟩,
    ⟨none, none, ⟨[], []⟩, .sto false 3 .i64 (.t 4) (.t 11)⟩] [0, 1, 5, 6, 7, 8, 9, 10, 11] []) (.ret))
theorem comp59 : (Try.f59.body.bind fun c => compC tab isP chkAll ir59 c) = some ir59 := by kernel_rfl
/- incunable/colour.Turn : slots 91, labels 10..29; loop b33_1 keeps [1, 2, 3, 4, 30, 31] -/
def b33_1 : IR :=
  .seq (.reg false [⟨some 32, none, ⟨[], []⟩, .bin 0 .lss (.t 31) (.t 30)⟩] [] []) (.seq (.cond (.t 32) (.skip) (.exit 0)) (.seq (.block 1 (.seq (.reg false [⟨some 33, none, ⟨[], []⟩, .mov (.t 31)⟩,
    ⟨some 6, none, ⟨[], []⟩, .mov (.t 33)⟩] [32, 33] []) (.seq (.reg true [⟨some 34, none, ⟨[], []⟩, .fld (.t 2) 2⟩,
    ⟨some 35, none, ⟨[], []⟩, .ld false none 0 0 (.t 34)⟩,
    ⟨some 36, none, ⟨[], []⟩, .mov (.t 6)⟩,
    ⟨some 37, none, ⟨[], []⟩, .fld (.t 1) 2⟩,
    ⟨some 38, none, ⟨[], []⟩, .ld false none 0 0 (.t 37)⟩,
    ⟨some 39, none, ⟨[], []⟩, .mov (.t 6)⟩,
    ⟨some 40, none, ⟨[], []⟩, .idxS (.t 38) (.t 39) 1⟩,
    ⟨some 41, none, ⟨[], []⟩, .ld true none 0 0 (.t 40)⟩,
    ⟨some 42, none, ⟨[], []⟩, .fld (.t 1) 3⟩,
    ⟨some 43, none, ⟨[], []⟩, .ld false none 0 0 (.t 42)⟩,
    ⟨some 44, none, ⟨[], []⟩, .mov (.t 6)⟩,
    ⟨some 45, none, ⟨[], []⟩, .idxS (.t 43) (.t 44) 1⟩,
    ⟨some 46, none, ⟨[], []⟩, .ld true none 0 0 (.t 45)⟩,
    ⟨some 47, none, ⟨[], []⟩, .bin 0 .mul (.k (.int .i64 2)) (.t 46)⟩,
    ⟨some 48, none, ⟨[], []⟩, .bin 0 .add (.t 41) (.t 47)⟩,
    ⟨some 49, none, ⟨[], []⟩, .fld (.t 1) 4⟩,
    ⟨some 50, none, ⟨[], []⟩, .ld false none 0 0 (.t 49)⟩,
    ⟨some 51, none, ⟨[], []⟩, .mov (.t 6)⟩,
    ⟨some 52, none, ⟨[], []⟩, .idxS (.t 50) (.t 51) 1⟩,
    ⟨some 53, none, ⟨[], []⟩, .ld true none 0 0 (.t 52)⟩,
    ⟨some 54, none, ⟨[], []⟩, .bin 0 .add (.t 48) (.t 53)⟩,
    ⟨some 55, none, ⟨[], []⟩, .bin 0 .quo (.t 54) (.k (.int .i64 4))⟩,
    ⟨some 56, none, ⟨[], []⟩, .idxS (.t 35) (.t 36) 1⟩,
    ⟨none, none, ⟨[], []⟩, .sto true 1 .i64 (.t 56) (.t 55)⟩] [34, 35, 36, 37, 38, 39, 40, 41, 42, 43, 44, 45, 46, 47, 48, 49, 50, 51, 52, 53, 54, 55, 56] []) (.seq (.reg true [⟨some 57, none, ⟨[], []⟩, .fld (.t 3) 2⟩,
    ⟨some 58, none, ⟨[], []⟩, .ld false none 0 0 (.t 57)⟩,
    ⟨some 59, none, ⟨[], []⟩, .mov (.t 6)⟩,
    ⟨some 60, none, ⟨[], []⟩, .fld (.t 1) 4⟩,
    ⟨some 61, none, ⟨[], []⟩, .ld false none 0 0 (.t 60)⟩,
    ⟨some 62, none, ⟨[], []⟩, .mov (.t 6)⟩,
    ⟨some 63, none, ⟨[], []⟩, .idxS (.t 61) (.t 62) 1⟩,
    ⟨some 64, none, ⟨[], []⟩, .ld true none 0 0 (.t 63)⟩,
    ⟨some 65, none, ⟨[], []⟩, .fld (.t 1) 3⟩,
    ⟨some 66, none, ⟨[], []⟩, .ld false none 0 0 (.t 65)⟩,
    ⟨some 67, none, ⟨[], []⟩, .mov (.t 6)⟩,
    ⟨some 68, none, ⟨[], []⟩, .idxS (.t 66) (.t 67) 1⟩,
    ⟨some 69, none, ⟨[], []⟩, .ld true none 0 0 (.t 68)⟩,
    ⟨some 70, none, ⟨[], []⟩, .bin 0 .sub (.t 64) (.t 69)⟩,
    ⟨some 71, none, ⟨[], []⟩, .idxS (.t 58) (.t 59) 1⟩,
    ⟨none, none, ⟨[], []⟩, .sto true 1 .i64 (.t 71) (.t 70)⟩] [57, 58, 59, 60, 61, 62, 63, 64, 65, 66, 67, 68, 69, 70, 71] []) (.reg true [⟨some 72, none, ⟨[], []⟩, .fld (.t 4) 2⟩,
    ⟨some 73, none, ⟨[], []⟩, .ld false none 0 0 (.t 72)⟩,
    ⟨some 74, none, ⟨[], []⟩, .mov (.t 6)⟩,
    ⟨some 75, none, ⟨[], []⟩, .fld (.t 1) 2⟩,
    ⟨some 76, none, ⟨[], []⟩, .ld false none 0 0 (.t 75)⟩,
    ⟨some 77, none, ⟨[], []⟩, .mov (.t 6)⟩,
    ⟨some 78, none, ⟨[], []⟩, .idxS (.t 76) (.t 77) 1⟩,
    ⟨some 79, none, ⟨[], []⟩, .ld true none 0 0 (.t 78)⟩,
    ⟨some 80, none, ⟨[], []⟩, .fld (.t 1) 3⟩,
    ⟨some 81, none, ⟨[], []⟩, .ld false none 0 0 (.t 80)⟩,
    ⟨some 82, none, ⟨[], []⟩, .mov (.t 6)⟩,
    ⟨some 83, none, ⟨[], []⟩, .idxS (.t 81) (.t 82) 1⟩,
    ⟨some 84, none, ⟨[], []⟩, .ld true none 0 0 (.t 83)⟩,
    ⟨some 85, none, ⟨[], []⟩, .bin 0 .sub (.t 79) (.t 84)⟩,
    ⟨some 86, none, ⟨[], []⟩, .idxS (.t 73) (.t 74) 1⟩,
    ⟨none, none, ⟨[], []⟩, .sto true 1 .i64 (.t 86) (.t 85)⟩] [6, 72, 73, 74, 75, 76, 77, 78, 79, 80, 81, 82, 83, 84, 85, 86] []))))) (.reg false [⟨some 87, none, ⟨[], []⟩, .bin 0 .add (.t 31) (.k (.int .i64 1))⟩,
    ⟨some 31, none, ⟨[], []⟩, .mov (.t 87)⟩] [87] [])))
def r33_2 : IR :=
  .seq (.reg true [⟨some 88, none, ⟨[], []⟩, .ld false (some 3) 0 0 (.t 2)⟩,
    ⟨some 89, none, ⟨[11], []⟩, .ld false (some 3) 0 0 (.t 3)⟩,
    ⟨some 90, none, ⟨[11, 12], []⟩, .ld false (some 3) 0 0 (.t 4)⟩,
    ⟨none, none, ⟨[], [11]⟩, .sto false 3 .i64 (.t 2) (.t 88)⟩,
    ⟨none, none, ⟨[], [12]⟩, .sto false 3 .i64 (.t 3) (.t 89)⟩,
    ⟨none, none, ⟨[], []⟩, .sto false 3 .i64 (.t 4) (.t 90)⟩,
    ⟨some 5, none, ⟨[], []⟩, .mov (.k (.int .i64 0))⟩] [1, 30, 31, 88, 89, 90] []) (.ret)
def ir33 : IR :=
  .seq (.reg false [⟨some 1, none, ⟨[], []⟩, .box 10 (.t 0)⟩,
    ⟨some 2, none, ⟨[], []⟩, .alloc 11 [.int .i64 0, .int .i64 0, nilSV]⟩,
    ⟨some 3, none, ⟨[], []⟩, .alloc 12 [.int .i64 0, .int .i64 0, nilSV]⟩,
    ⟨some 4, none, ⟨[], []⟩, .alloc 13 [.int .i64 0, .int .i64 0, nilSV]⟩,
    ⟨some 5, none, ⟨[], []⟩, .mov (.k (.int .i64 0))⟩] [0, 5] []) (.seq (.seq (.reg false [⟨some 7, none, ⟨[], []⟩, .ld false (some 5) 0 0 (.t 1)⟩,
    ⟨some 8, none, ⟨[], []⟩, .call (some 4) 14 58 [.t 7]⟩,
    ⟨some 9, none, ⟨[], []⟩, .not (.t 8)⟩] [7, 8] []) (.cond (.t 9) (.seq (.reg true [⟨some 10, none, ⟨[], []⟩, .ld false (some 3) 0 0 (.t 2)⟩,
    ⟨some 11, none, ⟨[11], []⟩, .ld false (some 3) 0 0 (.t 3)⟩,
    ⟨some 12, none, ⟨[11, 12], []⟩, .ld false (some 3) 0 0 (.t 4)⟩,
    ⟨none, none, ⟨[], [11]⟩, .sto false 3 .i64 (.t 2) (.t 10)⟩,
    ⟨none, none, ⟨[], [12]⟩, .sto false 3 .i64 (.t 3) (.t 11)⟩,
    ⟨none, none, ⟨[], []⟩, .sto false 3 .i64 (.t 4) (.t 12)⟩,
    ⟨some 5, none, ⟨[], []⟩, .mov (.k (.int .i64 75))⟩] [1, 9, 10, 11, 12] []) (.ret)) (.skip))) (.seq (.reg true [⟨some 13, none, ⟨[], []⟩, .fld (.t 1) 0⟩,
    ⟨some 14, none, ⟨[], []⟩, .ld false none 0 0 (.t 13)⟩,
    ⟨some 15, none, ⟨[], []⟩, .fld (.t 1) 1⟩,
    ⟨some 16, none, ⟨[], []⟩, .ld false none 0 0 (.t 15)⟩,
    ⟨some 17, none, ⟨[], []⟩, .call (some 4) 18 59 [.t 14, .t 16]⟩,
    ⟨some 18, none, ⟨[], []⟩, .fld (.t 1) 0⟩,
    ⟨some 19, none, ⟨[18, 19, 20, 21], []⟩, .ld false none 0 0 (.t 18)⟩,
    ⟨some 20, none, ⟨[], []⟩, .fld (.t 1) 1⟩,
    ⟨some 21, none, ⟨[18, 19, 20, 21], []⟩, .ld false none 0 0 (.t 20)⟩,
    ⟨some 22, none, ⟨[], []⟩, .call (some 4) 22 59 [.t 19, .t 21]⟩,
    ⟨some 23, none, ⟨[], []⟩, .fld (.t 1) 0⟩,
    ⟨some 24, none, ⟨[18, 19, 20, 21, 22, 23, 24, 25], []⟩, .ld false none 0 0 (.t 23)⟩,
    ⟨some 25, none, ⟨[], []⟩, .fld (.t 1) 1⟩,
    ⟨some 26, none, ⟨[18, 19, 20, 21, 22, 23, 24, 25], []⟩, .ld false none 0 0 (.t 25)⟩,
    ⟨some 27, none, ⟨[], []⟩, .call (some 4) 26 59 [.t 24, .t 26]⟩,
    ⟨none, none, ⟨[], []⟩, .sto false 3 .i64 (.t 2) (.t 17)⟩,
    ⟨none, none, ⟨[], []⟩, .sto false 3 .i64 (.t 3) (.t 22)⟩,
    ⟨none, none, ⟨[], []⟩, .sto false 3 .i64 (.t 4) (.t 27)⟩] [5, 9, 13, 14, 15, 16, 17, 18, 19, 20, 21, 22, 23, 24, 25, 26, 27] []) (.seq (.seq (.reg false [⟨some 28, none, ⟨[], []⟩, .fld (.t 1) 2⟩,
    ⟨some 29, none, ⟨[], []⟩, .ld false none 0 0 (.t 28)⟩,
    ⟨some 30, none, ⟨[], []⟩, .len (.t 29)⟩,
    ⟨some 31, none, ⟨[], []⟩, .mov (.k (.int .i64 0))⟩] [28, 29] []) (.block 0 (.loop b33_1))) (r33_2))))
def kp33_1 : List Nat := [1, 2, 3, 4, 30, 31]
def kl33_1 : List Nat := []
attribute [push_cast] kp33_1 kl33_1
theorem comp33 : (Try.f33.body.bind fun c => compC tab isP chkAll ir33 c) = some ir33 := by kernel_rfl
set_option maxRecDepth 512

structure Pl where
  w : Int
  h : Int
  xs : List Int
def plV (p : Pl) (L : Xf.Loc) (c : Nat) : SV := .agg [.int .i64 p.w, .int .i64 p.h, .sl c L 1 0 p.xs.length]
attribute [push_cast] plV
def pl0 : Pl := ⟨0, 0, []⟩

def fs59 : FS where
  A := WH
  args := fun a => [.int .i64 a.w, .int .i64 a.h]
  mem := fun _ => []
  pre := fun a => SidesOk a.w a.h
  res := fun a x => .agg [.int .i64 a.w, .int .i64 a.h, .sl 0 (x 0) 1 0 (a.w * a.h)]
  out := fun _ _ => []
  new := fun a x => [(x 0, .ints .i64 (zs (a.w * a.h)))]
theorem ok59 : FSOk Try.prog 59 fs59 := by
  refine ⟨⟨_, Try.func59, by kernel_rfl, by kernel_rfl⟩, fun a => ⟨by simp [fs59, push_cast, noMine, argOwn, Chunk.frArg], by simp [fs59, push_cast, outOk, Chunk.ext], fun x => .inl (by simp [fs59, push_cast, frNew, frOut, Chunk.fr])⟩, fun a hp => ?_⟩
  obtain ⟨w, h⟩ := a
  change SidesOk w h at hp
  change Tri Try.prog 59 [.int .i64 w, .int .i64 h] [] (postF fs59 ⟨w, h⟩)
  refine tri_evS (hyp (l := []) (lp := []) trivial trivial) Try.func59 comp59 (rs := [.cell 4 (some 3)]) (by rfl) Try.ntmps59 14 ?_
  simp -implicitDefEqProofs only [push_cast, false_implies, reduceCtorEq, Classical.not_not, Nat.reduceAdd, Nat.reduceSub, Nat.reduceMul, Nat.reduceLeDiff, Nat.reduceLT, Nat.reduceEqDiff, Nat.reduceBEq, Nat.reduceBNe, Int.reduceNeg, Int.reduceToNat, Bool.or_false, Bool.false_or, Bool.or_true, Bool.true_or, BEq.rfl, Bool.not_eq_true, Bool.not_eq_false, decide_eq_true_eq, not_true_eq_false, not_false_eq_true, ite_true, ite_false, List.append_nil, and_assoc, Nat.mul_zero, Nat.zero_mul, ir59]
  have hm := hp.bd
  intro X X1
  refine ⟨by omega, by omega, by omega, by omega, by omega, postF.mk' (locs [X1 5 11]) [some 11] ?_⟩
  simp -implicitDefEqProofs only [push_cast, false_implies, reduceCtorEq, Classical.not_not, Nat.reduceAdd, Nat.reduceSub, Nat.reduceMul, Nat.reduceLeDiff, Nat.reduceLT, Nat.reduceEqDiff, Nat.reduceBEq, Nat.reduceBNe, Int.reduceNeg, Int.reduceToNat, Bool.or_false, Bool.false_or, Bool.or_true, Bool.true_or, BEq.rfl, Bool.not_eq_true, Bool.not_eq_false, decide_eq_true_eq, not_true_eq_false, not_false_eq_true, ite_true, ite_false, List.append_nil, and_assoc, Nat.mul_zero, Nat.zero_mul, fs59, zs]
def ent59 : Entry := spOf fs59 inv61
theorem e59 : EntryOk Try.prog 59 ent59 := entry_of ok59 inv61
@[push_cast] theorem ent59_app (us : List SV) (look : Look) (x : Nat → Xf.Loc) (k : Nat) : ent59 us look x k = spOf fs59 inv61 us look x k := rfl

/-- The planes of an image. -/
def tY (i : Im) : Nat → Int := fun k => (rd i.R (k : Nat) + 2 * rd i.G (k : Nat) + rd i.B (k : Nat)) / 4
def tU (i : Im) : Nat → Int := fun k => rd i.B (k : Nat) - rd i.G (k : Nat)
def tV (i : Im) : Nat → Int := fun k => rd i.R (k : Nat) - rd i.G (k : Nat)
def turn (f : Im → Nat → Int) (i : Im) : Pl := if i.Ok then ⟨i.w, i.h, tabl i.R.length (f i)⟩ else pl0
def fs33 : FS where
  A := ImA
  args := fun a => [imV a.i a.L1 a.L2 a.L3 0]
  mem := fun a => imM a.i a.L1 a.L2 a.L3
  pre := fun a => a.i.small
  res := fun a x => .tup [plV (turn tY a.i) (lx a.i.Ok x 0) 3, plV (turn tU a.i) (lx a.i.Ok x 1) 4, plV (turn tV a.i) (lx a.i.Ok x 2) 5, .int .i64 (if a.i.Ok then 0 else 75)]
  out := fun _ _ => []
  new := fun a x => [(lx a.i.Ok x 0, .ints .i64 (turn tY a.i).xs), (lx a.i.Ok x 1, .ints .i64 (turn tU a.i).xs), (lx a.i.Ok x 2, .ints .i64 (turn tV a.i).xs)]
def I33 (i : Im) (L1 L2 L3 L0 M1 M2 M3 N1 N2 N3 : Xf.Loc) (k : Nat) : List Ent × Mem :=
  (mkS 91 [(1, .ptr 10 L0 0 0 0), (2, .ptr 11 M1 0 0 0), (3, .ptr 12 M2 0 0 0), (4, .ptr 13 M3 0 0 0), (30, .int .i64 i.R.length), (31, .int .i64 k)],
    mkM 35 [(0, .ro, L1, .ints .i64 i.R), (1, .ro, L2, .ints .i64 i.G), (2, .ro, L3, .ints .i64 i.B), (10, .mine, L0, .cells [.int .i64 i.w, .int .i64 i.h, .sl 0 L1 1 0 i.R.length, .sl 1 L2 1 0 i.G.length, .sl 2 L3 1 0 i.B.length]),
      (11, .mine, M1, .cells [.int .i64 i.w, .int .i64 i.h, .sl 18 N1 1 0 (i.w * i.h)]), (12, .mine, M2, .cells [.int .i64 i.w, .int .i64 i.h, .sl 22 N2 1 0 (i.w * i.h)]), (13, .mine, M3, .cells [.int .i64 i.w, .int .i64 i.h, .sl 26 N3 1 0 (i.w * i.h)]),
      (18, .mine, N1, .ints .i64 (prt i.R.length k (tY i))), (22, .mine, N2, .ints .i64 (prt i.R.length k (tU i))), (26, .mine, N3, .ints .i64 (prt i.R.length k (tV i)))])
def lp33 (i : Im) (L1 L2 L3 L0 M1 M2 M3 N1 N2 N3 : Xf.Loc) : LoopS where
  A := Nat
  I := I33 i L1 L2 L3 L0 M1 M2 M3 N1 N2 N3
  R := fun k => k ≤ i.R.length
  mu := fun k => i.R.length - k
theorem Im.Ok.val {i : Im} (h : i.Ok) : i.G.length = i.R.length ∧ i.B.length = i.R.length ∧ ∀ k : Nat, k < i.R.length → (0 ≤ rd i.R (k : Nat) ∧ rd i.R (k : Nat) ≤ 255) ∧ (0 ≤ rd i.G (k : Nat) ∧ rd i.G (k : Nat) ≤ 255) ∧ (0 ≤ rd i.B (k : Nat) ∧ rd i.B (k : Nat) ≤ 255) := by
  obtain ⟨_, ⟨a, x⟩, ⟨b, y⟩, ⟨c, z⟩⟩ := h
  have e1 : i.G.length = i.R.length := by omega
  have e2 : i.B.length = i.R.length := by omega
  exact ⟨e1, e2, fun k hk => ⟨allVal_rd.1 x k hk, allVal_rd.1 y k (by omega), allVal_rd.1 z k (by omega)⟩⟩
theorem ok33 : FSOk Try.prog 33 fs33 := by
  refine ⟨⟨_, Try.func33, by kernel_rfl, by kernel_rfl⟩, fun a => ⟨by simp [fs33, imM, push_cast, noMine, argOwn, Chunk.frArg], by simp [fs33, imM, push_cast, outOk, Chunk.ext], fun x => .inl (by simp [fs33, imM, push_cast, frNew, frOut, Chunk.fr])⟩, fun a hp => ?_⟩
  obtain ⟨⟨w, h, R, G, B⟩, L1, L2, L3⟩ := a
  change (⟨w, h, R, G, B⟩ : Im).small at hp
  change Tri Try.prog 33 [imV ⟨w, h, R, G, B⟩ L1 L2 L3 0] (imM ⟨w, h, R, G, B⟩ L1 L2 L3) (postF fs33 ⟨⟨w, h, R, G, B⟩, L1, L2, L3⟩)
  refine tri_evS (hyp (l := [(58, ent58), (59, ent59)]) (lp := []) ⟨e58, e59, trivial⟩ trivial) Try.func33 comp33 (rs := [.cell 2 (some 3), .cell 3 (some 3), .cell 4 (some 3), .tmp 5]) (by rfl) Try.ntmps33 32 ?_
  simp -implicitDefEqProofs only [push_cast, false_implies, reduceCtorEq, Classical.not_not, Nat.reduceAdd, Nat.reduceSub, Nat.reduceMul, Nat.reduceLeDiff, Nat.reduceLT, Nat.reduceEqDiff, Nat.reduceBEq, Nat.reduceBNe, Int.reduceNeg, Int.reduceToNat, Bool.or_false, Bool.false_or, Bool.or_true, Bool.true_or, BEq.rfl, Bool.not_eq_true, Bool.not_eq_false, decide_eq_true_eq, not_true_eq_false, not_false_eq_true, ite_true, ite_false, List.append_nil, and_assoc, Nat.mul_zero, Nat.zero_mul, ir33, fs58, fs59]
  intro X
  refine ⟨hp, fun hn => ?_, fun hy X1 => ⟨hy.1, ?_⟩⟩
  · refine postF.mk' (fun _ => default) [some 0, some 1, some 2, none, none, none] ?_
    simp -implicitDefEqProofs only [push_cast, false_implies, reduceCtorEq, Classical.not_not, Nat.reduceAdd, Nat.reduceSub, Nat.reduceMul, Nat.reduceLeDiff, Nat.reduceLT, Nat.reduceEqDiff, Nat.reduceBEq, Nat.reduceBNe, Int.reduceNeg, Int.reduceToNat, Bool.or_false, Bool.false_or, Bool.or_true, Bool.true_or, BEq.rfl, Bool.not_eq_true, Bool.not_eq_false, decide_eq_true_eq, not_true_eq_false, not_false_eq_true, ite_true, ite_false, List.append_nil, and_assoc, Nat.mul_zero, Nat.zero_mul, fs33, turn, hn, if_false, lx, pl0]
  have hs : SidesOk w h := hy.1
  have hm := hs.bd
  have hl : (R.length : Int) = w * h := hy.2.1.1
  obtain ⟨e1, e2, hv⟩ := hy.val
  simp only at e1 e2 hv
  refine evS_loop _ _ _ (lp33 ⟨w, h, R, G, B⟩ L1 L2 L3 (X 0 10) (X 1 11) (X 2 12) (X 3 13) (X1 4 18) (X1 9 22) (X1 14 26)) (0 : Nat) (Nat.zero_le _) ?_ ?_
  · refine Sub.of (mkG 35 [(0, 0), (1, 1), (2, 2), (10, 10), (11, 11), (12, 12), (13, 13), (18, 18), (22, 22), (26, 26)]) ?_
    have ez : (w * h).toNat = R.length := by omega
    simp -implicitDefEqProofs only [push_cast, false_implies, reduceCtorEq, Classical.not_not, Nat.reduceAdd, Nat.reduceSub, Nat.reduceMul, Nat.reduceLeDiff, Nat.reduceLT, Nat.reduceEqDiff, Nat.reduceBEq, Nat.reduceBNe, Int.reduceNeg, Int.reduceToNat, Bool.or_false, Bool.false_or, Bool.or_true, Bool.true_or, BEq.rfl, Bool.not_eq_true, Bool.not_eq_false, decide_eq_true_eq, not_true_eq_false, not_false_eq_true, ite_true, ite_false, List.append_nil, and_assoc, Nat.mul_zero, Nat.zero_mul, lp33, I33, zs, prt_zero, ez]
  intro (k : Nat) (hk : k ≤ R.length)
  change evS _ _ _ _ (I33 ⟨w, h, R, G, B⟩ L1 L2 L3 (X 0 10) (X 1 11) (X 2 12) (X 3 13) (X1 4 18) (X1 9 22) (X1 14 26) k).1 (I33 ⟨w, h, R, G, B⟩ L1 L2 L3 (X 0 10) (X 1 11) (X 2 12) (X 3 13) (X1 4 18) (X1 9 22) (X1 14 26) k).2
  simp -implicitDefEqProofs only [push_cast, false_implies, reduceCtorEq, Classical.not_not, Nat.reduceAdd, Nat.reduceSub, Nat.reduceMul, Nat.reduceLeDiff, Nat.reduceLT, Nat.reduceEqDiff, Nat.reduceBEq, Nat.reduceBNe, Int.reduceNeg, Int.reduceToNat, Bool.or_false, Bool.false_or, Bool.or_true, Bool.true_or, BEq.rfl, Bool.not_eq_true, Bool.not_eq_false, decide_eq_true_eq, not_true_eq_false, not_false_eq_true, ite_true, ite_false, List.append_nil, and_assoc, Nat.mul_zero, Nat.zero_mul, I33, b33_1, r33_2]
  refine ⟨fun hk1 => ?_, fun hk1 => ?_⟩
  · have hk' : k < R.length := by omega
    obtain ⟨v1, v2, v3⟩ := hv k hk'
    have lY := prt_length hk (tY (⟨w, h, R, G, B⟩ : Im))
    have lU := prt_length hk (tU (⟨w, h, R, G, B⟩ : Im))
    have lV := prt_length hk (tV (⟨w, h, R, G, B⟩ : Im))
    repeat (refine ⟨by omega, ?_⟩)
    refine lpK_mk (k + 1 : Nat) hk' (show R.length - (k + 1) < R.length - k by omega) ?_
    have q1 : (prt R.length k (tY (⟨w, h, R, G, B⟩ : Im))).set k ((rd R k + 2 * rd G k + rd B k) / 4) = prt R.length (k + 1) (tY (⟨w, h, R, G, B⟩ : Im)) := prt_set hk' _
    have q2 : (prt R.length k (tU (⟨w, h, R, G, B⟩ : Im))).set k (rd B k - rd G k) = prt R.length (k + 1) (tU (⟨w, h, R, G, B⟩ : Im)) := prt_set hk' _
    have q3 : (prt R.length k (tV (⟨w, h, R, G, B⟩ : Im))).set k (rd R k - rd G k) = prt R.length (k + 1) (tV (⟨w, h, R, G, B⟩ : Im)) := prt_set hk' _
    refine Sub.of (mkG 35 [(0, 0), (1, 1), (2, 2), (10, 10), (11, 11), (12, 12), (13, 13), (18, 18), (22, 22), (26, 26)]) ?_
    simp -implicitDefEqProofs only [push_cast, false_implies, reduceCtorEq, Classical.not_not, Nat.reduceAdd, Nat.reduceSub, Nat.reduceMul, Nat.reduceLeDiff, Nat.reduceLT, Nat.reduceEqDiff, Nat.reduceBEq, Nat.reduceBNe, Int.reduceNeg, Int.reduceToNat, Bool.or_false, Bool.false_or, Bool.or_true, Bool.true_or, BEq.rfl, Bool.not_eq_true, Bool.not_eq_false, decide_eq_true_eq, not_true_eq_false, not_false_eq_true, ite_true, ite_false, List.append_nil, and_assoc, Nat.mul_zero, Nat.zero_mul, lp33, I33, Int.toNat_natCast, q1, q2, q3]
  · obtain rfl : k = R.length := by omega
    refine postF.mk' (locs [X1 4 18, X1 9 22, X1 14 26]) [some 0, some 1, some 2, some 18, some 22, some 26] ?_
    simp -implicitDefEqProofs only [push_cast, false_implies, reduceCtorEq, Classical.not_not, Nat.reduceAdd, Nat.reduceSub, Nat.reduceMul, Nat.reduceLeDiff, Nat.reduceLT, Nat.reduceEqDiff, Nat.reduceBEq, Nat.reduceBNe, Int.reduceNeg, Int.reduceToNat, Bool.or_false, Bool.false_or, Bool.or_true, Bool.true_or, BEq.rfl, Bool.not_eq_true, Bool.not_eq_false, decide_eq_true_eq, not_true_eq_false, not_false_eq_true, ite_true, ite_false, List.append_nil, and_assoc, Nat.mul_zero, Nat.zero_mul, fs33, turn, hy, if_true, lx, prt_all, tabl_length, hl]
def ent33 : Entry := spOf fs33 inv58
theorem e33 : EntryOk Try.prog 33 ent33 := entry_of ok33 inv58
@[push_cast] theorem ent33_app (us : List SV) (look : Look) (x : Nat → Xf.Loc) (k : Nat) : ent33 us look x k = spOf fs33 inv58 us look x k := rfl
end Go.Proofs.Ytefggfjblhniaaa
