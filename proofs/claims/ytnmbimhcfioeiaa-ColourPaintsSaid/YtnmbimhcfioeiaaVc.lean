import Derived.Test.YtnmbimhcfioeiaaVb
set_option linter.unusedVariables false
set_option linter.unusedSimpArgs false
/-! blank, set, New of the Colour seat. -/
namespace Go.Proofs.Ytnmbimhcfioeiaa
open Xf
set_option maxRecDepth 4000
/- incunable/colour.blank : slots 18, labels 10..13 -/
def ir41 : IR :=
  .seq (.reg false [⟨some 4, none, ⟨[], []⟩, .alloc 10 [.int .i64 0, .int .i64 0, nilSV, nilSV, nilSV]⟩] [] []) (.seq (.reg false [⟨some 6, none, ⟨[], []⟩, .mov (.t 0)⟩,
    ⟨some 7, none, ⟨[], []⟩, .mov (.t 1)⟩,
    ⟨some 8, none, ⟨[], []⟩, .bin 0 .mul (.t 6) (.t 7)⟩,
    ⟨some 5, none, ⟨[], []⟩, .mov (.t 8)⟩] [6, 7, 8] []) (.seq (.reg true [⟨some 9, none, ⟨[], []⟩, .mov (.t 0)⟩,
    ⟨some 10, none, ⟨[], []⟩, .mov (.t 1)⟩,
    ⟨some 11, none, ⟨[], []⟩, .mov (.t 5)⟩,
    ⟨some 12, none, ⟨[], []⟩, .mks 11 (.int .i64 0) 8 (.t 11) (.t 11)⟩,
    ⟨some 13, none, ⟨[], []⟩, .mov (.t 5)⟩,
    ⟨some 14, none, ⟨[], []⟩, .mks 12 (.int .i64 0) 8 (.t 13) (.t 13)⟩,
    ⟨some 15, none, ⟨[], []⟩, .mov (.t 5)⟩,
    ⟨some 16, none, ⟨[], []⟩, .mks 13 (.int .i64 0) 8 (.t 15) (.t 15)⟩,
    ⟨some 17, none, ⟨[], []⟩, .build [.int .i64 0, .int .i64 0, nilSV, nilSV, nilSV] [(0, 1, .t 9), (1, 1, .t 10), (2, 1, .t 12), (3, 1, .t 14), (4, 1, .t 16)]⟩,
    ⟨none, none, ⟨[], []⟩, .sto false 5 .i64 (.t 4) (.t 17)⟩] [0, 1, 5, 9, 10, 11, 12, 13, 14, 15, 16, 17] []) (.ret)))
theorem comp41 : (Try.f41.body.bind fun c => compC tab isP chkAll ir41 c) = some ir41 := by kernel_rfl
/- incunable/colour.set : slots 31, labels 10..9 -/
def ir42 : IR :=
  .reg true [⟨some 10, none, ⟨[], []⟩, .mov (.t 0)⟩,
    ⟨some 11, none, ⟨[], []⟩, .nilc (.t 10)⟩,
    ⟨some 12, none, ⟨[], []⟩, .fld (.t 11) 2⟩,
    ⟨some 13, none, ⟨[], []⟩, .ld false none 0 0 (.t 12)⟩,
    ⟨some 14, none, ⟨[], []⟩, .mov (.t 1)⟩,
    ⟨some 15, none, ⟨[], []⟩, .mov (.t 0)⟩,
    ⟨some 16, none, ⟨[], []⟩, .nilc (.t 15)⟩,
    ⟨some 17, none, ⟨[], []⟩, .fld (.t 16) 3⟩,
    ⟨some 18, none, ⟨[], []⟩, .ld false none 0 0 (.t 17)⟩,
    ⟨some 19, none, ⟨[], []⟩, .mov (.t 1)⟩,
    ⟨some 20, none, ⟨[], []⟩, .mov (.t 0)⟩,
    ⟨some 21, none, ⟨[], []⟩, .nilc (.t 20)⟩,
    ⟨some 22, none, ⟨[], []⟩, .fld (.t 21) 4⟩,
    ⟨some 23, none, ⟨[], []⟩, .ld false none 0 0 (.t 22)⟩,
    ⟨some 24, none, ⟨[], []⟩, .mov (.t 1)⟩,
    ⟨some 25, none, ⟨[], []⟩, .mov (.t 2)⟩,
    ⟨some 26, none, ⟨[], []⟩, .mov (.t 3)⟩,
    ⟨some 27, none, ⟨[], []⟩, .mov (.t 4)⟩,
    ⟨some 28, none, ⟨[], []⟩, .idxS (.t 13) (.t 14) 1⟩,
    ⟨none, none, ⟨[], []⟩, .sto true 1 .i64 (.t 28) (.t 25)⟩,
    ⟨some 29, none, ⟨[], []⟩, .idxS (.t 18) (.t 19) 1⟩,
    ⟨none, none, ⟨[], []⟩, .sto true 1 .i64 (.t 29) (.t 26)⟩,
    ⟨some 30, none, ⟨[], []⟩, .idxS (.t 23) (.t 24) 1⟩,
    ⟨none, none, ⟨[], []⟩, .sto true 1 .i64 (.t 30) (.t 27)⟩] [0, 1, 2, 3, 4, 10, 11, 12, 13, 14, 15, 16, 17, 18, 19, 20, 21, 22, 23, 24, 25, 26, 27, 28, 29, 30] []
theorem comp42 : (Try.f42.body.bind fun c => compC tab isP chkAll ir42 c) = some ir42 := by kernel_rfl
/- incunable/colour.New : slots 50, labels 10..19; loop b13_1 keeps [2, 3, 4, 10, 12, 39, 40] -/
def b13_1 : IR :=
  .seq (.reg false [⟨some 41, none, ⟨[], []⟩, .bin 0 .lss (.t 40) (.t 39)⟩] [] []) (.seq (.cond (.t 41) (.skip) (.exit 0)) (.seq (.block 1 (.seq (.reg false [⟨some 42, none, ⟨[], []⟩, .mov (.t 40)⟩,
    ⟨some 13, none, ⟨[], []⟩, .mov (.t 42)⟩] [41, 42] []) (.reg false [⟨some 43, none, ⟨[], []⟩, .mov (.t 13)⟩,
    ⟨some 44, none, ⟨[], []⟩, .mov (.t 2)⟩,
    ⟨some 45, none, ⟨[], []⟩, .mov (.t 3)⟩,
    ⟨some 46, none, ⟨[], []⟩, .mov (.t 4)⟩,
    ⟨some 47, none, ⟨[], []⟩, .call none 16 42 [.t 12, .t 43, .t 44, .t 45, .t 46]⟩] [13, 43, 44, 45, 46, 47] []))) (.reg false [⟨some 48, none, ⟨[], []⟩, .bin 0 .add (.t 40) (.k (.int .i64 1))⟩,
    ⟨some 40, none, ⟨[], []⟩, .mov (.t 48)⟩] [48] [])))
def r13_2 : IR :=
  .seq (.reg false [⟨some 49, none, ⟨[], []⟩, .ld false (some 5) 0 0 (.t 12)⟩,
    ⟨none, none, ⟨[], []⟩, .sto false 5 .i64 (.t 10) (.t 49)⟩,
    ⟨some 11, none, ⟨[], []⟩, .mov (.k (.int .i64 0))⟩] [2, 3, 4, 12, 39, 40, 49] []) (.ret)
def ir13 : IR :=
  .seq (.reg false [⟨some 10, none, ⟨[], []⟩, .alloc 10 [.int .i64 0, .int .i64 0, nilSV, nilSV, nilSV]⟩,
    ⟨some 11, none, ⟨[], []⟩, .mov (.k (.int .i64 0))⟩] [11] []) (.seq (.seq (.reg false [⟨some 14, none, ⟨[], []⟩, .mov (.t 0)⟩,
    ⟨some 15, none, ⟨[], []⟩, .mov (.t 1)⟩,
    ⟨some 16, none, ⟨[], []⟩, .callp 39 [.t 14, .t 15]⟩,
    ⟨some 17, none, ⟨[], []⟩, .not (.t 16)⟩,
    ⟨some 18, none, ⟨[], []⟩, .mov (.t 17)⟩,
    ⟨some 19, some (18, false), ⟨[], []⟩, .mov (.t 2)⟩,
    ⟨some 20, some (18, false), ⟨[], []⟩, .callp 40 [.t 19]⟩,
    ⟨some 21, some (18, false), ⟨[], []⟩, .not (.t 20)⟩,
    ⟨some 22, none, ⟨[], []⟩, .pick (.t 18) (.k (.bool true)) (.t 21)⟩,
    ⟨some 23, none, ⟨[], []⟩, .mov (.t 22)⟩,
    ⟨some 24, some (23, false), ⟨[], []⟩, .mov (.t 3)⟩,
    ⟨some 25, some (23, false), ⟨[], []⟩, .callp 40 [.t 24]⟩,
    ⟨some 26, some (23, false), ⟨[], []⟩, .not (.t 25)⟩,
    ⟨some 27, none, ⟨[], []⟩, .pick (.t 23) (.k (.bool true)) (.t 26)⟩,
    ⟨some 28, none, ⟨[], []⟩, .mov (.t 27)⟩,
    ⟨some 29, some (28, false), ⟨[], []⟩, .mov (.t 4)⟩,
    ⟨some 30, some (28, false), ⟨[], []⟩, .callp 40 [.t 29]⟩,
    ⟨some 31, some (28, false), ⟨[], []⟩, .not (.t 30)⟩,
    ⟨some 32, none, ⟨[], []⟩, .pick (.t 28) (.k (.bool true)) (.t 31)⟩] [14, 15, 16, 17, 18, 19, 20, 21, 22, 23, 24, 25, 26, 27, 28, 29, 30, 31] []) (.cond (.t 32) (.seq (.reg false [⟨some 33, none, ⟨[], []⟩, .build [.int .i64 0, .int .i64 0, nilSV, nilSV, nilSV] []⟩,
    ⟨none, none, ⟨[], []⟩, .sto false 5 .i64 (.t 10) (.t 33)⟩,
    ⟨some 11, none, ⟨[], []⟩, .mov (.k (.int .i64 2))⟩] [0, 1, 2, 3, 4, 32, 33] []) (.ret)) (.skip))) (.seq (.reg false [⟨some 34, none, ⟨[], []⟩, .mov (.t 0)⟩,
    ⟨some 35, none, ⟨[], []⟩, .mov (.t 1)⟩,
    ⟨some 36, none, ⟨[], []⟩, .call (some 4) 11 41 [.t 34, .t 35]⟩,
    ⟨some 12, none, ⟨[], []⟩, .alloc 15 [.int .i64 0, .int .i64 0, nilSV, nilSV, nilSV]⟩,
    ⟨none, none, ⟨[], []⟩, .sto false 5 .i64 (.t 12) (.t 36)⟩] [11, 32, 34, 35, 36] []) (.seq (.seq (.reg false [⟨some 37, none, ⟨[], []⟩, .mov (.t 0)⟩,
    ⟨some 38, none, ⟨[], []⟩, .mov (.t 1)⟩,
    ⟨some 39, none, ⟨[], []⟩, .bin 0 .mul (.t 37) (.t 38)⟩,
    ⟨some 40, none, ⟨[], []⟩, .mov (.k (.int .i64 0))⟩] [0, 1, 37, 38] []) (.block 0 (.loop b13_1))) (r13_2))))
def kp13_1 : List Nat := [2, 3, 4, 10, 12, 39, 40]
def kl13_1 : List Nat := [16, 17, 18, 19]
attribute [push_cast] kp13_1 kl13_1
theorem comp13 : (Try.f13.body.bind fun c => compC tab isP chkAll ir13 c) = some ir13 := by kernel_rfl
set_option maxRecDepth 512

/-! blank -/
structure WH where
  w : Int
  h : Int
def zs (n : Int) : List Int := List.replicate n.toNat 0
def fs41 : FS where
  A := WH
  args := fun a => [.int .i64 a.w, .int .i64 a.h]
  mem := fun _ => []
  pre := fun a => SidesOk a.w a.h
  res := fun a x => .agg [.int .i64 a.w, .int .i64 a.h, .sl 0 (x 0) 1 0 (a.w * a.h), .sl 1 (x 1) 1 0 (a.w * a.h), .sl 2 (x 2) 1 0 (a.w * a.h)]
  out := fun _ _ => []
  new := fun a x => [(x 0, .ints .i64 (zs (a.w * a.h))), (x 1, .ints .i64 (zs (a.w * a.h))), (x 2, .ints .i64 (zs (a.w * a.h)))]
def inv41 : List SV → Look → Option (WH × List Nat)
  | [.int .i64 w, .int .i64 h], _ => some (⟨w, h⟩, [])
  | _, _ => none
attribute [push_cast] inv41
theorem ok41 : FSOk Try.prog 41 fs41 := by
  refine ⟨⟨_, Try.func41, by kernel_rfl, by kernel_rfl⟩, fun a => ⟨by simp [fs41, push_cast, noMine, argOwn, Chunk.frArg], by simp [fs41, push_cast, outOk, Chunk.ext], fun x => .inl (by simp [fs41, push_cast, frNew, frOut, Chunk.fr])⟩, fun a hp => ?_⟩
  obtain ⟨w, h⟩ := a
  change SidesOk w h at hp
  change Tri Try.prog 41 [.int .i64 w, .int .i64 h] [] (postF fs41 ⟨w, h⟩)
  refine tri_evS (hyp (l := []) (lp := []) trivial trivial) Try.func41 comp41 (rs := [.cell 4 (some 5)]) (by rfl) Try.ntmps41 14 ?_
  simp -implicitDefEqProofs only [push_cast, false_implies, reduceCtorEq, Classical.not_not, Nat.reduceAdd, Nat.reduceSub, Nat.reduceMul, Nat.reduceLeDiff, Nat.reduceLT, Nat.reduceEqDiff, Nat.reduceBEq, Nat.reduceBNe, Int.reduceNeg, Int.reduceToNat, Bool.or_false, Bool.false_or, Bool.or_true, Bool.true_or, BEq.rfl, Bool.not_eq_true, Bool.not_eq_false, decide_eq_true_eq, not_true_eq_false, not_false_eq_true, ite_true, ite_false, List.append_nil, and_assoc, Nat.mul_zero, Nat.zero_mul, ir41]
  intro X
  have hm := hp.bd
  refine ⟨by omega, by omega, fun X1 => ⟨by omega, by omega, by omega, by omega, by omega, by omega, by omega, by omega, by omega, postF.mk' (locs [X1 3 11, X1 5 12, X1 7 13]) [some 11, some 12, some 13] ?_⟩⟩
  simp -implicitDefEqProofs only [push_cast, false_implies, reduceCtorEq, Classical.not_not, Nat.reduceAdd, Nat.reduceSub, Nat.reduceMul, Nat.reduceLeDiff, Nat.reduceLT, Nat.reduceEqDiff, Nat.reduceBEq, Nat.reduceBNe, Int.reduceNeg, Int.reduceToNat, Bool.or_false, Bool.false_or, Bool.or_true, Bool.true_or, BEq.rfl, Bool.not_eq_true, Bool.not_eq_false, decide_eq_true_eq, not_true_eq_false, not_false_eq_true, ite_true, ite_false, List.append_nil, and_assoc, Nat.mul_zero, Nat.zero_mul, fs41, zs]
def ent41 : Entry := spOf fs41 inv41
theorem e41 : EntryOk Try.prog 41 ent41 := entry_of ok41 inv41
@[push_cast] theorem ent41_app (us : List SV) (look : Look) (x : Nat → Xf.Loc) (k : Nat) : ent41 us look x k = spOf fs41 inv41 us look x k := rfl

/-! set -/
structure SetA where
  i : Im
  L : Xf.Loc
  L1 : Xf.Loc
  L2 : Xf.Loc
  L3 : Xf.Loc
  k : Int
  r : Int
  g : Int
  b : Int
  n1 : Int
  n2 : Int
  n3 : Int
def fs42 : FS where
  A := SetA
  args := fun a => [.ptr 0 a.L 0 0 0, .int .i64 a.k, .int .i64 a.r, .int .i64 a.g, .int .i64 a.b]
  mem := fun a => [some (.ro, a.L, .cells [.int .i64 a.i.w, .int .i64 a.i.h, .sl 1 a.L1 1 0 a.n1, .sl 2 a.L2 1 0 a.n2, .sl 3 a.L3 1 0 a.n3]), some (.lent, a.L1, .ints .i64 a.i.R), some (.lent, a.L2, .ints .i64 a.i.G), some (.lent, a.L3, .ints .i64 a.i.B)]
  pre := fun a => 0 ≤ a.k ∧ a.k < a.i.R.length ∧ a.k < a.i.G.length ∧ a.k < a.i.B.length ∧ a.n1 = a.i.R.length ∧ a.n2 = a.i.G.length ∧ a.n3 = a.i.B.length
  res := fun a x => .tup []
  out := fun a _ => [none, some (some (.ints .i64 (a.i.R.set a.k.toNat a.r))), some (some (.ints .i64 (a.i.G.set a.k.toNat a.g))), some (some (.ints .i64 (a.i.B.set a.k.toNat a.b)))]
  new := fun _ _ => []
def inv42 : List SV → Look → Option (SetA × List Nat)
  | [.ptr c _ _ _ _, .int .i64 k, .int .i64 r, .int .i64 g, .int .i64 b], look => match rowC (look c) with
    | some (L, [.int .i64 w, .int .i64 h, .sl c1 _ 1 0 n1, .sl c2 _ 1 0 n2, .sl c3 _ 1 0 n3]) => match rowI (look c1), rowI (look c2), rowI (look c3) with
      | some (L1, .i64, R), some (L2, .i64, G), some (L3, .i64, B) => some (⟨⟨w, h, R, G, B⟩, L, L1, L2, L3, k, r, g, b, n1, n2, n3⟩, [c, c1, c2, c3])
      | _, _, _ => none
    | _ => none
  | _, _ => none
attribute [push_cast] inv42
theorem ok42 : FSOk Try.prog 42 fs42 := by
  refine ⟨⟨_, Try.func42, by kernel_rfl, by kernel_rfl⟩, fun a => ⟨by simp [fs42, push_cast, noMine, argOwn, Chunk.frArg], by simp [fs42, push_cast, outOk, Chunk.ext], fun x => .inl (by simp [fs42, push_cast, frNew, frOut, Chunk.fr])⟩, fun a hp => ?_⟩
  obtain ⟨⟨w, h, R, G, B⟩, L, L1, L2, L3, k, r, g, b, n1, n2, n3⟩ := a
  obtain ⟨h1, h2, h3, h4, rfl, rfl, rfl⟩ : 0 ≤ k ∧ k < R.length ∧ k < G.length ∧ k < B.length ∧ n1 = R.length ∧ n2 = G.length ∧ n3 = B.length := hp
  change Tri Try.prog 42 [.ptr 0 L 0 0 0, .int .i64 k, .int .i64 r, .int .i64 g, .int .i64 b] [some (.ro, L, .cells [.int .i64 w, .int .i64 h, .sl 1 L1 1 0 R.length, .sl 2 L2 1 0 G.length, .sl 3 L3 1 0 B.length]), some (.lent, L1, .ints .i64 R), some (.lent, L2, .ints .i64 G), some (.lent, L3, .ints .i64 B)] (postF fs42 ⟨⟨w, h, R, G, B⟩, L, L1, L2, L3, k, r, g, b, R.length, G.length, B.length⟩)
  refine tri_evS (hyp (l := []) (lp := []) trivial trivial) Try.func42 comp42 (rs := []) (by rfl) Try.ntmps42 14 ?_
  simp -implicitDefEqProofs only [push_cast, false_implies, reduceCtorEq, Classical.not_not, Nat.reduceAdd, Nat.reduceSub, Nat.reduceMul, Nat.reduceLeDiff, Nat.reduceLT, Nat.reduceEqDiff, Nat.reduceBEq, Nat.reduceBNe, Int.reduceNeg, Int.reduceToNat, Bool.or_false, Bool.false_or, Bool.or_true, Bool.true_or, BEq.rfl, Bool.not_eq_true, Bool.not_eq_false, decide_eq_true_eq, not_true_eq_false, not_false_eq_true, ite_true, ite_false, List.append_nil, and_assoc, Nat.mul_zero, Nat.zero_mul, ir42, h1, h2, h3, h4]
  exact postF.mk' (fun _ => default) [some 0, some 1, some 2, some 3] (by simp -implicitDefEqProofs only [push_cast, false_implies, reduceCtorEq, Classical.not_not, Nat.reduceAdd, Nat.reduceSub, Nat.reduceMul, Nat.reduceLeDiff, Nat.reduceLT, Nat.reduceEqDiff, Nat.reduceBEq, Nat.reduceBNe, Int.reduceNeg, Int.reduceToNat, Bool.or_false, Bool.false_or, Bool.or_true, Bool.true_or, BEq.rfl, Bool.not_eq_true, Bool.not_eq_false, decide_eq_true_eq, not_true_eq_false, not_false_eq_true, ite_true, ite_false, List.append_nil, and_assoc, Nat.mul_zero, Nat.zero_mul, fs42])
def ent42 : Entry := spOf fs42 inv42
theorem e42 : EntryOk Try.prog 42 ent42 := entry_of ok42 inv42
@[push_cast] theorem ent42_app (us : List SV) (look : Look) (x : Nat → Xf.Loc) (k : Nat) : ent42 us look x k = spOf fs42 inv42 us look x k := rfl

/-! New -/
structure NewA where
  w : Int
  h : Int
  r : Int
  g : Int
  b : Int
def NewA.Ok (a : NewA) : Prop := SidesOk a.w a.h ∧ ValOk a.r ∧ ValOk a.g ∧ ValOk a.b
instance (a : NewA) : Decidable a.Ok := by unfold NewA.Ok; infer_instance
def im0 : Im := ⟨0, 0, [], [], []⟩
def cst (n : Int) (x : Int) : List Int := List.replicate n.toNat x
def newI (a : NewA) : Im := if a.Ok then ⟨a.w, a.h, cst (a.w * a.h) a.r, cst (a.w * a.h) a.g, cst (a.w * a.h) a.b⟩ else im0
def imN (i : Im) (x : Nat → Xf.Loc) : List (Xf.Loc × Chunk) := [(x 0, .ints .i64 i.R), (x 1, .ints .i64 i.G), (x 2, .ints .i64 i.B)]
/-- Where a result lies: nowhere, if there is none. -/
def lx (p : Prop) [Decidable p] (x : Nat → Xf.Loc) (k : Nat) : Xf.Loc := if p then x k else nilLoc
def fs13 : FS where
  A := NewA
  args := fun a => [.int .i64 a.w, .int .i64 a.h, .int .i64 a.r, .int .i64 a.g, .int .i64 a.b]
  mem := fun _ => []
  pre := fun _ => True
  res := fun a x => .tup [imV (newI a) (lx a.Ok x 0) (lx a.Ok x 1) (lx a.Ok x 2) 0, .int .i64 (if a.Ok then 0 else 2)]
  out := fun _ _ => []
  new := fun a x => imN (newI a) (lx a.Ok x)
def inv13 : List SV → Look → Option (NewA × List Nat)
  | [.int .i64 w, .int .i64 h, .int .i64 r, .int .i64 g, .int .i64 b], _ => some (⟨w, h, r, g, b⟩, [])
  | _, _ => none
attribute [push_cast] inv13 imN
def I13 (w h r g b : Int) (L0 L1 L2 L3 L5 : Xf.Loc) (i : Nat) : List Ent × Mem :=
  (mkS 50 [(2, .int .i64 r), (3, .int .i64 g), (4, .int .i64 b), (10, .ptr 10 L0 0 0 0), (12, .ptr 15 L5 0 0 0), (39, .int .i64 (w * h)), (40, .int .i64 i)],
    mkM 30 [(10, .mine, L0, .cells [.int .i64 0, .int .i64 0, nilSV, nilSV, nilSV]), (11, .mine, L1, .ints .i64 (fillTo (w * h).toNat i r 0)), (12, .mine, L2, .ints .i64 (fillTo (w * h).toNat i g 0)),
      (13, .mine, L3, .ints .i64 (fillTo (w * h).toNat i b 0)), (15, .mine, L5, .cells [.int .i64 w, .int .i64 h, .sl 11 L1 1 0 (w * h), .sl 12 L2 1 0 (w * h), .sl 13 L3 1 0 (w * h)])])
def lp13 (w h r g b : Int) (L0 L1 L2 L3 L5 : Xf.Loc) : LoopS where
  A := Nat
  I := I13 w h r g b L0 L1 L2 L3 L5
  R := fun i => i ≤ (w * h).toNat
  mu := fun i => (w * h).toNat - i

theorem ok13 : FSOk Try.prog 13 fs13 := by
  refine ⟨⟨_, Try.func13, by kernel_rfl, by kernel_rfl⟩, fun a => ⟨by simp [fs13, push_cast, noMine, argOwn, Chunk.frArg], by simp [fs13, push_cast, outOk, Chunk.ext], fun x => .inl (by simp [fs13, push_cast, frNew, frOut, Chunk.fr])⟩, fun a hp => ?_⟩
  obtain ⟨w, h, r, g, b⟩ := a
  change Tri Try.prog 13 [.int .i64 w, .int .i64 h, .int .i64 r, .int .i64 g, .int .i64 b] [] (postF fs13 ⟨w, h, r, g, b⟩)
  refine tri_evS (hyp (l := [(41, ent41), (42, ent42)]) (lp := [(39, sidesF), (40, valF)]) ⟨e41, e42, trivial⟩ ⟨p39, p40, trivial⟩) Try.func13 comp13 (rs := [.cell 10 (some 5), .tmp 11]) (by rfl) Try.ntmps13 30 ?_
  simp -implicitDefEqProofs only [push_cast, false_implies, reduceCtorEq, Classical.not_not, Nat.reduceAdd, Nat.reduceSub, Nat.reduceMul, Nat.reduceLeDiff, Nat.reduceLT, Nat.reduceEqDiff, Nat.reduceBEq, Nat.reduceBNe, Int.reduceNeg, Int.reduceToNat, Bool.or_false, Bool.false_or, Bool.or_true, Bool.true_or, BEq.rfl, Bool.not_eq_true, Bool.not_eq_false, decide_eq_true_eq, not_true_eq_false, not_false_eq_true, ite_true, ite_false, List.append_nil, and_assoc, Nat.mul_zero, Nat.zero_mul, ir13, fs41]
  intro X
  refine ⟨fun hn => ?_, fun hy X1 => ?_⟩
  · have e : ¬ (⟨w, h, r, g, b⟩ : NewA).Ok := by unfold NewA.Ok; simp only; intro ⟨h1, h2, h3, h4⟩; simp [h1, h2, h3, h4] at hn
    refine postF.mk' (fun _ => default) [none, none, none] ?_
    simp -implicitDefEqProofs only [push_cast, false_implies, reduceCtorEq, Classical.not_not, Nat.reduceAdd, Nat.reduceSub, Nat.reduceMul, Nat.reduceLeDiff, Nat.reduceLT, Nat.reduceEqDiff, Nat.reduceBEq, Nat.reduceBNe, Int.reduceNeg, Int.reduceToNat, Bool.or_false, Bool.false_or, Bool.or_true, Bool.true_or, BEq.rfl, Bool.not_eq_true, Bool.not_eq_false, decide_eq_true_eq, not_true_eq_false, not_false_eq_true, ite_true, ite_false, List.append_nil, and_assoc, Nat.mul_zero, Nat.zero_mul, fs13, newI, im0, lx, e, List.length_nil, Int.natCast_zero, if_false]
  · simp only [not_or, Classical.not_not] at hy
    obtain ⟨⟨⟨h1, h2⟩, h3⟩, h4⟩ := hy
    have e : (⟨w, h, r, g, b⟩ : NewA).Ok := ⟨h1, h2, h3, h4⟩
    have hm := h1.bd
    refine ⟨h1, by omega, by omega, ?_⟩
    refine evS_loop _ _ _ (lp13 w h r g b (X 0 10) (X1 2 11) (X1 2 12) (X1 2 13) (X1 3 15)) (0 : Nat) (Nat.zero_le _) ?_ ?_
    · change Sub _ _ (I13 w h r g b (X 0 10) (X1 2 11) (X1 2 12) (X1 2 13) (X1 3 15) 0).1 (I13 w h r g b (X 0 10) (X1 2 11) (X1 2 12) (X1 2 13) (X1 3 15) 0).2
      simp -implicitDefEqProofs only [push_cast, false_implies, reduceCtorEq, Classical.not_not, Nat.reduceAdd, Nat.reduceSub, Nat.reduceMul, Nat.reduceLeDiff, Nat.reduceLT, Nat.reduceEqDiff, Nat.reduceBEq, Nat.reduceBNe, Int.reduceNeg, Int.reduceToNat, Bool.or_false, Bool.false_or, Bool.or_true, Bool.true_or, BEq.rfl, Bool.not_eq_true, Bool.not_eq_false, decide_eq_true_eq, not_true_eq_false, not_false_eq_true, ite_true, ite_false, List.append_nil, and_assoc, Nat.mul_zero, Nat.zero_mul, I13, fillTo_zero, zs]
      exact Sub.refl _ _
    · intro (i : Nat) (hi : i ≤ (w * h).toNat)
      change evS _ _ _ _ (I13 w h r g b (X 0 10) (X1 2 11) (X1 2 12) (X1 2 13) (X1 3 15) i).1 (I13 w h r g b (X 0 10) (X1 2 11) (X1 2 12) (X1 2 13) (X1 3 15) i).2
      simp -implicitDefEqProofs only [push_cast, false_implies, reduceCtorEq, Classical.not_not, Nat.reduceAdd, Nat.reduceSub, Nat.reduceMul, Nat.reduceLeDiff, Nat.reduceLT, Nat.reduceEqDiff, Nat.reduceBEq, Nat.reduceBNe, Int.reduceNeg, Int.reduceToNat, Bool.or_false, Bool.false_or, Bool.or_true, Bool.true_or, BEq.rfl, Bool.not_eq_true, Bool.not_eq_false, decide_eq_true_eq, not_true_eq_false, not_false_eq_true, ite_true, ite_false, List.append_nil, and_assoc, Nat.mul_zero, Nat.zero_mul, I13, b13_1, r13_2, fs42]
      refine ⟨fun hl => ?_, fun hl => ?_⟩
      · have hl' : i < (w * h).toNat := by omega
        simp only [fillTo_length hi]
        refine ⟨by omega, by omega, by omega, by omega, by omega, by omega, by omega, by omega, by omega, lpK_mk (i + 1 : Nat) hl' (show (w * h).toNat - (i + 1) < (w * h).toNat - i by omega) ?_⟩
        change Sub _ _ (I13 w h r g b (X 0 10) (X1 2 11) (X1 2 12) (X1 2 13) (X1 3 15) (i + 1)).1 (I13 w h r g b (X 0 10) (X1 2 11) (X1 2 12) (X1 2 13) (X1 3 15) (i + 1)).2
        simp -implicitDefEqProofs only [push_cast, false_implies, reduceCtorEq, Classical.not_not, Nat.reduceAdd, Nat.reduceSub, Nat.reduceMul, Nat.reduceLeDiff, Nat.reduceLT, Nat.reduceEqDiff, Nat.reduceBEq, Nat.reduceBNe, Int.reduceNeg, Int.reduceToNat, Bool.or_false, Bool.false_or, Bool.or_true, Bool.true_or, BEq.rfl, Bool.not_eq_true, Bool.not_eq_false, decide_eq_true_eq, not_true_eq_false, not_false_eq_true, ite_true, ite_false, List.append_nil, and_assoc, Nat.mul_zero, Nat.zero_mul, I13, Int.toNat_natCast, fillTo_set hl']
        exact Sub.refl _ _
      · obtain rfl : i = (w * h).toNat := by omega
        refine postF.mk' (locs [X1 2 11, X1 2 12, X1 2 13]) [some 11, some 12, some 13] ?_
        simp -implicitDefEqProofs only [push_cast, false_implies, reduceCtorEq, Classical.not_not, Nat.reduceAdd, Nat.reduceSub, Nat.reduceMul, Nat.reduceLeDiff, Nat.reduceLT, Nat.reduceEqDiff, Nat.reduceBEq, Nat.reduceBNe, Int.reduceNeg, Int.reduceToNat, Bool.or_false, Bool.false_or, Bool.or_true, Bool.true_or, BEq.rfl, Bool.not_eq_true, Bool.not_eq_false, decide_eq_true_eq, not_true_eq_false, not_false_eq_true, ite_true, ite_false, List.append_nil, and_assoc, Nat.mul_zero, Nat.zero_mul, fs13, newI, lx, e, cst, if_true, fillTo_all, List.length_replicate, Int.toNat_of_nonneg hm.1]
def ent13 : Entry := spOf fs13 inv13
theorem e13 : EntryOk Try.prog 13 ent13 := entry_of ok13 inv13
@[push_cast] theorem ent13_app (us : List SV) (look : Look) (x : Nat → Xf.Loc) (k : Nat) : ent13 us look x k = spOf fs13 inv13 us look x k := rfl
end Go.Proofs.Ytnmbimhcfioeiaa
