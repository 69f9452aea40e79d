import Derived.Test.YtefggfjblhniaaaVb
set_option linter.unusedVariables false
set_option linter.unusedSimpArgs false
/-! blank, set, New of the Colour seat. -/
namespace Go.Proofs.Ytefggfjblhniaaa
open Xf
set_option maxRecDepth 4000
/- incunable/colour.blank : slots 18, labels 10..13 -/
def ir61 : IR :=
  .seq (.reg false [⟨some 4, none, ⟨[], []⟩, .alloc 10 [.int .i64 0, .int .i64 0, nilSV, nilSV, nilSV]⟩] [] []) (.seq (.reg false [⟨some 6, none, ⟨[], []⟩, .mov (.t 0)⟩,
    ⟨some 7, none, ⟨[], []⟩, .mov (.t 1)⟩,
    ⟨some 8, none, ⟨[], []⟩, .bin 0 .mul (.t 6) (.t 7)⟩,
    ⟨some 5, none, ⟨[], []⟩, .mov (.t 8)⟩] [6, 7, 8] []) (.seq (.reg true [⟨some 9, none, ⟨[], []⟩, .mov (.t 0)⟩,
    ⟨some 10, none, ⟨[], []⟩, .mov (.t 1)⟩,
    ⟨some 11, none, ⟨[], []⟩, .mov (.t 5)⟩,
    ⟨some 12, none, ⟨[], []⟩, .mks 11 (.int .i64 0) 8 (.t 11) (.t 11)⟩,
    ⟨some 13, none, ⟨[], []⟩, .mov (.t 5)⟩,
    ⟨some 14, none, ⟨[], []⟩, .mks 12 (.int .i64 0) 8 (.t 13) (.t 13)⟩,
    ⟨some 15, none, ⟨[], []⟩, .mov (.t 5)⟩,
    ⟨some 16, none, ⟨[], []⟩, .mks 13 (.int .i64 0) 8 (.t 15) (.t 15)⟩,
    ⟨some 17, none, ⟨[], []⟩, .build [.int .i64 0, .int .i64 0, nilSV, nilSV, nilSV] [(0, 1, .t 9), (1, 1, .t 10), (2, 1, .t 12), (3, 1, .t 14), (4, 1, .t 16)]⟩,
    ⟨none, none, ⟨[], []⟩, .sto false 5 .i64 (.t 4) (.t 17)⟩] [0, 1, 5, 9, 10, 11, 12, 13, 14, 15, 16, 17] []) (.ret)))
theorem comp61 : (Try.f61.body.bind fun c => compC tab isP chkAll ir61 c) = some ir61 := by kernel_rfl
/- incunable/colour.set : slots 31, labels 10..9 -/
def ir62 : IR :=
  .reg true [⟨some 10, none, ⟨[], []⟩, .mov (.t 0)⟩,
    ⟨some 11, none, ⟨[], []⟩, .nilc (.t 10)⟩,
    ⟨some 12, none, ⟨[], []⟩, .fld (.t 11) 2⟩,
    ⟨some 13, none, ⟨[], []⟩, .ld false none 0 0 (.t 12)⟩,
    ⟨some 14, none, ⟨[], []⟩, .mov (.t 1)⟩,
    ⟨some 15, none, ⟨[], []⟩, .mov (.t 0)⟩,
    ⟨some 16, none, ⟨[], []⟩, .nilc (.t 15)⟩,
    ⟨some 17, none, ⟨[], []⟩, .fld (.t 16) 3⟩,
    ⟨some 18, none, ⟨[], []⟩, .ld false none 0 0 (.t 17)⟩,
    ⟨some 19, none, ⟨[], []⟩, .mov (.t 1)⟩,
    ⟨some 20, none, ⟨[], []⟩, .mov (.t 0)⟩,
    ⟨some 21, none, ⟨[], []⟩, .nilc (.t 20)⟩,
    ⟨some 22, none, ⟨[], []⟩, .fld (.t 21) 4⟩,
    ⟨some 23, none, ⟨[], []⟩, .ld false none 0 0 (.t 22)⟩,
    ⟨some 24, none, ⟨[], []⟩, .mov (.t 1)⟩,
    ⟨some 25, none, ⟨[], []⟩, .mov (.t 2)⟩,
    ⟨some 26, none, ⟨[], []⟩, .mov (.t 3)⟩,
    ⟨some 27, none, ⟨[], []⟩, .mov (.t 4)⟩,
    ⟨some 28, none, ⟨[], []⟩, .idxS (.t 13) (.t 14) 1⟩,
    ⟨none, none, ⟨[], []⟩, .sto true 1 .i64 (.t 28) (.t 25)⟩,
    ⟨some 29, none, ⟨[], []⟩, .idxS (.t 18) (.t 19) 1⟩,
    ⟨none, none, ⟨[], []⟩, .sto true 1 .i64 (.t 29) (.t 26)⟩,
    ⟨some 30, none, ⟨[], []⟩, .idxS (.t 23) (.t 24) 1⟩,
    ⟨none, none, ⟨[], []⟩, .sto true 1 .i64 (.t 30) (.t 27)⟩] [0, 1, 2, 3, 4, 10, 11, 12, 13, 14, 15, 16, 17, 18, 19, 20, 21, 22, 23, 24, 25, 26, 27, 28, 29, 30] []
theorem comp62 : (Try.f62.body.bind fun c => compC tab isP chkAll ir62 c) = some ir62 := by kernel_rfl
set_option maxRecDepth 512

/-! blank -/
structure WH where
  w : Int
  h : Int
def zs (n : Int) : List Int := List.replicate n.toNat 0
def fs61 : FS where
  A := WH
  args := fun a => [.int .i64 a.w, .int .i64 a.h]
  mem := fun _ => []
  pre := fun a => SidesOk a.w a.h
  res := fun a x => .agg [.int .i64 a.w, .int .i64 a.h, .sl 0 (x 0) 1 0 (a.w * a.h), .sl 1 (x 1) 1 0 (a.w * a.h), .sl 2 (x 2) 1 0 (a.w * a.h)]
  out := fun _ _ => []
  new := fun a x => [(x 0, .ints .i64 (zs (a.w * a.h))), (x 1, .ints .i64 (zs (a.w * a.h))), (x 2, .ints .i64 (zs (a.w * a.h)))]
def inv61 : List SV → Look → Option (WH × List Nat)
  | [.int .i64 w, .int .i64 h], _ => some (⟨w, h⟩, [])
  | _, _ => none
attribute [push_cast] inv61
theorem ok61 : FSOk Try.prog 61 fs61 := by
  refine ⟨⟨_, Try.func61, by kernel_rfl, by kernel_rfl⟩, fun a => ⟨by simp [fs61, push_cast, noMine, argOwn, Chunk.frArg], by simp [fs61, push_cast, outOk, Chunk.ext], fun x => .inl (by simp [fs61, push_cast, frNew, frOut, Chunk.fr])⟩, fun a hp => ?_⟩
  obtain ⟨w, h⟩ := a
  change SidesOk w h at hp
  change Tri Try.prog 61 [.int .i64 w, .int .i64 h] [] (postF fs61 ⟨w, h⟩)
  refine tri_evS (hyp (l := []) (lp := []) trivial trivial) Try.func61 comp61 (rs := [.cell 4 (some 5)]) (by rfl) Try.ntmps61 14 ?_
  simp -implicitDefEqProofs only [push_cast, false_implies, reduceCtorEq, Classical.not_not, Nat.reduceAdd, Nat.reduceSub, Nat.reduceMul, Nat.reduceLeDiff, Nat.reduceLT, Nat.reduceEqDiff, Nat.reduceBEq, Nat.reduceBNe, Int.reduceNeg, Int.reduceToNat, Bool.or_false, Bool.false_or, Bool.or_true, Bool.true_or, BEq.rfl, Bool.not_eq_true, Bool.not_eq_false, decide_eq_true_eq, not_true_eq_false, not_false_eq_true, ite_true, ite_false, List.append_nil, and_assoc, Nat.mul_zero, Nat.zero_mul, ir61]
  intro X
  have hm := hp.bd
  refine ⟨by omega, by omega, fun X1 => ⟨by omega, by omega, by omega, by omega, by omega, by omega, by omega, by omega, by omega, postF.mk' (locs [X1 3 11, X1 5 12, X1 7 13]) [some 11, some 12, some 13] ?_⟩⟩
  simp -implicitDefEqProofs only [push_cast, false_implies, reduceCtorEq, Classical.not_not, Nat.reduceAdd, Nat.reduceSub, Nat.reduceMul, Nat.reduceLeDiff, Nat.reduceLT, Nat.reduceEqDiff, Nat.reduceBEq, Nat.reduceBNe, Int.reduceNeg, Int.reduceToNat, Bool.or_false, Bool.false_or, Bool.or_true, Bool.true_or, BEq.rfl, Bool.not_eq_true, Bool.not_eq_false, decide_eq_true_eq, not_true_eq_false, not_false_eq_true, ite_true, ite_false, List.append_nil, and_assoc, Nat.mul_zero, Nat.zero_mul, fs61, zs]
def ent61 : Entry := spOf fs61 inv61
theorem e61 : EntryOk Try.prog 61 ent61 := entry_of ok61 inv61
@[push_cast] theorem ent61_app (us : List SV) (look : Look) (x : Nat → Xf.Loc) (k : Nat) : ent61 us look x k = spOf fs61 inv61 us look x k := rfl

/-! set -/
structure SetA where
  i : Im
  L : Xf.Loc
  L1 : Xf.Loc
  L2 : Xf.Loc
  L3 : Xf.Loc
  k : Int
  r : Int
  g : Int
  b : Int
  n1 : Int
  n2 : Int
  n3 : Int
def fs62 : FS where
  A := SetA
  args := fun a => [.ptr 0 a.L 0 0 0, .int .i64 a.k, .int .i64 a.r, .int .i64 a.g, .int .i64 a.b]
  mem := fun a => [some (.ro, a.L, .cells [.int .i64 a.i.w, .int .i64 a.i.h, .sl 1 a.L1 1 0 a.n1, .sl 2 a.L2 1 0 a.n2, .sl 3 a.L3 1 0 a.n3]), some (.lent, a.L1, .ints .i64 a.i.R), some (.lent, a.L2, .ints .i64 a.i.G), some (.lent, a.L3, .ints .i64 a.i.B)]
  pre := fun a => 0 ≤ a.k ∧ a.k < a.i.R.length ∧ a.k < a.i.G.length ∧ a.k < a.i.B.length ∧ a.n1 = a.i.R.length ∧ a.n2 = a.i.G.length ∧ a.n3 = a.i.B.length
  res := fun a x => .tup []
  out := fun a _ => [none, some (some (.ints .i64 (a.i.R.set a.k.toNat a.r))), some (some (.ints .i64 (a.i.G.set a.k.toNat a.g))), some (some (.ints .i64 (a.i.B.set a.k.toNat a.b)))]
  new := fun _ _ => []
def inv62 : List SV → Look → Option (SetA × List Nat)
  | [.ptr c _ _ _ _, .int .i64 k, .int .i64 r, .int .i64 g, .int .i64 b], look => match rowC (look c) with
    | some (L, [.int .i64 w, .int .i64 h, .sl c1 _ 1 0 n1, .sl c2 _ 1 0 n2, .sl c3 _ 1 0 n3]) => match rowI (look c1), rowI (look c2), rowI (look c3) with
      | some (L1, .i64, R), some (L2, .i64, G), some (L3, .i64, B) => some (⟨⟨w, h, R, G, B⟩, L, L1, L2, L3, k, r, g, b, n1, n2, n3⟩, [c, c1, c2, c3])
      | _, _, _ => none
    | _ => none
  | _, _ => none
attribute [push_cast] inv62
theorem ok62 : FSOk Try.prog 62 fs62 := by
  refine ⟨⟨_, Try.func62, by kernel_rfl, by kernel_rfl⟩, fun a => ⟨by simp [fs62, push_cast, noMine, argOwn, Chunk.frArg], by simp [fs62, push_cast, outOk, Chunk.ext], fun x => .inl (by simp [fs62, push_cast, frNew, frOut, Chunk.fr])⟩, fun a hp => ?_⟩
  obtain ⟨⟨w, h, R, G, B⟩, L, L1, L2, L3, k, r, g, b, n1, n2, n3⟩ := a
  obtain ⟨h1, h2, h3, h4, rfl, rfl, rfl⟩ : 0 ≤ k ∧ k < R.length ∧ k < G.length ∧ k < B.length ∧ n1 = R.length ∧ n2 = G.length ∧ n3 = B.length := hp
  change Tri Try.prog 62 [.ptr 0 L 0 0 0, .int .i64 k, .int .i64 r, .int .i64 g, .int .i64 b] [some (.ro, L, .cells [.int .i64 w, .int .i64 h, .sl 1 L1 1 0 R.length, .sl 2 L2 1 0 G.length, .sl 3 L3 1 0 B.length]), some (.lent, L1, .ints .i64 R), some (.lent, L2, .ints .i64 G), some (.lent, L3, .ints .i64 B)] (postF fs62 ⟨⟨w, h, R, G, B⟩, L, L1, L2, L3, k, r, g, b, R.length, G.length, B.length⟩)
  refine tri_evS (hyp (l := []) (lp := []) trivial trivial) Try.func62 comp62 (rs := []) (by rfl) Try.ntmps62 14 ?_
  simp -implicitDefEqProofs only [push_cast, false_implies, reduceCtorEq, Classical.not_not, Nat.reduceAdd, Nat.reduceSub, Nat.reduceMul, Nat.reduceLeDiff, Nat.reduceLT, Nat.reduceEqDiff, Nat.reduceBEq, Nat.reduceBNe, Int.reduceNeg, Int.reduceToNat, Bool.or_false, Bool.false_or, Bool.or_true, Bool.true_or, BEq.rfl, Bool.not_eq_true, Bool.not_eq_false, decide_eq_true_eq, not_true_eq_false, not_false_eq_true, ite_true, ite_false, List.append_nil, and_assoc, Nat.mul_zero, Nat.zero_mul, ir62, h1, h2, h3, h4]
  exact postF.mk' (fun _ => default) [some 0, some 1, some 2, some 3] (by simp -implicitDefEqProofs only [push_cast, false_implies, reduceCtorEq, Classical.not_not, Nat.reduceAdd, Nat.reduceSub, Nat.reduceMul, Nat.reduceLeDiff, Nat.reduceLT, Nat.reduceEqDiff, Nat.reduceBEq, Nat.reduceBNe, Int.reduceNeg, Int.reduceToNat, Bool.or_false, Bool.false_or, Bool.or_true, Bool.true_or, BEq.rfl, Bool.not_eq_true, Bool.not_eq_false, decide_eq_true_eq, not_true_eq_false, not_false_eq_true, ite_true, ite_false, List.append_nil, and_assoc, Nat.mul_zero, Nat.zero_mul, fs62])
def ent62 : Entry := spOf fs62 inv62
theorem e62 : EntryOk Try.prog 62 ent62 := entry_of ok62 inv62
@[push_cast] theorem ent62_app (us : List SV) (look : Look) (x : Nat → Xf.Loc) (k : Nat) : ent62 us look x k = spOf fs62 inv62 us look x k := rfl

/-! New -/
structure NewA where
  w : Int
  h : Int
  r : Int
  g : Int
  b : Int
def NewA.Ok (a : NewA) : Prop := SidesOk a.w a.h ∧ ValOk a.r ∧ ValOk a.g ∧ ValOk a.b
instance (a : NewA) : Decidable a.Ok := by unfold NewA.Ok; infer_instance
def im0 : Im := ⟨0, 0, [], [], []⟩
def cst (n : Int) (x : Int) : List Int := List.replicate n.toNat x
def newI (a : NewA) : Im := if a.Ok then ⟨a.w, a.h, cst (a.w * a.h) a.r, cst (a.w * a.h) a.g, cst (a.w * a.h) a.b⟩ else im0
def imN (i : Im) (x : Nat → Xf.Loc) : List (Xf.Loc × Chunk) := [(x 0, .ints .i64 i.R), (x 1, .ints .i64 i.G), (x 2, .ints .i64 i.B)]
/-- Where a result lies: nowhere, if there is none. -/
def lx (p : Prop) [Decidable p] (x : Nat → Xf.Loc) (k : Nat) : Xf.Loc := if p then x k else nilLoc
attribute [push_cast] imN
end Go.Proofs.Ytefggfjblhniaaa
