import Derived.Test.YtefggfjblhniaaaVa
set_option linter.unusedVariables false
set_option linter.unusedSimpArgs false
/-! Valid of the Colour seat. -/
namespace Go.Proofs.Ytefggfjblhniaaa
open Xf
set_option maxRecDepth 4000
/- slices.IndexFunc[[]int,int] : slots 19, labels 10..13; loop b74_1 keeps [0, 1, 7, 8] -/
def b74_1 : IR :=
  .seq (.reg false [⟨some 9, none, ⟨[], []⟩, .bin 0 .lss (.t 8) (.t 7)⟩] [] []) (.seq (.cond (.t 9) (.skip) (.exit 0)) (.seq (.block 1 (.seq (.reg false [⟨some 10, none, ⟨[], []⟩, .mov (.t 8)⟩,
    ⟨some 5, none, ⟨[], []⟩, .mov (.t 10)⟩] [9, 10] []) (.seq (.reg false [⟨some 11, none, ⟨[], []⟩, .mov (.t 1)⟩,
    ⟨some 12, none, ⟨[], []⟩, .mov (.t 0)⟩,
    ⟨some 13, none, ⟨[], []⟩, .mov (.t 5)⟩,
    ⟨some 14, none, ⟨[], []⟩, .idxS (.t 12) (.t 13) 1⟩,
    ⟨some 15, none, ⟨[], []⟩, .ld true none 0 0 (.t 14)⟩,
    ⟨some 16, none, ⟨[], []⟩, .callv (some 4) 10 (.t 11) [.t 15]⟩] [11, 12, 13, 14, 15] []) (.cond (.t 16) (.seq (.reg false [⟨some 17, none, ⟨[], []⟩, .mov (.t 5)⟩,
    ⟨some 4, none, ⟨[], []⟩, .mov (.t 17)⟩] [0, 1, 5, 7, 8, 16, 17] []) (.ret)) (.skip))))) (.reg false [⟨some 18, none, ⟨[], []⟩, .bin 0 .add (.t 8) (.k (.int .i64 1))⟩,
    ⟨some 8, none, ⟨[], []⟩, .mov (.t 18)⟩] [4, 5, 16, 18] [])))
def r74_2 : IR :=
  .seq (.reg false [⟨some 4, none, ⟨[], []⟩, .mov (.k (.int .i64 (-1)))⟩] [0, 1, 7, 8] []) (.ret)
def ir74 : IR :=
  .seq (.reg false [⟨some 4, none, ⟨[], []⟩, .mov (.k (.int .i64 0))⟩] [4] []) (.seq (.seq (.reg false [⟨some 6, none, ⟨[], []⟩, .mov (.t 0)⟩,
    ⟨some 7, none, ⟨[], []⟩, .len (.t 6)⟩,
    ⟨some 8, none, ⟨[], []⟩, .mov (.k (.int .i64 0))⟩] [6] []) (.block 0 (.loop b74_1))) (r74_2))
def kp74_1 : List Nat := [0, 1, 7, 8]
def kl74_1 : List Nat := [10, 11, 12, 13]
attribute [push_cast] kp74_1 kl74_1
theorem comp74 : (Try.f74.body.bind fun c => compC tab isP chkAll ir74 c) = some ir74 := by kernel_rfl
/- slices.ContainsFunc[[]int,int] : slots 9, labels 10..13 -/
def ir64 : IR :=
  .seq (.reg false [⟨some 4, none, ⟨[], []⟩, .mov (.k (.bool false))⟩] [4] []) (.seq (.reg false [⟨some 5, none, ⟨[], []⟩, .mov (.t 0)⟩,
    ⟨some 6, none, ⟨[], []⟩, .mov (.t 1)⟩,
    ⟨some 7, none, ⟨[], []⟩, .call (some 4) 10 74 [.t 5, .t 6]⟩,
    ⟨some 8, none, ⟨[], []⟩, .bin 0 .geq (.t 7) (.k (.int .i64 0))⟩,
    ⟨some 4, none, ⟨[], []⟩, .mov (.t 8)⟩] [0, 1, 5, 6, 7, 8] []) (.ret))
theorem comp64 : (Try.f64.body.bind fun c => compC tab isP chkAll ir64 c) = some ir64 := by kernel_rfl
/- incunable/colour.rightValues : slots 14, labels 10..13 -/
def ir72 : IR :=
  .seq (.reg false [⟨some 4, none, ⟨[], []⟩, .mov (.k (.bool false))⟩] [4] []) (.seq (.reg false [⟨some 5, none, ⟨[], []⟩, .mov (.t 0)⟩,
    ⟨some 6, none, ⟨[], []⟩, .len (.t 5)⟩,
    ⟨some 7, none, ⟨[], []⟩, .mov (.t 1)⟩,
    ⟨some 8, none, ⟨[], []⟩, .bin 0 .eql (.t 6) (.t 7)⟩,
    ⟨some 9, none, ⟨[], []⟩, .mov (.t 8)⟩,
    ⟨some 10, some (9, true), ⟨[], []⟩, .mov (.t 0)⟩,
    ⟨some 11, some (9, true), ⟨[], []⟩, .call (some 4) 10 64 [.t 10, .k (.fn 75 [])]⟩,
    ⟨some 12, some (9, true), ⟨[], []⟩, .not (.t 11)⟩,
    ⟨some 13, none, ⟨[], []⟩, .pick (.t 9) (.t 12) (.k (.bool false))⟩,
    ⟨some 4, none, ⟨[], []⟩, .mov (.t 13)⟩] [0, 1, 5, 6, 7, 8, 9, 10, 11, 12, 13] []) (.ret))
theorem comp72 : (Try.f72.body.bind fun c => compC tab isP chkAll ir72 c) = some ir72 := by kernel_rfl
/- incunable/colour.Valid : slots 32, labels 10..22 -/
def ir58 : IR :=
  .seq (.reg false [⟨some 1, none, ⟨[], []⟩, .box 10 (.t 0)⟩,
    ⟨some 2, none, ⟨[], []⟩, .mov (.k (.bool false))⟩] [0, 2] []) (.seq (.reg false [⟨some 4, none, ⟨[], []⟩, .fld (.t 1) 0⟩,
    ⟨some 5, none, ⟨[], []⟩, .ld false none 0 0 (.t 4)⟩,
    ⟨some 6, none, ⟨[], []⟩, .fld (.t 1) 1⟩,
    ⟨some 7, none, ⟨[], []⟩, .ld false none 0 0 (.t 6)⟩,
    ⟨some 8, none, ⟨[], []⟩, .bin 1 .mul (.t 5) (.t 7)⟩,
    ⟨some 3, none, ⟨[], []⟩, .mov (.t 8)⟩] [4, 5, 6, 7, 8] []) (.seq (.reg false [⟨some 9, none, ⟨[], []⟩, .fld (.t 1) 0⟩,
    ⟨some 10, none, ⟨[], []⟩, .ld false none 0 0 (.t 9)⟩,
    ⟨some 11, none, ⟨[], []⟩, .fld (.t 1) 1⟩,
    ⟨some 12, none, ⟨[], []⟩, .ld false none 0 0 (.t 11)⟩,
    ⟨some 13, none, ⟨[], []⟩, .callp 71 [.t 10, .t 12]⟩,
    ⟨some 14, none, ⟨[], []⟩, .mov (.t 13)⟩,
    ⟨some 15, some (14, true), ⟨[], []⟩, .fld (.t 1) 2⟩,
    ⟨some 16, some (14, true), ⟨[], []⟩, .ld false none 0 0 (.t 15)⟩,
    ⟨some 17, some (14, true), ⟨[], []⟩, .mov (.t 3)⟩,
    ⟨some 18, some (14, true), ⟨[], []⟩, .call (some 4) 11 72 [.t 16, .t 17]⟩,
    ⟨some 19, none, ⟨[], []⟩, .pick (.t 14) (.t 18) (.k (.bool false))⟩,
    ⟨some 20, none, ⟨[], []⟩, .mov (.t 19)⟩,
    ⟨some 21, some (20, true), ⟨[], []⟩, .fld (.t 1) 3⟩,
    ⟨some 22, some (20, true), ⟨[], []⟩, .ld false none 0 0 (.t 21)⟩,
    ⟨some 23, some (20, true), ⟨[], []⟩, .mov (.t 3)⟩,
    ⟨some 24, some (20, true), ⟨[], []⟩, .call (some 4) 15 72 [.t 22, .t 23]⟩,
    ⟨some 25, none, ⟨[], []⟩, .pick (.t 20) (.t 24) (.k (.bool false))⟩,
    ⟨some 26, none, ⟨[], []⟩, .mov (.t 25)⟩,
    ⟨some 27, some (26, true), ⟨[], []⟩, .fld (.t 1) 4⟩,
    ⟨some 28, some (26, true), ⟨[], []⟩, .ld false none 0 0 (.t 27)⟩,
    ⟨some 29, some (26, true), ⟨[], []⟩, .mov (.t 3)⟩,
    ⟨some 30, some (26, true), ⟨[], []⟩, .call (some 4) 19 72 [.t 28, .t 29]⟩,
    ⟨some 31, none, ⟨[], []⟩, .pick (.t 26) (.t 30) (.k (.bool false))⟩,
    ⟨some 2, none, ⟨[], []⟩, .mov (.t 31)⟩] [1, 3, 9, 10, 11, 12, 13, 14, 15, 16, 17, 18, 19, 20, 21, 22, 23, 24, 25, 26, 27, 28, 29, 30, 31] []) (.ret)))
theorem comp58 : (Try.f58.body.bind fun c => compC tab isP chkAll ir58 c) = some ir58 := by kernel_rfl
set_option maxRecDepth 512

/-- A row that is only read. -/
structure RowA where
  L : Xf.Loc
  xs : List Int
def rowM (a : RowA) : Mem := [some (.ro, a.L, .ints .i64 a.xs)]
attribute [push_cast] rowM

def firstBad (xs : List Int) : Int := if (xs.findIdx fun n => decide (¬ ValOk n)) < xs.length then (xs.findIdx fun n => decide (¬ ValOk n)) else -1
theorem firstBad_at {xs : List Int} {i : Nat} (h : i < xs.length) (hb : ¬ ValOk (rd xs i)) (hj : ∀ j, j < i → ValOk (rd xs (j : Nat))) : firstBad xs = i := by
  have : (xs.findIdx fun n => decide (¬ ValOk n)) = i := by
    rw [List.findIdx_eq h]
    refine ⟨by rw [rd_lt xs i h] at hb; simpa using hb, fun j hji => ?_⟩
    have := hj j hji
    rw [rd_lt xs j (by omega)] at this
    simpa using this
  unfold firstBad
  rw [this, if_pos h]
theorem firstBad_no {xs : List Int} (hj : ∀ j, j < xs.length → ValOk (rd xs (j : Nat))) : firstBad xs = -1 := by
  unfold firstBad
  rw [if_neg]
  intro h
  have := List.findIdx_getElem (w := h)
  have h2 := hj _ h
  rw [rd_lt xs _ h] at h2
  simp only [decide_eq_true_eq] at this
  exact this h2
def AllVal (xs : List Int) : Prop := ∀ n ∈ xs, ValOk n
instance (xs : List Int) : Decidable (AllVal xs) := by unfold AllVal; infer_instance
theorem firstBad_iff (xs : List Int) : 0 ≤ firstBad xs ↔ ¬ AllVal xs := by
  unfold firstBad AllVal
  have h := List.findIdx_lt_length (xs := xs) (p := fun n => decide (¬ ValOk n))
  by_cases hh : (xs.findIdx fun n => decide (¬ ValOk n)) < xs.length
  · rw [if_pos hh]
    obtain ⟨x, hx, hb⟩ := h.1 hh
    constructor
    · intro _ H; simp [H x hx] at hb
    · intro _; omega
  · rw [if_neg hh]
    constructor
    · intro h; omega
    · intro H
      exfalso
      apply hh
      apply h.2
      simp only [Classical.not_forall] at H
      obtain ⟨x, hx, hb⟩ := H
      exact ⟨x, hx, by simpa using hb⟩
def fs74 : FS where
  A := RowA
  args := fun a => [.sl 0 a.L 1 0 a.xs.length, .fn 75 []]
  mem := rowM
  pre := fun a => a.xs.length ≤ 140737488355328
  res := fun a _ => .int .i64 (firstBad a.xs)
  out := fun _ _ => []
  new := fun _ _ => []
def inv74 : List SV → Look → Option (RowA × List Nat)
  | [.sl c _ 1 0 _, .fn 75 []], look => match rowI (look c) with
    | some (L, .i64, xs) => some (⟨L, xs⟩, [c])
    | _ => none
  | _, _ => none
attribute [push_cast] inv74

def I74 (L : Xf.Loc) (xs : List Int) (i : Nat) : List Ent × Mem := ([some (true, .sl 0 L 1 0 xs.length), some (true, .fn 75 []), none, none, none, none, none, some (true, .int .i64 xs.length), some (true, .int .i64 i), none, none, none, none, none, none, none, none, none, none],
    [some (.ro, L, .ints .i64 xs), none, none, none, none, none, none, none, none, none, none, none, none, none])
def lp74 (L : Xf.Loc) (xs : List Int) : LoopS where
  A := Nat
  I := I74 L xs
  R := fun i => i ≤ xs.length ∧ ∀ j, j < i → ValOk (rd xs (j : Nat))
  mu := fun i => xs.length - i

theorem ok74 : FSOk Try.prog 74 fs74 := by
  refine ⟨⟨_, Try.func74, by kernel_rfl, by kernel_rfl⟩, fun a => ⟨by simp [fs74, rowM, push_cast, noMine, argOwn, Chunk.frArg], by simp [fs74, rowM, push_cast, outOk, Chunk.ext], fun x => .inl (by simp [fs74, rowM, push_cast, frNew, frOut, Chunk.fr])⟩, fun a hp => ?_⟩
  obtain ⟨L, xs⟩ := a
  change xs.length ≤ 140737488355328 at hp
  change Tri Try.prog 74 [.sl 0 L 1 0 xs.length, .fn 75 []] [some (.ro, L, .ints .i64 xs)] (postF fs74 ⟨L, xs⟩)
  refine tri_evS (hyp (l := [(75, liftP nvalF)]) (lp := []) ⟨p75.lift, trivial⟩ trivial) Try.func74 comp74 (rs := [.tmp 4]) (by rfl) Try.ntmps74 13 ?_
  simp -implicitDefEqProofs only [push_cast, false_implies, reduceCtorEq, Classical.not_not, Nat.reduceAdd, Nat.reduceSub, Nat.reduceMul, Nat.reduceLeDiff, Nat.reduceLT, Nat.reduceEqDiff, Nat.reduceBEq, Nat.reduceBNe, Int.reduceNeg, Int.reduceToNat, Bool.or_false, Bool.false_or, Bool.or_true, Bool.true_or, BEq.rfl, Bool.not_eq_true, Bool.not_eq_false, decide_eq_true_eq, not_true_eq_false, not_false_eq_true, ite_true, ite_false, List.append_nil, and_assoc, Nat.mul_zero, Nat.zero_mul, ir74]
  refine evS_loop _ _ _ (lp74 L xs) (0 : Nat) ⟨by omega, by omega⟩ (Sub.refl _ _) ?_
  intro (i : Nat) hi
  change evS _ _ _ _ (I74 L xs i).1 (I74 L xs i).2
  obtain ⟨h1, h2⟩ : i ≤ xs.length ∧ ∀ j, j < i → ValOk (rd xs (j : Nat)) := hi
  simp -implicitDefEqProofs only [push_cast, false_implies, reduceCtorEq, Classical.not_not, Nat.reduceAdd, Nat.reduceSub, Nat.reduceMul, Nat.reduceLeDiff, Nat.reduceLT, Nat.reduceEqDiff, Nat.reduceBEq, Nat.reduceBNe, Int.reduceNeg, Int.reduceToNat, Bool.or_false, Bool.false_or, Bool.or_true, Bool.true_or, BEq.rfl, Bool.not_eq_true, Bool.not_eq_false, decide_eq_true_eq, not_true_eq_false, not_false_eq_true, ite_true, ite_false, List.append_nil, and_assoc, Nat.mul_zero, Nat.zero_mul, I74, b74_1, r74_2]
  refine ⟨fun h => ⟨by omega, h, by omega, h, fun hb => ?_, fun hb => ⟨by omega, by omega, ?_⟩⟩, fun h => ?_⟩
  · have e := firstBad_at (by omega) hb h2
    exact postF.mk' (fun _ => default) [some 0] (by simp -implicitDefEqProofs only [push_cast, false_implies, reduceCtorEq, Classical.not_not, Nat.reduceAdd, Nat.reduceSub, Nat.reduceMul, Nat.reduceLeDiff, Nat.reduceLT, Nat.reduceEqDiff, Nat.reduceBEq, Nat.reduceBNe, Int.reduceNeg, Int.reduceToNat, Bool.or_false, Bool.false_or, Bool.or_true, Bool.true_or, BEq.rfl, Bool.not_eq_true, Bool.not_eq_false, decide_eq_true_eq, not_true_eq_false, not_false_eq_true, ite_true, ite_false, List.append_nil, and_assoc, Nat.mul_zero, Nat.zero_mul, fs74, e])
  · refine lpK_mk (i + 1 : Nat) ⟨by omega, ?_⟩ (show xs.length - (i + 1) < xs.length - i by omega) (Sub.refl _ _)
    intro j hj
    by_cases e : j = i
    · subst e; exact hb
    · exact h2 j (by omega)
  · have e := firstBad_no (xs := xs) (fun j hj => h2 j (by omega))
    exact postF.mk' (fun _ => default) [some 0] (by simp -implicitDefEqProofs only [push_cast, false_implies, reduceCtorEq, Classical.not_not, Nat.reduceAdd, Nat.reduceSub, Nat.reduceMul, Nat.reduceLeDiff, Nat.reduceLT, Nat.reduceEqDiff, Nat.reduceBEq, Nat.reduceBNe, Int.reduceNeg, Int.reduceToNat, Bool.or_false, Bool.false_or, Bool.or_true, Bool.true_or, BEq.rfl, Bool.not_eq_true, Bool.not_eq_false, decide_eq_true_eq, not_true_eq_false, not_false_eq_true, ite_true, ite_false, List.append_nil, and_assoc, Nat.mul_zero, Nat.zero_mul, fs74, e])

def ent74 : Entry := spOf fs74 inv74
theorem e74 : EntryOk Try.prog 74 ent74 := entry_of ok74 inv74
@[push_cast] theorem ent74_app (us : List SV) (look : Look) (x : Nat → Xf.Loc) (k : Nat) : ent74 us look x k = spOf fs74 inv74 us look x k := rfl

def fs64 : FS := { fs74 with res := fun a _ => .bool (decide (¬ AllVal a.xs)) }
theorem ok64 : FSOk Try.prog 64 fs64 := by
  refine ⟨⟨_, Try.func64, by kernel_rfl, by kernel_rfl⟩, fun a => ⟨by simp [fs64, fs74, rowM, push_cast, noMine, argOwn, Chunk.frArg], by simp [fs64, fs74, rowM, push_cast, outOk, Chunk.ext], fun x => .inl (by simp [fs64, fs74, rowM, push_cast, frNew, frOut, Chunk.fr])⟩, fun a hp => ?_⟩
  obtain ⟨L, xs⟩ := a
  change xs.length ≤ 140737488355328 at hp
  change Tri Try.prog 64 [.sl 0 L 1 0 xs.length, .fn 75 []] [some (.ro, L, .ints .i64 xs)] (postF fs64 ⟨L, xs⟩)
  refine tri_evS (hyp (l := [(74, ent74)]) (lp := []) ⟨e74, trivial⟩ trivial) Try.func64 comp64 (rs := [.tmp 4]) (by rfl) Try.ntmps64 13 ?_
  simp -implicitDefEqProofs only [push_cast, false_implies, reduceCtorEq, Classical.not_not, Nat.reduceAdd, Nat.reduceSub, Nat.reduceMul, Nat.reduceLeDiff, Nat.reduceLT, Nat.reduceEqDiff, Nat.reduceBEq, Nat.reduceBNe, Int.reduceNeg, Int.reduceToNat, Bool.or_false, Bool.false_or, Bool.or_true, Bool.true_or, BEq.rfl, Bool.not_eq_true, Bool.not_eq_false, decide_eq_true_eq, not_true_eq_false, not_false_eq_true, ite_true, ite_false, List.append_nil, and_assoc, Nat.mul_zero, Nat.zero_mul, ir64, fs74]
  exact ⟨hp, postF.mk' (fun _ => default) [some 0] (by simp -implicitDefEqProofs only [push_cast, false_implies, reduceCtorEq, Classical.not_not, Nat.reduceAdd, Nat.reduceSub, Nat.reduceMul, Nat.reduceLeDiff, Nat.reduceLT, Nat.reduceEqDiff, Nat.reduceBEq, Nat.reduceBNe, Int.reduceNeg, Int.reduceToNat, Bool.or_false, Bool.false_or, Bool.or_true, Bool.true_or, BEq.rfl, Bool.not_eq_true, Bool.not_eq_false, decide_eq_true_eq, not_true_eq_false, not_false_eq_true, ite_true, ite_false, List.append_nil, and_assoc, Nat.mul_zero, Nat.zero_mul, fs64, fs74, firstBad_iff])⟩
def ent64 : Entry := spOf fs64 inv74
theorem e64 : EntryOk Try.prog 64 ent64 := entry_of ok64 inv74
@[push_cast] theorem ent64_app (us : List SV) (look : Look) (x : Nat → Xf.Loc) (k : Nat) : ent64 us look x k = spOf fs64 inv74 us look x k := rfl

/-! rightValues -/
structure RowN where
  L : Xf.Loc
  xs : List Int
  n : Int
def fs72 : FS where
  A := RowN
  args := fun a => [.sl 0 a.L 1 0 a.xs.length, .int .i64 a.n]
  mem := fun a => [some (.ro, a.L, .ints .i64 a.xs)]
  pre := fun a => a.xs.length ≤ 140737488355328
  res := fun a _ => .bool (decide (a.xs.length = a.n ∧ AllVal a.xs))
  out := fun _ _ => []
  new := fun _ _ => []
def inv72 : List SV → Look → Option (RowN × List Nat)
  | [.sl c _ 1 0 _, .int .i64 n], look => match rowI (look c) with
    | some (L, .i64, xs) => some (⟨L, xs, n⟩, [c])
    | _ => none
  | _, _ => none
attribute [push_cast] inv72
theorem ok72 : FSOk Try.prog 72 fs72 := by
  refine ⟨⟨_, Try.func72, by kernel_rfl, by kernel_rfl⟩, fun a => ⟨by simp [fs72, push_cast, noMine, argOwn, Chunk.frArg], by simp [fs72, push_cast, outOk, Chunk.ext], fun x => .inl (by simp [fs72, push_cast, frNew, frOut, Chunk.fr])⟩, fun a hp => ?_⟩
  obtain ⟨L, xs, n⟩ := a
  change xs.length ≤ 140737488355328 at hp
  change Tri Try.prog 72 [.sl 0 L 1 0 xs.length, .int .i64 n] [some (.ro, L, .ints .i64 xs)] (postF fs72 ⟨L, xs, n⟩)
  refine tri_evS (hyp (l := [(64, ent64)]) (lp := []) ⟨e64, trivial⟩ trivial) Try.func72 comp72 (rs := [.tmp 4]) (by rfl) Try.ntmps72 14 ?_
  simp -implicitDefEqProofs only [push_cast, false_implies, reduceCtorEq, Classical.not_not, Nat.reduceAdd, Nat.reduceSub, Nat.reduceMul, Nat.reduceLeDiff, Nat.reduceLT, Nat.reduceEqDiff, Nat.reduceBEq, Nat.reduceBNe, Int.reduceNeg, Int.reduceToNat, Bool.or_false, Bool.false_or, Bool.or_true, Bool.true_or, BEq.rfl, Bool.not_eq_true, Bool.not_eq_false, decide_eq_true_eq, not_true_eq_false, not_false_eq_true, ite_true, ite_false, List.append_nil, and_assoc, Nat.mul_zero, Nat.zero_mul, ir72, fs64, fs74, hp]
  exact postF.mk' (fun _ => default) [some 0] (by simp -implicitDefEqProofs only [push_cast, false_implies, reduceCtorEq, Classical.not_not, Nat.reduceAdd, Nat.reduceSub, Nat.reduceMul, Nat.reduceLeDiff, Nat.reduceLT, Nat.reduceEqDiff, Nat.reduceBEq, Nat.reduceBNe, Int.reduceNeg, Int.reduceToNat, Bool.or_false, Bool.false_or, Bool.or_true, Bool.true_or, BEq.rfl, Bool.not_eq_true, Bool.not_eq_false, decide_eq_true_eq, not_true_eq_false, not_false_eq_true, ite_true, ite_false, List.append_nil, and_assoc, Nat.mul_zero, Nat.zero_mul, fs72])
def ent72 : Entry := spOf fs72 inv72
theorem e72 : EntryOk Try.prog 72 ent72 := entry_of ok72 inv72
@[push_cast] theorem ent72_app (us : List SV) (look : Look) (x : Nat → Xf.Loc) (k : Nat) : ent72 us look x k = spOf fs72 inv72 us look x k := rfl

/-! Images -/
structure Im where
  w : Int
  h : Int
  R : List Int
  G : List Int
  B : List Int
structure ImA where
  i : Im
  L1 : Xf.Loc
  L2 : Xf.Loc
  L3 : Xf.Loc
def imV (i : Im) (L1 L2 L3 : Xf.Loc) (c : Nat) : SV := .agg [.int .i64 i.w, .int .i64 i.h, .sl c L1 1 0 i.R.length, .sl (c + 1) L2 1 0 i.G.length, .sl (c + 2) L3 1 0 i.B.length]
def imM (i : Im) (L1 L2 L3 : Xf.Loc) : Mem := [some (.ro, L1, .ints .i64 i.R), some (.ro, L2, .ints .i64 i.G), some (.ro, L3, .ints .i64 i.B)]
def Im.small (i : Im) : Prop := i.R.length ≤ 140737488355328 ∧ i.G.length ≤ 140737488355328 ∧ i.B.length ≤ 140737488355328
def Im.Ok (i : Im) : Prop := SidesOk i.w i.h ∧ (i.R.length = i.w * i.h ∧ AllVal i.R) ∧ (i.G.length = i.w * i.h ∧ AllVal i.G) ∧ (i.B.length = i.w * i.h ∧ AllVal i.B)
instance (i : Im) : Decidable i.Ok := by unfold Im.Ok; infer_instance
def fs58 : FS where
  A := ImA
  args := fun a => [imV a.i a.L1 a.L2 a.L3 0]
  mem := fun a => imM a.i a.L1 a.L2 a.L3
  pre := fun a => a.i.small
  res := fun a _ => .bool (decide a.i.Ok)
  out := fun _ _ => []
  new := fun _ _ => []
def getI (look : Look) : SV → Option (ImA × List Nat)
  | .agg [.int .i64 w, .int .i64 h, .sl c1 _ 1 0 _, .sl c2 _ 1 0 _, .sl c3 _ 1 0 _] => match rowI (look c1), rowI (look c2), rowI (look c3) with
    | some (L1, .i64, R), some (L2, .i64, G), some (L3, .i64, B) => some (⟨⟨w, h, R, G, B⟩, L1, L2, L3⟩, [c1, c2, c3])
    | _, _, _ => none
  | _ => none
def inv58 : List SV → Look → Option (ImA × List Nat)
  | [v], look => getI look v
  | _, _ => none
attribute [push_cast] inv58 getI imV imM
theorem ok58 : FSOk Try.prog 58 fs58 := by
  refine ⟨⟨_, Try.func58, by kernel_rfl, by kernel_rfl⟩, fun a => ⟨by simp [fs58, imM, push_cast, noMine, argOwn, Chunk.frArg], by simp [fs58, imM, push_cast, outOk, Chunk.ext], fun x => .inl (by simp [fs58, imM, push_cast, frNew, frOut, Chunk.fr])⟩, fun a hp => ?_⟩
  obtain ⟨⟨w, h, R, G, B⟩, L1, L2, L3⟩ := a
  obtain ⟨h1, h2, h3⟩ : R.length ≤ 140737488355328 ∧ G.length ≤ 140737488355328 ∧ B.length ≤ 140737488355328 := hp
  change Tri Try.prog 58 [imV ⟨w, h, R, G, B⟩ L1 L2 L3 0] (imM ⟨w, h, R, G, B⟩ L1 L2 L3) (postF fs58 ⟨⟨w, h, R, G, B⟩, L1, L2, L3⟩)
  refine tri_evS (hyp (l := [(72, ent72)]) (lp := [(71, sidesF)]) ⟨e72, trivial⟩ ⟨p71, trivial⟩) Try.func58 comp58 (rs := [.tmp 2]) (by rfl) Try.ntmps58 30 ?_
  simp -implicitDefEqProofs only [push_cast, false_implies, reduceCtorEq, Classical.not_not, Nat.reduceAdd, Nat.reduceSub, Nat.reduceMul, Nat.reduceLeDiff, Nat.reduceLT, Nat.reduceEqDiff, Nat.reduceBEq, Nat.reduceBNe, Int.reduceNeg, Int.reduceToNat, Bool.or_false, Bool.false_or, Bool.or_true, Bool.true_or, BEq.rfl, Bool.not_eq_true, Bool.not_eq_false, decide_eq_true_eq, not_true_eq_false, not_false_eq_true, ite_true, ite_false, List.append_nil, and_assoc, Nat.mul_zero, Nat.zero_mul, ir58, fs72, h1, h2, h3]
  intro X
  refine ⟨fun h => ?_, fun h => ?_, postF.mk' (fun _ => default) [some 0, some 1, some 2] ?_⟩
  · obtain ⟨a, b, c⟩ := h; exact ⟨a, b, c, a, b, c⟩
  · obtain ⟨a, b, c, d, e⟩ := h; exact ⟨a, b, c, d, e, a, b, c, d, e⟩
  · have e : (SidesOk w h ∧ R.length = IntKind.i64.wrap (w * h) ∧ AllVal R ∧ G.length = IntKind.i64.wrap (w * h) ∧ AllVal G ∧ B.length = IntKind.i64.wrap (w * h) ∧ AllVal B) ↔ (⟨w, h, R, G, B⟩ : Im).Ok := by
      unfold Im.Ok
      by_cases hs : SidesOk w h
      · have := hs.bd
        rw [inR_wrap (k := .i64) ⟨by omega, by omega⟩]
        simp only [and_assoc]
      · simp only [hs, false_and]
    simp -implicitDefEqProofs only [push_cast, false_implies, reduceCtorEq, Classical.not_not, Nat.reduceAdd, Nat.reduceSub, Nat.reduceMul, Nat.reduceLeDiff, Nat.reduceLT, Nat.reduceEqDiff, Nat.reduceBEq, Nat.reduceBNe, Int.reduceNeg, Int.reduceToNat, Bool.or_false, Bool.false_or, Bool.or_true, Bool.true_or, BEq.rfl, Bool.not_eq_true, Bool.not_eq_false, decide_eq_true_eq, not_true_eq_false, not_false_eq_true, ite_true, ite_false, List.append_nil, and_assoc, Nat.mul_zero, Nat.zero_mul, fs58, e]
def ent58 : Entry := spOf fs58 inv58
theorem e58 : EntryOk Try.prog 58 ent58 := entry_of ok58 inv58
@[push_cast] theorem ent58_app (us : List SV) (look : Look) (x : Nat → Xf.Loc) (k : Nat) : ent58 us look x k = spOf fs58 inv58 us look x k := rfl

end Go.Proofs.Ytefggfjblhniaaa
