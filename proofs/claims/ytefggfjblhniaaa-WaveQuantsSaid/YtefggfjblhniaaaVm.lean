import Derived.Test.YtefggfjblhniaaaVl
set_option linter.unusedVariables false
set_option linter.unusedSimpArgs false
/-! Planes: which are planes. -/
namespace Go.Proofs.Ytefggfjblhniaaa
open Xf
set_option maxRecDepth 4000
/- incunable/split.isSides : slots 19, labels 10..9 -/
def ir77 : IR :=
  .seq (.reg false [⟨some 4, none, ⟨[], []⟩, .mov (.k (.bool false))⟩] [4] []) (.seq (.reg false [⟨some 5, none, ⟨[], []⟩, .mov (.t 0)⟩,
    ⟨some 6, none, ⟨[], []⟩, .bin 0 .geq (.t 5) (.k (.int .i64 0))⟩,
    ⟨some 7, none, ⟨[], []⟩, .mov (.t 6)⟩,
    ⟨some 8, some (7, true), ⟨[], []⟩, .mov (.t 1)⟩,
    ⟨some 9, some (7, true), ⟨[], []⟩, .bin 0 .geq (.t 8) (.k (.int .i64 0))⟩,
    ⟨some 10, none, ⟨[], []⟩, .pick (.t 7) (.t 9) (.k (.bool false))⟩,
    ⟨some 11, none, ⟨[], []⟩, .mov (.t 10)⟩,
    ⟨some 12, some (11, true), ⟨[], []⟩, .mov (.t 0)⟩,
    ⟨some 13, some (11, true), ⟨[], []⟩, .bin 0 .leq (.t 12) (.k (.int .i64 200))⟩,
    ⟨some 14, none, ⟨[], []⟩, .pick (.t 11) (.t 13) (.k (.bool false))⟩,
    ⟨some 15, none, ⟨[], []⟩, .mov (.t 14)⟩,
    ⟨some 16, some (15, true), ⟨[], []⟩, .mov (.t 1)⟩,
    ⟨some 17, some (15, true), ⟨[], []⟩, .bin 0 .leq (.t 16) (.k (.int .i64 200))⟩,
    ⟨some 18, none, ⟨[], []⟩, .pick (.t 15) (.t 17) (.k (.bool false))⟩,
    ⟨some 4, none, ⟨[], []⟩, .mov (.t 18)⟩] [0, 1, 5, 6, 7, 8, 9, 10, 11, 12, 13, 14, 15, 16, 17, 18] []) (.ret))
theorem comp77 : (Try.f77.body.bind fun c => compC tab isP chkAll ir77 c) = some ir77 := by kernel_rfl
/- incunable/split.within$1 : slots 13, labels 10..9 -/
def ir78 : IR :=
  .seq (.reg false [⟨some 4, none, ⟨[], []⟩, .mov (.k (.bool false))⟩] [4] []) (.seq (.reg false [⟨some 5, none, ⟨[], []⟩, .mov (.t 0)⟩,
    ⟨some 6, none, ⟨[], []⟩, .ld false none 0 0 (.t 1)⟩,
    ⟨some 7, none, ⟨[], []⟩, .bin 0 .lss (.t 5) (.t 6)⟩,
    ⟨some 8, none, ⟨[], []⟩, .mov (.t 7)⟩,
    ⟨some 9, some (8, false), ⟨[], []⟩, .mov (.t 0)⟩,
    ⟨some 10, some (8, false), ⟨[], []⟩, .ld false none 0 0 (.t 2)⟩,
    ⟨some 11, some (8, false), ⟨[], []⟩, .bin 0 .gtr (.t 9) (.t 10)⟩,
    ⟨some 12, none, ⟨[], []⟩, .pick (.t 8) (.k (.bool true)) (.t 11)⟩,
    ⟨some 4, none, ⟨[], []⟩, .mov (.t 12)⟩] [0, 1, 2, 5, 6, 7, 8, 9, 10, 11, 12] []) (.ret))
theorem comp78 : (Try.f78.body.bind fun c => compC tab isP chkAll ir78 c) = some ir78 := by kernel_rfl
/- incunable/split.within : slots 35, labels 10..16 -/
def ir73 : IR :=
  .seq (.reg false [⟨some 3, none, ⟨[], []⟩, .box 10 (.t 0)⟩,
    ⟨some 4, none, ⟨[], []⟩, .box 11 (.t 1)⟩,
    ⟨some 5, none, ⟨[], []⟩, .box 12 (.t 2)⟩,
    ⟨some 6, none, ⟨[], []⟩, .mov (.k (.bool false))⟩] [0, 1, 2, 6] []) (.seq (.seq (.reg false [⟨some 7, none, ⟨[], []⟩, .fld (.t 3) 0⟩,
    ⟨some 8, none, ⟨[], []⟩, .ld false none 0 0 (.t 7)⟩,
    ⟨some 9, none, ⟨[], []⟩, .fld (.t 3) 1⟩,
    ⟨some 10, none, ⟨[], []⟩, .ld false none 0 0 (.t 9)⟩,
    ⟨some 11, none, ⟨[], []⟩, .callp 77 [.t 8, .t 10]⟩,
    ⟨some 12, none, ⟨[], []⟩, .not (.t 11)⟩,
    ⟨some 13, none, ⟨[], []⟩, .mov (.t 12)⟩,
    ⟨some 14, some (13, false), ⟨[], []⟩, .fld (.t 3) 0⟩,
    ⟨some 15, some (13, false), ⟨[], []⟩, .ld false none 0 0 (.t 14)⟩,
    ⟨some 16, some (13, false), ⟨[], []⟩, .fld (.t 3) 1⟩,
    ⟨some 17, some (13, false), ⟨[], []⟩, .ld false none 0 0 (.t 16)⟩,
    ⟨some 18, some (13, false), ⟨[], []⟩, .bin 0 .mul (.t 15) (.t 17)⟩,
    ⟨some 19, some (13, false), ⟨[], []⟩, .fld (.t 3) 2⟩,
    ⟨some 20, some (13, false), ⟨[], []⟩, .ld false none 0 0 (.t 19)⟩,
    ⟨some 21, some (13, false), ⟨[], []⟩, .len (.t 20)⟩,
    ⟨some 22, some (13, false), ⟨[], []⟩, .bin 0 .neq (.t 18) (.t 21)⟩,
    ⟨some 23, none, ⟨[], []⟩, .pick (.t 13) (.k (.bool true)) (.t 22)⟩,
    ⟨some 24, none, ⟨[], []⟩, .mov (.t 23)⟩,
    ⟨some 25, some (24, false), ⟨[], []⟩, .fld (.t 3) 2⟩,
    ⟨some 26, some (24, false), ⟨[], []⟩, .ld false none 0 0 (.t 25)⟩,
    ⟨some 27, some (24, false), ⟨[], []⟩, .len (.t 26)⟩,
    ⟨some 28, some (24, false), ⟨[], []⟩, .bin 0 .gtr (.t 27) (.k (.int .i64 8192))⟩,
    ⟨some 29, none, ⟨[], []⟩, .pick (.t 24) (.k (.bool true)) (.t 28)⟩] [7, 8, 9, 10, 11, 12, 13, 14, 15, 16, 17, 18, 19, 20, 21, 22, 23, 24, 25, 26, 27, 28] []) (.cond (.t 29) (.seq (.reg false [⟨some 6, none, ⟨[], []⟩, .mov (.k (.bool false))⟩] [3, 4, 5, 29] []) (.ret)) (.skip))) (.seq (.reg false [⟨some 30, none, ⟨[], []⟩, .fld (.t 3) 2⟩,
    ⟨some 31, none, ⟨[], []⟩, .ld false none 0 0 (.t 30)⟩,
    ⟨some 32, none, ⟨[], []⟩, .mkf 78 [.t 4, .t 5]⟩,
    ⟨some 33, none, ⟨[], []⟩, .call (some 4) 13 64 [.t 31, .t 32]⟩,
    ⟨some 34, none, ⟨[], []⟩, .not (.t 33)⟩,
    ⟨some 6, none, ⟨[], []⟩, .mov (.t 34)⟩] [3, 4, 5, 29, 30, 31, 32, 33, 34] []) (.ret)))
theorem comp73 : (Try.f73.body.bind fun c => compC tab isP chkAll ir73 c) = some ir73 := by kernel_rfl
/- incunable/split.IsPlane : slots 5, labels 10..14 -/
def ir60 : IR :=
  .seq (.reg false [⟨some 1, none, ⟨[], []⟩, .box 10 (.t 0)⟩,
    ⟨some 2, none, ⟨[], []⟩, .mov (.k (.bool false))⟩] [0, 2] []) (.seq (.reg false [⟨some 3, none, ⟨[], []⟩, .ld false (some 3) 0 0 (.t 1)⟩,
    ⟨some 4, none, ⟨[], []⟩, .call (some 4) 11 73 [.t 3, .k (.int .i64 (-16777216)), .k (.int .i64 16777216)]⟩,
    ⟨some 2, none, ⟨[], []⟩, .mov (.t 4)⟩] [1, 3, 4] []) (.ret))
theorem comp60 : (Try.f60.body.bind fun c => compC tab isP chkAll ir60 c) = some ir60 := by kernel_rfl
set_option maxRecDepth 512

/-- The first number of some kind. -/
def firstB (p : Int → Bool) (xs : List Int) : Int := if xs.findIdx p < xs.length then xs.findIdx p else -1
theorem firstB_at {p : Int → Bool} {xs : List Int} {i : Nat} (h : i < xs.length) (hb : p (rd xs i) = true) (hj : ∀ j, j < i → p (rd xs (j : Nat)) = false) : firstB p xs = i := by
  have : xs.findIdx p = i := by
    rw [List.findIdx_eq h]
    refine ⟨by rw [rd_lt xs i h] at hb; exact hb, fun j hji => ?_⟩
    have := hj j hji
    rw [rd_lt xs j (by omega)] at this
    exact this
  unfold firstB
  rw [this, if_pos h]
theorem firstB_no {p : Int → Bool} {xs : List Int} (hj : ∀ j, j < xs.length → p (rd xs (j : Nat)) = false) : firstB p xs = -1 := by
  unfold firstB
  rw [if_neg]
  intro h
  have := List.findIdx_getElem (w := h)
  have h2 := hj _ h
  rw [rd_lt xs _ h, this] at h2
  cases h2
theorem firstB_iff (p : Int → Bool) (xs : List Int) : 0 ≤ firstB p xs ↔ ∃ n, n ∈ xs ∧ p n = true := by
  unfold firstB
  have h := List.findIdx_lt_length (xs := xs) (p := p)
  by_cases hh : xs.findIdx p < xs.length
  · rw [if_pos hh]
    exact ⟨fun _ => h.1 hh, fun _ => by omega⟩
  · rw [if_neg hh]
    exact ⟨fun h => by omega, fun H => absurd (h.2 H) hh⟩

def sides4F : EntryP
  | [.int .i64 w, .int .i64 h] => some (True, .bool (decide (0 ≤ w ∧ 0 ≤ h ∧ w ≤ 200 ∧ h ≤ 200)))
  | _ => none
attribute [push_cast] sides4F
theorem p77 : EntryPOk Try.prog 77 sides4F := by
  refine ⟨⟨_, Try.func77, by kernel_rfl, by kernel_rfl⟩, fun us p v h hp => ?_⟩
  unfold sides4F at h
  split at h <;> cases h
  refine tri_evS (hyp (l := []) (lp := []) trivial trivial) Try.func77 comp77 (rs := [.tmp 4]) (by rfl) Try.ntmps77 10 ?_
  simp -implicitDefEqProofs only [push_cast, false_implies, reduceCtorEq, Classical.not_not, Nat.reduceAdd, Nat.reduceSub, Nat.reduceMul, Nat.reduceLeDiff, Nat.reduceLT, Nat.reduceEqDiff, Nat.reduceBEq, Nat.reduceBNe, Int.reduceNeg, Int.reduceToNat, Bool.or_false, Bool.false_or, Bool.or_true, Bool.true_or, BEq.rfl, Bool.not_eq_true, Bool.not_eq_false, decide_eq_true_eq, not_true_eq_false, not_false_eq_true, ite_true, ite_false, List.append_nil, and_assoc, Nat.mul_zero, Nat.zero_mul, ir77, sides4F]

structure OutA where
  L1 : Xf.Loc
  L2 : Xf.Loc
  n : Int
  lo : Int
  hi : Int
def outB (lo hi n : Int) : Bool := decide (n < lo ∨ hi < n)
def fs78 : FS where
  A := OutA
  args := fun a => [.int .i64 a.n, .ptr 0 a.L1 0 0 0, .ptr 1 a.L2 0 0 0]
  mem := fun a => [some (.ro, a.L1, .cells [.int .i64 a.lo]), some (.ro, a.L2, .cells [.int .i64 a.hi])]
  pre := fun _ => True
  res := fun a _ => .bool (outB a.lo a.hi a.n)
  out := fun _ _ => []
  new := fun _ _ => []
def inv78 : List SV → Look → Option (OutA × List Nat)
  | [.int .i64 n, .ptr c1 _ 0 0 0, .ptr c2 _ 0 0 0], look => match rowC (look c1), rowC (look c2) with
    | some (L1, [.int .i64 lo]), some (L2, [.int .i64 hi]) => some (⟨L1, L2, n, lo, hi⟩, [c1, c2])
    | _, _ => none
  | _, _ => none
attribute [push_cast] inv78
theorem ok78 : FSOk Try.prog 78 fs78 := by
  refine ⟨⟨_, Try.func78, by kernel_rfl, by kernel_rfl⟩, fun a => ⟨by simp [fs78, push_cast, noMine, argOwn, Chunk.frArg], by simp [fs78, push_cast, outOk, Chunk.ext], fun x => .inl (by simp [fs78, push_cast, frNew, frOut, Chunk.fr])⟩, fun a hp => ?_⟩
  obtain ⟨L1, L2, n, lo, hi⟩ := a
  change Tri Try.prog 78 [.int .i64 n, .ptr 0 L1 0 0 0, .ptr 1 L2 0 0 0] [some (.ro, L1, .cells [.int .i64 lo]), some (.ro, L2, .cells [.int .i64 hi])] (postF fs78 ⟨L1, L2, n, lo, hi⟩)
  refine tri_evS (hyp (l := []) (lp := []) trivial trivial) Try.func78 comp78 (rs := [.tmp 4]) (by rfl) Try.ntmps78 10 ?_
  simp -implicitDefEqProofs only [push_cast, false_implies, reduceCtorEq, Classical.not_not, Nat.reduceAdd, Nat.reduceSub, Nat.reduceMul, Nat.reduceLeDiff, Nat.reduceLT, Nat.reduceEqDiff, Nat.reduceBEq, Nat.reduceBNe, Int.reduceNeg, Int.reduceToNat, Bool.or_false, Bool.false_or, Bool.or_true, Bool.true_or, BEq.rfl, Bool.not_eq_true, Bool.not_eq_false, decide_eq_true_eq, not_true_eq_false, not_false_eq_true, ite_true, ite_false, List.append_nil, and_assoc, Nat.mul_zero, Nat.zero_mul, ir78]
  refine postF.mk' (fun _ => default) [some 0, some 1] ?_
  simp -implicitDefEqProofs only [push_cast, false_implies, reduceCtorEq, Classical.not_not, Nat.reduceAdd, Nat.reduceSub, Nat.reduceMul, Nat.reduceLeDiff, Nat.reduceLT, Nat.reduceEqDiff, Nat.reduceBEq, Nat.reduceBNe, Int.reduceNeg, Int.reduceToNat, Bool.or_false, Bool.false_or, Bool.or_true, Bool.true_or, BEq.rfl, Bool.not_eq_true, Bool.not_eq_false, decide_eq_true_eq, not_true_eq_false, not_false_eq_true, ite_true, ite_false, List.append_nil, and_assoc, Nat.mul_zero, Nat.zero_mul, fs78, outB]
def ent78 : Entry := spOf fs78 inv78
theorem e78 : EntryOk Try.prog 78 ent78 := entry_of ok78 inv78
@[push_cast] theorem ent78_app (us : List SV) (look : Look) (x : Nat → Xf.Loc) (k : Nat) : ent78 us look x k = spOf fs78 inv78 us look x k := rfl

structure OutR where
  L : Xf.Loc
  xs : List Int
  L1 : Xf.Loc
  L2 : Xf.Loc
  lo : Int
  hi : Int
def fs74w : FS where
  A := OutR
  args := fun a => [.sl 0 a.L 1 0 a.xs.length, .fn 78 [.ptr 1 a.L1 0 0 0, .ptr 2 a.L2 0 0 0]]
  mem := fun a => [some (.ro, a.L, .ints .i64 a.xs), some (.ro, a.L1, .cells [.int .i64 a.lo]), some (.ro, a.L2, .cells [.int .i64 a.hi])]
  pre := fun a => a.xs.length ≤ 140737488355328
  res := fun a _ => .int .i64 (firstB (outB a.lo a.hi) a.xs)
  out := fun _ _ => []
  new := fun _ _ => []
def inv74w : List SV → Look → Option (OutR × List Nat)
  | [.sl c _ 1 0 _, .fn 78 [.ptr c1 _ 0 0 0, .ptr c2 _ 0 0 0]], look => match rowI (look c), rowC (look c1), rowC (look c2) with
    | some (L, .i64, xs), some (L1, [.int .i64 lo]), some (L2, [.int .i64 hi]) => some (⟨L, xs, L1, L2, lo, hi⟩, [c, c1, c2])
    | _, _, _ => none
  | _, _ => none
attribute [push_cast] inv74w
theorem ok74w : FSOk Try.prog 74 fs74w := by
  refine ⟨⟨_, Try.func74, by kernel_rfl, by kernel_rfl⟩, fun a => ⟨by simp [fs74w, push_cast, noMine, argOwn, Chunk.frArg], by simp [fs74w, push_cast, outOk, Chunk.ext], fun x => .inl (by simp [fs74w, push_cast, frNew, frOut, Chunk.fr])⟩, fun a hp => ?_⟩
  obtain ⟨L, xs, L1, L2, lo, hi⟩ := a
  change xs.length ≤ 140737488355328 at hp
  change Tri Try.prog 74 [.sl 0 L 1 0 xs.length, .fn 78 [.ptr 1 L1 0 0 0, .ptr 2 L2 0 0 0]] [some (.ro, L, .ints .i64 xs), some (.ro, L1, .cells [.int .i64 lo]), some (.ro, L2, .cells [.int .i64 hi])] (postF fs74w ⟨L, xs, L1, L2, lo, hi⟩)
  refine tri_evS (hyp (l := [(78, ent78)]) (lp := []) ⟨e78, trivial⟩ trivial) Try.func74 comp74 (rs := [.tmp 4]) (by rfl) Try.ntmps74 14 ?_
  simp -implicitDefEqProofs only [push_cast, false_implies, reduceCtorEq, Classical.not_not, Nat.reduceAdd, Nat.reduceSub, Nat.reduceMul, Nat.reduceLeDiff, Nat.reduceLT, Nat.reduceEqDiff, Nat.reduceBEq, Nat.reduceBNe, Int.reduceNeg, Int.reduceToNat, Bool.or_false, Bool.false_or, Bool.or_true, Bool.true_or, BEq.rfl, Bool.not_eq_true, Bool.not_eq_false, decide_eq_true_eq, not_true_eq_false, not_false_eq_true, ite_true, ite_false, List.append_nil, and_assoc, Nat.mul_zero, Nat.zero_mul, ir74]
  refine evS_loopU (A := Nat) kp74_1 kl74_1 (fun i => [(8, .int .i64 i)]) (fun _ => [])
    (fun i => i ≤ xs.length ∧ ∀ j, j < i → outB lo hi (rd xs (j : Nat)) = false) (fun i => xs.length - i) 0 ⟨by omega, by omega⟩ (Sub.pt ?_) ?_
  · simp -implicitDefEqProofs only [push_cast, false_implies, reduceCtorEq, Classical.not_not, Nat.reduceAdd, Nat.reduceSub, Nat.reduceMul, Nat.reduceLeDiff, Nat.reduceLT, Nat.reduceEqDiff, Nat.reduceBEq, Nat.reduceBNe, Int.reduceNeg, Int.reduceToNat, Bool.or_false, Bool.false_or, Bool.or_true, Bool.true_or, BEq.rfl, Bool.not_eq_true, Bool.not_eq_false, decide_eq_true_eq, not_true_eq_false, not_false_eq_true, ite_true, ite_false, List.append_nil, and_assoc, Nat.mul_zero, Nat.zero_mul]
  intro i ⟨h1, h2⟩ K hK
  simp -implicitDefEqProofs only [push_cast, false_implies, reduceCtorEq, Classical.not_not, Nat.reduceAdd, Nat.reduceSub, Nat.reduceMul, Nat.reduceLeDiff, Nat.reduceLT, Nat.reduceEqDiff, Nat.reduceBEq, Nat.reduceBNe, Int.reduceNeg, Int.reduceToNat, Bool.or_false, Bool.false_or, Bool.or_true, Bool.true_or, BEq.rfl, Bool.not_eq_true, Bool.not_eq_false, decide_eq_true_eq, not_true_eq_false, not_false_eq_true, ite_true, ite_false, List.append_nil, and_assoc, Nat.mul_zero, Nat.zero_mul, b74_1, r74_2, fs78]
  refine ⟨fun h => ⟨by omega, h, by omega, h, fun hb => ?_, fun hb => ⟨by omega, by omega, ?_⟩⟩, fun h => ?_⟩
  · have e := firstB_at (by omega) hb h2
    exact postF.mk' (fun _ => default) [some 0, some 1, some 2] (by simp -implicitDefEqProofs only [push_cast, false_implies, reduceCtorEq, Classical.not_not, Nat.reduceAdd, Nat.reduceSub, Nat.reduceMul, Nat.reduceLeDiff, Nat.reduceLT, Nat.reduceEqDiff, Nat.reduceBEq, Nat.reduceBNe, Int.reduceNeg, Int.reduceToNat, Bool.or_false, Bool.false_or, Bool.or_true, Bool.true_or, BEq.rfl, Bool.not_eq_true, Bool.not_eq_false, decide_eq_true_eq, not_true_eq_false, not_false_eq_true, ite_true, ite_false, List.append_nil, and_assoc, Nat.mul_zero, Nat.zero_mul, fs74w, e])
  · refine hK (i + 1) ⟨by omega, ?_⟩ (show xs.length - (i + 1) < xs.length - i by omega) _ _ (Sub.pt ?_)
    · intro j hj
      by_cases e : j = i
      · subst e; exact hb
      · exact h2 j (by omega)
    · simp -implicitDefEqProofs only [push_cast, false_implies, reduceCtorEq, Classical.not_not, Nat.reduceAdd, Nat.reduceSub, Nat.reduceMul, Nat.reduceLeDiff, Nat.reduceLT, Nat.reduceEqDiff, Nat.reduceBEq, Nat.reduceBNe, Int.reduceNeg, Int.reduceToNat, Bool.or_false, Bool.false_or, Bool.or_true, Bool.true_or, BEq.rfl, Bool.not_eq_true, Bool.not_eq_false, decide_eq_true_eq, not_true_eq_false, not_false_eq_true, ite_true, ite_false, List.append_nil, and_assoc, Nat.mul_zero, Nat.zero_mul]
  · have e := firstB_no (p := outB lo hi) (xs := xs) (fun j hj => h2 j (by omega))
    exact postF.mk' (fun _ => default) [some 0, some 1, some 2] (by simp -implicitDefEqProofs only [push_cast, false_implies, reduceCtorEq, Classical.not_not, Nat.reduceAdd, Nat.reduceSub, Nat.reduceMul, Nat.reduceLeDiff, Nat.reduceLT, Nat.reduceEqDiff, Nat.reduceBEq, Nat.reduceBNe, Int.reduceNeg, Int.reduceToNat, Bool.or_false, Bool.false_or, Bool.or_true, Bool.true_or, BEq.rfl, Bool.not_eq_true, Bool.not_eq_false, decide_eq_true_eq, not_true_eq_false, not_false_eq_true, ite_true, ite_false, List.append_nil, and_assoc, Nat.mul_zero, Nat.zero_mul, fs74w, e])
def ent74w : Entry := spOf fs74w inv74w
theorem e74w : EntryOk Try.prog 74 ent74w := entry_of ok74w inv74w
@[push_cast] theorem ent74w_app (us : List SV) (look : Look) (x : Nat → Xf.Loc) (k : Nat) : ent74w us look x k = spOf fs74w inv74w us look x k := rfl

def AllIn (lo hi : Int) (xs : List Int) : Prop := ∀ n, n ∈ xs → lo ≤ n ∧ n ≤ hi
instance (lo hi : Int) (xs : List Int) : Decidable (AllIn lo hi xs) := by unfold AllIn; infer_instance
theorem allIn_iff {lo hi : Int} {xs : List Int} : (0 ≤ firstB (outB lo hi) xs) = ¬ AllIn lo hi xs := by
  rw [firstB_iff]
  unfold AllIn outB
  simp only [decide_eq_true_eq, Classical.not_forall, eq_iff_iff]
  constructor
  · rintro ⟨n, h1, h2⟩; exact ⟨n, h1, by omega⟩
  · rintro ⟨n, h1, h2⟩; exact ⟨n, h1, by omega⟩
theorem allIn_rd {lo hi : Int} {xs : List Int} : AllIn lo hi xs ↔ ∀ j : Nat, j < xs.length → lo ≤ rd xs j ∧ rd xs j ≤ hi := by
  unfold AllIn
  constructor
  · intro h j hj; rw [rd_lt xs j hj]; exact h _ (List.getElem_mem hj)
  · intro h n hn
    obtain ⟨j, hj, rfl⟩ := List.mem_iff_getElem.1 hn
    have := h j hj
    rwa [rd_lt xs j hj] at this

def fs64w : FS := { fs74w with res := fun a _ => .bool (decide (¬ AllIn a.lo a.hi a.xs)) }
theorem ok64w : FSOk Try.prog 64 fs64w := by
  refine ⟨⟨_, Try.func64, by kernel_rfl, by kernel_rfl⟩, fun a => ⟨by simp [fs64w, fs74w, push_cast, noMine, argOwn, Chunk.frArg], by simp [fs64w, fs74w, push_cast, outOk, Chunk.ext], fun x => .inl (by simp [fs64w, fs74w, push_cast, frNew, frOut, Chunk.fr])⟩, fun a hp => ?_⟩
  obtain ⟨L, xs, L1, L2, lo, hi⟩ := a
  change xs.length ≤ 140737488355328 at hp
  change Tri Try.prog 64 [.sl 0 L 1 0 xs.length, .fn 78 [.ptr 1 L1 0 0 0, .ptr 2 L2 0 0 0]] [some (.ro, L, .ints .i64 xs), some (.ro, L1, .cells [.int .i64 lo]), some (.ro, L2, .cells [.int .i64 hi])] (postF fs64w ⟨L, xs, L1, L2, lo, hi⟩)
  refine tri_evS (hyp (l := [(74, ent74w)]) (lp := []) ⟨e74w, trivial⟩ trivial) Try.func64 comp64 (rs := [.tmp 4]) (by rfl) Try.ntmps64 14 ?_
  simp -implicitDefEqProofs only [push_cast, false_implies, reduceCtorEq, Classical.not_not, Nat.reduceAdd, Nat.reduceSub, Nat.reduceMul, Nat.reduceLeDiff, Nat.reduceLT, Nat.reduceEqDiff, Nat.reduceBEq, Nat.reduceBNe, Int.reduceNeg, Int.reduceToNat, Bool.or_false, Bool.false_or, Bool.or_true, Bool.true_or, BEq.rfl, Bool.not_eq_true, Bool.not_eq_false, decide_eq_true_eq, not_true_eq_false, not_false_eq_true, ite_true, ite_false, List.append_nil, and_assoc, Nat.mul_zero, Nat.zero_mul, ir64, fs74w]
  exact ⟨hp, postF.mk' (fun _ => default) [some 0, some 1, some 2] (by simp -implicitDefEqProofs only [push_cast, false_implies, reduceCtorEq, Classical.not_not, Nat.reduceAdd, Nat.reduceSub, Nat.reduceMul, Nat.reduceLeDiff, Nat.reduceLT, Nat.reduceEqDiff, Nat.reduceBEq, Nat.reduceBNe, Int.reduceNeg, Int.reduceToNat, Bool.or_false, Bool.false_or, Bool.or_true, Bool.true_or, BEq.rfl, Bool.not_eq_true, Bool.not_eq_false, decide_eq_true_eq, not_true_eq_false, not_false_eq_true, ite_true, ite_false, List.append_nil, and_assoc, Nat.mul_zero, Nat.zero_mul, fs64w, fs74w, allIn_iff])⟩
def ent64w : Entry := spOf fs64w inv74w
theorem e64w : EntryOk Try.prog 64 ent64w := entry_of ok64w inv74w
@[push_cast] theorem ent64w_app (us : List SV) (look : Look) (x : Nat → Xf.Loc) (k : Nat) : ent64w us look x k = spOf fs64w inv74w us look x k := rfl

/-! Planes. -/
def Pl.In (p : Pl) (lo hi : Int) : Prop := SidesOk p.w p.h ∧ p.xs.length = p.w * p.h ∧ AllIn lo hi p.xs
instance (p : Pl) (lo hi : Int) : Decidable (p.In lo hi) := by unfold Pl.In; infer_instance
structure PlA where
  p : Pl
  L : Xf.Loc
structure PlW where
  a : PlA
  lo : Int
  hi : Int
def getP (look : Look) : SV → Option (PlA × List Nat)
  | .agg [.int .i64 w, .int .i64 h, .sl c _ 1 0 _] => match rowI (lkZ look (.ints .i64 []) c) with
    | some (L, .i64, xs) => some (⟨⟨w, h, xs⟩, L⟩, [c])
    | _ => none
  | _ => none
attribute [push_cast] getP
def fs73 : FS where
  A := PlW
  args := fun a => [plV a.a.p a.a.L 0, .int .i64 a.lo, .int .i64 a.hi]
  mem := fun a => [some (.ro, a.a.L, .ints .i64 a.a.p.xs)]
  pre := fun a => a.a.p.xs.length ≤ 140737488355328
  res := fun a _ => .bool (decide (a.a.p.In a.lo a.hi))
  out := fun _ _ => []
  new := fun _ _ => []
def inv73 : List SV → Look → Option (PlW × List Nat)
  | [v, .int .i64 lo, .int .i64 hi], look => match getP look v with
    | some (a, g) => some (⟨a, lo, hi⟩, g)
    | _ => none
  | _, _ => none
attribute [push_cast] inv73
theorem ok73 : FSOk Try.prog 73 fs73 := by
  refine ⟨⟨_, Try.func73, by kernel_rfl, by kernel_rfl⟩, fun a => ⟨by simp [fs73, push_cast, noMine, argOwn, Chunk.frArg], by simp [fs73, push_cast, outOk, Chunk.ext], fun x => .inl (by simp [fs73, push_cast, frNew, frOut, Chunk.fr])⟩, fun a hp => ?_⟩
  obtain ⟨⟨⟨w, h, xs⟩, L⟩, lo, hi⟩ := a
  change xs.length ≤ 140737488355328 at hp
  change Tri Try.prog 73 [plV ⟨w, h, xs⟩ L 0, .int .i64 lo, .int .i64 hi] [some (.ro, L, .ints .i64 xs)] (postF fs73 ⟨⟨⟨w, h, xs⟩, L⟩, lo, hi⟩)
  refine tri_evS (hyp (l := [(64, ent64w)]) (lp := [(77, sides4F)]) ⟨e64w, trivial⟩ ⟨p77, trivial⟩) Try.func73 comp73 (rs := [.tmp 6]) (by rfl) Try.ntmps73 17 ?_
  simp -implicitDefEqProofs only [push_cast, false_implies, reduceCtorEq, Classical.not_not, Nat.reduceAdd, Nat.reduceSub, Nat.reduceMul, Nat.reduceLeDiff, Nat.reduceLT, Nat.reduceEqDiff, Nat.reduceBEq, Nat.reduceBNe, Int.reduceNeg, Int.reduceToNat, Bool.or_false, Bool.false_or, Bool.or_true, Bool.true_or, BEq.rfl, Bool.not_eq_true, Bool.not_eq_false, decide_eq_true_eq, not_true_eq_false, not_false_eq_true, ite_true, ite_false, List.append_nil, and_assoc, Nat.mul_zero, Nat.zero_mul, ir73, fs64w, fs74w, hp]
  intro X
  refine ⟨fun H => ?_, fun H => ⟨H.1, H.2.1, H.2.2.1, H.2.2.2, H⟩, fun hn => ?_, fun hy => ?_⟩
  · have := mul_bd H.1 H.2.2.1 H.2.1 H.2.2.2
    omega
  · have e : ¬ (⟨w, h, xs⟩ : Pl).In lo hi := fun H => by
      obtain ⟨⟨a1, a2, a3, a4, a5⟩, b, _⟩ := H
      simp only at a1 a2 a3 a4 a5 b
      omega
    refine postF.mk' (fun _ => default) [some 0] ?_
    simp -implicitDefEqProofs only [push_cast, false_implies, reduceCtorEq, Classical.not_not, Nat.reduceAdd, Nat.reduceSub, Nat.reduceMul, Nat.reduceLeDiff, Nat.reduceLT, Nat.reduceEqDiff, Nat.reduceBEq, Nat.reduceBNe, Int.reduceNeg, Int.reduceToNat, Bool.or_false, Bool.false_or, Bool.or_true, Bool.true_or, BEq.rfl, Bool.not_eq_true, Bool.not_eq_false, decide_eq_true_eq, not_true_eq_false, not_false_eq_true, ite_true, ite_false, List.append_nil, and_assoc, Nat.mul_zero, Nat.zero_mul, fs73, e, decide_false]
  · have e : (AllIn lo hi xs) ↔ (⟨w, h, xs⟩ : Pl).In lo hi := by
      unfold Pl.In SidesOk
      simp only
      constructor
      · intro H; refine ⟨⟨by omega, by omega, by omega, by omega, by omega⟩, by omega, H⟩
      · intro H; exact H.2.2
    refine postF.mk' (fun _ => default) [some 0] ?_
    simp -implicitDefEqProofs only [push_cast, false_implies, reduceCtorEq, Classical.not_not, Nat.reduceAdd, Nat.reduceSub, Nat.reduceMul, Nat.reduceLeDiff, Nat.reduceLT, Nat.reduceEqDiff, Nat.reduceBEq, Nat.reduceBNe, Int.reduceNeg, Int.reduceToNat, Bool.or_false, Bool.false_or, Bool.or_true, Bool.true_or, BEq.rfl, Bool.not_eq_true, Bool.not_eq_false, decide_eq_true_eq, not_true_eq_false, not_false_eq_true, ite_true, ite_false, List.append_nil, and_assoc, Nat.mul_zero, Nat.zero_mul, fs73, e]
def ent73 : Entry := spOf fs73 inv73
theorem e73 : EntryOk Try.prog 73 ent73 := entry_of ok73 inv73
@[push_cast] theorem ent73_app (us : List SV) (look : Look) (x : Nat → Xf.Loc) (k : Nat) : ent73 us look x k = spOf fs73 inv73 us look x k := rfl
def Pl.Ok (p : Pl) : Prop := p.In (-16777216) 16777216
def Pl.Gr (p : Pl) : Prop := p.In 0 255
instance (p : Pl) : Decidable p.Ok := by unfold Pl.Ok; infer_instance
instance (p : Pl) : Decidable p.Gr := by unfold Pl.Gr; infer_instance
def fs60 : FS where
  A := PlA
  args := fun a => [plV a.p a.L 0]
  mem := fun a => [some (.ro, a.L, .ints .i64 a.p.xs)]
  pre := fun a => a.p.xs.length ≤ 140737488355328
  res := fun a _ => .bool (decide a.p.Ok)
  out := fun _ _ => []
  new := fun _ _ => []
def inv60 : List SV → Look → Option (PlA × List Nat)
  | [v], look => getP look v
  | _, _ => none
attribute [push_cast] inv60
theorem ok60 : FSOk Try.prog 60 fs60 := by
  refine ⟨⟨_, Try.func60, by kernel_rfl, by kernel_rfl⟩, fun a => ⟨by simp [fs60, push_cast, noMine, argOwn, Chunk.frArg], by simp [fs60, push_cast, outOk, Chunk.ext], fun x => .inl (by simp [fs60, push_cast, frNew, frOut, Chunk.fr])⟩, fun a hp => ?_⟩
  obtain ⟨⟨w, h, xs⟩, L⟩ := a
  change xs.length ≤ 140737488355328 at hp
  change Tri Try.prog 60 [plV ⟨w, h, xs⟩ L 0] [some (.ro, L, .ints .i64 xs)] (postF fs60 ⟨⟨w, h, xs⟩, L⟩)
  refine tri_evS (hyp (l := [(73, ent73)]) (lp := []) ⟨e73, trivial⟩ trivial) Try.func60 comp60 (rs := [.tmp 2]) (by rfl) Try.ntmps60 15 ?_
  simp -implicitDefEqProofs only [push_cast, false_implies, reduceCtorEq, Classical.not_not, Nat.reduceAdd, Nat.reduceSub, Nat.reduceMul, Nat.reduceLeDiff, Nat.reduceLT, Nat.reduceEqDiff, Nat.reduceBEq, Nat.reduceBNe, Int.reduceNeg, Int.reduceToNat, Bool.or_false, Bool.false_or, Bool.or_true, Bool.true_or, BEq.rfl, Bool.not_eq_true, Bool.not_eq_false, decide_eq_true_eq, not_true_eq_false, not_false_eq_true, ite_true, ite_false, List.append_nil, and_assoc, Nat.mul_zero, Nat.zero_mul, ir60, fs73, hp]
  refine fun X => postF.mk' (fun _ => default) [some 0] ?_
  simp -implicitDefEqProofs only [push_cast, false_implies, reduceCtorEq, Classical.not_not, Nat.reduceAdd, Nat.reduceSub, Nat.reduceMul, Nat.reduceLeDiff, Nat.reduceLT, Nat.reduceEqDiff, Nat.reduceBEq, Nat.reduceBNe, Int.reduceNeg, Int.reduceToNat, Bool.or_false, Bool.false_or, Bool.or_true, Bool.true_or, BEq.rfl, Bool.not_eq_true, Bool.not_eq_false, decide_eq_true_eq, not_true_eq_false, not_false_eq_true, ite_true, ite_false, List.append_nil, and_assoc, Nat.mul_zero, Nat.zero_mul, fs60, Pl.Ok]
def ent60 : Entry := spOf fs60 inv60
theorem e60 : EntryOk Try.prog 60 ent60 := entry_of ok60 inv60
@[push_cast] theorem ent60_app (us : List SV) (look : Look) (x : Nat → Xf.Loc) (k : Nat) : ent60 us look x k = spOf fs60 inv60 us look x k := rfl
/-! The same planes. -/
def Pl.Eq (a b : Pl) : Prop := a.w = b.w ∧ a.h = b.h ∧ a.xs = b.xs
instance (a b : Pl) : Decidable (a.Eq b) := by unfold Pl.Eq; infer_instance
theorem Pl.Eq.refl (a : Pl) : a.Eq a := ⟨rfl, rfl, rfl⟩
structure Pl2 where
  a : PlA
  b : PlA
end Go.Proofs.Ytefggfjblhniaaa
