import Derived.Test.YtnmbimhcfioeiaaVf
set_option linter.unusedVariables false
set_option linter.unusedSimpArgs false
/-! Sane, Large; the law ColourNew. -/
namespace Go.Proofs.Ytnmbimhcfioeiaa
open Xf

def im1 : Im := ⟨1, 1, [255], [0], [0]⟩
theorem im1_ok : im1.Ok := by
  refine ⟨⟨by decide, by decide, by decide, by decide, by decide⟩, ⟨rfl, ?_⟩, ⟨rfl, ?_⟩, ⟨rfl, ?_⟩⟩ <;> intro n hn <;> simp [im1] at hn <;> subst hn <;> exact ⟨by decide, by decide⟩
theorem im1_Y : turn tY im1 = ⟨1, 1, [63]⟩ := by unfold turn; rw [if_pos im1_ok]; rfl
theorem im1_U : turn tU im1 = ⟨1, 1, [0]⟩ := by unfold turn; rw [if_pos im1_ok]; rfl
theorem im1_V : turn tV im1 = ⟨1, 1, [255]⟩ := by unfold turn; rw [if_pos im1_ok]; rfl
def fs12 : FS where
  A := Unit
  args := fun _ => []
  mem := fun _ => []
  pre := fun _ => True
  res := fun _ _ => .bool true
  out := fun _ _ => []
  new := fun _ _ => []
def inv12 : List SV → Look → Option (Unit × List Nat)
  | [], _ => some ((), [])
  | _, _ => none
attribute [push_cast] inv12
theorem ok12 : FSOk Try.prog 12 fs12 := by
  refine ⟨⟨_, Try.func12, by kernel_rfl, by kernel_rfl⟩, fun a => ⟨by simp [fs12, push_cast, noMine, argOwn, Chunk.frArg], by simp [fs12, push_cast, outOk, Chunk.ext], fun x => .inl (by simp [fs12, push_cast, frNew, frOut, Chunk.fr])⟩, fun a hp => ?_⟩
  change Tri Try.prog 12 [] [] (postF fs12 a)
  refine tri_evS (hyp (l := [(20, ent20)]) (lp := []) ⟨e20, trivial⟩ trivial) Try.func12 comp12 (rs := [.tmp 0]) (by rfl) Try.ntmps12 22 ?_
  have f1 : (⟨1, 1, [255], [0], [0]⟩ : Im) = im1 := rfl
  have f2 : im1.small := ⟨by decide, by decide, by decide⟩
  simp -implicitDefEqProofs only [push_cast, reduceCtorEq, Classical.not_not, Nat.reduceAdd, Nat.reduceSub, Nat.reduceMul, Nat.reduceLeDiff, Nat.reduceLT, Nat.reduceEqDiff, Nat.reduceBEq, Nat.reduceBNe, Int.reduceNeg, Int.reduceToNat, Bool.or_false, Bool.false_or, Bool.or_true, Bool.true_or, BEq.rfl, Bool.not_eq_true, Bool.not_eq_false, decide_eq_true_eq, not_true_eq_false, not_false_eq_true, ite_true, ite_false, List.append_nil, and_assoc, Nat.mul_zero, Nat.zero_mul, ir12, fs20, f1, f2, im1_Y, im1_U, im1_V, im1_ok, lx, if_true]
  intro X
  refine ⟨rfl, rfl, rfl, rfl, rfl, rfl, rfl, rfl, by decide, by decide, by decide, by decide, fun h => ⟨h, by decide, by decide⟩, fun h => ⟨h.1, h.2, by decide, by decide⟩, ?_⟩
  refine postF.mk' (fun _ => default) [] ?_
  have r1 : rd [63] 0 = 63 := rfl
  have r2 : rd [0] 0 = 0 := rfl
  have r3 : rd [255] 0 = 255 := rfl
  simp -implicitDefEqProofs only [push_cast, reduceCtorEq, Classical.not_not, Nat.reduceAdd, Nat.reduceSub, Nat.reduceMul, Nat.reduceLeDiff, Nat.reduceLT, Nat.reduceEqDiff, Nat.reduceBEq, Nat.reduceBNe, Int.reduceNeg, Int.reduceToNat, Bool.or_false, Bool.false_or, Bool.or_true, Bool.true_or, BEq.rfl, Bool.not_eq_true, Bool.not_eq_false, decide_eq_true_eq, not_true_eq_false, not_false_eq_true, ite_true, ite_false, List.append_nil, and_assoc, Nat.mul_zero, Nat.zero_mul, fs12, r1, r2, r3, decide_true]
def ent12 : Entry := spOf fs12 inv12
theorem e12 : EntryOk Try.prog 12 ent12 := entry_of ok12 inv12
@[push_cast] theorem ent12_app (us : List SV) (look : Look) (x : Nat → Xf.Loc) (k : Nat) : ent12 us look x k = spOf fs12 inv12 us look x k := rfl

def fs11 : FS := { fs15 with res := fun a _ => .bool (decide (9000 < (a.i.R.length : Int) + a.i.G.length + a.i.B.length)) }
theorem ok11 : FSOk Try.prog 11 fs11 := by
  refine ⟨⟨_, Try.func11, by kernel_rfl, by kernel_rfl⟩, fun a => ⟨by simp [fs11, fs15, imM, push_cast, noMine, argOwn, Chunk.frArg], by simp [fs11, fs15, imM, push_cast, outOk, Chunk.ext], fun x => .inl (by simp [fs11, fs15, imM, push_cast, frNew, frOut, Chunk.fr])⟩, fun a hp => ?_⟩
  obtain ⟨⟨w, h, R, G, B⟩, L1, L2, L3⟩ := a
  obtain ⟨h1, h2, h3⟩ : R.length ≤ 140737488355328 ∧ G.length ≤ 140737488355328 ∧ B.length ≤ 140737488355328 := hp
  change Tri Try.prog 11 [imV ⟨w, h, R, G, B⟩ L1 L2 L3 0] (imM ⟨w, h, R, G, B⟩ L1 L2 L3) (postF fs11 ⟨⟨w, h, R, G, B⟩, L1, L2, L3⟩)
  refine tri_evS (hyp (l := []) (lp := []) trivial trivial) Try.func11 comp11 (rs := [.tmp 2]) (by rfl) Try.ntmps11 12 ?_
  simp -implicitDefEqProofs only [push_cast, reduceCtorEq, Classical.not_not, Nat.reduceAdd, Nat.reduceSub, Nat.reduceMul, Nat.reduceLeDiff, Nat.reduceLT, Nat.reduceEqDiff, Nat.reduceBEq, Nat.reduceBNe, Int.reduceNeg, Int.reduceToNat, Bool.or_false, Bool.false_or, Bool.or_true, Bool.true_or, BEq.rfl, Bool.not_eq_true, Bool.not_eq_false, decide_eq_true_eq, not_true_eq_false, not_false_eq_true, ite_true, ite_false, List.append_nil, and_assoc, Nat.mul_zero, Nat.zero_mul, ir11]
  intro X
  repeat (refine ⟨by omega, ?_⟩)
  refine postF.mk' (fun _ => default) [some 0, some 1, some 2] ?_
  simp -implicitDefEqProofs only [push_cast, reduceCtorEq, Classical.not_not, Nat.reduceAdd, Nat.reduceSub, Nat.reduceMul, Nat.reduceLeDiff, Nat.reduceLT, Nat.reduceEqDiff, Nat.reduceBEq, Nat.reduceBNe, Int.reduceNeg, Int.reduceToNat, Bool.or_false, Bool.false_or, Bool.or_true, Bool.true_or, BEq.rfl, Bool.not_eq_true, Bool.not_eq_false, decide_eq_true_eq, not_true_eq_false, not_false_eq_true, ite_true, ite_false, List.append_nil, and_assoc, Nat.mul_zero, Nat.zero_mul, fs11, fs15]
def ent11 : Entry := spOf fs11 inv15
theorem e11 : EntryOk Try.prog 11 ent11 := entry_of ok11 inv15
@[push_cast] theorem ent11_app (us : List SV) (look : Look) (x : Nat → Xf.Loc) (k : Nat) : ent11 us look x k = spOf fs11 inv15 us look x k := rfl

theorem newI_small (a : NewA) : (newI a).small := by
  unfold newI
  by_cases h : a.Ok
  · rw [if_pos h]
    have := h.1.bd
    refine ⟨?_, ?_, ?_⟩ <;> simp [cst] <;> omega
  · rw [if_neg h]; exact ⟨by decide, by decide, by decide⟩
theorem tri3 (i : Im) (hi : i.small) (a : NewA) (L1 L2 L3 : Xf.Loc) : Tri Try.prog 3 [.agg [.int .i64 i.w, .int .i64 i.h, .sl 0 L1 1 0 i.R.length, .sl 1 L2 1 0 i.G.length, .sl 2 L3 1 0 i.B.length, .int .i64 a.w, .int .i64 a.h, .int .i64 a.r, .int .i64 a.g, .int .i64 a.b]]
    (imM i L1 L2 L3) (fun v _ => v = .bool true) := by
  obtain ⟨w, h, R, G, B⟩ := i
  obtain ⟨W, H, r, g, b⟩ := a
  refine tri_evS (hyp (l := [(11, ent11), (12, ent12), (13, ent13), (14, ent14), (15, ent15), (16, ent16), (17, ent17)]) (lp := []) ⟨e11, e12, e13, e14, e15, e16, e17, trivial⟩ trivial) Try.func3 comp3 (rs := [.tmp 2]) (by rfl) Try.ntmps3 48 ?_
  have hs := newI_small ⟨W, H, r, g, b⟩
  have hr := Im.Eq.refl (newI ⟨W, H, r, g, b⟩)
  simp -implicitDefEqProofs only [push_cast, reduceCtorEq, Classical.not_not, Nat.reduceAdd, Nat.reduceSub, Nat.reduceMul, Nat.reduceLeDiff, Nat.reduceLT, Nat.reduceEqDiff, Nat.reduceBEq, Nat.reduceBNe, Int.reduceNeg, Int.reduceToNat, Bool.or_false, Bool.false_or, Bool.or_true, Bool.true_or, BEq.rfl, Bool.not_eq_true, Bool.not_eq_false, decide_eq_true_eq, not_true_eq_false, not_false_eq_true, ite_true, ite_false, List.append_nil, and_assoc, Nat.mul_zero, Nat.zero_mul, ir3, fs11, fs12, fs13, fs15, fs17, hi, hs, hr]
end Go.Proofs.Ytnmbimhcfioeiaa
