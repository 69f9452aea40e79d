import Derived.Test.YtbndfifoakmdnaaPLeast0
set_option linter.unusedVariables false
set_option linter.unusedSimpArgs false
set_option maxRecDepth 1000
namespace Go.Proofs.Ytbndfifoakmdnaa
open Xf
def ir16 : IR :=
  .seq (.reg false [⟨some 3, none, ⟨[], []⟩, .box 10 (.t 0)⟩,
    ⟨some 4, none, ⟨[], []⟩, .box 11 (.t 1)⟩,
    ⟨some 5, none, ⟨[], []⟩, .box 12 (.t 2)⟩,
    ⟨some 6, none, ⟨[], []⟩, .mov (.k (.int .i64 0))⟩,
    ⟨some 7, none, ⟨[], []⟩, .mov (.k (.int .i64 0))⟩] [0, 1, 2, 6, 7] []) (.seq (.block 0 (.seq (.reg false [⟨some 9, none, ⟨[], []⟩, .ld false (some 3) 0 0 (.t 3)⟩,
    ⟨some 10, none, ⟨[], []⟩, .call (some 4) 13 14 [.t 9]⟩,
    ⟨some 11, none, ⟨[], []⟩, .not (.t 10)⟩,
    ⟨some 8, none, ⟨[], []⟩, .mov (.t 11)⟩] [9, 10, 11] []) (.cond (.t 8) (.seq (.reg false [⟨some 6, none, ⟨[], []⟩, .mov (.k (.int .i64 0))⟩,
    ⟨some 7, none, ⟨[], []⟩, .mov (.k (.int .i64 70))⟩] [3, 4, 5, 8] []) (.ret)) (.seq (.reg false [⟨some 13, none, ⟨[], []⟩, .ld false (some 4) 0 0 (.t 4)⟩,
    ⟨some 14, none, ⟨[], []⟩, .call (some 4) 17 29 [.t 13]⟩,
    ⟨some 15, none, ⟨[], []⟩, .not (.t 14)⟩,
    ⟨some 16, none, ⟨[], []⟩, .mov (.t 15)⟩,
    ⟨some 17, some (16, false), ⟨[], []⟩, .ld false (some 5) 0 0 (.t 5)⟩,
    ⟨some 18, some (16, false), ⟨[], []⟩, .fld (.t 3) 0⟩,
    ⟨some 19, some (16, false), ⟨[], []⟩, .ld false none 0 0 (.t 18)⟩,
    ⟨some 20, some (16, false), ⟨[], []⟩, .fld (.t 3) 1⟩,
    ⟨some 21, some (16, false), ⟨[], []⟩, .ld false none 0 0 (.t 20)⟩,
    ⟨some 22, some (16, false), ⟨[], []⟩, .call (some 4) 21 33 [.t 17, .t 19, .t 21]⟩,
    ⟨some 23, some (16, false), ⟨[], []⟩, .not (.t 22)⟩,
    ⟨some 24, none, ⟨[], []⟩, .pick (.t 16) (.k (.bool true)) (.t 23)⟩,
    ⟨some 12, none, ⟨[], []⟩, .mov (.t 24)⟩] [8, 13, 14, 15, 16, 17, 18, 19, 20, 21, 22, 23, 24] []) (.cond (.t 12) (.seq (.reg false [⟨some 6, none, ⟨[], []⟩, .mov (.k (.int .i64 0))⟩,
    ⟨some 7, none, ⟨[], []⟩, .mov (.k (.int .i64 2))⟩] [3, 4, 5, 12] []) (.ret)) (.skip)))))) (.seq (.reg true [⟨some 25, none, ⟨[], []⟩, .fld (.t 5) 1⟩,
    ⟨some 26, none, ⟨[], []⟩, .ld false none 0 0 (.t 25)⟩,
    ⟨some 27, none, ⟨[], []⟩, .fld (.t 5) 2⟩,
    ⟨some 28, none, ⟨[], []⟩, .ld false none 0 0 (.t 27)⟩,
    ⟨some 29, none, ⟨[], []⟩, .fld (.t 5) 3⟩,
    ⟨some 30, none, ⟨[], []⟩, .ld false none 0 0 (.t 29)⟩,
    ⟨some 31, none, ⟨[], []⟩, .fld (.t 5) 4⟩,
    ⟨some 32, none, ⟨[], []⟩, .ld false none 0 0 (.t 31)⟩,
    ⟨some 33, none, ⟨[], []⟩, .build [.int .i64 0, .int .i64 0, .int .i64 0, .int .i64 0] [(0, 1, .t 26), (1, 1, .t 28), (2, 1, .t 30), (3, 1, .t 32)]⟩,
    ⟨some 34, none, ⟨[], []⟩, .ld false (some 3) 0 0 (.t 3)⟩,
    ⟨some 35, none, ⟨[], []⟩, .ld false (some 4) 0 0 (.t 4)⟩,
    ⟨some 36, none, ⟨[], []⟩, .call (some 4) 25 34 [.t 33, .t 34, .t 35]⟩,
    ⟨some 37, none, ⟨[], []⟩, .fld (.t 5) 0⟩,
    ⟨some 38, none, ⟨[25, 26, 27, 28], []⟩, .ld false none 0 0 (.t 37)⟩,
    ⟨some 39, none, ⟨[], []⟩, .idxV (.t 36) (.t 38) 3⟩,
    ⟨some 6, none, ⟨[], []⟩, .mov (.t 39)⟩,
    ⟨some 7, none, ⟨[], []⟩, .mov (.k (.int .i64 0))⟩] [3, 4, 5, 12, 25, 26, 27, 28, 29, 30, 31, 32, 33, 34, 35, 36, 37, 38, 39] []) (.ret)))
set_option maxRecDepth 4000 in
theorem comp16 : (Try.f16.body.bind fun c => compC tab isP chkAll ir16 c) = some ir16 := by kernel_rfl
/-- A part that lies within a plane of W by H. -/
def Pt.In (x : Pt) (W H : Int) : Prop := 0 ≤ x.kind ∧ x.kind ≤ 2 ∧ 0 ≤ x.x ∧ 0 ≤ x.y ∧ 1 ≤ x.w ∧ 1 ≤ x.h ∧ x.w ≤ W ∧ x.h ≤ H ∧ x.x ≤ W - x.w ∧ x.y ≤ H - x.h
instance (x : Pt) (W H : Int) : Decidable (x.In W H) := by unfold Pt.In; infer_instance
def ptV (x : Pt) : SV := .agg [.int .i64 x.kind, .int .i64 x.x, .int .i64 x.y, .int .i64 x.w, .int .i64 x.h]
structure IpA where
  x : Pt
  w : Int
  h : Int
def fs33 : FS where
  A := IpA
  args := fun a => [ptV a.x, .int .i64 a.w, .int .i64 a.h]
  mem := fun _ => []
  pre := fun a => 0 ≤ a.w ∧ a.w ≤ 200 ∧ 0 ≤ a.h ∧ a.h ≤ 200
  res := fun a _ => .bool (decide (a.x.In a.w a.h))
  out := fun _ _ => []
  new := fun _ _ => []
def inv33 : List SV → Look → Option (IpA × List Nat)
  | [.agg [.int .i64 k, .int .i64 x, .int .i64 y, .int .i64 w, .int .i64 h], .int .i64 W, .int .i64 H], look => some (⟨⟨k, x, y, w, h⟩, W, H⟩, [])
  | _, _ => none
attribute [push_cast] inv33
theorem ok33 : FSOk Try.prog 33 fs33 := by
  refine ⟨⟨_, Try.func33, by kernel_rfl, by kernel_rfl⟩, fun a => ⟨by simp [fs33, push_cast, noMine, argOwn, Chunk.frArg], by simp [fs33, push_cast, outOk, Chunk.ext], fun x => .inl (by simp [fs33, push_cast, frNew, frOut, Chunk.fr])⟩, fun a hp => ?_⟩
  obtain ⟨⟨k, x, y, w, h⟩, W, H⟩ := a
  obtain ⟨h1, h2, h3, h4⟩ : 0 ≤ W ∧ W ≤ 200 ∧ 0 ≤ H ∧ H ≤ 200 := hp
  change Tri Try.prog 33 [.agg [.int .i64 k, .int .i64 x, .int .i64 y, .int .i64 w, .int .i64 h], .int .i64 W, .int .i64 H] [] (postF fs33 ⟨⟨k, x, y, w, h⟩, W, H⟩)
  refine tri_evS (hyp (l := []) (lp := []) trivial trivial) Try.func33 comp33 (rs := [.tmp 6]) (by rfl) Try.ntmps33 11 ?_
  simp -implicitDefEqProofs only [push_cast, false_implies, reduceCtorEq, Classical.not_not, Nat.reduceAdd, Nat.reduceSub, Nat.reduceMul, Nat.reduceLeDiff, Nat.reduceLT, Nat.reduceEqDiff, Nat.reduceBEq, Nat.reduceBNe, Int.reduceNeg, Int.reduceToNat, Bool.or_false, Bool.false_or, Bool.or_true, Bool.true_or, BEq.rfl, Bool.not_eq_true, Bool.not_eq_false, decide_eq_true_eq, not_true_eq_false, not_false_eq_true, ite_true, ite_false, List.append_nil, and_assoc, Nat.mul_zero, Nat.zero_mul, ir33]
  refine fun X => ?_
  repeat (refine And.intro (by first | omega | trivial | (intros; omega)) ?_)
  refine postF.mk' (fun _ => default) [] ?_
  simp -implicitDefEqProofs only [push_cast, false_implies, reduceCtorEq, Classical.not_not, Nat.reduceAdd, Nat.reduceSub, Nat.reduceMul, Nat.reduceLeDiff, Nat.reduceLT, Nat.reduceEqDiff, Nat.reduceBEq, Nat.reduceBNe, Int.reduceNeg, Int.reduceToNat, Bool.or_false, Bool.false_or, Bool.or_true, Bool.true_or, BEq.rfl, Bool.not_eq_true, Bool.not_eq_false, decide_eq_true_eq, not_true_eq_false, not_false_eq_true, ite_true, ite_false, List.append_nil, and_assoc, Nat.mul_zero, Nat.zero_mul, fs33, Pt.In]
def ent33 : Entry := spOf fs33 inv33
theorem e33 : EntryOk Try.prog 33 ent33 := entry_of ok33 inv33
@[push_cast] theorem ent33_app (us : List SV) (look : Look) (x : Nat → Xf.Loc) (k : Nat) : ent33 us look x k = spOf fs33 inv33 us look x k := rfl
/-- The energy of a part. -/
def paN (p : Pl) (e : En) (x : Pt) : Int := if p.Gr ∧ e.Ok ∧ x.In p.w p.h then (rpOf p.pn x.rt).en e x.kind.toNat else 0
def paE (p : Pl) (e : En) (x : Pt) : Int := if p.Gr then if e.Ok ∧ x.In p.w p.h then 0 else 2 else 70
structure PeA where
  a : PlA
  e : En
  x : Pt
def fs16 : FS where
  A := PeA
  args := fun a => [plV a.a.p a.a.L 0, enV a.e, ptV a.x]
  mem := fun a => [some (.ro, a.a.L, .ints .i64 a.a.p.xs)]
  pre := fun a => a.a.p.xs.length ≤ 140737488355328
  res := fun a x => .tup [.int .i64 (paN a.a.p a.e a.x), .int .i64 (paE a.a.p a.e a.x)]
  out := fun _ _ => []
  new := fun _ _ => []
def inv16 : List SV → Look → Option (PeA × List Nat)
  | [v, .agg [.int .i64 c, .int .i64 q, .int .i64 t, .int .i64 i], .agg [.int .i64 k, .int .i64 x, .int .i64 y, .int .i64 w, .int .i64 h]], look => match getP look v with
    | some (a, g) => some (⟨a, ⟨c, q, t, i⟩, ⟨k, x, y, w, h⟩⟩, g)
    | _ => none
  | _, _ => none
attribute [push_cast] inv16
theorem ok16 : FSOk Try.prog 16 fs16 := by
  refine ⟨⟨_, Try.func16, by kernel_rfl, by kernel_rfl⟩, fun a => ⟨by simp [fs16, push_cast, noMine, argOwn, Chunk.frArg], by simp [fs16, push_cast, outOk, Chunk.ext], fun x => .inl (by simp [fs16, push_cast, frNew, frOut, Chunk.fr])⟩, fun a hp => ?_⟩
  obtain ⟨⟨p, L⟩, e, x⟩ := a
  change p.xs.length ≤ 140737488355328 at hp
  obtain ⟨w, h, xs⟩ := p
  obtain ⟨c, q, t, i⟩ := e
  obtain ⟨kd, qx, qy, qw, qh⟩ := x
  change xs.length ≤ 140737488355328 at hp
  change Tri Try.prog 16 [plV ⟨w, h, xs⟩ L 0, .agg [.int .i64 c, .int .i64 q, .int .i64 t, .int .i64 i], .agg [.int .i64 kd, .int .i64 qx, .int .i64 qy, .int .i64 qw, .int .i64 qh]] [some (.ro, L, .ints .i64 xs)] (postF fs16 ⟨⟨⟨w, h, xs⟩, L⟩, ⟨c, q, t, i⟩, ⟨kd, qx, qy, qw, qh⟩⟩)
  refine tri_evS (hyp (l := [(14, ent14), (29, ent29), (33, ent33), (34, ent34)]) (lp := []) ⟨e14, e29, e33, e34, trivial⟩ trivial) Try.func16 comp16 (rs := [.tmp 6, .tmp 7]) (by rfl) Try.ntmps16 29 ?_
  by_cases hG : (⟨w, h, xs⟩ : Pl).Gr
  case neg =>
    have e1 : paN ⟨w, h, xs⟩ ⟨c, q, t, i⟩ ⟨kd, qx, qy, qw, qh⟩ = 0 := by unfold paN; rw [if_neg fun H => hG H.1]
    have e2 : paE ⟨w, h, xs⟩ ⟨c, q, t, i⟩ ⟨kd, qx, qy, qw, qh⟩ = 70 := by unfold paE; rw [if_neg hG]
    simp -implicitDefEqProofs only [push_cast, false_implies, reduceCtorEq, Classical.not_not, Nat.reduceAdd, Nat.reduceSub, Nat.reduceMul, Nat.reduceLeDiff, Nat.reduceLT, Nat.reduceEqDiff, Nat.reduceBEq, Nat.reduceBNe, Int.reduceNeg, Int.reduceToNat, Bool.or_false, Bool.false_or, Bool.or_true, Bool.true_or, BEq.rfl, Bool.not_eq_true, Bool.not_eq_false, decide_eq_true_eq, not_true_eq_false, not_false_eq_true, ite_true, ite_false, List.append_nil, and_assoc, Nat.mul_zero, Nat.zero_mul, ir16, fs14, fs12, plV, hG, hp]
    refine fun X => postF.mk' (fun _ => default) [some 0] ?_
    simp -implicitDefEqProofs only [push_cast, false_implies, reduceCtorEq, Classical.not_not, Nat.reduceAdd, Nat.reduceSub, Nat.reduceMul, Nat.reduceLeDiff, Nat.reduceLT, Nat.reduceEqDiff, Nat.reduceBEq, Nat.reduceBNe, Int.reduceNeg, Int.reduceToNat, Bool.or_false, Bool.false_or, Bool.or_true, Bool.true_or, BEq.rfl, Bool.not_eq_true, Bool.not_eq_false, decide_eq_true_eq, not_true_eq_false, not_false_eq_true, ite_true, ite_false, List.append_nil, and_assoc, Nat.mul_zero, Nat.zero_mul, fs16, e1, e2]
  have hsd : SidesOk w h := hG.1
  obtain ⟨s1, s2, s3, s4, s5⟩ := hsd
  by_cases hE : (⟨c, q, t, i⟩ : En).Ok
  case neg =>
    have e1 : paN ⟨w, h, xs⟩ ⟨c, q, t, i⟩ ⟨kd, qx, qy, qw, qh⟩ = 0 := by unfold paN; rw [if_neg fun H => hE H.2.1]
    have e2 : paE ⟨w, h, xs⟩ ⟨c, q, t, i⟩ ⟨kd, qx, qy, qw, qh⟩ = 2 := by unfold paE; rw [if_pos hG, if_neg fun H => hE H.1]
    simp -implicitDefEqProofs only [push_cast, false_implies, reduceCtorEq, Classical.not_not, Nat.reduceAdd, Nat.reduceSub, Nat.reduceMul, Nat.reduceLeDiff, Nat.reduceLT, Nat.reduceEqDiff, Nat.reduceBEq, Nat.reduceBNe, Int.reduceNeg, Int.reduceToNat, Bool.or_false, Bool.false_or, Bool.or_true, Bool.true_or, BEq.rfl, Bool.not_eq_true, Bool.not_eq_false, decide_eq_true_eq, not_true_eq_false, not_false_eq_true, ite_true, ite_false, List.append_nil, and_assoc, Nat.mul_zero, Nat.zero_mul, ir16, fs14, fs12, fs29, fs33, plV, enV, ptV, hG, hE, hp]
    refine fun X => postF.mk' (fun _ => default) [some 0] ?_
    simp -implicitDefEqProofs only [push_cast, false_implies, reduceCtorEq, Classical.not_not, Nat.reduceAdd, Nat.reduceSub, Nat.reduceMul, Nat.reduceLeDiff, Nat.reduceLT, Nat.reduceEqDiff, Nat.reduceBEq, Nat.reduceBNe, Int.reduceNeg, Int.reduceToNat, Bool.or_false, Bool.false_or, Bool.or_true, Bool.true_or, BEq.rfl, Bool.not_eq_true, Bool.not_eq_false, decide_eq_true_eq, not_true_eq_false, not_false_eq_true, ite_true, ite_false, List.append_nil, and_assoc, Nat.mul_zero, Nat.zero_mul, fs16, e1, e2]
  by_cases hI : (⟨kd, qx, qy, qw, qh⟩ : Pt).In w h
  case neg =>
    have e1 : paN ⟨w, h, xs⟩ ⟨c, q, t, i⟩ ⟨kd, qx, qy, qw, qh⟩ = 0 := by unfold paN; rw [if_neg fun H => hI H.2.2]
    have e2 : paE ⟨w, h, xs⟩ ⟨c, q, t, i⟩ ⟨kd, qx, qy, qw, qh⟩ = 2 := by unfold paE; rw [if_pos hG, if_neg fun H => hI H.2]
    simp -implicitDefEqProofs only [push_cast, false_implies, reduceCtorEq, Classical.not_not, Nat.reduceAdd, Nat.reduceSub, Nat.reduceMul, Nat.reduceLeDiff, Nat.reduceLT, Nat.reduceEqDiff, Nat.reduceBEq, Nat.reduceBNe, Int.reduceNeg, Int.reduceToNat, Bool.or_false, Bool.false_or, Bool.or_true, Bool.true_or, BEq.rfl, Bool.not_eq_true, Bool.not_eq_false, decide_eq_true_eq, not_true_eq_false, not_false_eq_true, ite_true, ite_false, List.append_nil, and_assoc, Nat.mul_zero, Nat.zero_mul, ir16, fs14, fs12, fs29, fs33, plV, enV, ptV, hG, hE, hI, hp]
    intro X
    repeat (refine And.intro (by first | omega | trivial | (intros; omega)) ?_)
    refine postF.mk' (fun _ => default) [some 0] ?_
    simp -implicitDefEqProofs only [push_cast, false_implies, reduceCtorEq, Classical.not_not, Nat.reduceAdd, Nat.reduceSub, Nat.reduceMul, Nat.reduceLeDiff, Nat.reduceLT, Nat.reduceEqDiff, Nat.reduceBEq, Nat.reduceBNe, Int.reduceNeg, Int.reduceToNat, Bool.or_false, Bool.false_or, Bool.or_true, Bool.true_or, BEq.rfl, Bool.not_eq_true, Bool.not_eq_false, decide_eq_true_eq, not_true_eq_false, not_false_eq_true, ite_true, ite_false, List.append_nil, and_assoc, Nat.mul_zero, Nat.zero_mul, fs16, e1, e2]
  have e1 : paN ⟨w, h, xs⟩ ⟨c, q, t, i⟩ ⟨kd, qx, qy, qw, qh⟩ = (rpOf (⟨w, h, xs⟩ : Pl).pn ⟨qx, qy, qw, qh⟩).en ⟨c, q, t, i⟩ kd.toNat := by unfold paN; rw [if_pos ⟨hG, hE, hI⟩]; rfl
  have e2 : paE ⟨w, h, xs⟩ ⟨c, q, t, i⟩ ⟨kd, qx, qy, qw, qh⟩ = 0 := by unfold paE; rw [if_pos hG, if_pos ⟨hE, hI⟩]
  obtain ⟨j1, j2, j3, j4, j5, j6, j7, j8, j9, j10⟩ := id hI
  simp only at j1 j2 j3 j4 j5 j6 j7 j8 j9 j10 s1 s2 s3 s4
  have hl0 : 0 < xs.length := by
    have hl : (xs.length : Int) = w * h := hG.2.1
    have := Int.mul_pos (show 0 < w by omega) (show 0 < h by omega)
    omega
  obtain ⟨g1, g2, g3, g4, g5⟩ := hG.pn hl0
  simp only at g4 g5
  have hin : inR (⟨w, h, xs⟩ : Pl).pn ⟨qx, qy, qw, qh⟩ := ⟨j3, j4, j5, j6, show qx + qw ≤ (w.toNat : Int) by omega, show qy + qh ≤ (h.toNat : Int) by omega⟩
  obtain ⟨hRp, hGr⟩ := hin.rp g1
  have eR : rpOf (⟨w, h, xs⟩ : Pl).pn ⟨qx, qy, qw, qh⟩ = ⟨qx.toNat, qy.toNat, qw.toNat, qh.toNat, w.toNat, h.toNat, xs⟩ := rfl
  rw [eR] at hRp hGr e1
  have t1 : (qx.toNat : Int) = qx := by omega
  have t2 : (qy.toNat : Int) = qy := by omega
  have t3 : (qw.toNat : Int) = qw := by omega
  have t4 : (qh.toNat : Int) = qh := by omega
  have hk : kd = 0 ∨ kd = 1 ∨ kd = 2 := by omega
  have z0 : (0 : Int).toNat = 0 := rfl
  have z1 : (1 : Int).toNat = 1 := rfl
  have z2 : (2 : Int).toNat = 2 := rfl
  rcases hk with rfl | rfl | rfl
  all_goals
    simp -implicitDefEqProofs only [push_cast, false_implies, reduceCtorEq, Classical.not_not, Nat.reduceAdd, Nat.reduceSub, Nat.reduceMul, Nat.reduceLeDiff, Nat.reduceLT, Nat.reduceEqDiff, Nat.reduceBEq, Nat.reduceBNe, Int.reduceNeg, Int.reduceToNat, Bool.or_false, Bool.false_or, Bool.or_true, Bool.true_or, BEq.rfl, Bool.not_eq_true, Bool.not_eq_false, decide_eq_true_eq, not_true_eq_false, not_false_eq_true, ite_true, ite_false, List.append_nil, and_assoc, Nat.mul_zero, Nat.zero_mul, ir16, fs14, fs12, fs29, fs33, fs34, plV, enV, ptV, rcV, hG, hE, hI, hp, hRp, hGr, t1, t2, t3, t4, g4, g5]
    intro X
    repeat (refine And.intro (by first | omega | trivial | (intros; omega)) ?_)
    refine postF.mk' (fun _ => default) [some 0] ?_
    simp -implicitDefEqProofs only [push_cast, false_implies, reduceCtorEq, Classical.not_not, Nat.reduceAdd, Nat.reduceSub, Nat.reduceMul, Nat.reduceLeDiff, Nat.reduceLT, Nat.reduceEqDiff, Nat.reduceBEq, Nat.reduceBNe, Int.reduceNeg, Int.reduceToNat, Bool.or_false, Bool.false_or, Bool.or_true, Bool.true_or, BEq.rfl, Bool.not_eq_true, Bool.not_eq_false, decide_eq_true_eq, not_true_eq_false, not_false_eq_true, ite_true, ite_false, List.append_nil, and_assoc, Nat.mul_zero, Nat.zero_mul, fs16, e1, e2, z0, z1, z2]
    rfl
def ent16 : Entry := spOf fs16 inv16
theorem e16 : EntryOk Try.prog 16 ent16 := entry_of ok16 inv16
@[push_cast] theorem ent16_app (us : List SV) (look : Look) (x : Nat → Xf.Loc) (k : Nat) : ent16 us look x k = spOf fs16 inv16 us look x k := rfl
/-- A plane that is a part of another, from (dx, dy) on. -/
def Pn.sub (q p : Pn) (dx dy : Nat) : Prop := dx + q.W ≤ p.W ∧ dy + q.H ≤ p.H ∧ ∀ i j, i < q.H → j < q.W → rd q.xs ((i * q.W + j : Nat) : Int) = rd p.xs (((dy + i) * p.W + (dx + j) : Nat) : Int)
theorem lstS_congr {f g : Rt → List Pt × Int} : ∀ {l : List Rt}, (∀ q ∈ l, f q = g q) → lstS f l = lstS g l
  | [], _ => rfl
  | a :: l, h => by
    have h1 := lstS_congr (f := f) (g := g) (l := l) fun q hq => h q (by simp [hq])
    have h2 := h a (by simp)
    unfold lstS at h1 ⊢
    rw [List.flatMap_cons, List.flatMap_cons, h1, h2]
/-- What is left of the fuel is the same. -/
theorem least_fuel {p : Pn} {e : En} : ∀ (N : Nat) (r : Rt), inR p r → r.w * r.h ≤ N → least p e (N + 1) r = least p e N r
  | 0, r, h, hN => by have := area_pos h; unfold area at this; omega
  | N + 1, r, h, hN => by
    by_cases h1 : r.w * r.h = 1
    · rw [least, if_pos h1, least, if_pos h1]
    have hq : ∀ q ∈ qs r, least p e (N + 1) q = least p e N q := fun q hq => by
      obtain ⟨k1, k2⟩ := qs_in h q hq
      have := k2 h1
      unfold area at this
      exact least_fuel N q k1 (by omega)
    have e1 : sumS e.cut (least p e (N + 1)) (qs r) = sumS e.cut (least p e N) (qs r) := by
      unfold sumS
      congr 2
      exact List.map_congr_left fun q h => by rw [hq q h]
    have e2 : lstS (least p e (N + 1)) (qs r) = lstS (least p e N) (qs r) := by
      exact lstS_congr hq
    rw [least, if_neg h1, e1, e2]
    conv => rhs; rw [least, if_neg h1]
/-- A part of the least tree is the least tree of its rectangle. -/
theorem least_leaf {p : Pn} {e : En} : ∀ (N : Nat) (r : Rt), inR p r → r.w * r.h ≤ N → ∀ x ∈ (least p e N r).1, x = onePt p e x.rt ∧ inR p x.rt ∧ (least p e N x.rt).2 = best p e x.rt ∧ x.w * x.h ≤ N
  | 0, r, h, hN => by have := area_pos h; unfold area at this; omega
  | N + 1, r, h, hN => by
    by_cases h1 : r.w * r.h = 1
    · intro x hx
      have hL : least p e (N + 1) r = ([onePt p e r], best p e r) := by rw [least, if_pos h1]
      rw [hL] at hx
      rw [List.mem_singleton] at hx
      subst hx
      exact ⟨rfl, h, show (least p e (N + 1) r).2 = best p e r by rw [hL], hN⟩
    by_cases h2 : sumS e.cut (least p e N) (qs r) < best p e r
    · intro x hx
      rw [least, if_neg h1, if_pos h2] at hx
      unfold lstS at hx
      rw [List.mem_flatMap] at hx
      obtain ⟨a, ha, hx⟩ := hx
      obtain ⟨k1, k2⟩ := qs_in h a ha
      have := k2 h1
      unfold area at this
      obtain ⟨q1, q2, q3, q4⟩ := least_leaf N a k1 (by omega) x hx
      exact ⟨q1, q2, by rw [least_fuel N x.rt q2 q4]; exact q3, by push_cast; omega⟩
    · intro x hx
      have hL : least p e (N + 1) r = ([onePt p e r], best p e r) := by rw [least, if_neg h1, if_neg h2]
      rw [hL] at hx
      rw [List.mem_singleton] at hx
      subst hx
      exact ⟨rfl, h, show (least p e (N + 1) r).2 = best p e r by rw [hL], hN⟩
theorem best_en {p : Pn} {e : En} {r : Rt} : 0 ≤ kindI p e r ∧ kindI p e r ≤ 2 ∧ (rpOf p r).en e (kindI p e r).toNat = best p e r := by
  obtain ⟨h1, h2, h3⟩ := first3 ((rpOf p r).en e 0) ((rpOf p r).en e 1) ((rpOf p r).en e 2)
  change 0 ≤ kindI p e r at h1
  change kindI p e r < 3 at h2
  change rd [(rpOf p r).en e 0, (rpOf p r).en e 1, (rpOf p r).en e 2] (kindI p e r) = best p e r at h3
  refine ⟨h1, by omega, ?_⟩
  rw [← h3]
  have : kindI p e r = 0 ∨ kindI p e r = 1 ∨ kindI p e r = 2 := by omega
  rcases this with q | q | q <;> rw [q] <;> rfl
def b35_1 : IR :=
  .seq (.seq (.reg false [⟨some 14, none, ⟨[], []⟩, .mov (.t 4)⟩,
    ⟨some 15, none, ⟨[], []⟩, .mov (.t 3)⟩,
    ⟨some 16, none, ⟨[], []⟩, .len (.t 15)⟩,
    ⟨some 17, none, ⟨[], []⟩, .bin 0 .lss (.t 14) (.t 16)⟩] [14, 15, 16] []) (.cond (.t 17) (.skip) (.exit 0))) (.seq (.block 1 (.seq (.reg false [⟨some 20, none, ⟨[], []⟩, .mov (.t 3)⟩,
    ⟨some 21, none, ⟨[], []⟩, .mov (.t 4)⟩,
    ⟨some 22, none, ⟨[], []⟩, .idxS (.t 20) (.t 21) 1⟩,
    ⟨some 23, none, ⟨[], []⟩, .ld true none 0 0 (.t 22)⟩,
    ⟨some 24, none, ⟨[], []⟩, .bin 0 .lss (.t 23) (.k (.int .i64 0))⟩,
    ⟨some 25, none, ⟨[], []⟩, .mov (.t 24)⟩,
    ⟨some 26, some (25, false), ⟨[], []⟩, .mov (.t 3)⟩,
    ⟨some 27, some (25, false), ⟨[], []⟩, .mov (.t 4)⟩,
    ⟨some 28, some (25, false), ⟨[], []⟩, .idxS (.t 26) (.t 27) 1⟩,
    ⟨some 29, some (25, false), ⟨[], []⟩, .ld true none 0 0 (.t 28)⟩,
    ⟨some 30, some (25, false), ⟨[], []⟩, .bin 0 .gtr (.t 29) (.k (.int .i64 100000))⟩,
    ⟨some 31, none, ⟨[], []⟩, .pick (.t 25) (.k (.bool true)) (.t 30)⟩] [17, 20, 21, 22, 23, 24, 25, 26, 27, 28, 29, 30] []) (.cond (.t 31) (.seq (.reg false [⟨some 2, none, ⟨[], []⟩, .mov (.k (.bool false))⟩] [3, 4, 31] []) (.ret)) (.skip)))) (.reg false [⟨some 18, none, ⟨[], []⟩, .mov (.t 4)⟩,
    ⟨some 19, none, ⟨[], []⟩, .bin 0 .add (.t 18) (.k (.int .i64 1))⟩,
    ⟨some 4, none, ⟨[], []⟩, .mov (.t 19)⟩] [2, 18, 19, 31] []))
def r35_2 : IR :=
  .seq (.reg false [⟨some 2, none, ⟨[], []⟩, .mov (.k (.bool true))⟩] [3, 4] []) (.ret)
def ir35 : IR :=
  .seq (.reg false [⟨some 1, none, ⟨[], []⟩, .box 10 (.t 0)⟩,
    ⟨some 2, none, ⟨[], []⟩, .mov (.k (.bool false))⟩] [0, 2] []) (.seq (.reg false [⟨some 5, none, ⟨[], []⟩, .fld (.t 1) 0⟩,
    ⟨some 6, none, ⟨[], []⟩, .ld false none 0 0 (.t 5)⟩,
    ⟨some 7, none, ⟨[], []⟩, .fld (.t 1) 1⟩,
    ⟨some 8, none, ⟨[], []⟩, .ld false none 0 0 (.t 7)⟩,
    ⟨some 9, none, ⟨[], []⟩, .fld (.t 1) 2⟩,
    ⟨some 10, none, ⟨[], []⟩, .ld false none 0 0 (.t 9)⟩,
    ⟨some 11, none, ⟨[], []⟩, .fld (.t 1) 3⟩,
    ⟨some 12, none, ⟨[], []⟩, .ld false none 0 0 (.t 11)⟩,
    ⟨some 13, none, ⟨[], []⟩, .bslice 11 [.t 6, .t 8, .t 10, .t 12]⟩,
    ⟨some 3, none, ⟨[], []⟩, .mov (.t 13)⟩] [1, 5, 6, 7, 8, 9, 10, 11, 12, 13] []) (.seq (.seq (.reg false [⟨some 4, none, ⟨[], []⟩, .mov (.k (.int .i64 0))⟩] [] []) (.block 0 (.loop b35_1))) (r35_2)))
def kp35_1 : List Nat := [3, 4]
def kl35_1 : List Nat := []
attribute [push_cast] kp35_1 kl35_1
set_option maxRecDepth 4000 in
theorem comp35 : (Try.f35.body.bind fun c => compC tab isP chkAll ir35 c) = some ir35 := by kernel_rfl
def b47_2 : IR :=
  .seq (.seq (.reg false [⟨some 23, none, ⟨[], []⟩, .mov (.t 9)⟩,
    ⟨some 24, none, ⟨[], []⟩, .fld (.t 3) 1⟩,
    ⟨some 25, none, ⟨[], []⟩, .ld false none 0 0 (.t 24)⟩,
    ⟨some 26, none, ⟨[], []⟩, .fld (.t 3) 3⟩,
    ⟨some 27, none, ⟨[], []⟩, .ld false none 0 0 (.t 26)⟩,
    ⟨some 28, none, ⟨[], []⟩, .bin 0 .add (.t 25) (.t 27)⟩,
    ⟨some 29, none, ⟨[], []⟩, .bin 0 .lss (.t 23) (.t 28)⟩] [23, 24, 25, 26, 27, 28] []) (.cond (.t 29) (.skip) (.exit 2))) (.seq (.block 3 (.reg true [⟨some 32, none, ⟨[], []⟩, .mov (.t 6)⟩,
    ⟨some 33, none, ⟨[], []⟩, .fld (.t 2) 2⟩,
    ⟨some 34, none, ⟨[], []⟩, .ld false none 0 0 (.t 33)⟩,
    ⟨some 35, none, ⟨[], []⟩, .mov (.t 8)⟩,
    ⟨some 36, none, ⟨[], []⟩, .fld (.t 2) 0⟩,
    ⟨some 37, none, ⟨[], []⟩, .ld false none 0 0 (.t 36)⟩,
    ⟨some 38, none, ⟨[], []⟩, .bin 0 .mul (.t 35) (.t 37)⟩,
    ⟨some 39, none, ⟨[], []⟩, .mov (.t 9)⟩,
    ⟨some 40, none, ⟨[], []⟩, .bin 0 .add (.t 38) (.t 39)⟩,
    ⟨some 41, none, ⟨[], []⟩, .idxS (.t 34) (.t 40) 1⟩,
    ⟨some 42, none, ⟨[], []⟩, .ld true none 0 0 (.t 41)⟩,
    ⟨some 43, none, ⟨[], []⟩, .mn (.t 32) (.t 42)⟩,
    ⟨some 44, none, ⟨[], []⟩, .mov (.t 7)⟩,
    ⟨some 45, none, ⟨[], []⟩, .fld (.t 2) 2⟩,
    ⟨some 46, none, ⟨[], []⟩, .ld false none 0 0 (.t 45)⟩,
    ⟨some 47, none, ⟨[], []⟩, .mov (.t 8)⟩,
    ⟨some 48, none, ⟨[], []⟩, .fld (.t 2) 0⟩,
    ⟨some 49, none, ⟨[], []⟩, .ld false none 0 0 (.t 48)⟩,
    ⟨some 50, none, ⟨[], []⟩, .bin 0 .mul (.t 47) (.t 49)⟩,
    ⟨some 51, none, ⟨[], []⟩, .mov (.t 9)⟩,
    ⟨some 52, none, ⟨[], []⟩, .bin 0 .add (.t 50) (.t 51)⟩,
    ⟨some 53, none, ⟨[], []⟩, .idxS (.t 46) (.t 52) 1⟩,
    ⟨some 54, none, ⟨[], []⟩, .ld true none 0 0 (.t 53)⟩,
    ⟨some 55, none, ⟨[], []⟩, .mx (.t 44) (.t 54)⟩,
    ⟨some 6, none, ⟨[], []⟩, .mov (.t 43)⟩,
    ⟨some 7, none, ⟨[], []⟩, .mov (.t 55)⟩] [29, 32, 33, 34, 35, 36, 37, 38, 39, 40, 41, 42, 43, 44, 45, 46, 47, 48, 49, 50, 51, 52, 53, 54, 55] [])) (.reg false [⟨some 30, none, ⟨[], []⟩, .mov (.t 9)⟩,
    ⟨some 31, none, ⟨[], []⟩, .bin 0 .add (.t 30) (.k (.int .i64 1))⟩,
    ⟨some 9, none, ⟨[], []⟩, .mov (.t 31)⟩] [30, 31] []))
def r47_3 : IR :=
  .reg false [⟨some 19, none, ⟨[], []⟩, .mov (.t 8)⟩,
    ⟨some 20, none, ⟨[], []⟩, .bin 0 .add (.t 19) (.k (.int .i64 1))⟩,
    ⟨some 8, none, ⟨[], []⟩, .mov (.t 20)⟩] [9, 19, 20] []
def b47_1 : IR :=
  .seq (.seq (.reg false [⟨some 12, none, ⟨[], []⟩, .mov (.t 8)⟩,
    ⟨some 13, none, ⟨[], []⟩, .fld (.t 3) 2⟩,
    ⟨some 14, none, ⟨[], []⟩, .ld false none 0 0 (.t 13)⟩,
    ⟨some 15, none, ⟨[], []⟩, .fld (.t 3) 4⟩,
    ⟨some 16, none, ⟨[], []⟩, .ld false none 0 0 (.t 15)⟩,
    ⟨some 17, none, ⟨[], []⟩, .bin 0 .add (.t 14) (.t 16)⟩,
    ⟨some 18, none, ⟨[], []⟩, .bin 0 .lss (.t 12) (.t 17)⟩] [12, 13, 14, 15, 16, 17] []) (.cond (.t 18) (.skip) (.exit 0))) (.seq (.block 1 (.seq (.reg false [⟨some 21, none, ⟨[], []⟩, .fld (.t 3) 1⟩,
    ⟨some 22, none, ⟨[], []⟩, .ld false none 0 0 (.t 21)⟩,
    ⟨some 9, none, ⟨[], []⟩, .mov (.t 22)⟩] [18, 21, 22] []) (.block 2 (.loop b47_2)))) (r47_3))
def r47_4 : IR :=
  .seq (.reg false [⟨some 56, none, ⟨[], []⟩, .mov (.t 6)⟩,
    ⟨some 57, none, ⟨[], []⟩, .mov (.t 7)⟩,
    ⟨some 4, none, ⟨[], []⟩, .mov (.t 56)⟩,
    ⟨some 5, none, ⟨[], []⟩, .mov (.t 57)⟩] [2, 3, 6, 7, 8, 56, 57] []) (.ret)
def ir47 : IR :=
  .seq (.reg false [⟨some 2, none, ⟨[], []⟩, .box 10 (.t 0)⟩,
    ⟨some 3, none, ⟨[], []⟩, .box 11 (.t 1)⟩,
    ⟨some 4, none, ⟨[], []⟩, .mov (.k (.int .i64 0))⟩,
    ⟨some 5, none, ⟨[], []⟩, .mov (.k (.int .i64 0))⟩] [0, 1, 4, 5] []) (.seq (.reg false [⟨some 6, none, ⟨[], []⟩, .mov (.k (.int .i64 255))⟩,
    ⟨some 7, none, ⟨[], []⟩, .mov (.k (.int .i64 0))⟩] [] []) (.seq (.seq (.reg false [⟨some 10, none, ⟨[], []⟩, .fld (.t 3) 2⟩,
    ⟨some 11, none, ⟨[], []⟩, .ld false none 0 0 (.t 10)⟩,
    ⟨some 8, none, ⟨[], []⟩, .mov (.t 11)⟩] [10, 11] []) (.block 0 (.loop b47_1))) (r47_4)))
def kp47_2 : List Nat := [2, 3, 6, 7, 8, 9]
def kl47_2 : List Nat := []
attribute [push_cast] kp47_2 kl47_2
def kp47_1 : List Nat := [2, 3, 6, 7, 8]
def kl47_1 : List Nat := []
attribute [push_cast] kp47_1 kl47_1
set_option maxRecDepth 4000 in
theorem comp47 : (Try.f47.body.bind fun c => compC tab isP chkAll ir47 c) = some ir47 := by kernel_rfl
theorem ok35 : FSOk Try.prog 35 fs29 := by
  refine ⟨⟨_, Try.func35, by kernel_rfl, by kernel_rfl⟩, fun a => ⟨by simp [fs29, push_cast, noMine, argOwn, Chunk.frArg], by simp [fs29, push_cast, outOk, Chunk.ext], fun x => .inl (by simp [fs29, push_cast, frNew, frOut, Chunk.fr])⟩, fun a hp => ?_⟩
  obtain ⟨⟨c, q, t, i⟩⟩ := a
  change Tri Try.prog 35 [.agg [.int .i64 c, .int .i64 q, .int .i64 t, .int .i64 i]] [] (postF fs29 ⟨⟨c, q, t, i⟩⟩)
  refine tri_evS (hyp (l := []) (lp := []) trivial trivial) Try.func35 comp35 (rs := [.tmp 2]) (by rfl) Try.ntmps35 12 ?_
  have hE : (⟨c, q, t, i⟩ : En).Ok ↔ ∀ j, j < 4 → 0 ≤ rd [c, q, t, i] (j : Nat) ∧ rd [c, q, t, i] (j : Nat) ≤ 100000 := by
    constructor
    · intro ⟨h1, h2, h3, h4⟩ j hj
      match j, hj with
      | 0, _ => exact h1
      | 1, _ => exact h2
      | 2, _ => exact h3
      | 3, _ => exact h4
    · intro h
      exact ⟨h 0 (by omega), h 1 (by omega), h 2 (by omega), h 3 (by omega)⟩
  have hl : [c, q, t, i].length = 4 := rfl
  simp -implicitDefEqProofs only [push_cast, false_implies, reduceCtorEq, Classical.not_not, Nat.reduceAdd, Nat.reduceSub, Nat.reduceMul, Nat.reduceLeDiff, Nat.reduceLT, Nat.reduceEqDiff, Nat.reduceBEq, Nat.reduceBNe, Int.reduceNeg, Int.reduceToNat, Bool.or_false, Bool.false_or, Bool.or_true, Bool.true_or, BEq.rfl, Bool.not_eq_true, Bool.not_eq_false, decide_eq_true_eq, not_true_eq_false, not_false_eq_true, ite_true, ite_false, List.append_nil, and_assoc, Nat.mul_zero, Nat.zero_mul, ir35]
  intro X X1
  obtain ⟨e, he⟩ : ∃ e, (⟨c, q, t, i⟩ : En) = e := ⟨_, rfl⟩
  obtain ⟨xs, hxs⟩ : ∃ xs, [c, q, t, i] = xs := ⟨_, rfl⟩
  rw [hxs] at hE hl
  rw [he] at hE ⊢
  obtain ⟨n, hn⟩ : ∃ n : Nat, 4 = n := ⟨_, rfl⟩
  have h4 : (1 + 1 + 1 + 1 : Int) = (n : Int) := by omega
  have h4' : (4 : Int) = (n : Int) := by omega
  simp only [hxs, h4, h4']
  rw [hn] at hE hl
  refine evS_loopU (A := Nat) kp35_1 kl35_1 (fun i => [(4, .int .i64 i)]) (fun _ => [])
    (fun i => i ≤ n ∧ ∀ j, j < i → 0 ≤ rd xs (j : Nat) ∧ rd xs (j : Nat) ≤ 100000) (fun i => n - i) 0 ⟨by omega, fun j hj => absurd hj (Nat.not_lt_zero j)⟩ (Sub.pt ?_) ?_
  · simp -implicitDefEqProofs only [push_cast, false_implies, reduceCtorEq, Classical.not_not, Nat.reduceAdd, Nat.reduceSub, Nat.reduceMul, Nat.reduceLeDiff, Nat.reduceLT, Nat.reduceEqDiff, Nat.reduceBEq, Nat.reduceBNe, Int.reduceNeg, Int.reduceToNat, Bool.or_false, Bool.false_or, Bool.or_true, Bool.true_or, BEq.rfl, Bool.not_eq_true, Bool.not_eq_false, decide_eq_true_eq, not_true_eq_false, not_false_eq_true, ite_true, ite_false, List.append_nil, and_assoc, Nat.mul_zero, Nat.zero_mul]
  intro k ⟨h1, h2⟩ K hK
  by_cases hk : k < n
  · have hk4 : (k : Int) < n := by omega
    simp -implicitDefEqProofs only [push_cast, false_implies, reduceCtorEq, Classical.not_not, Nat.reduceAdd, Nat.reduceSub, Nat.reduceMul, Nat.reduceLeDiff, Nat.reduceLT, Nat.reduceEqDiff, Nat.reduceBEq, Nat.reduceBNe, Int.reduceNeg, Int.reduceToNat, Bool.or_false, Bool.false_or, Bool.or_true, Bool.true_or, BEq.rfl, Bool.not_eq_true, Bool.not_eq_false, decide_eq_true_eq, not_true_eq_false, not_false_eq_true, ite_true, ite_false, List.append_nil, and_assoc, Nat.mul_zero, Nat.zero_mul, b35_1, hl]
    refine ⟨fun _ => ?_, fun h => absurd hk4 h⟩
    repeat (refine And.intro (by first | omega | trivial | (intros; omega)) ?_)
    refine ⟨fun hb => ?_, fun hg => ?_⟩
    · have e1 : ¬ e.Ok := fun H => by have := hE.1 H k hk; omega
      refine postF.mk' (fun _ => default) [] ?_
      simp -implicitDefEqProofs only [push_cast, false_implies, reduceCtorEq, Classical.not_not, Nat.reduceAdd, Nat.reduceSub, Nat.reduceMul, Nat.reduceLeDiff, Nat.reduceLT, Nat.reduceEqDiff, Nat.reduceBEq, Nat.reduceBNe, Int.reduceNeg, Int.reduceToNat, Bool.or_false, Bool.false_or, Bool.or_true, Bool.true_or, BEq.rfl, Bool.not_eq_true, Bool.not_eq_false, decide_eq_true_eq, not_true_eq_false, not_false_eq_true, ite_true, ite_false, List.append_nil, and_assoc, Nat.mul_zero, Nat.zero_mul, fs29, e1]
    · repeat (refine And.intro (by first | omega | trivial | (intros; omega)) ?_)
      refine hK (k + 1) ⟨by omega, fun j hj => ?_⟩ (show n - (k + 1) < n - k by omega) _ _ (Sub.pt ?_)
      · by_cases ej : j = k
        · subst ej; omega
        · exact h2 j (by omega)
      · simp -implicitDefEqProofs only [push_cast, false_implies, reduceCtorEq, Classical.not_not, Nat.reduceAdd, Nat.reduceSub, Nat.reduceMul, Nat.reduceLeDiff, Nat.reduceLT, Nat.reduceEqDiff, Nat.reduceBEq, Nat.reduceBNe, Int.reduceNeg, Int.reduceToNat, Bool.or_false, Bool.false_or, Bool.or_true, Bool.true_or, BEq.rfl, Bool.not_eq_true, Bool.not_eq_false, decide_eq_true_eq, not_true_eq_false, not_false_eq_true, ite_true, ite_false, List.append_nil, and_assoc, Nat.mul_zero, Nat.zero_mul]
  · have hk4 : ¬ (k : Int) < n := by omega
    have e1 : e.Ok := hE.2 fun j hj => h2 j (by omega)
    simp -implicitDefEqProofs only [push_cast, false_implies, reduceCtorEq, Classical.not_not, Nat.reduceAdd, Nat.reduceSub, Nat.reduceMul, Nat.reduceLeDiff, Nat.reduceLT, Nat.reduceEqDiff, Nat.reduceBEq, Nat.reduceBNe, Int.reduceNeg, Int.reduceToNat, Bool.or_false, Bool.false_or, Bool.or_true, Bool.true_or, BEq.rfl, Bool.not_eq_true, Bool.not_eq_false, decide_eq_true_eq, not_true_eq_false, not_false_eq_true, ite_true, ite_false, List.append_nil, and_assoc, Nat.mul_zero, Nat.zero_mul, b35_1, r35_2, hl, hk4]
    refine postF.mk' (fun _ => default) [] ?_
    simp -implicitDefEqProofs only [push_cast, false_implies, reduceCtorEq, Classical.not_not, Nat.reduceAdd, Nat.reduceSub, Nat.reduceMul, Nat.reduceLeDiff, Nat.reduceLT, Nat.reduceEqDiff, Nat.reduceBEq, Nat.reduceBNe, Int.reduceNeg, Int.reduceToNat, Bool.or_false, Bool.false_or, Bool.or_true, Bool.true_or, BEq.rfl, Bool.not_eq_true, Bool.not_eq_false, decide_eq_true_eq, not_true_eq_false, not_false_eq_true, ite_true, ite_false, List.append_nil, and_assoc, Nat.mul_zero, Nat.zero_mul, fs29, e1]
def ent35 : Entry := spOf fs29 inv29
theorem e35 : EntryOk Try.prog 35 ent35 := entry_of ok35 inv29
@[push_cast] theorem ent35_app (us : List SV) (look : Look) (x : Nat → Xf.Loc) (k : Nat) : ent35 us look x k = spOf fs29 inv29 us look x k := rfl
/-- Ends, as the specification begins. -/
structure RkA where
  a : RpA
  k : Int
theorem val_at {x y w h W H : Nat} {xs : List Int} {i j : Nat} (hj : j < w) : (⟨x, y, w, h, W, H, xs⟩ : Rp).val (i * w + j) = rd xs (((y + i) * W + (x + j) : Nat) : Int) := by
  show rd xs ((atN x y w W (i * w + j) : Nat) : Int) = _
  unfold atN
  rw [(dm_at hj).1, (dm_at hj).2, Nat.add_assoc]
def fs47 : FS where
  A := RkA
  args := fun a => [plV ⟨a.a.r.W, a.a.r.H, a.a.r.xs⟩ a.a.L 0, .agg [.int .i64 a.k, .int .i64 a.a.r.x, .int .i64 a.a.r.y, .int .i64 a.a.r.w, .int .i64 a.a.r.h]]
  mem := fun a => [some (.ro, a.a.L, .ints .i64 a.a.r.xs)]
  pre := fun a => a.a.r.Ok ∧ a.a.r.grey ∧ 0 < a.a.r.n
  res := fun a x => .tup [.int .i64 a.a.r.lo, .int .i64 a.a.r.hi]
  out := fun _ _ => []
  new := fun _ _ => []
def inv47 : List SV → Look → Option (RkA × List Nat)
  | [p, .agg [.int .i64 k, .int .i64 x, .int .i64 y, .int .i64 w, .int .i64 h]], look => match getR look (.agg [.int .i64 x, .int .i64 y, .int .i64 w, .int .i64 h]) p with
    | some (a, g) => some (⟨a, k⟩, g)
    | _ => none
  | _, _ => none
attribute [push_cast] inv47
theorem ok47 : FSOk Try.prog 47 fs47 := by
  refine ⟨⟨_, Try.func47, by kernel_rfl, by kernel_rfl⟩, fun a => ⟨by simp [fs47, push_cast, noMine, argOwn, Chunk.frArg], by simp [fs47, push_cast, outOk, Chunk.ext], fun x => .inl (by simp [fs47, push_cast, frNew, frOut, Chunk.fr])⟩, fun a hp => ?_⟩
  obtain ⟨⟨r, L⟩, kd⟩ := a
  obtain ⟨hp, hG, h0⟩ : r.Ok ∧ r.grey ∧ 0 < r.n := hp
  have e1 : r.lo = minN 255 r.val r.n := minN_any (c := 255) (by omega) (by omega) h0 fun k hk => (hG k hk).2
  have e2 : r.hi = maxN 0 r.val r.n := maxN_any (c := 0) (by omega) (by omega) h0 fun k hk => (hG k hk).1
  have e3 := rp_len hp
  obtain ⟨x, y, w, h, W, H, xs⟩ := r
  have hat := fun {i j : Nat} (hj : j < w) => val_at (x := x) (y := y) (h := h) (W := W) (H := H) (xs := xs) (i := i) hj
  obtain ⟨v, hv⟩ : ∃ v, (⟨x, y, w, h, W, H, xs⟩ : Rp).val = v := ⟨_, rfl⟩
  obtain ⟨o1, o2, o3, o4, o5⟩ := hp
  simp only at o1 o2 o3 o4 o5 e3
  rw [hv] at e1 e2 hat
  change _ = minN 255 v (w * h) at e1
  change _ = maxN 0 v (w * h) at e2
  change Tri Try.prog 47 [plV ⟨W, H, xs⟩ L 0, .agg [.int .i64 kd, .int .i64 x, .int .i64 y, .int .i64 w, .int .i64 h]] [some (.ro, L, .ints .i64 xs)] (postF fs47 ⟨⟨⟨x, y, w, h, W, H, xs⟩, L⟩, kd⟩)
  refine tri_evS (hyp (l := []) (lp := []) trivial trivial) Try.func47 comp47 (rs := [.tmp 4, .tmp 5]) (by rfl) Try.ntmps47 12 ?_
  simp -implicitDefEqProofs only [push_cast, false_implies, reduceCtorEq, Classical.not_not, Nat.reduceAdd, Nat.reduceSub, Nat.reduceMul, Nat.reduceLeDiff, Nat.reduceLT, Nat.reduceEqDiff, Nat.reduceBEq, Nat.reduceBNe, Int.reduceNeg, Int.reduceToNat, Bool.or_false, Bool.false_or, Bool.or_true, Bool.true_or, BEq.rfl, Bool.not_eq_true, Bool.not_eq_false, decide_eq_true_eq, not_true_eq_false, not_false_eq_true, ite_true, ite_false, List.append_nil, and_assoc, Nat.mul_zero, Nat.zero_mul, ir47, plV]
  intro X
  refine evS_loopU (A := Nat) kp47_1 kl47_1 (fun i => [(6, .int .i64 (minN 255 v (i * w))), (7, .int .i64 (maxN 0 v (i * w))), (8, .int .i64 ((y + i : Nat) : Int))]) (fun _ => []) (fun i => i ≤ h) (fun i => h - i) 0 (Nat.zero_le _) (Sub.pt ?_) ?_
  · simp -implicitDefEqProofs only [push_cast, false_implies, reduceCtorEq, Classical.not_not, Nat.reduceAdd, Nat.reduceSub, Nat.reduceMul, Nat.reduceLeDiff, Nat.reduceLT, Nat.reduceEqDiff, Nat.reduceBEq, Nat.reduceBNe, Int.reduceNeg, Int.reduceToNat, Bool.or_false, Bool.false_or, Bool.or_true, Bool.true_or, BEq.rfl, Bool.not_eq_true, Bool.not_eq_false, decide_eq_true_eq, not_true_eq_false, not_false_eq_true, ite_true, ite_false, List.append_nil, and_assoc, Nat.mul_zero, Nat.zero_mul, Nat.zero_mul, minN, maxN]
  intro i (hi : i ≤ h) K hK
  by_cases hi' : i < h
  · simp -implicitDefEqProofs only [push_cast, false_implies, reduceCtorEq, Classical.not_not, Nat.reduceAdd, Nat.reduceSub, Nat.reduceMul, Nat.reduceLeDiff, Nat.reduceLT, Nat.reduceEqDiff, Nat.reduceBEq, Nat.reduceBNe, Int.reduceNeg, Int.reduceToNat, Bool.or_false, Bool.false_or, Bool.or_true, Bool.true_or, BEq.rfl, Bool.not_eq_true, Bool.not_eq_false, decide_eq_true_eq, not_true_eq_false, not_false_eq_true, ite_true, ite_false, List.append_nil, and_assoc, Nat.mul_zero, Nat.zero_mul, b47_1, r47_3]
    repeat (refine And.intro (by first | omega | trivial | (intros; omega)) ?_)
    refine ⟨fun _ => ?_, fun h => by omega⟩
    refine evS_loopU (A := Nat) kp47_2 kl47_2 (fun j => [(6, .int .i64 (minN 255 v (i * w + j))), (7, .int .i64 (maxN 0 v (i * w + j))), (9, .int .i64 ((x + j : Nat) : Int))]) (fun _ => []) (fun j => j ≤ w) (fun j => w - j) 0 (Nat.zero_le _) (Sub.pt ?_) ?_
    · simp -implicitDefEqProofs only [push_cast, false_implies, reduceCtorEq, Classical.not_not, Nat.reduceAdd, Nat.reduceSub, Nat.reduceMul, Nat.reduceLeDiff, Nat.reduceLT, Nat.reduceEqDiff, Nat.reduceBEq, Nat.reduceBNe, Int.reduceNeg, Int.reduceToNat, Bool.or_false, Bool.false_or, Bool.or_true, Bool.true_or, BEq.rfl, Bool.not_eq_true, Bool.not_eq_false, decide_eq_true_eq, not_true_eq_false, not_false_eq_true, ite_true, ite_false, List.append_nil, and_assoc, Nat.mul_zero, Nat.zero_mul, Nat.add_zero]
    intro j (hj : j ≤ w) K2 hK2
    by_cases hj' : j < w
    · have hlt : (y + i + 1) * W ≤ H * W := Nat.mul_le_mul_right W (by omega)
      rw [Nat.add_mul (y + i) 1] at hlt
      have hix : (y + i) * W + (x + j) < xs.length := by omega
      have hm := mul_bd (a := ((y + i : Nat) : Int)) (b := (W : Int)) (A := 200) (B := 200) (by omega) (by omega) (by omega) (by omega)
      have eidx : ((y : Int) + i) * W + (x + j) = (((y + i) * W + (x + j) : Nat) : Int) := by simp
      have hr := (hat (i := i) hj').symm
      push_cast at hm
      obtain ⟨ix, hixx⟩ : ∃ ix, (y + i) * W + (x + j) = ix := ⟨_, rfl⟩
      rw [hixx] at hix eidx hr
      obtain ⟨kk, hkk⟩ : ∃ kk, i * w + j = kk := ⟨_, rfl⟩
      have hkk1 : i * w + (j + 1) = kk + 1 := by omega
      rw [hkk] at hr
      have m1 : minN 255 v (kk + 1) = min (minN 255 v kk) (v kk) := rfl
      have m2 : maxN 0 v (kk + 1) = max (maxN 0 v kk) (v kk) := rfl
      simp only [hkk]
      simp -implicitDefEqProofs only [push_cast, false_implies, reduceCtorEq, Classical.not_not, Nat.reduceAdd, Nat.reduceSub, Nat.reduceMul, Nat.reduceLeDiff, Nat.reduceLT, Nat.reduceEqDiff, Nat.reduceBEq, Nat.reduceBNe, Int.reduceNeg, Int.reduceToNat, Bool.or_false, Bool.false_or, Bool.or_true, Bool.true_or, BEq.rfl, Bool.not_eq_true, Bool.not_eq_false, decide_eq_true_eq, not_true_eq_false, not_false_eq_true, ite_true, ite_false, List.append_nil, and_assoc, Nat.mul_zero, Nat.zero_mul, b47_2, eidx, hr]
      refine And.intro (by omega) (And.intro (by omega) ?_)
      refine ⟨fun _ => ?_, fun h => by omega⟩
      repeat (refine And.intro (by first | omega | trivial | (intros; omega)) ?_)
      refine hK2 (j + 1) (show j + 1 ≤ w from hj') (show w - (j + 1) < w - j by omega) _ _ (Sub.pt ?_)
      simp only [hkk1]
      simp -implicitDefEqProofs only [push_cast, false_implies, reduceCtorEq, Classical.not_not, Nat.reduceAdd, Nat.reduceSub, Nat.reduceMul, Nat.reduceLeDiff, Nat.reduceLT, Nat.reduceEqDiff, Nat.reduceBEq, Nat.reduceBNe, Int.reduceNeg, Int.reduceToNat, Bool.or_false, Bool.false_or, Bool.or_true, Bool.true_or, BEq.rfl, Bool.not_eq_true, Bool.not_eq_false, decide_eq_true_eq, not_true_eq_false, not_false_eq_true, ite_true, ite_false, List.append_nil, and_assoc, Nat.mul_zero, Nat.zero_mul, m1, m2, Int.add_assoc]
    · obtain rfl : j = w := by omega
      clear hK2
      simp -implicitDefEqProofs only [push_cast, false_implies, reduceCtorEq, Classical.not_not, Nat.reduceAdd, Nat.reduceSub, Nat.reduceMul, Nat.reduceLeDiff, Nat.reduceLT, Nat.reduceEqDiff, Nat.reduceBEq, Nat.reduceBNe, Int.reduceNeg, Int.reduceToNat, Bool.or_false, Bool.false_or, Bool.or_true, Bool.true_or, BEq.rfl, Bool.not_eq_true, Bool.not_eq_false, decide_eq_true_eq, not_true_eq_false, not_false_eq_true, ite_true, ite_false, List.append_nil, and_assoc, Nat.mul_zero, Nat.zero_mul, b47_2, Int.lt_irrefl, true_implies, true_and]
      repeat (refine And.intro (by first | omega | trivial | (intros; omega)) ?_)
      refine hK (i + 1) (show i + 1 ≤ h from hi') (show h - (i + 1) < h - i by omega) _ _ (Sub.pt ?_)
      simp -implicitDefEqProofs only [push_cast, false_implies, reduceCtorEq, Classical.not_not, Nat.reduceAdd, Nat.reduceSub, Nat.reduceMul, Nat.reduceLeDiff, Nat.reduceLT, Nat.reduceEqDiff, Nat.reduceBEq, Nat.reduceBNe, Int.reduceNeg, Int.reduceToNat, Bool.or_false, Bool.false_or, Bool.or_true, Bool.true_or, BEq.rfl, Bool.not_eq_true, Bool.not_eq_false, decide_eq_true_eq, not_true_eq_false, not_false_eq_true, ite_true, ite_false, List.append_nil, and_assoc, Nat.mul_zero, Nat.zero_mul, Nat.add_mul, Nat.one_mul, Int.add_assoc]
  · obtain rfl : i = h := by omega
    clear hK
    have ec : i * w = w * i := Nat.mul_comm _ _
    simp -implicitDefEqProofs only [push_cast, false_implies, reduceCtorEq, Classical.not_not, Nat.reduceAdd, Nat.reduceSub, Nat.reduceMul, Nat.reduceLeDiff, Nat.reduceLT, Nat.reduceEqDiff, Nat.reduceBEq, Nat.reduceBNe, Int.reduceNeg, Int.reduceToNat, Bool.or_false, Bool.false_or, Bool.or_true, Bool.true_or, BEq.rfl, Bool.not_eq_true, Bool.not_eq_false, decide_eq_true_eq, not_true_eq_false, not_false_eq_true, ite_true, ite_false, List.append_nil, and_assoc, Nat.mul_zero, Nat.zero_mul, b47_1, r47_4, Int.lt_irrefl, true_implies, true_and]
    repeat (refine And.intro (by first | omega | trivial | (intros; omega)) ?_)
    refine postF.mk' (fun _ => default) [some 0] ?_
    simp -implicitDefEqProofs only [push_cast, false_implies, reduceCtorEq, Classical.not_not, Nat.reduceAdd, Nat.reduceSub, Nat.reduceMul, Nat.reduceLeDiff, Nat.reduceLT, Nat.reduceEqDiff, Nat.reduceBEq, Nat.reduceBNe, Int.reduceNeg, Int.reduceToNat, Bool.or_false, Bool.false_or, Bool.or_true, Bool.true_or, BEq.rfl, Bool.not_eq_true, Bool.not_eq_false, decide_eq_true_eq, not_true_eq_false, not_false_eq_true, ite_true, ite_false, List.append_nil, and_assoc, Nat.mul_zero, Nat.zero_mul, fs47, e1, e2, ec]
def ent47 : Entry := spOf fs47 inv47
theorem e47 : EntryOk Try.prog 47 ent47 := entry_of ok47 inv47
@[push_cast] theorem ent47_app (us : List SV) (look : Look) (x : Nat → Xf.Loc) (k : Nat) : ent47 us look x k = spOf fs47 inv47 us look x k := rfl
def b38_2 : IR :=
  .seq (.seq (.reg false [⟨some 50, none, ⟨[], []⟩, .mov (.t 11)⟩,
    ⟨some 51, none, ⟨[], []⟩, .fld (.t 5) 1⟩,
    ⟨some 52, none, ⟨[], []⟩, .ld false none 0 0 (.t 51)⟩,
    ⟨some 53, none, ⟨[], []⟩, .fld (.t 5) 3⟩,
    ⟨some 54, none, ⟨[], []⟩, .ld false none 0 0 (.t 53)⟩,
    ⟨some 55, none, ⟨[], []⟩, .bin 0 .add (.t 52) (.t 54)⟩,
    ⟨some 56, none, ⟨[], []⟩, .bin 0 .lss (.t 50) (.t 55)⟩] [50, 51, 52, 53, 54, 55] []) (.cond (.t 56) (.skip) (.exit 2))) (.seq (.block 3 (.seq (.reg false [⟨some 59, none, ⟨[], []⟩, .fld (.t 3) 2⟩,
    ⟨some 60, none, ⟨[], []⟩, .ld false none 0 0 (.t 59)⟩,
    ⟨some 61, none, ⟨[], []⟩, .mov (.t 10)⟩,
    ⟨some 62, none, ⟨[], []⟩, .fld (.t 3) 0⟩,
    ⟨some 63, none, ⟨[], []⟩, .ld false none 0 0 (.t 62)⟩,
    ⟨some 64, none, ⟨[], []⟩, .bin 0 .mul (.t 61) (.t 63)⟩,
    ⟨some 65, none, ⟨[], []⟩, .mov (.t 11)⟩,
    ⟨some 66, none, ⟨[], []⟩, .bin 0 .add (.t 64) (.t 65)⟩,
    ⟨some 67, none, ⟨[], []⟩, .idxS (.t 60) (.t 66) 1⟩,
    ⟨some 68, none, ⟨[], []⟩, .ld true none 0 0 (.t 67)⟩,
    ⟨some 12, none, ⟨[], []⟩, .mov (.t 68)⟩] [56, 59, 60, 61, 62, 63, 64, 65, 66, 67, 68] []) (.seq (.reg false [⟨some 69, none, ⟨[], []⟩, .fld (.t 5) 0⟩,
    ⟨some 70, none, ⟨[], []⟩, .ld false none 0 0 (.t 69)⟩,
    ⟨some 71, none, ⟨[], []⟩, .bin 0 .eql (.t 70) (.k (.int .i64 0))⟩] [69, 70] []) (.cond (.t 71) (.reg false [⟨some 72, none, ⟨[], []⟩, .mov (.t 9)⟩,
    ⟨some 73, none, ⟨[], []⟩, .mov (.t 8)⟩,
    ⟨some 74, none, ⟨[], []⟩, .bin 0 .add (.t 72) (.t 73)⟩,
    ⟨some 75, none, ⟨[], []⟩, .mov (.t 12)⟩,
    ⟨some 76, none, ⟨[], []⟩, .bin 0 .sub (.t 74) (.t 75)⟩,
    ⟨some 9, none, ⟨[], []⟩, .mov (.t 76)⟩] [12, 71, 72, 73, 74, 75, 76] []) (.reg false [⟨some 77, none, ⟨[], []⟩, .mov (.t 9)⟩,
    ⟨some 78, none, ⟨[], []⟩, .mov (.t 12)⟩,
    ⟨some 79, none, ⟨[], []⟩, .mov (.t 7)⟩,
    ⟨some 80, none, ⟨[], []⟩, .bin 0 .sub (.t 78) (.t 79)⟩,
    ⟨some 81, none, ⟨[], []⟩, .mov (.t 8)⟩,
    ⟨some 82, none, ⟨[], []⟩, .mov (.t 12)⟩,
    ⟨some 83, none, ⟨[], []⟩, .bin 0 .sub (.t 81) (.t 82)⟩,
    ⟨some 84, none, ⟨[], []⟩, .mn (.t 80) (.t 83)⟩,
    ⟨some 85, none, ⟨[], []⟩, .bin 0 .add (.t 77) (.t 84)⟩,
    ⟨some 9, none, ⟨[], []⟩, .mov (.t 85)⟩] [12, 71, 77, 78, 79, 80, 81, 82, 83, 84, 85] []))))) (.reg false [⟨some 57, none, ⟨[], []⟩, .mov (.t 11)⟩,
    ⟨some 58, none, ⟨[], []⟩, .bin 0 .add (.t 57) (.k (.int .i64 1))⟩,
    ⟨some 11, none, ⟨[], []⟩, .mov (.t 58)⟩] [57, 58] []))
def r38_3 : IR :=
  .reg false [⟨some 46, none, ⟨[], []⟩, .mov (.t 10)⟩,
    ⟨some 47, none, ⟨[], []⟩, .bin 0 .add (.t 46) (.k (.int .i64 1))⟩,
    ⟨some 10, none, ⟨[], []⟩, .mov (.t 47)⟩] [11, 46, 47] []
def b38_1 : IR :=
  .seq (.seq (.reg false [⟨some 39, none, ⟨[], []⟩, .mov (.t 10)⟩,
    ⟨some 40, none, ⟨[], []⟩, .fld (.t 5) 2⟩,
    ⟨some 41, none, ⟨[], []⟩, .ld false none 0 0 (.t 40)⟩,
    ⟨some 42, none, ⟨[], []⟩, .fld (.t 5) 4⟩,
    ⟨some 43, none, ⟨[], []⟩, .ld false none 0 0 (.t 42)⟩,
    ⟨some 44, none, ⟨[], []⟩, .bin 0 .add (.t 41) (.t 43)⟩,
    ⟨some 45, none, ⟨[], []⟩, .bin 0 .lss (.t 39) (.t 44)⟩] [39, 40, 41, 42, 43, 44] []) (.cond (.t 45) (.skip) (.exit 0))) (.seq (.block 1 (.seq (.reg false [⟨some 48, none, ⟨[], []⟩, .fld (.t 5) 1⟩,
    ⟨some 49, none, ⟨[], []⟩, .ld false none 0 0 (.t 48)⟩,
    ⟨some 11, none, ⟨[], []⟩, .mov (.t 49)⟩] [45, 48, 49] []) (.block 2 (.loop b38_2)))) (r38_3))
def r38_4 : IR :=
  .seq (.reg false [⟨some 86, none, ⟨[], []⟩, .mov (.t 9)⟩,
    ⟨some 6, none, ⟨[], []⟩, .mov (.t 86)⟩] [3, 5, 7, 8, 9, 10, 86] []) (.ret)
def ir38 : IR :=
  .seq (.reg false [⟨some 3, none, ⟨[], []⟩, .box 10 (.t 0)⟩,
    ⟨some 4, none, ⟨[], []⟩, .box 11 (.t 1)⟩,
    ⟨some 5, none, ⟨[], []⟩, .box 12 (.t 2)⟩,
    ⟨some 6, none, ⟨[], []⟩, .mov (.k (.int .i64 0))⟩] [0, 1, 2, 6] []) (.seq (.seq (.reg false [⟨some 13, none, ⟨[], []⟩, .fld (.t 5) 0⟩,
    ⟨some 14, none, ⟨[], []⟩, .ld false none 0 0 (.t 13)⟩,
    ⟨some 15, none, ⟨[], []⟩, .bin 0 .eql (.t 14) (.k (.int .i64 2))⟩] [13, 14] []) (.cond (.t 15) (.seq (.reg false [⟨some 16, none, ⟨[], []⟩, .fld (.t 4) 3⟩,
    ⟨some 17, none, ⟨[], []⟩, .ld false none 0 0 (.t 16)⟩,
    ⟨some 18, none, ⟨[], []⟩, .fld (.t 5) 3⟩,
    ⟨some 19, none, ⟨[], []⟩, .ld false none 0 0 (.t 18)⟩,
    ⟨some 20, none, ⟨[], []⟩, .bin 0 .mul (.t 17) (.t 19)⟩,
    ⟨some 21, none, ⟨[], []⟩, .fld (.t 5) 4⟩,
    ⟨some 22, none, ⟨[], []⟩, .ld false none 0 0 (.t 21)⟩,
    ⟨some 23, none, ⟨[], []⟩, .bin 0 .mul (.t 20) (.t 22)⟩,
    ⟨some 6, none, ⟨[], []⟩, .mov (.t 23)⟩] [3, 4, 5, 15, 16, 17, 18, 19, 20, 21, 22, 23] []) (.ret)) (.skip))) (.seq (.reg false [⟨some 25, none, ⟨[], []⟩, .ld false (some 3) 0 0 (.t 3)⟩,
    ⟨some 26, none, ⟨[], []⟩, .ld false (some 5) 0 0 (.t 5)⟩,
    ⟨some 27, none, ⟨[], []⟩, .call (some 4) 13 47 [.t 25, .t 26]⟩,
    ⟨some 24, none, ⟨[], []⟩, .mov (.t 27)⟩,
    ⟨some 28, none, ⟨[], []⟩, .ext (.t 24) 0⟩,
    ⟨some 29, none, ⟨[], []⟩, .ext (.t 24) 1⟩,
    ⟨some 7, none, ⟨[], []⟩, .mov (.t 28)⟩,
    ⟨some 8, none, ⟨[], []⟩, .mov (.t 29)⟩] [6, 15, 24, 25, 26, 27, 28, 29] []) (.seq (.reg false [⟨some 30, none, ⟨[], []⟩, .fld (.t 4) 1⟩,
    ⟨some 31, none, ⟨[], []⟩, .ld false none 0 0 (.t 30)⟩,
    ⟨some 9, none, ⟨[], []⟩, .mov (.t 31)⟩] [30, 31] []) (.seq (.seq (.reg false [⟨some 32, none, ⟨[], []⟩, .fld (.t 5) 0⟩,
    ⟨some 33, none, ⟨[], []⟩, .ld false none 0 0 (.t 32)⟩,
    ⟨some 34, none, ⟨[], []⟩, .bin 0 .eql (.t 33) (.k (.int .i64 1))⟩] [32, 33] []) (.cond (.t 34) (.reg false [⟨some 35, none, ⟨[], []⟩, .fld (.t 4) 2⟩,
    ⟨some 36, none, ⟨[], []⟩, .ld false none 0 0 (.t 35)⟩,
    ⟨some 9, none, ⟨[], []⟩, .mov (.t 36)⟩] [4, 34, 35, 36] []) (.skip))) (.seq (.seq (.reg false [⟨some 37, none, ⟨[], []⟩, .fld (.t 5) 2⟩,
    ⟨some 38, none, ⟨[], []⟩, .ld false none 0 0 (.t 37)⟩,
    ⟨some 10, none, ⟨[], []⟩, .mov (.t 38)⟩] [4, 34, 37, 38] []) (.block 0 (.loop b38_1))) (r38_4))))))
def kp38_2 : List Nat := [3, 5, 7, 8, 9, 10, 11]
def kl38_2 : List Nat := []
attribute [push_cast] kp38_2 kl38_2
def kp38_1 : List Nat := [3, 5, 7, 8, 9, 10]
def kl38_1 : List Nat := []
attribute [push_cast] kp38_1 kl38_1
set_option maxRecDepth 4000 in
theorem comp38 : (Try.f38.body.bind fun c => compC tab isP chkAll ir38 c) = some ir38 := by kernel_rfl
structure ReA where
  a : RpA
  e : En
  k : Int
def fs38 : FS where
  A := ReA
  args := fun a => [plV ⟨a.a.r.W, a.a.r.H, a.a.r.xs⟩ a.a.L 0, enV a.e, .agg [.int .i64 a.k, .int .i64 a.a.r.x, .int .i64 a.a.r.y, .int .i64 a.a.r.w, .int .i64 a.a.r.h]]
  mem := fun a => [some (.ro, a.a.L, .ints .i64 a.a.r.xs)]
  pre := fun a => a.a.r.Ok ∧ a.a.r.grey ∧ 0 < a.a.r.n ∧ a.e.Ok ∧ 0 ≤ a.k ∧ a.k ≤ 2
  res := fun a x => .int .i64 (a.a.r.en a.e a.k.toNat)
  out := fun _ _ => []
  new := fun _ _ => []
def inv38 : List SV → Look → Option (ReA × List Nat)
  | [p, .agg [.int .i64 c, .int .i64 q, .int .i64 t, .int .i64 i], .agg [.int .i64 k, .int .i64 x, .int .i64 y, .int .i64 w, .int .i64 h]], look => match getR look (.agg [.int .i64 x, .int .i64 y, .int .i64 w, .int .i64 h]) p with
    | some (a, g) => some (⟨a, ⟨c, q, t, i⟩, k⟩, g)
    | _ => none
  | _, _ => none
attribute [push_cast] inv38
set_option maxHeartbeats 1000000 in
theorem ok38 : FSOk Try.prog 38 fs38 := by
  refine ⟨⟨_, Try.func38, by kernel_rfl, by kernel_rfl⟩, fun a => ⟨by simp [fs38, push_cast, noMine, argOwn, Chunk.frArg], by simp [fs38, push_cast, outOk, Chunk.ext], fun x => .inl (by simp [fs38, push_cast, frNew, frOut, Chunk.fr])⟩, fun a hp => ?_⟩
  obtain ⟨⟨r, L⟩, e, kd⟩ := a
  obtain ⟨hp, hG, h0, hE, hk0, hk2⟩ : r.Ok ∧ r.grey ∧ 0 < r.n ∧ e.Ok ∧ 0 ≤ kd ∧ kd ≤ 2 := hp
  have hpa := fun {k : Nat} => Rp.pa_bd hG (k := k)
  have hte := fun {k : Nat} => Rp.te_bd hG (k := k)
  have hlohi := fun {k : Nat} => Rp.lohi hG (k := k)
  have e3 := rp_len hp
  have d0 : r.en e 0 = e.paper + sumN (fun k => r.hi - r.val k) r.n := rfl
  have d1 : r.en e 1 = e.text + sumN (fun k => min (r.val k - r.lo) (r.hi - r.val k)) r.n := rfl
  have d2 : r.en e 2 = e.pic * r.w * r.h := rfl
  have eend : (fs47).pre ⟨⟨r, L⟩, kd⟩ := ⟨hp, hG, h0⟩
  unfold Rp.pa at hpa
  unfold Rp.te at hte
  obtain ⟨v, hv⟩ : ∃ v, r.val = v := ⟨_, rfl⟩
  obtain ⟨lo, hlo⟩ : ∃ v, r.lo = v := ⟨_, rfl⟩
  obtain ⟨hi, hhi⟩ : ∃ v, r.hi = v := ⟨_, rfl⟩
  simp only [hv, hlo, hhi] at d0 d1 hpa hte hlohi
  obtain ⟨x, y, w, h, W, H, xs⟩ := r
  have hat := fun {i j : Nat} (hj : j < w) => val_at (x := x) (y := y) (h := h) (W := W) (H := H) (xs := xs) (i := i) hj
  rw [hv] at hat
  obtain ⟨o1, o2, o3, o4, o5⟩ := id hp
  obtain ⟨c, q, t, i⟩ := e
  obtain ⟨⟨q1, q2⟩, ⟨q3, q4⟩, ⟨q5, q6⟩, ⟨q7, q8⟩⟩ := id hE
  simp only [Rp.n] at o1 o2 o3 o4 o5 e3 d0 d1 d2 h0 hpa hte hlohi q1 q2 q3 q4 q5 q6 q7 q8
  have hwh : w * h ≤ 40000 := Nat.mul_le_mul (show w ≤ 200 by omega) (show h ≤ 200 by omega)
  change Tri Try.prog 38 [plV ⟨W, H, xs⟩ L 0, .agg [.int .i64 c, .int .i64 q, .int .i64 t, .int .i64 i], .agg [.int .i64 kd, .int .i64 x, .int .i64 y, .int .i64 w, .int .i64 h]] [some (.ro, L, .ints .i64 xs)] (postF fs38 ⟨⟨⟨x, y, w, h, W, H, xs⟩, L⟩, ⟨c, q, t, i⟩, kd⟩)
  refine tri_evS (hyp (l := [(47, ent47)]) (lp := []) ⟨e47, trivial⟩ trivial) Try.func38 comp38 (rs := [.tmp 6]) (by rfl) Try.ntmps38 17 ?_
  have z0 : (0 : Int).toNat = 0 := rfl
  have z1 : (1 : Int).toNat = 1 := rfl
  have z2 : (2 : Int).toNat = 2 := rfl
  have c1 : ¬ (0 : Int) = 2 := by decide
  have c2 : ¬ (0 : Int) = 1 := by decide
  have c3 : ¬ (1 : Int) = 2 := by decide
  have c4 : ¬ (1 : Int) = 0 := by decide
  have hk : kd = 0 ∨ kd = 1 ∨ kd = 2 := by omega
  rcases hk with rfl | rfl | rfl
  · obtain ⟨F, hF⟩ : ∃ F : Nat → Int, (fun k => hi - v k) = F := ⟨_, rfl⟩
    have hFk : ∀ k, F k = hi - v k := fun k => by rw [← hF]
    rw [hF] at d0 hpa
    have hbd := fun {k : Nat} => hpa (k := k)
    simp -implicitDefEqProofs only [push_cast, false_implies, reduceCtorEq, Classical.not_not, Nat.reduceAdd, Nat.reduceSub, Nat.reduceMul, Nat.reduceLeDiff, Nat.reduceLT, Nat.reduceEqDiff, Nat.reduceBEq, Nat.reduceBNe, Int.reduceNeg, Int.reduceToNat, Bool.or_false, Bool.false_or, Bool.or_true, Bool.true_or, BEq.rfl, Bool.not_eq_true, Bool.not_eq_false, decide_eq_true_eq, not_true_eq_false, not_false_eq_true, ite_true, ite_false, List.append_nil, and_assoc, Nat.mul_zero, Nat.zero_mul, ir38, fs47, plV, Int.toNat_natCast, hp, hG, hlo, hhi, c1, c2, c3, c4]
    intro X
    refine ⟨h0, ?_⟩
    refine evS_loopU (A := Nat) kp38_1 kl38_1 (fun i => [(9, .int .i64 (q + sumN F (i * w))), (10, .int .i64 ((y + i : Nat) : Int))]) (fun _ => []) (fun i => i ≤ h) (fun i => h - i) 0 (Nat.zero_le _) (Sub.pt ?_) ?_
    · simp -implicitDefEqProofs only [push_cast, false_implies, reduceCtorEq, Classical.not_not, Nat.reduceAdd, Nat.reduceSub, Nat.reduceMul, Nat.reduceLeDiff, Nat.reduceLT, Nat.reduceEqDiff, Nat.reduceBEq, Nat.reduceBNe, Int.reduceNeg, Int.reduceToNat, Bool.or_false, Bool.false_or, Bool.or_true, Bool.true_or, BEq.rfl, Bool.not_eq_true, Bool.not_eq_false, decide_eq_true_eq, not_true_eq_false, not_false_eq_true, ite_true, ite_false, List.append_nil, and_assoc, Nat.mul_zero, Nat.zero_mul, Nat.zero_mul, sumN]
    intro i (hi' : i ≤ h) K hK
    by_cases hi'' : i < h
    · simp -implicitDefEqProofs only [push_cast, false_implies, reduceCtorEq, Classical.not_not, Nat.reduceAdd, Nat.reduceSub, Nat.reduceMul, Nat.reduceLeDiff, Nat.reduceLT, Nat.reduceEqDiff, Nat.reduceBEq, Nat.reduceBNe, Int.reduceNeg, Int.reduceToNat, Bool.or_false, Bool.false_or, Bool.or_true, Bool.true_or, BEq.rfl, Bool.not_eq_true, Bool.not_eq_false, decide_eq_true_eq, not_true_eq_false, not_false_eq_true, ite_true, ite_false, List.append_nil, and_assoc, Nat.mul_zero, Nat.zero_mul, b38_1, r38_3]
      repeat (refine And.intro (by first | omega | trivial | (intros; omega)) ?_)
      refine ⟨fun _ => ?_, fun h => by omega⟩
      refine evS_loopU (A := Nat) kp38_2 kl38_2 (fun j => [(9, .int .i64 (q + sumN F (i * w + j))), (11, .int .i64 ((x + j : Nat) : Int))]) (fun _ => []) (fun j => j ≤ w) (fun j => w - j) 0 (Nat.zero_le _) (Sub.pt ?_) ?_
      · simp -implicitDefEqProofs only [push_cast, false_implies, reduceCtorEq, Classical.not_not, Nat.reduceAdd, Nat.reduceSub, Nat.reduceMul, Nat.reduceLeDiff, Nat.reduceLT, Nat.reduceEqDiff, Nat.reduceBEq, Nat.reduceBNe, Int.reduceNeg, Int.reduceToNat, Bool.or_false, Bool.false_or, Bool.or_true, Bool.true_or, BEq.rfl, Bool.not_eq_true, Bool.not_eq_false, decide_eq_true_eq, not_true_eq_false, not_false_eq_true, ite_true, ite_false, List.append_nil, and_assoc, Nat.mul_zero, Nat.zero_mul, Nat.add_zero]
      intro j (hj : j ≤ w) K2 hK2
      by_cases hj' : j < w
      · have hlt : (y + i + 1) * W ≤ H * W := Nat.mul_le_mul_right W (by omega)
        rw [Nat.add_mul (y + i) 1] at hlt
        have hix : (y + i) * W + (x + j) < xs.length := by omega
        have hm := mul_bd (a := ((y + i : Nat) : Int)) (b := (W : Int)) (A := 200) (B := 200) (by omega) (by omega) (by omega) (by omega)
        have eidx : ((y : Int) + i) * W + (x + j) = (((y + i) * W + (x + j) : Nat) : Int) := by simp
        have hr := (hat (i := i) hj').symm
        push_cast at hm
        obtain ⟨ix, hixx⟩ : ∃ ix, (y + i) * W + (x + j) = ix := ⟨_, rfl⟩
        rw [hixx] at hix eidx hr
        have hvw : (i + 1) * w ≤ h * w := Nat.mul_le_mul_right _ hi''
        rw [Nat.add_mul, Nat.mul_comm h w] at hvw
        have hkn : i * w + j < w * h := by omega
        obtain ⟨kk, hkk⟩ : ∃ kk, i * w + j = kk := ⟨_, rfl⟩
        have hkk1 : i * w + (j + 1) = kk + 1 := by omega
        rw [hkk] at hr hkn
        obtain ⟨u1, u2⟩ := hbd (k := kk) (by omega)
        obtain ⟨w1, w2, w3, w4⟩ := hlohi hkn
        have m1 : sumN F (kk + 1) = sumN F kk + F kk := rfl
        have m2 := hFk kk
        obtain ⟨V, hV⟩ : ∃ V, v kk = V := ⟨_, rfl⟩
        obtain ⟨S0, hS0⟩ : ∃ V, sumN F kk = V := ⟨_, rfl⟩
        rw [hV] at hr m2 w2 w3
        rw [m2, hS0] at m1
        rw [hS0] at u1 u2
        simp only [hkk, hS0]
        simp -implicitDefEqProofs only [push_cast, false_implies, reduceCtorEq, Classical.not_not, Nat.reduceAdd, Nat.reduceSub, Nat.reduceMul, Nat.reduceLeDiff, Nat.reduceLT, Nat.reduceEqDiff, Nat.reduceBEq, Nat.reduceBNe, Int.reduceNeg, Int.reduceToNat, Bool.or_false, Bool.false_or, Bool.or_true, Bool.true_or, BEq.rfl, Bool.not_eq_true, Bool.not_eq_false, decide_eq_true_eq, not_true_eq_false, not_false_eq_true, ite_true, ite_false, List.append_nil, and_assoc, Nat.mul_zero, Nat.zero_mul, b38_2, eidx, hr, c1, c2, c3, c4]
        refine And.intro (by omega) (And.intro (by omega) ?_)
        refine ⟨fun _ => ?_, fun h => by omega⟩
        repeat (refine And.intro (by first | omega | trivial | (intros; omega)) ?_)
        refine hK2 (j + 1) (show j + 1 ≤ w from hj') (show w - (j + 1) < w - j by omega) _ _ (Sub.pt ?_)
        simp only [hkk1]
        simp -implicitDefEqProofs only [push_cast, false_implies, reduceCtorEq, Classical.not_not, Nat.reduceAdd, Nat.reduceSub, Nat.reduceMul, Nat.reduceLeDiff, Nat.reduceLT, Nat.reduceEqDiff, Nat.reduceBEq, Nat.reduceBNe, Int.reduceNeg, Int.reduceToNat, Bool.or_false, Bool.false_or, Bool.or_true, Bool.true_or, BEq.rfl, Bool.not_eq_true, Bool.not_eq_false, decide_eq_true_eq, not_true_eq_false, not_false_eq_true, ite_true, ite_false, List.append_nil, and_assoc, Nat.mul_zero, Nat.zero_mul, m1, Int.add_assoc, Int.add_sub_assoc]
      · obtain rfl : j = w := by omega
        clear hK2
        simp -implicitDefEqProofs only [push_cast, false_implies, reduceCtorEq, Classical.not_not, Nat.reduceAdd, Nat.reduceSub, Nat.reduceMul, Nat.reduceLeDiff, Nat.reduceLT, Nat.reduceEqDiff, Nat.reduceBEq, Nat.reduceBNe, Int.reduceNeg, Int.reduceToNat, Bool.or_false, Bool.false_or, Bool.or_true, Bool.true_or, BEq.rfl, Bool.not_eq_true, Bool.not_eq_false, decide_eq_true_eq, not_true_eq_false, not_false_eq_true, ite_true, ite_false, List.append_nil, and_assoc, Nat.mul_zero, Nat.zero_mul, b38_2, Int.lt_irrefl, true_implies, true_and]
        repeat (refine And.intro (by first | omega | trivial | (intros; omega)) ?_)
        refine hK (i + 1) (show i + 1 ≤ h from hi'') (show h - (i + 1) < h - i by omega) _ _ (Sub.pt ?_)
        simp -implicitDefEqProofs only [push_cast, false_implies, reduceCtorEq, Classical.not_not, Nat.reduceAdd, Nat.reduceSub, Nat.reduceMul, Nat.reduceLeDiff, Nat.reduceLT, Nat.reduceEqDiff, Nat.reduceBEq, Nat.reduceBNe, Int.reduceNeg, Int.reduceToNat, Bool.or_false, Bool.false_or, Bool.or_true, Bool.true_or, BEq.rfl, Bool.not_eq_true, Bool.not_eq_false, decide_eq_true_eq, not_true_eq_false, not_false_eq_true, ite_true, ite_false, List.append_nil, and_assoc, Nat.mul_zero, Nat.zero_mul, Nat.add_mul, Nat.one_mul, Int.add_assoc]
    · obtain rfl : i = h := by omega
      clear hK
      have ec : i * w = w * i := Nat.mul_comm _ _
      simp -implicitDefEqProofs only [push_cast, false_implies, reduceCtorEq, Classical.not_not, Nat.reduceAdd, Nat.reduceSub, Nat.reduceMul, Nat.reduceLeDiff, Nat.reduceLT, Nat.reduceEqDiff, Nat.reduceBEq, Nat.reduceBNe, Int.reduceNeg, Int.reduceToNat, Bool.or_false, Bool.false_or, Bool.or_true, Bool.true_or, BEq.rfl, Bool.not_eq_true, Bool.not_eq_false, decide_eq_true_eq, not_true_eq_false, not_false_eq_true, ite_true, ite_false, List.append_nil, and_assoc, Nat.mul_zero, Nat.zero_mul, b38_1, r38_4, Int.lt_irrefl, true_implies, true_and]
      repeat (refine And.intro (by first | omega | trivial | (intros; omega)) ?_)
      refine postF.mk' (fun _ => default) [some 0] ?_
      simp -implicitDefEqProofs only [push_cast, false_implies, reduceCtorEq, Classical.not_not, Nat.reduceAdd, Nat.reduceSub, Nat.reduceMul, Nat.reduceLeDiff, Nat.reduceLT, Nat.reduceEqDiff, Nat.reduceBEq, Nat.reduceBNe, Int.reduceNeg, Int.reduceToNat, Bool.or_false, Bool.false_or, Bool.or_true, Bool.true_or, BEq.rfl, Bool.not_eq_true, Bool.not_eq_false, decide_eq_true_eq, not_true_eq_false, not_false_eq_true, ite_true, ite_false, List.append_nil, and_assoc, Nat.mul_zero, Nat.zero_mul, fs38, z0, d0, ec]
  · obtain ⟨F, hF⟩ : ∃ F : Nat → Int, (fun k => min (v k - lo) (hi - v k)) = F := ⟨_, rfl⟩
    have hFk : ∀ k, F k = min (v k - lo) (hi - v k) := fun k => by rw [← hF]
    rw [hF] at d1 hte
    have hbd := fun {k : Nat} => hte (k := k)
    simp -implicitDefEqProofs only [push_cast, false_implies, reduceCtorEq, Classical.not_not, Nat.reduceAdd, Nat.reduceSub, Nat.reduceMul, Nat.reduceLeDiff, Nat.reduceLT, Nat.reduceEqDiff, Nat.reduceBEq, Nat.reduceBNe, Int.reduceNeg, Int.reduceToNat, Bool.or_false, Bool.false_or, Bool.or_true, Bool.true_or, BEq.rfl, Bool.not_eq_true, Bool.not_eq_false, decide_eq_true_eq, not_true_eq_false, not_false_eq_true, ite_true, ite_false, List.append_nil, and_assoc, Nat.mul_zero, Nat.zero_mul, ir38, fs47, plV, Int.toNat_natCast, hp, hG, hlo, hhi, c1, c2, c3, c4]
    intro X
    refine ⟨h0, ?_⟩
    refine evS_loopU (A := Nat) kp38_1 kl38_1 (fun i => [(9, .int .i64 (t + sumN F (i * w))), (10, .int .i64 ((y + i : Nat) : Int))]) (fun _ => []) (fun i => i ≤ h) (fun i => h - i) 0 (Nat.zero_le _) (Sub.pt ?_) ?_
    · simp -implicitDefEqProofs only [push_cast, false_implies, reduceCtorEq, Classical.not_not, Nat.reduceAdd, Nat.reduceSub, Nat.reduceMul, Nat.reduceLeDiff, Nat.reduceLT, Nat.reduceEqDiff, Nat.reduceBEq, Nat.reduceBNe, Int.reduceNeg, Int.reduceToNat, Bool.or_false, Bool.false_or, Bool.or_true, Bool.true_or, BEq.rfl, Bool.not_eq_true, Bool.not_eq_false, decide_eq_true_eq, not_true_eq_false, not_false_eq_true, ite_true, ite_false, List.append_nil, and_assoc, Nat.mul_zero, Nat.zero_mul, Nat.zero_mul, sumN]
    intro i (hi' : i ≤ h) K hK
    by_cases hi'' : i < h
    · simp -implicitDefEqProofs only [push_cast, false_implies, reduceCtorEq, Classical.not_not, Nat.reduceAdd, Nat.reduceSub, Nat.reduceMul, Nat.reduceLeDiff, Nat.reduceLT, Nat.reduceEqDiff, Nat.reduceBEq, Nat.reduceBNe, Int.reduceNeg, Int.reduceToNat, Bool.or_false, Bool.false_or, Bool.or_true, Bool.true_or, BEq.rfl, Bool.not_eq_true, Bool.not_eq_false, decide_eq_true_eq, not_true_eq_false, not_false_eq_true, ite_true, ite_false, List.append_nil, and_assoc, Nat.mul_zero, Nat.zero_mul, b38_1, r38_3]
      repeat (refine And.intro (by first | omega | trivial | (intros; omega)) ?_)
      refine ⟨fun _ => ?_, fun h => by omega⟩
      refine evS_loopU (A := Nat) kp38_2 kl38_2 (fun j => [(9, .int .i64 (t + sumN F (i * w + j))), (11, .int .i64 ((x + j : Nat) : Int))]) (fun _ => []) (fun j => j ≤ w) (fun j => w - j) 0 (Nat.zero_le _) (Sub.pt ?_) ?_
      · simp -implicitDefEqProofs only [push_cast, false_implies, reduceCtorEq, Classical.not_not, Nat.reduceAdd, Nat.reduceSub, Nat.reduceMul, Nat.reduceLeDiff, Nat.reduceLT, Nat.reduceEqDiff, Nat.reduceBEq, Nat.reduceBNe, Int.reduceNeg, Int.reduceToNat, Bool.or_false, Bool.false_or, Bool.or_true, Bool.true_or, BEq.rfl, Bool.not_eq_true, Bool.not_eq_false, decide_eq_true_eq, not_true_eq_false, not_false_eq_true, ite_true, ite_false, List.append_nil, and_assoc, Nat.mul_zero, Nat.zero_mul, Nat.add_zero]
      intro j (hj : j ≤ w) K2 hK2
      by_cases hj' : j < w
      · have hlt : (y + i + 1) * W ≤ H * W := Nat.mul_le_mul_right W (by omega)
        rw [Nat.add_mul (y + i) 1] at hlt
        have hix : (y + i) * W + (x + j) < xs.length := by omega
        have hm := mul_bd (a := ((y + i : Nat) : Int)) (b := (W : Int)) (A := 200) (B := 200) (by omega) (by omega) (by omega) (by omega)
        have eidx : ((y : Int) + i) * W + (x + j) = (((y + i) * W + (x + j) : Nat) : Int) := by simp
        have hr := (hat (i := i) hj').symm
        push_cast at hm
        obtain ⟨ix, hixx⟩ : ∃ ix, (y + i) * W + (x + j) = ix := ⟨_, rfl⟩
        rw [hixx] at hix eidx hr
        have hvw : (i + 1) * w ≤ h * w := Nat.mul_le_mul_right _ hi''
        rw [Nat.add_mul, Nat.mul_comm h w] at hvw
        have hkn : i * w + j < w * h := by omega
        obtain ⟨kk, hkk⟩ : ∃ kk, i * w + j = kk := ⟨_, rfl⟩
        have hkk1 : i * w + (j + 1) = kk + 1 := by omega
        rw [hkk] at hr hkn
        obtain ⟨u1, u2⟩ := hbd (k := kk) (by omega)
        obtain ⟨w1, w2, w3, w4⟩ := hlohi hkn
        have m1 : sumN F (kk + 1) = sumN F kk + F kk := rfl
        have m2 := hFk kk
        obtain ⟨V, hV⟩ : ∃ V, v kk = V := ⟨_, rfl⟩
        obtain ⟨S0, hS0⟩ : ∃ V, sumN F kk = V := ⟨_, rfl⟩
        rw [hV] at hr m2 w2 w3
        rw [m2, hS0] at m1
        rw [hS0] at u1 u2
        simp only [hkk, hS0]
        simp -implicitDefEqProofs only [push_cast, false_implies, reduceCtorEq, Classical.not_not, Nat.reduceAdd, Nat.reduceSub, Nat.reduceMul, Nat.reduceLeDiff, Nat.reduceLT, Nat.reduceEqDiff, Nat.reduceBEq, Nat.reduceBNe, Int.reduceNeg, Int.reduceToNat, Bool.or_false, Bool.false_or, Bool.or_true, Bool.true_or, BEq.rfl, Bool.not_eq_true, Bool.not_eq_false, decide_eq_true_eq, not_true_eq_false, not_false_eq_true, ite_true, ite_false, List.append_nil, and_assoc, Nat.mul_zero, Nat.zero_mul, b38_2, eidx, hr, c1, c2, c3, c4]
        refine And.intro (by omega) (And.intro (by omega) ?_)
        refine ⟨fun _ => ?_, fun h => by omega⟩
        repeat (refine And.intro (by first | omega | trivial | (intros; omega)) ?_)
        refine hK2 (j + 1) (show j + 1 ≤ w from hj') (show w - (j + 1) < w - j by omega) _ _ (Sub.pt ?_)
        simp only [hkk1]
        simp -implicitDefEqProofs only [push_cast, false_implies, reduceCtorEq, Classical.not_not, Nat.reduceAdd, Nat.reduceSub, Nat.reduceMul, Nat.reduceLeDiff, Nat.reduceLT, Nat.reduceEqDiff, Nat.reduceBEq, Nat.reduceBNe, Int.reduceNeg, Int.reduceToNat, Bool.or_false, Bool.false_or, Bool.or_true, Bool.true_or, BEq.rfl, Bool.not_eq_true, Bool.not_eq_false, decide_eq_true_eq, not_true_eq_false, not_false_eq_true, ite_true, ite_false, List.append_nil, and_assoc, Nat.mul_zero, Nat.zero_mul, m1, Int.add_assoc, Int.add_sub_assoc]
      · obtain rfl : j = w := by omega
        clear hK2
        simp -implicitDefEqProofs only [push_cast, false_implies, reduceCtorEq, Classical.not_not, Nat.reduceAdd, Nat.reduceSub, Nat.reduceMul, Nat.reduceLeDiff, Nat.reduceLT, Nat.reduceEqDiff, Nat.reduceBEq, Nat.reduceBNe, Int.reduceNeg, Int.reduceToNat, Bool.or_false, Bool.false_or, Bool.or_true, Bool.true_or, BEq.rfl, Bool.not_eq_true, Bool.not_eq_false, decide_eq_true_eq, not_true_eq_false, not_false_eq_true, ite_true, ite_false, List.append_nil, and_assoc, Nat.mul_zero, Nat.zero_mul, b38_2, Int.lt_irrefl, true_implies, true_and]
        repeat (refine And.intro (by first | omega | trivial | (intros; omega)) ?_)
        refine hK (i + 1) (show i + 1 ≤ h from hi'') (show h - (i + 1) < h - i by omega) _ _ (Sub.pt ?_)
        simp -implicitDefEqProofs only [push_cast, false_implies, reduceCtorEq, Classical.not_not, Nat.reduceAdd, Nat.reduceSub, Nat.reduceMul, Nat.reduceLeDiff, Nat.reduceLT, Nat.reduceEqDiff, Nat.reduceBEq, Nat.reduceBNe, Int.reduceNeg, Int.reduceToNat, Bool.or_false, Bool.false_or, Bool.or_true, Bool.true_or, BEq.rfl, Bool.not_eq_true, Bool.not_eq_false, decide_eq_true_eq, not_true_eq_false, not_false_eq_true, ite_true, ite_false, List.append_nil, and_assoc, Nat.mul_zero, Nat.zero_mul, Nat.add_mul, Nat.one_mul, Int.add_assoc]
    · obtain rfl : i = h := by omega
      clear hK
      have ec : i * w = w * i := Nat.mul_comm _ _
      simp -implicitDefEqProofs only [push_cast, false_implies, reduceCtorEq, Classical.not_not, Nat.reduceAdd, Nat.reduceSub, Nat.reduceMul, Nat.reduceLeDiff, Nat.reduceLT, Nat.reduceEqDiff, Nat.reduceBEq, Nat.reduceBNe, Int.reduceNeg, Int.reduceToNat, Bool.or_false, Bool.false_or, Bool.or_true, Bool.true_or, BEq.rfl, Bool.not_eq_true, Bool.not_eq_false, decide_eq_true_eq, not_true_eq_false, not_false_eq_true, ite_true, ite_false, List.append_nil, and_assoc, Nat.mul_zero, Nat.zero_mul, b38_1, r38_4, Int.lt_irrefl, true_implies, true_and]
      repeat (refine And.intro (by first | omega | trivial | (intros; omega)) ?_)
      refine postF.mk' (fun _ => default) [some 0] ?_
      simp -implicitDefEqProofs only [push_cast, false_implies, reduceCtorEq, Classical.not_not, Nat.reduceAdd, Nat.reduceSub, Nat.reduceMul, Nat.reduceLeDiff, Nat.reduceLT, Nat.reduceEqDiff, Nat.reduceBEq, Nat.reduceBNe, Int.reduceNeg, Int.reduceToNat, Bool.or_false, Bool.false_or, Bool.or_true, Bool.true_or, BEq.rfl, Bool.not_eq_true, Bool.not_eq_false, decide_eq_true_eq, not_true_eq_false, not_false_eq_true, ite_true, ite_false, List.append_nil, and_assoc, Nat.mul_zero, Nat.zero_mul, fs38, z1, d1, ec]
  · have p1 := mul_bd (a := i) (b := (w : Int)) (A := 100000) (B := 200) (by omega) (by omega) (by omega) (by omega)
    have p2 := mul_bd (a := i * (w : Int)) (b := (h : Int)) (A := 20000000) (B := 200) (by omega) (by omega) (by omega) (by omega)
    simp -implicitDefEqProofs only [push_cast, false_implies, reduceCtorEq, Classical.not_not, Nat.reduceAdd, Nat.reduceSub, Nat.reduceMul, Nat.reduceLeDiff, Nat.reduceLT, Nat.reduceEqDiff, Nat.reduceBEq, Nat.reduceBNe, Int.reduceNeg, Int.reduceToNat, Bool.or_false, Bool.false_or, Bool.or_true, Bool.true_or, BEq.rfl, Bool.not_eq_true, Bool.not_eq_false, decide_eq_true_eq, not_true_eq_false, not_false_eq_true, ite_true, ite_false, List.append_nil, and_assoc, Nat.mul_zero, Nat.zero_mul, ir38, plV]
    intro X
    repeat (refine And.intro (by first | omega | trivial | (intros; omega)) ?_)
    refine postF.mk' (fun _ => default) [some 0] ?_
    simp -implicitDefEqProofs only [push_cast, false_implies, reduceCtorEq, Classical.not_not, Nat.reduceAdd, Nat.reduceSub, Nat.reduceMul, Nat.reduceLeDiff, Nat.reduceLT, Nat.reduceEqDiff, Nat.reduceBEq, Nat.reduceBNe, Int.reduceNeg, Int.reduceToNat, Bool.or_false, Bool.false_or, Bool.or_true, Bool.true_or, BEq.rfl, Bool.not_eq_true, Bool.not_eq_false, decide_eq_true_eq, not_true_eq_false, not_false_eq_true, ite_true, ite_false, List.append_nil, and_assoc, Nat.mul_zero, Nat.zero_mul, fs38, z2, d2]
def ent38 : Entry := spOf fs38 inv38
theorem e38 : EntryOk Try.prog 38 ent38 := entry_of ok38 inv38
@[push_cast] theorem ent38_app (us : List SV) (look : Look) (x : Nat → Xf.Loc) (k : Nat) : ent38 us look x k = spOf fs38 inv38 us look x k := rfl
def b62_1 : IR :=
  .seq (.seq (.reg false [⟨some 65, none, ⟨[], []⟩, .mov (.t 7)⟩,
    ⟨some 66, none, ⟨[], []⟩, .mov (.t 5)⟩,
    ⟨some 67, none, ⟨[], []⟩, .len (.t 66)⟩,
    ⟨some 68, none, ⟨[], []⟩, .bin 0 .lss (.t 65) (.t 67)⟩] [65, 66, 67] []) (.cond (.t 68) (.skip) (.exit 0))) (.seq (.block 1 (.seq (.reg false [⟨some 71, none, ⟨[], []⟩, .mov (.t 5)⟩,
    ⟨some 72, none, ⟨[], []⟩, .mov (.t 7)⟩,
    ⟨some 73, none, ⟨[], []⟩, .idxS (.t 71) (.t 72) 5⟩,
    ⟨some 74, none, ⟨[], []⟩, .fld (.t 73) 3⟩,
    ⟨some 75, none, ⟨[], []⟩, .ld true none 0 0 (.t 74)⟩,
    ⟨some 76, none, ⟨[], []⟩, .bin 0 .gtr (.t 75) (.k (.int .i64 0))⟩,
    ⟨some 77, none, ⟨[], []⟩, .mov (.t 76)⟩,
    ⟨some 78, some (77, true), ⟨[], []⟩, .mov (.t 5)⟩,
    ⟨some 79, some (77, true), ⟨[], []⟩, .mov (.t 7)⟩,
    ⟨some 80, some (77, true), ⟨[], []⟩, .idxS (.t 78) (.t 79) 5⟩,
    ⟨some 81, some (77, true), ⟨[], []⟩, .fld (.t 80) 4⟩,
    ⟨some 82, some (77, true), ⟨[], []⟩, .ld true none 0 0 (.t 81)⟩,
    ⟨some 83, some (77, true), ⟨[], []⟩, .bin 0 .gtr (.t 82) (.k (.int .i64 0))⟩,
    ⟨some 84, none, ⟨[], []⟩, .pick (.t 77) (.t 83) (.k (.bool false))⟩] [68, 71, 72, 73, 74, 75, 76, 77, 78, 79, 80, 81, 82, 83] []) (.cond (.t 84) (.reg false [⟨some 85, none, ⟨[], []⟩, .mov (.t 6)⟩,
    ⟨some 86, none, ⟨[], []⟩, .mov (.t 5)⟩,
    ⟨some 87, none, ⟨[], []⟩, .mov (.t 7)⟩,
    ⟨some 88, none, ⟨[], []⟩, .idxS (.t 86) (.t 87) 5⟩,
    ⟨some 89, none, ⟨[], []⟩, .ld true (some 5) 0 0 (.t 88)⟩,
    ⟨some 90, none, ⟨[], []⟩, .brecs 12 5 .i64 [.t 89]⟩,
    ⟨some 91, none, ⟨[], []⟩, .app 13 5 40 (.t 85) (.t 90)⟩,
    ⟨some 6, none, ⟨[], []⟩, .mov (.t 91)⟩] [84, 85, 86, 87, 88, 89, 90, 91] []) (.skip)))) (.reg false [⟨some 69, none, ⟨[], []⟩, .mov (.t 7)⟩,
    ⟨some 70, none, ⟨[], []⟩, .bin 0 .add (.t 69) (.k (.int .i64 1))⟩,
    ⟨some 7, none, ⟨[], []⟩, .mov (.t 70)⟩] [69, 70, 84] []))
def r62_2 : IR :=
  .seq (.reg false [⟨some 92, none, ⟨[], []⟩, .mov (.t 6)⟩,
    ⟨some 2, none, ⟨[], []⟩, .mov (.t 92)⟩] [5, 6, 7, 92] []) (.ret)
def ir62 : IR :=
  .seq (.reg false [⟨some 1, none, ⟨[], []⟩, .box 10 (.t 0)⟩,
    ⟨some 2, none, ⟨[], []⟩, .mov (.k nilSV)⟩] [0, 2] []) (.seq (.reg true [⟨some 8, none, ⟨[], []⟩, .fld (.t 1) 3⟩,
    ⟨some 9, none, ⟨[], []⟩, .ld false none 0 0 (.t 8)⟩,
    ⟨some 10, none, ⟨[], []⟩, .bin 0 .add (.t 9) (.k (.int .i64 1))⟩,
    ⟨some 11, none, ⟨[], []⟩, .bin 0 .quo (.t 10) (.k (.int .i64 2))⟩,
    ⟨some 12, none, ⟨[], []⟩, .fld (.t 1) 4⟩,
    ⟨some 13, none, ⟨[], []⟩, .ld false none 0 0 (.t 12)⟩,
    ⟨some 14, none, ⟨[], []⟩, .bin 0 .add (.t 13) (.k (.int .i64 1))⟩,
    ⟨some 15, none, ⟨[], []⟩, .bin 0 .quo (.t 14) (.k (.int .i64 2))⟩,
    ⟨some 3, none, ⟨[], []⟩, .mov (.t 11)⟩,
    ⟨some 4, none, ⟨[], []⟩, .mov (.t 15)⟩] [8, 9, 10, 11, 12, 13, 14, 15] []) (.seq (.reg false [⟨some 16, none, ⟨[], []⟩, .fld (.t 1) 1⟩,
    ⟨some 17, none, ⟨[], []⟩, .ld false none 0 0 (.t 16)⟩,
    ⟨some 18, none, ⟨[], []⟩, .fld (.t 1) 2⟩,
    ⟨some 19, none, ⟨[], []⟩, .ld false none 0 0 (.t 18)⟩,
    ⟨some 20, none, ⟨[], []⟩, .mov (.t 3)⟩,
    ⟨some 21, none, ⟨[], []⟩, .mov (.t 4)⟩,
    ⟨some 22, none, ⟨[], []⟩, .build [.int .i64 0, .int .i64 0, .int .i64 0, .int .i64 0, .int .i64 0] [(1, 1, .t 17), (2, 1, .t 19), (3, 1, .t 20), (4, 1, .t 21)]⟩,
    ⟨some 23, none, ⟨[], []⟩, .fld (.t 1) 1⟩,
    ⟨some 24, none, ⟨[], []⟩, .ld false none 0 0 (.t 23)⟩,
    ⟨some 25, none, ⟨[], []⟩, .mov (.t 3)⟩,
    ⟨some 26, none, ⟨[], []⟩, .bin 0 .add (.t 24) (.t 25)⟩,
    ⟨some 27, none, ⟨[], []⟩, .fld (.t 1) 2⟩,
    ⟨some 28, none, ⟨[], []⟩, .ld false none 0 0 (.t 27)⟩,
    ⟨some 29, none, ⟨[], []⟩, .fld (.t 1) 3⟩,
    ⟨some 30, none, ⟨[], []⟩, .ld false none 0 0 (.t 29)⟩,
    ⟨some 31, none, ⟨[], []⟩, .mov (.t 3)⟩,
    ⟨some 32, none, ⟨[], []⟩, .bin 0 .sub (.t 30) (.t 31)⟩,
    ⟨some 33, none, ⟨[], []⟩, .mov (.t 4)⟩,
    ⟨some 34, none, ⟨[], []⟩, .build [.int .i64 0, .int .i64 0, .int .i64 0, .int .i64 0, .int .i64 0] [(1, 1, .t 26), (2, 1, .t 28), (3, 1, .t 32), (4, 1, .t 33)]⟩,
    ⟨some 35, none, ⟨[], []⟩, .fld (.t 1) 1⟩,
    ⟨some 36, none, ⟨[], []⟩, .ld false none 0 0 (.t 35)⟩,
    ⟨some 37, none, ⟨[], []⟩, .fld (.t 1) 2⟩,
    ⟨some 38, none, ⟨[], []⟩, .ld false none 0 0 (.t 37)⟩,
    ⟨some 39, none, ⟨[], []⟩, .mov (.t 4)⟩,
    ⟨some 40, none, ⟨[], []⟩, .bin 0 .add (.t 38) (.t 39)⟩,
    ⟨some 41, none, ⟨[], []⟩, .mov (.t 3)⟩,
    ⟨some 42, none, ⟨[], []⟩, .fld (.t 1) 4⟩,
    ⟨some 43, none, ⟨[], []⟩, .ld false none 0 0 (.t 42)⟩,
    ⟨some 44, none, ⟨[], []⟩, .mov (.t 4)⟩,
    ⟨some 45, none, ⟨[], []⟩, .bin 0 .sub (.t 43) (.t 44)⟩,
    ⟨some 46, none, ⟨[], []⟩, .build [.int .i64 0, .int .i64 0, .int .i64 0, .int .i64 0, .int .i64 0] [(1, 1, .t 36), (2, 1, .t 40), (3, 1, .t 41), (4, 1, .t 45)]⟩,
    ⟨some 47, none, ⟨[], []⟩, .fld (.t 1) 1⟩,
    ⟨some 48, none, ⟨[], []⟩, .ld false none 0 0 (.t 47)⟩,
    ⟨some 49, none, ⟨[], []⟩, .mov (.t 3)⟩,
    ⟨some 50, none, ⟨[], []⟩, .bin 0 .add (.t 48) (.t 49)⟩,
    ⟨some 51, none, ⟨[], []⟩, .fld (.t 1) 2⟩,
    ⟨some 52, none, ⟨[], []⟩, .ld false none 0 0 (.t 51)⟩,
    ⟨some 53, none, ⟨[], []⟩, .mov (.t 4)⟩,
    ⟨some 54, none, ⟨[], []⟩, .bin 0 .add (.t 52) (.t 53)⟩,
    ⟨some 55, none, ⟨[], []⟩, .fld (.t 1) 3⟩,
    ⟨some 56, none, ⟨[], []⟩, .ld false none 0 0 (.t 55)⟩,
    ⟨some 57, none, ⟨[], []⟩, .mov (.t 3)⟩,
    ⟨some 58, none, ⟨[], []⟩, .bin 0 .sub (.t 56) (.t 57)⟩,
    ⟨some 59, none, ⟨[], []⟩, .fld (.t 1) 4⟩,
    ⟨some 60, none, ⟨[], []⟩, .ld false none 0 0 (.t 59)⟩,
    ⟨some 61, none, ⟨[], []⟩, .mov (.t 4)⟩,
    ⟨some 62, none, ⟨[], []⟩, .bin 0 .sub (.t 60) (.t 61)⟩,
    ⟨some 63, none, ⟨[], []⟩, .build [.int .i64 0, .int .i64 0, .int .i64 0, .int .i64 0, .int .i64 0] [(1, 1, .t 50), (2, 1, .t 54), (3, 1, .t 58), (4, 1, .t 62)]⟩,
    ⟨some 64, none, ⟨[], []⟩, .brecs 11 5 .i64 [.t 22, .t 34, .t 46, .t 63]⟩,
    ⟨some 5, none, ⟨[], []⟩, .mov (.t 64)⟩] [1, 3, 4, 16, 17, 18, 19, 20, 21, 22, 23, 24, 25, 26, 27, 28, 29, 30, 31, 32, 33, 34, 35, 36, 37, 38, 39, 40, 41, 42, 43, 44, 45, 46, 47, 48, 49, 50, 51, 52, 53, 54, 55, 56, 57, 58, 59, 60, 61, 62, 63, 64] []) (.seq (.reg false [⟨some 6, none, ⟨[], []⟩, .mov (.k nilSV)⟩] [] []) (.seq (.seq (.reg false [⟨some 7, none, ⟨[], []⟩, .mov (.k (.int .i64 0))⟩] [] []) (.block 0 (.loop b62_1))) (r62_2)))))
def kp62_1 : List Nat := [5, 6, 7]
def kl62_1 : List Nat := [12, 13]
attribute [push_cast] kp62_1 kl62_1
set_option maxRecDepth 4000 in
theorem comp62 : (Try.f62.body.bind fun c => compC tab isP chkAll ir62 c) = some ir62 := by kernel_rfl
def pt0 (q : Rt) : Pt := ⟨0, q.x, q.y, q.w, q.h⟩
structure RqA where
  k : Int
  x : Rt
def fs62 : FS where
  A := RqA
  args := fun a => [.agg [.int .i64 a.k, .int .i64 a.x.x, .int .i64 a.x.y, .int .i64 a.x.w, .int .i64 a.x.h]]
  mem := fun _ => []
  pre := fun a => a.x.ok2
  res := fun a x => .sl 0 (x 0) (esz 5 (qs a.x).length) 0 (qs a.x).length
  out := fun _ _ => []
  new := fun a x => [(x 0, .recs 5 true [] (((qs a.x).map pt0).map Pt.rc))]
def inv62 : List SV → Look → Option (RqA × List Nat)
  | [.agg [.int .i64 k, .int .i64 x, .int .i64 y, .int .i64 w, .int .i64 h]], look => some (⟨k, ⟨x, y, w, h⟩⟩, [])
  | _, _ => none
attribute [push_cast] inv62
theorem rdPt_map {Q : List Rt} {k : Nat} (h : k < Q.length) : rdPt (Q.map pt0) k = pt0 (rdRt Q (k : Int)) := by
  simp [rdPt, rdRt, h]
theorem kept_step {Q : List Rt} {k : Nat} (h : k < Q.length) : keptRt (Q.take (k + 1)) = keptRt (Q.take k) ++ (if (rdRt Q (k : Int)).gone then [] else [rdRt Q (k : Int)]) := by
  rw [List.take_add_one, rdRt_nat h, List.getElem?_eq_getElem h]
  unfold keptRt
  rw [List.filter_append]
  congr 1
  simp only [Option.toList_some, List.filter_cons, List.filter_nil]
  cases (Q[k]).gone <;> rfl
set_option maxHeartbeats 1000000 in
theorem ok62 : FSOk Try.prog 62 fs62 := by
  refine ⟨⟨_, Try.func62, by kernel_rfl, by kernel_rfl⟩, fun a => ⟨by simp [fs62, push_cast, noMine, argOwn, Chunk.frArg], by simp [fs62, push_cast, outOk, Chunk.ext], fun x => .inl (by simp [fs62, push_cast, frNew, frOut, Chunk.fr])⟩, fun a hp => ?_⟩
  obtain ⟨kd, r⟩ := a
  change r.ok2 at hp
  have hok := qd_ok hp
  obtain ⟨Q, hQ⟩ : ∃ Q, qd r = Q := ⟨_, rfl⟩
  have hQ4 : Q.length = 4 := by rw [← hQ]; rfl
  have hqs : qs r = keptRt Q := by unfold qs; rw [hQ]
  rw [hQ] at hok
  obtain ⟨x, y, w, h⟩ := r
  obtain ⟨h1, h2, h3, h4, h5, h6, h7, h8⟩ := id hp
  simp only at h1 h2 h3 h4 h5 h6 h7 h8
  change Tri Try.prog 62 [.agg [.int .i64 kd, .int .i64 x, .int .i64 y, .int .i64 w, .int .i64 h]] [] (postF fs62 ⟨kd, ⟨x, y, w, h⟩⟩)
  refine tri_evS (hyp (l := []) (lp := []) trivial trivial) Try.func62 comp62 (rs := [.tmp 2]) (by rfl) Try.ntmps62 14 ?_
  have hrec : ([[.int .i64 0, .int .i64 x, .int .i64 y, .int .i64 ((w + 1) / 2), .int .i64 ((h + 1) / 2)], [.int .i64 0, .int .i64 (x + (w + 1) / 2), .int .i64 y, .int .i64 (w - (w + 1) / 2), .int .i64 ((h + 1) / 2)], [.int .i64 0, .int .i64 x, .int .i64 (y + (h + 1) / 2), .int .i64 ((w + 1) / 2), .int .i64 (h - (h + 1) / 2)],
    [.int .i64 0, .int .i64 (x + (w + 1) / 2), .int .i64 (y + (h + 1) / 2), .int .i64 (w - (w + 1) / 2), .int .i64 (h - (h + 1) / 2)]] : List (List RC)) = (Q.map pt0).map Pt.rc := by rw [← hQ]; rfl
  simp -implicitDefEqProofs only [push_cast, false_implies, reduceCtorEq, Classical.not_not, Nat.reduceAdd, Nat.reduceSub, Nat.reduceMul, Nat.reduceLeDiff, Nat.reduceLT, Nat.reduceEqDiff, Nat.reduceBEq, Nat.reduceBNe, Int.reduceNeg, Int.reduceToNat, Bool.or_false, Bool.false_or, Bool.or_true, Bool.true_or, BEq.rfl, Bool.not_eq_true, Bool.not_eq_false, decide_eq_true_eq, not_true_eq_false, not_false_eq_true, ite_true, ite_false, List.append_nil, and_assoc, Nat.mul_zero, Nat.zero_mul, ir62, hrec]
  intro X
  repeat (refine And.intro (by first | omega | trivial | (intros; omega)) ?_)
  intro X1
  repeat (refine And.intro (by first | omega | trivial | (intros; omega)) ?_)
  obtain ⟨n, hn⟩ : ∃ n : Nat, 4 = n := ⟨_, rfl⟩
  have n4 : (1 + 1 + 1 + 1 : Int) = (n : Int) := by omega
  have n4' : (4 : Int) = (n : Int) := by omega
  simp only [n4, n4']
  rw [hn] at hQ4
  have hlm : ((Q.map pt0).map Pt.rc).length = n := by rw [List.length_map, List.length_map, hQ4]
  refine evS_loopU (A := Nat × Xf.Loc) kp62_1 kl62_1 (fun y => [(6, .sl 13 y.2 (esz 5 (keptRt (Q.take y.1)).length) 0 (keptRt (Q.take y.1)).length), (7, .int .i64 y.1)])
    (fun y => [(13, .mine, y.2, .recs 5 true [] (((keptRt (Q.take y.1)).map pt0).map Pt.rc))]) (fun y => y.1 ≤ n ∧ (keptRt (Q.take y.1) = [] → y.2 = nilLoc)) (fun y => n - y.1) (0, nilLoc) ⟨Nat.zero_le _, fun _ => rfl⟩ (Sub.pt ?_) ?_
  · have z1 : keptRt (Q.take 0) = [] := rfl
    simp -implicitDefEqProofs only [push_cast, false_implies, reduceCtorEq, Classical.not_not, Nat.reduceAdd, Nat.reduceSub, Nat.reduceMul, Nat.reduceLeDiff, Nat.reduceLT, Nat.reduceEqDiff, Nat.reduceBEq, Nat.reduceBNe, Int.reduceNeg, Int.reduceToNat, Bool.or_false, Bool.false_or, Bool.or_true, Bool.true_or, BEq.rfl, Bool.not_eq_true, Bool.not_eq_false, decide_eq_true_eq, not_true_eq_false, not_false_eq_true, ite_true, ite_false, List.append_nil, and_assoc, Nat.mul_zero, Nat.zero_mul, z1, esz, List.map_nil, List.length_nil]
  intro ⟨k, M⟩ ⟨(hk : k ≤ n), hM⟩ K hK
  by_cases hk' : k < n
  · have hkQ : k < Q.length := by omega
    have r1 := recAt_Pt (l := Q.map pt0) (i := k) (by rw [List.length_map]; exact hkQ) []
    rw [rdPt_map hkQ] at r1
    have hst := kept_step hkQ
    have hqk := hok _ (rdRt_mem hkQ)
    obtain ⟨q, hq⟩ : ∃ q, rdRt Q (k : Int) = q := ⟨_, rfl⟩
    rw [hq] at r1 hst hqk
    obtain ⟨lk, hlk⟩ : ∃ l, keptRt (Q.take k) = l := ⟨_, rfl⟩
    simp only [hlk] at hM ⊢
    rw [hlk] at hst
    have hlk4 : lk.length ≤ 4 := by rw [← hlk]; exact Nat.le_trans (keptRt_le _) (by rw [List.length_take]; omega)
    have lkl : ((lk.map pt0).map Pt.rc).length = lk.length := by rw [List.length_map, List.length_map]
    obtain ⟨qx, qy, qw, qh⟩ := q
    obtain ⟨g1, g2, g3, g4⟩ := hqk
    simp only at g1 g2 g3 g4
    simp -implicitDefEqProofs only [push_cast, false_implies, reduceCtorEq, Classical.not_not, Nat.reduceAdd, Nat.reduceSub, Nat.reduceMul, Nat.reduceLeDiff, Nat.reduceLT, Nat.reduceEqDiff, Nat.reduceBEq, Nat.reduceBNe, Int.reduceNeg, Int.reduceToNat, Bool.or_false, Bool.false_or, Bool.or_true, Bool.true_or, BEq.rfl, Bool.not_eq_true, Bool.not_eq_false, decide_eq_true_eq, not_true_eq_false, not_false_eq_true, ite_true, ite_false, List.append_nil, and_assoc, Nat.mul_zero, Nat.zero_mul, b62_1, r1, Pt.rc, pt0, hlm, lkl]
    refine ⟨fun _ => ?_, fun h => by omega⟩
    repeat (refine And.intro (by first | omega | trivial | (intros; omega)) ?_)
    refine ⟨fun ⟨p1, p2⟩ X2 => ?_, fun hno => ?_⟩
    · have hg : (⟨qx, qy, qw, qh⟩ : Rt).gone = false := by
        have : qw * qh ≠ 0 := Int.ne_of_gt (Int.mul_pos p1 p2)
        unfold Rt.gone; simp only [decide_eq_false_iff_not]; exact this
      rw [hg] at hst
      simp only [Bool.false_eq_true, if_false] at hst
      repeat (refine And.intro (by first | omega | trivial | (intros; omega)) ?_)
      have hne : ¬ (lk ++ [(⟨qx, qy, qw, qh⟩ : Rt)] = []) := by simp
      refine hK (k + 1, X2 6 13) ⟨by show k + 1 ≤ n; omega, fun h => absurd (hst ▸ h) hne⟩ (show n - (k + 1) < n - k by omega) _ _ (Sub.pt ?_)
      have es : ∀ m : Nat, esz 5 (m + 1) = 5 := fun _ => rfl
      have hap : (lk ++ [(⟨qx, qy, qw, qh⟩ : Rt)]).length = lk.length + 1 := by simp
      simp only [hst, hap]
      simp -implicitDefEqProofs only [push_cast, false_implies, reduceCtorEq, Classical.not_not, Nat.reduceAdd, Nat.reduceSub, Nat.reduceMul, Nat.reduceLeDiff, Nat.reduceLT, Nat.reduceEqDiff, Nat.reduceBEq, Nat.reduceBNe, Int.reduceNeg, Int.reduceToNat, Bool.or_false, Bool.false_or, Bool.or_true, Bool.true_or, BEq.rfl, Bool.not_eq_true, Bool.not_eq_false, decide_eq_true_eq, not_true_eq_false, not_false_eq_true, ite_true, ite_false, List.append_nil, and_assoc, Nat.mul_zero, Nat.zero_mul, es, List.map_append, List.map_cons, List.map_nil, Pt.rc, pt0]
    · have hg : (⟨qx, qy, qw, qh⟩ : Rt).gone = true := by
        unfold Rt.gone; simp only [decide_eq_true_eq]
        by_cases hw : 0 < qw
        · have : qh = 0 := by omega
          rw [this, Int.mul_zero]
        · have : qw = 0 := by omega
          rw [this, Int.zero_mul]
      rw [hg] at hst
      simp only [if_true, List.append_nil] at hst
      repeat (refine And.intro (by first | omega | trivial | (intros; omega)) ?_)
      refine hK (k + 1, M) ⟨by show k + 1 ≤ n; omega, fun h => hM (hst ▸ h)⟩ (show n - (k + 1) < n - k by omega) _ _ (Sub.pt ?_)
      simp only [hst]
      simp -implicitDefEqProofs only [push_cast, false_implies, reduceCtorEq, Classical.not_not, Nat.reduceAdd, Nat.reduceSub, Nat.reduceMul, Nat.reduceLeDiff, Nat.reduceLT, Nat.reduceEqDiff, Nat.reduceBEq, Nat.reduceBNe, Int.reduceNeg, Int.reduceToNat, Bool.or_false, Bool.false_or, Bool.or_true, Bool.true_or, BEq.rfl, Bool.not_eq_true, Bool.not_eq_false, decide_eq_true_eq, not_true_eq_false, not_false_eq_true, ite_true, ite_false, List.append_nil, and_assoc, Nat.mul_zero, Nat.zero_mul, Pt.rc, pt0]
  · obtain rfl : k = n := by omega
    clear hK
    have hT : Q.take k = Q := by rw [← hQ4, List.take_length]
    simp only [hT] at hM ⊢
    simp -implicitDefEqProofs only [push_cast, false_implies, reduceCtorEq, Classical.not_not, Nat.reduceAdd, Nat.reduceSub, Nat.reduceMul, Nat.reduceLeDiff, Nat.reduceLT, Nat.reduceEqDiff, Nat.reduceBEq, Nat.reduceBNe, Int.reduceNeg, Int.reduceToNat, Bool.or_false, Bool.false_or, Bool.or_true, Bool.true_or, BEq.rfl, Bool.not_eq_true, Bool.not_eq_false, decide_eq_true_eq, not_true_eq_false, not_false_eq_true, ite_true, ite_false, List.append_nil, and_assoc, Nat.mul_zero, Nat.zero_mul, b62_1, r62_2, hlm, Int.lt_irrefl, true_implies, true_and]
    refine postF.mk' (locs [M]) [some 13] ?_
    simp -implicitDefEqProofs only [push_cast, false_implies, reduceCtorEq, Classical.not_not, Nat.reduceAdd, Nat.reduceSub, Nat.reduceMul, Nat.reduceLeDiff, Nat.reduceLT, Nat.reduceEqDiff, Nat.reduceBEq, Nat.reduceBNe, Int.reduceNeg, Int.reduceToNat, Bool.or_false, Bool.false_or, Bool.or_true, Bool.true_or, BEq.rfl, Bool.not_eq_true, Bool.not_eq_false, decide_eq_true_eq, not_true_eq_false, not_false_eq_true, ite_true, ite_false, List.append_nil, and_assoc, Nat.mul_zero, Nat.zero_mul, fs62, hqs]
def ent62 : Entry := spOf fs62 inv62
theorem e62 : EntryOk Try.prog 62 ent62 := entry_of ok62 inv62
@[push_cast] theorem ent62_app (us : List SV) (look : Look) (x : Nat → Xf.Loc) (k : Nat) : ent62 us look x k = spOf fs62 inv62 us look x k := rfl
/-- The best of the first kinds. -/
def kb (E : Nat → Int) : Nat → Int × Int
  | 0 => (-1, 0)
  | k + 1 => if (kb E k).1 < 0 ∨ E k < (kb E k).1 then (E k, k) else kb E k
def kbV (r : Rt) (E : Nat → Int) : Nat → List SV
  | 0 => [.int .i64 0, .int .i64 0, .int .i64 0, .int .i64 0, .int .i64 0]
  | k + 1 => if (kb E k).1 < 0 ∨ E k < (kb E k).1 then [.int .i64 k, .int .i64 r.x, .int .i64 r.y, .int .i64 r.w, .int .i64 r.h] else kbV r E k
theorem kb3 {E : Nat → Int} (h : ∀ k, 0 ≤ E k) (r : Rt) : (kb E 3).1 = minL [E 0, E 1, E 2] ∧ kbV r E 3 = [.int .i64 (firstB (eqB (minL [E 0, E 1, E 2])) [E 0, E 1, E 2]), .int .i64 r.x, .int .i64 r.y, .int .i64 r.w, .int .i64 r.h] := by
  have h0 := h 0
  have h1 := h 1
  have h2 := h 2
  have b1 : kb E 1 = (E 0, 0) := if_pos (c := (kb E 0).1 < 0 ∨ E 0 < (kb E 0).1) (Or.inl (show (-1 : Int) < 0 by decide))
  have v1 : kbV r E 1 = [.int .i64 0, .int .i64 r.x, .int .i64 r.y, .int .i64 r.w, .int .i64 r.h] := if_pos (c := (kb E 0).1 < 0 ∨ E 0 < (kb E 0).1) (Or.inl (show (-1 : Int) < 0 by decide))
  have b2 : kb E 2 = if E 1 < E 0 then (E 1, 1) else (E 0, 0) := by
    show (if (kb E 1).1 < 0 ∨ E 1 < (kb E 1).1 then _ else _) = _
    rw [b1]; simp only [show ¬ E 0 < 0 by omega, false_or]; rfl
  have v2 : kbV r E 2 = if E 1 < E 0 then [.int .i64 1, .int .i64 r.x, .int .i64 r.y, .int .i64 r.w, .int .i64 r.h] else [.int .i64 0, .int .i64 r.x, .int .i64 r.y, .int .i64 r.w, .int .i64 r.h] := by
    show (if (kb E 1).1 < 0 ∨ E 1 < (kb E 1).1 then _ else kbV r E 1) = _
    rw [b1, v1]; simp only [show ¬ E 0 < 0 by omega, false_or]; rfl
  have b3 : kb E 3 = if (kb E 2).1 < 0 ∨ E 2 < (kb E 2).1 then (E 2, 2) else kb E 2 := rfl
  have v3 : kbV r E 3 = if (kb E 2).1 < 0 ∨ E 2 < (kb E 2).1 then [.int .i64 2, .int .i64 r.x, .int .i64 r.y, .int .i64 r.w, .int .i64 r.h] else kbV r E 2 := rfl
  have g0 : rd [E 0, E 1, E 2] (0 : Nat) = E 0 := rfl
  have g1 : rd [E 0, E 1, E 2] (1 : Nat) = E 1 := rfl
  have g2 : rd [E 0, E 1, E 2] (2 : Nat) = E 2 := rfl
  have hm := min3 (E 0) (E 1) (E 2)
  obtain ⟨m, hm'⟩ : ∃ m, minL [E 0, E 1, E 2] = m := ⟨_, rfl⟩
  rw [hm'] at hm ⊢
  by_cases c1 : E 1 < E 0
  · rw [if_pos c1] at b2 v2
    by_cases c2 : E 2 < E 1
    · rw [b2, if_pos (Or.inr c2)] at b3 v3
      have hf := firstB_at (p := eqB m) (xs := [E 0, E 1, E 2]) (i := 2) (by simp) (by rw [g2]; unfold eqB; simp; omega) (fun j hj => by
        have : j = 0 ∨ j = 1 := by omega
        rcases this with rfl | rfl
        · rw [g0]; unfold eqB; simp; omega
        · rw [g1]; unfold eqB; simp; omega)
      rw [b3, v3, hf]; exact ⟨by simp only; omega, rfl⟩
    · rw [b2, if_neg (by simp only; omega)] at b3 v3
      have hf := firstB_at (p := eqB m) (xs := [E 0, E 1, E 2]) (i := 1) (by simp) (by rw [g1]; unfold eqB; simp; omega) (fun j hj => by
        obtain rfl : j = 0 := by omega
        rw [g0]; unfold eqB; simp; omega)
      rw [b3, v3, v2, hf]; exact ⟨by simp only; omega, rfl⟩
  · rw [if_neg c1] at b2 v2
    by_cases c2 : E 2 < E 0
    · rw [b2, if_pos (Or.inr c2)] at b3 v3
      have hf := firstB_at (p := eqB m) (xs := [E 0, E 1, E 2]) (i := 2) (by simp) (by rw [g2]; unfold eqB; simp; omega) (fun j hj => by
        have : j = 0 ∨ j = 1 := by omega
        rcases this with rfl | rfl
        · rw [g0]; unfold eqB; simp; omega
        · rw [g1]; unfold eqB; simp; omega)
      rw [b3, v3, hf]; exact ⟨by simp only; omega, rfl⟩
    · rw [b2, if_neg (by simp only; omega)] at b3 v3
      have hf := firstB_at (p := eqB m) (xs := [E 0, E 1, E 2]) (i := 0) (by simp) (by rw [g0]; unfold eqB; simp; omega) (fun j hj => absurd hj (Nat.not_lt_zero j))
      rw [b3, v3, v2, hf]; exact ⟨by simp only; omega, rfl⟩
theorem kb_bd {E : Nat → Int} {B : Int} (h : ∀ k, k < 3 → 0 ≤ E k ∧ E k ≤ B) (hB : 0 ≤ B) : ∀ k, k ≤ 3 → -1 ≤ (kb E k).1 ∧ (kb E k).1 ≤ B
  | 0, _ => ⟨Int.le_refl _, Int.le_trans (show (-1 : Int) ≤ 0 by decide) hB⟩
  | k + 1, hk => by
    have ih := kb_bd h hB k (by omega)
    have := h k (by omega)
    show -1 ≤ (if _ then _ else _ : Int × Int).1 ∧ (if _ then _ else _ : Int × Int).1 ≤ B
    split
    · exact ⟨Int.le_trans (by decide) this.1, this.2⟩
    · exact ih
def b42_1 : IR :=
  .seq (.seq (.reg false [⟨some 20, none, ⟨[], []⟩, .mov (.t 10)⟩,
    ⟨some 21, none, ⟨[], []⟩, .bin 0 .lss (.t 20) (.k (.int .i64 3))⟩] [20] []) (.cond (.t 21) (.skip) (.exit 0))) (.seq (.block 1 (.seq (.reg false [⟨some 24, none, ⟨[], []⟩, .ld false (some 5) 0 0 (.t 5)⟩,
    ⟨some 11, none, ⟨[], []⟩, .alloc 14 [.int .i64 0, .int .i64 0, .int .i64 0, .int .i64 0, .int .i64 0]⟩,
    ⟨none, none, ⟨[], []⟩, .sto false 5 .i64 (.t 11) (.t 24)⟩] [21, 24] []) (.seq (.reg false [⟨some 25, none, ⟨[], []⟩, .mov (.t 10)⟩,
    ⟨some 26, none, ⟨[], []⟩, .fld (.t 11) 0⟩,
    ⟨none, none, ⟨[], []⟩, .sto false 1 .i64 (.t 26) (.t 25)⟩] [25, 26] []) (.seq (.reg false [⟨some 27, none, ⟨[], []⟩, .ld false (some 3) 0 0 (.t 3)⟩,
    ⟨some 28, none, ⟨[], []⟩, .ld false (some 4) 0 0 (.t 4)⟩,
    ⟨some 29, none, ⟨[], []⟩, .ld false (some 5) 0 0 (.t 11)⟩,
    ⟨some 30, none, ⟨[], []⟩, .call (some 4) 15 38 [.t 27, .t 28, .t 29]⟩,
    ⟨some 12, none, ⟨[], []⟩, .mov (.t 30)⟩] [27, 28, 29, 30] []) (.seq (.reg false [⟨some 31, none, ⟨[], []⟩, .mov (.t 8)⟩,
    ⟨some 32, none, ⟨[], []⟩, .bin 0 .lss (.t 31) (.k (.int .i64 0))⟩,
    ⟨some 33, none, ⟨[], []⟩, .mov (.t 32)⟩,
    ⟨some 34, some (33, false), ⟨[], []⟩, .mov (.t 12)⟩,
    ⟨some 35, some (33, false), ⟨[], []⟩, .mov (.t 8)⟩,
    ⟨some 36, some (33, false), ⟨[], []⟩, .bin 0 .lss (.t 34) (.t 35)⟩,
    ⟨some 37, none, ⟨[], []⟩, .pick (.t 33) (.k (.bool true)) (.t 36)⟩] [31, 32, 33, 34, 35, 36] []) (.cond (.t 37) (.reg true [⟨some 38, none, ⟨[], []⟩, .mov (.t 12)⟩,
    ⟨some 39, none, ⟨[], []⟩, .ld false (some 5) 0 0 (.t 11)⟩,
    ⟨some 8, none, ⟨[], []⟩, .mov (.t 38)⟩,
    ⟨none, none, ⟨[], []⟩, .sto false 5 .i64 (.t 9) (.t 39)⟩] [11, 12, 37, 38, 39] []) (.skip))))))) (.reg false [⟨some 22, none, ⟨[], []⟩, .mov (.t 10)⟩,
    ⟨some 23, none, ⟨[], []⟩, .bin 0 .add (.t 22) (.k (.int .i64 1))⟩,
    ⟨some 10, none, ⟨[], []⟩, .mov (.t 23)⟩] [11, 12, 22, 23, 37] []))
def b42_2 : IR :=
  .seq (.seq (.reg false [⟨some 54, none, ⟨[], []⟩, .mov (.t 17)⟩,
    ⟨some 55, none, ⟨[], []⟩, .mov (.t 16)⟩,
    ⟨some 56, none, ⟨[], []⟩, .len (.t 55)⟩,
    ⟨some 57, none, ⟨[], []⟩, .bin 0 .lss (.t 54) (.t 56)⟩] [54, 55, 56] []) (.cond (.t 57) (.skip) (.exit 2))) (.seq (.block 3 (.seq (.reg true [⟨some 61, none, ⟨[], []⟩, .ld false (some 3) 0 0 (.t 3)⟩,
    ⟨some 62, none, ⟨[], []⟩, .ld false (some 4) 0 0 (.t 4)⟩,
    ⟨some 63, none, ⟨[], []⟩, .mov (.t 16)⟩,
    ⟨some 64, none, ⟨[], []⟩, .mov (.t 17)⟩,
    ⟨some 65, none, ⟨[], []⟩, .idxS (.t 63) (.t 64) 5⟩,
    ⟨some 66, none, ⟨[], []⟩, .ld true (some 5) 0 0 (.t 65)⟩,
    ⟨some 67, none, ⟨[], []⟩, .call (some 4) 24 42 [.t 61, .t 62, .t 66]⟩,
    ⟨some 60, none, ⟨[], []⟩, .mov (.t 67)⟩,
    ⟨some 68, none, ⟨[], []⟩, .ext (.t 60) 0⟩,
    ⟨some 69, none, ⟨[], []⟩, .ext (.t 60) 1⟩,
    ⟨some 18, none, ⟨[], []⟩, .mov (.t 68)⟩,
    ⟨some 19, none, ⟨[], []⟩, .mov (.t 69)⟩] [57, 60, 61, 62, 63, 64, 65, 66, 67, 68, 69] []) (.seq (.reg false [⟨some 70, none, ⟨[], []⟩, .mov (.t 14)⟩,
    ⟨some 71, none, ⟨[], []⟩, .mov (.t 19)⟩,
    ⟨some 72, none, ⟨[], []⟩, .bin 0 .add (.t 70) (.t 71)⟩,
    ⟨some 14, none, ⟨[], []⟩, .mov (.t 72)⟩] [19, 70, 71, 72] []) (.reg false [⟨some 73, none, ⟨[], []⟩, .mov (.t 15)⟩,
    ⟨some 74, none, ⟨[], []⟩, .mov (.t 18)⟩,
    ⟨some 75, none, ⟨[], []⟩, .app 28 5 40 (.t 73) (.t 74)⟩,
    ⟨some 15, none, ⟨[], []⟩, .mov (.t 75)⟩] [18, 73, 74, 75] [])))) (.reg false [⟨some 58, none, ⟨[], []⟩, .mov (.t 17)⟩,
    ⟨some 59, none, ⟨[], []⟩, .bin 0 .add (.t 58) (.k (.int .i64 1))⟩,
    ⟨some 17, none, ⟨[], []⟩, .mov (.t 59)⟩] [58, 59] []))
def r42_3 : IR :=
  .seq (.seq (.reg false [⟨some 76, none, ⟨[], []⟩, .mov (.t 14)⟩,
    ⟨some 77, none, ⟨[], []⟩, .mov (.t 8)⟩,
    ⟨some 78, none, ⟨[], []⟩, .bin 0 .lss (.t 76) (.t 77)⟩] [3, 4, 16, 17, 76, 77] []) (.cond (.t 78) (.seq (.reg false [⟨some 79, none, ⟨[], []⟩, .mov (.t 15)⟩,
    ⟨some 80, none, ⟨[], []⟩, .mov (.t 14)⟩,
    ⟨some 6, none, ⟨[], []⟩, .mov (.t 79)⟩,
    ⟨some 7, none, ⟨[], []⟩, .mov (.t 80)⟩] [8, 13, 14, 15, 78, 79, 80] []) (.ret)) (.skip))) (.seq (.reg false [⟨some 81, none, ⟨[], []⟩, .mov (.t 13)⟩,
    ⟨some 82, none, ⟨[], []⟩, .mov (.t 8)⟩,
    ⟨some 6, none, ⟨[], []⟩, .mov (.t 81)⟩,
    ⟨some 7, none, ⟨[], []⟩, .mov (.t 82)⟩] [8, 13, 14, 15, 78, 81, 82] []) (.ret))
def r42_4 : IR :=
  .seq (.reg false [⟨some 40, none, ⟨[], []⟩, .ld false (some 5) 0 0 (.t 9)⟩,
    ⟨some 41, none, ⟨[], []⟩, .brecs 19 5 .i64 [.t 40]⟩,
    ⟨some 13, none, ⟨[], []⟩, .mov (.t 41)⟩] [9, 10, 40, 41] []) (.seq (.seq (.reg false [⟨some 42, none, ⟨[], []⟩, .fld (.t 5) 3⟩,
    ⟨some 43, none, ⟨[], []⟩, .ld false none 0 0 (.t 42)⟩,
    ⟨some 44, none, ⟨[], []⟩, .fld (.t 5) 4⟩,
    ⟨some 45, none, ⟨[], []⟩, .ld false none 0 0 (.t 44)⟩,
    ⟨some 46, none, ⟨[], []⟩, .bin 0 .mul (.t 43) (.t 45)⟩,
    ⟨some 47, none, ⟨[], []⟩, .bin 0 .lss (.t 46) (.k (.int .i64 2))⟩] [42, 43, 44, 45, 46] []) (.cond (.t 47) (.seq (.reg false [⟨some 48, none, ⟨[], []⟩, .mov (.t 13)⟩,
    ⟨some 49, none, ⟨[], []⟩, .mov (.t 8)⟩,
    ⟨some 6, none, ⟨[], []⟩, .mov (.t 48)⟩,
    ⟨some 7, none, ⟨[], []⟩, .mov (.t 49)⟩] [3, 4, 5, 8, 13, 47, 48, 49] []) (.ret)) (.skip))) (.seq (.reg false [⟨some 50, none, ⟨[], []⟩, .fld (.t 4) 0⟩,
    ⟨some 51, none, ⟨[], []⟩, .ld false none 0 0 (.t 50)⟩,
    ⟨some 14, none, ⟨[], []⟩, .mov (.t 51)⟩] [6, 7, 47, 50, 51] []) (.seq (.reg false [⟨some 15, none, ⟨[], []⟩, .mov (.k nilSV)⟩] [] []) (.seq (.reg false [⟨some 52, none, ⟨[], []⟩, .ld false (some 5) 0 0 (.t 5)⟩,
    ⟨some 53, none, ⟨[], []⟩, .call (some 4) 20 62 [.t 52]⟩,
    ⟨some 16, none, ⟨[], []⟩, .mov (.t 53)⟩] [5, 52, 53] []) (.seq (.seq (.reg false [⟨some 17, none, ⟨[], []⟩, .mov (.k (.int .i64 0))⟩] [] []) (.block 2 (.loop b42_2))) (r42_3))))))
def ir42 : IR :=
  .seq (.reg false [⟨some 3, none, ⟨[], []⟩, .box 10 (.t 0)⟩,
    ⟨some 4, none, ⟨[], []⟩, .box 11 (.t 1)⟩,
    ⟨some 5, none, ⟨[], []⟩, .box 12 (.t 2)⟩,
    ⟨some 6, none, ⟨[], []⟩, .mov (.k nilSV)⟩,
    ⟨some 7, none, ⟨[], []⟩, .mov (.k (.int .i64 0))⟩] [0, 1, 2, 6, 7] []) (.seq (.reg false [⟨some 8, none, ⟨[], []⟩, .mov (.k (.int .i64 (-1)))⟩] [] []) (.seq (.reg false [⟨some 9, none, ⟨[], []⟩, .alloc 13 [.int .i64 0, .int .i64 0, .int .i64 0, .int .i64 0, .int .i64 0]⟩] [] []) (.seq (.seq (.reg false [⟨some 10, none, ⟨[], []⟩, .mov (.k (.int .i64 0))⟩] [] []) (.block 0 (.loop b42_1))) (r42_4))))
def kp42_1 : List Nat := [3, 4, 5, 8, 9, 10]
def kl42_1 : List Nat := [14, 15, 16, 17, 18]
attribute [push_cast] kp42_1 kl42_1
def kp42_2 : List Nat := [3, 4, 8, 13, 14, 15, 16, 17]
def kl42_2 : List Nat := [24, 25, 26, 27, 28]
attribute [push_cast] kp42_2 kl42_2
set_option maxRecDepth 4000 in
theorem comp42 : (Try.f42.body.bind fun c => compC tab isP chkAll ir42 c) = some ir42 := by kernel_rfl
theorem en_bd {p : Pn} {e : En} {r : Rt} (hp : p.grey) (he : e.Ok) (h : inR p r) : ∀ k, 0 ≤ (rpOf p r).en e k ∧ (rpOf p r).en e k ≤ 4000000000 := by
  obtain ⟨hO, hG⟩ := h.rp hp
  have h1 := Rp.pa_bd hG (Nat.le_refl _)
  have h2 := Rp.te_bd hG (Nat.le_refl _)
  obtain ⟨a, b, c, d, _⟩ := hO
  have hw : (rpOf p r).w ≤ 200 := by omega
  have hh : (rpOf p r).h ≤ 200 := by omega
  have hn : (rpOf p r).n ≤ 40000 := Nat.le_trans (Nat.mul_le_mul hw hh) (by decide)
  obtain ⟨⟨c1, c2⟩, ⟨p1, p2⟩, ⟨t1, t2⟩, ⟨i1, i2⟩⟩ := he
  have m1 := mul_bd (a := e.pic) (b := ((rpOf p r).w : Int)) (A := 100000) (B := 200) (by omega) (by omega) (by omega) (by omega)
  have m2 := mul_bd (a := e.pic * ((rpOf p r).w : Int)) (b := ((rpOf p r).h : Int)) (A := 20000000) (B := 200) (by omega) (by omega) (by omega) (by omega)
  intro k
  match k with
  | 0 => show 0 ≤ e.paper + (rpOf p r).pa (rpOf p r).n ∧ e.paper + (rpOf p r).pa (rpOf p r).n ≤ _; omega
  | 1 => show 0 ≤ e.text + (rpOf p r).te (rpOf p r).n ∧ e.text + (rpOf p r).te (rpOf p r).n ≤ _; omega
  | k + 2 => show 0 ≤ e.pic * ((rpOf p r).w : Int) * ((rpOf p r).h : Int) ∧ e.pic * ((rpOf p r).w : Int) * ((rpOf p r).h : Int) ≤ _; omega
theorem kbV_shape (r : Rt) (E : Nat → Int) : ∀ k, ∃ a b c d f, kbV r E k = [SV.int .i64 a, .int .i64 b, .int .i64 c, .int .i64 d, .int .i64 f]
  | 0 => ⟨0, 0, 0, 0, 0, rfl⟩
  | k + 1 => by
    rw [kbV]
    split
    · exact ⟨_, _, _, _, _, rfl⟩
    · exact kbV_shape r E k
structure LqA where
  p : Pn
  L : Xf.Loc
  e : En
  k : Int
  r : Rt
def fs42 (N : Nat) : FS where
  A := LqA
  args := fun a => [plV ⟨a.p.W, a.p.H, a.p.xs⟩ a.L 0, enV a.e, .agg [.int .i64 a.k, .int .i64 a.r.x, .int .i64 a.r.y, .int .i64 a.r.w, .int .i64 a.r.h]]
  mem := fun a => [some (.ro, a.L, .ints .i64 a.p.xs)]
  pre := fun a => a.p.grey ∧ a.e.Ok ∧ inR a.p a.r ∧ a.r.w * a.r.h ≤ N
  res := fun a x => .tup [.sl 1 (x 0) 5 0 (least a.p a.e N a.r).1.length, .int .i64 (least a.p a.e N a.r).2]
  out := fun _ _ => []
  new := fun a x => [(x 0, .recs 5 true [] ((least a.p a.e N a.r).1.map Pt.rc))]
def inv42 : List SV → Look → Option (LqA × List Nat)
  | [.agg [.int .i64 W, .int .i64 H, .sl c _ 1 0 _], .agg [.int .i64 c1, .int .i64 q, .int .i64 t, .int .i64 i], .agg [.int .i64 k, .int .i64 x, .int .i64 y, .int .i64 w, .int .i64 h]], look => match rowI (look c) with
    | some (L, .i64, xs) => some (⟨⟨W.toNat, H.toNat, xs⟩, L, ⟨c1, q, t, i⟩, k, ⟨x, y, w, h⟩⟩, [c])
    | _ => none
  | _, _ => none
attribute [push_cast] inv42
set_option maxRecDepth 4000 in
set_option maxHeartbeats 2000000 in
theorem ok42 : ∀ N, FSOk Try.prog 42 (fs42 N)
  | 0 => by
    refine ⟨⟨_, Try.func42, by kernel_rfl, by kernel_rfl⟩, fun a => ⟨by simp [fs42, push_cast, noMine, argOwn, Chunk.frArg], by simp [fs42, push_cast, outOk, Chunk.ext], fun x => .inl (by simp [fs42, push_cast, frNew, frOut, Chunk.fr])⟩, fun a hp => ?_⟩
    obtain ⟨h1, h2, h3, h4⟩ := hp
    have := area_pos h3
    unfold area at this
    omega
  | N + 1 => by
    have ih := ok42 N
    refine ⟨⟨_, Try.func42, by kernel_rfl, by kernel_rfl⟩, fun a => ⟨by simp [fs42, push_cast, noMine, argOwn, Chunk.frArg], by simp [fs42, push_cast, outOk, Chunk.ext], fun x => .inl (by simp [fs42, push_cast, frNew, frOut, Chunk.fr])⟩, fun a hp => ?_⟩
    obtain ⟨p, L, e, kd, r⟩ := a
    obtain ⟨hg, hE, hin, hN⟩ : p.grey ∧ e.Ok ∧ inR p r ∧ r.w * r.h ≤ ((N + 1 : Nat) : Int) := hp
    have hres := least_ok hg hE (N + 1) r hin hN
    have hrec := fun {q : Rt} (hq : q ∈ qs r) (h1 : ¬ r.w * r.h = 1) => (show inR p q ∧ q.w * q.h ≤ N from ⟨(qs_in hin q hq).1, by have := (qs_in hin q hq).2 h1; unfold area at this; omega⟩)
    have hrec2 := fun {q : Rt} (hq : q ∈ qs r) (h1 : ¬ r.w * r.h = 1) => least_ok hg hE N q (hrec hq h1).1 (hrec hq h1).2
    have hok2 := hin.ok2 hg
    obtain ⟨hRp, hGr⟩ := hin.rp hg
    have hbd := best_bd hg hE hin
    have hne := qs_ne hin
    have har := area_pos hin
    unfold area at har
    have hL1 : r.w * r.h = 1 → least p e (N + 1) r = ([onePt p e r], best p e r) := fun h => by rw [least, if_pos h]
    have hL2 : ¬ r.w * r.h = 1 → sumS e.cut (least p e N) (qs r) < best p e r → least p e (N + 1) r = (lstS (least p e N) (qs r), sumS e.cut (least p e N) (qs r)) := fun h h' => by rw [least, if_neg h, if_pos h']
    have hL3 : ¬ r.w * r.h = 1 → ¬ sumS e.cut (least p e N) (qs r) < best p e r → least p e (N + 1) r = ([onePt p e r], best p e r) := fun h h' => by rw [least, if_neg h, if_neg h']
    have hEn := en_bd hg hE hin
    have hone : (onePt p e r).rc = [.int .i64 (kindI p e r), .int .i64 r.x, .int .i64 r.y, .int .i64 r.w, .int .i64 r.h] := rfl
    have h3 : (kb ((rpOf p r).en e) 3).1 = best p e r ∧ kbV r ((rpOf p r).en e) 3 = [SV.int .i64 (kindI p e r), .int .i64 r.x, .int .i64 r.y, .int .i64 r.w, .int .i64 r.h] := kb3 (fun k => (hEn k).1) r
    have hkb := kb_bd (fun k (_ : k < 3) => hEn k) (by decide)
    have hrp : (rpOf p r).Ok ∧ (rpOf p r).grey ∧ 0 < (rpOf p r).n := ⟨hRp, hGr, Nat.mul_pos (by have := hin.2.2.1; show 0 < r.w.toNat; omega) (by have := hin.2.2.2.1; show 0 < r.h.toNat; omega)⟩
    obtain ⟨hr1, hr2, hr3⟩ := hrp
    obtain ⟨B, hB⟩ : ∃ B, best p e r = B := ⟨_, rfl⟩
    obtain ⟨K0, hK0⟩ : ∃ K0, kindI p e r = K0 := ⟨_, rfl⟩
    obtain ⟨Q, hQ⟩ : ∃ Q, qs r = Q := ⟨_, rfl⟩
    rw [hB] at hbd h3 hL1 hL2 hL3
    rw [hK0] at h3 hone
    simp only [hQ] at hL2 hL3 hne hrec hrec2
    obtain ⟨x, y, w, h⟩ := r
    obtain ⟨i1, i2, i3, i4, i5, i6⟩ := id hin
    simp only at i1 i2 i3 i4 i5 i6 hone hL1 hL2 hL3 hrec hrec2 hN har
    obtain ⟨x, rfl⟩ : ∃ n : Nat, x = (n : Int) := ⟨x.toNat, by omega⟩
    obtain ⟨y, rfl⟩ : ∃ n : Nat, y = (n : Int) := ⟨y.toNat, by omega⟩
    obtain ⟨w, rfl⟩ : ∃ n : Nat, w = (n : Int) := ⟨w.toNat, by omega⟩
    obtain ⟨h, rfl⟩ : ∃ n : Nat, h = (n : Int) := ⟨h.toNat, by omega⟩
    obtain ⟨W, H, xs⟩ := p
    simp only at i5 i6
    have eR : rpOf ⟨W, H, xs⟩ ⟨x, y, w, h⟩ = ⟨x, y, w, h, W, H, xs⟩ := by simp only [rpOf, Int.toNat_natCast]
    rw [eR] at hr1 hr2 hr3 hEn h3 hkb
    obtain ⟨E, hEE⟩ : ∃ E : Nat → Int, (⟨x, y, w, h, W, H, xs⟩ : Rp).en e = E := ⟨_, rfl⟩
    rw [hEE] at hEn h3 hkb
    obtain ⟨c, pp, t, i⟩ := e
    obtain ⟨⟨c1, c2⟩, _⟩ := id hE
    simp only at c1 c2
    obtain ⟨g1, g2, g3, g4⟩ := id hg
    simp only at g1 g2 g3
    have hm := mul_bd (a := (w : Int)) (b := (h : Int)) (A := 200) (B := 200) (by omega) (by omega) (by omega) (by omega)
    change Tri Try.prog 42 [plV ⟨W, H, xs⟩ L 0, enV ⟨c, pp, t, i⟩, .agg [.int .i64 kd, .int .i64 x, .int .i64 y, .int .i64 w, .int .i64 h]] [some (.ro, L, .ints .i64 xs)] (postF (fs42 (N + 1)) ⟨⟨W, H, xs⟩, L, ⟨c, pp, t, i⟩, kd, ⟨x, y, w, h⟩⟩)
    refine tri_evS (hyp (l := [(42, spOf (fs42 N) inv42), (38, ent38), (62, ent62)]) (lp := [])
      ⟨entry_of ih inv42, e38, e62, trivial⟩ trivial) Try.func42 comp42 (rs := [.tmp 6, .tmp 7]) (by rfl) Try.ntmps42 29 ?_
    simp -implicitDefEqProofs only [push_cast, false_implies, reduceCtorEq, Classical.not_not, Nat.reduceAdd, Nat.reduceSub, Nat.reduceMul, Nat.reduceLeDiff, Nat.reduceLT, Nat.reduceEqDiff, Nat.reduceBEq, Nat.reduceBNe, Int.reduceNeg, Int.reduceToNat, Bool.or_false, Bool.false_or, Bool.or_true, Bool.true_or, BEq.rfl, Bool.not_eq_true, Bool.not_eq_false, decide_eq_true_eq, not_true_eq_false, not_false_eq_true, ite_true, ite_false, List.append_nil, and_assoc, Nat.mul_zero, Nat.zero_mul, ir42, plV, enV, Int.toNat_natCast]
    intro X X1
    refine evS_loopU (A := Nat) kp42_1 kl42_1 (fun i => [(8, .int .i64 (kb E i).1), (10, .int .i64 i)]) (fun i => [(13, .mine, X1 0 13, .cells (kbV ⟨x, y, w, h⟩ E i))]) (fun i => i ≤ 3) (fun i => 3 - i) 0 (Nat.zero_le _) (Sub.pt ?_) ?_
    · simp -implicitDefEqProofs only [push_cast, false_implies, reduceCtorEq, Classical.not_not, Nat.reduceAdd, Nat.reduceSub, Nat.reduceMul, Nat.reduceLeDiff, Nat.reduceLT, Nat.reduceEqDiff, Nat.reduceBEq, Nat.reduceBNe, Int.reduceNeg, Int.reduceToNat, Bool.or_false, Bool.false_or, Bool.or_true, Bool.true_or, BEq.rfl, Bool.not_eq_true, Bool.not_eq_false, decide_eq_true_eq, not_true_eq_false, not_false_eq_true, ite_true, ite_false, List.append_nil, and_assoc, Nat.mul_zero, Nat.zero_mul, kb, kbV]
    intro k (hk : k ≤ 3) K hK
    by_cases hk' : k < 3
    · have hk3 : (k : Int) < 3 := by omega
      have hEk := hEn k
      have hkk := hkb k hk
      obtain ⟨s1, s2, s3, s4, s5, hsh⟩ := kbV_shape ⟨x, y, w, h⟩ E k
      have n1 : kb E (k + 1) = if (kb E k).1 < 0 ∨ E k < (kb E k).1 then (E k, (k : Int)) else kb E k := rfl
      have n2 : kbV ⟨x, y, w, h⟩ E (k + 1) = if (kb E k).1 < 0 ∨ E k < (kb E k).1 then [.int .i64 k, .int .i64 x, .int .i64 y, .int .i64 w, .int .i64 h] else kbV ⟨x, y, w, h⟩ E k := rfl
      obtain ⟨b, hb⟩ : ∃ b, (kb E k).1 = b := ⟨_, rfl⟩
      rw [hb] at n1 n2 hkk
      simp only [hb, hsh]
      rw [hsh] at n2
      obtain ⟨Ek, hEk'⟩ : ∃ b, E k = b := ⟨_, rfl⟩
      have hen : (⟨x, y, w, h, W, H, xs⟩ : Rp).en ⟨c, pp, t, i⟩ k = Ek := by rw [hEE, hEk']
      rw [hEk'] at n1 n2 hEk
      simp -implicitDefEqProofs only [push_cast, false_implies, reduceCtorEq, Classical.not_not, Nat.reduceAdd, Nat.reduceSub, Nat.reduceMul, Nat.reduceLeDiff, Nat.reduceLT, Nat.reduceEqDiff, Nat.reduceBEq, Nat.reduceBNe, Int.reduceNeg, Int.reduceToNat, Bool.or_false, Bool.false_or, Bool.or_true, Bool.true_or, BEq.rfl, Bool.not_eq_true, Bool.not_eq_false, decide_eq_true_eq, not_true_eq_false, not_false_eq_true, ite_true, ite_false, List.append_nil, and_assoc, Nat.mul_zero, Nat.zero_mul, b42_1, fs38, plV, enV, Int.toNat_natCast, hen, hr1, hr2, hr3, hE, hk3]
      intro X2
      repeat (refine And.intro (by first | omega | trivial | (intros; omega)) ?_)
      refine ⟨fun hc => ?_, fun hc => ?_⟩
      · rw [if_pos hc] at n1 n2
        repeat (refine And.intro (by first | omega | trivial | (intros; omega)) ?_)
        refine hK (k + 1) (show k + 1 ≤ 3 by omega) (show 3 - (k + 1) < 3 - k by omega) _ _ (Sub.pt ?_)
        simp -implicitDefEqProofs only [push_cast, false_implies, reduceCtorEq, Classical.not_not, Nat.reduceAdd, Nat.reduceSub, Nat.reduceMul, Nat.reduceLeDiff, Nat.reduceLT, Nat.reduceEqDiff, Nat.reduceBEq, Nat.reduceBNe, Int.reduceNeg, Int.reduceToNat, Bool.or_false, Bool.false_or, Bool.or_true, Bool.true_or, BEq.rfl, Bool.not_eq_true, Bool.not_eq_false, decide_eq_true_eq, not_true_eq_false, not_false_eq_true, ite_true, ite_false, List.append_nil, and_assoc, Nat.mul_zero, Nat.zero_mul, n1, n2]
      · rw [if_neg hc] at n1 n2
        repeat (refine And.intro (by first | omega | trivial | (intros; omega)) ?_)
        refine hK (k + 1) (show k + 1 ≤ 3 by omega) (show 3 - (k + 1) < 3 - k by omega) _ _ (Sub.pt ?_)
        simp -implicitDefEqProofs only [push_cast, false_implies, reduceCtorEq, Classical.not_not, Nat.reduceAdd, Nat.reduceSub, Nat.reduceMul, Nat.reduceLeDiff, Nat.reduceLT, Nat.reduceEqDiff, Nat.reduceBEq, Nat.reduceBNe, Int.reduceNeg, Int.reduceToNat, Bool.or_false, Bool.false_or, Bool.or_true, Bool.true_or, BEq.rfl, Bool.not_eq_true, Bool.not_eq_false, decide_eq_true_eq, not_true_eq_false, not_false_eq_true, ite_true, ite_false, List.append_nil, and_assoc, Nat.mul_zero, Nat.zero_mul, n1, n2, hb]
    · have ek : 3 = k := by omega
      rw [ek] at h3
      have hk3 : ¬ (k : Int) < 3 := by omega
      clear hK
      simp only [h3.1, h3.2]
      have hw1 : ((w : Int) * h < 2) ↔ (w : Int) * h = 1 := by omega
      simp -implicitDefEqProofs only [push_cast, false_implies, reduceCtorEq, Classical.not_not, Nat.reduceAdd, Nat.reduceSub, Nat.reduceMul, Nat.reduceLeDiff, Nat.reduceLT, Nat.reduceEqDiff, Nat.reduceBEq, Nat.reduceBNe, Int.reduceNeg, Int.reduceToNat, Bool.or_false, Bool.false_or, Bool.or_true, Bool.true_or, BEq.rfl, Bool.not_eq_true, Bool.not_eq_false, decide_eq_true_eq, not_true_eq_false, not_false_eq_true, ite_true, ite_false, List.append_nil, and_assoc, Nat.mul_zero, Nat.zero_mul, b42_1, r42_4, fs62, hok2, hk3, hQ, hw1]
      intro X2
      refine ⟨by omega, by omega, fun h1 => ?_, fun h1 X3 => ?_⟩
      · refine postF.mk' (locs [X2 1 19]) [some 0, some 19] ?_
        simp -implicitDefEqProofs only [push_cast, false_implies, reduceCtorEq, Classical.not_not, Nat.reduceAdd, Nat.reduceSub, Nat.reduceMul, Nat.reduceLeDiff, Nat.reduceLT, Nat.reduceEqDiff, Nat.reduceBEq, Nat.reduceBNe, Int.reduceNeg, Int.reduceToNat, Bool.or_false, Bool.false_or, Bool.or_true, Bool.true_or, BEq.rfl, Bool.not_eq_true, Bool.not_eq_false, decide_eq_true_eq, not_true_eq_false, not_false_eq_true, ite_true, ite_false, List.append_nil, and_assoc, Nat.mul_zero, Nat.zero_mul, fs42, hL1 h1, hone, List.map_cons, List.map_nil]
      have hQ4 : Q.length ≤ 4 := by rw [← hQ]; exact Nat.le_trans (List.length_filter_le _ _) (by simp [qd])
      have hQ0 : 0 < Q.length := List.length_pos_iff.2 hne
      have heQ := esz_pos (s := 5) hQ0
      obtain ⟨f, hf⟩ : ∃ f, least ⟨W, H, xs⟩ ⟨c, pp, t, i⟩ N = f := ⟨_, rfl⟩
      have hq : ∀ q ∈ Q, 0 ≤ (f q).2 ∧ (f q).2 ≤ 20000000 ∧ 1 ≤ (f q).1.length ∧ ((f q).1.length : Int) ≤ 40000 := fun q hq => by
        have k := hrec2 hq h1
        rw [hf] at k
        obtain ⟨⟨j1, j2, j3, j4, j5, j6⟩, _⟩ := hrec hq h1
        simp only at j5 j6
        have : area q ≤ 200 * 200 := Int.mul_le_mul (by omega) (by omega) (by omega) (by omega)
        exact ⟨k.1, k.2.1, k.2.2.1, by omega⟩
      have hbds := ls_bd hq c1 c2
      rw [hf] at hL2 hL3
      have hlr : ((Q.map pt0).map Pt.rc).length = Q.length := by rw [List.length_map, List.length_map]
      simp only [heQ]
      refine evS_loopU (A := Nat × Xf.Loc) kp42_2 kl42_2 (fun y => [(14, .int .i64 (sumS c f (Q.take y.1))), (15, .sl 28 y.2 (esz 5 y.1) 0 (lstS f (Q.take y.1)).length), (17, .int .i64 y.1)]) (fun y => [(28, .mine, y.2, .recs 5 true [] ((lstS f (Q.take y.1)).map Pt.rc))])
        (fun y => y.1 ≤ Q.length ∧ (y.1 = 0 → y.2 = nilLoc)) (fun y => Q.length - y.1) (0, nilLoc) ⟨Nat.zero_le _, fun _ => rfl⟩ (Sub.pt ?_) ?_
      · have z1 : lstS f (Q.take 0) = [] := rfl
        have z2 : sumS c f (Q.take 0) = c := by simp [sumS, sumL]
        simp -implicitDefEqProofs only [push_cast, false_implies, reduceCtorEq, Classical.not_not, Nat.reduceAdd, Nat.reduceSub, Nat.reduceMul, Nat.reduceLeDiff, Nat.reduceLT, Nat.reduceEqDiff, Nat.reduceBEq, Nat.reduceBNe, Int.reduceNeg, Int.reduceToNat, Bool.or_false, Bool.false_or, Bool.or_true, Bool.true_or, BEq.rfl, Bool.not_eq_true, Bool.not_eq_false, decide_eq_true_eq, not_true_eq_false, not_false_eq_true, ite_true, ite_false, List.append_nil, and_assoc, Nat.mul_zero, Nat.zero_mul, z1, z2, esz, List.map_nil]
      intro ⟨k, M⟩ ⟨(hk : k ≤ Q.length), (hM : k = 0 → M = nilLoc)⟩ K hK
      obtain ⟨l1, l2, l3, l4⟩ := hbds k hk
      by_cases hk' : k < Q.length
      · obtain ⟨t1, t2⟩ := ls_step (c := c) (f := f) hk'
        have hmem := rdRt_mem hk'
        have r1 := recAt_Pt (l := Q.map pt0) (i := k) (by rw [List.length_map]; exact hk') []
        rw [rdPt_map hk'] at r1
        obtain ⟨q, hqq⟩ : ∃ q, rdRt Q (k : Int) = q := ⟨_, rfl⟩
        rw [hqq] at hmem r1 t1 t2
        obtain ⟨k1, k2, k3, k4⟩ := hq q hmem
        obtain ⟨p1, p2⟩ := hrec hmem h1
        have hfq : least ⟨W, H, xs⟩ ⟨c, pp, t, i⟩ N q = f q := by rw [hf]
        obtain ⟨m, n, hfm⟩ : ∃ m n, f q = (m, n) := ⟨_, _, rfl⟩
        rw [hfm] at hfq k1 k2 k3 k4 t1 t2
        obtain ⟨qx, qy, qw, qh⟩ := q
        simp only at k1 k2 k3 k4 t1 t2 p2
        obtain ⟨lk, hlk⟩ : ∃ l, lstS f (Q.take k) = l := ⟨_, rfl⟩
        obtain ⟨sk, hsk⟩ : ∃ l, sumS c f (Q.take k) = l := ⟨_, rfl⟩
        rw [hlk] at t1 l1 l2
        rw [hsk] at t2 l3 l4
        simp only [hlk, hsk]
        have ml : (m.map Pt.rc).length = m.length := List.length_map _
        have lkl : (lk.map Pt.rc).length = lk.length := List.length_map _
        simp -implicitDefEqProofs only [push_cast, false_implies, reduceCtorEq, Classical.not_not, Nat.reduceAdd, Nat.reduceSub, Nat.reduceMul, Nat.reduceLeDiff, Nat.reduceLT, Nat.reduceEqDiff, Nat.reduceBEq, Nat.reduceBNe, Int.reduceNeg, Int.reduceToNat, Bool.or_false, Bool.false_or, Bool.or_true, Bool.true_or, BEq.rfl, Bool.not_eq_true, Bool.not_eq_false, decide_eq_true_eq, not_true_eq_false, not_false_eq_true, ite_true, ite_false, List.append_nil, and_assoc, Nat.mul_zero, Nat.zero_mul, b42_2, r1, Pt.rc, pt0, hlr, fs42, hfq, ml, lkl, plV, enV, Int.toNat_natCast]
        refine ⟨fun _ X4 => ?_, fun hl => by omega⟩
        repeat (refine And.intro (by first | omega | trivial | (intros; omega)) ?_)
        intro X5
        repeat (refine And.intro (by first | omega | trivial | (intros; omega)) ?_)
        refine hK (k + 1, X5 2 28) ⟨show k + 1 ≤ Q.length by omega, fun h => absurd h (Nat.succ_ne_zero k)⟩ (show Q.length - (k + 1) < Q.length - k by omega) _ _ (Sub.pt ?_)
        simp -implicitDefEqProofs only [push_cast, false_implies, reduceCtorEq, Classical.not_not, Nat.reduceAdd, Nat.reduceSub, Nat.reduceMul, Nat.reduceLeDiff, Nat.reduceLT, Nat.reduceEqDiff, Nat.reduceBEq, Nat.reduceBNe, Int.reduceNeg, Int.reduceToNat, Bool.or_false, Bool.false_or, Bool.or_true, Bool.true_or, BEq.rfl, Bool.not_eq_true, Bool.not_eq_false, decide_eq_true_eq, not_true_eq_false, not_false_eq_true, ite_true, ite_false, List.append_nil, and_assoc, Nat.mul_zero, Nat.zero_mul, esz, t1, t2, List.map_append, List.length_append]
      · obtain rfl : k = Q.length := by omega
        clear hK
        rw [List.take_length] at *
        have he5 := esz_pos (s := 5) hQ0
        simp -implicitDefEqProofs only [push_cast, false_implies, reduceCtorEq, Classical.not_not, Nat.reduceAdd, Nat.reduceSub, Nat.reduceMul, Nat.reduceLeDiff, Nat.reduceLT, Nat.reduceEqDiff, Nat.reduceBEq, Nat.reduceBNe, Int.reduceNeg, Int.reduceToNat, Bool.or_false, Bool.false_or, Bool.or_true, Bool.true_or, BEq.rfl, Bool.not_eq_true, Bool.not_eq_false, decide_eq_true_eq, not_true_eq_false, not_false_eq_true, ite_true, ite_false, List.append_nil, and_assoc, Nat.mul_zero, Nat.zero_mul, b42_2, r42_3, hlr, Int.lt_irrefl, true_implies, true_and]
        refine ⟨fun hs => ?_, fun hs => ?_⟩
        · refine postF.mk' (locs [M]) [some 0, some 28] ?_
          simp -implicitDefEqProofs only [push_cast, false_implies, reduceCtorEq, Classical.not_not, Nat.reduceAdd, Nat.reduceSub, Nat.reduceMul, Nat.reduceLeDiff, Nat.reduceLT, Nat.reduceEqDiff, Nat.reduceBEq, Nat.reduceBNe, Int.reduceNeg, Int.reduceToNat, Bool.or_false, Bool.false_or, Bool.or_true, Bool.true_or, BEq.rfl, Bool.not_eq_true, Bool.not_eq_false, decide_eq_true_eq, not_true_eq_false, not_false_eq_true, ite_true, ite_false, List.append_nil, and_assoc, Nat.mul_zero, Nat.zero_mul, fs42, hL2 h1 hs, he5]
        · refine postF.mk' (locs [X2 1 19]) [some 0, some 19] ?_
          simp -implicitDefEqProofs only [push_cast, false_implies, reduceCtorEq, Classical.not_not, Nat.reduceAdd, Nat.reduceSub, Nat.reduceMul, Nat.reduceLeDiff, Nat.reduceLT, Nat.reduceEqDiff, Nat.reduceBEq, Nat.reduceBNe, Int.reduceNeg, Int.reduceToNat, Bool.or_false, Bool.false_or, Bool.or_true, Bool.true_or, BEq.rfl, Bool.not_eq_true, Bool.not_eq_false, decide_eq_true_eq, not_true_eq_false, not_false_eq_true, ite_true, ite_false, List.append_nil, and_assoc, Nat.mul_zero, Nat.zero_mul, fs42, hL3 h1 hs, hone, List.map_cons, List.map_nil]
def ir21 : IR :=
  .seq (.reg false [⟨some 2, none, ⟨[], []⟩, .box 10 (.t 0)⟩,
    ⟨some 3, none, ⟨[], []⟩, .box 11 (.t 1)⟩,
    ⟨some 4, none, ⟨[], []⟩, .mov (.k nilSV)⟩,
    ⟨some 5, none, ⟨[], []⟩, .mov (.k (.int .i64 0))⟩,
    ⟨some 6, none, ⟨[], []⟩, .mov (.k (.int .i64 0))⟩] [0, 1, 4, 5, 6] []) (.seq (.seq (.reg false [⟨some 9, none, ⟨[], []⟩, .ld false (some 3) 0 0 (.t 2)⟩,
    ⟨some 10, none, ⟨[], []⟩, .call (some 4) 12 15 [.t 9]⟩,
    ⟨some 11, none, ⟨[], []⟩, .not (.t 10)⟩] [9, 10] []) (.cond (.t 11) (.seq (.reg false [⟨some 4, none, ⟨[], []⟩, .mov (.k nilSV)⟩,
    ⟨some 5, none, ⟨[], []⟩, .mov (.k (.int .i64 0))⟩,
    ⟨some 6, none, ⟨[], []⟩, .mov (.k (.int .i64 70))⟩] [2, 3, 11] []) (.ret)) (.skip))) (.seq (.seq (.reg false [⟨some 12, none, ⟨[], []⟩, .ld false (some 4) 0 0 (.t 3)⟩,
    ⟨some 13, none, ⟨[], []⟩, .call (some 4) 16 35 [.t 12]⟩,
    ⟨some 14, none, ⟨[], []⟩, .not (.t 13)⟩] [4, 5, 6, 11, 12, 13] []) (.cond (.t 14) (.seq (.reg false [⟨some 4, none, ⟨[], []⟩, .mov (.k nilSV)⟩,
    ⟨some 5, none, ⟨[], []⟩, .mov (.k (.int .i64 0))⟩,
    ⟨some 6, none, ⟨[], []⟩, .mov (.k (.int .i64 2))⟩] [2, 3, 14] []) (.ret)) (.skip))) (.seq (.seq (.reg false [⟨some 15, none, ⟨[], []⟩, .fld (.t 2) 0⟩,
    ⟨some 16, none, ⟨[], []⟩, .ld false none 0 0 (.t 15)⟩,
    ⟨some 17, none, ⟨[], []⟩, .fld (.t 2) 1⟩,
    ⟨some 18, none, ⟨[], []⟩, .ld false none 0 0 (.t 17)⟩,
    ⟨some 19, none, ⟨[], []⟩, .bin 0 .mul (.t 16) (.t 18)⟩,
    ⟨some 20, none, ⟨[], []⟩, .bin 0 .eql (.t 19) (.k (.int .i64 0))⟩] [4, 5, 6, 14, 15, 16, 17, 18, 19] []) (.cond (.t 20) (.seq (.reg false [⟨some 4, none, ⟨[], []⟩, .mov (.k nilSV)⟩,
    ⟨some 5, none, ⟨[], []⟩, .mov (.k (.int .i64 0))⟩,
    ⟨some 6, none, ⟨[], []⟩, .mov (.k (.int .i64 0))⟩] [2, 3, 20] []) (.ret)) (.skip))) (.seq (.reg false [⟨some 22, none, ⟨[], []⟩, .ld false (some 3) 0 0 (.t 2)⟩,
    ⟨some 23, none, ⟨[], []⟩, .ld false (some 4) 0 0 (.t 3)⟩,
    ⟨some 24, none, ⟨[], []⟩, .fld (.t 2) 0⟩,
    ⟨some 25, none, ⟨[], []⟩, .ld false none 0 0 (.t 24)⟩,
    ⟨some 26, none, ⟨[], []⟩, .fld (.t 2) 1⟩,
    ⟨some 27, none, ⟨[], []⟩, .ld false none 0 0 (.t 26)⟩,
    ⟨some 28, none, ⟨[], []⟩, .build [.int .i64 0, .int .i64 0, .int .i64 0, .int .i64 0, .int .i64 0] [(3, 1, .t 25), (4, 1, .t 27)]⟩,
    ⟨some 29, none, ⟨[], []⟩, .call (some 4) 20 42 [.t 22, .t 23, .t 28]⟩,
    ⟨some 21, none, ⟨[], []⟩, .mov (.t 29)⟩,
    ⟨some 30, none, ⟨[], []⟩, .ext (.t 21) 0⟩,
    ⟨some 31, none, ⟨[], []⟩, .ext (.t 21) 1⟩,
    ⟨some 7, none, ⟨[], []⟩, .mov (.t 30)⟩,
    ⟨some 8, none, ⟨[], []⟩, .mov (.t 31)⟩] [2, 3, 4, 5, 6, 20, 21, 22, 23, 24, 25, 26, 27, 28, 29, 30, 31] []) (.seq (.reg false [⟨some 32, none, ⟨[], []⟩, .mov (.t 7)⟩,
    ⟨some 33, none, ⟨[], []⟩, .mov (.t 8)⟩,
    ⟨some 4, none, ⟨[], []⟩, .mov (.t 32)⟩,
    ⟨some 5, none, ⟨[], []⟩, .mov (.t 33)⟩,
    ⟨some 6, none, ⟨[], []⟩, .mov (.k (.int .i64 0))⟩] [7, 8, 32, 33] []) (.ret))))))
set_option maxRecDepth 4000 in
theorem comp21 : (Try.f21.body.bind fun c => compC tab isP chkAll ir21 c) = some ir21 := by kernel_rfl
theorem ok21 : FSOk Try.prog 21 fs11 := by
  refine ⟨⟨_, Try.func21, by kernel_rfl, by kernel_rfl⟩, fun a => ⟨by simp [fs11, push_cast, noMine, argOwn, Chunk.frArg], by simp [fs11, push_cast, outOk, Chunk.ext], fun x => .inl (by simp [fs11, push_cast, frNew, frOut, Chunk.fr])⟩, fun a hp => ?_⟩
  obtain ⟨⟨p, L⟩, e⟩ := a
  change p.xs.length ≤ 140737488355328 at hp
  have h0 : ¬ spOk p e → spS p e = ([], 0) := fun h => by unfold spS; rw [if_neg h]
  have hle := fun (h : spOk p e) => least_ok (h.1.pn h.2.2).1 h.2.1 fuelN p.rt (h.1.pn h.2.2).2.1 (h.1.pn h.2.2).2.2.1
  obtain ⟨w, h, xs⟩ := p
  obtain ⟨c, q, t, i⟩ := e
  change xs.length ≤ 140737488355328 at hp
  change Tri Try.prog 21 [plV ⟨w, h, xs⟩ L 0, .agg [.int .i64 c, .int .i64 q, .int .i64 t, .int .i64 i]] [some (.ro, L, .ints .i64 xs)] (postF fs11 ⟨⟨⟨w, h, xs⟩, L⟩, ⟨c, q, t, i⟩⟩)
  refine tri_evS (hyp (l := [(42, spOf (fs42 fuelN) inv42), (15, ent15), (35, ent35)]) (lp := [])
      ⟨entry_of (ok42 fuelN) inv42, e15, e35, trivial⟩ trivial) Try.func21 comp21 (rs := [.tmp 4, .tmp 5, .tmp 6]) (by rfl) Try.ntmps21 24 ?_
  by_cases hG : (⟨w, h, xs⟩ : Pl).Gr
  · by_cases hE : (⟨c, q, t, i⟩ : En).Ok
    · have eE : spE ⟨w, h, xs⟩ ⟨c, q, t, i⟩ = 0 := by unfold spE; rw [if_pos hG, if_pos hE]
      by_cases hn : 0 < xs.length
      · have hS : spOk ⟨w, h, xs⟩ ⟨c, q, t, i⟩ := ⟨hG, hE, hn⟩
        obtain ⟨g1, g2, g3, g4, g5⟩ := hG.pn hn
        have hle := hle hS
        have hsp : spS ⟨w, h, xs⟩ ⟨c, q, t, i⟩ = least ⟨w.toNat, h.toNat, xs⟩ ⟨c, q, t, i⟩ fuelN ⟨0, 0, w, h⟩ := by unfold spS; rw [if_pos hS]; rfl
        change 0 ≤ (least ⟨w.toNat, h.toNat, xs⟩ ⟨c, q, t, i⟩ fuelN ⟨0, 0, w, h⟩).2 ∧ (least ⟨w.toNat, h.toNat, xs⟩ ⟨c, q, t, i⟩ fuelN ⟨0, 0, w, h⟩).2 ≤ 20000000 ∧ 1 ≤ (least ⟨w.toNat, h.toNat, xs⟩ ⟨c, q, t, i⟩ fuelN ⟨0, 0, w, h⟩).1.length ∧ _ at hle
        have he5 := esz_pos (s := 5) (Nat.lt_of_lt_of_le Nat.zero_lt_one hle.2.2.1)
        have hwl : (xs.length : Int) = w * h := hG.2.1
        have hn0 : ¬ w * h = 0 := by omega
        have hm0 : 0 ≤ w * h ∧ w * h ≤ 8192 := by have h5 : w * h ≤ 8192 := hG.1.2.2.2.2; omega
        change Pn.grey ⟨w.toNat, h.toNat, xs⟩ at g1
        change inR ⟨w.toNat, h.toNat, xs⟩ ⟨0, 0, w, h⟩ at g2
        change w * h ≤ (fuelN : Int) at g3
        simp only at g4 g5
        simp -implicitDefEqProofs only [push_cast, false_implies, reduceCtorEq, Classical.not_not, Nat.reduceAdd, Nat.reduceSub, Nat.reduceMul, Nat.reduceLeDiff, Nat.reduceLT, Nat.reduceEqDiff, Nat.reduceBEq, Nat.reduceBNe, Int.reduceNeg, Int.reduceToNat, Bool.or_false, Bool.false_or, Bool.or_true, Bool.true_or, BEq.rfl, Bool.not_eq_true, Bool.not_eq_false, decide_eq_true_eq, not_true_eq_false, not_false_eq_true, ite_true, ite_false, List.append_nil, and_assoc, Nat.mul_zero, Nat.zero_mul, ir21, fs14, fs12, fs29, fs42, plV, hG, hE, hp, hn0, g1, g2, g4, g5, enV]
        intro X
        refine ⟨by omega, by omega, fun X1 => ⟨g3, ?_⟩⟩
        refine postF.mk' (locs [X1 7 20]) [some 0, some 20] ?_
        simp -implicitDefEqProofs only [push_cast, false_implies, reduceCtorEq, Classical.not_not, Nat.reduceAdd, Nat.reduceSub, Nat.reduceMul, Nat.reduceLeDiff, Nat.reduceLT, Nat.reduceEqDiff, Nat.reduceBEq, Nat.reduceBNe, Int.reduceNeg, Int.reduceToNat, Bool.or_false, Bool.false_or, Bool.or_true, Bool.true_or, BEq.rfl, Bool.not_eq_true, Bool.not_eq_false, decide_eq_true_eq, not_true_eq_false, not_false_eq_true, ite_true, ite_false, List.append_nil, and_assoc, Nat.mul_zero, Nat.zero_mul, fs11, hsp, eE, hS, he5, lx, if_true]
      · have hS : ¬ spOk ⟨w, h, xs⟩ ⟨c, q, t, i⟩ := fun H => hn H.2.2
        have hwl : (xs.length : Int) = w * h := hG.2.1
        have hn0 : w * h = 0 := by omega
        have h0 := h0 hS
        simp -implicitDefEqProofs only [push_cast, false_implies, reduceCtorEq, Classical.not_not, Nat.reduceAdd, Nat.reduceSub, Nat.reduceMul, Nat.reduceLeDiff, Nat.reduceLT, Nat.reduceEqDiff, Nat.reduceBEq, Nat.reduceBNe, Int.reduceNeg, Int.reduceToNat, Bool.or_false, Bool.false_or, Bool.or_true, Bool.true_or, BEq.rfl, Bool.not_eq_true, Bool.not_eq_false, decide_eq_true_eq, not_true_eq_false, not_false_eq_true, ite_true, ite_false, List.append_nil, and_assoc, Nat.mul_zero, Nat.zero_mul, ir21, fs14, fs12, fs29, fs42, plV, enV, hG, hE, hp, hn0]
        refine fun X => ⟨by decide, by decide, postF.mk' (fun _ => default) [some 0, none] ?_⟩
        simp -implicitDefEqProofs only [push_cast, false_implies, reduceCtorEq, Classical.not_not, Nat.reduceAdd, Nat.reduceSub, Nat.reduceMul, Nat.reduceLeDiff, Nat.reduceLT, Nat.reduceEqDiff, Nat.reduceBEq, Nat.reduceBNe, Int.reduceNeg, Int.reduceToNat, Bool.or_false, Bool.false_or, Bool.or_true, Bool.true_or, BEq.rfl, Bool.not_eq_true, Bool.not_eq_false, decide_eq_true_eq, not_true_eq_false, not_false_eq_true, ite_true, ite_false, List.append_nil, and_assoc, Nat.mul_zero, Nat.zero_mul, fs11, h0, eE, hS, hn0, esz, lx, if_false, List.map_nil, List.length_nil]
    · have eE : spE ⟨w, h, xs⟩ ⟨c, q, t, i⟩ = 2 := by unfold spE; rw [if_pos hG, if_neg hE]
      have hS : ¬ spOk ⟨w, h, xs⟩ ⟨c, q, t, i⟩ := fun H => hE H.2.1
      have h0 := h0 hS
      simp -implicitDefEqProofs only [push_cast, false_implies, reduceCtorEq, Classical.not_not, Nat.reduceAdd, Nat.reduceSub, Nat.reduceMul, Nat.reduceLeDiff, Nat.reduceLT, Nat.reduceEqDiff, Nat.reduceBEq, Nat.reduceBNe, Int.reduceNeg, Int.reduceToNat, Bool.or_false, Bool.false_or, Bool.or_true, Bool.true_or, BEq.rfl, Bool.not_eq_true, Bool.not_eq_false, decide_eq_true_eq, not_true_eq_false, not_false_eq_true, ite_true, ite_false, List.append_nil, and_assoc, Nat.mul_zero, Nat.zero_mul, ir21, fs14, fs12, fs29, plV, enV, hG, hE, hp]
      refine fun X => postF.mk' (fun _ => default) [some 0, none] ?_
      simp -implicitDefEqProofs only [push_cast, false_implies, reduceCtorEq, Classical.not_not, Nat.reduceAdd, Nat.reduceSub, Nat.reduceMul, Nat.reduceLeDiff, Nat.reduceLT, Nat.reduceEqDiff, Nat.reduceBEq, Nat.reduceBNe, Int.reduceNeg, Int.reduceToNat, Bool.or_false, Bool.false_or, Bool.or_true, Bool.true_or, BEq.rfl, Bool.not_eq_true, Bool.not_eq_false, decide_eq_true_eq, not_true_eq_false, not_false_eq_true, ite_true, ite_false, List.append_nil, and_assoc, Nat.mul_zero, Nat.zero_mul, fs11, h0, eE, hS, esz, lx, if_false, List.map_nil, List.length_nil]
  · have eE : spE ⟨w, h, xs⟩ ⟨c, q, t, i⟩ = 70 := by unfold spE; rw [if_neg hG]
    have hS : ¬ spOk ⟨w, h, xs⟩ ⟨c, q, t, i⟩ := fun H => hG H.1
    have h0 := h0 hS
    simp -implicitDefEqProofs only [push_cast, false_implies, reduceCtorEq, Classical.not_not, Nat.reduceAdd, Nat.reduceSub, Nat.reduceMul, Nat.reduceLeDiff, Nat.reduceLT, Nat.reduceEqDiff, Nat.reduceBEq, Nat.reduceBNe, Int.reduceNeg, Int.reduceToNat, Bool.or_false, Bool.false_or, Bool.or_true, Bool.true_or, BEq.rfl, Bool.not_eq_true, Bool.not_eq_false, decide_eq_true_eq, not_true_eq_false, not_false_eq_true, ite_true, ite_false, List.append_nil, and_assoc, Nat.mul_zero, Nat.zero_mul, ir21, fs14, fs12, plV, enV, hG, hp]
    refine fun X => postF.mk' (fun _ => default) [some 0, none] ?_
    simp -implicitDefEqProofs only [push_cast, false_implies, reduceCtorEq, Classical.not_not, Nat.reduceAdd, Nat.reduceSub, Nat.reduceMul, Nat.reduceLeDiff, Nat.reduceLT, Nat.reduceEqDiff, Nat.reduceBEq, Nat.reduceBNe, Int.reduceNeg, Int.reduceToNat, Bool.or_false, Bool.false_or, Bool.or_true, Bool.true_or, BEq.rfl, Bool.not_eq_true, Bool.not_eq_false, decide_eq_true_eq, not_true_eq_false, not_false_eq_true, ite_true, ite_false, List.append_nil, and_assoc, Nat.mul_zero, Nat.zero_mul, fs11, h0, eE, hS, esz, lx, if_false, List.map_nil, List.length_nil]
def ent21 : Entry := spOf fs11 inv11
theorem e21 : EntryOk Try.prog 21 ent21 := entry_of ok21 inv11
@[push_cast] theorem ent21_app (us : List SV) (look : Look) (x : Nat → Xf.Loc) (k : Nat) : ent21 us look x k = spOf fs11 inv11 us look x k := rfl
def b22_1 : IR :=
  .seq (.seq (.reg false [⟨some 11, none, ⟨[], []⟩, .mov (.t 5)⟩,
    ⟨some 12, none, ⟨[], []⟩, .mov (.t 0)⟩,
    ⟨some 13, none, ⟨[], []⟩, .len (.t 12)⟩,
    ⟨some 14, none, ⟨[], []⟩, .bin 0 .lss (.t 11) (.t 13)⟩] [11, 12, 13] []) (.cond (.t 14) (.skip) (.exit 0))) (.seq (.block 1 (.seq (.reg true [⟨some 17, none, ⟨[], []⟩, .mov (.t 0)⟩,
    ⟨some 18, none, ⟨[], []⟩, .mov (.t 5)⟩,
    ⟨some 19, none, ⟨[], []⟩, .idxS (.t 17) (.t 18) 5⟩,
    ⟨some 20, none, ⟨[], []⟩, .ld true (some 5) 0 0 (.t 19)⟩,
    ⟨some 21, none, ⟨[], []⟩, .mov (.t 1)⟩,
    ⟨some 22, none, ⟨[], []⟩, .mov (.t 5)⟩,
    ⟨some 23, none, ⟨[], []⟩, .idxS (.t 21) (.t 22) 5⟩,
    ⟨some 24, none, ⟨[], []⟩, .ld true (some 5) 0 0 (.t 23)⟩,
    ⟨some 25, none, ⟨[], []⟩, .binA .neq [true, true, true, true, true] (.t 20) (.t 24)⟩] [14, 17, 18, 19, 20, 21, 22, 23, 24] []) (.cond (.t 25) (.seq (.reg false [⟨some 4, none, ⟨[], []⟩, .mov (.k (.bool false))⟩] [0, 1, 5, 25] []) (.ret)) (.skip)))) (.reg false [⟨some 15, none, ⟨[], []⟩, .mov (.t 5)⟩,
    ⟨some 16, none, ⟨[], []⟩, .bin 0 .add (.t 15) (.k (.int .i64 1))⟩,
    ⟨some 5, none, ⟨[], []⟩, .mov (.t 16)⟩] [4, 15, 16, 25] []))
def r22_2 : IR :=
  .seq (.reg false [⟨some 4, none, ⟨[], []⟩, .mov (.k (.bool true))⟩] [0, 1, 5] []) (.ret)
def ir22 : IR :=
  .seq (.reg false [⟨some 4, none, ⟨[], []⟩, .mov (.k (.bool false))⟩] [4] []) (.seq (.seq (.reg false [⟨some 6, none, ⟨[], []⟩, .mov (.t 0)⟩,
    ⟨some 7, none, ⟨[], []⟩, .len (.t 6)⟩,
    ⟨some 8, none, ⟨[], []⟩, .mov (.t 1)⟩,
    ⟨some 9, none, ⟨[], []⟩, .len (.t 8)⟩,
    ⟨some 10, none, ⟨[], []⟩, .bin 0 .neq (.t 7) (.t 9)⟩] [6, 7, 8, 9] []) (.cond (.t 10) (.seq (.reg false [⟨some 4, none, ⟨[], []⟩, .mov (.k (.bool false))⟩] [0, 1, 10] []) (.ret)) (.skip))) (.seq (.seq (.reg false [⟨some 5, none, ⟨[], []⟩, .mov (.k (.int .i64 0))⟩] [4, 10] []) (.block 0 (.loop b22_1))) (r22_2)))
def kp22_1 : List Nat := [0, 1, 5]
def kl22_1 : List Nat := []
attribute [push_cast] kp22_1 kl22_1
set_option maxRecDepth 4000 in
theorem comp22 : (Try.f22.body.bind fun c => compC tab isP chkAll ir22 c) = some ir22 := by kernel_rfl
def getPt : List (List RC) → Option (List Pt)
  | [] => some []
  | [.int .i64 k, .int .i64 x, .int .i64 y, .int .i64 w, .int .i64 h] :: l => match getPt l with | some r => some (⟨k, x, y, w, h⟩ :: r) | none => none
  | _ => none
theorem getPt_map : ∀ l : List Pt, getPt (l.map Pt.rc) = some l
  | [] => rfl
  | x :: l => by simp only [List.map_cons, Pt.rc, getPt, getPt_map l]
structure Sp2 where
  L1 : Xf.Loc
  L2 : Xf.Loc
  l : List Pt
def fs22 : FS where
  A := Sp2
  args := fun a => [.sl 0 a.L1 (esz 5 a.l.length) 0 a.l.length, .sl 1 a.L2 (esz 5 a.l.length) 0 a.l.length]
  mem := fun a => [some (.ro, a.L1, .recs 5 false [] (a.l.map Pt.rc)), some (.ro, a.L2, .recs 5 false [] (a.l.map Pt.rc))]
  pre := fun a => a.l.length ≤ 1000000
  res := fun _ _ => .bool true
  out := fun _ _ => []
  new := fun _ _ => []
def inv22 : List SV → Look → Option (Sp2 × List Nat)
  | [.sl c _ _ 0 _, .sl d _ _ 0 _], look => match rowR (look c), rowR (look d) with
    | some (L1, 5, _, r), some (L2, 5, _, _) => match getPt r with | some l => some (⟨L1, L2, l⟩, [c, d]) | none => none
    | _, _ => none
  | _, _ => none
attribute [push_cast] inv22 getPt_map
theorem ok22 : FSOk Try.prog 22 fs22 := by
  refine ⟨⟨_, Try.func22, by kernel_rfl, by kernel_rfl⟩, fun a => ⟨by simp [fs22, push_cast, noMine, argOwn, Chunk.frArg], by simp [fs22, push_cast, outOk, Chunk.ext], fun x => .inl (by simp [fs22, push_cast, frNew, frOut, Chunk.fr])⟩, fun a hp => ?_⟩
  obtain ⟨L1, L2, l⟩ := a
  change l.length ≤ 1000000 at hp
  change Tri Try.prog 22 [.sl 0 L1 (esz 5 l.length) 0 l.length, .sl 1 L2 (esz 5 l.length) 0 l.length] [some (.ro, L1, .recs 5 false [] (l.map Pt.rc)), some (.ro, L2, .recs 5 false [] (l.map Pt.rc))] (postF fs22 ⟨L1, L2, l⟩)
  refine tri_evS (hyp (l := []) (lp := []) trivial trivial) Try.func22 comp22 (rs := [.tmp 4]) (by rfl) Try.ntmps22 10 ?_
  simp -implicitDefEqProofs only [push_cast, false_implies, reduceCtorEq, Classical.not_not, Nat.reduceAdd, Nat.reduceSub, Nat.reduceMul, Nat.reduceLeDiff, Nat.reduceLT, Nat.reduceEqDiff, Nat.reduceBEq, Nat.reduceBNe, Int.reduceNeg, Int.reduceToNat, Bool.or_false, Bool.false_or, Bool.or_true, Bool.true_or, BEq.rfl, Bool.not_eq_true, Bool.not_eq_false, decide_eq_true_eq, not_true_eq_false, not_false_eq_true, ite_true, ite_false, List.append_nil, and_assoc, Nat.mul_zero, Nat.zero_mul, ir22]
  refine evS_loopU (A := Nat) kp22_1 kl22_1 (fun i => [(5, .int .i64 i)]) (fun _ => []) (fun i => i ≤ l.length) (fun i => l.length - i) 0 (Nat.zero_le _) (Sub.pt ?_) ?_
  · simp -implicitDefEqProofs only [push_cast, false_implies, reduceCtorEq, Classical.not_not, Nat.reduceAdd, Nat.reduceSub, Nat.reduceMul, Nat.reduceLeDiff, Nat.reduceLT, Nat.reduceEqDiff, Nat.reduceBEq, Nat.reduceBNe, Int.reduceNeg, Int.reduceToNat, Bool.or_false, Bool.false_or, Bool.or_true, Bool.true_or, BEq.rfl, Bool.not_eq_true, Bool.not_eq_false, decide_eq_true_eq, not_true_eq_false, not_false_eq_true, ite_true, ite_false, List.append_nil, and_assoc, Nat.mul_zero, Nat.zero_mul]
  intro k (hk : k ≤ l.length) K hK
  by_cases hk' : k < l.length
  · have r1 := recAt_Pt hk' []
    have he := esz_pos (s := 5) (n := l.length) (by omega)
    have hlm : (l.map Pt.rc).length = l.length := List.length_map _
    obtain ⟨q, hq⟩ : ∃ q, rdPt l k = q := ⟨_, rfl⟩
    rw [hq] at r1
    obtain ⟨kd, x, y, w, h⟩ := q
    simp -implicitDefEqProofs only [push_cast, false_implies, reduceCtorEq, Classical.not_not, Nat.reduceAdd, Nat.reduceSub, Nat.reduceMul, Nat.reduceLeDiff, Nat.reduceLT, Nat.reduceEqDiff, Nat.reduceBEq, Nat.reduceBNe, Int.reduceNeg, Int.reduceToNat, Bool.or_false, Bool.false_or, Bool.or_true, Bool.true_or, BEq.rfl, Bool.not_eq_true, Bool.not_eq_false, decide_eq_true_eq, not_true_eq_false, not_false_eq_true, ite_true, ite_false, List.append_nil, and_assoc, Nat.mul_zero, Nat.zero_mul, b22_1, r1, Pt.rc, he, hlm]
    refine ⟨fun _ => ?_, fun h => by omega⟩
    repeat (refine And.intro (by first | omega | trivial | (intros; omega)) ?_)
    refine hK (k + 1) (show k + 1 ≤ l.length by omega) (show l.length - (k + 1) < l.length - k by omega) _ _ (Sub.pt ?_)
    simp -implicitDefEqProofs only [push_cast, false_implies, reduceCtorEq, Classical.not_not, Nat.reduceAdd, Nat.reduceSub, Nat.reduceMul, Nat.reduceLeDiff, Nat.reduceLT, Nat.reduceEqDiff, Nat.reduceBEq, Nat.reduceBNe, Int.reduceNeg, Int.reduceToNat, Bool.or_false, Bool.false_or, Bool.or_true, Bool.true_or, BEq.rfl, Bool.not_eq_true, Bool.not_eq_false, decide_eq_true_eq, not_true_eq_false, not_false_eq_true, ite_true, ite_false, List.append_nil, and_assoc, Nat.mul_zero, Nat.zero_mul, he]
  · obtain rfl : k = l.length := by omega
    clear hK
    simp -implicitDefEqProofs only [push_cast, false_implies, reduceCtorEq, Classical.not_not, Nat.reduceAdd, Nat.reduceSub, Nat.reduceMul, Nat.reduceLeDiff, Nat.reduceLT, Nat.reduceEqDiff, Nat.reduceBEq, Nat.reduceBNe, Int.reduceNeg, Int.reduceToNat, Bool.or_false, Bool.false_or, Bool.or_true, Bool.true_or, BEq.rfl, Bool.not_eq_true, Bool.not_eq_false, decide_eq_true_eq, not_true_eq_false, not_false_eq_true, ite_true, ite_false, List.append_nil, and_assoc, Nat.mul_zero, Nat.zero_mul, b22_1, r22_2, Int.lt_irrefl, true_implies, true_and]
    refine postF.mk' (fun _ => default) [some 0, some 1] ?_
    simp -implicitDefEqProofs only [push_cast, false_implies, reduceCtorEq, Classical.not_not, Nat.reduceAdd, Nat.reduceSub, Nat.reduceMul, Nat.reduceLeDiff, Nat.reduceLT, Nat.reduceEqDiff, Nat.reduceBEq, Nat.reduceBNe, Int.reduceNeg, Int.reduceToNat, Bool.or_false, Bool.false_or, Bool.or_true, Bool.true_or, BEq.rfl, Bool.not_eq_true, Bool.not_eq_false, decide_eq_true_eq, not_true_eq_false, not_false_eq_true, ite_true, ite_false, List.append_nil, and_assoc, Nat.mul_zero, Nat.zero_mul, fs22]
def ent22 : Entry := spOf fs22 inv22
theorem e22 : EntryOk Try.prog 22 ent22 := entry_of ok22 inv22
@[push_cast] theorem ent22_app (us : List SV) (look : Look) (x : Nat → Xf.Loc) (k : Nat) : ent22 us look x k = spOf fs22 inv22 us look x k := rfl
def ir60 : IR :=
  .seq (.reg false [⟨some 3, none, ⟨[], []⟩, .box 10 (.t 0)⟩,
    ⟨some 4, none, ⟨[], []⟩, .mov (.k (.bool false))⟩] [0, 4] []) (.seq (.reg false [⟨some 5, none, ⟨[], []⟩, .ld false (some 5) 0 0 (.t 3)⟩,
    ⟨some 6, none, ⟨[], []⟩, .ld false none 0 0 (.t 1)⟩,
    ⟨some 7, none, ⟨[], []⟩, .ld false none 0 0 (.t 2)⟩,
    ⟨some 8, none, ⟨[], []⟩, .call (some 4) 11 33 [.t 5, .t 6, .t 7]⟩,
    ⟨some 9, none, ⟨[], []⟩, .not (.t 8)⟩,
    ⟨some 4, none, ⟨[], []⟩, .mov (.t 9)⟩] [1, 2, 3, 5, 6, 7, 8, 9] []) (.ret))
set_option maxRecDepth 4000 in
theorem comp60 : (Try.f60.body.bind fun c => compC tab isP chkAll ir60 c) = some ir60 := by kernel_rfl
def b69_1 : IR :=
  .seq (.reg false [⟨some 9, none, ⟨[], []⟩, .bin 0 .lss (.t 8) (.t 7)⟩] [] []) (.seq (.cond (.t 9) (.skip) (.exit 0)) (.seq (.block 1 (.seq (.reg false [⟨some 10, none, ⟨[], []⟩, .mov (.t 8)⟩,
    ⟨some 5, none, ⟨[], []⟩, .mov (.t 10)⟩] [9, 10] []) (.seq (.reg false [⟨some 11, none, ⟨[], []⟩, .mov (.t 1)⟩,
    ⟨some 12, none, ⟨[], []⟩, .mov (.t 0)⟩,
    ⟨some 13, none, ⟨[], []⟩, .mov (.t 5)⟩,
    ⟨some 14, none, ⟨[], []⟩, .idxS (.t 12) (.t 13) 5⟩,
    ⟨some 15, none, ⟨[], []⟩, .ld true (some 5) 0 0 (.t 14)⟩,
    ⟨some 16, none, ⟨[], []⟩, .callv (some 4) 10 (.t 11) [.t 15]⟩] [11, 12, 13, 14, 15] []) (.cond (.t 16) (.seq (.reg false [⟨some 17, none, ⟨[], []⟩, .mov (.t 5)⟩,
    ⟨some 4, none, ⟨[], []⟩, .mov (.t 17)⟩] [0, 1, 5, 7, 8, 16, 17] []) (.ret)) (.skip))))) (.reg false [⟨some 18, none, ⟨[], []⟩, .bin 0 .add (.t 8) (.k (.int .i64 1))⟩,
    ⟨some 8, none, ⟨[], []⟩, .mov (.t 18)⟩] [4, 5, 16, 18] [])))
def r69_2 : IR :=
  .seq (.reg false [⟨some 4, none, ⟨[], []⟩, .mov (.k (.int .i64 (-1)))⟩] [0, 1, 7, 8] []) (.ret)
def ir69 : IR :=
  .seq (.reg false [⟨some 4, none, ⟨[], []⟩, .mov (.k (.int .i64 0))⟩] [4] []) (.seq (.seq (.reg false [⟨some 6, none, ⟨[], []⟩, .mov (.t 0)⟩,
    ⟨some 7, none, ⟨[], []⟩, .len (.t 6)⟩,
    ⟨some 8, none, ⟨[], []⟩, .mov (.k (.int .i64 0))⟩] [6] []) (.block 0 (.loop b69_1))) (r69_2))
def kp69_1 : List Nat := [0, 1, 7, 8]
def kl69_1 : List Nat := [10, 11, 12, 13]
attribute [push_cast] kp69_1 kl69_1
set_option maxRecDepth 4000 in
theorem comp69 : (Try.f69.body.bind fun c => compC tab isP chkAll ir69 c) = some ir69 := by kernel_rfl
def ir59 : IR :=
  .seq (.reg false [⟨some 4, none, ⟨[], []⟩, .mov (.k (.bool false))⟩] [4] []) (.seq (.reg false [⟨some 5, none, ⟨[], []⟩, .mov (.t 0)⟩,
    ⟨some 6, none, ⟨[], []⟩, .mov (.t 1)⟩,
    ⟨some 7, none, ⟨[], []⟩, .call (some 4) 10 69 [.t 5, .t 6]⟩,
    ⟨some 8, none, ⟨[], []⟩, .bin 0 .geq (.t 7) (.k (.int .i64 0))⟩,
    ⟨some 4, none, ⟨[], []⟩, .mov (.t 8)⟩] [0, 1, 5, 6, 7, 8] []) (.ret))
set_option maxRecDepth 4000 in
theorem comp59 : (Try.f59.body.bind fun c => compC tab isP chkAll ir59 c) = some ir59 := by kernel_rfl
def ir40 : IR :=
  .seq (.reg false [⟨some 4, none, ⟨[], []⟩, .box 10 (.t 1)⟩,
    ⟨some 5, none, ⟨[], []⟩, .box 11 (.t 2)⟩,
    ⟨some 6, none, ⟨[], []⟩, .mov (.k (.bool false))⟩] [1, 2, 6] []) (.seq (.reg false [⟨some 7, none, ⟨[], []⟩, .mov (.t 0)⟩,
    ⟨some 8, none, ⟨[], []⟩, .mkf 60 [.t 4, .t 5]⟩,
    ⟨some 9, none, ⟨[], []⟩, .call (some 4) 12 59 [.t 7, .t 8]⟩,
    ⟨some 10, none, ⟨[], []⟩, .not (.t 9)⟩,
    ⟨some 6, none, ⟨[], []⟩, .mov (.t 10)⟩] [0, 4, 5, 7, 8, 9, 10] []) (.ret))
set_option maxRecDepth 4000 in
theorem comp40 : (Try.f40.body.bind fun c => compC tab isP chkAll ir40 c) = some ir40 := by kernel_rfl
def ptBad (w h : Int) (x : Pt) : Bool := decide (¬ x.In w h)
structure ApA where
  L1 : Xf.Loc
  L2 : Xf.Loc
  x : Pt
  w : Int
  h : Int
def fs60 : FS where
  A := ApA
  args := fun a => [ptV a.x, .ptr 0 a.L1 0 0 0, .ptr 1 a.L2 0 0 0]
  mem := fun a => [some (.ro, a.L1, .cells [.int .i64 a.w]), some (.ro, a.L2, .cells [.int .i64 a.h])]
  pre := fun a => 0 ≤ a.w ∧ a.w ≤ 200 ∧ 0 ≤ a.h ∧ a.h ≤ 200
  res := fun a _ => .bool (ptBad a.w a.h a.x)
  out := fun _ _ => []
  new := fun _ _ => []
def inv60 : List SV → Look → Option (ApA × List Nat)
  | [.agg [.int .i64 k, .int .i64 x, .int .i64 y, .int .i64 w, .int .i64 h], .ptr c1 _ 0 0 0, .ptr c2 _ 0 0 0], look => match rowC (look c1), rowC (look c2) with
    | some (L1, [.int .i64 W]), some (L2, [.int .i64 H]) => some (⟨L1, L2, ⟨k, x, y, w, h⟩, W, H⟩, [c1, c2])
    | _, _ => none
  | _, _ => none
attribute [push_cast] inv60
theorem ok60 : FSOk Try.prog 60 fs60 := by
  refine ⟨⟨_, Try.func60, by kernel_rfl, by kernel_rfl⟩, fun a => ⟨by simp [fs60, push_cast, noMine, argOwn, Chunk.frArg], by simp [fs60, push_cast, outOk, Chunk.ext], fun x => .inl (by simp [fs60, push_cast, frNew, frOut, Chunk.fr])⟩, fun a hp => ?_⟩
  obtain ⟨L1, L2, ⟨k, x, y, w, h⟩, W, H⟩ := a
  obtain ⟨h1, h2, h3, h4⟩ : 0 ≤ W ∧ W ≤ 200 ∧ 0 ≤ H ∧ H ≤ 200 := hp
  change Tri Try.prog 60 [.agg [.int .i64 k, .int .i64 x, .int .i64 y, .int .i64 w, .int .i64 h], .ptr 0 L1 0 0 0, .ptr 1 L2 0 0 0] [some (.ro, L1, .cells [.int .i64 W]), some (.ro, L2, .cells [.int .i64 H])] (postF fs60 ⟨L1, L2, ⟨k, x, y, w, h⟩, W, H⟩)
  refine tri_evS (hyp (l := [(33, ent33)]) (lp := []) ⟨e33, trivial⟩ trivial) Try.func60 comp60 (rs := [.tmp 4]) (by rfl) Try.ntmps60 15 ?_
  simp -implicitDefEqProofs only [push_cast, false_implies, reduceCtorEq, Classical.not_not, Nat.reduceAdd, Nat.reduceSub, Nat.reduceMul, Nat.reduceLeDiff, Nat.reduceLT, Nat.reduceEqDiff, Nat.reduceBEq, Nat.reduceBNe, Int.reduceNeg, Int.reduceToNat, Bool.or_false, Bool.false_or, Bool.or_true, Bool.true_or, BEq.rfl, Bool.not_eq_true, Bool.not_eq_false, decide_eq_true_eq, not_true_eq_false, not_false_eq_true, ite_true, ite_false, List.append_nil, and_assoc, Nat.mul_zero, Nat.zero_mul, ir60, fs33, ptV]
  intro X
  repeat (refine And.intro (by first | omega | trivial | (intros; omega)) ?_)
  refine postF.mk' (fun _ => default) [some 0, some 1] ?_
  simp -implicitDefEqProofs only [push_cast, false_implies, reduceCtorEq, Classical.not_not, Nat.reduceAdd, Nat.reduceSub, Nat.reduceMul, Nat.reduceLeDiff, Nat.reduceLT, Nat.reduceEqDiff, Nat.reduceBEq, Nat.reduceBNe, Int.reduceNeg, Int.reduceToNat, Bool.or_false, Bool.false_or, Bool.or_true, Bool.true_or, BEq.rfl, Bool.not_eq_true, Bool.not_eq_false, decide_eq_true_eq, not_true_eq_false, not_false_eq_true, ite_true, ite_false, List.append_nil, and_assoc, Nat.mul_zero, Nat.zero_mul, fs60, ptBad]
def ent60 : Entry := spOf fs60 inv60
theorem e60 : EntryOk Try.prog 60 ent60 := entry_of ok60 inv60
@[push_cast] theorem ent60_app (us : List SV) (look : Look) (x : Nat → Xf.Loc) (k : Nat) : ent60 us look x k = spOf fs60 inv60 us look x k := rfl
structure ApR where
  L : Xf.Loc
  s : Nat
  l : List Pt
  L1 : Xf.Loc
  L2 : Xf.Loc
  w : Int
  h : Int
def fs69 : FS where
  A := ApR
  args := fun a => [.sl 0 a.L a.s 0 a.l.length, .fn 60 [.ptr 1 a.L1 0 0 0, .ptr 2 a.L2 0 0 0]]
  mem := fun a => [some (.ro, a.L, .recs 5 false [] (a.l.map Pt.rc)), some (.ro, a.L1, .cells [.int .i64 a.w]), some (.ro, a.L2, .cells [.int .i64 a.h])]
  pre := fun a => a.l.length ≤ 1000000 ∧ (0 < a.l.length → a.s = 5) ∧ 0 ≤ a.w ∧ a.w ≤ 200 ∧ 0 ≤ a.h ∧ a.h ≤ 200
  res := fun a _ => .int .i64 (if a.l.findIdx (ptBad a.w a.h) < a.l.length then (a.l.findIdx (ptBad a.w a.h) : Nat) else -1)
  out := fun _ _ => []
  new := fun _ _ => []
def inv69 : List SV → Look → Option (ApR × List Nat)
  | [.sl c _ s 0 _, .fn 60 [.ptr c1 _ 0 0 0, .ptr c2 _ 0 0 0]], look => match rowR (look c), rowC (look c1), rowC (look c2) with
    | some (L, 5, _, r), some (L1, [.int .i64 W]), some (L2, [.int .i64 H]) => match getPt r with | some l => some (⟨L, s, l, L1, L2, W, H⟩, [c, c1, c2]) | none => none
    | _, _, _ => none
  | _, _ => none
attribute [push_cast] inv69
theorem ok69 : FSOk Try.prog 69 fs69 := by
  refine ⟨⟨_, Try.func69, by kernel_rfl, by kernel_rfl⟩, fun a => ⟨by simp [fs69, push_cast, noMine, argOwn, Chunk.frArg], by simp [fs69, push_cast, outOk, Chunk.ext], fun x => .inl (by simp [fs69, push_cast, frNew, frOut, Chunk.fr])⟩, fun a hp => ?_⟩
  obtain ⟨L, s, l, L1, L2, W, H⟩ := a
  obtain ⟨hl, hs, h1, h2, h3, h4⟩ : l.length ≤ 1000000 ∧ (0 < l.length → s = 5) ∧ 0 ≤ W ∧ W ≤ 200 ∧ 0 ≤ H ∧ H ≤ 200 := hp
  change Tri Try.prog 69 [.sl 0 L s 0 l.length, .fn 60 [.ptr 1 L1 0 0 0, .ptr 2 L2 0 0 0]] [some (.ro, L, .recs 5 false [] (l.map Pt.rc)), some (.ro, L1, .cells [.int .i64 W]), some (.ro, L2, .cells [.int .i64 H])] (postF fs69 ⟨L, s, l, L1, L2, W, H⟩)
  refine tri_evS (hyp (l := [(60, ent60)]) (lp := []) ⟨e60, trivial⟩ trivial) Try.func69 comp69 (rs := [.tmp 4]) (by rfl) Try.ntmps69 14 ?_
  simp -implicitDefEqProofs only [push_cast, false_implies, reduceCtorEq, Classical.not_not, Nat.reduceAdd, Nat.reduceSub, Nat.reduceMul, Nat.reduceLeDiff, Nat.reduceLT, Nat.reduceEqDiff, Nat.reduceBEq, Nat.reduceBNe, Int.reduceNeg, Int.reduceToNat, Bool.or_false, Bool.false_or, Bool.or_true, Bool.true_or, BEq.rfl, Bool.not_eq_true, Bool.not_eq_false, decide_eq_true_eq, not_true_eq_false, not_false_eq_true, ite_true, ite_false, List.append_nil, and_assoc, Nat.mul_zero, Nat.zero_mul, ir69]
  refine evS_loopU (A := Nat) kp69_1 kl69_1 (fun i => [(8, .int .i64 i)]) (fun _ => []) (fun i => i ≤ l.length ∧ ∀ j : Nat, j < i → ptBad W H (rdPt l j) = false) (fun i => l.length - i) 0 ⟨Nat.zero_le _, fun j hj => absurd hj (Nat.not_lt_zero j)⟩ (Sub.pt ?_) ?_
  · simp -implicitDefEqProofs only [push_cast, false_implies, reduceCtorEq, Classical.not_not, Nat.reduceAdd, Nat.reduceSub, Nat.reduceMul, Nat.reduceLeDiff, Nat.reduceLT, Nat.reduceEqDiff, Nat.reduceBEq, Nat.reduceBNe, Int.reduceNeg, Int.reduceToNat, Bool.or_false, Bool.false_or, Bool.or_true, Bool.true_or, BEq.rfl, Bool.not_eq_true, Bool.not_eq_false, decide_eq_true_eq, not_true_eq_false, not_false_eq_true, ite_true, ite_false, List.append_nil, and_assoc, Nat.mul_zero, Nat.zero_mul]
  intro i ⟨hi, hj⟩ K hK
  have hnat : ∀ {j : Nat} (h : j < l.length), rdPt l j = l[j] := fun h => by simp [rdPt, h]
  by_cases hi' : i < l.length
  · have r1 := recAt_Pt (l := l) (i := i) hi' []
    have hlm : (l.map Pt.rc).length = l.length := by rw [List.length_map]
    obtain rfl := hs (by omega)
    obtain ⟨x, hx⟩ : ∃ x, rdPt l i = x := ⟨_, rfl⟩
    have hx' : l[i] = x := by rw [← hnat hi', hx]
    rw [hx] at r1
    obtain ⟨k, x, y, w, h⟩ := x
    obtain ⟨g, hg⟩ : ∃ g, ptBad W H ⟨k, x, y, w, h⟩ = g := ⟨_, rfl⟩
    simp -implicitDefEqProofs only [push_cast, false_implies, reduceCtorEq, Classical.not_not, Nat.reduceAdd, Nat.reduceSub, Nat.reduceMul, Nat.reduceLeDiff, Nat.reduceLT, Nat.reduceEqDiff, Nat.reduceBEq, Nat.reduceBNe, Int.reduceNeg, Int.reduceToNat, Bool.or_false, Bool.false_or, Bool.or_true, Bool.true_or, BEq.rfl, Bool.not_eq_true, Bool.not_eq_false, decide_eq_true_eq, not_true_eq_false, not_false_eq_true, ite_true, ite_false, List.append_nil, and_assoc, Nat.mul_zero, Nat.zero_mul, b69_1, r69_2, r1, Pt.rc, hlm, fs60, ptV, hg]
    refine ⟨fun _ => ?_, fun hl => by omega⟩
    repeat (refine And.intro (by first | omega | trivial | (intros; omega)) ?_)
    refine ⟨fun hb => ?_, fun hb => ⟨by omega, by omega, hK (i + 1) ⟨by omega, fun j h => ?_⟩ (by omega) _ _ (Sub.pt ?_)⟩⟩
    · have e : l.findIdx (ptBad W H) = i := by
        rw [List.findIdx_eq hi']
        refine ⟨by rw [hx', hg]; exact hb, fun j h => ?_⟩
        have := hj j h
        rwa [hnat (by omega)] at this
      refine postF.mk' (fun _ => default) [some 0, some 1, some 2] ?_
      simp -implicitDefEqProofs only [push_cast, false_implies, reduceCtorEq, Classical.not_not, Nat.reduceAdd, Nat.reduceSub, Nat.reduceMul, Nat.reduceLeDiff, Nat.reduceLT, Nat.reduceEqDiff, Nat.reduceBEq, Nat.reduceBNe, Int.reduceNeg, Int.reduceToNat, Bool.or_false, Bool.false_or, Bool.or_true, Bool.true_or, BEq.rfl, Bool.not_eq_true, Bool.not_eq_false, decide_eq_true_eq, not_true_eq_false, not_false_eq_true, ite_true, ite_false, List.append_nil, and_assoc, Nat.mul_zero, Nat.zero_mul, fs69, e, hi', if_true]
    · by_cases e : j = i
      · subst e; rw [hx, hg]; exact hb
      · exact hj j (by omega)
    · simp -implicitDefEqProofs only [push_cast, false_implies, reduceCtorEq, Classical.not_not, Nat.reduceAdd, Nat.reduceSub, Nat.reduceMul, Nat.reduceLeDiff, Nat.reduceLT, Nat.reduceEqDiff, Nat.reduceBEq, Nat.reduceBNe, Int.reduceNeg, Int.reduceToNat, Bool.or_false, Bool.false_or, Bool.or_true, Bool.true_or, BEq.rfl, Bool.not_eq_true, Bool.not_eq_false, decide_eq_true_eq, not_true_eq_false, not_false_eq_true, ite_true, ite_false, List.append_nil, and_assoc, Nat.mul_zero, Nat.zero_mul]
  · obtain rfl : i = l.length := by omega
    clear hK
    have e : ¬ l.findIdx (ptBad W H) < l.length := fun h => by
      have h1 := List.findIdx_getElem (w := h)
      have h2 := hj _ h
      rw [hnat h, h1] at h2
      cases h2
    simp -implicitDefEqProofs only [push_cast, false_implies, reduceCtorEq, Classical.not_not, Nat.reduceAdd, Nat.reduceSub, Nat.reduceMul, Nat.reduceLeDiff, Nat.reduceLT, Nat.reduceEqDiff, Nat.reduceBEq, Nat.reduceBNe, Int.reduceNeg, Int.reduceToNat, Bool.or_false, Bool.false_or, Bool.or_true, Bool.true_or, BEq.rfl, Bool.not_eq_true, Bool.not_eq_false, decide_eq_true_eq, not_true_eq_false, not_false_eq_true, ite_true, ite_false, List.append_nil, and_assoc, Nat.mul_zero, Nat.zero_mul, b69_1, r69_2, Int.lt_irrefl, true_implies, true_and]
    refine postF.mk' (fun _ => default) [some 0, some 1, some 2] ?_
    simp -implicitDefEqProofs only [push_cast, false_implies, reduceCtorEq, Classical.not_not, Nat.reduceAdd, Nat.reduceSub, Nat.reduceMul, Nat.reduceLeDiff, Nat.reduceLT, Nat.reduceEqDiff, Nat.reduceBEq, Nat.reduceBNe, Int.reduceNeg, Int.reduceToNat, Bool.or_false, Bool.false_or, Bool.or_true, Bool.true_or, BEq.rfl, Bool.not_eq_true, Bool.not_eq_false, decide_eq_true_eq, not_true_eq_false, not_false_eq_true, ite_true, ite_false, List.append_nil, and_assoc, Nat.mul_zero, Nat.zero_mul, fs69, e, if_false]
def ent69 : Entry := spOf fs69 inv69
theorem e69 : EntryOk Try.prog 69 ent69 := entry_of ok69 inv69
@[push_cast] theorem ent69_app (us : List SV) (look : Look) (x : Nat → Xf.Loc) (k : Nat) : ent69 us look x k = spOf fs69 inv69 us look x k := rfl
/-- All are parts within a plane of w by h. -/
def ptsIn (w h : Int) (l : List Pt) : Prop := ∀ x ∈ l, x.In w h
instance (w h : Int) (l : List Pt) : Decidable (ptsIn w h l) := by unfold ptsIn; infer_instance
theorem ptsIn_iff (w h : Int) (l : List Pt) : (0 ≤ (if l.findIdx (ptBad w h) < l.length then ((l.findIdx (ptBad w h) : Nat) : Int) else -1)) ↔ ¬ ptsIn w h l := by
  have hh := List.findIdx_lt_length (xs := l) (p := ptBad w h)
  unfold ptsIn
  by_cases c : l.findIdx (ptBad w h) < l.length
  · rw [if_pos c]
    obtain ⟨x, hx, hb⟩ := hh.1 c
    refine ⟨fun _ H => ?_, fun _ => by omega⟩
    have := H x hx
    unfold ptBad at hb; simp [this] at hb
  · rw [if_neg c]
    refine ⟨fun h => by omega, fun H => absurd (hh.2 ?_) c⟩
    simp only [Classical.not_forall] at H
    obtain ⟨x, hx, hb⟩ := H
    exact ⟨x, hx, by unfold ptBad; simp [hb]⟩
def fs59 : FS := { fs69 with res := fun a _ => .bool (decide (¬ ptsIn a.w a.h a.l)) }
theorem ok59 : FSOk Try.prog 59 fs59 := by
  refine ⟨⟨_, Try.func59, by kernel_rfl, by kernel_rfl⟩, fun a => ⟨by simp [fs59, fs69, push_cast, noMine, argOwn, Chunk.frArg], by simp [fs59, fs69, push_cast, outOk, Chunk.ext], fun x => .inl (by simp [fs59, fs69, push_cast, frNew, frOut, Chunk.fr])⟩, fun a hp => ?_⟩
  obtain ⟨L, s, l, L1, L2, W, H⟩ := a
  obtain ⟨hl, hs, h1, h2, h3, h4⟩ : l.length ≤ 1000000 ∧ (0 < l.length → s = 5) ∧ 0 ≤ W ∧ W ≤ 200 ∧ 0 ≤ H ∧ H ≤ 200 := hp
  change Tri Try.prog 59 [.sl 0 L s 0 l.length, .fn 60 [.ptr 1 L1 0 0 0, .ptr 2 L2 0 0 0]] [some (.ro, L, .recs 5 false [] (l.map Pt.rc)), some (.ro, L1, .cells [.int .i64 W]), some (.ro, L2, .cells [.int .i64 H])] (postF fs59 ⟨L, s, l, L1, L2, W, H⟩)
  refine tri_evS (hyp (l := [(69, ent69)]) (lp := []) ⟨e69, trivial⟩ trivial) Try.func59 comp59 (rs := [.tmp 4]) (by rfl) Try.ntmps59 14 ?_
  have hi := ptsIn_iff W H l
  obtain ⟨v, hv⟩ : ∃ v : Int, (if l.findIdx (ptBad W H) < l.length then ((l.findIdx (ptBad W H) : Nat) : Int) else -1) = v := ⟨_, rfl⟩
  rw [hv] at hi
  simp -implicitDefEqProofs only [push_cast, false_implies, reduceCtorEq, Classical.not_not, Nat.reduceAdd, Nat.reduceSub, Nat.reduceMul, Nat.reduceLeDiff, Nat.reduceLT, Nat.reduceEqDiff, Nat.reduceBEq, Nat.reduceBNe, Int.reduceNeg, Int.reduceToNat, Bool.or_false, Bool.false_or, Bool.or_true, Bool.true_or, BEq.rfl, Bool.not_eq_true, Bool.not_eq_false, decide_eq_true_eq, not_true_eq_false, not_false_eq_true, ite_true, ite_false, List.append_nil, and_assoc, Nat.mul_zero, Nat.zero_mul, ir59, fs69, hv, hi]
  repeat (refine And.intro (by first | omega | trivial | (intros; omega)) ?_)
  refine postF.mk' (fun _ => default) [some 0, some 1, some 2] ?_
  simp -implicitDefEqProofs only [push_cast, false_implies, reduceCtorEq, Classical.not_not, Nat.reduceAdd, Nat.reduceSub, Nat.reduceMul, Nat.reduceLeDiff, Nat.reduceLT, Nat.reduceEqDiff, Nat.reduceBEq, Nat.reduceBNe, Int.reduceNeg, Int.reduceToNat, Bool.or_false, Bool.false_or, Bool.or_true, Bool.true_or, BEq.rfl, Bool.not_eq_true, Bool.not_eq_false, decide_eq_true_eq, not_true_eq_false, not_false_eq_true, ite_true, ite_false, List.append_nil, and_assoc, Nat.mul_zero, Nat.zero_mul, fs59, fs69, hi]
def ent59 : Entry := spOf fs59 inv69
theorem e59 : EntryOk Try.prog 59 ent59 := entry_of ok59 inv69
@[push_cast] theorem ent59_app (us : List SV) (look : Look) (x : Nat → Xf.Loc) (k : Nat) : ent59 us look x k = spOf fs59 inv69 us look x k := rfl
structure ArA where
  L : Xf.Loc
  s : Nat
  l : List Pt
  w : Int
  h : Int
def fs40 : FS where
  A := ArA
  args := fun a => [.sl 0 a.L a.s 0 a.l.length, .int .i64 a.w, .int .i64 a.h]
  mem := fun a => [some (.ro, a.L, .recs 5 false [] (a.l.map Pt.rc))]
  pre := fun a => a.l.length ≤ 1000000 ∧ (0 < a.l.length → a.s = 5) ∧ 0 ≤ a.w ∧ a.w ≤ 200 ∧ 0 ≤ a.h ∧ a.h ≤ 200
  res := fun a _ => .bool (decide (ptsIn a.w a.h a.l))
  out := fun _ _ => []
  new := fun _ _ => []
def inv40 : List SV → Look → Option (ArA × List Nat)
  | [.sl c _ s 0 _, .int .i64 W, .int .i64 H], look => match rowR (look c) with
    | some (L, 5, _, r) => match getPt r with | some l => some (⟨L, s, l, W, H⟩, [c]) | none => none
    | _ => none
  | _, _ => none
attribute [push_cast] inv40
theorem ok40 : FSOk Try.prog 40 fs40 := by
  refine ⟨⟨_, Try.func40, by kernel_rfl, by kernel_rfl⟩, fun a => ⟨by simp [fs40, push_cast, noMine, argOwn, Chunk.frArg], by simp [fs40, push_cast, outOk, Chunk.ext], fun x => .inl (by simp [fs40, push_cast, frNew, frOut, Chunk.fr])⟩, fun a hp => ?_⟩
  obtain ⟨L, s, l, W, H⟩ := a
  have hp' := hp
  obtain ⟨hl, hs, h1, h2, h3, h4⟩ : l.length ≤ 1000000 ∧ (0 < l.length → s = 5) ∧ 0 ≤ W ∧ W ≤ 200 ∧ 0 ≤ H ∧ H ≤ 200 := hp
  change Tri Try.prog 40 [.sl 0 L s 0 l.length, .int .i64 W, .int .i64 H] [some (.ro, L, .recs 5 false [] (l.map Pt.rc))] (postF fs40 ⟨L, s, l, W, H⟩)
  refine tri_evS (hyp (l := [(59, ent59)]) (lp := []) ⟨e59, trivial⟩ trivial) Try.func40 comp40 (rs := [.tmp 6]) (by rfl) Try.ntmps40 16 ?_
  simp -implicitDefEqProofs only [push_cast, false_implies, reduceCtorEq, Classical.not_not, Nat.reduceAdd, Nat.reduceSub, Nat.reduceMul, Nat.reduceLeDiff, Nat.reduceLT, Nat.reduceEqDiff, Nat.reduceBEq, Nat.reduceBNe, Int.reduceNeg, Int.reduceToNat, Bool.or_false, Bool.false_or, Bool.or_true, Bool.true_or, BEq.rfl, Bool.not_eq_true, Bool.not_eq_false, decide_eq_true_eq, not_true_eq_false, not_false_eq_true, ite_true, ite_false, List.append_nil, and_assoc, Nat.mul_zero, Nat.zero_mul, ir40, fs59, fs69]
  intro X
  repeat (refine And.intro (by first | omega | trivial | (intros; omega)) ?_)
  refine postF.mk' (fun _ => default) [some 0] ?_
  simp -implicitDefEqProofs only [push_cast, false_implies, reduceCtorEq, Classical.not_not, Nat.reduceAdd, Nat.reduceSub, Nat.reduceMul, Nat.reduceLeDiff, Nat.reduceLT, Nat.reduceEqDiff, Nat.reduceBEq, Nat.reduceBNe, Int.reduceNeg, Int.reduceToNat, Bool.or_false, Bool.false_or, Bool.or_true, Bool.true_or, BEq.rfl, Bool.not_eq_true, Bool.not_eq_false, decide_eq_true_eq, not_true_eq_false, not_false_eq_true, ite_true, ite_false, List.append_nil, and_assoc, Nat.mul_zero, Nat.zero_mul, fs40]
def ent40 : Entry := spOf fs40 inv40
theorem e40 : EntryOk Try.prog 40 ent40 := entry_of ok40 inv40
@[push_cast] theorem ent40_app (us : List SV) (look : Look) (x : Nat → Xf.Loc) (k : Nat) : ent40 us look x k = spOf fs40 inv40 us look x k := rfl
def tks (f : Rt → Nat × Int → Bool × Nat × Int) : List Rt → Nat × Int → Bool × Nat × Int
  | [], s => (true, s)
  | q :: Q, s => if (f q s).1 then tks f Q (f q s).2 else (false, (f q s).2)
/-- Takes the parts of a tree of r from place o on: whether there is one, the place after it, and the count of cuts. -/
def tk (l : List Pt) : Nat → Rt → Nat × Int → Bool × Nat × Int
  | 0, _, s => (false, s)
  | N + 1, r, s => if s.1 < l.length then if (rdPt l s.1).rt = r then (true, s.1 + 1, s.2) else if r.w * r.h = 1 then (false, s) else tks (tk l N) (qs r) (s.1, s.2 + 1) else (false, s)
theorem qs_two {p : Pn} {r : Rt} (h : inR p r) (h1 : ¬ r.w * r.h = 1) : 2 ≤ (qs r).length := by
  have hs := qs_sum r
  have ha := area_pos h
  match hq : qs r with
  | [] => rw [hq] at hs; simp only [List.map_nil, sumL] at hs; omega
  | [a] =>
    rw [hq] at hs; simp only [List.map_cons, List.map_nil, sumL] at hs
    have := (qs_in h a (by rw [hq]; simp)).2 h1
    omega
  | a :: b :: l => simp
theorem tks_bd {n : Nat} {f : Rt → Nat × Int → Bool × Nat × Int} : ∀ (Q : List Rt) (s : Nat × Int), s.1 ≤ n →
    (∀ q ∈ Q, 1 ≤ area q ∧ ∀ s : Nat × Int, s.1 ≤ n → s.1 ≤ (f q s).2.1 ∧ (f q s).2.1 ≤ n ∧ s.2 ≤ (f q s).2.2 ∧ (f q s).2.2 + 1 ≤ s.2 + area q) →
    s.1 ≤ (tks f Q s).2.1 ∧ (tks f Q s).2.1 ≤ n ∧ s.2 ≤ (tks f Q s).2.2 ∧ (tks f Q s).2.2 + Q.length ≤ s.2 + sumL (Q.map area) ∧ (Q.length : Int) ≤ sumL (Q.map area)
  | [], s, hs, _ => ⟨Nat.le_refl _, hs, Int.le_refl _, by simp [tks, sumL], by simp [sumL]⟩
  | q :: Q, s, hs, h => by
    obtain ⟨a1, h1⟩ := h q (by simp)
    obtain ⟨b1, b2, b3, b4⟩ := h1 s hs
    obtain ⟨c1, c2, c3, c4, c5⟩ := tks_bd Q (f q s).2 b2 fun x hx => h x (by simp [hx])
    rw [tks]
    simp only [List.map_cons, sumL, List.length_cons]
    split
    · exact ⟨by omega, c2, by omega, by push_cast; omega, by push_cast; omega⟩
    · exact ⟨b1, b2, b3, by push_cast; omega, by push_cast; omega⟩
theorem tk_bd {p : Pn} {l : List Pt} : ∀ (N : Nat) (r : Rt) (s : Nat × Int), inR p r → r.w * r.h ≤ N → s.1 ≤ l.length →
    s.1 ≤ (tk l N r s).2.1 ∧ (tk l N r s).2.1 ≤ l.length ∧ s.2 ≤ (tk l N r s).2.2 ∧ (tk l N r s).2.2 + 1 ≤ s.2 + area r
  | 0, r, s, h, hN, _ => by have := area_pos h; unfold area at this; omega
  | N + 1, r, s, h, hN, hs => by
    have ha := area_pos h
    have hself : s.1 ≤ s.1 ∧ s.1 ≤ l.length ∧ s.2 ≤ s.2 ∧ s.2 + 1 ≤ s.2 + area r := ⟨Nat.le_refl _, hs, Int.le_refl _, by omega⟩
    rw [tk]
    split
    · split
      · exact ⟨Nat.le_succ _, by assumption, Int.le_refl _, by simp only; omega⟩
      · split
        · exact hself
        · rename_i h1
          have := tks_bd (n := l.length) (f := tk l N) (qs r) (s.1, s.2 + 1) hs fun q hq => by
            obtain ⟨k1, k2⟩ := qs_in h q hq
            have k3 := k2 h1
            refine ⟨area_pos k1, fun s hs => tk_bd N q s k1 ?_ hs⟩
            unfold area at k3; omega
          have h2 := qs_two h h1
          rw [qs_sum] at this
          obtain ⟨d1, d2, d3, d4, _⟩ := this
          simp only at d1 d3 d4
          exact ⟨d1, d2, by omega, by omega⟩
    · exact hself
def b61_1 : IR :=
  .seq (.reg false [⟨some 51, none, ⟨[], []⟩, .bin 0 .lss (.t 50) (.t 49)⟩] [] []) (.seq (.cond (.t 51) (.skip) (.exit 0)) (.seq (.block 1 (.seq (.reg false [⟨some 52, none, ⟨[], []⟩, .idxS (.t 48) (.t 50) 4⟩,
    ⟨some 53, none, ⟨[], []⟩, .ld true (some 4) 0 0 (.t 52)⟩,
    ⟨some 7, none, ⟨[], []⟩, .alloc 20 [.int .i64 0, .int .i64 0, .int .i64 0, .int .i64 0]⟩,
    ⟨none, none, ⟨[], []⟩, .sto false 4 .i64 (.t 7) (.t 53)⟩] [51, 52, 53] []) (.seq (.reg false [⟨some 54, none, ⟨[], []⟩, .mov (.t 0)⟩,
    ⟨some 55, none, ⟨[], []⟩, .ld false (some 4) 0 0 (.t 7)⟩,
    ⟨some 56, none, ⟨[], []⟩, .call none 21 61 [.t 54, .t 55]⟩,
    ⟨some 57, none, ⟨[], []⟩, .not (.t 56)⟩] [7, 54, 55, 56] []) (.cond (.t 57) (.seq (.reg false [⟨some 4, none, ⟨[], []⟩, .mov (.k (.bool false))⟩] [0, 48, 49, 50, 57] []) (.ret)) (.skip))))) (.reg false [⟨some 58, none, ⟨[], []⟩, .bin 0 .add (.t 50) (.k (.int .i64 1))⟩,
    ⟨some 50, none, ⟨[], []⟩, .mov (.t 58)⟩] [4, 57, 58] [])))
def r61_2 : IR :=
  .seq (.reg false [⟨some 4, none, ⟨[], []⟩, .mov (.k (.bool true))⟩] [0, 48, 49, 50] []) (.ret)
def ir61 : IR :=
  .seq (.reg false [⟨some 3, none, ⟨[], []⟩, .box 10 (.t 1)⟩,
    ⟨some 4, none, ⟨[], []⟩, .mov (.k (.bool false))⟩] [1, 4] []) (.seq (.seq (.reg false [⟨some 8, none, ⟨[], []⟩, .mov (.t 0)⟩,
    ⟨some 9, none, ⟨[], []⟩, .nilc (.t 8)⟩,
    ⟨some 10, none, ⟨[], []⟩, .fld (.t 9) 0⟩,
    ⟨some 11, none, ⟨[], []⟩, .ld false none 0 0 (.t 10)⟩,
    ⟨some 12, none, ⟨[], []⟩, .len (.t 11)⟩,
    ⟨some 13, none, ⟨[], []⟩, .bin 0 .eql (.t 12) (.k (.int .i64 0))⟩] [8, 9, 10, 11, 12] []) (.cond (.t 13) (.seq (.reg false [⟨some 4, none, ⟨[], []⟩, .mov (.k (.bool false))⟩] [0, 3, 13] []) (.ret)) (.skip))) (.seq (.seq (.reg false [⟨some 14, none, ⟨[], []⟩, .mov (.t 0)⟩,
    ⟨some 15, none, ⟨[], []⟩, .nilc (.t 14)⟩,
    ⟨some 16, none, ⟨[], []⟩, .fld (.t 15) 0⟩,
    ⟨some 17, none, ⟨[], []⟩, .ld false none 0 0 (.t 16)⟩,
    ⟨some 18, none, ⟨[], []⟩, .idxS (.t 17) (.k (.int .i64 0)) 5⟩,
    ⟨some 19, none, ⟨[], []⟩, .ld true (some 5) 0 0 (.t 18)⟩,
    ⟨some 5, none, ⟨[], []⟩, .alloc 11 [.int .i64 0, .int .i64 0, .int .i64 0, .int .i64 0, .int .i64 0]⟩,
    ⟨none, none, ⟨[], []⟩, .sto false 5 .i64 (.t 5) (.t 19)⟩] [4, 13, 14, 15, 16, 17, 18, 19] []) (.seq (.reg true [⟨some 20, none, ⟨[12, 13, 14, 15], []⟩, .ld false (some 5) 0 0 (.t 5)⟩,
    ⟨some 21, none, ⟨[], []⟩, .ld false (some 4) 0 0 (.t 3)⟩,
    ⟨some 22, none, ⟨[], []⟩, .fld (.t 5) 0⟩,
    ⟨some 23, none, ⟨[], []⟩, .ld false none 0 0 (.t 22)⟩,
    ⟨some 24, none, ⟨[], []⟩, .call (some 4) 12 54 [.t 21, .t 23]⟩,
    ⟨some 25, none, ⟨[], []⟩, .binA .eql [true, true, true, true, true] (.t 20) (.t 24)⟩] [5, 20, 21, 22, 23, 24] []) (.cond (.t 25) (.seq (.reg false [⟨some 26, none, ⟨[], []⟩, .mov (.t 0)⟩,
    ⟨some 27, none, ⟨[], []⟩, .mov (.t 0)⟩,
    ⟨some 28, none, ⟨[], []⟩, .nilc (.t 27)⟩,
    ⟨some 29, none, ⟨[], []⟩, .fld (.t 28) 0⟩,
    ⟨some 30, none, ⟨[], []⟩, .ld false none 0 0 (.t 29)⟩,
    ⟨some 31, none, ⟨[], []⟩, .slc (.t 30) 5 (some (.k (.int .i64 1))) none⟩,
    ⟨some 32, none, ⟨[], []⟩, .nilc (.t 26)⟩,
    ⟨some 33, none, ⟨[], []⟩, .fld (.t 32) 0⟩,
    ⟨none, none, ⟨[], []⟩, .sto false 1 .i64 (.t 33) (.t 31)⟩] [0, 3, 25, 26, 27, 28, 29, 30, 31, 32, 33] []) (.seq (.reg false [⟨some 4, none, ⟨[], []⟩, .mov (.k (.bool true))⟩] [] []) (.ret))) (.skip)))) (.seq (.seq (.reg false [⟨some 34, none, ⟨[], []⟩, .fld (.t 3) 2⟩,
    ⟨some 35, none, ⟨[], []⟩, .ld false none 0 0 (.t 34)⟩,
    ⟨some 36, none, ⟨[], []⟩, .fld (.t 3) 3⟩,
    ⟨some 37, none, ⟨[], []⟩, .ld false none 0 0 (.t 36)⟩,
    ⟨some 38, none, ⟨[], []⟩, .bin 0 .mul (.t 35) (.t 37)⟩,
    ⟨some 39, none, ⟨[], []⟩, .bin 0 .eql (.t 38) (.k (.int .i64 1))⟩] [4, 25, 34, 35, 36, 37, 38] []) (.cond (.t 39) (.seq (.reg false [⟨some 4, none, ⟨[], []⟩, .mov (.k (.bool false))⟩] [0, 3, 39] []) (.ret)) (.skip))) (.seq (.reg false [⟨some 40, none, ⟨[], []⟩, .mov (.t 0)⟩,
    ⟨some 41, none, ⟨[], []⟩, .nilc (.t 40)⟩,
    ⟨some 42, none, ⟨[], []⟩, .fld (.t 41) 1⟩,
    ⟨some 43, none, ⟨[], []⟩, .ld false none 0 0 (.t 42)⟩,
    ⟨some 44, none, ⟨[], []⟩, .bin 0 .add (.t 43) (.k (.int .i64 1))⟩,
    ⟨some 45, none, ⟨[], []⟩, .nilc (.t 40)⟩,
    ⟨some 46, none, ⟨[], []⟩, .fld (.t 45) 1⟩,
    ⟨none, none, ⟨[], []⟩, .sto false 1 .i64 (.t 46) (.t 44)⟩] [4, 39, 40, 41, 42, 43, 44, 45, 46] []) (.seq (.seq (.reg false [⟨some 47, none, ⟨[], []⟩, .ld false (some 4) 0 0 (.t 3)⟩,
    ⟨some 48, none, ⟨[], []⟩, .call (some 4) 16 55 [.t 47]⟩,
    ⟨some 49, none, ⟨[], []⟩, .len (.t 48)⟩,
    ⟨some 50, none, ⟨[], []⟩, .mov (.k (.int .i64 0))⟩] [3, 47] []) (.block 0 (.loop b61_1))) (r61_2))))))
def kp61_1 : List Nat := [0, 48, 49, 50]
def kl61_1 : List Nat := [20, 21, 22, 23, 24]
attribute [push_cast] kp61_1 kl61_1
set_option maxRecDepth 4000 in
theorem comp61 : (Try.f61.body.bind fun c => compC tab isP chkAll ir61 c) = some ir61 := by kernel_rfl
theorem tks_drop {f : Rt → Nat × Int → Bool × Nat × Int} {Q : List Rt} {i : Nat} (hi : i < Q.length) (s : Nat × Int) :
    tks f (Q.drop i) s = (if (f (rdRt Q (i : Int)) s).1 then tks f (Q.drop (i + 1)) (f (rdRt Q (i : Int)) s).2 else (false, (f (rdRt Q (i : Int)) s).2)) ∧ sumL ((Q.drop i).map area) = area (rdRt Q (i : Int)) + sumL ((Q.drop (i + 1)).map area) := by
  rw [List.drop_eq_getElem_cons hi, rdRt_nat hi]
  exact ⟨rfl, by simp only [List.map_cons, sumL]⟩
theorem len_sum : ∀ (Q : List Rt), (∀ q ∈ Q, 1 ≤ area q) → (Q.length : Int) ≤ sumL (Q.map area)
  | [], _ => by simp [sumL]
  | q :: Q, h => by
    have := len_sum Q fun x hx => h x (by simp [hx])
    have h1 := h q (by simp)
    simp only [List.length_cons, List.map_cons, sumL]; push_cast; omega
structure WkA where
  Lw : Xf.Loc
  L : Xf.Loc
  sz : Nat
  l : List Pt
  o : Nat
  c : Int
  r : Rt
def wkV (L : Xf.Loc) (sz : Nat) (l : List Pt) (s : Nat × Int) : List SV := [.sl 1 L sz s.1 ((l.length - s.1 : Nat) : Int), .int .i64 s.2]
def fs61 (p : Pn) (N : Nat) : FS where
  A := WkA
  args := fun a => [.ptr 0 a.Lw 0 0 0, a.r.sv]
  mem := fun a => [some (.lent, a.Lw, .cells (wkV a.L a.sz a.l (a.o, a.c))), some (.ro, a.L, .recs 5 false [] (a.l.map Pt.rc))]
  pre := fun a => p.grey ∧ inR p a.r ∧ a.r.w * a.r.h ≤ N ∧ a.l.length ≤ 1000000 ∧ (0 < a.l.length → a.sz = 5) ∧ a.o ≤ a.l.length ∧ 0 ≤ a.c ∧ a.c + area a.r ≤ 1000000
  res := fun a _ => .bool (tk a.l N a.r (a.o, a.c)).1
  out := fun a _ => [some (some (.cells (wkV a.L a.sz a.l (tk a.l N a.r (a.o, a.c)).2)))]
  new := fun _ _ => []
def inv61 : List SV → Look → Option (WkA × List Nat)
  | [.ptr c0 _ 0 0 0, .agg [.int .i64 x, .int .i64 y, .int .i64 w, .int .i64 h]], look => match rowC (look c0) with
    | some (Lw, [.sl d _ s o _, .int .i64 c]) => match rowR (look d) with
      | some (L, 5, _, r) => match getPt r with | some l => some (⟨Lw, L, s, l, o.toNat, c, ⟨x, y, w, h⟩⟩, [c0, d]) | none => none
      | _ => none
    | _ => none
  | _, _ => none
attribute [push_cast] inv61
set_option maxRecDepth 4000 in
set_option maxHeartbeats 2000000 in
theorem ok61 (p : Pn) : ∀ N, FSOk Try.prog 61 (fs61 p N)
  | 0 => by
    refine ⟨⟨_, Try.func61, by kernel_rfl, by kernel_rfl⟩, fun a => ⟨by simp [fs61, wkV, push_cast, noMine, argOwn, Chunk.frArg], by simp [fs61, wkV, push_cast, outOk, Chunk.ext], fun x => .inl (by simp [fs61, wkV, push_cast, frNew, frOut, Chunk.fr])⟩, fun a hp => ?_⟩
    obtain ⟨h1, h2, h3, h4⟩ := hp
    have := area_pos h2
    unfold area at this
    omega
  | N + 1 => by
    have ih := ok61 p N
    refine ⟨⟨_, Try.func61, by kernel_rfl, by kernel_rfl⟩, fun a => ⟨by simp [fs61, wkV, push_cast, noMine, argOwn, Chunk.frArg], by simp [fs61, wkV, push_cast, outOk, Chunk.ext], fun x => .inl (by simp [fs61, wkV, push_cast, frNew, frOut, Chunk.fr])⟩, fun a hp => ?_⟩
    obtain ⟨Lw, L, sz, l, o, c, r⟩ := a
    obtain ⟨hg, hin, hN, hl, hsz, ho, hc0, hc1⟩ : p.grey ∧ inR p r ∧ r.w * r.h ≤ ((N + 1 : Nat) : Int) ∧ l.length ≤ 1000000 ∧ (0 < l.length → sz = 5) ∧ o ≤ l.length ∧ 0 ≤ c ∧ c + area r ≤ 1000000 := hp
    have hok2 := hin.ok2 hg
    have har := area_pos hin
    have hne := qs_ne hin
    have hrec := fun {q : Rt} (hq : q ∈ qs r) (h1 : ¬ r.w * r.h = 1) => (show inR p q ∧ q.w * q.h ≤ N from ⟨(qs_in hin q hq).1, by have := (qs_in hin q hq).2 h1; unfold area at this; omega⟩)
    have hT0 : ¬ o < l.length → tk l (N + 1) r (o, c) = (false, o, c) := fun h => by rw [tk, if_neg h]
    have hT1 : o < l.length → (rdPt l o).rt = r → tk l (N + 1) r (o, c) = (true, o + 1, c) := fun h h' => by rw [tk, if_pos h, if_pos h']
    have hT2 : o < l.length → ¬ (rdPt l o).rt = r → r.w * r.h = 1 → tk l (N + 1) r (o, c) = (false, o, c) := fun h h' h1 => by rw [tk, if_pos h, if_neg h', if_pos h1]
    have hT3 : o < l.length → ¬ (rdPt l o).rt = r → ¬ r.w * r.h = 1 → tk l (N + 1) r (o, c) = tks (tk l N) (qs r) (o, c + 1) := fun h h' h1 => by rw [tk, if_pos h, if_neg h', if_neg h1]
    have hq2 := fun h1 => qs_two (r := r) hin h1
    have hqsum := qs_sum r
    obtain ⟨Q, hQ⟩ : ∃ Q, qs r = Q := ⟨_, rfl⟩
    obtain ⟨A, hA⟩ : ∃ A, area r = A := ⟨_, rfl⟩
    rw [hQ, hA] at hqsum
    rw [hQ] at hq2 hne
    rw [hA] at hc1
    obtain ⟨f, hf⟩ : ∃ f, tk l N = f := ⟨_, rfl⟩
    simp only [hQ, hf] at hT3 hrec
    obtain ⟨x, y, w, h⟩ := r
    obtain ⟨i1, i2, i3, i4, i5, i6⟩ := id hin
    obtain ⟨g1, g2, g3, g4⟩ := id hg
    simp only at i1 i2 i3 i4 i5 i6 hN hT1 hT2 hT3 hq2 hrec
    have hm := mul_bd (a := w) (b := h) (A := 200) (B := 200) (by omega) (by omega) (by omega) (by omega)
    have hget := getPt_map l
    change Tri Try.prog 61 [.ptr 0 Lw 0 0 0, .agg [.int .i64 x, .int .i64 y, .int .i64 w, .int .i64 h]] [some (.lent, Lw, .cells [.sl 1 L sz o ((l.length - o : Nat) : Int), .int .i64 c]), some (.ro, L, .recs 5 false [] (l.map Pt.rc))] (postF (fs61 p (N + 1)) ⟨Lw, L, sz, l, o, c, ⟨x, y, w, h⟩⟩)
    refine tri_evS (hyp (l := [(61, spOf (fs61 p N) inv61), (54, ent54), (55, ent55)]) (lp := [])
      ⟨entry_of ih inv61, e54, e55, trivial⟩ trivial) Try.func61 comp61 (rs := [.tmp 4]) (by rfl) Try.ntmps61 25 ?_
    by_cases hol : o < l.length
    case neg =>
      have hm0 : ((l.length - o : Nat) : Int) = 0 := by omega
      simp -implicitDefEqProofs only [push_cast, false_implies, reduceCtorEq, Classical.not_not, Nat.reduceAdd, Nat.reduceSub, Nat.reduceMul, Nat.reduceLeDiff, Nat.reduceLT, Nat.reduceEqDiff, Nat.reduceBEq, Nat.reduceBNe, Int.reduceNeg, Int.reduceToNat, Bool.or_false, Bool.false_or, Bool.or_true, Bool.true_or, BEq.rfl, Bool.not_eq_true, Bool.not_eq_false, decide_eq_true_eq, not_true_eq_false, not_false_eq_true, ite_true, ite_false, List.append_nil, and_assoc, Nat.mul_zero, Nat.zero_mul, ir61, hm0]
      intro X
      refine postF.mk' (fun _ => default) [some 0, some 1] ?_
      simp -implicitDefEqProofs only [push_cast, false_implies, reduceCtorEq, Classical.not_not, Nat.reduceAdd, Nat.reduceSub, Nat.reduceMul, Nat.reduceLeDiff, Nat.reduceLT, Nat.reduceEqDiff, Nat.reduceBEq, Nat.reduceBNe, Int.reduceNeg, Int.reduceToNat, Bool.or_false, Bool.false_or, Bool.or_true, Bool.true_or, BEq.rfl, Bool.not_eq_true, Bool.not_eq_false, decide_eq_true_eq, not_true_eq_false, not_false_eq_true, ite_true, ite_false, List.append_nil, and_assoc, Nat.mul_zero, Nat.zero_mul, fs61, wkV, hT0 hol, hm0]
    obtain rfl := hsz (by omega)
    have r1 := recAt_Pt hol []
    obtain ⟨q, hq⟩ : ∃ q, rdPt l o = q := ⟨_, rfl⟩
    rw [hq] at r1 hT1 hT2 hT3
    obtain ⟨kd, qx, qy, qw, qh⟩ := q
    obtain ⟨m, hm0⟩ : ∃ m, l.length - o = m + 1 := ⟨l.length - o - 1, by omega⟩
    have hm1 : ¬ (m : Int) + 1 = 0 := by omega
    have hm2 : l.length - (o + 1) = m := by omega
    have hlm : (l.map Pt.rc).length = l.length := List.length_map _
    have hrt : (Pt.rt ⟨kd, qx, qy, qw, qh⟩ = ⟨x, y, w, h⟩) ↔ (qx = x ∧ qy = y ∧ qw = w ∧ qh = h) := by simp [Pt.rt]
    rw [hrt] at hT1 hT2 hT3
    replace hT1 := hT1 hol
    replace hT2 := hT2 hol
    replace hT3 := hT3 hol
    simp only [hm0]
    simp -implicitDefEqProofs only [push_cast, false_implies, reduceCtorEq, Classical.not_not, Nat.reduceAdd, Nat.reduceSub, Nat.reduceMul, Nat.reduceLeDiff, Nat.reduceLT, Nat.reduceEqDiff, Nat.reduceBEq, Nat.reduceBNe, Int.reduceNeg, Int.reduceToNat, Bool.or_false, Bool.false_or, Bool.or_true, Bool.true_or, BEq.rfl, Bool.not_eq_true, Bool.not_eq_false, decide_eq_true_eq, not_true_eq_false, not_false_eq_true, ite_true, ite_false, List.append_nil, and_assoc, Nat.mul_zero, Nat.zero_mul, ir61, r1, Pt.rc, hm1, fs54, hlm, fs55, Rt.sv, hok2, hQ, hf]
    intro X X1
    repeat (refine And.intro (by first | omega | trivial | (intros; omega)) ?_)
    refine ⟨fun heq => ?_, fun heq => ⟨by omega, by omega, fun h1 => ?_, fun h1 => ?_⟩⟩
    · refine ⟨by omega, by omega, by omega, ?_⟩
      have e1 : (m : Int) + 1 - 1 = m := by omega
      refine postF.mk' (fun _ => default) [some 0, some 1] ?_
      simp -implicitDefEqProofs only [push_cast, false_implies, reduceCtorEq, Classical.not_not, Nat.reduceAdd, Nat.reduceSub, Nat.reduceMul, Nat.reduceLeDiff, Nat.reduceLT, Nat.reduceEqDiff, Nat.reduceBEq, Nat.reduceBNe, Int.reduceNeg, Int.reduceToNat, Bool.or_false, Bool.false_or, Bool.or_true, Bool.true_or, BEq.rfl, Bool.not_eq_true, Bool.not_eq_false, decide_eq_true_eq, not_true_eq_false, not_false_eq_true, ite_true, ite_false, List.append_nil, and_assoc, Nat.mul_zero, Nat.zero_mul, fs61, wkV, hT1 heq, hm2, e1]
    · refine postF.mk' (fun _ => default) [some 0, some 1] ?_
      simp -implicitDefEqProofs only [push_cast, false_implies, reduceCtorEq, Classical.not_not, Nat.reduceAdd, Nat.reduceSub, Nat.reduceMul, Nat.reduceLeDiff, Nat.reduceLT, Nat.reduceEqDiff, Nat.reduceBEq, Nat.reduceBNe, Int.reduceNeg, Int.reduceToNat, Bool.or_false, Bool.false_or, Bool.or_true, Bool.true_or, BEq.rfl, Bool.not_eq_true, Bool.not_eq_false, decide_eq_true_eq, not_true_eq_false, not_false_eq_true, ite_true, ite_false, List.append_nil, and_assoc, Nat.mul_zero, Nat.zero_mul, fs61, wkV, hT2 heq h1, hm0]
    · refine ⟨by omega, by omega, fun X2 => ?_⟩
      replace hT3 := hT3 heq h1
      replace hq2 := hq2 h1
      have hra := fun {q : Rt} (hq : q ∈ Q) => hrec hq h1
      have hareas : ∀ q ∈ Q, 1 ≤ area q := fun q hq => area_pos (hra hq).1
      have hQ4 : Q.length ≤ 4 := by rw [← hQ]; exact Nat.le_trans (List.length_filter_le _ _) (by simp [qd])
      have hlr : (Q.map Rt.rc ++ List.replicate (4 - Q.length) zR).length = 4 := by rw [List.length_append, List.length_map, List.length_replicate]; omega
      refine evS_loopU (A := Nat × Nat × Int) kp61_1 kl61_1 (fun y => [(50, .int .i64 y.1)]) (fun y => [(0, .lent, Lw, .cells (wkV L 5 l y.2))])
        (fun y => y.1 ≤ Q.length ∧ y.2.1 ≤ l.length ∧ 0 ≤ y.2.2 ∧ y.2.2 + sumL ((Q.drop y.1).map area) + y.1 ≤ c + 1 + A ∧ tks f Q (o, c + 1) = tks f (Q.drop y.1) y.2) (fun y => Q.length - y.1) (0, o, c + 1) ⟨Nat.zero_le _, ho, by simp only; omega, by rw [List.drop_zero]; simp only; omega, by rw [List.drop_zero]⟩ (Sub.pt ?_) ?_
      · simp -implicitDefEqProofs only [push_cast, false_implies, reduceCtorEq, Classical.not_not, Nat.reduceAdd, Nat.reduceSub, Nat.reduceMul, Nat.reduceLeDiff, Nat.reduceLT, Nat.reduceEqDiff, Nat.reduceBEq, Nat.reduceBNe, Int.reduceNeg, Int.reduceToNat, Bool.or_false, Bool.false_or, Bool.or_true, Bool.true_or, BEq.rfl, Bool.not_eq_true, Bool.not_eq_false, decide_eq_true_eq, not_true_eq_false, not_false_eq_true, ite_true, ite_false, List.append_nil, and_assoc, Nat.mul_zero, Nat.zero_mul, wkV, hm0]
      intro ⟨k, o', c'⟩ ⟨(hk : k ≤ Q.length), (ho' : o' ≤ l.length), (hc' : 0 ≤ c'), (hsum : c' + sumL ((Q.drop k).map area) + k ≤ c + 1 + A), (htk : tks f Q (o, c + 1) = tks f (Q.drop k) (o', c'))⟩ K hK
      by_cases hk' : k < Q.length
      · obtain ⟨d1, d2⟩ := tks_drop (f := f) hk' (o', c')
        have hmem := rdRt_mem hk'
        have r2 := recAt_Rt (l := Q) (i := (k : Int)) (by omega) (by omega) [] (List.replicate (4 - Q.length) zR)
        have hls := len_sum (Q.drop (k + 1)) fun q hq => hareas q (List.mem_of_mem_drop hq)
        rw [List.length_drop] at hls
        obtain ⟨q, hqq⟩ : ∃ q, rdRt Q (k : Int) = q := ⟨_, rfl⟩
        rw [hqq] at d1 d2 hmem r2
        obtain ⟨p1, p2⟩ := hra hmem
        have hbd := tk_bd N q (o', c') p1 p2 ho'
        rw [hf] at hbd
        have hfq : tk l N q (o', c') = f q (o', c') := by rw [hf]
        obtain ⟨b, o2, c2, hfr⟩ : ∃ b o2 c2, f q (o', c') = (b, o2, c2) := ⟨_, _, _, rfl⟩
        rw [hfr] at hbd hfq d1
        obtain ⟨n1, n2, n3, n4⟩ := hbd
        obtain ⟨a, hqa⟩ : ∃ a, area q = a := ⟨_, rfl⟩
        rw [hqa] at d2 n4
        have hpa : c' + a ≤ 1000000 := by omega
        rw [d1] at htk
        obtain ⟨qx', qy', qw', qh'⟩ := q
        simp only at n1 n2 n3 n4 p2 htk
        simp -implicitDefEqProofs only [push_cast, false_implies, reduceCtorEq, Classical.not_not, Nat.reduceAdd, Nat.reduceSub, Nat.reduceMul, Nat.reduceLeDiff, Nat.reduceLT, Nat.reduceEqDiff, Nat.reduceBEq, Nat.reduceBNe, Int.reduceNeg, Int.reduceToNat, Bool.or_false, Bool.false_or, Bool.or_true, Bool.true_or, BEq.rfl, Bool.not_eq_true, Bool.not_eq_false, decide_eq_true_eq, not_true_eq_false, not_false_eq_true, ite_true, ite_false, List.append_nil, and_assoc, Nat.mul_zero, Nat.zero_mul, b61_1, r2, Rt.rc, hlr, fs61, wkV, hfq, hqa, hget, hlm, Int.toNat_natCast]
        refine ⟨fun _ X3 => ?_, fun h => by omega⟩
        repeat (refine And.intro (by first | omega | trivial | (intros; omega)) ?_)
        refine ⟨fun hb => ?_, fun hb => ?_⟩
        · have hb' : b = false := by simpa using hb
          subst hb'
          rw [if_neg (by decide)] at htk
          clear hK
          refine postF.mk' (fun _ => default) [some 0, some 1] ?_
          simp -implicitDefEqProofs only [push_cast, false_implies, reduceCtorEq, Classical.not_not, Nat.reduceAdd, Nat.reduceSub, Nat.reduceMul, Nat.reduceLeDiff, Nat.reduceLT, Nat.reduceEqDiff, Nat.reduceBEq, Nat.reduceBNe, Int.reduceNeg, Int.reduceToNat, Bool.or_false, Bool.false_or, Bool.or_true, Bool.true_or, BEq.rfl, Bool.not_eq_true, Bool.not_eq_false, decide_eq_true_eq, not_true_eq_false, not_false_eq_true, ite_true, ite_false, List.append_nil, and_assoc, Nat.mul_zero, Nat.zero_mul, hT3, htk]
        · have hb' : b = true := by simpa using hb
          subst hb'
          rw [if_pos rfl] at htk
          repeat (refine And.intro (by first | omega | trivial | (intros; omega)) ?_)
          refine hK (k + 1, o2, c2) ⟨show k + 1 ≤ Q.length by omega, n2, by simp only; omega, by simp only; push_cast; omega, htk⟩ (show Q.length - (k + 1) < Q.length - k by omega) _ _ (Sub.pt ?_)
          simp -implicitDefEqProofs only [push_cast, false_implies, reduceCtorEq, Classical.not_not, Nat.reduceAdd, Nat.reduceSub, Nat.reduceMul, Nat.reduceLeDiff, Nat.reduceLT, Nat.reduceEqDiff, Nat.reduceBEq, Nat.reduceBNe, Int.reduceNeg, Int.reduceToNat, Bool.or_false, Bool.false_or, Bool.or_true, Bool.true_or, BEq.rfl, Bool.not_eq_true, Bool.not_eq_false, decide_eq_true_eq, not_true_eq_false, not_false_eq_true, ite_true, ite_false, List.append_nil, and_assoc, Nat.mul_zero, Nat.zero_mul, wkV]
      · obtain rfl : k = Q.length := by omega
        clear hK
        rw [List.drop_length] at htk
        have e1 : tks f [] (o', c') = (true, o', c') := rfl
        rw [e1] at htk
        simp -implicitDefEqProofs only [push_cast, false_implies, reduceCtorEq, Classical.not_not, Nat.reduceAdd, Nat.reduceSub, Nat.reduceMul, Nat.reduceLeDiff, Nat.reduceLT, Nat.reduceEqDiff, Nat.reduceBEq, Nat.reduceBNe, Int.reduceNeg, Int.reduceToNat, Bool.or_false, Bool.false_or, Bool.or_true, Bool.true_or, BEq.rfl, Bool.not_eq_true, Bool.not_eq_false, decide_eq_true_eq, not_true_eq_false, not_false_eq_true, ite_true, ite_false, List.append_nil, and_assoc, Nat.mul_zero, Nat.zero_mul, b61_1, r61_2, Int.lt_irrefl, true_implies, true_and, wkV]
        refine postF.mk' (fun _ => default) [some 0, some 1] ?_
        simp -implicitDefEqProofs only [push_cast, false_implies, reduceCtorEq, Classical.not_not, Nat.reduceAdd, Nat.reduceSub, Nat.reduceMul, Nat.reduceLeDiff, Nat.reduceLT, Nat.reduceEqDiff, Nat.reduceBEq, Nat.reduceBNe, Int.reduceNeg, Int.reduceToNat, Bool.or_false, Bool.false_or, Bool.or_true, Bool.true_or, BEq.rfl, Bool.not_eq_true, Bool.not_eq_false, decide_eq_true_eq, not_true_eq_false, not_false_eq_true, ite_true, ite_false, List.append_nil, and_assoc, Nat.mul_zero, Nat.zero_mul, fs61, hT3, htk, wkV]
def ir41 : IR :=
  .seq (.reg false [⟨some 6, none, ⟨[], []⟩, .mov (.k (.int .i64 0))⟩,
    ⟨some 7, none, ⟨[], []⟩, .mov (.k (.bool false))⟩] [6, 7] []) (.seq (.seq (.reg false [⟨some 10, none, ⟨[], []⟩, .mov (.t 0)⟩,
    ⟨some 11, none, ⟨[], []⟩, .mov (.t 1)⟩,
    ⟨some 12, none, ⟨[], []⟩, .bin 0 .mul (.t 10) (.t 11)⟩,
    ⟨some 13, none, ⟨[], []⟩, .bin 0 .eql (.t 12) (.k (.int .i64 0))⟩] [10, 11, 12] []) (.cond (.t 13) (.seq (.reg false [⟨some 14, none, ⟨[], []⟩, .mov (.t 2)⟩,
    ⟨some 15, none, ⟨[], []⟩, .len (.t 14)⟩,
    ⟨some 16, none, ⟨[], []⟩, .bin 0 .eql (.t 15) (.k (.int .i64 0))⟩,
    ⟨some 6, none, ⟨[], []⟩, .mov (.k (.int .i64 0))⟩,
    ⟨some 7, none, ⟨[], []⟩, .mov (.t 16)⟩] [0, 1, 2, 13, 14, 15, 16] []) (.ret)) (.skip))) (.seq (.reg false [⟨some 17, none, ⟨[], []⟩, .mov (.t 2)⟩,
    ⟨some 18, none, ⟨[], []⟩, .build [nilSV, .int .i64 0] [(0, 1, .t 17)]⟩,
    ⟨some 19, none, ⟨[], []⟩, .box 10 (.t 18)⟩,
    ⟨some 8, none, ⟨[], []⟩, .mov (.t 19)⟩] [2, 6, 7, 13, 17, 18, 19] []) (.seq (.reg false [⟨some 20, none, ⟨[], []⟩, .mov (.t 8)⟩,
    ⟨some 21, none, ⟨[], []⟩, .mov (.t 0)⟩,
    ⟨some 22, none, ⟨[], []⟩, .mov (.t 1)⟩,
    ⟨some 23, none, ⟨[], []⟩, .build [.int .i64 0, .int .i64 0, .int .i64 0, .int .i64 0] [(0, 1, .k (.int .i64 0)), (1, 1, .k (.int .i64 0)), (2, 1, .t 21), (3, 1, .t 22)]⟩,
    ⟨some 24, none, ⟨[], []⟩, .call none 11 61 [.t 20, .t 23]⟩,
    ⟨some 9, none, ⟨[], []⟩, .mov (.t 24)⟩] [0, 1, 20, 21, 22, 23, 24] []) (.seq (.reg true [⟨some 25, none, ⟨[], []⟩, .mov (.t 8)⟩,
    ⟨some 26, none, ⟨[], []⟩, .nilc (.t 25)⟩,
    ⟨some 27, none, ⟨[], []⟩, .fld (.t 26) 1⟩,
    ⟨some 28, none, ⟨[], []⟩, .ld false none 0 0 (.t 27)⟩,
    ⟨some 29, none, ⟨[], []⟩, .mov (.t 9)⟩,
    ⟨some 30, none, ⟨[], []⟩, .mov (.t 29)⟩,
    ⟨some 31, some (30, true), ⟨[], []⟩, .mov (.t 8)⟩,
    ⟨some 32, some (30, true), ⟨[], []⟩, .nilc (.t 31)⟩,
    ⟨some 33, some (30, true), ⟨[], []⟩, .fld (.t 32) 0⟩,
    ⟨some 34, some (30, true), ⟨[], []⟩, .ld false none 0 0 (.t 33)⟩,
    ⟨some 35, some (30, true), ⟨[], []⟩, .len (.t 34)⟩,
    ⟨some 36, some (30, true), ⟨[], []⟩, .bin 0 .eql (.t 35) (.k (.int .i64 0))⟩,
    ⟨some 37, none, ⟨[], []⟩, .pick (.t 30) (.t 36) (.k (.bool false))⟩,
    ⟨some 6, none, ⟨[], []⟩, .mov (.t 28)⟩,
    ⟨some 7, none, ⟨[], []⟩, .mov (.t 37)⟩] [8, 9, 25, 26, 27, 28, 29, 30, 31, 32, 33, 34, 35, 36, 37] []) (.ret)))))
set_option maxRecDepth 4000 in
theorem comp41 : (Try.f41.body.bind fun c => compC tab isP chkAll ir41 c) = some ir41 := by kernel_rfl
def ir23 : IR :=
  .seq (.reg false [⟨some 6, none, ⟨[], []⟩, .mov (.k (.bool false))⟩] [6] []) (.seq (.seq (.reg false [⟨some 9, none, ⟨[], []⟩, .mov (.t 0)⟩,
    ⟨some 10, none, ⟨[], []⟩, .mov (.t 1)⟩,
    ⟨some 11, none, ⟨[], []⟩, .callp 39 [.t 9, .t 10]⟩,
    ⟨some 12, none, ⟨[], []⟩, .not (.t 11)⟩,
    ⟨some 13, none, ⟨[], []⟩, .mov (.t 12)⟩,
    ⟨some 14, some (13, false), ⟨[], []⟩, .mov (.t 2)⟩,
    ⟨some 15, some (13, false), ⟨[], []⟩, .mov (.t 0)⟩,
    ⟨some 16, some (13, false), ⟨[], []⟩, .mov (.t 1)⟩,
    ⟨some 17, some (13, false), ⟨[], []⟩, .call (some 4) 10 40 [.t 14, .t 15, .t 16]⟩,
    ⟨some 18, some (13, false), ⟨[], []⟩, .not (.t 17)⟩,
    ⟨some 19, none, ⟨[], []⟩, .pick (.t 13) (.k (.bool true)) (.t 18)⟩] [9, 10, 11, 12, 13, 14, 15, 16, 17, 18] []) (.cond (.t 19) (.seq (.reg false [⟨some 6, none, ⟨[], []⟩, .mov (.k (.bool false))⟩] [0, 1, 2, 19] []) (.ret)) (.skip))) (.seq (.reg false [⟨some 21, none, ⟨[], []⟩, .mov (.t 0)⟩,
    ⟨some 22, none, ⟨[], []⟩, .mov (.t 1)⟩,
    ⟨some 23, none, ⟨[], []⟩, .mov (.t 2)⟩,
    ⟨some 24, none, ⟨[], []⟩, .call (some 4) 14 41 [.t 21, .t 22, .t 23]⟩,
    ⟨some 20, none, ⟨[], []⟩, .mov (.t 24)⟩,
    ⟨some 25, none, ⟨[], []⟩, .ext (.t 20) 0⟩,
    ⟨some 26, none, ⟨[], []⟩, .ext (.t 20) 1⟩,
    ⟨some 7, none, ⟨[], []⟩, .mov (.t 25)⟩,
    ⟨some 8, none, ⟨[], []⟩, .mov (.t 26)⟩] [0, 1, 2, 6, 7, 19, 20, 21, 22, 23, 24, 25, 26] []) (.seq (.reg false [⟨some 27, none, ⟨[], []⟩, .mov (.t 8)⟩,
    ⟨some 6, none, ⟨[], []⟩, .mov (.t 27)⟩] [8, 27] []) (.ret))))
set_option maxRecDepth 4000 in
theorem comp23 : (Try.f23.body.bind fun c => compC tab isP chkAll ir23 c) = some ir23 := by kernel_rfl
def ir20 : IR :=
  .seq (.reg false [⟨some 6, none, ⟨[], []⟩, .mov (.k (.int .i64 0))⟩,
    ⟨some 7, none, ⟨[], []⟩, .mov (.k (.int .i64 0))⟩] [6, 7] []) (.seq (.seq (.reg false [⟨some 10, none, ⟨[], []⟩, .mov (.t 0)⟩,
    ⟨some 11, none, ⟨[], []⟩, .mov (.t 1)⟩,
    ⟨some 12, none, ⟨[], []⟩, .callp 39 [.t 10, .t 11]⟩,
    ⟨some 13, none, ⟨[], []⟩, .not (.t 12)⟩,
    ⟨some 14, none, ⟨[], []⟩, .mov (.t 13)⟩,
    ⟨some 15, some (14, false), ⟨[], []⟩, .mov (.t 2)⟩,
    ⟨some 16, some (14, false), ⟨[], []⟩, .mov (.t 0)⟩,
    ⟨some 17, some (14, false), ⟨[], []⟩, .mov (.t 1)⟩,
    ⟨some 18, some (14, false), ⟨[], []⟩, .call (some 4) 10 40 [.t 15, .t 16, .t 17]⟩,
    ⟨some 19, some (14, false), ⟨[], []⟩, .not (.t 18)⟩,
    ⟨some 20, none, ⟨[], []⟩, .pick (.t 14) (.k (.bool true)) (.t 19)⟩] [10, 11, 12, 13, 14, 15, 16, 17, 18, 19] []) (.cond (.t 20) (.seq (.reg false [⟨some 6, none, ⟨[], []⟩, .mov (.k (.int .i64 0))⟩,
    ⟨some 7, none, ⟨[], []⟩, .mov (.k (.int .i64 2))⟩] [0, 1, 2, 20] []) (.ret)) (.skip))) (.seq (.reg false [⟨some 22, none, ⟨[], []⟩, .mov (.t 0)⟩,
    ⟨some 23, none, ⟨[], []⟩, .mov (.t 1)⟩,
    ⟨some 24, none, ⟨[], []⟩, .mov (.t 2)⟩,
    ⟨some 25, none, ⟨[], []⟩, .call (some 4) 14 41 [.t 22, .t 23, .t 24]⟩,
    ⟨some 21, none, ⟨[], []⟩, .mov (.t 25)⟩,
    ⟨some 26, none, ⟨[], []⟩, .ext (.t 21) 0⟩,
    ⟨some 27, none, ⟨[], []⟩, .ext (.t 21) 1⟩,
    ⟨some 8, none, ⟨[], []⟩, .mov (.t 26)⟩,
    ⟨some 9, none, ⟨[], []⟩, .mov (.t 27)⟩] [0, 1, 2, 6, 7, 20, 21, 22, 23, 24, 25, 26, 27] []) (.seq (.seq (.reg false [⟨some 28, none, ⟨[], []⟩, .mov (.t 9)⟩,
    ⟨some 29, none, ⟨[], []⟩, .not (.t 28)⟩] [9, 28] []) (.cond (.t 29) (.seq (.reg false [⟨some 6, none, ⟨[], []⟩, .mov (.k (.int .i64 0))⟩,
    ⟨some 7, none, ⟨[], []⟩, .mov (.k (.int .i64 71))⟩] [8, 29] []) (.ret)) (.skip))) (.seq (.reg false [⟨some 30, none, ⟨[], []⟩, .mov (.t 8)⟩,
    ⟨some 6, none, ⟨[], []⟩, .mov (.t 30)⟩,
    ⟨some 7, none, ⟨[], []⟩, .mov (.k (.int .i64 0))⟩] [8, 29, 30] []) (.ret)))))
set_option maxRecDepth 4000 in
theorem comp20 : (Try.f20.body.bind fun c => compC tab isP chkAll ir20 c) = some ir20 := by kernel_rfl
/-- A plane of w by h, of zeros. -/
def zP (w h : Int) : Pn := ⟨w.toNat, h.toNat, List.replicate (h.toNat * w.toNat) 0⟩
theorem zP_ok {w h : Int} (w0 : 0 ≤ w) (w1 : w ≤ 200) (h0 : 0 ≤ h) (h1 : h ≤ 200) (hn : ¬ w * h = 0) : (zP w h).grey ∧ inR (zP w h) ⟨0, 0, w, h⟩ ∧ w * h ≤ (fuelN : Int) ∧ 1 ≤ w ∧ 1 ≤ h := by
  have hw : w ≠ 0 := fun e => hn (by rw [e, Int.zero_mul])
  have hh : h ≠ 0 := fun e => hn (by rw [e, Int.mul_zero])
  have := mul_bd w0 w1 h0 h1
  refine ⟨⟨show w.toNat ≤ 200 by omega, show h.toNat ≤ 200 by omega, by simp [zP], allIn_rd.2 fun i hi => ?_⟩, ⟨Int.le_refl _, Int.le_refl _, show 1 ≤ w by omega, show 1 ≤ h by omega, show 0 + w ≤ (w.toNat : Int) by omega, show 0 + h ≤ (h.toNat : Int) by omega⟩, show w * h ≤ ((40000 : Nat) : Int) by omega, by omega, by omega⟩
  simp [zP] at hi ⊢
  simp [rd, hi]
def cuT (w h : Int) (l : List Pt) : Bool × Nat × Int := tk l fuelN ⟨0, 0, w, h⟩ (0, 0)
/-- Whether a list is a tree, and its cuts. -/
def cuS (w h : Int) (l : List Pt) : Bool × Int := if w * h = 0 then (decide (l.length = 0), 0) else ((cuT w h l).1 && decide ((cuT w h l).2.1 = l.length), (cuT w h l).2.2)
def fs41 : FS where
  A := ArA
  args := fun a => [.int .i64 a.w, .int .i64 a.h, .sl 0 a.L a.s 0 a.l.length]
  mem := fun a => [some (.ro, a.L, .recs 5 false [] (a.l.map Pt.rc))]
  pre := fun a => a.l.length ≤ 1000000 ∧ (0 < a.l.length → a.s = 5) ∧ 0 ≤ a.w ∧ a.w ≤ 200 ∧ 0 ≤ a.h ∧ a.h ≤ 200
  res := fun a _ => .tup [.int .i64 (cuS a.w a.h a.l).2, .bool (cuS a.w a.h a.l).1]
  out := fun _ _ => []
  new := fun _ _ => []
def inv41 : List SV → Look → Option (ArA × List Nat)
  | [.int .i64 W, .int .i64 H, .sl c _ s 0 _], look => match rowR (look c) with
    | some (L, 5, _, r) => match getPt r with | some l => some (⟨L, s, l, W, H⟩, [c]) | none => none
    | _ => none
  | _, _ => none
attribute [push_cast] inv41
theorem ok41 : FSOk Try.prog 41 fs41 := by
  refine ⟨⟨_, Try.func41, by kernel_rfl, by kernel_rfl⟩, fun a => ⟨by simp [fs41, push_cast, noMine, argOwn, Chunk.frArg], by simp [fs41, push_cast, outOk, Chunk.ext], fun x => .inl (by simp [fs41, push_cast, frNew, frOut, Chunk.fr])⟩, fun a hp => ?_⟩
  obtain ⟨L, s, l, W, H⟩ := a
  obtain ⟨hl, hs, h1, h2, h3, h4⟩ : l.length ≤ 1000000 ∧ (0 < l.length → s = 5) ∧ 0 ≤ W ∧ W ≤ 200 ∧ 0 ≤ H ∧ H ≤ 200 := hp
  have hm := mul_bd h1 h2 h3 h4
  have hget := getPt_map l
  have hlm : (l.map Pt.rc).length = l.length := List.length_map _
  change Tri Try.prog 41 [.int .i64 W, .int .i64 H, .sl 0 L s 0 l.length] [some (.ro, L, .recs 5 false [] (l.map Pt.rc))] (postF fs41 ⟨L, s, l, W, H⟩)
  refine tri_evS (hyp (l := [(61, spOf (fs61 (zP W H) fuelN) inv61)]) (lp := [])
      ⟨entry_of (ok61 (zP W H) fuelN) inv61, trivial⟩ trivial) Try.func41 comp41 (rs := [.tmp 6, .tmp 7]) (by rfl) Try.ntmps41 15 ?_
  by_cases hn : W * H = 0
  · have e1 : cuS W H l = (decide (l.length = 0), 0) := by unfold cuS; rw [if_pos hn]
    have hi : ((l.length : Int) = 0) = (l.length = 0) := by simp
    simp -implicitDefEqProofs only [push_cast, false_implies, reduceCtorEq, Classical.not_not, Nat.reduceAdd, Nat.reduceSub, Nat.reduceMul, Nat.reduceLeDiff, Nat.reduceLT, Nat.reduceEqDiff, Nat.reduceBEq, Nat.reduceBNe, Int.reduceNeg, Int.reduceToNat, Bool.or_false, Bool.false_or, Bool.or_true, Bool.true_or, BEq.rfl, Bool.not_eq_true, Bool.not_eq_false, decide_eq_true_eq, not_true_eq_false, not_false_eq_true, ite_true, ite_false, List.append_nil, and_assoc, Nat.mul_zero, Nat.zero_mul, ir41, hn]
    refine ⟨by decide, by decide, postF.mk' (fun _ => default) [some 0] ?_⟩
    simp -implicitDefEqProofs only [push_cast, false_implies, reduceCtorEq, Classical.not_not, Nat.reduceAdd, Nat.reduceSub, Nat.reduceMul, Nat.reduceLeDiff, Nat.reduceLT, Nat.reduceEqDiff, Nat.reduceBEq, Nat.reduceBNe, Int.reduceNeg, Int.reduceToNat, Bool.or_false, Bool.false_or, Bool.or_true, Bool.true_or, BEq.rfl, Bool.not_eq_true, Bool.not_eq_false, decide_eq_true_eq, not_true_eq_false, not_false_eq_true, ite_true, ite_false, List.append_nil, and_assoc, Nat.mul_zero, Nat.zero_mul, fs41, e1, hi]
  · obtain ⟨z1, z2, z3, z4, z5⟩ := zP_ok h1 h2 h3 h4 hn
    have e1 : cuS W H l = ((cuT W H l).1 && decide ((cuT W H l).2.1 = l.length), (cuT W H l).2.2) := by unfold cuS; rw [if_neg hn]
    have hl0 : l.length - 0 = l.length := rfl
    have hbd := tk_bd fuelN ⟨0, 0, W, H⟩ (0, 0) (l := l) z2 z3 (Nat.zero_le _)
    have har : area ⟨0, 0, W, H⟩ = W * H := rfl
    obtain ⟨b, o, c, ht⟩ : ∃ b o c, cuT W H l = (b, o, c) := ⟨_, _, _, rfl⟩
    rw [ht] at e1
    unfold cuT at ht
    rw [ht, har] at hbd
    simp -implicitDefEqProofs only [push_cast, false_implies, reduceCtorEq, Classical.not_not, Nat.reduceAdd, Nat.reduceSub, Nat.reduceMul, Nat.reduceLeDiff, Nat.reduceLT, Nat.reduceEqDiff, Nat.reduceBEq, Nat.reduceBNe, Int.reduceNeg, Int.reduceToNat, Bool.or_false, Bool.false_or, Bool.or_true, Bool.true_or, BEq.rfl, Bool.not_eq_true, Bool.not_eq_false, decide_eq_true_eq, not_true_eq_false, not_false_eq_true, ite_true, ite_false, List.append_nil, and_assoc, Nat.mul_zero, Nat.zero_mul, ir41, hn, fs61, wkV, hget, hlm, Int.toNat_natCast, ht, har, hl0, z1, z2, z3]
    obtain ⟨-, b1, b2, b3⟩ := hbd
    simp only at b1 b2 b3
    have hi : (((l.length - o : Nat) : Int) = 0) = (o = l.length) := by
      apply propext; constructor <;> intro h <;> omega
    refine ⟨by omega, by omega, fun X => ⟨hl, hs, Nat.zero_le _, by decide, by omega, ?_⟩⟩
    refine postF.mk' (fun _ => default) [some 0] ?_
    simp -implicitDefEqProofs only [push_cast, false_implies, reduceCtorEq, Classical.not_not, Nat.reduceAdd, Nat.reduceSub, Nat.reduceMul, Nat.reduceLeDiff, Nat.reduceLT, Nat.reduceEqDiff, Nat.reduceBEq, Nat.reduceBNe, Int.reduceNeg, Int.reduceToNat, Bool.or_false, Bool.false_or, Bool.or_true, Bool.true_or, BEq.rfl, Bool.not_eq_true, Bool.not_eq_false, decide_eq_true_eq, not_true_eq_false, not_false_eq_true, ite_true, ite_false, List.append_nil, and_assoc, Nat.mul_zero, Nat.zero_mul, fs41, e1, hi]
def ent41 : Entry := spOf fs41 inv41
theorem e41 : EntryOk Try.prog 41 ent41 := entry_of ok41 inv41
@[push_cast] theorem ent41_app (us : List SV) (look : Look) (x : Nat → Xf.Loc) (k : Nat) : ent41 us look x k = spOf fs41 inv41 us look x k := rfl
def fs23 : FS := { fs41 with res := fun a _ => .bool (decide (ptsIn a.w a.h a.l) && (cuS a.w a.h a.l).1) }
theorem ok23 : FSOk Try.prog 23 fs23 := by
  refine ⟨⟨_, Try.func23, by kernel_rfl, by kernel_rfl⟩, fun a => ⟨by simp [fs23, fs41, push_cast, noMine, argOwn, Chunk.frArg], by simp [fs23, fs41, push_cast, outOk, Chunk.ext], fun x => .inl (by simp [fs23, fs41, push_cast, frNew, frOut, Chunk.fr])⟩, fun a hp => ?_⟩
  obtain ⟨L, s, l, W, H⟩ := a
  obtain ⟨hl, hs, h1, h2, h3, h4⟩ : l.length ≤ 1000000 ∧ (0 < l.length → s = 5) ∧ 0 ≤ W ∧ W ≤ 200 ∧ 0 ≤ H ∧ H ≤ 200 := hp
  have hget := getPt_map l
  have hlm : (l.map Pt.rc).length = l.length := List.length_map _
  change Tri Try.prog 23 [.int .i64 W, .int .i64 H, .sl 0 L s 0 l.length] [some (.ro, L, .recs 5 false [] (l.map Pt.rc))] (postF fs23 ⟨L, s, l, W, H⟩)
  refine tri_evS (hyp (l := [(40, ent40), (41, ent41)]) (lp := [(39, sides4F)]) ⟨e40, e41, trivial⟩ ⟨p39, trivial⟩) Try.func23 comp23 (rs := [.tmp 6]) (by rfl) Try.ntmps23 18 ?_
  obtain ⟨⟨b, n⟩, hc⟩ : ∃ c, cuS W H l = c := ⟨_, rfl⟩
  have hw : 0 ≤ W ∧ 0 ≤ H ∧ W ≤ 200 ∧ H ≤ 200 := ⟨h1, h3, h2, h4⟩
  by_cases hP : ptsIn W H l
  · cases b
    all_goals
      simp -implicitDefEqProofs only [push_cast, false_implies, reduceCtorEq, Classical.not_not, Nat.reduceAdd, Nat.reduceSub, Nat.reduceMul, Nat.reduceLeDiff, Nat.reduceLT, Nat.reduceEqDiff, Nat.reduceBEq, Nat.reduceBNe, Int.reduceNeg, Int.reduceToNat, Bool.or_false, Bool.false_or, Bool.or_true, Bool.true_or, BEq.rfl, Bool.not_eq_true, Bool.not_eq_false, decide_eq_true_eq, not_true_eq_false, not_false_eq_true, ite_true, ite_false, List.append_nil, and_assoc, Nat.mul_zero, Nat.zero_mul, ir23, fs40, fs41, hget, hlm, hc, h1, h2, h3, h4, hl, hs, hP]
      refine ⟨hs, hs, ?_⟩
      refine postF.mk' (fun _ => default) [some 0] ?_
      simp -implicitDefEqProofs only [push_cast, false_implies, reduceCtorEq, Classical.not_not, Nat.reduceAdd, Nat.reduceSub, Nat.reduceMul, Nat.reduceLeDiff, Nat.reduceLT, Nat.reduceEqDiff, Nat.reduceBEq, Nat.reduceBNe, Int.reduceNeg, Int.reduceToNat, Bool.or_false, Bool.false_or, Bool.or_true, Bool.true_or, BEq.rfl, Bool.not_eq_true, Bool.not_eq_false, decide_eq_true_eq, not_true_eq_false, not_false_eq_true, ite_true, ite_false, List.append_nil, and_assoc, Nat.mul_zero, Nat.zero_mul, fs23, fs41, hc, hP, if_true, if_false]
  · simp -implicitDefEqProofs only [push_cast, false_implies, reduceCtorEq, Classical.not_not, Nat.reduceAdd, Nat.reduceSub, Nat.reduceMul, Nat.reduceLeDiff, Nat.reduceLT, Nat.reduceEqDiff, Nat.reduceBEq, Nat.reduceBNe, Int.reduceNeg, Int.reduceToNat, Bool.or_false, Bool.false_or, Bool.or_true, Bool.true_or, BEq.rfl, Bool.not_eq_true, Bool.not_eq_false, decide_eq_true_eq, not_true_eq_false, not_false_eq_true, ite_true, ite_false, List.append_nil, and_assoc, Nat.mul_zero, Nat.zero_mul, ir23, fs40, fs41, hget, hlm, hc, h1, h2, h3, h4, hl, hs, hP]
    refine ⟨hs, ?_⟩
    refine postF.mk' (fun _ => default) [some 0] ?_
    simp -implicitDefEqProofs only [push_cast, false_implies, reduceCtorEq, Classical.not_not, Nat.reduceAdd, Nat.reduceSub, Nat.reduceMul, Nat.reduceLeDiff, Nat.reduceLT, Nat.reduceEqDiff, Nat.reduceBEq, Nat.reduceBNe, Int.reduceNeg, Int.reduceToNat, Bool.or_false, Bool.false_or, Bool.or_true, Bool.true_or, BEq.rfl, Bool.not_eq_true, Bool.not_eq_false, decide_eq_true_eq, not_true_eq_false, not_false_eq_true, ite_true, ite_false, List.append_nil, and_assoc, Nat.mul_zero, Nat.zero_mul, fs23, fs41, hc, hP, if_true, if_false]
def ent23 : Entry := spOf fs23 inv41
theorem e23 : EntryOk Try.prog 23 ent23 := entry_of ok23 inv41
@[push_cast] theorem ent23_app (us : List SV) (look : Look) (x : Nat → Xf.Loc) (k : Nat) : ent23 us look x k = spOf fs23 inv41 us look x k := rfl
def cuN (w h : Int) (l : List Pt) : Int := if ptsIn w h l ∧ (cuS w h l).1 = true then (cuS w h l).2 else 0
def cuE (w h : Int) (l : List Pt) : Int := if ptsIn w h l then if (cuS w h l).1 = true then 0 else 71 else 2
def fs20 : FS := { fs41 with res := fun a _ => .tup [.int .i64 (cuN a.w a.h a.l), .int .i64 (cuE a.w a.h a.l)] }
theorem ok20 : FSOk Try.prog 20 fs20 := by
  refine ⟨⟨_, Try.func20, by kernel_rfl, by kernel_rfl⟩, fun a => ⟨by simp [fs20, fs41, push_cast, noMine, argOwn, Chunk.frArg], by simp [fs20, fs41, push_cast, outOk, Chunk.ext], fun x => .inl (by simp [fs20, fs41, push_cast, frNew, frOut, Chunk.fr])⟩, fun a hp => ?_⟩
  obtain ⟨L, s, l, W, H⟩ := a
  obtain ⟨hl, hs, h1, h2, h3, h4⟩ : l.length ≤ 1000000 ∧ (0 < l.length → s = 5) ∧ 0 ≤ W ∧ W ≤ 200 ∧ 0 ≤ H ∧ H ≤ 200 := hp
  have hget := getPt_map l
  have hlm : (l.map Pt.rc).length = l.length := List.length_map _
  change Tri Try.prog 20 [.int .i64 W, .int .i64 H, .sl 0 L s 0 l.length] [some (.ro, L, .recs 5 false [] (l.map Pt.rc))] (postF fs20 ⟨L, s, l, W, H⟩)
  refine tri_evS (hyp (l := [(40, ent40), (41, ent41)]) (lp := [(39, sides4F)]) ⟨e40, e41, trivial⟩ ⟨p39, trivial⟩) Try.func20 comp20 (rs := [.tmp 6, .tmp 7]) (by rfl) Try.ntmps20 18 ?_
  obtain ⟨⟨b, n⟩, hc⟩ : ∃ c, cuS W H l = c := ⟨_, rfl⟩
  have hw : 0 ≤ W ∧ 0 ≤ H ∧ W ≤ 200 ∧ H ≤ 200 := ⟨h1, h3, h2, h4⟩
  by_cases hP : ptsIn W H l
  · cases b
    all_goals
      simp -implicitDefEqProofs only [push_cast, false_implies, reduceCtorEq, Classical.not_not, Nat.reduceAdd, Nat.reduceSub, Nat.reduceMul, Nat.reduceLeDiff, Nat.reduceLT, Nat.reduceEqDiff, Nat.reduceBEq, Nat.reduceBNe, Int.reduceNeg, Int.reduceToNat, Bool.or_false, Bool.false_or, Bool.or_true, Bool.true_or, BEq.rfl, Bool.not_eq_true, Bool.not_eq_false, decide_eq_true_eq, not_true_eq_false, not_false_eq_true, ite_true, ite_false, List.append_nil, and_assoc, Nat.mul_zero, Nat.zero_mul, ir20, fs40, fs41, hget, hlm, hc, h1, h2, h3, h4, hl, hs, hP]
      refine ⟨hs, hs, ?_⟩
      refine postF.mk' (fun _ => default) [some 0] ?_
      simp -implicitDefEqProofs only [push_cast, false_implies, reduceCtorEq, Classical.not_not, Nat.reduceAdd, Nat.reduceSub, Nat.reduceMul, Nat.reduceLeDiff, Nat.reduceLT, Nat.reduceEqDiff, Nat.reduceBEq, Nat.reduceBNe, Int.reduceNeg, Int.reduceToNat, Bool.or_false, Bool.false_or, Bool.or_true, Bool.true_or, BEq.rfl, Bool.not_eq_true, Bool.not_eq_false, decide_eq_true_eq, not_true_eq_false, not_false_eq_true, ite_true, ite_false, List.append_nil, and_assoc, Nat.mul_zero, Nat.zero_mul, fs20, fs41, cuN, cuE, hc, hP, if_true, if_false, false_and, true_and]
  · simp -implicitDefEqProofs only [push_cast, false_implies, reduceCtorEq, Classical.not_not, Nat.reduceAdd, Nat.reduceSub, Nat.reduceMul, Nat.reduceLeDiff, Nat.reduceLT, Nat.reduceEqDiff, Nat.reduceBEq, Nat.reduceBNe, Int.reduceNeg, Int.reduceToNat, Bool.or_false, Bool.false_or, Bool.or_true, Bool.true_or, BEq.rfl, Bool.not_eq_true, Bool.not_eq_false, decide_eq_true_eq, not_true_eq_false, not_false_eq_true, ite_true, ite_false, List.append_nil, and_assoc, Nat.mul_zero, Nat.zero_mul, ir20, fs40, fs41, hget, hlm, hc, h1, h2, h3, h4, hl, hs, hP]
    refine ⟨hs, ?_⟩
    refine postF.mk' (fun _ => default) [some 0] ?_
    simp -implicitDefEqProofs only [push_cast, false_implies, reduceCtorEq, Classical.not_not, Nat.reduceAdd, Nat.reduceSub, Nat.reduceMul, Nat.reduceLeDiff, Nat.reduceLT, Nat.reduceEqDiff, Nat.reduceBEq, Nat.reduceBNe, Int.reduceNeg, Int.reduceToNat, Bool.or_false, Bool.false_or, Bool.or_true, Bool.true_or, BEq.rfl, Bool.not_eq_true, Bool.not_eq_false, decide_eq_true_eq, not_true_eq_false, not_false_eq_true, ite_true, ite_false, List.append_nil, and_assoc, Nat.mul_zero, Nat.zero_mul, fs20, fs41, cuN, cuE, hc, hP, if_true, if_false, false_and, true_and]
def ent20 : Entry := spOf fs20 inv41
theorem e20 : EntryOk Try.prog 20 ent20 := entry_of ok20 inv41
@[push_cast] theorem ent20_app (us : List SV) (look : Look) (x : Nat → Xf.Loc) (k : Nat) : ent20 us look x k = spOf fs20 inv41 us look x k := rfl
theorem cuS_bd {w h : Int} {l : List Pt} (w0 : 0 ≤ w) (w1 : w ≤ 200) (h0 : 0 ≤ h) (h1 : h ≤ 200) : 0 ≤ (cuS w h l).2 ∧ (cuS w h l).2 ≤ 40000 := by
  unfold cuS
  split
  · exact ⟨Int.le_refl _, show (0 : Int) ≤ 40000 by decide⟩
  · rename_i hn
    obtain ⟨z1, z2, z3, z4, z5⟩ := zP_ok w0 w1 h0 h1 hn
    have hm := mul_bd w0 w1 h0 h1
    have hbd := tk_bd fuelN ⟨0, 0, w, h⟩ (0, 0) (l := l) z2 z3 (Nat.zero_le _)
    have har : area ⟨0, 0, w, h⟩ = w * h := rfl
    rw [har] at hbd
    unfold cuT
    simp only at hbd ⊢
    omega
theorem cuN_bd {w h : Int} {l : List Pt} (w0 : 0 ≤ w) (w1 : w ≤ 200) (h0 : 0 ≤ h) (h1 : h ≤ 200) : 0 ≤ cuN w h l ∧ cuN w h l ≤ 40000 := by
  unfold cuN
  split
  · exact cuS_bd w0 w1 h0 h1
  · exact ⟨Int.le_refl _, by decide⟩
theorem paN_bd (p : Pl) (e : En) (x : Pt) : 0 ≤ paN p e x ∧ paN p e x ≤ 4000000000 := by
  unfold paN
  split
  · rename_i h
    obtain ⟨hG, hE, hI⟩ := h
    obtain ⟨j1, j2, j3, j4, j5, j6, j7, j8, j9, j10⟩ := hI
    obtain ⟨w, h, xs⟩ := p
    have hsd : SidesOk w h := hG.1
    obtain ⟨s1, s2, s3, s4, s5⟩ := hsd
    simp only at j7 j8 j9 j10
    have hl0 : 0 < xs.length := by
      have hl : (xs.length : Int) = w * h := hG.2.1
      have := Int.mul_pos (show 0 < w by omega) (show 0 < h by omega)
      omega
    obtain ⟨g1, g2, g3, g4, g5⟩ := hG.pn hl0
    exact en_bd g1 hE (r := x.rt) ⟨j3, j4, j5, j6, show x.x + x.w ≤ (w.toNat : Int) by omega, show x.y + x.h ≤ (h.toNat : Int) by omega⟩ _
  · exact ⟨Int.le_refl _, by decide⟩
def b17_1 : IR :=
  .seq (.reg false [⟨some 42, none, ⟨[], []⟩, .bin 0 .lss (.t 41) (.t 40)⟩] [] []) (.seq (.cond (.t 42) (.skip) (.exit 1)) (.seq (.block 2 (.seq (.reg false [⟨some 43, none, ⟨[], []⟩, .idxS (.t 39) (.t 41) 5⟩,
    ⟨some 44, none, ⟨[], []⟩, .ld true (some 5) 0 0 (.t 43)⟩,
    ⟨some 12, none, ⟨[], []⟩, .alloc 24 [.int .i64 0, .int .i64 0, .int .i64 0, .int .i64 0, .int .i64 0]⟩,
    ⟨none, none, ⟨[], []⟩, .sto false 5 .i64 (.t 12) (.t 44)⟩] [42, 43, 44] []) (.seq (.reg false [⟨some 46, none, ⟨[], []⟩, .ld false (some 3) 0 0 (.t 3)⟩,
    ⟨some 47, none, ⟨[], []⟩, .ld false (some 4) 0 0 (.t 4)⟩,
    ⟨some 48, none, ⟨[], []⟩, .ld false (some 5) 0 0 (.t 12)⟩,
    ⟨some 49, none, ⟨[], []⟩, .call (some 4) 25 16 [.t 46, .t 47, .t 48]⟩,
    ⟨some 45, none, ⟨[], []⟩, .mov (.t 49)⟩,
    ⟨some 50, none, ⟨[], []⟩, .ext (.t 45) 0⟩,
    ⟨some 51, none, ⟨[], []⟩, .ext (.t 45) 1⟩,
    ⟨some 13, none, ⟨[], []⟩, .mov (.t 50)⟩,
    ⟨some 14, none, ⟨[], []⟩, .mov (.t 51)⟩] [12, 14, 45, 46, 47, 48, 49, 50, 51] []) (.reg false [⟨some 52, none, ⟨[], []⟩, .mov (.t 10)⟩,
    ⟨some 53, none, ⟨[], []⟩, .mov (.t 13)⟩,
    ⟨some 54, none, ⟨[], []⟩, .bin 0 .add (.t 52) (.t 53)⟩,
    ⟨some 10, none, ⟨[], []⟩, .mov (.t 54)⟩] [13, 52, 53, 54] [])))) (.reg false [⟨some 55, none, ⟨[], []⟩, .bin 0 .add (.t 41) (.k (.int .i64 1))⟩,
    ⟨some 41, none, ⟨[], []⟩, .mov (.t 55)⟩] [55] [])))
def r17_2 : IR :=
  .seq (.reg false [⟨some 56, none, ⟨[], []⟩, .mov (.t 10)⟩,
    ⟨some 6, none, ⟨[], []⟩, .mov (.t 56)⟩,
    ⟨some 7, none, ⟨[], []⟩, .mov (.k (.int .i64 0))⟩] [3, 4, 10, 39, 40, 41, 56] []) (.ret)
def ir17 : IR :=
  .seq (.reg false [⟨some 3, none, ⟨[], []⟩, .box 10 (.t 0)⟩,
    ⟨some 4, none, ⟨[], []⟩, .box 11 (.t 1)⟩,
    ⟨some 6, none, ⟨[], []⟩, .mov (.k (.int .i64 0))⟩,
    ⟨some 7, none, ⟨[], []⟩, .mov (.k (.int .i64 0))⟩] [0, 1, 6, 7] []) (.seq (.block 0 (.seq (.reg false [⟨some 16, none, ⟨[], []⟩, .ld false (some 3) 0 0 (.t 3)⟩,
    ⟨some 17, none, ⟨[], []⟩, .call (some 4) 12 14 [.t 16]⟩,
    ⟨some 18, none, ⟨[], []⟩, .not (.t 17)⟩,
    ⟨some 15, none, ⟨[], []⟩, .mov (.t 18)⟩] [16, 17, 18] []) (.cond (.t 15) (.seq (.reg false [⟨some 6, none, ⟨[], []⟩, .mov (.k (.int .i64 0))⟩,
    ⟨some 7, none, ⟨[], []⟩, .mov (.k (.int .i64 70))⟩] [2, 3, 4, 15] []) (.ret)) (.seq (.reg false [⟨some 20, none, ⟨[], []⟩, .ld false (some 4) 0 0 (.t 4)⟩,
    ⟨some 21, none, ⟨[], []⟩, .call (some 4) 16 29 [.t 20]⟩,
    ⟨some 22, none, ⟨[], []⟩, .not (.t 21)⟩,
    ⟨some 19, none, ⟨[], []⟩, .mov (.t 22)⟩] [15, 20, 21, 22] []) (.cond (.t 19) (.seq (.reg false [⟨some 6, none, ⟨[], []⟩, .mov (.k (.int .i64 0))⟩,
    ⟨some 7, none, ⟨[], []⟩, .mov (.k (.int .i64 2))⟩] [2, 3, 4, 19] []) (.ret)) (.skip)))))) (.seq (.reg false [⟨some 24, none, ⟨[], []⟩, .fld (.t 3) 0⟩,
    ⟨some 25, none, ⟨[], []⟩, .ld false none 0 0 (.t 24)⟩,
    ⟨some 26, none, ⟨[], []⟩, .fld (.t 3) 1⟩,
    ⟨some 27, none, ⟨[], []⟩, .ld false none 0 0 (.t 26)⟩,
    ⟨some 28, none, ⟨[], []⟩, .mov (.t 2)⟩,
    ⟨some 29, none, ⟨[], []⟩, .call (some 4) 20 20 [.t 25, .t 27, .t 28]⟩,
    ⟨some 23, none, ⟨[], []⟩, .mov (.t 29)⟩,
    ⟨some 30, none, ⟨[], []⟩, .ext (.t 23) 0⟩,
    ⟨some 31, none, ⟨[], []⟩, .ext (.t 23) 1⟩,
    ⟨some 8, none, ⟨[], []⟩, .mov (.t 30)⟩,
    ⟨some 9, none, ⟨[], []⟩, .mov (.t 31)⟩] [6, 7, 19, 23, 24, 25, 26, 27, 28, 29, 30, 31] []) (.seq (.seq (.reg false [⟨some 32, none, ⟨[], []⟩, .mov (.t 9)⟩,
    ⟨some 33, none, ⟨[], []⟩, .bin 0 .neq (.t 32) (.k (.int .i64 0))⟩] [32] []) (.cond (.t 33) (.seq (.reg false [⟨some 34, none, ⟨[], []⟩, .mov (.t 9)⟩,
    ⟨some 6, none, ⟨[], []⟩, .mov (.k (.int .i64 0))⟩,
    ⟨some 7, none, ⟨[], []⟩, .mov (.t 34)⟩] [2, 3, 4, 8, 9, 33, 34] []) (.ret)) (.skip))) (.seq (.reg false [⟨some 35, none, ⟨[], []⟩, .mov (.t 8)⟩,
    ⟨some 36, none, ⟨[], []⟩, .fld (.t 4) 0⟩,
    ⟨some 37, none, ⟨[], []⟩, .ld false none 0 0 (.t 36)⟩,
    ⟨some 38, none, ⟨[], []⟩, .bin 0 .mul (.t 35) (.t 37)⟩,
    ⟨some 10, none, ⟨[], []⟩, .mov (.t 38)⟩] [6, 7, 8, 9, 33, 35, 36, 37, 38] []) (.seq (.seq (.reg false [⟨some 39, none, ⟨[], []⟩, .mov (.t 2)⟩,
    ⟨some 40, none, ⟨[], []⟩, .len (.t 39)⟩,
    ⟨some 41, none, ⟨[], []⟩, .mov (.k (.int .i64 0))⟩] [2] []) (.block 1 (.loop b17_1))) (r17_2))))))
def kp17_1 : List Nat := [3, 4, 10, 39, 40, 41]
def kl17_1 : List Nat := [24, 25, 26, 27, 28]
attribute [push_cast] kp17_1 kl17_1
set_option maxRecDepth 4000 in
theorem comp17 : (Try.f17.body.bind fun c => compC tab isP chkAll ir17 c) = some ir17 := by kernel_rfl
def paS (p : Pl) (e : En) (l : List Pt) : Int := sumL (l.map (paN p e))
theorem paS_step {p : Pl} {e : En} {l : List Pt} {i : Nat} (hi : i < l.length) : paS p e (l.take (i + 1)) = paS p e (l.take i) + paN p e (rdPt l i) := by
  rw [List.take_succ_eq_append_getElem hi]
  unfold paS
  rw [List.map_append, List.map_cons, List.map_nil, sumL_snoc]
  simp [rdPt, hi]
theorem paS_bd (p : Pl) (e : En) (l : List Pt) : ∀ i, i ≤ l.length → 0 ≤ paS p e (l.take i) ∧ paS p e (l.take i) ≤ i * 4000000000
  | 0, _ => by simp [paS, sumL]
  | i + 1, hi => by
    have h1 := paS_bd p e l i (by omega)
    have h2 := paN_bd p e (rdPt l i)
    rw [paS_step (by omega)]
    omega
def eyN (p : Pl) (e : En) (l : List Pt) : Int := if p.Gr ∧ e.Ok ∧ cuE p.w p.h l = 0 then cuN p.w p.h l * e.cut + paS p e l else 0
def eyE (p : Pl) (e : En) (l : List Pt) : Int := if p.Gr then if e.Ok then cuE p.w p.h l else 2 else 70
structure EyA where
  a : PlA
  e : En
  LP : Xf.Loc
  s : Nat
  l : List Pt
def fs17 : FS where
  A := EyA
  args := fun a => [plV a.a.p a.a.L 0, enV a.e, .sl 1 a.LP a.s 0 a.l.length]
  mem := fun a => [some (.ro, a.a.L, .ints .i64 a.a.p.xs), some (.ro, a.LP, .recs 5 false [] (a.l.map Pt.rc))]
  pre := fun a => a.a.p.xs.length ≤ 140737488355328 ∧ a.l.length ≤ 1000000 ∧ (0 < a.l.length → a.s = 5)
  res := fun a _ => .tup [.int .i64 (eyN a.a.p a.e a.l), .int .i64 (eyE a.a.p a.e a.l)]
  out := fun _ _ => []
  new := fun _ _ => []
def inv17 : List SV → Look → Option (EyA × List Nat)
  | [v, .agg [.int .i64 c, .int .i64 q, .int .i64 t, .int .i64 i], .sl d _ s 0 _], look => match getP look v, rowR (look d) with
    | some (a, g), some (LP, 5, _, r) => match getPt r with | some l => some (⟨a, ⟨c, q, t, i⟩, LP, s, l⟩, g ++ [d]) | none => none
    | _, _ => none
  | _, _ => none
attribute [push_cast] inv17
set_option maxRecDepth 4000 in
set_option maxHeartbeats 1000000 in
theorem ok17 : FSOk Try.prog 17 fs17 := by
  refine ⟨⟨_, Try.func17, by kernel_rfl, by kernel_rfl⟩, fun a => ⟨by simp [fs17, push_cast, noMine, argOwn, Chunk.frArg], by simp [fs17, push_cast, outOk, Chunk.ext], fun x => .inl (by simp [fs17, push_cast, frNew, frOut, Chunk.fr])⟩, fun a hp => ?_⟩
  obtain ⟨⟨p, L⟩, e, LP, s, l⟩ := a
  obtain ⟨hp, hl, hs⟩ : p.xs.length ≤ 140737488355328 ∧ l.length ≤ 1000000 ∧ (0 < l.length → s = 5) := hp
  have hget := getPt_map l
  have hlm : (l.map Pt.rc).length = l.length := List.length_map _
  have hbd := fun (w0 : 0 ≤ p.w) (w1 : p.w ≤ 200) (h0 : 0 ≤ p.h) (h1 : p.h ≤ 200) => cuN_bd (l := l) w0 w1 h0 h1
  have hpb := paN_bd p e
  have hsb := paS_bd p e l
  have hst := fun {i} => paS_step (p := p) (e := e) (l := l) (i := i)
  obtain ⟨N, hN⟩ : ∃ N, cuN p.w p.h l = N := ⟨_, rfl⟩
  obtain ⟨E, hE'⟩ : ∃ E, cuE p.w p.h l = E := ⟨_, rfl⟩
  have y1 : p.Gr → e.Ok → E = 0 → eyN p e l = N * e.cut + paS p e l := fun a b c => by unfold eyN; rw [if_pos ⟨a, b, by rw [hE', c]⟩, hN]
  have y2 : ¬ (p.Gr ∧ e.Ok ∧ E = 0) → eyN p e l = 0 := fun a => by unfold eyN; rw [if_neg (by rw [hE']; exact a)]
  have y3 : eyE p e l = if p.Gr then if e.Ok then E else 2 else 70 := by unfold eyE; rw [hE']
  rw [hN] at hbd
  obtain ⟨w, h, xs⟩ := p
  obtain ⟨c, q, t, i⟩ := e
  change xs.length ≤ 140737488355328 at hp
  simp only at hN hE' hbd
  change Tri Try.prog 17 [plV ⟨w, h, xs⟩ L 0, .agg [.int .i64 c, .int .i64 q, .int .i64 t, .int .i64 i], .sl 1 LP s 0 l.length] [some (.ro, L, .ints .i64 xs), some (.ro, LP, .recs 5 false [] (l.map Pt.rc))] (postF fs17 ⟨⟨⟨w, h, xs⟩, L⟩, ⟨c, q, t, i⟩, LP, s, l⟩)
  refine tri_evS (hyp (l := [(14, ent14), (29, ent29), (20, ent20), (16, ent16)]) (lp := []) ⟨e14, e29, e20, e16, trivial⟩ trivial) Try.func17 comp17 (rs := [.tmp 6, .tmp 7]) (by rfl) Try.ntmps17 29 ?_
  by_cases hG : (⟨w, h, xs⟩ : Pl).Gr
  case neg =>
    rw [if_neg hG] at y3
    have y2 := y2 fun H => hG H.1
    simp -implicitDefEqProofs only [push_cast, false_implies, reduceCtorEq, Classical.not_not, Nat.reduceAdd, Nat.reduceSub, Nat.reduceMul, Nat.reduceLeDiff, Nat.reduceLT, Nat.reduceEqDiff, Nat.reduceBEq, Nat.reduceBNe, Int.reduceNeg, Int.reduceToNat, Bool.or_false, Bool.false_or, Bool.or_true, Bool.true_or, BEq.rfl, Bool.not_eq_true, Bool.not_eq_false, decide_eq_true_eq, not_true_eq_false, not_false_eq_true, ite_true, ite_false, List.append_nil, and_assoc, Nat.mul_zero, Nat.zero_mul, ir17, fs14, fs12, plV, hG, hp]
    intro X
    refine postF.mk' (fun _ => default) [some 0, some 1] ?_
    simp -implicitDefEqProofs only [push_cast, false_implies, reduceCtorEq, Classical.not_not, Nat.reduceAdd, Nat.reduceSub, Nat.reduceMul, Nat.reduceLeDiff, Nat.reduceLT, Nat.reduceEqDiff, Nat.reduceBEq, Nat.reduceBNe, Int.reduceNeg, Int.reduceToNat, Bool.or_false, Bool.false_or, Bool.or_true, Bool.true_or, BEq.rfl, Bool.not_eq_true, Bool.not_eq_false, decide_eq_true_eq, not_true_eq_false, not_false_eq_true, ite_true, ite_false, List.append_nil, and_assoc, Nat.mul_zero, Nat.zero_mul, fs17, y2, y3]
  have hsd : SidesOk w h := hG.1
  obtain ⟨s1, s2, s3, s4, s5⟩ := hsd
  rw [if_pos hG] at y3
  by_cases hE : (⟨c, q, t, i⟩ : En).Ok
  case neg =>
    rw [if_neg hE] at y3
    have y2 := y2 fun H => hE H.2.1
    simp -implicitDefEqProofs only [push_cast, false_implies, reduceCtorEq, Classical.not_not, Nat.reduceAdd, Nat.reduceSub, Nat.reduceMul, Nat.reduceLeDiff, Nat.reduceLT, Nat.reduceEqDiff, Nat.reduceBEq, Nat.reduceBNe, Int.reduceNeg, Int.reduceToNat, Bool.or_false, Bool.false_or, Bool.or_true, Bool.true_or, BEq.rfl, Bool.not_eq_true, Bool.not_eq_false, decide_eq_true_eq, not_true_eq_false, not_false_eq_true, ite_true, ite_false, List.append_nil, and_assoc, Nat.mul_zero, Nat.zero_mul, ir17, fs14, fs12, fs29, plV, enV, hG, hE, hp]
    intro X
    refine postF.mk' (fun _ => default) [some 0, some 1] ?_
    simp -implicitDefEqProofs only [push_cast, false_implies, reduceCtorEq, Classical.not_not, Nat.reduceAdd, Nat.reduceSub, Nat.reduceMul, Nat.reduceLeDiff, Nat.reduceLT, Nat.reduceEqDiff, Nat.reduceBEq, Nat.reduceBNe, Int.reduceNeg, Int.reduceToNat, Bool.or_false, Bool.false_or, Bool.or_true, Bool.true_or, BEq.rfl, Bool.not_eq_true, Bool.not_eq_false, decide_eq_true_eq, not_true_eq_false, not_false_eq_true, ite_true, ite_false, List.append_nil, and_assoc, Nat.mul_zero, Nat.zero_mul, fs17, y2, y3]
  rw [if_pos hE] at y3
  replace hbd := hbd s1 s3 s2 s4
  by_cases hE0 : E = 0
  case neg =>
    have y2 := y2 fun H => hE0 H.2.2
    simp -implicitDefEqProofs only [push_cast, false_implies, reduceCtorEq, Classical.not_not, Nat.reduceAdd, Nat.reduceSub, Nat.reduceMul, Nat.reduceLeDiff, Nat.reduceLT, Nat.reduceEqDiff, Nat.reduceBEq, Nat.reduceBNe, Int.reduceNeg, Int.reduceToNat, Bool.or_false, Bool.false_or, Bool.or_true, Bool.true_or, BEq.rfl, Bool.not_eq_true, Bool.not_eq_false, decide_eq_true_eq, not_true_eq_false, not_false_eq_true, ite_true, ite_false, List.append_nil, and_assoc, Nat.mul_zero, Nat.zero_mul, ir17, fs14, fs12, fs29, fs20, fs41, plV, enV, hG, hE, hp, hN, hE', hE0, hget, hlm, hl, s1, s2, s3, s4]
    refine fun X => ⟨hs, ?_⟩
    refine postF.mk' (fun _ => default) [some 0, some 1] ?_
    simp -implicitDefEqProofs only [push_cast, false_implies, reduceCtorEq, Classical.not_not, Nat.reduceAdd, Nat.reduceSub, Nat.reduceMul, Nat.reduceLeDiff, Nat.reduceLT, Nat.reduceEqDiff, Nat.reduceBEq, Nat.reduceBNe, Int.reduceNeg, Int.reduceToNat, Bool.or_false, Bool.false_or, Bool.or_true, Bool.true_or, BEq.rfl, Bool.not_eq_true, Bool.not_eq_false, decide_eq_true_eq, not_true_eq_false, not_false_eq_true, ite_true, ite_false, List.append_nil, and_assoc, Nat.mul_zero, Nat.zero_mul, fs17, y2, y3]
  subst hE0
  obtain ⟨⟨c1, c2⟩, _⟩ := id hE
  simp only at c1 c2
  have hm := mul_bd hbd.1 hbd.2 c1 c2
  have y1 := y1 hG hE rfl
  simp -implicitDefEqProofs only [push_cast, false_implies, reduceCtorEq, Classical.not_not, Nat.reduceAdd, Nat.reduceSub, Nat.reduceMul, Nat.reduceLeDiff, Nat.reduceLT, Nat.reduceEqDiff, Nat.reduceBEq, Nat.reduceBNe, Int.reduceNeg, Int.reduceToNat, Bool.or_false, Bool.false_or, Bool.or_true, Bool.true_or, BEq.rfl, Bool.not_eq_true, Bool.not_eq_false, decide_eq_true_eq, not_true_eq_false, not_false_eq_true, ite_true, ite_false, List.append_nil, and_assoc, Nat.mul_zero, Nat.zero_mul, ir17, fs14, fs12, fs29, fs20, fs41, plV, enV, hG, hE, hp, hN, hE', hget, hlm, hl, s1, s2, s3, s4]
  refine fun X => ⟨hs, by omega, by omega, ?_⟩
  refine evS_loopU (A := Nat) kp17_1 kl17_1 (fun k => [(10, .int .i64 (N * c + paS ⟨w, h, xs⟩ ⟨c, q, t, i⟩ (l.take k))), (41, .int .i64 k)]) (fun _ => []) (fun k => k ≤ l.length) (fun k => l.length - k) 0 (Nat.zero_le _) (Sub.pt ?_) ?_
  · have z1 : paS ⟨w, h, xs⟩ ⟨c, q, t, i⟩ (l.take 0) = 0 := rfl
    simp -implicitDefEqProofs only [push_cast, false_implies, reduceCtorEq, Classical.not_not, Nat.reduceAdd, Nat.reduceSub, Nat.reduceMul, Nat.reduceLeDiff, Nat.reduceLT, Nat.reduceEqDiff, Nat.reduceBEq, Nat.reduceBNe, Int.reduceNeg, Int.reduceToNat, Bool.or_false, Bool.false_or, Bool.or_true, Bool.true_or, BEq.rfl, Bool.not_eq_true, Bool.not_eq_false, decide_eq_true_eq, not_true_eq_false, not_false_eq_true, ite_true, ite_false, List.append_nil, and_assoc, Nat.mul_zero, Nat.zero_mul, z1]
  intro k (hk : k ≤ l.length) K hK
  have hsk := hsb k hk
  by_cases hk' : k < l.length
  · have r1 := recAt_Pt hk' []
    have hst' := hst hk'
    have hpb' := hpb (rdPt l k)
    obtain rfl := hs (by omega)
    obtain ⟨q', hq⟩ : ∃ q, rdPt l k = q := ⟨_, rfl⟩
    rw [hq] at r1 hst' hpb'
    obtain ⟨kd, qx, qy, qw, qh⟩ := q'
    obtain ⟨v, hv⟩ : ∃ v, paN ⟨w, h, xs⟩ ⟨c, q, t, i⟩ ⟨kd, qx, qy, qw, qh⟩ = v := ⟨_, rfl⟩
    obtain ⟨S, hS⟩ : ∃ v, paS ⟨w, h, xs⟩ ⟨c, q, t, i⟩ (l.take k) = v := ⟨_, rfl⟩
    obtain ⟨S', hS'⟩ : ∃ v, paS ⟨w, h, xs⟩ ⟨c, q, t, i⟩ (l.take (k + 1)) = v := ⟨_, rfl⟩
    rw [hv] at hst' hpb'
    rw [hS] at hst' hsk
    rw [hS'] at hst'
    simp only [hS]
    simp -implicitDefEqProofs only [push_cast, false_implies, reduceCtorEq, Classical.not_not, Nat.reduceAdd, Nat.reduceSub, Nat.reduceMul, Nat.reduceLeDiff, Nat.reduceLT, Nat.reduceEqDiff, Nat.reduceBEq, Nat.reduceBNe, Int.reduceNeg, Int.reduceToNat, Bool.or_false, Bool.false_or, Bool.or_true, Bool.true_or, BEq.rfl, Bool.not_eq_true, Bool.not_eq_false, decide_eq_true_eq, not_true_eq_false, not_false_eq_true, ite_true, ite_false, List.append_nil, and_assoc, Nat.mul_zero, Nat.zero_mul, b17_1, r1, Pt.rc, hlm, fs16, plV, enV, ptV, hp, hv]
    refine ⟨fun _ X3 => ?_, fun h => by omega⟩
    repeat (refine And.intro (by first | omega | trivial | (intros; omega)) ?_)
    refine hK (k + 1) (show k + 1 ≤ l.length by omega) (show l.length - (k + 1) < l.length - k by omega) _ _ (Sub.pt ?_)
    simp -implicitDefEqProofs only [push_cast, false_implies, reduceCtorEq, Classical.not_not, Nat.reduceAdd, Nat.reduceSub, Nat.reduceMul, Nat.reduceLeDiff, Nat.reduceLT, Nat.reduceEqDiff, Nat.reduceBEq, Nat.reduceBNe, Int.reduceNeg, Int.reduceToNat, Bool.or_false, Bool.false_or, Bool.or_true, Bool.true_or, BEq.rfl, Bool.not_eq_true, Bool.not_eq_false, decide_eq_true_eq, not_true_eq_false, not_false_eq_true, ite_true, ite_false, List.append_nil, and_assoc, Nat.mul_zero, Nat.zero_mul, hS', hst', Int.add_assoc]
  · obtain rfl : k = l.length := by omega
    clear hK
    rw [List.take_length] at *
    simp -implicitDefEqProofs only [push_cast, false_implies, reduceCtorEq, Classical.not_not, Nat.reduceAdd, Nat.reduceSub, Nat.reduceMul, Nat.reduceLeDiff, Nat.reduceLT, Nat.reduceEqDiff, Nat.reduceBEq, Nat.reduceBNe, Int.reduceNeg, Int.reduceToNat, Bool.or_false, Bool.false_or, Bool.or_true, Bool.true_or, BEq.rfl, Bool.not_eq_true, Bool.not_eq_false, decide_eq_true_eq, not_true_eq_false, not_false_eq_true, ite_true, ite_false, List.append_nil, and_assoc, Nat.mul_zero, Nat.zero_mul, b17_1, r17_2, Int.lt_irrefl, true_implies, true_and]
    refine postF.mk' (fun _ => default) [some 0, some 1] ?_
    simp -implicitDefEqProofs only [push_cast, false_implies, reduceCtorEq, Classical.not_not, Nat.reduceAdd, Nat.reduceSub, Nat.reduceMul, Nat.reduceLeDiff, Nat.reduceLT, Nat.reduceEqDiff, Nat.reduceBEq, Nat.reduceBNe, Int.reduceNeg, Int.reduceToNat, Bool.or_false, Bool.false_or, Bool.or_true, Bool.true_or, BEq.rfl, Bool.not_eq_true, Bool.not_eq_false, decide_eq_true_eq, not_true_eq_false, not_false_eq_true, ite_true, ite_false, List.append_nil, and_assoc, Nat.mul_zero, Nat.zero_mul, fs17, y1, y3]
def ent17 : Entry := spOf fs17 inv17
theorem e17 : EntryOk Try.prog 17 ent17 := entry_of ok17 inv17
@[push_cast] theorem ent17_app (us : List SV) (look : Look) (x : Nat → Xf.Loc) (k : Nat) : ent17 us look x k = spOf fs17 inv17 us look x k := rfl
def ptE (p : Pn) (e : En) (x : Pt) : Int := (rpOf p x.rt).en e x.kind.toNat
def sumE (p : Pn) (e : En) (l : List Pt) : Int := sumL (l.map (ptE p e))
theorem sumL_app (a b : List Int) : sumL (a ++ b) = sumL a + sumL b := by
  induction a with
  | nil => simp [sumL]
  | cons x a ih => simp only [List.cons_append, sumL, ih]; omega
theorem sumE_app (p : Pn) (e : En) (a b : List Pt) : sumE p e (a ++ b) = sumE p e a + sumE p e b := by
  unfold sumE; rw [List.map_append, sumL_app]
theorem sumE_one (p : Pn) (e : En) (x : Pt) : sumE p e [x] = ptE p e x := by simp [sumE, sumL]
theorem onePt_E (p : Pn) (e : En) (r : Rt) : ptE p e (onePt p e r) = best p e r := (best_en (p := p) (e := e) (r := r)).2.2
theorem least_area {p : Pn} {e : En} : ∀ (N : Nat) (r : Rt), inR p r → ∀ x ∈ (least p e N r).1, area x.rt ≤ area r
  | 0, r, _, x, hx => by simp [least] at hx
  | N + 1, r, h, x, hx => by
    have hone : ∀ x ∈ [onePt p e r], area x.rt ≤ area r := fun x hx => by
      obtain rfl : x = onePt p e r := by simpa using hx
      exact Int.le_refl _
    rw [least] at hx
    split at hx
    · exact hone x hx
    · rename_i h1
      split at hx
      · unfold lstS at hx
        rw [List.mem_flatMap] at hx
        obtain ⟨q, hq, hx⟩ := hx
        obtain ⟨k1, k2⟩ := qs_in h q hq
        have := k2 h1
        have := least_area N q k1 x hx
        omega
      · exact hone x hx
theorem rdPt_mid (a : List Pt) (x : Pt) (b : List Pt) : rdPt (a ++ x :: b) a.length = x := by simp [rdPt]
theorem tks_tree {p : Pn} {e : En} {N : Nat} {f : Rt → List Pt × Int} : ∀ (Q : List Rt),
    (∀ q ∈ Q, ∀ (a b : List Pt) (c : Int), ∃ k : Int, tk (a ++ (f q).1 ++ b) N q (a.length, c) = (true, a.length + (f q).1.length, c + k) ∧ k * e.cut + sumE p e (f q).1 = (f q).2) →
    ∀ (a b : List Pt) (c : Int), ∃ k : Int, tks (tk (a ++ lstS f Q ++ b) N) Q (a.length, c) = (true, a.length + (lstS f Q).length, c + k) ∧ k * e.cut + sumE p e (lstS f Q) = sumL (Q.map fun q => (f q).2)
  | [], _, a, b, c => ⟨0, by simp [tks, lstS], by simp [lstS, sumE, sumL]⟩
  | q :: Q, h, a, b, c => by
    have e1 : lstS f (q :: Q) = (f q).1 ++ lstS f Q := by simp [lstS]
    obtain ⟨k1, t1, s1⟩ := h q (by simp) a (lstS f Q ++ b) c
    obtain ⟨k2, t2, s2⟩ := tks_tree (p := p) (e := e) Q (fun x hx => h x (by simp [hx])) (a ++ (f q).1) b (c + k1)
    have e2 : a ++ (f q).1 ++ (lstS f Q ++ b) = a ++ lstS f (q :: Q) ++ b := by rw [e1]; simp
    have e3 : a ++ (f q).1 ++ lstS f Q ++ b = a ++ lstS f (q :: Q) ++ b := by rw [e1]; simp
    rw [e2] at t1
    rw [e3, List.length_append] at t2
    refine ⟨k1 + k2, ?_, ?_⟩
    · rw [tks, t1]
      simp only [if_true]
      rw [t2, e1, List.length_append]
      simp only [Prod.mk.injEq, true_and]
      omega
    · rw [e1, sumE_app, Int.add_mul, List.map_cons, sumL]
      omega
/-- The parts of the least tree are a tree, whose energy is the least one. -/
theorem least_tree {p : Pn} {e : En} : ∀ (N : Nat) (r : Rt), inR p r → r.w * r.h ≤ N → ∀ (a b : List Pt) (c : Int),
    ∃ k : Int, tk (a ++ (least p e N r).1 ++ b) N r (a.length, c) = (true, a.length + (least p e N r).1.length, c + k) ∧ k * e.cut + sumE p e (least p e N r).1 = (least p e N r).2
  | 0, r, h, hN, _, _, _ => by have := area_pos h; unfold area at this; omega
  | N + 1, r, h, hN, a, b, c => by
    have hleaf : ∃ k : Int, tk (a ++ [onePt p e r] ++ b) (N + 1) r (a.length, c) = (true, a.length + [onePt p e r].length, c + k) ∧ k * e.cut + sumE p e [onePt p e r] = best p e r := by
      refine ⟨0, ?_, by rw [sumE_one, onePt_E]; omega⟩
      have hr : rdPt (a ++ [onePt p e r] ++ b) a.length = onePt p e r := by rw [List.append_assoc]; exact rdPt_mid a _ b
      rw [tk, if_pos (by simp only [List.length_append, List.length_cons, List.length_nil]; omega)]
      simp only [hr]
      rw [if_pos (by rfl)]
      simp
    rw [least]
    split
    · exact hleaf
    · rename_i h1
      split
      · have hq : ∀ q ∈ qs r, inR p q ∧ q.w * q.h ≤ N := fun q hq => by
          obtain ⟨k1, k2⟩ := qs_in h q hq
          have := k2 h1
          unfold area at this
          exact ⟨k1, by omega⟩
        obtain ⟨k, t, s⟩ := tks_tree (p := p) (e := e) (N := N) (f := least p e N) (qs r) (fun q hh a b c => least_tree N q (hq q hh).1 (hq q hh).2 a b c) a b (c + 1)
        refine ⟨1 + k, ?_, ?_⟩
        · obtain ⟨x, m, hm⟩ : ∃ x m, lstS (least p e N) (qs r) = x :: m := by
            match hl : lstS (least p e N) (qs r) with
            | x :: m => exact ⟨x, m, rfl⟩
            | [] =>
              exfalso
              match hqs : qs r with
              | [] => exact qs_ne h hqs
              | q :: Q =>
                have hne := least_ne (e := e) N q (hq q (by rw [hqs]; simp)).1 (hq q (by rw [hqs]; simp)).2
                rw [hqs] at hl
                unfold lstS at hl
                rw [List.flatMap_cons, List.append_eq_nil_iff] at hl
                exact hne hl.1
          have hr : rdPt (a ++ lstS (least p e N) (qs r) ++ b) a.length = x := by rw [hm, List.append_assoc]; exact rdPt_mid a _ _
          have hx : x ∈ lstS (least p e N) (qs r) := by rw [hm]; simp
          have hxr : ¬ x.rt = r := fun hh => by
            unfold lstS at hx
            rw [List.mem_flatMap] at hx
            obtain ⟨q, hq', hx⟩ := hx
            have := (qs_in h q hq').2 h1
            have h2 := least_area N q (hq q hq').1 x hx
            rw [hh] at h2
            omega
          rw [tk, if_pos (by simp only [List.length_append, hm, List.length_cons]; omega)]
          simp only [hr]
          rw [if_neg hxr, if_neg h1, t]
          simp only [Prod.mk.injEq, true_and]
          omega
        · rw [Int.add_mul, Int.one_mul]
          unfold sumS
          simp only
          omega
      · exact hleaf
where least_ne {p : Pn} {e : En} : ∀ (N : Nat) (r : Rt), inR p r → r.w * r.h ≤ N → (least p e N r).1 ≠ []
  | 0, r, h, hN => by have := area_pos h; unfold area at this; omega
  | N + 1, r, h, hN => by
    rw [least]
    split
    · simp
    · rename_i h1
      split
      · match hqs : qs r with
        | [] => exact absurd hqs (qs_ne h)
        | q :: Q =>
          obtain ⟨k1, k2⟩ := qs_in h q (by rw [hqs]; simp)
          have := k2 h1
          unfold area at this
          have hne := least_ne (e := e) N q k1 (by omega)
          unfold lstS
          rw [List.flatMap_cons]
          intro hl
          rw [List.append_eq_nil_iff] at hl
          exact hne hl.1
      · simp
theorem least_le {p : Pn} {e : En} (N : Nat) (r : Rt) : (least p e (N + 1) r).2 ≤ best p e r ∧ (¬ r.w * r.h = 1 → (least p e (N + 1) r).2 ≤ sumS e.cut (least p e N) (qs r)) := by
  rw [least]
  split
  · rename_i h; exact ⟨Int.le_refl _, fun h' => absurd h h'⟩
  · split
    · rename_i h; exact ⟨by simp only; omega, fun _ => Int.le_refl _⟩
    · rename_i h; exact ⟨Int.le_refl _, fun _ => by simp only; omega⟩
theorem best_le {p : Pn} {e : En} {r : Rt} {k : Int} (h0 : 0 ≤ k) (h1 : k ≤ 2) : best p e r ≤ (rpOf p r).en e k.toNat := by
  unfold best allE
  rw [min3]
  have : k = 0 ∨ k = 1 ∨ k = 2 := by omega
  rcases this with rfl | rfl | rfl
  · change _ ≤ (rpOf p r).en e 0; omega
  · change _ ≤ (rpOf p r).en e 1; omega
  · change _ ≤ (rpOf p r).en e 2; omega
theorem tks_min {p : Pn} {e : En} {l : List Pt} {N : Nat} {f : Rt → List Pt × Int} : ∀ (Q : List Rt) (s : Nat × Int),
    (∀ q ∈ Q, ∀ s : Nat × Int, (tk l N q s).1 = true → (f q).2 + sumE p e (l.take s.1) + s.2 * e.cut ≤ sumE p e (l.take (tk l N q s).2.1) + (tk l N q s).2.2 * e.cut) →
    (tks (tk l N) Q s).1 = true → sumL (Q.map fun q => (f q).2) + sumE p e (l.take s.1) + s.2 * e.cut ≤ sumE p e (l.take (tks (tk l N) Q s).2.1) + (tks (tk l N) Q s).2.2 * e.cut
  | [], s, _, _ => by simp only [List.map_nil, sumL, tks]; omega
  | q :: Q, s, h, ht => by
    rw [tks] at ht ⊢
    split at ht
    · rename_i h1
      have a1 := h q (by simp) s h1
      have a2 := tks_min (p := p) (e := e) (f := f) Q (tk l N q s).2 (fun x hx => h x (by simp [hx])) ht
      rw [if_pos h1, List.map_cons, sumL]
      omega
    · cases ht
/-- No tree has less energy. -/
theorem least_min {p : Pn} {e : En} {l : List Pt} (hk : ∀ x ∈ l, 0 ≤ x.kind ∧ x.kind ≤ 2) : ∀ (N : Nat) (r : Rt) (s : Nat × Int), (tk l N r s).1 = true →
    (least p e N r).2 + sumE p e (l.take s.1) + s.2 * e.cut ≤ sumE p e (l.take (tk l N r s).2.1) + (tk l N r s).2.2 * e.cut
  | 0, r, s, ht => by cases ht
  | N + 1, r, s, ht => by
    obtain ⟨b1, b2⟩ := least_le (p := p) (e := e) N r
    rw [tk] at ht ⊢
    split at ht
    case isFalse => cases ht
    rename_i h0
    rw [if_pos h0]
    split at ht
    · rename_i h1
      rw [if_pos h1]
      have hx := rdPt_mem h0
      obtain ⟨x, hx'⟩ : ∃ x, rdPt l s.1 = x := ⟨_, rfl⟩
      have e1 : l.take (s.1 + 1) = l.take s.1 ++ [x] := by rw [List.take_succ_eq_append_getElem h0, ← hx']; simp [rdPt, h0]
      rw [hx'] at h1 hx
      obtain ⟨k0, k1⟩ := hk x hx
      have := best_le (p := p) (e := e) (r := r) k0 k1
      simp only
      rw [e1, sumE_app, sumE_one]
      unfold ptE
      rw [h1]
      omega
    · rename_i h1
      split at ht
      · cases ht
      · rename_i h2
        rw [if_neg h1, if_neg h2]
        have a := tks_min (p := p) (e := e) (l := l) (f := least p e N) (qs r) (s.1, s.2 + 1) (fun q _ s hs => least_min hk N q s hs) ht
        have := b2 h2
        unfold sumS at this
        simp only at a
        rw [Int.add_mul, Int.one_mul] at a
        omega
structure TkA where
  L : Xf.Loc
  sz : Nat
  l : List Pt
  o : Nat
  r : Rt
def rcI (ns : List Int) : List RC := ns.map (RC.int .i64)
def flatIs (P : Program) (tot : Nat) : Nat → List Field → Bool
  | off, [] => decide (off = tot)
  | off, f :: fs => decide (f.offset = off) && (match P.underlying f.type with | some (.int .i64) => true | _ => false) && decide (P.cellsOf f.type = 1) && flatIs P tot (off + 1) fs
/-- A slice of structs of n numbers each. -/
def flatI (P : Program) (t : TypeId) (n : Nat) : Bool :=
  match P.underlying t with
  | some (.slice e) => match P.underlying e with
    | some (.struct fs) => decide (P.cellsOf e = n) && decide (0 < n) && decide (0 < P.bytesOf e) && flatIs P n 0 fs.toList
    | _ => false
  | _ => false
section
variable {H : Type} {enc : TypeId × Value → H} {P : Program} {w : World} {held : Bool}
theorem flatIs_open {tot m : Nat} : ∀ (l : List Field) (off : Nat) (cs : List Value), flatIs P tot off l = true → cs.length = tot →
    (∀ f ∈ l, ∃ y, DataW.trod enc P w 0 (fun _ => true) held m f.type ((cs.drop f.offset).take (P.cellsOf f.type)) = some y) →
    ∃ ns : List Int, off + ns.length = tot ∧ wfAll .i64 ns ∧ cs.drop off = ns.map (Value.int .i64)
  | [], off, cs, h, hl, _ => by
    simp only [flatIs, decide_eq_true_eq] at h
    exact ⟨[], by simp [h], by simp [wfAll], by simp; omega⟩
  | f :: l, off, cs, h, hl, hf => by
    simp only [flatIs, Bool.and_eq_true, decide_eq_true_eq] at h
    obtain ⟨⟨⟨h1, h2⟩, h3⟩, h4⟩ := h
    obtain ⟨ns, e1, e2, e3⟩ := flatIs_open l (off + 1) cs h4 hl fun g hg => hf g (by simp [hg])
    obtain ⟨y, hy⟩ := hf f (by simp)
    split at h2
    case h_2 => cases h2
    rename_i hu
    obtain ⟨a, hc, _, wf⟩ := DataW.trod_int hu hy
    rw [h1, h3] at hc
    have hd : cs.drop off = (cs.drop off).take 1 ++ cs.drop (off + 1) := by rw [← List.drop_drop, List.take_append_drop]
    refine ⟨a :: ns, by simp only [List.length_cons]; omega, fun n hn => ?_, by rw [hd, hc, e3]; rfl⟩
    rcases List.mem_cons.1 hn with rfl | hn
    · exact wf
    · exact e2 n hn
theorem rcAt_map {l : List (List Int)} {n o : Nat} (hn : 0 < n) (ho : o < l.length * n) (hl : ∀ r ∈ l, r.length = n) : rcAt (l.map rcI) n o = .int .i64 ((l.getD (o / n) []).getD (o % n) 0) := by
  have h1 : o / n < l.length := (Nat.div_lt_iff_lt_mul hn).2 ho
  have h2 : o % n < n := Nat.mod_lt _ hn
  have h3 := hl _ (List.getElem_mem h1)
  unfold rcAt rcI
  simp [h1]
theorem recs_open {r : Reach} {b0 : Nat} {t : TypeId} {v : Value} {d : DataW H} {p : List MemPlace} {n : Nat} (hf : flatI P t n = true) (hv : Value.okWide P w r b0 t v) (h : DataW.Trod enc P w 0 (fun _ => true) held t v d p) (hw : ∀ n ∈ d.weights P t, n ≤ reachBytes) :
    ∃ (L : Xf.Loc) (l : List (List Int)), (∀ c, Den (.sl c L n 0 (l.length : Nat)) v) ∧ (∀ W, ChunkSat w W (.ro, L, .recs n false [] (l.map rcI)) w) ∧ l.length ≤ 140737488355328 ∧ (∀ r ∈ l, r.length = n ∧ wfAll .i64 r) := by
  unfold flatI at hf
  split at hf
  case h_2 => cases hf
  rename_i e ht
  split at hf
  case h_2 => cases hf
  rename_i fs he
  simp only [Bool.and_eq_true, decide_eq_true_eq] at hf
  obtain ⟨⟨⟨hc, hn⟩, hb⟩, hfs⟩ := hf
  obtain ⟨fuel, hx⟩ := h
  have hvc : v.cells.toList = [v] := by obtain ⟨a, n, c, rfl⟩ := WideShapes.okWide_slice ht hv; rfl
  rw [hvc] at hx
  rcases DataW.trod_slice ht hx with ⟨hcs, hxe⟩ | ⟨a, len, cap, elems, rest, m, _, hcs, hxe, hbs, hl, hm, hlen, hel, hsp, hns⟩
  · obtain rfl : v = .slice none 0 0 := by simpa using hcs
    refine ⟨Xf.nilLoc, [], fun c => ?_, fun W => ?_, by simp, by simp⟩
    · simp only [Den, nilLoc0]
      refine ⟨by omega, by simp, by simp, by simp, none, by simp, by simp, by simp⟩
    · refine ⟨fun o ho => (by simp [Chunk.len] at ho), fun _ _ _ h => (by obtain ⟨r, hr, _⟩ := h; simp at hr), fun a ha => (by have h0 := ha.1; cases h0), fun h => (by cases h), ⟨by simp, by simp [nilLoc0], hn, by simp⟩, fun _ _ => trivial⟩
  · obtain rfl : v = .slice (some a) len cap := by simpa using hcs
    obtain ⟨hrl, hsp'⟩ := hsp rfl
    have hcap : cap ≤ 140737488355328 := by
      have hx1 : d = .slice (elems.map (·.1)) (rest.map (·.1)) := (Prod.ext_iff.1 hxe).1
      rw [hx1] at hw
      unfold DataW.weights at hw
      rw [ht] at hw
      have h1 := hw _ (List.mem_cons_self ..)
      simp only [List.length_map] at h1
      rw [show elems.length + rest.length = cap by omega] at h1
      have h3 : cap ≤ cap * P.bytesOf e := Nat.le_mul_of_pos_right _ hb
      have h4 : reachBytes ≤ 140737488355328 := by decide
      omega
    have hall : ∀ i, ∃ ns : List Int, i < len → ns.length = n ∧ wfAll .i64 ns ∧ ∀ j, j < n → w.cell? ((a.add (i * n)).add j) = some (.int .i64 (ns.getD j 0)) := fun i => by
      by_cases hi : i < len
      · have hk := hel i hi
        rw [List.getElem?_eq_getElem (by omega), Option.bind_eq_some_iff] at hk
        obtain ⟨cs', hcs', hy⟩ := hk
        obtain ⟨_, hcl, hcell⟩ := World.cells?_some hcs'
        obtain ⟨xs, m', _, hxe', hlen', hxl, hff⟩ := DataW.trod_struct he hy
        obtain ⟨ns, n1, n2, n3⟩ := flatIs_open (enc := enc) (P := P) (w := w) (held := held) (m := m') fs.toList 0 cs' hfs (by omega) fun f hf' => by
          obtain ⟨i, hi, he⟩ := List.getElem_of_mem hf'
          have hi' : i < fs.size := by simpa using hi
          have := hff i f (by rw [Array.getElem?_eq_getElem hi']; congr 1)
          rw [List.getElem?_eq_getElem (by omega)] at this
          exact ⟨_, this⟩
        rw [List.drop_zero] at n3
        refine ⟨ns, fun _ => ⟨by omega, n2, fun j hj => ?_⟩⟩
        have := hcell j (by omega)
        rw [hc] at this
        rw [this, n3, List.getElem?_map, List.getElem?_eq_getElem (by omega)]
        simp [show j < ns.length by omega]
      · exact ⟨[], fun h => absurd h hi⟩
    obtain ⟨f, hf⟩ := Classical.axiomOfChoice hall
    obtain ⟨b, o, spot⟩ := a
    have hspot : cap ≠ 0 → spot = none := by
      intro hc0
      by_cases h0 : 0 < len
      · have := (hf 0 h0).2.2 0 hn
        simpa [Addr.add] using World.cell?_spot this
      · have hk := hsp' 0 (by omega)
        rw [List.getElem?_eq_getElem (by omega), Option.bind_eq_some_iff] at hk
        obtain ⟨cs', hcs', hy⟩ := hk
        obtain ⟨_, hcl, hcell⟩ := World.cells?_some hcs'
        have := hcell 0 (by omega)
        rw [List.getElem?_eq_getElem (by omega), show len + 0 = 0 by omega] at this
        simpa [Addr.add] using World.cell?_spot this
    have hrl' : ∀ r ∈ (List.range len).map f, r.length = n ∧ wfAll .i64 r := fun r hr => by
      obtain ⟨i, hi, rfl⟩ := List.mem_map.1 hr
      have := hf i (by simpa using hi)
      exact ⟨this.1, this.2.1⟩
    refine ⟨(⟨b, o, false, cap⟩ : Xf.Loc), (List.range len).map f, fun c => ?_, fun W => ?_, by simp; omega, hrl'⟩
    · simp only [Den, List.length_map, List.length_range]
      refine ⟨by omega, by omega, by omega, by simp, some ⟨b, o, spot⟩, by simp, by simp, fun h => ?_⟩
      have : spot = none := hspot (by simpa using h)
      subst this
      simp [Xf.Loc.ad]
    · refine ⟨fun o' ho => ?_, fun _ _ _ h => ?_, fun a ha => (by have h0 := ha.1; cases h0), fun h => (by cases h), ⟨by simp; omega, by simp, hn, fun r hr => ?_⟩, fun _ _ => trivial⟩
      · simp only [Chunk.len, List.length_map, List.length_range] at ho
        have hlt : o' / n < len := (Nat.div_lt_iff_lt_mul hn).2 ho
        have hmod : o' % n < n := Nat.mod_lt _ hn
        have hs : spot = none := hspot (by have : 0 < len := Nat.lt_of_le_of_lt (Nat.zero_le _) hlt; omega)
        subst hs
        have := (hf (o' / n) hlt).2.2 (o' % n) hmod
        have e2 : ((⟨b, o, none⟩ : Addr).add (o' / n * n)).add (o' % n) = ⟨b, o + o', none⟩ := by
          have h3 : o' / n * n + o' % n = o' := Nat.div_add_mod' o' n
          unfold Addr.add
          by_cases h0 : o' / n * n = 0 <;> by_cases h1 : o' % n = 0 <;> simp [h0, h1] <;> omega
        rw [e2] at this
        refine ⟨_, this, ?_⟩
        simp only [Chunk.cell]
        rw [rcAt_map hn (by simpa using ho) fun r hr => (hrl' r hr).1]
        simp [RC.sv, Den, hlt]
      · obtain ⟨r, hr, hm⟩ := h
        obtain ⟨ns, _, rfl⟩ := List.mem_map.1 hr
        obtain ⟨x, _, hx⟩ := List.mem_map.1 hm
        cases hx
      · obtain ⟨ns, h1, rfl⟩ := List.mem_map.1 hr
        unfold rcI
        rw [List.length_map]
        exact (hrl' ns h1).1
end
theorem toPt : ∀ (l : List (List Int)), (∀ r ∈ l, r.length = 5 ∧ wfAll .i64 r) → ∃ m : List Pt, l.length = m.length ∧ l.map rcI = m.map Pt.rc
  | [], _ => ⟨[], rfl, rfl⟩
  | r :: l, h => by
    obtain ⟨m, h1, h2⟩ := toPt l fun x hx => h x (by simp [hx])
    have hr := (h r (by simp)).1
    match r, hr with
    | [a, b, c, d, e], _ => exact ⟨⟨a, b, c, d, e⟩ :: m, by simp [h1], by rw [List.map_cons, List.map_cons, h2]; rfl⟩
end Go.Proofs.Ytbndfifoakmdnaa
