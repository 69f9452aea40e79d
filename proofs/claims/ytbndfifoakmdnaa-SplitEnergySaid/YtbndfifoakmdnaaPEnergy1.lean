import Derived.Test.YtbndfifoakmdnaaPEnergy0
set_option linter.unusedVariables false
set_option linter.unusedSimpArgs false
set_option maxRecDepth 1000
namespace Go.Proofs.Ytbndfifoakmdnaa
open Xf
def ir16 : IR :=
  .seq (.reg false [⟨some 3, none, ⟨[], []⟩, .box 10 (.t 0)⟩,
    ⟨some 4, none, ⟨[], []⟩, .box 11 (.t 1)⟩,
    ⟨some 5, none, ⟨[], []⟩, .box 12 (.t 2)⟩,
    ⟨some 6, none, ⟨[], []⟩, .mov (.k (.int .i64 0))⟩,
    ⟨some 7, none, ⟨[], []⟩, .mov (.k (.int .i64 0))⟩] [0, 1, 2, 6, 7] []) (.seq (.block 0 (.seq (.reg false [⟨some 9, none, ⟨[], []⟩, .ld false (some 3) 0 0 (.t 3)⟩,
    ⟨some 10, none, ⟨[], []⟩, .call (some 4) 13 14 [.t 9]⟩,
    ⟨some 11, none, ⟨[], []⟩, .not (.t 10)⟩,
    ⟨some 8, none, ⟨[], []⟩, .mov (.t 11)⟩] [9, 10, 11] []) (.cond (.t 8) (.seq (.reg false [⟨some 6, none, ⟨[], []⟩, .mov (.k (.int .i64 0))⟩,
    ⟨some 7, none, ⟨[], []⟩, .mov (.k (.int .i64 70))⟩] [3, 4, 5, 8] []) (.ret)) (.seq (.reg false [⟨some 13, none, ⟨[], []⟩, .ld false (some 4) 0 0 (.t 4)⟩,
    ⟨some 14, none, ⟨[], []⟩, .call (some 4) 17 29 [.t 13]⟩,
    ⟨some 15, none, ⟨[], []⟩, .not (.t 14)⟩,
    ⟨some 16, none, ⟨[], []⟩, .mov (.t 15)⟩,
    ⟨some 17, some (16, false), ⟨[], []⟩, .ld false (some 5) 0 0 (.t 5)⟩,
    ⟨some 18, some (16, false), ⟨[], []⟩, .fld (.t 3) 0⟩,
    ⟨some 19, some (16, false), ⟨[], []⟩, .ld false none 0 0 (.t 18)⟩,
    ⟨some 20, some (16, false), ⟨[], []⟩, .fld (.t 3) 1⟩,
    ⟨some 21, some (16, false), ⟨[], []⟩, .ld false none 0 0 (.t 20)⟩,
    ⟨some 22, some (16, false), ⟨[], []⟩, .call (some 4) 21 33 [.t 17, .t 19, .t 21]⟩,
    ⟨some 23, some (16, false), ⟨[], []⟩, .not (.t 22)⟩,
    ⟨some 24, none, ⟨[], []⟩, .pick (.t 16) (.k (.bool true)) (.t 23)⟩,
    ⟨some 12, none, ⟨[], []⟩, .mov (.t 24)⟩] [8, 13, 14, 15, 16, 17, 18, 19, 20, 21, 22, 23, 24] []) (.cond (.t 12) (.seq (.reg false [⟨some 6, none, ⟨[], []⟩, .mov (.k (.int .i64 0))⟩,
    ⟨some 7, none, ⟨[], []⟩, .mov (.k (.int .i64 2))⟩] [3, 4, 5, 12] []) (.ret)) (.skip)))))) (.seq (.reg true [⟨some 25, none, ⟨[], []⟩, .fld (.t 5) 1⟩,
    ⟨some 26, none, ⟨[], []⟩, .ld false none 0 0 (.t 25)⟩,
    ⟨some 27, none, ⟨[], []⟩, .fld (.t 5) 2⟩,
    ⟨some 28, none, ⟨[], []⟩, .ld false none 0 0 (.t 27)⟩,
    ⟨some 29, none, ⟨[], []⟩, .fld (.t 5) 3⟩,
    ⟨some 30, none, ⟨[], []⟩, .ld false none 0 0 (.t 29)⟩,
    ⟨some 31, none, ⟨[], []⟩, .fld (.t 5) 4⟩,
    ⟨some 32, none, ⟨[], []⟩, .ld false none 0 0 (.t 31)⟩,
    ⟨some 33, none, ⟨[], []⟩, .build [.int .i64 0, .int .i64 0, .int .i64 0, .int .i64 0] [(0, 1, .t 26), (1, 1, .t 28), (2, 1, .t 30), (3, 1, .t 32)]⟩,
    ⟨some 34, none, ⟨[], []⟩, .ld false (some 3) 0 0 (.t 3)⟩,
    ⟨some 35, none, ⟨[], []⟩, .ld false (some 4) 0 0 (.t 4)⟩,
    ⟨some 36, none, ⟨[], []⟩, .call (some 4) 25 34 [.t 33, .t 34, .t 35]⟩,
    ⟨some 37, none, ⟨[], []⟩, .fld (.t 5) 0⟩,
    ⟨some 38, none, ⟨[25, 26, 27, 28], []⟩, .ld false none 0 0 (.t 37)⟩,
    ⟨some 39, none, ⟨[], []⟩, .idxV (.t 36) (.t 38) 3⟩,
    ⟨some 6, none, ⟨[], []⟩, .mov (.t 39)⟩,
    ⟨some 7, none, ⟨[], []⟩, .mov (.k (.int .i64 0))⟩] [3, 4, 5, 12, 25, 26, 27, 28, 29, 30, 31, 32, 33, 34, 35, 36, 37, 38, 39] []) (.ret)))
set_option maxRecDepth 4000 in
theorem comp16 : (Try.f16.body.bind fun c => compC tab isP chkAll ir16 c) = some ir16 := by kernel_rfl
/-- A part that lies within a plane of W by H. -/
def Pt.In (x : Pt) (W H : Int) : Prop := 0 ≤ x.kind ∧ x.kind ≤ 2 ∧ 0 ≤ x.x ∧ 0 ≤ x.y ∧ 1 ≤ x.w ∧ 1 ≤ x.h ∧ x.w ≤ W ∧ x.h ≤ H ∧ x.x ≤ W - x.w ∧ x.y ≤ H - x.h
instance (x : Pt) (W H : Int) : Decidable (x.In W H) := by unfold Pt.In; infer_instance
def ptV (x : Pt) : SV := .agg [.int .i64 x.kind, .int .i64 x.x, .int .i64 x.y, .int .i64 x.w, .int .i64 x.h]
structure IpA where
  x : Pt
  w : Int
  h : Int
def fs33 : FS where
  A := IpA
  args := fun a => [ptV a.x, .int .i64 a.w, .int .i64 a.h]
  mem := fun _ => []
  pre := fun a => 0 ≤ a.w ∧ a.w ≤ 200 ∧ 0 ≤ a.h ∧ a.h ≤ 200
  res := fun a _ => .bool (decide (a.x.In a.w a.h))
  out := fun _ _ => []
  new := fun _ _ => []
def inv33 : List SV → Look → Option (IpA × List Nat)
  | [.agg [.int .i64 k, .int .i64 x, .int .i64 y, .int .i64 w, .int .i64 h], .int .i64 W, .int .i64 H], look => some (⟨⟨k, x, y, w, h⟩, W, H⟩, [])
  | _, _ => none
attribute [push_cast] inv33
theorem ok33 : FSOk Try.prog 33 fs33 := by
  refine ⟨⟨_, Try.func33, by kernel_rfl, by kernel_rfl⟩, fun a => ⟨by simp [fs33, push_cast, noMine, argOwn, Chunk.frArg], by simp [fs33, push_cast, outOk, Chunk.ext], fun x => .inl (by simp [fs33, push_cast, frNew, frOut, Chunk.fr])⟩, fun a hp => ?_⟩
  obtain ⟨⟨k, x, y, w, h⟩, W, H⟩ := a
  obtain ⟨h1, h2, h3, h4⟩ : 0 ≤ W ∧ W ≤ 200 ∧ 0 ≤ H ∧ H ≤ 200 := hp
  change Tri Try.prog 33 [.agg [.int .i64 k, .int .i64 x, .int .i64 y, .int .i64 w, .int .i64 h], .int .i64 W, .int .i64 H] [] (postF fs33 ⟨⟨k, x, y, w, h⟩, W, H⟩)
  refine tri_evS (hyp (l := []) (lp := []) trivial trivial) Try.func33 comp33 (rs := [.tmp 6]) (by rfl) Try.ntmps33 11 ?_
  simp -implicitDefEqProofs only [push_cast, false_implies, reduceCtorEq, Classical.not_not, Nat.reduceAdd, Nat.reduceSub, Nat.reduceMul, Nat.reduceLeDiff, Nat.reduceLT, Nat.reduceEqDiff, Nat.reduceBEq, Nat.reduceBNe, Int.reduceNeg, Int.reduceToNat, Bool.or_false, Bool.false_or, Bool.or_true, Bool.true_or, BEq.rfl, Bool.not_eq_true, Bool.not_eq_false, decide_eq_true_eq, not_true_eq_false, not_false_eq_true, ite_true, ite_false, List.append_nil, and_assoc, Nat.mul_zero, Nat.zero_mul, ir33]
  refine fun X => ?_
  repeat (refine And.intro (by first | omega | trivial | (intros; omega)) ?_)
  refine postF.mk' (fun _ => default) [] ?_
  simp -implicitDefEqProofs only [push_cast, false_implies, reduceCtorEq, Classical.not_not, Nat.reduceAdd, Nat.reduceSub, Nat.reduceMul, Nat.reduceLeDiff, Nat.reduceLT, Nat.reduceEqDiff, Nat.reduceBEq, Nat.reduceBNe, Int.reduceNeg, Int.reduceToNat, Bool.or_false, Bool.false_or, Bool.or_true, Bool.true_or, BEq.rfl, Bool.not_eq_true, Bool.not_eq_false, decide_eq_true_eq, not_true_eq_false, not_false_eq_true, ite_true, ite_false, List.append_nil, and_assoc, Nat.mul_zero, Nat.zero_mul, fs33, Pt.In]
def ent33 : Entry := spOf fs33 inv33
theorem e33 : EntryOk Try.prog 33 ent33 := entry_of ok33 inv33
@[push_cast] theorem ent33_app (us : List SV) (look : Look) (x : Nat → Xf.Loc) (k : Nat) : ent33 us look x k = spOf fs33 inv33 us look x k := rfl
/-- The energy of a part. -/
def paN (p : Pl) (e : En) (x : Pt) : Int := if p.Gr ∧ e.Ok ∧ x.In p.w p.h then (rpOf p.pn x.rt).en e x.kind.toNat else 0
def paE (p : Pl) (e : En) (x : Pt) : Int := if p.Gr then if e.Ok ∧ x.In p.w p.h then 0 else 2 else 70
structure PeA where
  a : PlA
  e : En
  x : Pt
def fs16 : FS where
  A := PeA
  args := fun a => [plV a.a.p a.a.L 0, enV a.e, ptV a.x]
  mem := fun a => [some (.ro, a.a.L, .ints .i64 a.a.p.xs)]
  pre := fun a => a.a.p.xs.length ≤ 140737488355328
  res := fun a x => .tup [.int .i64 (paN a.a.p a.e a.x), .int .i64 (paE a.a.p a.e a.x)]
  out := fun _ _ => []
  new := fun _ _ => []
def inv16 : List SV → Look → Option (PeA × List Nat)
  | [v, .agg [.int .i64 c, .int .i64 q, .int .i64 t, .int .i64 i], .agg [.int .i64 k, .int .i64 x, .int .i64 y, .int .i64 w, .int .i64 h]], look => match getP look v with
    | some (a, g) => some (⟨a, ⟨c, q, t, i⟩, ⟨k, x, y, w, h⟩⟩, g)
    | _ => none
  | _, _ => none
attribute [push_cast] inv16
theorem ok16 : FSOk Try.prog 16 fs16 := by
  refine ⟨⟨_, Try.func16, by kernel_rfl, by kernel_rfl⟩, fun a => ⟨by simp [fs16, push_cast, noMine, argOwn, Chunk.frArg], by simp [fs16, push_cast, outOk, Chunk.ext], fun x => .inl (by simp [fs16, push_cast, frNew, frOut, Chunk.fr])⟩, fun a hp => ?_⟩
  obtain ⟨⟨p, L⟩, e, x⟩ := a
  change p.xs.length ≤ 140737488355328 at hp
  obtain ⟨w, h, xs⟩ := p
  obtain ⟨c, q, t, i⟩ := e
  obtain ⟨kd, qx, qy, qw, qh⟩ := x
  change xs.length ≤ 140737488355328 at hp
  change Tri Try.prog 16 [plV ⟨w, h, xs⟩ L 0, .agg [.int .i64 c, .int .i64 q, .int .i64 t, .int .i64 i], .agg [.int .i64 kd, .int .i64 qx, .int .i64 qy, .int .i64 qw, .int .i64 qh]] [some (.ro, L, .ints .i64 xs)] (postF fs16 ⟨⟨⟨w, h, xs⟩, L⟩, ⟨c, q, t, i⟩, ⟨kd, qx, qy, qw, qh⟩⟩)
  refine tri_evS (hyp (l := [(14, ent14), (29, ent29), (33, ent33), (34, ent34)]) (lp := []) ⟨e14, e29, e33, e34, trivial⟩ trivial) Try.func16 comp16 (rs := [.tmp 6, .tmp 7]) (by rfl) Try.ntmps16 29 ?_
  by_cases hG : (⟨w, h, xs⟩ : Pl).Gr
  case neg =>
    have e1 : paN ⟨w, h, xs⟩ ⟨c, q, t, i⟩ ⟨kd, qx, qy, qw, qh⟩ = 0 := by unfold paN; rw [if_neg fun H => hG H.1]
    have e2 : paE ⟨w, h, xs⟩ ⟨c, q, t, i⟩ ⟨kd, qx, qy, qw, qh⟩ = 70 := by unfold paE; rw [if_neg hG]
    simp -implicitDefEqProofs only [push_cast, false_implies, reduceCtorEq, Classical.not_not, Nat.reduceAdd, Nat.reduceSub, Nat.reduceMul, Nat.reduceLeDiff, Nat.reduceLT, Nat.reduceEqDiff, Nat.reduceBEq, Nat.reduceBNe, Int.reduceNeg, Int.reduceToNat, Bool.or_false, Bool.false_or, Bool.or_true, Bool.true_or, BEq.rfl, Bool.not_eq_true, Bool.not_eq_false, decide_eq_true_eq, not_true_eq_false, not_false_eq_true, ite_true, ite_false, List.append_nil, and_assoc, Nat.mul_zero, Nat.zero_mul, ir16, fs14, fs12, plV, hG, hp]
    refine fun X => postF.mk' (fun _ => default) [some 0] ?_
    simp -implicitDefEqProofs only [push_cast, false_implies, reduceCtorEq, Classical.not_not, Nat.reduceAdd, Nat.reduceSub, Nat.reduceMul, Nat.reduceLeDiff, Nat.reduceLT, Nat.reduceEqDiff, Nat.reduceBEq, Nat.reduceBNe, Int.reduceNeg, Int.reduceToNat, Bool.or_false, Bool.false_or, Bool.or_true, Bool.true_or, BEq.rfl, Bool.not_eq_true, Bool.not_eq_false, decide_eq_true_eq, not_true_eq_false, not_false_eq_true, ite_true, ite_false, List.append_nil, and_assoc, Nat.mul_zero, Nat.zero_mul, fs16, e1, e2]
  have hsd : SidesOk w h := hG.1
  obtain ⟨s1, s2, s3, s4, s5⟩ := hsd
  by_cases hE : (⟨c, q, t, i⟩ : En).Ok
  case neg =>
    have e1 : paN ⟨w, h, xs⟩ ⟨c, q, t, i⟩ ⟨kd, qx, qy, qw, qh⟩ = 0 := by unfold paN; rw [if_neg fun H => hE H.2.1]
    have e2 : paE ⟨w, h, xs⟩ ⟨c, q, t, i⟩ ⟨kd, qx, qy, qw, qh⟩ = 2 := by unfold paE; rw [if_pos hG, if_neg fun H => hE H.1]
    simp -implicitDefEqProofs only [push_cast, false_implies, reduceCtorEq, Classical.not_not, Nat.reduceAdd, Nat.reduceSub, Nat.reduceMul, Nat.reduceLeDiff, Nat.reduceLT, Nat.reduceEqDiff, Nat.reduceBEq, Nat.reduceBNe, Int.reduceNeg, Int.reduceToNat, Bool.or_false, Bool.false_or, Bool.or_true, Bool.true_or, BEq.rfl, Bool.not_eq_true, Bool.not_eq_false, decide_eq_true_eq, not_true_eq_false, not_false_eq_true, ite_true, ite_false, List.append_nil, and_assoc, Nat.mul_zero, Nat.zero_mul, ir16, fs14, fs12, fs29, fs33, plV, enV, ptV, hG, hE, hp]
    refine fun X => postF.mk' (fun _ => default) [some 0] ?_
    simp -implicitDefEqProofs only [push_cast, false_implies, reduceCtorEq, Classical.not_not, Nat.reduceAdd, Nat.reduceSub, Nat.reduceMul, Nat.reduceLeDiff, Nat.reduceLT, Nat.reduceEqDiff, Nat.reduceBEq, Nat.reduceBNe, Int.reduceNeg, Int.reduceToNat, Bool.or_false, Bool.false_or, Bool.or_true, Bool.true_or, BEq.rfl, Bool.not_eq_true, Bool.not_eq_false, decide_eq_true_eq, not_true_eq_false, not_false_eq_true, ite_true, ite_false, List.append_nil, and_assoc, Nat.mul_zero, Nat.zero_mul, fs16, e1, e2]
  by_cases hI : (⟨kd, qx, qy, qw, qh⟩ : Pt).In w h
  case neg =>
    have e1 : paN ⟨w, h, xs⟩ ⟨c, q, t, i⟩ ⟨kd, qx, qy, qw, qh⟩ = 0 := by unfold paN; rw [if_neg fun H => hI H.2.2]
    have e2 : paE ⟨w, h, xs⟩ ⟨c, q, t, i⟩ ⟨kd, qx, qy, qw, qh⟩ = 2 := by unfold paE; rw [if_pos hG, if_neg fun H => hI H.2]
    simp -implicitDefEqProofs only [push_cast, false_implies, reduceCtorEq, Classical.not_not, Nat.reduceAdd, Nat.reduceSub, Nat.reduceMul, Nat.reduceLeDiff, Nat.reduceLT, Nat.reduceEqDiff, Nat.reduceBEq, Nat.reduceBNe, Int.reduceNeg, Int.reduceToNat, Bool.or_false, Bool.false_or, Bool.or_true, Bool.true_or, BEq.rfl, Bool.not_eq_true, Bool.not_eq_false, decide_eq_true_eq, not_true_eq_false, not_false_eq_true, ite_true, ite_false, List.append_nil, and_assoc, Nat.mul_zero, Nat.zero_mul, ir16, fs14, fs12, fs29, fs33, plV, enV, ptV, hG, hE, hI, hp]
    intro X
    repeat (refine And.intro (by first | omega | trivial | (intros; omega)) ?_)
    refine postF.mk' (fun _ => default) [some 0] ?_
    simp -implicitDefEqProofs only [push_cast, false_implies, reduceCtorEq, Classical.not_not, Nat.reduceAdd, Nat.reduceSub, Nat.reduceMul, Nat.reduceLeDiff, Nat.reduceLT, Nat.reduceEqDiff, Nat.reduceBEq, Nat.reduceBNe, Int.reduceNeg, Int.reduceToNat, Bool.or_false, Bool.false_or, Bool.or_true, Bool.true_or, BEq.rfl, Bool.not_eq_true, Bool.not_eq_false, decide_eq_true_eq, not_true_eq_false, not_false_eq_true, ite_true, ite_false, List.append_nil, and_assoc, Nat.mul_zero, Nat.zero_mul, fs16, e1, e2]
  have e1 : paN ⟨w, h, xs⟩ ⟨c, q, t, i⟩ ⟨kd, qx, qy, qw, qh⟩ = (rpOf (⟨w, h, xs⟩ : Pl).pn ⟨qx, qy, qw, qh⟩).en ⟨c, q, t, i⟩ kd.toNat := by unfold paN; rw [if_pos ⟨hG, hE, hI⟩]; rfl
  have e2 : paE ⟨w, h, xs⟩ ⟨c, q, t, i⟩ ⟨kd, qx, qy, qw, qh⟩ = 0 := by unfold paE; rw [if_pos hG, if_pos ⟨hE, hI⟩]
  obtain ⟨j1, j2, j3, j4, j5, j6, j7, j8, j9, j10⟩ := id hI
  simp only at j1 j2 j3 j4 j5 j6 j7 j8 j9 j10 s1 s2 s3 s4
  have hl0 : 0 < xs.length := by
    have hl : (xs.length : Int) = w * h := hG.2.1
    have := Int.mul_pos (show 0 < w by omega) (show 0 < h by omega)
    omega
  obtain ⟨g1, g2, g3, g4, g5⟩ := hG.pn hl0
  simp only at g4 g5
  have hin : inR (⟨w, h, xs⟩ : Pl).pn ⟨qx, qy, qw, qh⟩ := ⟨j3, j4, j5, j6, show qx + qw ≤ (w.toNat : Int) by omega, show qy + qh ≤ (h.toNat : Int) by omega⟩
  obtain ⟨hRp, hGr⟩ := hin.rp g1
  have eR : rpOf (⟨w, h, xs⟩ : Pl).pn ⟨qx, qy, qw, qh⟩ = ⟨qx.toNat, qy.toNat, qw.toNat, qh.toNat, w.toNat, h.toNat, xs⟩ := rfl
  rw [eR] at hRp hGr e1
  have t1 : (qx.toNat : Int) = qx := by omega
  have t2 : (qy.toNat : Int) = qy := by omega
  have t3 : (qw.toNat : Int) = qw := by omega
  have t4 : (qh.toNat : Int) = qh := by omega
  have hk : kd = 0 ∨ kd = 1 ∨ kd = 2 := by omega
  have z0 : (0 : Int).toNat = 0 := rfl
  have z1 : (1 : Int).toNat = 1 := rfl
  have z2 : (2 : Int).toNat = 2 := rfl
  rcases hk with rfl | rfl | rfl
  all_goals
    simp -implicitDefEqProofs only [push_cast, false_implies, reduceCtorEq, Classical.not_not, Nat.reduceAdd, Nat.reduceSub, Nat.reduceMul, Nat.reduceLeDiff, Nat.reduceLT, Nat.reduceEqDiff, Nat.reduceBEq, Nat.reduceBNe, Int.reduceNeg, Int.reduceToNat, Bool.or_false, Bool.false_or, Bool.or_true, Bool.true_or, BEq.rfl, Bool.not_eq_true, Bool.not_eq_false, decide_eq_true_eq, not_true_eq_false, not_false_eq_true, ite_true, ite_false, List.append_nil, and_assoc, Nat.mul_zero, Nat.zero_mul, ir16, fs14, fs12, fs29, fs33, fs34, plV, enV, ptV, rcV, hG, hE, hI, hp, hRp, hGr, t1, t2, t3, t4, g4, g5]
    intro X
    repeat (refine And.intro (by first | omega | trivial | (intros; omega)) ?_)
    refine postF.mk' (fun _ => default) [some 0] ?_
    simp -implicitDefEqProofs only [push_cast, false_implies, reduceCtorEq, Classical.not_not, Nat.reduceAdd, Nat.reduceSub, Nat.reduceMul, Nat.reduceLeDiff, Nat.reduceLT, Nat.reduceEqDiff, Nat.reduceBEq, Nat.reduceBNe, Int.reduceNeg, Int.reduceToNat, Bool.or_false, Bool.false_or, Bool.or_true, Bool.true_or, BEq.rfl, Bool.not_eq_true, Bool.not_eq_false, decide_eq_true_eq, not_true_eq_false, not_false_eq_true, ite_true, ite_false, List.append_nil, and_assoc, Nat.mul_zero, Nat.zero_mul, fs16, e1, e2, z0, z1, z2]
    rfl
def ent16 : Entry := spOf fs16 inv16
theorem e16 : EntryOk Try.prog 16 ent16 := entry_of ok16 inv16
@[push_cast] theorem ent16_app (us : List SV) (look : Look) (x : Nat → Xf.Loc) (k : Nat) : ent16 us look x k = spOf fs16 inv16 us look x k := rfl
/-- A plane that is a part of another, from (dx, dy) on. -/
def Pn.sub (q p : Pn) (dx dy : Nat) : Prop := dx + q.W ≤ p.W ∧ dy + q.H ≤ p.H ∧ ∀ i j, i < q.H → j < q.W → rd q.xs ((i * q.W + j : Nat) : Int) = rd p.xs (((dy + i) * p.W + (dx + j) : Nat) : Int)
def b35_1 : IR :=
  .seq (.seq (.reg false [⟨some 14, none, ⟨[], []⟩, .mov (.t 4)⟩,
    ⟨some 15, none, ⟨[], []⟩, .mov (.t 3)⟩,
    ⟨some 16, none, ⟨[], []⟩, .len (.t 15)⟩,
    ⟨some 17, none, ⟨[], []⟩, .bin 0 .lss (.t 14) (.t 16)⟩] [14, 15, 16] []) (.cond (.t 17) (.skip) (.exit 0))) (.seq (.block 1 (.seq (.reg false [⟨some 20, none, ⟨[], []⟩, .mov (.t 3)⟩,
    ⟨some 21, none, ⟨[], []⟩, .mov (.t 4)⟩,
    ⟨some 22, none, ⟨[], []⟩, .idxS (.t 20) (.t 21) 1⟩,
    ⟨some 23, none, ⟨[], []⟩, .ld true none 0 0 (.t 22)⟩,
    ⟨some 24, none, ⟨[], []⟩, .bin 0 .lss (.t 23) (.k (.int .i64 0))⟩,
    ⟨some 25, none, ⟨[], []⟩, .mov (.t 24)⟩,
    ⟨some 26, some (25, false), ⟨[], []⟩, .mov (.t 3)⟩,
    ⟨some 27, some (25, false), ⟨[], []⟩, .mov (.t 4)⟩,
    ⟨some 28, some (25, false), ⟨[], []⟩, .idxS (.t 26) (.t 27) 1⟩,
    ⟨some 29, some (25, false), ⟨[], []⟩, .ld true none 0 0 (.t 28)⟩,
    ⟨some 30, some (25, false), ⟨[], []⟩, .bin 0 .gtr (.t 29) (.k (.int .i64 100000))⟩,
    ⟨some 31, none, ⟨[], []⟩, .pick (.t 25) (.k (.bool true)) (.t 30)⟩] [17, 20, 21, 22, 23, 24, 25, 26, 27, 28, 29, 30] []) (.cond (.t 31) (.seq (.reg false [⟨some 2, none, ⟨[], []⟩, .mov (.k (.bool false))⟩] [3, 4, 31] []) (.ret)) (.skip)))) (.reg false [⟨some 18, none, ⟨[], []⟩, .mov (.t 4)⟩,
    ⟨some 19, none, ⟨[], []⟩, .bin 0 .add (.t 18) (.k (.int .i64 1))⟩,
    ⟨some 4, none, ⟨[], []⟩, .mov (.t 19)⟩] [2, 18, 19, 31] []))
def r35_2 : IR :=
  .seq (.reg false [⟨some 2, none, ⟨[], []⟩, .mov (.k (.bool true))⟩] [3, 4] []) (.ret)
def ir35 : IR :=
  .seq (.reg false [⟨some 1, none, ⟨[], []⟩, .box 10 (.t 0)⟩,
    ⟨some 2, none, ⟨[], []⟩, .mov (.k (.bool false))⟩] [0, 2] []) (.seq (.reg false [⟨some 5, none, ⟨[], []⟩, .fld (.t 1) 0⟩,
    ⟨some 6, none, ⟨[], []⟩, .ld false none 0 0 (.t 5)⟩,
    ⟨some 7, none, ⟨[], []⟩, .fld (.t 1) 1⟩,
    ⟨some 8, none, ⟨[], []⟩, .ld false none 0 0 (.t 7)⟩,
    ⟨some 9, none, ⟨[], []⟩, .fld (.t 1) 2⟩,
    ⟨some 10, none, ⟨[], []⟩, .ld false none 0 0 (.t 9)⟩,
    ⟨some 11, none, ⟨[], []⟩, .fld (.t 1) 3⟩,
    ⟨some 12, none, ⟨[], []⟩, .ld false none 0 0 (.t 11)⟩,
    ⟨some 13, none, ⟨[], []⟩, .bslice 11 [.t 6, .t 8, .t 10, .t 12]⟩,
    ⟨some 3, none, ⟨[], []⟩, .mov (.t 13)⟩] [1, 5, 6, 7, 8, 9, 10, 11, 12, 13] []) (.seq (.seq (.reg false [⟨some 4, none, ⟨[], []⟩, .mov (.k (.int .i64 0))⟩] [] []) (.block 0 (.loop b35_1))) (r35_2)))
def kp35_1 : List Nat := [3, 4]
def kl35_1 : List Nat := []
attribute [push_cast] kp35_1 kl35_1
set_option maxRecDepth 4000 in
theorem comp35 : (Try.f35.body.bind fun c => compC tab isP chkAll ir35 c) = some ir35 := by kernel_rfl
def ir36 : IR :=
  .seq (.reg false [⟨some 5, none, ⟨[], []⟩, .box 10 (.t 2)⟩,
    ⟨some 6, none, ⟨[], []⟩, .mov (.k (.bool false))⟩] [2, 6] []) (.seq (.seq (.reg false [⟨some 7, none, ⟨[], []⟩, .fld (.t 5) 0⟩,
    ⟨some 8, none, ⟨[], []⟩, .ld false none 0 0 (.t 7)⟩,
    ⟨some 9, none, ⟨[], []⟩, .bin 0 .lss (.t 8) (.k (.int .i64 0))⟩,
    ⟨some 10, none, ⟨[], []⟩, .mov (.t 9)⟩,
    ⟨some 11, some (10, false), ⟨[], []⟩, .fld (.t 5) 0⟩,
    ⟨some 12, some (10, false), ⟨[], []⟩, .ld false none 0 0 (.t 11)⟩,
    ⟨some 13, some (10, false), ⟨[], []⟩, .bin 0 .gtr (.t 12) (.k (.int .i64 2))⟩,
    ⟨some 14, none, ⟨[], []⟩, .pick (.t 10) (.k (.bool true)) (.t 13)⟩,
    ⟨some 15, none, ⟨[], []⟩, .mov (.t 14)⟩,
    ⟨some 16, some (15, false), ⟨[], []⟩, .fld (.t 5) 3⟩,
    ⟨some 17, some (15, false), ⟨[], []⟩, .ld false none 0 0 (.t 16)⟩,
    ⟨some 18, some (15, false), ⟨[], []⟩, .bin 0 .lss (.t 17) (.k (.int .i64 1))⟩,
    ⟨some 19, none, ⟨[], []⟩, .pick (.t 15) (.k (.bool true)) (.t 18)⟩,
    ⟨some 20, none, ⟨[], []⟩, .mov (.t 19)⟩,
    ⟨some 21, some (20, false), ⟨[], []⟩, .fld (.t 5) 4⟩,
    ⟨some 22, some (20, false), ⟨[], []⟩, .ld false none 0 0 (.t 21)⟩,
    ⟨some 23, some (20, false), ⟨[], []⟩, .bin 0 .lss (.t 22) (.k (.int .i64 1))⟩,
    ⟨some 24, none, ⟨[], []⟩, .pick (.t 20) (.k (.bool true)) (.t 23)⟩,
    ⟨some 25, none, ⟨[], []⟩, .mov (.t 24)⟩,
    ⟨some 26, some (25, false), ⟨[], []⟩, .fld (.t 5) 1⟩,
    ⟨some 27, some (25, false), ⟨[], []⟩, .ld false none 0 0 (.t 26)⟩,
    ⟨some 28, some (25, false), ⟨[], []⟩, .bin 0 .lss (.t 27) (.k (.int .i64 0))⟩,
    ⟨some 29, none, ⟨[], []⟩, .pick (.t 25) (.k (.bool true)) (.t 28)⟩,
    ⟨some 30, none, ⟨[], []⟩, .mov (.t 29)⟩,
    ⟨some 31, some (30, false), ⟨[], []⟩, .fld (.t 5) 2⟩,
    ⟨some 32, some (30, false), ⟨[], []⟩, .ld false none 0 0 (.t 31)⟩,
    ⟨some 33, some (30, false), ⟨[], []⟩, .bin 0 .lss (.t 32) (.k (.int .i64 0))⟩,
    ⟨some 34, none, ⟨[], []⟩, .pick (.t 30) (.k (.bool true)) (.t 33)⟩] [7, 8, 9, 10, 11, 12, 13, 14, 15, 16, 17, 18, 19, 20, 21, 22, 23, 24, 25, 26, 27, 28, 29, 30, 31, 32, 33] []) (.cond (.t 34) (.seq (.reg false [⟨some 6, none, ⟨[], []⟩, .mov (.k (.bool false))⟩] [0, 1, 5, 34] []) (.ret)) (.skip))) (.seq (.reg false [⟨some 35, none, ⟨[], []⟩, .fld (.t 5) 3⟩,
    ⟨some 36, none, ⟨[], []⟩, .ld false none 0 0 (.t 35)⟩,
    ⟨some 37, none, ⟨[], []⟩, .mov (.t 0)⟩,
    ⟨some 38, none, ⟨[], []⟩, .bin 0 .leq (.t 36) (.t 37)⟩,
    ⟨some 39, none, ⟨[], []⟩, .mov (.t 38)⟩,
    ⟨some 40, some (39, true), ⟨[], []⟩, .fld (.t 5) 4⟩,
    ⟨some 41, some (39, true), ⟨[], []⟩, .ld false none 0 0 (.t 40)⟩,
    ⟨some 42, some (39, true), ⟨[], []⟩, .mov (.t 1)⟩,
    ⟨some 43, some (39, true), ⟨[], []⟩, .bin 0 .leq (.t 41) (.t 42)⟩,
    ⟨some 44, none, ⟨[], []⟩, .pick (.t 39) (.t 43) (.k (.bool false))⟩,
    ⟨some 45, none, ⟨[], []⟩, .mov (.t 44)⟩,
    ⟨some 46, some (45, true), ⟨[], []⟩, .fld (.t 5) 1⟩,
    ⟨some 47, some (45, true), ⟨[], []⟩, .ld false none 0 0 (.t 46)⟩,
    ⟨some 48, some (45, true), ⟨[], []⟩, .mov (.t 0)⟩,
    ⟨some 49, some (45, true), ⟨[], []⟩, .fld (.t 5) 3⟩,
    ⟨some 50, some (45, true), ⟨[], []⟩, .ld false none 0 0 (.t 49)⟩,
    ⟨some 51, some (45, true), ⟨[], []⟩, .bin 0 .sub (.t 48) (.t 50)⟩,
    ⟨some 52, some (45, true), ⟨[], []⟩, .bin 0 .leq (.t 47) (.t 51)⟩,
    ⟨some 53, none, ⟨[], []⟩, .pick (.t 45) (.t 52) (.k (.bool false))⟩,
    ⟨some 54, none, ⟨[], []⟩, .mov (.t 53)⟩,
    ⟨some 55, some (54, true), ⟨[], []⟩, .fld (.t 5) 2⟩,
    ⟨some 56, some (54, true), ⟨[], []⟩, .ld false none 0 0 (.t 55)⟩,
    ⟨some 57, some (54, true), ⟨[], []⟩, .mov (.t 1)⟩,
    ⟨some 58, some (54, true), ⟨[], []⟩, .fld (.t 5) 4⟩,
    ⟨some 59, some (54, true), ⟨[], []⟩, .ld false none 0 0 (.t 58)⟩,
    ⟨some 60, some (54, true), ⟨[], []⟩, .bin 0 .sub (.t 57) (.t 59)⟩,
    ⟨some 61, some (54, true), ⟨[], []⟩, .bin 0 .leq (.t 56) (.t 60)⟩,
    ⟨some 62, none, ⟨[], []⟩, .pick (.t 54) (.t 61) (.k (.bool false))⟩,
    ⟨some 6, none, ⟨[], []⟩, .mov (.t 62)⟩] [0, 1, 5, 34, 35, 36, 37, 38, 39, 40, 41, 42, 43, 44, 45, 46, 47, 48, 49, 50, 51, 52, 53, 54, 55, 56, 57, 58, 59, 60, 61, 62] []) (.ret)))
set_option maxRecDepth 4000 in
theorem comp36 : (Try.f36.body.bind fun c => compC tab isP chkAll ir36 c) = some ir36 := by kernel_rfl
def b47_2 : IR :=
  .seq (.seq (.reg false [⟨some 23, none, ⟨[], []⟩, .mov (.t 9)⟩,
    ⟨some 24, none, ⟨[], []⟩, .fld (.t 3) 1⟩,
    ⟨some 25, none, ⟨[], []⟩, .ld false none 0 0 (.t 24)⟩,
    ⟨some 26, none, ⟨[], []⟩, .fld (.t 3) 3⟩,
    ⟨some 27, none, ⟨[], []⟩, .ld false none 0 0 (.t 26)⟩,
    ⟨some 28, none, ⟨[], []⟩, .bin 0 .add (.t 25) (.t 27)⟩,
    ⟨some 29, none, ⟨[], []⟩, .bin 0 .lss (.t 23) (.t 28)⟩] [23, 24, 25, 26, 27, 28] []) (.cond (.t 29) (.skip) (.exit 2))) (.seq (.block 3 (.reg true [⟨some 32, none, ⟨[], []⟩, .mov (.t 6)⟩,
    ⟨some 33, none, ⟨[], []⟩, .fld (.t 2) 2⟩,
    ⟨some 34, none, ⟨[], []⟩, .ld false none 0 0 (.t 33)⟩,
    ⟨some 35, none, ⟨[], []⟩, .mov (.t 8)⟩,
    ⟨some 36, none, ⟨[], []⟩, .fld (.t 2) 0⟩,
    ⟨some 37, none, ⟨[], []⟩, .ld false none 0 0 (.t 36)⟩,
    ⟨some 38, none, ⟨[], []⟩, .bin 0 .mul (.t 35) (.t 37)⟩,
    ⟨some 39, none, ⟨[], []⟩, .mov (.t 9)⟩,
    ⟨some 40, none, ⟨[], []⟩, .bin 0 .add (.t 38) (.t 39)⟩,
    ⟨some 41, none, ⟨[], []⟩, .idxS (.t 34) (.t 40) 1⟩,
    ⟨some 42, none, ⟨[], []⟩, .ld true none 0 0 (.t 41)⟩,
    ⟨some 43, none, ⟨[], []⟩, .mn (.t 32) (.t 42)⟩,
    ⟨some 44, none, ⟨[], []⟩, .mov (.t 7)⟩,
    ⟨some 45, none, ⟨[], []⟩, .fld (.t 2) 2⟩,
    ⟨some 46, none, ⟨[], []⟩, .ld false none 0 0 (.t 45)⟩,
    ⟨some 47, none, ⟨[], []⟩, .mov (.t 8)⟩,
    ⟨some 48, none, ⟨[], []⟩, .fld (.t 2) 0⟩,
    ⟨some 49, none, ⟨[], []⟩, .ld false none 0 0 (.t 48)⟩,
    ⟨some 50, none, ⟨[], []⟩, .bin 0 .mul (.t 47) (.t 49)⟩,
    ⟨some 51, none, ⟨[], []⟩, .mov (.t 9)⟩,
    ⟨some 52, none, ⟨[], []⟩, .bin 0 .add (.t 50) (.t 51)⟩,
    ⟨some 53, none, ⟨[], []⟩, .idxS (.t 46) (.t 52) 1⟩,
    ⟨some 54, none, ⟨[], []⟩, .ld true none 0 0 (.t 53)⟩,
    ⟨some 55, none, ⟨[], []⟩, .mx (.t 44) (.t 54)⟩,
    ⟨some 6, none, ⟨[], []⟩, .mov (.t 43)⟩,
    ⟨some 7, none, ⟨[], []⟩, .mov (.t 55)⟩] [29, 32, 33, 34, 35, 36, 37, 38, 39, 40, 41, 42, 43, 44, 45, 46, 47, 48, 49, 50, 51, 52, 53, 54, 55] [])) (.reg false [⟨some 30, none, ⟨[], []⟩, .mov (.t 9)⟩,
    ⟨some 31, none, ⟨[], []⟩, .bin 0 .add (.t 30) (.k (.int .i64 1))⟩,
    ⟨some 9, none, ⟨[], []⟩, .mov (.t 31)⟩] [30, 31] []))
def r47_3 : IR :=
  .reg false [⟨some 19, none, ⟨[], []⟩, .mov (.t 8)⟩,
    ⟨some 20, none, ⟨[], []⟩, .bin 0 .add (.t 19) (.k (.int .i64 1))⟩,
    ⟨some 8, none, ⟨[], []⟩, .mov (.t 20)⟩] [9, 19, 20] []
def b47_1 : IR :=
  .seq (.seq (.reg false [⟨some 12, none, ⟨[], []⟩, .mov (.t 8)⟩,
    ⟨some 13, none, ⟨[], []⟩, .fld (.t 3) 2⟩,
    ⟨some 14, none, ⟨[], []⟩, .ld false none 0 0 (.t 13)⟩,
    ⟨some 15, none, ⟨[], []⟩, .fld (.t 3) 4⟩,
    ⟨some 16, none, ⟨[], []⟩, .ld false none 0 0 (.t 15)⟩,
    ⟨some 17, none, ⟨[], []⟩, .bin 0 .add (.t 14) (.t 16)⟩,
    ⟨some 18, none, ⟨[], []⟩, .bin 0 .lss (.t 12) (.t 17)⟩] [12, 13, 14, 15, 16, 17] []) (.cond (.t 18) (.skip) (.exit 0))) (.seq (.block 1 (.seq (.reg false [⟨some 21, none, ⟨[], []⟩, .fld (.t 3) 1⟩,
    ⟨some 22, none, ⟨[], []⟩, .ld false none 0 0 (.t 21)⟩,
    ⟨some 9, none, ⟨[], []⟩, .mov (.t 22)⟩] [18, 21, 22] []) (.block 2 (.loop b47_2)))) (r47_3))
def r47_4 : IR :=
  .seq (.reg false [⟨some 56, none, ⟨[], []⟩, .mov (.t 6)⟩,
    ⟨some 57, none, ⟨[], []⟩, .mov (.t 7)⟩,
    ⟨some 4, none, ⟨[], []⟩, .mov (.t 56)⟩,
    ⟨some 5, none, ⟨[], []⟩, .mov (.t 57)⟩] [2, 3, 6, 7, 8, 56, 57] []) (.ret)
def ir47 : IR :=
  .seq (.reg false [⟨some 2, none, ⟨[], []⟩, .box 10 (.t 0)⟩,
    ⟨some 3, none, ⟨[], []⟩, .box 11 (.t 1)⟩,
    ⟨some 4, none, ⟨[], []⟩, .mov (.k (.int .i64 0))⟩,
    ⟨some 5, none, ⟨[], []⟩, .mov (.k (.int .i64 0))⟩] [0, 1, 4, 5] []) (.seq (.reg false [⟨some 6, none, ⟨[], []⟩, .mov (.k (.int .i64 255))⟩,
    ⟨some 7, none, ⟨[], []⟩, .mov (.k (.int .i64 0))⟩] [] []) (.seq (.seq (.reg false [⟨some 10, none, ⟨[], []⟩, .fld (.t 3) 2⟩,
    ⟨some 11, none, ⟨[], []⟩, .ld false none 0 0 (.t 10)⟩,
    ⟨some 8, none, ⟨[], []⟩, .mov (.t 11)⟩] [10, 11] []) (.block 0 (.loop b47_1))) (r47_4)))
def kp47_2 : List Nat := [2, 3, 6, 7, 8, 9]
def kl47_2 : List Nat := []
attribute [push_cast] kp47_2 kl47_2
def kp47_1 : List Nat := [2, 3, 6, 7, 8]
def kl47_1 : List Nat := []
attribute [push_cast] kp47_1 kl47_1
set_option maxRecDepth 4000 in
theorem comp47 : (Try.f47.body.bind fun c => compC tab isP chkAll ir47 c) = some ir47 := by kernel_rfl
theorem ok35 : FSOk Try.prog 35 fs29 := by
  refine ⟨⟨_, Try.func35, by kernel_rfl, by kernel_rfl⟩, fun a => ⟨by simp [fs29, push_cast, noMine, argOwn, Chunk.frArg], by simp [fs29, push_cast, outOk, Chunk.ext], fun x => .inl (by simp [fs29, push_cast, frNew, frOut, Chunk.fr])⟩, fun a hp => ?_⟩
  obtain ⟨⟨c, q, t, i⟩⟩ := a
  change Tri Try.prog 35 [.agg [.int .i64 c, .int .i64 q, .int .i64 t, .int .i64 i]] [] (postF fs29 ⟨⟨c, q, t, i⟩⟩)
  refine tri_evS (hyp (l := []) (lp := []) trivial trivial) Try.func35 comp35 (rs := [.tmp 2]) (by rfl) Try.ntmps35 12 ?_
  have hE : (⟨c, q, t, i⟩ : En).Ok ↔ ∀ j, j < 4 → 0 ≤ rd [c, q, t, i] (j : Nat) ∧ rd [c, q, t, i] (j : Nat) ≤ 100000 := by
    constructor
    · intro ⟨h1, h2, h3, h4⟩ j hj
      match j, hj with
      | 0, _ => exact h1
      | 1, _ => exact h2
      | 2, _ => exact h3
      | 3, _ => exact h4
    · intro h
      exact ⟨h 0 (by omega), h 1 (by omega), h 2 (by omega), h 3 (by omega)⟩
  have hl : [c, q, t, i].length = 4 := rfl
  simp -implicitDefEqProofs only [push_cast, false_implies, reduceCtorEq, Classical.not_not, Nat.reduceAdd, Nat.reduceSub, Nat.reduceMul, Nat.reduceLeDiff, Nat.reduceLT, Nat.reduceEqDiff, Nat.reduceBEq, Nat.reduceBNe, Int.reduceNeg, Int.reduceToNat, Bool.or_false, Bool.false_or, Bool.or_true, Bool.true_or, BEq.rfl, Bool.not_eq_true, Bool.not_eq_false, decide_eq_true_eq, not_true_eq_false, not_false_eq_true, ite_true, ite_false, List.append_nil, and_assoc, Nat.mul_zero, Nat.zero_mul, ir35]
  intro X X1
  obtain ⟨e, he⟩ : ∃ e, (⟨c, q, t, i⟩ : En) = e := ⟨_, rfl⟩
  obtain ⟨xs, hxs⟩ : ∃ xs, [c, q, t, i] = xs := ⟨_, rfl⟩
  rw [hxs] at hE hl
  rw [he] at hE ⊢
  obtain ⟨n, hn⟩ : ∃ n : Nat, 4 = n := ⟨_, rfl⟩
  have h4 : (1 + 1 + 1 + 1 : Int) = (n : Int) := by omega
  have h4' : (4 : Int) = (n : Int) := by omega
  simp only [hxs, h4, h4']
  rw [hn] at hE hl
  refine evS_loopU (A := Nat) kp35_1 kl35_1 (fun i => [(4, .int .i64 i)]) (fun _ => [])
    (fun i => i ≤ n ∧ ∀ j, j < i → 0 ≤ rd xs (j : Nat) ∧ rd xs (j : Nat) ≤ 100000) (fun i => n - i) 0 ⟨by omega, fun j hj => absurd hj (Nat.not_lt_zero j)⟩ (Sub.pt ?_) ?_
  · simp -implicitDefEqProofs only [push_cast, false_implies, reduceCtorEq, Classical.not_not, Nat.reduceAdd, Nat.reduceSub, Nat.reduceMul, Nat.reduceLeDiff, Nat.reduceLT, Nat.reduceEqDiff, Nat.reduceBEq, Nat.reduceBNe, Int.reduceNeg, Int.reduceToNat, Bool.or_false, Bool.false_or, Bool.or_true, Bool.true_or, BEq.rfl, Bool.not_eq_true, Bool.not_eq_false, decide_eq_true_eq, not_true_eq_false, not_false_eq_true, ite_true, ite_false, List.append_nil, and_assoc, Nat.mul_zero, Nat.zero_mul]
  intro k ⟨h1, h2⟩ K hK
  by_cases hk : k < n
  · have hk4 : (k : Int) < n := by omega
    simp -implicitDefEqProofs only [push_cast, false_implies, reduceCtorEq, Classical.not_not, Nat.reduceAdd, Nat.reduceSub, Nat.reduceMul, Nat.reduceLeDiff, Nat.reduceLT, Nat.reduceEqDiff, Nat.reduceBEq, Nat.reduceBNe, Int.reduceNeg, Int.reduceToNat, Bool.or_false, Bool.false_or, Bool.or_true, Bool.true_or, BEq.rfl, Bool.not_eq_true, Bool.not_eq_false, decide_eq_true_eq, not_true_eq_false, not_false_eq_true, ite_true, ite_false, List.append_nil, and_assoc, Nat.mul_zero, Nat.zero_mul, b35_1, hl]
    refine ⟨fun _ => ?_, fun h => absurd hk4 h⟩
    repeat (refine And.intro (by first | omega | trivial | (intros; omega)) ?_)
    refine ⟨fun hb => ?_, fun hg => ?_⟩
    · have e1 : ¬ e.Ok := fun H => by have := hE.1 H k hk; omega
      refine postF.mk' (fun _ => default) [] ?_
      simp -implicitDefEqProofs only [push_cast, false_implies, reduceCtorEq, Classical.not_not, Nat.reduceAdd, Nat.reduceSub, Nat.reduceMul, Nat.reduceLeDiff, Nat.reduceLT, Nat.reduceEqDiff, Nat.reduceBEq, Nat.reduceBNe, Int.reduceNeg, Int.reduceToNat, Bool.or_false, Bool.false_or, Bool.or_true, Bool.true_or, BEq.rfl, Bool.not_eq_true, Bool.not_eq_false, decide_eq_true_eq, not_true_eq_false, not_false_eq_true, ite_true, ite_false, List.append_nil, and_assoc, Nat.mul_zero, Nat.zero_mul, fs29, e1]
    · repeat (refine And.intro (by first | omega | trivial | (intros; omega)) ?_)
      refine hK (k + 1) ⟨by omega, fun j hj => ?_⟩ (show n - (k + 1) < n - k by omega) _ _ (Sub.pt ?_)
      · by_cases ej : j = k
        · subst ej; omega
        · exact h2 j (by omega)
      · simp -implicitDefEqProofs only [push_cast, false_implies, reduceCtorEq, Classical.not_not, Nat.reduceAdd, Nat.reduceSub, Nat.reduceMul, Nat.reduceLeDiff, Nat.reduceLT, Nat.reduceEqDiff, Nat.reduceBEq, Nat.reduceBNe, Int.reduceNeg, Int.reduceToNat, Bool.or_false, Bool.false_or, Bool.or_true, Bool.true_or, BEq.rfl, Bool.not_eq_true, Bool.not_eq_false, decide_eq_true_eq, not_true_eq_false, not_false_eq_true, ite_true, ite_false, List.append_nil, and_assoc, Nat.mul_zero, Nat.zero_mul]
  · have hk4 : ¬ (k : Int) < n := by omega
    have e1 : e.Ok := hE.2 fun j hj => h2 j (by omega)
    simp -implicitDefEqProofs only [push_cast, false_implies, reduceCtorEq, Classical.not_not, Nat.reduceAdd, Nat.reduceSub, Nat.reduceMul, Nat.reduceLeDiff, Nat.reduceLT, Nat.reduceEqDiff, Nat.reduceBEq, Nat.reduceBNe, Int.reduceNeg, Int.reduceToNat, Bool.or_false, Bool.false_or, Bool.or_true, Bool.true_or, BEq.rfl, Bool.not_eq_true, Bool.not_eq_false, decide_eq_true_eq, not_true_eq_false, not_false_eq_true, ite_true, ite_false, List.append_nil, and_assoc, Nat.mul_zero, Nat.zero_mul, b35_1, r35_2, hl, hk4]
    refine postF.mk' (fun _ => default) [] ?_
    simp -implicitDefEqProofs only [push_cast, false_implies, reduceCtorEq, Classical.not_not, Nat.reduceAdd, Nat.reduceSub, Nat.reduceMul, Nat.reduceLeDiff, Nat.reduceLT, Nat.reduceEqDiff, Nat.reduceBEq, Nat.reduceBNe, Int.reduceNeg, Int.reduceToNat, Bool.or_false, Bool.false_or, Bool.or_true, Bool.true_or, BEq.rfl, Bool.not_eq_true, Bool.not_eq_false, decide_eq_true_eq, not_true_eq_false, not_false_eq_true, ite_true, ite_false, List.append_nil, and_assoc, Nat.mul_zero, Nat.zero_mul, fs29, e1]
def ent35 : Entry := spOf fs29 inv29
theorem e35 : EntryOk Try.prog 35 ent35 := entry_of ok35 inv29
@[push_cast] theorem ent35_app (us : List SV) (look : Look) (x : Nat → Xf.Loc) (k : Nat) : ent35 us look x k = spOf fs29 inv29 us look x k := rfl
def fs36 : FS where
  A := IpA
  args := fun a => [.int .i64 a.w, .int .i64 a.h, ptV a.x]
  mem := fun _ => []
  pre := fun a => 0 ≤ a.w ∧ a.w ≤ 200 ∧ 0 ≤ a.h ∧ a.h ≤ 200
  res := fun a _ => .bool (decide (a.x.In a.w a.h))
  out := fun _ _ => []
  new := fun _ _ => []
def inv36 : List SV → Look → Option (IpA × List Nat)
  | [.int .i64 W, .int .i64 H, .agg [.int .i64 k, .int .i64 x, .int .i64 y, .int .i64 w, .int .i64 h]], look => some (⟨⟨k, x, y, w, h⟩, W, H⟩, [])
  | _, _ => none
attribute [push_cast] inv36
theorem ok36 : FSOk Try.prog 36 fs36 := by
  refine ⟨⟨_, Try.func36, by kernel_rfl, by kernel_rfl⟩, fun a => ⟨by simp [fs36, push_cast, noMine, argOwn, Chunk.frArg], by simp [fs36, push_cast, outOk, Chunk.ext], fun x => .inl (by simp [fs36, push_cast, frNew, frOut, Chunk.fr])⟩, fun a hp => ?_⟩
  obtain ⟨⟨k, x, y, w, h⟩, W, H⟩ := a
  obtain ⟨h1, h2, h3, h4⟩ : 0 ≤ W ∧ W ≤ 200 ∧ 0 ≤ H ∧ H ≤ 200 := hp
  change Tri Try.prog 36 [.int .i64 W, .int .i64 H, .agg [.int .i64 k, .int .i64 x, .int .i64 y, .int .i64 w, .int .i64 h]] [] (postF fs36 ⟨⟨k, x, y, w, h⟩, W, H⟩)
  refine tri_evS (hyp (l := []) (lp := []) trivial trivial) Try.func36 comp36 (rs := [.tmp 6]) (by rfl) Try.ntmps36 11 ?_
  simp -implicitDefEqProofs only [push_cast, false_implies, reduceCtorEq, Classical.not_not, Nat.reduceAdd, Nat.reduceSub, Nat.reduceMul, Nat.reduceLeDiff, Nat.reduceLT, Nat.reduceEqDiff, Nat.reduceBEq, Nat.reduceBNe, Int.reduceNeg, Int.reduceToNat, Bool.or_false, Bool.false_or, Bool.or_true, Bool.true_or, BEq.rfl, Bool.not_eq_true, Bool.not_eq_false, decide_eq_true_eq, not_true_eq_false, not_false_eq_true, ite_true, ite_false, List.append_nil, and_assoc, Nat.mul_zero, Nat.zero_mul, ir36]
  intro X
  refine ⟨fun hn => ?_, fun hy => ?_⟩
  · have e : ¬ (⟨k, x, y, w, h⟩ : Pt).In W H := fun H' => by unfold Pt.In at H'; simp only at H'; omega
    refine postF.mk' (fun _ => default) [] ?_
    simp -implicitDefEqProofs only [push_cast, false_implies, reduceCtorEq, Classical.not_not, Nat.reduceAdd, Nat.reduceSub, Nat.reduceMul, Nat.reduceLeDiff, Nat.reduceLT, Nat.reduceEqDiff, Nat.reduceBEq, Nat.reduceBNe, Int.reduceNeg, Int.reduceToNat, Bool.or_false, Bool.false_or, Bool.or_true, Bool.true_or, BEq.rfl, Bool.not_eq_true, Bool.not_eq_false, decide_eq_true_eq, not_true_eq_false, not_false_eq_true, ite_true, ite_false, List.append_nil, and_assoc, Nat.mul_zero, Nat.zero_mul, fs36, e]
  · repeat (refine And.intro (by first | omega | trivial | (intros; omega)) ?_)
    refine postF.mk' (fun _ => default) [] ?_
    have e : (⟨k, x, y, w, h⟩ : Pt).In W H ↔ (w ≤ W ∧ h ≤ H ∧ x ≤ W - w ∧ y ≤ H - h) := by unfold Pt.In; simp only; omega
    simp -implicitDefEqProofs only [push_cast, false_implies, reduceCtorEq, Classical.not_not, Nat.reduceAdd, Nat.reduceSub, Nat.reduceMul, Nat.reduceLeDiff, Nat.reduceLT, Nat.reduceEqDiff, Nat.reduceBEq, Nat.reduceBNe, Int.reduceNeg, Int.reduceToNat, Bool.or_false, Bool.false_or, Bool.or_true, Bool.true_or, BEq.rfl, Bool.not_eq_true, Bool.not_eq_false, decide_eq_true_eq, not_true_eq_false, not_false_eq_true, ite_true, ite_false, List.append_nil, and_assoc, Nat.mul_zero, Nat.zero_mul, fs36, e]
def ent36 : Entry := spOf fs36 inv36
theorem e36 : EntryOk Try.prog 36 ent36 := entry_of ok36 inv36
@[push_cast] theorem ent36_app (us : List SV) (look : Look) (x : Nat → Xf.Loc) (k : Nat) : ent36 us look x k = spOf fs36 inv36 us look x k := rfl
/-- Ends, as the specification begins. -/
structure RkA where
  a : RpA
  k : Int
theorem val_at {x y w h W H : Nat} {xs : List Int} {i j : Nat} (hj : j < w) : (⟨x, y, w, h, W, H, xs⟩ : Rp).val (i * w + j) = rd xs (((y + i) * W + (x + j) : Nat) : Int) := by
  show rd xs ((atN x y w W (i * w + j) : Nat) : Int) = _
  unfold atN
  rw [(dm_at hj).1, (dm_at hj).2, Nat.add_assoc]
def fs47 : FS where
  A := RkA
  args := fun a => [plV ⟨a.a.r.W, a.a.r.H, a.a.r.xs⟩ a.a.L 0, .agg [.int .i64 a.k, .int .i64 a.a.r.x, .int .i64 a.a.r.y, .int .i64 a.a.r.w, .int .i64 a.a.r.h]]
  mem := fun a => [some (.ro, a.a.L, .ints .i64 a.a.r.xs)]
  pre := fun a => a.a.r.Ok ∧ a.a.r.grey ∧ 0 < a.a.r.n
  res := fun a x => .tup [.int .i64 a.a.r.lo, .int .i64 a.a.r.hi]
  out := fun _ _ => []
  new := fun _ _ => []
def inv47 : List SV → Look → Option (RkA × List Nat)
  | [p, .agg [.int .i64 k, .int .i64 x, .int .i64 y, .int .i64 w, .int .i64 h]], look => match getR look (.agg [.int .i64 x, .int .i64 y, .int .i64 w, .int .i64 h]) p with
    | some (a, g) => some (⟨a, k⟩, g)
    | _ => none
  | _, _ => none
attribute [push_cast] inv47
theorem ok47 : FSOk Try.prog 47 fs47 := by
  refine ⟨⟨_, Try.func47, by kernel_rfl, by kernel_rfl⟩, fun a => ⟨by simp [fs47, push_cast, noMine, argOwn, Chunk.frArg], by simp [fs47, push_cast, outOk, Chunk.ext], fun x => .inl (by simp [fs47, push_cast, frNew, frOut, Chunk.fr])⟩, fun a hp => ?_⟩
  obtain ⟨⟨r, L⟩, kd⟩ := a
  obtain ⟨hp, hG, h0⟩ : r.Ok ∧ r.grey ∧ 0 < r.n := hp
  have e1 : r.lo = minN 255 r.val r.n := minN_any (c := 255) (by omega) (by omega) h0 fun k hk => (hG k hk).2
  have e2 : r.hi = maxN 0 r.val r.n := maxN_any (c := 0) (by omega) (by omega) h0 fun k hk => (hG k hk).1
  have e3 := rp_len hp
  obtain ⟨x, y, w, h, W, H, xs⟩ := r
  have hat := fun {i j : Nat} (hj : j < w) => val_at (x := x) (y := y) (h := h) (W := W) (H := H) (xs := xs) (i := i) hj
  obtain ⟨v, hv⟩ : ∃ v, (⟨x, y, w, h, W, H, xs⟩ : Rp).val = v := ⟨_, rfl⟩
  obtain ⟨o1, o2, o3, o4, o5⟩ := hp
  simp only at o1 o2 o3 o4 o5 e3
  rw [hv] at e1 e2 hat
  change _ = minN 255 v (w * h) at e1
  change _ = maxN 0 v (w * h) at e2
  change Tri Try.prog 47 [plV ⟨W, H, xs⟩ L 0, .agg [.int .i64 kd, .int .i64 x, .int .i64 y, .int .i64 w, .int .i64 h]] [some (.ro, L, .ints .i64 xs)] (postF fs47 ⟨⟨⟨x, y, w, h, W, H, xs⟩, L⟩, kd⟩)
  refine tri_evS (hyp (l := []) (lp := []) trivial trivial) Try.func47 comp47 (rs := [.tmp 4, .tmp 5]) (by rfl) Try.ntmps47 12 ?_
  simp -implicitDefEqProofs only [push_cast, false_implies, reduceCtorEq, Classical.not_not, Nat.reduceAdd, Nat.reduceSub, Nat.reduceMul, Nat.reduceLeDiff, Nat.reduceLT, Nat.reduceEqDiff, Nat.reduceBEq, Nat.reduceBNe, Int.reduceNeg, Int.reduceToNat, Bool.or_false, Bool.false_or, Bool.or_true, Bool.true_or, BEq.rfl, Bool.not_eq_true, Bool.not_eq_false, decide_eq_true_eq, not_true_eq_false, not_false_eq_true, ite_true, ite_false, List.append_nil, and_assoc, Nat.mul_zero, Nat.zero_mul, ir47, plV]
  intro X
  refine evS_loopU (A := Nat) kp47_1 kl47_1 (fun i => [(6, .int .i64 (minN 255 v (i * w))), (7, .int .i64 (maxN 0 v (i * w))), (8, .int .i64 ((y + i : Nat) : Int))]) (fun _ => []) (fun i => i ≤ h) (fun i => h - i) 0 (Nat.zero_le _) (Sub.pt ?_) ?_
  · simp -implicitDefEqProofs only [push_cast, false_implies, reduceCtorEq, Classical.not_not, Nat.reduceAdd, Nat.reduceSub, Nat.reduceMul, Nat.reduceLeDiff, Nat.reduceLT, Nat.reduceEqDiff, Nat.reduceBEq, Nat.reduceBNe, Int.reduceNeg, Int.reduceToNat, Bool.or_false, Bool.false_or, Bool.or_true, Bool.true_or, BEq.rfl, Bool.not_eq_true, Bool.not_eq_false, decide_eq_true_eq, not_true_eq_false, not_false_eq_true, ite_true, ite_false, List.append_nil, and_assoc, Nat.mul_zero, Nat.zero_mul, Nat.zero_mul, minN, maxN]
  intro i (hi : i ≤ h) K hK
  by_cases hi' : i < h
  · simp -implicitDefEqProofs only [push_cast, false_implies, reduceCtorEq, Classical.not_not, Nat.reduceAdd, Nat.reduceSub, Nat.reduceMul, Nat.reduceLeDiff, Nat.reduceLT, Nat.reduceEqDiff, Nat.reduceBEq, Nat.reduceBNe, Int.reduceNeg, Int.reduceToNat, Bool.or_false, Bool.false_or, Bool.or_true, Bool.true_or, BEq.rfl, Bool.not_eq_true, Bool.not_eq_false, decide_eq_true_eq, not_true_eq_false, not_false_eq_true, ite_true, ite_false, List.append_nil, and_assoc, Nat.mul_zero, Nat.zero_mul, b47_1, r47_3]
    repeat (refine And.intro (by first | omega | trivial | (intros; omega)) ?_)
    refine ⟨fun _ => ?_, fun h => by omega⟩
    refine evS_loopU (A := Nat) kp47_2 kl47_2 (fun j => [(6, .int .i64 (minN 255 v (i * w + j))), (7, .int .i64 (maxN 0 v (i * w + j))), (9, .int .i64 ((x + j : Nat) : Int))]) (fun _ => []) (fun j => j ≤ w) (fun j => w - j) 0 (Nat.zero_le _) (Sub.pt ?_) ?_
    · simp -implicitDefEqProofs only [push_cast, false_implies, reduceCtorEq, Classical.not_not, Nat.reduceAdd, Nat.reduceSub, Nat.reduceMul, Nat.reduceLeDiff, Nat.reduceLT, Nat.reduceEqDiff, Nat.reduceBEq, Nat.reduceBNe, Int.reduceNeg, Int.reduceToNat, Bool.or_false, Bool.false_or, Bool.or_true, Bool.true_or, BEq.rfl, Bool.not_eq_true, Bool.not_eq_false, decide_eq_true_eq, not_true_eq_false, not_false_eq_true, ite_true, ite_false, List.append_nil, and_assoc, Nat.mul_zero, Nat.zero_mul, Nat.add_zero]
    intro j (hj : j ≤ w) K2 hK2
    by_cases hj' : j < w
    · have hlt : (y + i + 1) * W ≤ H * W := Nat.mul_le_mul_right W (by omega)
      rw [Nat.add_mul (y + i) 1] at hlt
      have hix : (y + i) * W + (x + j) < xs.length := by omega
      have hm := mul_bd (a := ((y + i : Nat) : Int)) (b := (W : Int)) (A := 200) (B := 200) (by omega) (by omega) (by omega) (by omega)
      have eidx : ((y : Int) + i) * W + (x + j) = (((y + i) * W + (x + j) : Nat) : Int) := by simp
      have hr := (hat (i := i) hj').symm
      push_cast at hm
      obtain ⟨ix, hixx⟩ : ∃ ix, (y + i) * W + (x + j) = ix := ⟨_, rfl⟩
      rw [hixx] at hix eidx hr
      obtain ⟨kk, hkk⟩ : ∃ kk, i * w + j = kk := ⟨_, rfl⟩
      have hkk1 : i * w + (j + 1) = kk + 1 := by omega
      rw [hkk] at hr
      have m1 : minN 255 v (kk + 1) = min (minN 255 v kk) (v kk) := rfl
      have m2 : maxN 0 v (kk + 1) = max (maxN 0 v kk) (v kk) := rfl
      simp only [hkk]
      simp -implicitDefEqProofs only [push_cast, false_implies, reduceCtorEq, Classical.not_not, Nat.reduceAdd, Nat.reduceSub, Nat.reduceMul, Nat.reduceLeDiff, Nat.reduceLT, Nat.reduceEqDiff, Nat.reduceBEq, Nat.reduceBNe, Int.reduceNeg, Int.reduceToNat, Bool.or_false, Bool.false_or, Bool.or_true, Bool.true_or, BEq.rfl, Bool.not_eq_true, Bool.not_eq_false, decide_eq_true_eq, not_true_eq_false, not_false_eq_true, ite_true, ite_false, List.append_nil, and_assoc, Nat.mul_zero, Nat.zero_mul, b47_2, eidx, hr]
      refine And.intro (by omega) (And.intro (by omega) ?_)
      refine ⟨fun _ => ?_, fun h => by omega⟩
      repeat (refine And.intro (by first | omega | trivial | (intros; omega)) ?_)
      refine hK2 (j + 1) (show j + 1 ≤ w from hj') (show w - (j + 1) < w - j by omega) _ _ (Sub.pt ?_)
      simp only [hkk1]
      simp -implicitDefEqProofs only [push_cast, false_implies, reduceCtorEq, Classical.not_not, Nat.reduceAdd, Nat.reduceSub, Nat.reduceMul, Nat.reduceLeDiff, Nat.reduceLT, Nat.reduceEqDiff, Nat.reduceBEq, Nat.reduceBNe, Int.reduceNeg, Int.reduceToNat, Bool.or_false, Bool.false_or, Bool.or_true, Bool.true_or, BEq.rfl, Bool.not_eq_true, Bool.not_eq_false, decide_eq_true_eq, not_true_eq_false, not_false_eq_true, ite_true, ite_false, List.append_nil, and_assoc, Nat.mul_zero, Nat.zero_mul, m1, m2, Int.add_assoc]
    · obtain rfl : j = w := by omega
      clear hK2
      simp -implicitDefEqProofs only [push_cast, false_implies, reduceCtorEq, Classical.not_not, Nat.reduceAdd, Nat.reduceSub, Nat.reduceMul, Nat.reduceLeDiff, Nat.reduceLT, Nat.reduceEqDiff, Nat.reduceBEq, Nat.reduceBNe, Int.reduceNeg, Int.reduceToNat, Bool.or_false, Bool.false_or, Bool.or_true, Bool.true_or, BEq.rfl, Bool.not_eq_true, Bool.not_eq_false, decide_eq_true_eq, not_true_eq_false, not_false_eq_true, ite_true, ite_false, List.append_nil, and_assoc, Nat.mul_zero, Nat.zero_mul, b47_2, Int.lt_irrefl, true_implies, true_and]
      repeat (refine And.intro (by first | omega | trivial | (intros; omega)) ?_)
      refine hK (i + 1) (show i + 1 ≤ h from hi') (show h - (i + 1) < h - i by omega) _ _ (Sub.pt ?_)
      simp -implicitDefEqProofs only [push_cast, false_implies, reduceCtorEq, Classical.not_not, Nat.reduceAdd, Nat.reduceSub, Nat.reduceMul, Nat.reduceLeDiff, Nat.reduceLT, Nat.reduceEqDiff, Nat.reduceBEq, Nat.reduceBNe, Int.reduceNeg, Int.reduceToNat, Bool.or_false, Bool.false_or, Bool.or_true, Bool.true_or, BEq.rfl, Bool.not_eq_true, Bool.not_eq_false, decide_eq_true_eq, not_true_eq_false, not_false_eq_true, ite_true, ite_false, List.append_nil, and_assoc, Nat.mul_zero, Nat.zero_mul, Nat.add_mul, Nat.one_mul, Int.add_assoc]
  · obtain rfl : i = h := by omega
    clear hK
    have ec : i * w = w * i := Nat.mul_comm _ _
    simp -implicitDefEqProofs only [push_cast, false_implies, reduceCtorEq, Classical.not_not, Nat.reduceAdd, Nat.reduceSub, Nat.reduceMul, Nat.reduceLeDiff, Nat.reduceLT, Nat.reduceEqDiff, Nat.reduceBEq, Nat.reduceBNe, Int.reduceNeg, Int.reduceToNat, Bool.or_false, Bool.false_or, Bool.or_true, Bool.true_or, BEq.rfl, Bool.not_eq_true, Bool.not_eq_false, decide_eq_true_eq, not_true_eq_false, not_false_eq_true, ite_true, ite_false, List.append_nil, and_assoc, Nat.mul_zero, Nat.zero_mul, b47_1, r47_4, Int.lt_irrefl, true_implies, true_and]
    repeat (refine And.intro (by first | omega | trivial | (intros; omega)) ?_)
    refine postF.mk' (fun _ => default) [some 0] ?_
    simp -implicitDefEqProofs only [push_cast, false_implies, reduceCtorEq, Classical.not_not, Nat.reduceAdd, Nat.reduceSub, Nat.reduceMul, Nat.reduceLeDiff, Nat.reduceLT, Nat.reduceEqDiff, Nat.reduceBEq, Nat.reduceBNe, Int.reduceNeg, Int.reduceToNat, Bool.or_false, Bool.false_or, Bool.or_true, Bool.true_or, BEq.rfl, Bool.not_eq_true, Bool.not_eq_false, decide_eq_true_eq, not_true_eq_false, not_false_eq_true, ite_true, ite_false, List.append_nil, and_assoc, Nat.mul_zero, Nat.zero_mul, fs47, e1, e2, ec]
def ent47 : Entry := spOf fs47 inv47
theorem e47 : EntryOk Try.prog 47 ent47 := entry_of ok47 inv47
@[push_cast] theorem ent47_app (us : List SV) (look : Look) (x : Nat → Xf.Loc) (k : Nat) : ent47 us look x k = spOf fs47 inv47 us look x k := rfl
def b38_2 : IR :=
  .seq (.seq (.reg false [⟨some 50, none, ⟨[], []⟩, .mov (.t 11)⟩,
    ⟨some 51, none, ⟨[], []⟩, .fld (.t 5) 1⟩,
    ⟨some 52, none, ⟨[], []⟩, .ld false none 0 0 (.t 51)⟩,
    ⟨some 53, none, ⟨[], []⟩, .fld (.t 5) 3⟩,
    ⟨some 54, none, ⟨[], []⟩, .ld false none 0 0 (.t 53)⟩,
    ⟨some 55, none, ⟨[], []⟩, .bin 0 .add (.t 52) (.t 54)⟩,
    ⟨some 56, none, ⟨[], []⟩, .bin 0 .lss (.t 50) (.t 55)⟩] [50, 51, 52, 53, 54, 55] []) (.cond (.t 56) (.skip) (.exit 2))) (.seq (.block 3 (.seq (.reg false [⟨some 59, none, ⟨[], []⟩, .fld (.t 3) 2⟩,
    ⟨some 60, none, ⟨[], []⟩, .ld false none 0 0 (.t 59)⟩,
    ⟨some 61, none, ⟨[], []⟩, .mov (.t 10)⟩,
    ⟨some 62, none, ⟨[], []⟩, .fld (.t 3) 0⟩,
    ⟨some 63, none, ⟨[], []⟩, .ld false none 0 0 (.t 62)⟩,
    ⟨some 64, none, ⟨[], []⟩, .bin 0 .mul (.t 61) (.t 63)⟩,
    ⟨some 65, none, ⟨[], []⟩, .mov (.t 11)⟩,
    ⟨some 66, none, ⟨[], []⟩, .bin 0 .add (.t 64) (.t 65)⟩,
    ⟨some 67, none, ⟨[], []⟩, .idxS (.t 60) (.t 66) 1⟩,
    ⟨some 68, none, ⟨[], []⟩, .ld true none 0 0 (.t 67)⟩,
    ⟨some 12, none, ⟨[], []⟩, .mov (.t 68)⟩] [56, 59, 60, 61, 62, 63, 64, 65, 66, 67, 68] []) (.seq (.reg false [⟨some 69, none, ⟨[], []⟩, .fld (.t 5) 0⟩,
    ⟨some 70, none, ⟨[], []⟩, .ld false none 0 0 (.t 69)⟩,
    ⟨some 71, none, ⟨[], []⟩, .bin 0 .eql (.t 70) (.k (.int .i64 0))⟩] [69, 70] []) (.cond (.t 71) (.reg false [⟨some 72, none, ⟨[], []⟩, .mov (.t 9)⟩,
    ⟨some 73, none, ⟨[], []⟩, .mov (.t 8)⟩,
    ⟨some 74, none, ⟨[], []⟩, .bin 0 .add (.t 72) (.t 73)⟩,
    ⟨some 75, none, ⟨[], []⟩, .mov (.t 12)⟩,
    ⟨some 76, none, ⟨[], []⟩, .bin 0 .sub (.t 74) (.t 75)⟩,
    ⟨some 9, none, ⟨[], []⟩, .mov (.t 76)⟩] [12, 71, 72, 73, 74, 75, 76] []) (.reg false [⟨some 77, none, ⟨[], []⟩, .mov (.t 9)⟩,
    ⟨some 78, none, ⟨[], []⟩, .mov (.t 12)⟩,
    ⟨some 79, none, ⟨[], []⟩, .mov (.t 7)⟩,
    ⟨some 80, none, ⟨[], []⟩, .bin 0 .sub (.t 78) (.t 79)⟩,
    ⟨some 81, none, ⟨[], []⟩, .mov (.t 8)⟩,
    ⟨some 82, none, ⟨[], []⟩, .mov (.t 12)⟩,
    ⟨some 83, none, ⟨[], []⟩, .bin 0 .sub (.t 81) (.t 82)⟩,
    ⟨some 84, none, ⟨[], []⟩, .mn (.t 80) (.t 83)⟩,
    ⟨some 85, none, ⟨[], []⟩, .bin 0 .add (.t 77) (.t 84)⟩,
    ⟨some 9, none, ⟨[], []⟩, .mov (.t 85)⟩] [12, 71, 77, 78, 79, 80, 81, 82, 83, 84, 85] []))))) (.reg false [⟨some 57, none, ⟨[], []⟩, .mov (.t 11)⟩,
    ⟨some 58, none, ⟨[], []⟩, .bin 0 .add (.t 57) (.k (.int .i64 1))⟩,
    ⟨some 11, none, ⟨[], []⟩, .mov (.t 58)⟩] [57, 58] []))
def r38_3 : IR :=
  .reg false [⟨some 46, none, ⟨[], []⟩, .mov (.t 10)⟩,
    ⟨some 47, none, ⟨[], []⟩, .bin 0 .add (.t 46) (.k (.int .i64 1))⟩,
    ⟨some 10, none, ⟨[], []⟩, .mov (.t 47)⟩] [11, 46, 47] []
def b38_1 : IR :=
  .seq (.seq (.reg false [⟨some 39, none, ⟨[], []⟩, .mov (.t 10)⟩,
    ⟨some 40, none, ⟨[], []⟩, .fld (.t 5) 2⟩,
    ⟨some 41, none, ⟨[], []⟩, .ld false none 0 0 (.t 40)⟩,
    ⟨some 42, none, ⟨[], []⟩, .fld (.t 5) 4⟩,
    ⟨some 43, none, ⟨[], []⟩, .ld false none 0 0 (.t 42)⟩,
    ⟨some 44, none, ⟨[], []⟩, .bin 0 .add (.t 41) (.t 43)⟩,
    ⟨some 45, none, ⟨[], []⟩, .bin 0 .lss (.t 39) (.t 44)⟩] [39, 40, 41, 42, 43, 44] []) (.cond (.t 45) (.skip) (.exit 0))) (.seq (.block 1 (.seq (.reg false [⟨some 48, none, ⟨[], []⟩, .fld (.t 5) 1⟩,
    ⟨some 49, none, ⟨[], []⟩, .ld false none 0 0 (.t 48)⟩,
    ⟨some 11, none, ⟨[], []⟩, .mov (.t 49)⟩] [45, 48, 49] []) (.block 2 (.loop b38_2)))) (r38_3))
def r38_4 : IR :=
  .seq (.reg false [⟨some 86, none, ⟨[], []⟩, .mov (.t 9)⟩,
    ⟨some 6, none, ⟨[], []⟩, .mov (.t 86)⟩] [3, 5, 7, 8, 9, 10, 86] []) (.ret)
def ir38 : IR :=
  .seq (.reg false [⟨some 3, none, ⟨[], []⟩, .box 10 (.t 0)⟩,
    ⟨some 4, none, ⟨[], []⟩, .box 11 (.t 1)⟩,
    ⟨some 5, none, ⟨[], []⟩, .box 12 (.t 2)⟩,
    ⟨some 6, none, ⟨[], []⟩, .mov (.k (.int .i64 0))⟩] [0, 1, 2, 6] []) (.seq (.seq (.reg false [⟨some 13, none, ⟨[], []⟩, .fld (.t 5) 0⟩,
    ⟨some 14, none, ⟨[], []⟩, .ld false none 0 0 (.t 13)⟩,
    ⟨some 15, none, ⟨[], []⟩, .bin 0 .eql (.t 14) (.k (.int .i64 2))⟩] [13, 14] []) (.cond (.t 15) (.seq (.reg false [⟨some 16, none, ⟨[], []⟩, .fld (.t 4) 3⟩,
    ⟨some 17, none, ⟨[], []⟩, .ld false none 0 0 (.t 16)⟩,
    ⟨some 18, none, ⟨[], []⟩, .fld (.t 5) 3⟩,
    ⟨some 19, none, ⟨[], []⟩, .ld false none 0 0 (.t 18)⟩,
    ⟨some 20, none, ⟨[], []⟩, .bin 0 .mul (.t 17) (.t 19)⟩,
    ⟨some 21, none, ⟨[], []⟩, .fld (.t 5) 4⟩,
    ⟨some 22, none, ⟨[], []⟩, .ld false none 0 0 (.t 21)⟩,
    ⟨some 23, none, ⟨[], []⟩, .bin 0 .mul (.t 20) (.t 22)⟩,
    ⟨some 6, none, ⟨[], []⟩, .mov (.t 23)⟩] [3, 4, 5, 15, 16, 17, 18, 19, 20, 21, 22, 23] []) (.ret)) (.skip))) (.seq (.reg false [⟨some 25, none, ⟨[], []⟩, .ld false (some 3) 0 0 (.t 3)⟩,
    ⟨some 26, none, ⟨[], []⟩, .ld false (some 5) 0 0 (.t 5)⟩,
    ⟨some 27, none, ⟨[], []⟩, .call (some 4) 13 47 [.t 25, .t 26]⟩,
    ⟨some 24, none, ⟨[], []⟩, .mov (.t 27)⟩,
    ⟨some 28, none, ⟨[], []⟩, .ext (.t 24) 0⟩,
    ⟨some 29, none, ⟨[], []⟩, .ext (.t 24) 1⟩,
    ⟨some 7, none, ⟨[], []⟩, .mov (.t 28)⟩,
    ⟨some 8, none, ⟨[], []⟩, .mov (.t 29)⟩] [6, 15, 24, 25, 26, 27, 28, 29] []) (.seq (.reg false [⟨some 30, none, ⟨[], []⟩, .fld (.t 4) 1⟩,
    ⟨some 31, none, ⟨[], []⟩, .ld false none 0 0 (.t 30)⟩,
    ⟨some 9, none, ⟨[], []⟩, .mov (.t 31)⟩] [30, 31] []) (.seq (.seq (.reg false [⟨some 32, none, ⟨[], []⟩, .fld (.t 5) 0⟩,
    ⟨some 33, none, ⟨[], []⟩, .ld false none 0 0 (.t 32)⟩,
    ⟨some 34, none, ⟨[], []⟩, .bin 0 .eql (.t 33) (.k (.int .i64 1))⟩] [32, 33] []) (.cond (.t 34) (.reg false [⟨some 35, none, ⟨[], []⟩, .fld (.t 4) 2⟩,
    ⟨some 36, none, ⟨[], []⟩, .ld false none 0 0 (.t 35)⟩,
    ⟨some 9, none, ⟨[], []⟩, .mov (.t 36)⟩] [4, 34, 35, 36] []) (.skip))) (.seq (.seq (.reg false [⟨some 37, none, ⟨[], []⟩, .fld (.t 5) 2⟩,
    ⟨some 38, none, ⟨[], []⟩, .ld false none 0 0 (.t 37)⟩,
    ⟨some 10, none, ⟨[], []⟩, .mov (.t 38)⟩] [4, 34, 37, 38] []) (.block 0 (.loop b38_1))) (r38_4))))))
def kp38_2 : List Nat := [3, 5, 7, 8, 9, 10, 11]
def kl38_2 : List Nat := []
attribute [push_cast] kp38_2 kl38_2
def kp38_1 : List Nat := [3, 5, 7, 8, 9, 10]
def kl38_1 : List Nat := []
attribute [push_cast] kp38_1 kl38_1
set_option maxRecDepth 4000 in
theorem comp38 : (Try.f38.body.bind fun c => compC tab isP chkAll ir38 c) = some ir38 := by kernel_rfl
structure ReA where
  a : RpA
  e : En
  k : Int
def fs38 : FS where
  A := ReA
  args := fun a => [plV ⟨a.a.r.W, a.a.r.H, a.a.r.xs⟩ a.a.L 0, enV a.e, .agg [.int .i64 a.k, .int .i64 a.a.r.x, .int .i64 a.a.r.y, .int .i64 a.a.r.w, .int .i64 a.a.r.h]]
  mem := fun a => [some (.ro, a.a.L, .ints .i64 a.a.r.xs)]
  pre := fun a => a.a.r.Ok ∧ a.a.r.grey ∧ 0 < a.a.r.n ∧ a.e.Ok ∧ 0 ≤ a.k ∧ a.k ≤ 2
  res := fun a x => .int .i64 (a.a.r.en a.e a.k.toNat)
  out := fun _ _ => []
  new := fun _ _ => []
def inv38 : List SV → Look → Option (ReA × List Nat)
  | [p, .agg [.int .i64 c, .int .i64 q, .int .i64 t, .int .i64 i], .agg [.int .i64 k, .int .i64 x, .int .i64 y, .int .i64 w, .int .i64 h]], look => match getR look (.agg [.int .i64 x, .int .i64 y, .int .i64 w, .int .i64 h]) p with
    | some (a, g) => some (⟨a, ⟨c, q, t, i⟩, k⟩, g)
    | _ => none
  | _, _ => none
attribute [push_cast] inv38
set_option maxHeartbeats 1000000 in
theorem ok38 : FSOk Try.prog 38 fs38 := by
  refine ⟨⟨_, Try.func38, by kernel_rfl, by kernel_rfl⟩, fun a => ⟨by simp [fs38, push_cast, noMine, argOwn, Chunk.frArg], by simp [fs38, push_cast, outOk, Chunk.ext], fun x => .inl (by simp [fs38, push_cast, frNew, frOut, Chunk.fr])⟩, fun a hp => ?_⟩
  obtain ⟨⟨r, L⟩, e, kd⟩ := a
  obtain ⟨hp, hG, h0, hE, hk0, hk2⟩ : r.Ok ∧ r.grey ∧ 0 < r.n ∧ e.Ok ∧ 0 ≤ kd ∧ kd ≤ 2 := hp
  have hpa := fun {k : Nat} => Rp.pa_bd hG (k := k)
  have hte := fun {k : Nat} => Rp.te_bd hG (k := k)
  have hlohi := fun {k : Nat} => Rp.lohi hG (k := k)
  have e3 := rp_len hp
  have d0 : r.en e 0 = e.paper + sumN (fun k => r.hi - r.val k) r.n := rfl
  have d1 : r.en e 1 = e.text + sumN (fun k => min (r.val k - r.lo) (r.hi - r.val k)) r.n := rfl
  have d2 : r.en e 2 = e.pic * r.w * r.h := rfl
  have eend : (fs47).pre ⟨⟨r, L⟩, kd⟩ := ⟨hp, hG, h0⟩
  unfold Rp.pa at hpa
  unfold Rp.te at hte
  obtain ⟨v, hv⟩ : ∃ v, r.val = v := ⟨_, rfl⟩
  obtain ⟨lo, hlo⟩ : ∃ v, r.lo = v := ⟨_, rfl⟩
  obtain ⟨hi, hhi⟩ : ∃ v, r.hi = v := ⟨_, rfl⟩
  simp only [hv, hlo, hhi] at d0 d1 hpa hte hlohi
  obtain ⟨x, y, w, h, W, H, xs⟩ := r
  have hat := fun {i j : Nat} (hj : j < w) => val_at (x := x) (y := y) (h := h) (W := W) (H := H) (xs := xs) (i := i) hj
  rw [hv] at hat
  obtain ⟨o1, o2, o3, o4, o5⟩ := id hp
  obtain ⟨c, q, t, i⟩ := e
  obtain ⟨⟨q1, q2⟩, ⟨q3, q4⟩, ⟨q5, q6⟩, ⟨q7, q8⟩⟩ := id hE
  simp only [Rp.n] at o1 o2 o3 o4 o5 e3 d0 d1 d2 h0 hpa hte hlohi q1 q2 q3 q4 q5 q6 q7 q8
  have hwh : w * h ≤ 40000 := Nat.mul_le_mul (show w ≤ 200 by omega) (show h ≤ 200 by omega)
  change Tri Try.prog 38 [plV ⟨W, H, xs⟩ L 0, .agg [.int .i64 c, .int .i64 q, .int .i64 t, .int .i64 i], .agg [.int .i64 kd, .int .i64 x, .int .i64 y, .int .i64 w, .int .i64 h]] [some (.ro, L, .ints .i64 xs)] (postF fs38 ⟨⟨⟨x, y, w, h, W, H, xs⟩, L⟩, ⟨c, q, t, i⟩, kd⟩)
  refine tri_evS (hyp (l := [(47, ent47)]) (lp := []) ⟨e47, trivial⟩ trivial) Try.func38 comp38 (rs := [.tmp 6]) (by rfl) Try.ntmps38 17 ?_
  have z0 : (0 : Int).toNat = 0 := rfl
  have z1 : (1 : Int).toNat = 1 := rfl
  have z2 : (2 : Int).toNat = 2 := rfl
  have c1 : ¬ (0 : Int) = 2 := by decide
  have c2 : ¬ (0 : Int) = 1 := by decide
  have c3 : ¬ (1 : Int) = 2 := by decide
  have c4 : ¬ (1 : Int) = 0 := by decide
  have hk : kd = 0 ∨ kd = 1 ∨ kd = 2 := by omega
  rcases hk with rfl | rfl | rfl
  · obtain ⟨F, hF⟩ : ∃ F : Nat → Int, (fun k => hi - v k) = F := ⟨_, rfl⟩
    have hFk : ∀ k, F k = hi - v k := fun k => by rw [← hF]
    rw [hF] at d0 hpa
    have hbd := fun {k : Nat} => hpa (k := k)
    simp -implicitDefEqProofs only [push_cast, false_implies, reduceCtorEq, Classical.not_not, Nat.reduceAdd, Nat.reduceSub, Nat.reduceMul, Nat.reduceLeDiff, Nat.reduceLT, Nat.reduceEqDiff, Nat.reduceBEq, Nat.reduceBNe, Int.reduceNeg, Int.reduceToNat, Bool.or_false, Bool.false_or, Bool.or_true, Bool.true_or, BEq.rfl, Bool.not_eq_true, Bool.not_eq_false, decide_eq_true_eq, not_true_eq_false, not_false_eq_true, ite_true, ite_false, List.append_nil, and_assoc, Nat.mul_zero, Nat.zero_mul, ir38, fs47, plV, Int.toNat_natCast, hp, hG, hlo, hhi, c1, c2, c3, c4]
    intro X
    refine ⟨h0, ?_⟩
    refine evS_loopU (A := Nat) kp38_1 kl38_1 (fun i => [(9, .int .i64 (q + sumN F (i * w))), (10, .int .i64 ((y + i : Nat) : Int))]) (fun _ => []) (fun i => i ≤ h) (fun i => h - i) 0 (Nat.zero_le _) (Sub.pt ?_) ?_
    · simp -implicitDefEqProofs only [push_cast, false_implies, reduceCtorEq, Classical.not_not, Nat.reduceAdd, Nat.reduceSub, Nat.reduceMul, Nat.reduceLeDiff, Nat.reduceLT, Nat.reduceEqDiff, Nat.reduceBEq, Nat.reduceBNe, Int.reduceNeg, Int.reduceToNat, Bool.or_false, Bool.false_or, Bool.or_true, Bool.true_or, BEq.rfl, Bool.not_eq_true, Bool.not_eq_false, decide_eq_true_eq, not_true_eq_false, not_false_eq_true, ite_true, ite_false, List.append_nil, and_assoc, Nat.mul_zero, Nat.zero_mul, Nat.zero_mul, sumN]
    intro i (hi' : i ≤ h) K hK
    by_cases hi'' : i < h
    · simp -implicitDefEqProofs only [push_cast, false_implies, reduceCtorEq, Classical.not_not, Nat.reduceAdd, Nat.reduceSub, Nat.reduceMul, Nat.reduceLeDiff, Nat.reduceLT, Nat.reduceEqDiff, Nat.reduceBEq, Nat.reduceBNe, Int.reduceNeg, Int.reduceToNat, Bool.or_false, Bool.false_or, Bool.or_true, Bool.true_or, BEq.rfl, Bool.not_eq_true, Bool.not_eq_false, decide_eq_true_eq, not_true_eq_false, not_false_eq_true, ite_true, ite_false, List.append_nil, and_assoc, Nat.mul_zero, Nat.zero_mul, b38_1, r38_3]
      repeat (refine And.intro (by first | omega | trivial | (intros; omega)) ?_)
      refine ⟨fun _ => ?_, fun h => by omega⟩
      refine evS_loopU (A := Nat) kp38_2 kl38_2 (fun j => [(9, .int .i64 (q + sumN F (i * w + j))), (11, .int .i64 ((x + j : Nat) : Int))]) (fun _ => []) (fun j => j ≤ w) (fun j => w - j) 0 (Nat.zero_le _) (Sub.pt ?_) ?_
      · simp -implicitDefEqProofs only [push_cast, false_implies, reduceCtorEq, Classical.not_not, Nat.reduceAdd, Nat.reduceSub, Nat.reduceMul, Nat.reduceLeDiff, Nat.reduceLT, Nat.reduceEqDiff, Nat.reduceBEq, Nat.reduceBNe, Int.reduceNeg, Int.reduceToNat, Bool.or_false, Bool.false_or, Bool.or_true, Bool.true_or, BEq.rfl, Bool.not_eq_true, Bool.not_eq_false, decide_eq_true_eq, not_true_eq_false, not_false_eq_true, ite_true, ite_false, List.append_nil, and_assoc, Nat.mul_zero, Nat.zero_mul, Nat.add_zero]
      intro j (hj : j ≤ w) K2 hK2
      by_cases hj' : j < w
      · have hlt : (y + i + 1) * W ≤ H * W := Nat.mul_le_mul_right W (by omega)
        rw [Nat.add_mul (y + i) 1] at hlt
        have hix : (y + i) * W + (x + j) < xs.length := by omega
        have hm := mul_bd (a := ((y + i : Nat) : Int)) (b := (W : Int)) (A := 200) (B := 200) (by omega) (by omega) (by omega) (by omega)
        have eidx : ((y : Int) + i) * W + (x + j) = (((y + i) * W + (x + j) : Nat) : Int) := by simp
        have hr := (hat (i := i) hj').symm
        push_cast at hm
        obtain ⟨ix, hixx⟩ : ∃ ix, (y + i) * W + (x + j) = ix := ⟨_, rfl⟩
        rw [hixx] at hix eidx hr
        have hvw : (i + 1) * w ≤ h * w := Nat.mul_le_mul_right _ hi''
        rw [Nat.add_mul, Nat.mul_comm h w] at hvw
        have hkn : i * w + j < w * h := by omega
        obtain ⟨kk, hkk⟩ : ∃ kk, i * w + j = kk := ⟨_, rfl⟩
        have hkk1 : i * w + (j + 1) = kk + 1 := by omega
        rw [hkk] at hr hkn
        obtain ⟨u1, u2⟩ := hbd (k := kk) (by omega)
        obtain ⟨w1, w2, w3, w4⟩ := hlohi hkn
        have m1 : sumN F (kk + 1) = sumN F kk + F kk := rfl
        have m2 := hFk kk
        obtain ⟨V, hV⟩ : ∃ V, v kk = V := ⟨_, rfl⟩
        obtain ⟨S0, hS0⟩ : ∃ V, sumN F kk = V := ⟨_, rfl⟩
        rw [hV] at hr m2 w2 w3
        rw [m2, hS0] at m1
        rw [hS0] at u1 u2
        simp only [hkk, hS0]
        simp -implicitDefEqProofs only [push_cast, false_implies, reduceCtorEq, Classical.not_not, Nat.reduceAdd, Nat.reduceSub, Nat.reduceMul, Nat.reduceLeDiff, Nat.reduceLT, Nat.reduceEqDiff, Nat.reduceBEq, Nat.reduceBNe, Int.reduceNeg, Int.reduceToNat, Bool.or_false, Bool.false_or, Bool.or_true, Bool.true_or, BEq.rfl, Bool.not_eq_true, Bool.not_eq_false, decide_eq_true_eq, not_true_eq_false, not_false_eq_true, ite_true, ite_false, List.append_nil, and_assoc, Nat.mul_zero, Nat.zero_mul, b38_2, eidx, hr, c1, c2, c3, c4]
        refine And.intro (by omega) (And.intro (by omega) ?_)
        refine ⟨fun _ => ?_, fun h => by omega⟩
        repeat (refine And.intro (by first | omega | trivial | (intros; omega)) ?_)
        refine hK2 (j + 1) (show j + 1 ≤ w from hj') (show w - (j + 1) < w - j by omega) _ _ (Sub.pt ?_)
        simp only [hkk1]
        simp -implicitDefEqProofs only [push_cast, false_implies, reduceCtorEq, Classical.not_not, Nat.reduceAdd, Nat.reduceSub, Nat.reduceMul, Nat.reduceLeDiff, Nat.reduceLT, Nat.reduceEqDiff, Nat.reduceBEq, Nat.reduceBNe, Int.reduceNeg, Int.reduceToNat, Bool.or_false, Bool.false_or, Bool.or_true, Bool.true_or, BEq.rfl, Bool.not_eq_true, Bool.not_eq_false, decide_eq_true_eq, not_true_eq_false, not_false_eq_true, ite_true, ite_false, List.append_nil, and_assoc, Nat.mul_zero, Nat.zero_mul, m1, Int.add_assoc, Int.add_sub_assoc]
      · obtain rfl : j = w := by omega
        clear hK2
        simp -implicitDefEqProofs only [push_cast, false_implies, reduceCtorEq, Classical.not_not, Nat.reduceAdd, Nat.reduceSub, Nat.reduceMul, Nat.reduceLeDiff, Nat.reduceLT, Nat.reduceEqDiff, Nat.reduceBEq, Nat.reduceBNe, Int.reduceNeg, Int.reduceToNat, Bool.or_false, Bool.false_or, Bool.or_true, Bool.true_or, BEq.rfl, Bool.not_eq_true, Bool.not_eq_false, decide_eq_true_eq, not_true_eq_false, not_false_eq_true, ite_true, ite_false, List.append_nil, and_assoc, Nat.mul_zero, Nat.zero_mul, b38_2, Int.lt_irrefl, true_implies, true_and]
        repeat (refine And.intro (by first | omega | trivial | (intros; omega)) ?_)
        refine hK (i + 1) (show i + 1 ≤ h from hi'') (show h - (i + 1) < h - i by omega) _ _ (Sub.pt ?_)
        simp -implicitDefEqProofs only [push_cast, false_implies, reduceCtorEq, Classical.not_not, Nat.reduceAdd, Nat.reduceSub, Nat.reduceMul, Nat.reduceLeDiff, Nat.reduceLT, Nat.reduceEqDiff, Nat.reduceBEq, Nat.reduceBNe, Int.reduceNeg, Int.reduceToNat, Bool.or_false, Bool.false_or, Bool.or_true, Bool.true_or, BEq.rfl, Bool.not_eq_true, Bool.not_eq_false, decide_eq_true_eq, not_true_eq_false, not_false_eq_true, ite_true, ite_false, List.append_nil, and_assoc, Nat.mul_zero, Nat.zero_mul, Nat.add_mul, Nat.one_mul, Int.add_assoc]
    · obtain rfl : i = h := by omega
      clear hK
      have ec : i * w = w * i := Nat.mul_comm _ _
      simp -implicitDefEqProofs only [push_cast, false_implies, reduceCtorEq, Classical.not_not, Nat.reduceAdd, Nat.reduceSub, Nat.reduceMul, Nat.reduceLeDiff, Nat.reduceLT, Nat.reduceEqDiff, Nat.reduceBEq, Nat.reduceBNe, Int.reduceNeg, Int.reduceToNat, Bool.or_false, Bool.false_or, Bool.or_true, Bool.true_or, BEq.rfl, Bool.not_eq_true, Bool.not_eq_false, decide_eq_true_eq, not_true_eq_false, not_false_eq_true, ite_true, ite_false, List.append_nil, and_assoc, Nat.mul_zero, Nat.zero_mul, b38_1, r38_4, Int.lt_irrefl, true_implies, true_and]
      repeat (refine And.intro (by first | omega | trivial | (intros; omega)) ?_)
      refine postF.mk' (fun _ => default) [some 0] ?_
      simp -implicitDefEqProofs only [push_cast, false_implies, reduceCtorEq, Classical.not_not, Nat.reduceAdd, Nat.reduceSub, Nat.reduceMul, Nat.reduceLeDiff, Nat.reduceLT, Nat.reduceEqDiff, Nat.reduceBEq, Nat.reduceBNe, Int.reduceNeg, Int.reduceToNat, Bool.or_false, Bool.false_or, Bool.or_true, Bool.true_or, BEq.rfl, Bool.not_eq_true, Bool.not_eq_false, decide_eq_true_eq, not_true_eq_false, not_false_eq_true, ite_true, ite_false, List.append_nil, and_assoc, Nat.mul_zero, Nat.zero_mul, fs38, z0, d0, ec]
  · obtain ⟨F, hF⟩ : ∃ F : Nat → Int, (fun k => min (v k - lo) (hi - v k)) = F := ⟨_, rfl⟩
    have hFk : ∀ k, F k = min (v k - lo) (hi - v k) := fun k => by rw [← hF]
    rw [hF] at d1 hte
    have hbd := fun {k : Nat} => hte (k := k)
    simp -implicitDefEqProofs only [push_cast, false_implies, reduceCtorEq, Classical.not_not, Nat.reduceAdd, Nat.reduceSub, Nat.reduceMul, Nat.reduceLeDiff, Nat.reduceLT, Nat.reduceEqDiff, Nat.reduceBEq, Nat.reduceBNe, Int.reduceNeg, Int.reduceToNat, Bool.or_false, Bool.false_or, Bool.or_true, Bool.true_or, BEq.rfl, Bool.not_eq_true, Bool.not_eq_false, decide_eq_true_eq, not_true_eq_false, not_false_eq_true, ite_true, ite_false, List.append_nil, and_assoc, Nat.mul_zero, Nat.zero_mul, ir38, fs47, plV, Int.toNat_natCast, hp, hG, hlo, hhi, c1, c2, c3, c4]
    intro X
    refine ⟨h0, ?_⟩
    refine evS_loopU (A := Nat) kp38_1 kl38_1 (fun i => [(9, .int .i64 (t + sumN F (i * w))), (10, .int .i64 ((y + i : Nat) : Int))]) (fun _ => []) (fun i => i ≤ h) (fun i => h - i) 0 (Nat.zero_le _) (Sub.pt ?_) ?_
    · simp -implicitDefEqProofs only [push_cast, false_implies, reduceCtorEq, Classical.not_not, Nat.reduceAdd, Nat.reduceSub, Nat.reduceMul, Nat.reduceLeDiff, Nat.reduceLT, Nat.reduceEqDiff, Nat.reduceBEq, Nat.reduceBNe, Int.reduceNeg, Int.reduceToNat, Bool.or_false, Bool.false_or, Bool.or_true, Bool.true_or, BEq.rfl, Bool.not_eq_true, Bool.not_eq_false, decide_eq_true_eq, not_true_eq_false, not_false_eq_true, ite_true, ite_false, List.append_nil, and_assoc, Nat.mul_zero, Nat.zero_mul, Nat.zero_mul, sumN]
    intro i (hi' : i ≤ h) K hK
    by_cases hi'' : i < h
    · simp -implicitDefEqProofs only [push_cast, false_implies, reduceCtorEq, Classical.not_not, Nat.reduceAdd, Nat.reduceSub, Nat.reduceMul, Nat.reduceLeDiff, Nat.reduceLT, Nat.reduceEqDiff, Nat.reduceBEq, Nat.reduceBNe, Int.reduceNeg, Int.reduceToNat, Bool.or_false, Bool.false_or, Bool.or_true, Bool.true_or, BEq.rfl, Bool.not_eq_true, Bool.not_eq_false, decide_eq_true_eq, not_true_eq_false, not_false_eq_true, ite_true, ite_false, List.append_nil, and_assoc, Nat.mul_zero, Nat.zero_mul, b38_1, r38_3]
      repeat (refine And.intro (by first | omega | trivial | (intros; omega)) ?_)
      refine ⟨fun _ => ?_, fun h => by omega⟩
      refine evS_loopU (A := Nat) kp38_2 kl38_2 (fun j => [(9, .int .i64 (t + sumN F (i * w + j))), (11, .int .i64 ((x + j : Nat) : Int))]) (fun _ => []) (fun j => j ≤ w) (fun j => w - j) 0 (Nat.zero_le _) (Sub.pt ?_) ?_
      · simp -implicitDefEqProofs only [push_cast, false_implies, reduceCtorEq, Classical.not_not, Nat.reduceAdd, Nat.reduceSub, Nat.reduceMul, Nat.reduceLeDiff, Nat.reduceLT, Nat.reduceEqDiff, Nat.reduceBEq, Nat.reduceBNe, Int.reduceNeg, Int.reduceToNat, Bool.or_false, Bool.false_or, Bool.or_true, Bool.true_or, BEq.rfl, Bool.not_eq_true, Bool.not_eq_false, decide_eq_true_eq, not_true_eq_false, not_false_eq_true, ite_true, ite_false, List.append_nil, and_assoc, Nat.mul_zero, Nat.zero_mul, Nat.add_zero]
      intro j (hj : j ≤ w) K2 hK2
      by_cases hj' : j < w
      · have hlt : (y + i + 1) * W ≤ H * W := Nat.mul_le_mul_right W (by omega)
        rw [Nat.add_mul (y + i) 1] at hlt
        have hix : (y + i) * W + (x + j) < xs.length := by omega
        have hm := mul_bd (a := ((y + i : Nat) : Int)) (b := (W : Int)) (A := 200) (B := 200) (by omega) (by omega) (by omega) (by omega)
        have eidx : ((y : Int) + i) * W + (x + j) = (((y + i) * W + (x + j) : Nat) : Int) := by simp
        have hr := (hat (i := i) hj').symm
        push_cast at hm
        obtain ⟨ix, hixx⟩ : ∃ ix, (y + i) * W + (x + j) = ix := ⟨_, rfl⟩
        rw [hixx] at hix eidx hr
        have hvw : (i + 1) * w ≤ h * w := Nat.mul_le_mul_right _ hi''
        rw [Nat.add_mul, Nat.mul_comm h w] at hvw
        have hkn : i * w + j < w * h := by omega
        obtain ⟨kk, hkk⟩ : ∃ kk, i * w + j = kk := ⟨_, rfl⟩
        have hkk1 : i * w + (j + 1) = kk + 1 := by omega
        rw [hkk] at hr hkn
        obtain ⟨u1, u2⟩ := hbd (k := kk) (by omega)
        obtain ⟨w1, w2, w3, w4⟩ := hlohi hkn
        have m1 : sumN F (kk + 1) = sumN F kk + F kk := rfl
        have m2 := hFk kk
        obtain ⟨V, hV⟩ : ∃ V, v kk = V := ⟨_, rfl⟩
        obtain ⟨S0, hS0⟩ : ∃ V, sumN F kk = V := ⟨_, rfl⟩
        rw [hV] at hr m2 w2 w3
        rw [m2, hS0] at m1
        rw [hS0] at u1 u2
        simp only [hkk, hS0]
        simp -implicitDefEqProofs only [push_cast, false_implies, reduceCtorEq, Classical.not_not, Nat.reduceAdd, Nat.reduceSub, Nat.reduceMul, Nat.reduceLeDiff, Nat.reduceLT, Nat.reduceEqDiff, Nat.reduceBEq, Nat.reduceBNe, Int.reduceNeg, Int.reduceToNat, Bool.or_false, Bool.false_or, Bool.or_true, Bool.true_or, BEq.rfl, Bool.not_eq_true, Bool.not_eq_false, decide_eq_true_eq, not_true_eq_false, not_false_eq_true, ite_true, ite_false, List.append_nil, and_assoc, Nat.mul_zero, Nat.zero_mul, b38_2, eidx, hr, c1, c2, c3, c4]
        refine And.intro (by omega) (And.intro (by omega) ?_)
        refine ⟨fun _ => ?_, fun h => by omega⟩
        repeat (refine And.intro (by first | omega | trivial | (intros; omega)) ?_)
        refine hK2 (j + 1) (show j + 1 ≤ w from hj') (show w - (j + 1) < w - j by omega) _ _ (Sub.pt ?_)
        simp only [hkk1]
        simp -implicitDefEqProofs only [push_cast, false_implies, reduceCtorEq, Classical.not_not, Nat.reduceAdd, Nat.reduceSub, Nat.reduceMul, Nat.reduceLeDiff, Nat.reduceLT, Nat.reduceEqDiff, Nat.reduceBEq, Nat.reduceBNe, Int.reduceNeg, Int.reduceToNat, Bool.or_false, Bool.false_or, Bool.or_true, Bool.true_or, BEq.rfl, Bool.not_eq_true, Bool.not_eq_false, decide_eq_true_eq, not_true_eq_false, not_false_eq_true, ite_true, ite_false, List.append_nil, and_assoc, Nat.mul_zero, Nat.zero_mul, m1, Int.add_assoc, Int.add_sub_assoc]
      · obtain rfl : j = w := by omega
        clear hK2
        simp -implicitDefEqProofs only [push_cast, false_implies, reduceCtorEq, Classical.not_not, Nat.reduceAdd, Nat.reduceSub, Nat.reduceMul, Nat.reduceLeDiff, Nat.reduceLT, Nat.reduceEqDiff, Nat.reduceBEq, Nat.reduceBNe, Int.reduceNeg, Int.reduceToNat, Bool.or_false, Bool.false_or, Bool.or_true, Bool.true_or, BEq.rfl, Bool.not_eq_true, Bool.not_eq_false, decide_eq_true_eq, not_true_eq_false, not_false_eq_true, ite_true, ite_false, List.append_nil, and_assoc, Nat.mul_zero, Nat.zero_mul, b38_2, Int.lt_irrefl, true_implies, true_and]
        repeat (refine And.intro (by first | omega | trivial | (intros; omega)) ?_)
        refine hK (i + 1) (show i + 1 ≤ h from hi'') (show h - (i + 1) < h - i by omega) _ _ (Sub.pt ?_)
        simp -implicitDefEqProofs only [push_cast, false_implies, reduceCtorEq, Classical.not_not, Nat.reduceAdd, Nat.reduceSub, Nat.reduceMul, Nat.reduceLeDiff, Nat.reduceLT, Nat.reduceEqDiff, Nat.reduceBEq, Nat.reduceBNe, Int.reduceNeg, Int.reduceToNat, Bool.or_false, Bool.false_or, Bool.or_true, Bool.true_or, BEq.rfl, Bool.not_eq_true, Bool.not_eq_false, decide_eq_true_eq, not_true_eq_false, not_false_eq_true, ite_true, ite_false, List.append_nil, and_assoc, Nat.mul_zero, Nat.zero_mul, Nat.add_mul, Nat.one_mul, Int.add_assoc]
    · obtain rfl : i = h := by omega
      clear hK
      have ec : i * w = w * i := Nat.mul_comm _ _
      simp -implicitDefEqProofs only [push_cast, false_implies, reduceCtorEq, Classical.not_not, Nat.reduceAdd, Nat.reduceSub, Nat.reduceMul, Nat.reduceLeDiff, Nat.reduceLT, Nat.reduceEqDiff, Nat.reduceBEq, Nat.reduceBNe, Int.reduceNeg, Int.reduceToNat, Bool.or_false, Bool.false_or, Bool.or_true, Bool.true_or, BEq.rfl, Bool.not_eq_true, Bool.not_eq_false, decide_eq_true_eq, not_true_eq_false, not_false_eq_true, ite_true, ite_false, List.append_nil, and_assoc, Nat.mul_zero, Nat.zero_mul, b38_1, r38_4, Int.lt_irrefl, true_implies, true_and]
      repeat (refine And.intro (by first | omega | trivial | (intros; omega)) ?_)
      refine postF.mk' (fun _ => default) [some 0] ?_
      simp -implicitDefEqProofs only [push_cast, false_implies, reduceCtorEq, Classical.not_not, Nat.reduceAdd, Nat.reduceSub, Nat.reduceMul, Nat.reduceLeDiff, Nat.reduceLT, Nat.reduceEqDiff, Nat.reduceBEq, Nat.reduceBNe, Int.reduceNeg, Int.reduceToNat, Bool.or_false, Bool.false_or, Bool.or_true, Bool.true_or, BEq.rfl, Bool.not_eq_true, Bool.not_eq_false, decide_eq_true_eq, not_true_eq_false, not_false_eq_true, ite_true, ite_false, List.append_nil, and_assoc, Nat.mul_zero, Nat.zero_mul, fs38, z1, d1, ec]
  · have p1 := mul_bd (a := i) (b := (w : Int)) (A := 100000) (B := 200) (by omega) (by omega) (by omega) (by omega)
    have p2 := mul_bd (a := i * (w : Int)) (b := (h : Int)) (A := 20000000) (B := 200) (by omega) (by omega) (by omega) (by omega)
    simp -implicitDefEqProofs only [push_cast, false_implies, reduceCtorEq, Classical.not_not, Nat.reduceAdd, Nat.reduceSub, Nat.reduceMul, Nat.reduceLeDiff, Nat.reduceLT, Nat.reduceEqDiff, Nat.reduceBEq, Nat.reduceBNe, Int.reduceNeg, Int.reduceToNat, Bool.or_false, Bool.false_or, Bool.or_true, Bool.true_or, BEq.rfl, Bool.not_eq_true, Bool.not_eq_false, decide_eq_true_eq, not_true_eq_false, not_false_eq_true, ite_true, ite_false, List.append_nil, and_assoc, Nat.mul_zero, Nat.zero_mul, ir38, plV]
    intro X
    repeat (refine And.intro (by first | omega | trivial | (intros; omega)) ?_)
    refine postF.mk' (fun _ => default) [some 0] ?_
    simp -implicitDefEqProofs only [push_cast, false_implies, reduceCtorEq, Classical.not_not, Nat.reduceAdd, Nat.reduceSub, Nat.reduceMul, Nat.reduceLeDiff, Nat.reduceLT, Nat.reduceEqDiff, Nat.reduceBEq, Nat.reduceBNe, Int.reduceNeg, Int.reduceToNat, Bool.or_false, Bool.false_or, Bool.or_true, Bool.true_or, BEq.rfl, Bool.not_eq_true, Bool.not_eq_false, decide_eq_true_eq, not_true_eq_false, not_false_eq_true, ite_true, ite_false, List.append_nil, and_assoc, Nat.mul_zero, Nat.zero_mul, fs38, z2, d2]
def ent38 : Entry := spOf fs38 inv38
theorem e38 : EntryOk Try.prog 38 ent38 := entry_of ok38 inv38
@[push_cast] theorem ent38_app (us : List SV) (look : Look) (x : Nat → Xf.Loc) (k : Nat) : ent38 us look x k = spOf fs38 inv38 us look x k := rfl
def b62_1 : IR :=
  .seq (.seq (.reg false [⟨some 65, none, ⟨[], []⟩, .mov (.t 7)⟩,
    ⟨some 66, none, ⟨[], []⟩, .mov (.t 5)⟩,
    ⟨some 67, none, ⟨[], []⟩, .len (.t 66)⟩,
    ⟨some 68, none, ⟨[], []⟩, .bin 0 .lss (.t 65) (.t 67)⟩] [65, 66, 67] []) (.cond (.t 68) (.skip) (.exit 0))) (.seq (.block 1 (.seq (.reg false [⟨some 71, none, ⟨[], []⟩, .mov (.t 5)⟩,
    ⟨some 72, none, ⟨[], []⟩, .mov (.t 7)⟩,
    ⟨some 73, none, ⟨[], []⟩, .idxS (.t 71) (.t 72) 5⟩,
    ⟨some 74, none, ⟨[], []⟩, .fld (.t 73) 3⟩,
    ⟨some 75, none, ⟨[], []⟩, .ld true none 0 0 (.t 74)⟩,
    ⟨some 76, none, ⟨[], []⟩, .bin 0 .gtr (.t 75) (.k (.int .i64 0))⟩,
    ⟨some 77, none, ⟨[], []⟩, .mov (.t 76)⟩,
    ⟨some 78, some (77, true), ⟨[], []⟩, .mov (.t 5)⟩,
    ⟨some 79, some (77, true), ⟨[], []⟩, .mov (.t 7)⟩,
    ⟨some 80, some (77, true), ⟨[], []⟩, .idxS (.t 78) (.t 79) 5⟩,
    ⟨some 81, some (77, true), ⟨[], []⟩, .fld (.t 80) 4⟩,
    ⟨some 82, some (77, true), ⟨[], []⟩, .ld true none 0 0 (.t 81)⟩,
    ⟨some 83, some (77, true), ⟨[], []⟩, .bin 0 .gtr (.t 82) (.k (.int .i64 0))⟩,
    ⟨some 84, none, ⟨[], []⟩, .pick (.t 77) (.t 83) (.k (.bool false))⟩] [68, 71, 72, 73, 74, 75, 76, 77, 78, 79, 80, 81, 82, 83] []) (.cond (.t 84) (.reg false [⟨some 85, none, ⟨[], []⟩, .mov (.t 6)⟩,
    ⟨some 86, none, ⟨[], []⟩, .mov (.t 5)⟩,
    ⟨some 87, none, ⟨[], []⟩, .mov (.t 7)⟩,
    ⟨some 88, none, ⟨[], []⟩, .idxS (.t 86) (.t 87) 5⟩,
    ⟨some 89, none, ⟨[], []⟩, .ld true (some 5) 0 0 (.t 88)⟩,
    ⟨some 90, none, ⟨[], []⟩, .brecs 12 5 .i64 [.t 89]⟩,
    ⟨some 91, none, ⟨[], []⟩, .app 13 5 40 (.t 85) (.t 90)⟩,
    ⟨some 6, none, ⟨[], []⟩, .mov (.t 91)⟩] [84, 85, 86, 87, 88, 89, 90, 91] []) (.skip)))) (.reg false [⟨some 69, none, ⟨[], []⟩, .mov (.t 7)⟩,
    ⟨some 70, none, ⟨[], []⟩, .bin 0 .add (.t 69) (.k (.int .i64 1))⟩,
    ⟨some 7, none, ⟨[], []⟩, .mov (.t 70)⟩] [69, 70, 84] []))
def r62_2 : IR :=
  .seq (.reg false [⟨some 92, none, ⟨[], []⟩, .mov (.t 6)⟩,
    ⟨some 2, none, ⟨[], []⟩, .mov (.t 92)⟩] [5, 6, 7, 92] []) (.ret)
def ir62 : IR :=
  .seq (.reg false [⟨some 1, none, ⟨[], []⟩, .box 10 (.t 0)⟩,
    ⟨some 2, none, ⟨[], []⟩, .mov (.k nilSV)⟩] [0, 2] []) (.seq (.reg true [⟨some 8, none, ⟨[], []⟩, .fld (.t 1) 3⟩,
    ⟨some 9, none, ⟨[], []⟩, .ld false none 0 0 (.t 8)⟩,
    ⟨some 10, none, ⟨[], []⟩, .bin 0 .add (.t 9) (.k (.int .i64 1))⟩,
    ⟨some 11, none, ⟨[], []⟩, .bin 0 .quo (.t 10) (.k (.int .i64 2))⟩,
    ⟨some 12, none, ⟨[], []⟩, .fld (.t 1) 4⟩,
    ⟨some 13, none, ⟨[], []⟩, .ld false none 0 0 (.t 12)⟩,
    ⟨some 14, none, ⟨[], []⟩, .bin 0 .add (.t 13) (.k (.int .i64 1))⟩,
    ⟨some 15, none, ⟨[], []⟩, .bin 0 .quo (.t 14) (.k (.int .i64 2))⟩,
    ⟨some 3, none, ⟨[], []⟩, .mov (.t 11)⟩,
    ⟨some 4, none, ⟨[], []⟩, .mov (.t 15)⟩] [8, 9, 10, 11, 12, 13, 14, 15] []) (.seq (.reg false [⟨some 16, none, ⟨[], []⟩, .fld (.t 1) 1⟩,
    ⟨some 17, none, ⟨[], []⟩, .ld false none 0 0 (.t 16)⟩,
    ⟨some 18, none, ⟨[], []⟩, .fld (.t 1) 2⟩,
    ⟨some 19, none, ⟨[], []⟩, .ld false none 0 0 (.t 18)⟩,
    ⟨some 20, none, ⟨[], []⟩, .mov (.t 3)⟩,
    ⟨some 21, none, ⟨[], []⟩, .mov (.t 4)⟩,
    ⟨some 22, none, ⟨[], []⟩, .build [.int .i64 0, .int .i64 0, .int .i64 0, .int .i64 0, .int .i64 0] [(1, 1, .t 17), (2, 1, .t 19), (3, 1, .t 20), (4, 1, .t 21)]⟩,
    ⟨some 23, none, ⟨[], []⟩, .fld (.t 1) 1⟩,
    ⟨some 24, none, ⟨[], []⟩, .ld false none 0 0 (.t 23)⟩,
    ⟨some 25, none, ⟨[], []⟩, .mov (.t 3)⟩,
    ⟨some 26, none, ⟨[], []⟩, .bin 0 .add (.t 24) (.t 25)⟩,
    ⟨some 27, none, ⟨[], []⟩, .fld (.t 1) 2⟩,
    ⟨some 28, none, ⟨[], []⟩, .ld false none 0 0 (.t 27)⟩,
    ⟨some 29, none, ⟨[], []⟩, .fld (.t 1) 3⟩,
    ⟨some 30, none, ⟨[], []⟩, .ld false none 0 0 (.t 29)⟩,
    ⟨some 31, none, ⟨[], []⟩, .mov (.t 3)⟩,
    ⟨some 32, none, ⟨[], []⟩, .bin 0 .sub (.t 30) (.t 31)⟩,
    ⟨some 33, none, ⟨[], []⟩, .mov (.t 4)⟩,
    ⟨some 34, none, ⟨[], []⟩, .build [.int .i64 0, .int .i64 0, .int .i64 0, .int .i64 0, .int .i64 0] [(1, 1, .t 26), (2, 1, .t 28), (3, 1, .t 32), (4, 1, .t 33)]⟩,
    ⟨some 35, none, ⟨[], []⟩, .fld (.t 1) 1⟩,
    ⟨some 36, none, ⟨[], []⟩, .ld false none 0 0 (.t 35)⟩,
    ⟨some 37, none, ⟨[], []⟩, .fld (.t 1) 2⟩,
    ⟨some 38, none, ⟨[], []⟩, .ld false none 0 0 (.t 37)⟩,
    ⟨some 39, none, ⟨[], []⟩, .mov (.t 4)⟩,
    ⟨some 40, none, ⟨[], []⟩, .bin 0 .add (.t 38) (.t 39)⟩,
    ⟨some 41, none, ⟨[], []⟩, .mov (.t 3)⟩,
    ⟨some 42, none, ⟨[], []⟩, .fld (.t 1) 4⟩,
    ⟨some 43, none, ⟨[], []⟩, .ld false none 0 0 (.t 42)⟩,
    ⟨some 44, none, ⟨[], []⟩, .mov (.t 4)⟩,
    ⟨some 45, none, ⟨[], []⟩, .bin 0 .sub (.t 43) (.t 44)⟩,
    ⟨some 46, none, ⟨[], []⟩, .build [.int .i64 0, .int .i64 0, .int .i64 0, .int .i64 0, .int .i64 0] [(1, 1, .t 36), (2, 1, .t 40), (3, 1, .t 41), (4, 1, .t 45)]⟩,
    ⟨some 47, none, ⟨[], []⟩, .fld (.t 1) 1⟩,
    ⟨some 48, none, ⟨[], []⟩, .ld false none 0 0 (.t 47)⟩,
    ⟨some 49, none, ⟨[], []⟩, .mov (.t 3)⟩,
    ⟨some 50, none, ⟨[], []⟩, .bin 0 .add (.t 48) (.t 49)⟩,
    ⟨some 51, none, ⟨[], []⟩, .fld (.t 1) 2⟩,
    ⟨some 52, none, ⟨[], []⟩, .ld false none 0 0 (.t 51)⟩,
    ⟨some 53, none, ⟨[], []⟩, .mov (.t 4)⟩,
    ⟨some 54, none, ⟨[], []⟩, .bin 0 .add (.t 52) (.t 53)⟩,
    ⟨some 55, none, ⟨[], []⟩, .fld (.t 1) 3⟩,
    ⟨some 56, none, ⟨[], []⟩, .ld false none 0 0 (.t 55)⟩,
    ⟨some 57, none, ⟨[], []⟩, .mov (.t 3)⟩,
    ⟨some 58, none, ⟨[], []⟩, .bin 0 .sub (.t 56) (.t 57)⟩,
    ⟨some 59, none, ⟨[], []⟩, .fld (.t 1) 4⟩,
    ⟨some 60, none, ⟨[], []⟩, .ld false none 0 0 (.t 59)⟩,
    ⟨some 61, none, ⟨[], []⟩, .mov (.t 4)⟩,
    ⟨some 62, none, ⟨[], []⟩, .bin 0 .sub (.t 60) (.t 61)⟩,
    ⟨some 63, none, ⟨[], []⟩, .build [.int .i64 0, .int .i64 0, .int .i64 0, .int .i64 0, .int .i64 0] [(1, 1, .t 50), (2, 1, .t 54), (3, 1, .t 58), (4, 1, .t 62)]⟩,
    ⟨some 64, none, ⟨[], []⟩, .brecs 11 5 .i64 [.t 22, .t 34, .t 46, .t 63]⟩,
    ⟨some 5, none, ⟨[], []⟩, .mov (.t 64)⟩] [1, 3, 4, 16, 17, 18, 19, 20, 21, 22, 23, 24, 25, 26, 27, 28, 29, 30, 31, 32, 33, 34, 35, 36, 37, 38, 39, 40, 41, 42, 43, 44, 45, 46, 47, 48, 49, 50, 51, 52, 53, 54, 55, 56, 57, 58, 59, 60, 61, 62, 63, 64] []) (.seq (.reg false [⟨some 6, none, ⟨[], []⟩, .mov (.k nilSV)⟩] [] []) (.seq (.seq (.reg false [⟨some 7, none, ⟨[], []⟩, .mov (.k (.int .i64 0))⟩] [] []) (.block 0 (.loop b62_1))) (r62_2)))))
def kp62_1 : List Nat := [5, 6, 7]
def kl62_1 : List Nat := [12, 13]
attribute [push_cast] kp62_1 kl62_1
set_option maxRecDepth 4000 in
theorem comp62 : (Try.f62.body.bind fun c => compC tab isP chkAll ir62 c) = some ir62 := by kernel_rfl
def pt0 (q : Rt) : Pt := ⟨0, q.x, q.y, q.w, q.h⟩
structure RqA where
  k : Int
  x : Rt
def fs62 : FS where
  A := RqA
  args := fun a => [.agg [.int .i64 a.k, .int .i64 a.x.x, .int .i64 a.x.y, .int .i64 a.x.w, .int .i64 a.x.h]]
  mem := fun _ => []
  pre := fun a => a.x.ok2
  res := fun a x => .sl 0 (x 0) (esz 5 (qs a.x).length) 0 (qs a.x).length
  out := fun _ _ => []
  new := fun a x => [(x 0, .recs 5 true [] (((qs a.x).map pt0).map Pt.rc))]
def inv62 : List SV → Look → Option (RqA × List Nat)
  | [.agg [.int .i64 k, .int .i64 x, .int .i64 y, .int .i64 w, .int .i64 h]], look => some (⟨k, ⟨x, y, w, h⟩⟩, [])
  | _, _ => none
attribute [push_cast] inv62
theorem rdPt_map {Q : List Rt} {k : Nat} (h : k < Q.length) : rdPt (Q.map pt0) k = pt0 (rdRt Q (k : Int)) := by
  simp [rdPt, rdRt, h]
theorem kept_step {Q : List Rt} {k : Nat} (h : k < Q.length) : keptRt (Q.take (k + 1)) = keptRt (Q.take k) ++ (if (rdRt Q (k : Int)).gone then [] else [rdRt Q (k : Int)]) := by
  rw [List.take_add_one, rdRt_nat h, List.getElem?_eq_getElem h]
  unfold keptRt
  rw [List.filter_append]
  congr 1
  simp only [Option.toList_some, List.filter_cons, List.filter_nil]
  cases (Q[k]).gone <;> rfl
set_option maxHeartbeats 1000000 in
theorem ok62 : FSOk Try.prog 62 fs62 := by
  refine ⟨⟨_, Try.func62, by kernel_rfl, by kernel_rfl⟩, fun a => ⟨by simp [fs62, push_cast, noMine, argOwn, Chunk.frArg], by simp [fs62, push_cast, outOk, Chunk.ext], fun x => .inl (by simp [fs62, push_cast, frNew, frOut, Chunk.fr])⟩, fun a hp => ?_⟩
  obtain ⟨kd, r⟩ := a
  change r.ok2 at hp
  have hok := qd_ok hp
  obtain ⟨Q, hQ⟩ : ∃ Q, qd r = Q := ⟨_, rfl⟩
  have hQ4 : Q.length = 4 := by rw [← hQ]; rfl
  have hqs : qs r = keptRt Q := by unfold qs; rw [hQ]
  rw [hQ] at hok
  obtain ⟨x, y, w, h⟩ := r
  obtain ⟨h1, h2, h3, h4, h5, h6, h7, h8⟩ := id hp
  simp only at h1 h2 h3 h4 h5 h6 h7 h8
  change Tri Try.prog 62 [.agg [.int .i64 kd, .int .i64 x, .int .i64 y, .int .i64 w, .int .i64 h]] [] (postF fs62 ⟨kd, ⟨x, y, w, h⟩⟩)
  refine tri_evS (hyp (l := []) (lp := []) trivial trivial) Try.func62 comp62 (rs := [.tmp 2]) (by rfl) Try.ntmps62 14 ?_
  have hrec : ([[.int .i64 0, .int .i64 x, .int .i64 y, .int .i64 ((w + 1) / 2), .int .i64 ((h + 1) / 2)], [.int .i64 0, .int .i64 (x + (w + 1) / 2), .int .i64 y, .int .i64 (w - (w + 1) / 2), .int .i64 ((h + 1) / 2)], [.int .i64 0, .int .i64 x, .int .i64 (y + (h + 1) / 2), .int .i64 ((w + 1) / 2), .int .i64 (h - (h + 1) / 2)],
    [.int .i64 0, .int .i64 (x + (w + 1) / 2), .int .i64 (y + (h + 1) / 2), .int .i64 (w - (w + 1) / 2), .int .i64 (h - (h + 1) / 2)]] : List (List RC)) = (Q.map pt0).map Pt.rc := by rw [← hQ]; rfl
  simp -implicitDefEqProofs only [push_cast, false_implies, reduceCtorEq, Classical.not_not, Nat.reduceAdd, Nat.reduceSub, Nat.reduceMul, Nat.reduceLeDiff, Nat.reduceLT, Nat.reduceEqDiff, Nat.reduceBEq, Nat.reduceBNe, Int.reduceNeg, Int.reduceToNat, Bool.or_false, Bool.false_or, Bool.or_true, Bool.true_or, BEq.rfl, Bool.not_eq_true, Bool.not_eq_false, decide_eq_true_eq, not_true_eq_false, not_false_eq_true, ite_true, ite_false, List.append_nil, and_assoc, Nat.mul_zero, Nat.zero_mul, ir62, hrec]
  intro X
  repeat (refine And.intro (by first | omega | trivial | (intros; omega)) ?_)
  intro X1
  repeat (refine And.intro (by first | omega | trivial | (intros; omega)) ?_)
  obtain ⟨n, hn⟩ : ∃ n : Nat, 4 = n := ⟨_, rfl⟩
  have n4 : (1 + 1 + 1 + 1 : Int) = (n : Int) := by omega
  have n4' : (4 : Int) = (n : Int) := by omega
  simp only [n4, n4']
  rw [hn] at hQ4
  have hlm : ((Q.map pt0).map Pt.rc).length = n := by rw [List.length_map, List.length_map, hQ4]
  refine evS_loopU (A := Nat × Xf.Loc) kp62_1 kl62_1 (fun y => [(6, .sl 13 y.2 (esz 5 (keptRt (Q.take y.1)).length) 0 (keptRt (Q.take y.1)).length), (7, .int .i64 y.1)])
    (fun y => [(13, .mine, y.2, .recs 5 true [] (((keptRt (Q.take y.1)).map pt0).map Pt.rc))]) (fun y => y.1 ≤ n ∧ (keptRt (Q.take y.1) = [] → y.2 = nilLoc)) (fun y => n - y.1) (0, nilLoc) ⟨Nat.zero_le _, fun _ => rfl⟩ (Sub.pt ?_) ?_
  · have z1 : keptRt (Q.take 0) = [] := rfl
    simp -implicitDefEqProofs only [push_cast, false_implies, reduceCtorEq, Classical.not_not, Nat.reduceAdd, Nat.reduceSub, Nat.reduceMul, Nat.reduceLeDiff, Nat.reduceLT, Nat.reduceEqDiff, Nat.reduceBEq, Nat.reduceBNe, Int.reduceNeg, Int.reduceToNat, Bool.or_false, Bool.false_or, Bool.or_true, Bool.true_or, BEq.rfl, Bool.not_eq_true, Bool.not_eq_false, decide_eq_true_eq, not_true_eq_false, not_false_eq_true, ite_true, ite_false, List.append_nil, and_assoc, Nat.mul_zero, Nat.zero_mul, z1, esz, List.map_nil, List.length_nil]
  intro ⟨k, M⟩ ⟨(hk : k ≤ n), hM⟩ K hK
  by_cases hk' : k < n
  · have hkQ : k < Q.length := by omega
    have r1 := recAt_Pt (l := Q.map pt0) (i := k) (by rw [List.length_map]; exact hkQ) []
    rw [rdPt_map hkQ] at r1
    have hst := kept_step hkQ
    have hqk := hok _ (rdRt_mem hkQ)
    obtain ⟨q, hq⟩ : ∃ q, rdRt Q (k : Int) = q := ⟨_, rfl⟩
    rw [hq] at r1 hst hqk
    obtain ⟨lk, hlk⟩ : ∃ l, keptRt (Q.take k) = l := ⟨_, rfl⟩
    simp only [hlk] at hM ⊢
    rw [hlk] at hst
    have hlk4 : lk.length ≤ 4 := by rw [← hlk]; exact Nat.le_trans (keptRt_le _) (by rw [List.length_take]; omega)
    have lkl : ((lk.map pt0).map Pt.rc).length = lk.length := by rw [List.length_map, List.length_map]
    obtain ⟨qx, qy, qw, qh⟩ := q
    obtain ⟨g1, g2, g3, g4⟩ := hqk
    simp only at g1 g2 g3 g4
    simp -implicitDefEqProofs only [push_cast, false_implies, reduceCtorEq, Classical.not_not, Nat.reduceAdd, Nat.reduceSub, Nat.reduceMul, Nat.reduceLeDiff, Nat.reduceLT, Nat.reduceEqDiff, Nat.reduceBEq, Nat.reduceBNe, Int.reduceNeg, Int.reduceToNat, Bool.or_false, Bool.false_or, Bool.or_true, Bool.true_or, BEq.rfl, Bool.not_eq_true, Bool.not_eq_false, decide_eq_true_eq, not_true_eq_false, not_false_eq_true, ite_true, ite_false, List.append_nil, and_assoc, Nat.mul_zero, Nat.zero_mul, b62_1, r1, Pt.rc, pt0, hlm, lkl]
    refine ⟨fun _ => ?_, fun h => by omega⟩
    repeat (refine And.intro (by first | omega | trivial | (intros; omega)) ?_)
    refine ⟨fun ⟨p1, p2⟩ X2 => ?_, fun hno => ?_⟩
    · have hg : (⟨qx, qy, qw, qh⟩ : Rt).gone = false := by
        have : qw * qh ≠ 0 := Int.ne_of_gt (Int.mul_pos p1 p2)
        unfold Rt.gone; simp only [decide_eq_false_iff_not]; exact this
      rw [hg] at hst
      simp only [Bool.false_eq_true, if_false] at hst
      repeat (refine And.intro (by first | omega | trivial | (intros; omega)) ?_)
      have hne : ¬ (lk ++ [(⟨qx, qy, qw, qh⟩ : Rt)] = []) := by simp
      refine hK (k + 1, X2 6 13) ⟨by show k + 1 ≤ n; omega, fun h => absurd (hst ▸ h) hne⟩ (show n - (k + 1) < n - k by omega) _ _ (Sub.pt ?_)
      have es : ∀ m : Nat, esz 5 (m + 1) = 5 := fun _ => rfl
      have hap : (lk ++ [(⟨qx, qy, qw, qh⟩ : Rt)]).length = lk.length + 1 := by simp
      simp only [hst, hap]
      simp -implicitDefEqProofs only [push_cast, false_implies, reduceCtorEq, Classical.not_not, Nat.reduceAdd, Nat.reduceSub, Nat.reduceMul, Nat.reduceLeDiff, Nat.reduceLT, Nat.reduceEqDiff, Nat.reduceBEq, Nat.reduceBNe, Int.reduceNeg, Int.reduceToNat, Bool.or_false, Bool.false_or, Bool.or_true, Bool.true_or, BEq.rfl, Bool.not_eq_true, Bool.not_eq_false, decide_eq_true_eq, not_true_eq_false, not_false_eq_true, ite_true, ite_false, List.append_nil, and_assoc, Nat.mul_zero, Nat.zero_mul, es, List.map_append, List.map_cons, List.map_nil, Pt.rc, pt0]
    · have hg : (⟨qx, qy, qw, qh⟩ : Rt).gone = true := by
        unfold Rt.gone; simp only [decide_eq_true_eq]
        by_cases hw : 0 < qw
        · have : qh = 0 := by omega
          rw [this, Int.mul_zero]
        · have : qw = 0 := by omega
          rw [this, Int.zero_mul]
      rw [hg] at hst
      simp only [if_true, List.append_nil] at hst
      repeat (refine And.intro (by first | omega | trivial | (intros; omega)) ?_)
      refine hK (k + 1, M) ⟨by show k + 1 ≤ n; omega, fun h => hM (hst ▸ h)⟩ (show n - (k + 1) < n - k by omega) _ _ (Sub.pt ?_)
      simp only [hst]
      simp -implicitDefEqProofs only [push_cast, false_implies, reduceCtorEq, Classical.not_not, Nat.reduceAdd, Nat.reduceSub, Nat.reduceMul, Nat.reduceLeDiff, Nat.reduceLT, Nat.reduceEqDiff, Nat.reduceBEq, Nat.reduceBNe, Int.reduceNeg, Int.reduceToNat, Bool.or_false, Bool.false_or, Bool.or_true, Bool.true_or, BEq.rfl, Bool.not_eq_true, Bool.not_eq_false, decide_eq_true_eq, not_true_eq_false, not_false_eq_true, ite_true, ite_false, List.append_nil, and_assoc, Nat.mul_zero, Nat.zero_mul, Pt.rc, pt0]
  · obtain rfl : k = n := by omega
    clear hK
    have hT : Q.take k = Q := by rw [← hQ4, List.take_length]
    simp only [hT] at hM ⊢
    simp -implicitDefEqProofs only [push_cast, false_implies, reduceCtorEq, Classical.not_not, Nat.reduceAdd, Nat.reduceSub, Nat.reduceMul, Nat.reduceLeDiff, Nat.reduceLT, Nat.reduceEqDiff, Nat.reduceBEq, Nat.reduceBNe, Int.reduceNeg, Int.reduceToNat, Bool.or_false, Bool.false_or, Bool.or_true, Bool.true_or, BEq.rfl, Bool.not_eq_true, Bool.not_eq_false, decide_eq_true_eq, not_true_eq_false, not_false_eq_true, ite_true, ite_false, List.append_nil, and_assoc, Nat.mul_zero, Nat.zero_mul, b62_1, r62_2, hlm, Int.lt_irrefl, true_implies, true_and]
    refine postF.mk' (locs [M]) [some 13] ?_
    simp -implicitDefEqProofs only [push_cast, false_implies, reduceCtorEq, Classical.not_not, Nat.reduceAdd, Nat.reduceSub, Nat.reduceMul, Nat.reduceLeDiff, Nat.reduceLT, Nat.reduceEqDiff, Nat.reduceBEq, Nat.reduceBNe, Int.reduceNeg, Int.reduceToNat, Bool.or_false, Bool.false_or, Bool.or_true, Bool.true_or, BEq.rfl, Bool.not_eq_true, Bool.not_eq_false, decide_eq_true_eq, not_true_eq_false, not_false_eq_true, ite_true, ite_false, List.append_nil, and_assoc, Nat.mul_zero, Nat.zero_mul, fs62, hqs]
def ent62 : Entry := spOf fs62 inv62
theorem e62 : EntryOk Try.prog 62 ent62 := entry_of ok62 inv62
@[push_cast] theorem ent62_app (us : List SV) (look : Look) (x : Nat → Xf.Loc) (k : Nat) : ent62 us look x k = spOf fs62 inv62 us look x k := rfl
theorem en_bd {p : Pn} {e : En} {r : Rt} (hp : p.grey) (he : e.Ok) (h : inR p r) : ∀ k, 0 ≤ (rpOf p r).en e k ∧ (rpOf p r).en e k ≤ 4000000000 := by
  obtain ⟨hO, hG⟩ := h.rp hp
  have h1 := Rp.pa_bd hG (Nat.le_refl _)
  have h2 := Rp.te_bd hG (Nat.le_refl _)
  obtain ⟨a, b, c, d, _⟩ := hO
  have hw : (rpOf p r).w ≤ 200 := by omega
  have hh : (rpOf p r).h ≤ 200 := by omega
  have hn : (rpOf p r).n ≤ 40000 := Nat.le_trans (Nat.mul_le_mul hw hh) (by decide)
  obtain ⟨⟨c1, c2⟩, ⟨p1, p2⟩, ⟨t1, t2⟩, ⟨i1, i2⟩⟩ := he
  have m1 := mul_bd (a := e.pic) (b := ((rpOf p r).w : Int)) (A := 100000) (B := 200) (by omega) (by omega) (by omega) (by omega)
  have m2 := mul_bd (a := e.pic * ((rpOf p r).w : Int)) (b := ((rpOf p r).h : Int)) (A := 20000000) (B := 200) (by omega) (by omega) (by omega) (by omega)
  intro k
  match k with
  | 0 => show 0 ≤ e.paper + (rpOf p r).pa (rpOf p r).n ∧ e.paper + (rpOf p r).pa (rpOf p r).n ≤ _; omega
  | 1 => show 0 ≤ e.text + (rpOf p r).te (rpOf p r).n ∧ e.text + (rpOf p r).te (rpOf p r).n ≤ _; omega
  | k + 2 => show 0 ≤ e.pic * ((rpOf p r).w : Int) * ((rpOf p r).h : Int) ∧ e.pic * ((rpOf p r).w : Int) * ((rpOf p r).h : Int) ≤ _; omega
structure LqA where
  p : Pn
  L : Xf.Loc
  e : En
  k : Int
  r : Rt
def ir19 : IR :=
  .seq (.reg false [⟨some 3, none, ⟨[], []⟩, .box 10 (.t 0)⟩,
    ⟨some 4, none, ⟨[], []⟩, .box 11 (.t 1)⟩,
    ⟨some 5, none, ⟨[], []⟩, .box 12 (.t 2)⟩,
    ⟨some 6, none, ⟨[], []⟩, .mov (.k (.int .i64 0))⟩,
    ⟨some 7, none, ⟨[], []⟩, .mov (.k (.int .i64 0))⟩] [0, 1, 2, 6, 7] []) (.seq (.seq (.reg false [⟨some 8, none, ⟨[], []⟩, .ld false (some 3) 0 0 (.t 3)⟩,
    ⟨some 9, none, ⟨[], []⟩, .call (some 4) 13 15 [.t 8]⟩,
    ⟨some 10, none, ⟨[], []⟩, .not (.t 9)⟩] [8, 9] []) (.cond (.t 10) (.seq (.reg false [⟨some 6, none, ⟨[], []⟩, .mov (.k (.int .i64 0))⟩,
    ⟨some 7, none, ⟨[], []⟩, .mov (.k (.int .i64 70))⟩] [3, 4, 5, 10] []) (.ret)) (.skip))) (.seq (.seq (.reg false [⟨some 11, none, ⟨[], []⟩, .ld false (some 4) 0 0 (.t 4)⟩,
    ⟨some 12, none, ⟨[], []⟩, .call (some 4) 17 35 [.t 11]⟩,
    ⟨some 13, none, ⟨[], []⟩, .not (.t 12)⟩,
    ⟨some 14, none, ⟨[], []⟩, .mov (.t 13)⟩,
    ⟨some 15, some (14, false), ⟨[], []⟩, .fld (.t 3) 0⟩,
    ⟨some 16, some (14, false), ⟨[], []⟩, .ld false none 0 0 (.t 15)⟩,
    ⟨some 17, some (14, false), ⟨[], []⟩, .fld (.t 3) 1⟩,
    ⟨some 18, some (14, false), ⟨[], []⟩, .ld false none 0 0 (.t 17)⟩,
    ⟨some 19, some (14, false), ⟨[], []⟩, .ld false (some 5) 0 0 (.t 5)⟩,
    ⟨some 20, some (14, false), ⟨[], []⟩, .call (some 4) 21 36 [.t 16, .t 18, .t 19]⟩,
    ⟨some 21, some (14, false), ⟨[], []⟩, .not (.t 20)⟩,
    ⟨some 22, none, ⟨[], []⟩, .pick (.t 14) (.k (.bool true)) (.t 21)⟩] [6, 7, 10, 11, 12, 13, 14, 15, 16, 17, 18, 19, 20, 21] []) (.cond (.t 22) (.seq (.reg false [⟨some 6, none, ⟨[], []⟩, .mov (.k (.int .i64 0))⟩,
    ⟨some 7, none, ⟨[], []⟩, .mov (.k (.int .i64 2))⟩] [3, 4, 5, 22] []) (.ret)) (.skip))) (.seq (.reg false [⟨some 23, none, ⟨[], []⟩, .ld false (some 3) 0 0 (.t 3)⟩,
    ⟨some 24, none, ⟨[], []⟩, .ld false (some 4) 0 0 (.t 4)⟩,
    ⟨some 25, none, ⟨[], []⟩, .ld false (some 5) 0 0 (.t 5)⟩,
    ⟨some 26, none, ⟨[], []⟩, .call (some 4) 25 38 [.t 23, .t 24, .t 25]⟩,
    ⟨some 6, none, ⟨[], []⟩, .mov (.t 26)⟩,
    ⟨some 7, none, ⟨[], []⟩, .mov (.k (.int .i64 0))⟩] [3, 4, 5, 22, 23, 24, 25, 26] []) (.ret))))
set_option maxRecDepth 4000 in
theorem comp19 : (Try.f19.body.bind fun c => compC tab isP chkAll ir19 c) = some ir19 := by kernel_rfl
theorem ok19 : FSOk Try.prog 19 fs16 := by
  refine ⟨⟨_, Try.func19, by kernel_rfl, by kernel_rfl⟩, fun a => ⟨by simp [fs16, push_cast, noMine, argOwn, Chunk.frArg], by simp [fs16, push_cast, outOk, Chunk.ext], fun x => .inl (by simp [fs16, push_cast, frNew, frOut, Chunk.fr])⟩, fun a hp => ?_⟩
  obtain ⟨⟨p, L⟩, e, x⟩ := a
  change p.xs.length ≤ 140737488355328 at hp
  obtain ⟨w, h, xs⟩ := p
  obtain ⟨c, q, t, i⟩ := e
  obtain ⟨kd, qx, qy, qw, qh⟩ := x
  change xs.length ≤ 140737488355328 at hp
  change Tri Try.prog 19 [plV ⟨w, h, xs⟩ L 0, .agg [.int .i64 c, .int .i64 q, .int .i64 t, .int .i64 i], .agg [.int .i64 kd, .int .i64 qx, .int .i64 qy, .int .i64 qw, .int .i64 qh]] [some (.ro, L, .ints .i64 xs)] (postF fs16 ⟨⟨⟨w, h, xs⟩, L⟩, ⟨c, q, t, i⟩, ⟨kd, qx, qy, qw, qh⟩⟩)
  refine tri_evS (hyp (l := [(15, ent15), (35, ent35), (36, ent36), (38, ent38)]) (lp := []) ⟨e15, e35, e36, e38, trivial⟩ trivial) Try.func19 comp19 (rs := [.tmp 6, .tmp 7]) (by rfl) Try.ntmps19 29 ?_
  by_cases hG : (⟨w, h, xs⟩ : Pl).Gr
  case neg =>
    have e1 : paN ⟨w, h, xs⟩ ⟨c, q, t, i⟩ ⟨kd, qx, qy, qw, qh⟩ = 0 := by unfold paN; rw [if_neg fun H => hG H.1]
    have e2 : paE ⟨w, h, xs⟩ ⟨c, q, t, i⟩ ⟨kd, qx, qy, qw, qh⟩ = 70 := by unfold paE; rw [if_neg hG]
    simp -implicitDefEqProofs only [push_cast, false_implies, reduceCtorEq, Classical.not_not, Nat.reduceAdd, Nat.reduceSub, Nat.reduceMul, Nat.reduceLeDiff, Nat.reduceLT, Nat.reduceEqDiff, Nat.reduceBEq, Nat.reduceBNe, Int.reduceNeg, Int.reduceToNat, Bool.or_false, Bool.false_or, Bool.or_true, Bool.true_or, BEq.rfl, Bool.not_eq_true, Bool.not_eq_false, decide_eq_true_eq, not_true_eq_false, not_false_eq_true, ite_true, ite_false, List.append_nil, and_assoc, Nat.mul_zero, Nat.zero_mul, ir19, fs14, fs12, plV, hG, hp]
    refine fun X => postF.mk' (fun _ => default) [some 0] ?_
    simp -implicitDefEqProofs only [push_cast, false_implies, reduceCtorEq, Classical.not_not, Nat.reduceAdd, Nat.reduceSub, Nat.reduceMul, Nat.reduceLeDiff, Nat.reduceLT, Nat.reduceEqDiff, Nat.reduceBEq, Nat.reduceBNe, Int.reduceNeg, Int.reduceToNat, Bool.or_false, Bool.false_or, Bool.or_true, Bool.true_or, BEq.rfl, Bool.not_eq_true, Bool.not_eq_false, decide_eq_true_eq, not_true_eq_false, not_false_eq_true, ite_true, ite_false, List.append_nil, and_assoc, Nat.mul_zero, Nat.zero_mul, fs16, e1, e2]
  have hsd : SidesOk w h := hG.1
  obtain ⟨s1, s2, s3, s4, s5⟩ := hsd
  by_cases hE : (⟨c, q, t, i⟩ : En).Ok
  case neg =>
    have e1 : paN ⟨w, h, xs⟩ ⟨c, q, t, i⟩ ⟨kd, qx, qy, qw, qh⟩ = 0 := by unfold paN; rw [if_neg fun H => hE H.2.1]
    have e2 : paE ⟨w, h, xs⟩ ⟨c, q, t, i⟩ ⟨kd, qx, qy, qw, qh⟩ = 2 := by unfold paE; rw [if_pos hG, if_neg fun H => hE H.1]
    simp -implicitDefEqProofs only [push_cast, false_implies, reduceCtorEq, Classical.not_not, Nat.reduceAdd, Nat.reduceSub, Nat.reduceMul, Nat.reduceLeDiff, Nat.reduceLT, Nat.reduceEqDiff, Nat.reduceBEq, Nat.reduceBNe, Int.reduceNeg, Int.reduceToNat, Bool.or_false, Bool.false_or, Bool.or_true, Bool.true_or, BEq.rfl, Bool.not_eq_true, Bool.not_eq_false, decide_eq_true_eq, not_true_eq_false, not_false_eq_true, ite_true, ite_false, List.append_nil, and_assoc, Nat.mul_zero, Nat.zero_mul, ir19, fs14, fs12, fs29, fs36, plV, enV, ptV, hG, hE, hp]
    refine fun X => postF.mk' (fun _ => default) [some 0] ?_
    simp -implicitDefEqProofs only [push_cast, false_implies, reduceCtorEq, Classical.not_not, Nat.reduceAdd, Nat.reduceSub, Nat.reduceMul, Nat.reduceLeDiff, Nat.reduceLT, Nat.reduceEqDiff, Nat.reduceBEq, Nat.reduceBNe, Int.reduceNeg, Int.reduceToNat, Bool.or_false, Bool.false_or, Bool.or_true, Bool.true_or, BEq.rfl, Bool.not_eq_true, Bool.not_eq_false, decide_eq_true_eq, not_true_eq_false, not_false_eq_true, ite_true, ite_false, List.append_nil, and_assoc, Nat.mul_zero, Nat.zero_mul, fs16, e1, e2]
  by_cases hI : (⟨kd, qx, qy, qw, qh⟩ : Pt).In w h
  case neg =>
    have e1 : paN ⟨w, h, xs⟩ ⟨c, q, t, i⟩ ⟨kd, qx, qy, qw, qh⟩ = 0 := by unfold paN; rw [if_neg fun H => hI H.2.2]
    have e2 : paE ⟨w, h, xs⟩ ⟨c, q, t, i⟩ ⟨kd, qx, qy, qw, qh⟩ = 2 := by unfold paE; rw [if_pos hG, if_neg fun H => hI H.2]
    simp -implicitDefEqProofs only [push_cast, false_implies, reduceCtorEq, Classical.not_not, Nat.reduceAdd, Nat.reduceSub, Nat.reduceMul, Nat.reduceLeDiff, Nat.reduceLT, Nat.reduceEqDiff, Nat.reduceBEq, Nat.reduceBNe, Int.reduceNeg, Int.reduceToNat, Bool.or_false, Bool.false_or, Bool.or_true, Bool.true_or, BEq.rfl, Bool.not_eq_true, Bool.not_eq_false, decide_eq_true_eq, not_true_eq_false, not_false_eq_true, ite_true, ite_false, List.append_nil, and_assoc, Nat.mul_zero, Nat.zero_mul, ir19, fs14, fs12, fs29, fs36, plV, enV, ptV, hG, hE, hI, hp]
    intro X
    repeat (refine And.intro (by first | omega | trivial | (intros; omega)) ?_)
    refine postF.mk' (fun _ => default) [some 0] ?_
    simp -implicitDefEqProofs only [push_cast, false_implies, reduceCtorEq, Classical.not_not, Nat.reduceAdd, Nat.reduceSub, Nat.reduceMul, Nat.reduceLeDiff, Nat.reduceLT, Nat.reduceEqDiff, Nat.reduceBEq, Nat.reduceBNe, Int.reduceNeg, Int.reduceToNat, Bool.or_false, Bool.false_or, Bool.or_true, Bool.true_or, BEq.rfl, Bool.not_eq_true, Bool.not_eq_false, decide_eq_true_eq, not_true_eq_false, not_false_eq_true, ite_true, ite_false, List.append_nil, and_assoc, Nat.mul_zero, Nat.zero_mul, fs16, e1, e2]
  have e1 : paN ⟨w, h, xs⟩ ⟨c, q, t, i⟩ ⟨kd, qx, qy, qw, qh⟩ = (rpOf (⟨w, h, xs⟩ : Pl).pn ⟨qx, qy, qw, qh⟩).en ⟨c, q, t, i⟩ kd.toNat := by unfold paN; rw [if_pos ⟨hG, hE, hI⟩]; rfl
  have e2 : paE ⟨w, h, xs⟩ ⟨c, q, t, i⟩ ⟨kd, qx, qy, qw, qh⟩ = 0 := by unfold paE; rw [if_pos hG, if_pos ⟨hE, hI⟩]
  obtain ⟨j1, j2, j3, j4, j5, j6, j7, j8, j9, j10⟩ := id hI
  simp only at j1 j2 j3 j4 j5 j6 j7 j8 j9 j10 s1 s2 s3 s4
  have hl0 : 0 < xs.length := by
    have hl : (xs.length : Int) = w * h := hG.2.1
    have := Int.mul_pos (show 0 < w by omega) (show 0 < h by omega)
    omega
  obtain ⟨g1, g2, g3, g4, g5⟩ := hG.pn hl0
  simp only at g4 g5
  have hin : inR (⟨w, h, xs⟩ : Pl).pn ⟨qx, qy, qw, qh⟩ := ⟨j3, j4, j5, j6, show qx + qw ≤ (w.toNat : Int) by omega, show qy + qh ≤ (h.toNat : Int) by omega⟩
  obtain ⟨hRp, hGr⟩ := hin.rp g1
  have eR : rpOf (⟨w, h, xs⟩ : Pl).pn ⟨qx, qy, qw, qh⟩ = ⟨qx.toNat, qy.toNat, qw.toNat, qh.toNat, w.toNat, h.toNat, xs⟩ := rfl
  rw [eR] at hRp hGr e1
  have t1 : (qx.toNat : Int) = qx := by omega
  have t2 : (qy.toNat : Int) = qy := by omega
  have t3 : (qw.toNat : Int) = qw := by omega
  have t4 : (qh.toNat : Int) = qh := by omega
  have hn0 : 0 < (⟨qx.toNat, qy.toNat, qw.toNat, qh.toNat, w.toNat, h.toNat, xs⟩ : Rp).n := Nat.mul_pos (show 0 < qw.toNat by omega) (show 0 < qh.toNat by omega)
  simp -implicitDefEqProofs only [push_cast, false_implies, reduceCtorEq, Classical.not_not, Nat.reduceAdd, Nat.reduceSub, Nat.reduceMul, Nat.reduceLeDiff, Nat.reduceLT, Nat.reduceEqDiff, Nat.reduceBEq, Nat.reduceBNe, Int.reduceNeg, Int.reduceToNat, Bool.or_false, Bool.false_or, Bool.or_true, Bool.true_or, BEq.rfl, Bool.not_eq_true, Bool.not_eq_false, decide_eq_true_eq, not_true_eq_false, not_false_eq_true, ite_true, ite_false, List.append_nil, and_assoc, Nat.mul_zero, Nat.zero_mul, ir19, fs14, fs12, fs29, fs36, fs38, plV, enV, ptV, hG, hE, hI, hp, hRp, hGr, hn0, t1, t2, t3, t4, g4, g5]
  intro X
  repeat (refine And.intro (by first | omega | trivial | (intros; omega)) ?_)
  refine postF.mk' (fun _ => default) [some 0] ?_
  simp -implicitDefEqProofs only [push_cast, false_implies, reduceCtorEq, Classical.not_not, Nat.reduceAdd, Nat.reduceSub, Nat.reduceMul, Nat.reduceLeDiff, Nat.reduceLT, Nat.reduceEqDiff, Nat.reduceBEq, Nat.reduceBNe, Int.reduceNeg, Int.reduceToNat, Bool.or_false, Bool.false_or, Bool.or_true, Bool.true_or, BEq.rfl, Bool.not_eq_true, Bool.not_eq_false, decide_eq_true_eq, not_true_eq_false, not_false_eq_true, ite_true, ite_false, List.append_nil, and_assoc, Nat.mul_zero, Nat.zero_mul, fs16, e1, e2]
def ent19 : Entry := spOf fs16 inv16
theorem e19 : EntryOk Try.prog 19 ent19 := entry_of ok19 inv16
@[push_cast] theorem ent19_app (us : List SV) (look : Look) (x : Nat → Xf.Loc) (k : Nat) : ent19 us look x k = spOf fs16 inv16 us look x k := rfl
def getPt : List (List RC) → Option (List Pt)
  | [] => some []
  | [.int .i64 k, .int .i64 x, .int .i64 y, .int .i64 w, .int .i64 h] :: l => match getPt l with | some r => some (⟨k, x, y, w, h⟩ :: r) | none => none
  | _ => none
theorem getPt_map : ∀ l : List Pt, getPt (l.map Pt.rc) = some l
  | [] => rfl
  | x :: l => by simp only [List.map_cons, Pt.rc, getPt, getPt_map l]
structure Sp2 where
  L1 : Xf.Loc
  L2 : Xf.Loc
  l : List Pt
attribute [push_cast] getPt_map
def ir60 : IR :=
  .seq (.reg false [⟨some 3, none, ⟨[], []⟩, .box 10 (.t 0)⟩,
    ⟨some 4, none, ⟨[], []⟩, .mov (.k (.bool false))⟩] [0, 4] []) (.seq (.reg false [⟨some 5, none, ⟨[], []⟩, .ld false (some 5) 0 0 (.t 3)⟩,
    ⟨some 6, none, ⟨[], []⟩, .ld false none 0 0 (.t 1)⟩,
    ⟨some 7, none, ⟨[], []⟩, .ld false none 0 0 (.t 2)⟩,
    ⟨some 8, none, ⟨[], []⟩, .call (some 4) 11 33 [.t 5, .t 6, .t 7]⟩,
    ⟨some 9, none, ⟨[], []⟩, .not (.t 8)⟩,
    ⟨some 4, none, ⟨[], []⟩, .mov (.t 9)⟩] [1, 2, 3, 5, 6, 7, 8, 9] []) (.ret))
set_option maxRecDepth 4000 in
theorem comp60 : (Try.f60.body.bind fun c => compC tab isP chkAll ir60 c) = some ir60 := by kernel_rfl
def b69_1 : IR :=
  .seq (.reg false [⟨some 9, none, ⟨[], []⟩, .bin 0 .lss (.t 8) (.t 7)⟩] [] []) (.seq (.cond (.t 9) (.skip) (.exit 0)) (.seq (.block 1 (.seq (.reg false [⟨some 10, none, ⟨[], []⟩, .mov (.t 8)⟩,
    ⟨some 5, none, ⟨[], []⟩, .mov (.t 10)⟩] [9, 10] []) (.seq (.reg false [⟨some 11, none, ⟨[], []⟩, .mov (.t 1)⟩,
    ⟨some 12, none, ⟨[], []⟩, .mov (.t 0)⟩,
    ⟨some 13, none, ⟨[], []⟩, .mov (.t 5)⟩,
    ⟨some 14, none, ⟨[], []⟩, .idxS (.t 12) (.t 13) 5⟩,
    ⟨some 15, none, ⟨[], []⟩, .ld true (some 5) 0 0 (.t 14)⟩,
    ⟨some 16, none, ⟨[], []⟩, .callv (some 4) 10 (.t 11) [.t 15]⟩] [11, 12, 13, 14, 15] []) (.cond (.t 16) (.seq (.reg false [⟨some 17, none, ⟨[], []⟩, .mov (.t 5)⟩,
    ⟨some 4, none, ⟨[], []⟩, .mov (.t 17)⟩] [0, 1, 5, 7, 8, 16, 17] []) (.ret)) (.skip))))) (.reg false [⟨some 18, none, ⟨[], []⟩, .bin 0 .add (.t 8) (.k (.int .i64 1))⟩,
    ⟨some 8, none, ⟨[], []⟩, .mov (.t 18)⟩] [4, 5, 16, 18] [])))
def r69_2 : IR :=
  .seq (.reg false [⟨some 4, none, ⟨[], []⟩, .mov (.k (.int .i64 (-1)))⟩] [0, 1, 7, 8] []) (.ret)
def ir69 : IR :=
  .seq (.reg false [⟨some 4, none, ⟨[], []⟩, .mov (.k (.int .i64 0))⟩] [4] []) (.seq (.seq (.reg false [⟨some 6, none, ⟨[], []⟩, .mov (.t 0)⟩,
    ⟨some 7, none, ⟨[], []⟩, .len (.t 6)⟩,
    ⟨some 8, none, ⟨[], []⟩, .mov (.k (.int .i64 0))⟩] [6] []) (.block 0 (.loop b69_1))) (r69_2))
def kp69_1 : List Nat := [0, 1, 7, 8]
def kl69_1 : List Nat := [10, 11, 12, 13]
attribute [push_cast] kp69_1 kl69_1
set_option maxRecDepth 4000 in
theorem comp69 : (Try.f69.body.bind fun c => compC tab isP chkAll ir69 c) = some ir69 := by kernel_rfl
def ir59 : IR :=
  .seq (.reg false [⟨some 4, none, ⟨[], []⟩, .mov (.k (.bool false))⟩] [4] []) (.seq (.reg false [⟨some 5, none, ⟨[], []⟩, .mov (.t 0)⟩,
    ⟨some 6, none, ⟨[], []⟩, .mov (.t 1)⟩,
    ⟨some 7, none, ⟨[], []⟩, .call (some 4) 10 69 [.t 5, .t 6]⟩,
    ⟨some 8, none, ⟨[], []⟩, .bin 0 .geq (.t 7) (.k (.int .i64 0))⟩,
    ⟨some 4, none, ⟨[], []⟩, .mov (.t 8)⟩] [0, 1, 5, 6, 7, 8] []) (.ret))
set_option maxRecDepth 4000 in
theorem comp59 : (Try.f59.body.bind fun c => compC tab isP chkAll ir59 c) = some ir59 := by kernel_rfl
def ir40 : IR :=
  .seq (.reg false [⟨some 4, none, ⟨[], []⟩, .box 10 (.t 1)⟩,
    ⟨some 5, none, ⟨[], []⟩, .box 11 (.t 2)⟩,
    ⟨some 6, none, ⟨[], []⟩, .mov (.k (.bool false))⟩] [1, 2, 6] []) (.seq (.reg false [⟨some 7, none, ⟨[], []⟩, .mov (.t 0)⟩,
    ⟨some 8, none, ⟨[], []⟩, .mkf 60 [.t 4, .t 5]⟩,
    ⟨some 9, none, ⟨[], []⟩, .call (some 4) 12 59 [.t 7, .t 8]⟩,
    ⟨some 10, none, ⟨[], []⟩, .not (.t 9)⟩,
    ⟨some 6, none, ⟨[], []⟩, .mov (.t 10)⟩] [0, 4, 5, 7, 8, 9, 10] []) (.ret))
set_option maxRecDepth 4000 in
theorem comp40 : (Try.f40.body.bind fun c => compC tab isP chkAll ir40 c) = some ir40 := by kernel_rfl
def ptBad (w h : Int) (x : Pt) : Bool := decide (¬ x.In w h)
structure ApA where
  L1 : Xf.Loc
  L2 : Xf.Loc
  x : Pt
  w : Int
  h : Int
def fs60 : FS where
  A := ApA
  args := fun a => [ptV a.x, .ptr 0 a.L1 0 0 0, .ptr 1 a.L2 0 0 0]
  mem := fun a => [some (.ro, a.L1, .cells [.int .i64 a.w]), some (.ro, a.L2, .cells [.int .i64 a.h])]
  pre := fun a => 0 ≤ a.w ∧ a.w ≤ 200 ∧ 0 ≤ a.h ∧ a.h ≤ 200
  res := fun a _ => .bool (ptBad a.w a.h a.x)
  out := fun _ _ => []
  new := fun _ _ => []
def inv60 : List SV → Look → Option (ApA × List Nat)
  | [.agg [.int .i64 k, .int .i64 x, .int .i64 y, .int .i64 w, .int .i64 h], .ptr c1 _ 0 0 0, .ptr c2 _ 0 0 0], look => match rowC (look c1), rowC (look c2) with
    | some (L1, [.int .i64 W]), some (L2, [.int .i64 H]) => some (⟨L1, L2, ⟨k, x, y, w, h⟩, W, H⟩, [c1, c2])
    | _, _ => none
  | _, _ => none
attribute [push_cast] inv60
theorem ok60 : FSOk Try.prog 60 fs60 := by
  refine ⟨⟨_, Try.func60, by kernel_rfl, by kernel_rfl⟩, fun a => ⟨by simp [fs60, push_cast, noMine, argOwn, Chunk.frArg], by simp [fs60, push_cast, outOk, Chunk.ext], fun x => .inl (by simp [fs60, push_cast, frNew, frOut, Chunk.fr])⟩, fun a hp => ?_⟩
  obtain ⟨L1, L2, ⟨k, x, y, w, h⟩, W, H⟩ := a
  obtain ⟨h1, h2, h3, h4⟩ : 0 ≤ W ∧ W ≤ 200 ∧ 0 ≤ H ∧ H ≤ 200 := hp
  change Tri Try.prog 60 [.agg [.int .i64 k, .int .i64 x, .int .i64 y, .int .i64 w, .int .i64 h], .ptr 0 L1 0 0 0, .ptr 1 L2 0 0 0] [some (.ro, L1, .cells [.int .i64 W]), some (.ro, L2, .cells [.int .i64 H])] (postF fs60 ⟨L1, L2, ⟨k, x, y, w, h⟩, W, H⟩)
  refine tri_evS (hyp (l := [(33, ent33)]) (lp := []) ⟨e33, trivial⟩ trivial) Try.func60 comp60 (rs := [.tmp 4]) (by rfl) Try.ntmps60 15 ?_
  simp -implicitDefEqProofs only [push_cast, false_implies, reduceCtorEq, Classical.not_not, Nat.reduceAdd, Nat.reduceSub, Nat.reduceMul, Nat.reduceLeDiff, Nat.reduceLT, Nat.reduceEqDiff, Nat.reduceBEq, Nat.reduceBNe, Int.reduceNeg, Int.reduceToNat, Bool.or_false, Bool.false_or, Bool.or_true, Bool.true_or, BEq.rfl, Bool.not_eq_true, Bool.not_eq_false, decide_eq_true_eq, not_true_eq_false, not_false_eq_true, ite_true, ite_false, List.append_nil, and_assoc, Nat.mul_zero, Nat.zero_mul, ir60, fs33, ptV]
  intro X
  repeat (refine And.intro (by first | omega | trivial | (intros; omega)) ?_)
  refine postF.mk' (fun _ => default) [some 0, some 1] ?_
  simp -implicitDefEqProofs only [push_cast, false_implies, reduceCtorEq, Classical.not_not, Nat.reduceAdd, Nat.reduceSub, Nat.reduceMul, Nat.reduceLeDiff, Nat.reduceLT, Nat.reduceEqDiff, Nat.reduceBEq, Nat.reduceBNe, Int.reduceNeg, Int.reduceToNat, Bool.or_false, Bool.false_or, Bool.or_true, Bool.true_or, BEq.rfl, Bool.not_eq_true, Bool.not_eq_false, decide_eq_true_eq, not_true_eq_false, not_false_eq_true, ite_true, ite_false, List.append_nil, and_assoc, Nat.mul_zero, Nat.zero_mul, fs60, ptBad]
def ent60 : Entry := spOf fs60 inv60
theorem e60 : EntryOk Try.prog 60 ent60 := entry_of ok60 inv60
@[push_cast] theorem ent60_app (us : List SV) (look : Look) (x : Nat → Xf.Loc) (k : Nat) : ent60 us look x k = spOf fs60 inv60 us look x k := rfl
structure ApR where
  L : Xf.Loc
  s : Nat
  l : List Pt
  L1 : Xf.Loc
  L2 : Xf.Loc
  w : Int
  h : Int
def fs69 : FS where
  A := ApR
  args := fun a => [.sl 0 a.L a.s 0 a.l.length, .fn 60 [.ptr 1 a.L1 0 0 0, .ptr 2 a.L2 0 0 0]]
  mem := fun a => [some (.ro, a.L, .recs 5 false [] (a.l.map Pt.rc)), some (.ro, a.L1, .cells [.int .i64 a.w]), some (.ro, a.L2, .cells [.int .i64 a.h])]
  pre := fun a => a.l.length ≤ 1000000 ∧ (0 < a.l.length → a.s = 5) ∧ 0 ≤ a.w ∧ a.w ≤ 200 ∧ 0 ≤ a.h ∧ a.h ≤ 200
  res := fun a _ => .int .i64 (if a.l.findIdx (ptBad a.w a.h) < a.l.length then (a.l.findIdx (ptBad a.w a.h) : Nat) else -1)
  out := fun _ _ => []
  new := fun _ _ => []
def inv69 : List SV → Look → Option (ApR × List Nat)
  | [.sl c _ s 0 _, .fn 60 [.ptr c1 _ 0 0 0, .ptr c2 _ 0 0 0]], look => match rowR (look c), rowC (look c1), rowC (look c2) with
    | some (L, 5, _, r), some (L1, [.int .i64 W]), some (L2, [.int .i64 H]) => match getPt r with | some l => some (⟨L, s, l, L1, L2, W, H⟩, [c, c1, c2]) | none => none
    | _, _, _ => none
  | _, _ => none
attribute [push_cast] inv69
theorem ok69 : FSOk Try.prog 69 fs69 := by
  refine ⟨⟨_, Try.func69, by kernel_rfl, by kernel_rfl⟩, fun a => ⟨by simp [fs69, push_cast, noMine, argOwn, Chunk.frArg], by simp [fs69, push_cast, outOk, Chunk.ext], fun x => .inl (by simp [fs69, push_cast, frNew, frOut, Chunk.fr])⟩, fun a hp => ?_⟩
  obtain ⟨L, s, l, L1, L2, W, H⟩ := a
  obtain ⟨hl, hs, h1, h2, h3, h4⟩ : l.length ≤ 1000000 ∧ (0 < l.length → s = 5) ∧ 0 ≤ W ∧ W ≤ 200 ∧ 0 ≤ H ∧ H ≤ 200 := hp
  change Tri Try.prog 69 [.sl 0 L s 0 l.length, .fn 60 [.ptr 1 L1 0 0 0, .ptr 2 L2 0 0 0]] [some (.ro, L, .recs 5 false [] (l.map Pt.rc)), some (.ro, L1, .cells [.int .i64 W]), some (.ro, L2, .cells [.int .i64 H])] (postF fs69 ⟨L, s, l, L1, L2, W, H⟩)
  refine tri_evS (hyp (l := [(60, ent60)]) (lp := []) ⟨e60, trivial⟩ trivial) Try.func69 comp69 (rs := [.tmp 4]) (by rfl) Try.ntmps69 14 ?_
  simp -implicitDefEqProofs only [push_cast, false_implies, reduceCtorEq, Classical.not_not, Nat.reduceAdd, Nat.reduceSub, Nat.reduceMul, Nat.reduceLeDiff, Nat.reduceLT, Nat.reduceEqDiff, Nat.reduceBEq, Nat.reduceBNe, Int.reduceNeg, Int.reduceToNat, Bool.or_false, Bool.false_or, Bool.or_true, Bool.true_or, BEq.rfl, Bool.not_eq_true, Bool.not_eq_false, decide_eq_true_eq, not_true_eq_false, not_false_eq_true, ite_true, ite_false, List.append_nil, and_assoc, Nat.mul_zero, Nat.zero_mul, ir69]
  refine evS_loopU (A := Nat) kp69_1 kl69_1 (fun i => [(8, .int .i64 i)]) (fun _ => []) (fun i => i ≤ l.length ∧ ∀ j : Nat, j < i → ptBad W H (rdPt l j) = false) (fun i => l.length - i) 0 ⟨Nat.zero_le _, fun j hj => absurd hj (Nat.not_lt_zero j)⟩ (Sub.pt ?_) ?_
  · simp -implicitDefEqProofs only [push_cast, false_implies, reduceCtorEq, Classical.not_not, Nat.reduceAdd, Nat.reduceSub, Nat.reduceMul, Nat.reduceLeDiff, Nat.reduceLT, Nat.reduceEqDiff, Nat.reduceBEq, Nat.reduceBNe, Int.reduceNeg, Int.reduceToNat, Bool.or_false, Bool.false_or, Bool.or_true, Bool.true_or, BEq.rfl, Bool.not_eq_true, Bool.not_eq_false, decide_eq_true_eq, not_true_eq_false, not_false_eq_true, ite_true, ite_false, List.append_nil, and_assoc, Nat.mul_zero, Nat.zero_mul]
  intro i ⟨hi, hj⟩ K hK
  have hnat : ∀ {j : Nat} (h : j < l.length), rdPt l j = l[j] := fun h => by simp [rdPt, h]
  by_cases hi' : i < l.length
  · have r1 := recAt_Pt (l := l) (i := i) hi' []
    have hlm : (l.map Pt.rc).length = l.length := by rw [List.length_map]
    obtain rfl := hs (by omega)
    obtain ⟨x, hx⟩ : ∃ x, rdPt l i = x := ⟨_, rfl⟩
    have hx' : l[i] = x := by rw [← hnat hi', hx]
    rw [hx] at r1
    obtain ⟨k, x, y, w, h⟩ := x
    obtain ⟨g, hg⟩ : ∃ g, ptBad W H ⟨k, x, y, w, h⟩ = g := ⟨_, rfl⟩
    simp -implicitDefEqProofs only [push_cast, false_implies, reduceCtorEq, Classical.not_not, Nat.reduceAdd, Nat.reduceSub, Nat.reduceMul, Nat.reduceLeDiff, Nat.reduceLT, Nat.reduceEqDiff, Nat.reduceBEq, Nat.reduceBNe, Int.reduceNeg, Int.reduceToNat, Bool.or_false, Bool.false_or, Bool.or_true, Bool.true_or, BEq.rfl, Bool.not_eq_true, Bool.not_eq_false, decide_eq_true_eq, not_true_eq_false, not_false_eq_true, ite_true, ite_false, List.append_nil, and_assoc, Nat.mul_zero, Nat.zero_mul, b69_1, r69_2, r1, Pt.rc, hlm, fs60, ptV, hg]
    refine ⟨fun _ => ?_, fun hl => by omega⟩
    repeat (refine And.intro (by first | omega | trivial | (intros; omega)) ?_)
    refine ⟨fun hb => ?_, fun hb => ⟨by omega, by omega, hK (i + 1) ⟨by omega, fun j h => ?_⟩ (by omega) _ _ (Sub.pt ?_)⟩⟩
    · have e : l.findIdx (ptBad W H) = i := by
        rw [List.findIdx_eq hi']
        refine ⟨by rw [hx', hg]; exact hb, fun j h => ?_⟩
        have := hj j h
        rwa [hnat (by omega)] at this
      refine postF.mk' (fun _ => default) [some 0, some 1, some 2] ?_
      simp -implicitDefEqProofs only [push_cast, false_implies, reduceCtorEq, Classical.not_not, Nat.reduceAdd, Nat.reduceSub, Nat.reduceMul, Nat.reduceLeDiff, Nat.reduceLT, Nat.reduceEqDiff, Nat.reduceBEq, Nat.reduceBNe, Int.reduceNeg, Int.reduceToNat, Bool.or_false, Bool.false_or, Bool.or_true, Bool.true_or, BEq.rfl, Bool.not_eq_true, Bool.not_eq_false, decide_eq_true_eq, not_true_eq_false, not_false_eq_true, ite_true, ite_false, List.append_nil, and_assoc, Nat.mul_zero, Nat.zero_mul, fs69, e, hi', if_true]
    · by_cases e : j = i
      · subst e; rw [hx, hg]; exact hb
      · exact hj j (by omega)
    · simp -implicitDefEqProofs only [push_cast, false_implies, reduceCtorEq, Classical.not_not, Nat.reduceAdd, Nat.reduceSub, Nat.reduceMul, Nat.reduceLeDiff, Nat.reduceLT, Nat.reduceEqDiff, Nat.reduceBEq, Nat.reduceBNe, Int.reduceNeg, Int.reduceToNat, Bool.or_false, Bool.false_or, Bool.or_true, Bool.true_or, BEq.rfl, Bool.not_eq_true, Bool.not_eq_false, decide_eq_true_eq, not_true_eq_false, not_false_eq_true, ite_true, ite_false, List.append_nil, and_assoc, Nat.mul_zero, Nat.zero_mul]
  · obtain rfl : i = l.length := by omega
    clear hK
    have e : ¬ l.findIdx (ptBad W H) < l.length := fun h => by
      have h1 := List.findIdx_getElem (w := h)
      have h2 := hj _ h
      rw [hnat h, h1] at h2
      cases h2
    simp -implicitDefEqProofs only [push_cast, false_implies, reduceCtorEq, Classical.not_not, Nat.reduceAdd, Nat.reduceSub, Nat.reduceMul, Nat.reduceLeDiff, Nat.reduceLT, Nat.reduceEqDiff, Nat.reduceBEq, Nat.reduceBNe, Int.reduceNeg, Int.reduceToNat, Bool.or_false, Bool.false_or, Bool.or_true, Bool.true_or, BEq.rfl, Bool.not_eq_true, Bool.not_eq_false, decide_eq_true_eq, not_true_eq_false, not_false_eq_true, ite_true, ite_false, List.append_nil, and_assoc, Nat.mul_zero, Nat.zero_mul, b69_1, r69_2, Int.lt_irrefl, true_implies, true_and]
    refine postF.mk' (fun _ => default) [some 0, some 1, some 2] ?_
    simp -implicitDefEqProofs only [push_cast, false_implies, reduceCtorEq, Classical.not_not, Nat.reduceAdd, Nat.reduceSub, Nat.reduceMul, Nat.reduceLeDiff, Nat.reduceLT, Nat.reduceEqDiff, Nat.reduceBEq, Nat.reduceBNe, Int.reduceNeg, Int.reduceToNat, Bool.or_false, Bool.false_or, Bool.or_true, Bool.true_or, BEq.rfl, Bool.not_eq_true, Bool.not_eq_false, decide_eq_true_eq, not_true_eq_false, not_false_eq_true, ite_true, ite_false, List.append_nil, and_assoc, Nat.mul_zero, Nat.zero_mul, fs69, e, if_false]
def ent69 : Entry := spOf fs69 inv69
theorem e69 : EntryOk Try.prog 69 ent69 := entry_of ok69 inv69
@[push_cast] theorem ent69_app (us : List SV) (look : Look) (x : Nat → Xf.Loc) (k : Nat) : ent69 us look x k = spOf fs69 inv69 us look x k := rfl
/-- All are parts within a plane of w by h. -/
def ptsIn (w h : Int) (l : List Pt) : Prop := ∀ x ∈ l, x.In w h
instance (w h : Int) (l : List Pt) : Decidable (ptsIn w h l) := by unfold ptsIn; infer_instance
theorem ptsIn_iff (w h : Int) (l : List Pt) : (0 ≤ (if l.findIdx (ptBad w h) < l.length then ((l.findIdx (ptBad w h) : Nat) : Int) else -1)) ↔ ¬ ptsIn w h l := by
  have hh := List.findIdx_lt_length (xs := l) (p := ptBad w h)
  unfold ptsIn
  by_cases c : l.findIdx (ptBad w h) < l.length
  · rw [if_pos c]
    obtain ⟨x, hx, hb⟩ := hh.1 c
    refine ⟨fun _ H => ?_, fun _ => by omega⟩
    have := H x hx
    unfold ptBad at hb; simp [this] at hb
  · rw [if_neg c]
    refine ⟨fun h => by omega, fun H => absurd (hh.2 ?_) c⟩
    simp only [Classical.not_forall] at H
    obtain ⟨x, hx, hb⟩ := H
    exact ⟨x, hx, by unfold ptBad; simp [hb]⟩
def fs59 : FS := { fs69 with res := fun a _ => .bool (decide (¬ ptsIn a.w a.h a.l)) }
theorem ok59 : FSOk Try.prog 59 fs59 := by
  refine ⟨⟨_, Try.func59, by kernel_rfl, by kernel_rfl⟩, fun a => ⟨by simp [fs59, fs69, push_cast, noMine, argOwn, Chunk.frArg], by simp [fs59, fs69, push_cast, outOk, Chunk.ext], fun x => .inl (by simp [fs59, fs69, push_cast, frNew, frOut, Chunk.fr])⟩, fun a hp => ?_⟩
  obtain ⟨L, s, l, L1, L2, W, H⟩ := a
  obtain ⟨hl, hs, h1, h2, h3, h4⟩ : l.length ≤ 1000000 ∧ (0 < l.length → s = 5) ∧ 0 ≤ W ∧ W ≤ 200 ∧ 0 ≤ H ∧ H ≤ 200 := hp
  change Tri Try.prog 59 [.sl 0 L s 0 l.length, .fn 60 [.ptr 1 L1 0 0 0, .ptr 2 L2 0 0 0]] [some (.ro, L, .recs 5 false [] (l.map Pt.rc)), some (.ro, L1, .cells [.int .i64 W]), some (.ro, L2, .cells [.int .i64 H])] (postF fs59 ⟨L, s, l, L1, L2, W, H⟩)
  refine tri_evS (hyp (l := [(69, ent69)]) (lp := []) ⟨e69, trivial⟩ trivial) Try.func59 comp59 (rs := [.tmp 4]) (by rfl) Try.ntmps59 14 ?_
  have hi := ptsIn_iff W H l
  obtain ⟨v, hv⟩ : ∃ v : Int, (if l.findIdx (ptBad W H) < l.length then ((l.findIdx (ptBad W H) : Nat) : Int) else -1) = v := ⟨_, rfl⟩
  rw [hv] at hi
  simp -implicitDefEqProofs only [push_cast, false_implies, reduceCtorEq, Classical.not_not, Nat.reduceAdd, Nat.reduceSub, Nat.reduceMul, Nat.reduceLeDiff, Nat.reduceLT, Nat.reduceEqDiff, Nat.reduceBEq, Nat.reduceBNe, Int.reduceNeg, Int.reduceToNat, Bool.or_false, Bool.false_or, Bool.or_true, Bool.true_or, BEq.rfl, Bool.not_eq_true, Bool.not_eq_false, decide_eq_true_eq, not_true_eq_false, not_false_eq_true, ite_true, ite_false, List.append_nil, and_assoc, Nat.mul_zero, Nat.zero_mul, ir59, fs69, hv, hi]
  repeat (refine And.intro (by first | omega | trivial | (intros; omega)) ?_)
  refine postF.mk' (fun _ => default) [some 0, some 1, some 2] ?_
  simp -implicitDefEqProofs only [push_cast, false_implies, reduceCtorEq, Classical.not_not, Nat.reduceAdd, Nat.reduceSub, Nat.reduceMul, Nat.reduceLeDiff, Nat.reduceLT, Nat.reduceEqDiff, Nat.reduceBEq, Nat.reduceBNe, Int.reduceNeg, Int.reduceToNat, Bool.or_false, Bool.false_or, Bool.or_true, Bool.true_or, BEq.rfl, Bool.not_eq_true, Bool.not_eq_false, decide_eq_true_eq, not_true_eq_false, not_false_eq_true, ite_true, ite_false, List.append_nil, and_assoc, Nat.mul_zero, Nat.zero_mul, fs59, fs69, hi]
def ent59 : Entry := spOf fs59 inv69
theorem e59 : EntryOk Try.prog 59 ent59 := entry_of ok59 inv69
@[push_cast] theorem ent59_app (us : List SV) (look : Look) (x : Nat → Xf.Loc) (k : Nat) : ent59 us look x k = spOf fs59 inv69 us look x k := rfl
structure ArA where
  L : Xf.Loc
  s : Nat
  l : List Pt
  w : Int
  h : Int
def fs40 : FS where
  A := ArA
  args := fun a => [.sl 0 a.L a.s 0 a.l.length, .int .i64 a.w, .int .i64 a.h]
  mem := fun a => [some (.ro, a.L, .recs 5 false [] (a.l.map Pt.rc))]
  pre := fun a => a.l.length ≤ 1000000 ∧ (0 < a.l.length → a.s = 5) ∧ 0 ≤ a.w ∧ a.w ≤ 200 ∧ 0 ≤ a.h ∧ a.h ≤ 200
  res := fun a _ => .bool (decide (ptsIn a.w a.h a.l))
  out := fun _ _ => []
  new := fun _ _ => []
def inv40 : List SV → Look → Option (ArA × List Nat)
  | [.sl c _ s 0 _, .int .i64 W, .int .i64 H], look => match rowR (look c) with
    | some (L, 5, _, r) => match getPt r with | some l => some (⟨L, s, l, W, H⟩, [c]) | none => none
    | _ => none
  | _, _ => none
attribute [push_cast] inv40
theorem ok40 : FSOk Try.prog 40 fs40 := by
  refine ⟨⟨_, Try.func40, by kernel_rfl, by kernel_rfl⟩, fun a => ⟨by simp [fs40, push_cast, noMine, argOwn, Chunk.frArg], by simp [fs40, push_cast, outOk, Chunk.ext], fun x => .inl (by simp [fs40, push_cast, frNew, frOut, Chunk.fr])⟩, fun a hp => ?_⟩
  obtain ⟨L, s, l, W, H⟩ := a
  have hp' := hp
  obtain ⟨hl, hs, h1, h2, h3, h4⟩ : l.length ≤ 1000000 ∧ (0 < l.length → s = 5) ∧ 0 ≤ W ∧ W ≤ 200 ∧ 0 ≤ H ∧ H ≤ 200 := hp
  change Tri Try.prog 40 [.sl 0 L s 0 l.length, .int .i64 W, .int .i64 H] [some (.ro, L, .recs 5 false [] (l.map Pt.rc))] (postF fs40 ⟨L, s, l, W, H⟩)
  refine tri_evS (hyp (l := [(59, ent59)]) (lp := []) ⟨e59, trivial⟩ trivial) Try.func40 comp40 (rs := [.tmp 6]) (by rfl) Try.ntmps40 16 ?_
  simp -implicitDefEqProofs only [push_cast, false_implies, reduceCtorEq, Classical.not_not, Nat.reduceAdd, Nat.reduceSub, Nat.reduceMul, Nat.reduceLeDiff, Nat.reduceLT, Nat.reduceEqDiff, Nat.reduceBEq, Nat.reduceBNe, Int.reduceNeg, Int.reduceToNat, Bool.or_false, Bool.false_or, Bool.or_true, Bool.true_or, BEq.rfl, Bool.not_eq_true, Bool.not_eq_false, decide_eq_true_eq, not_true_eq_false, not_false_eq_true, ite_true, ite_false, List.append_nil, and_assoc, Nat.mul_zero, Nat.zero_mul, ir40, fs59, fs69]
  intro X
  repeat (refine And.intro (by first | omega | trivial | (intros; omega)) ?_)
  refine postF.mk' (fun _ => default) [some 0] ?_
  simp -implicitDefEqProofs only [push_cast, false_implies, reduceCtorEq, Classical.not_not, Nat.reduceAdd, Nat.reduceSub, Nat.reduceMul, Nat.reduceLeDiff, Nat.reduceLT, Nat.reduceEqDiff, Nat.reduceBEq, Nat.reduceBNe, Int.reduceNeg, Int.reduceToNat, Bool.or_false, Bool.false_or, Bool.or_true, Bool.true_or, BEq.rfl, Bool.not_eq_true, Bool.not_eq_false, decide_eq_true_eq, not_true_eq_false, not_false_eq_true, ite_true, ite_false, List.append_nil, and_assoc, Nat.mul_zero, Nat.zero_mul, fs40]
def ent40 : Entry := spOf fs40 inv40
theorem e40 : EntryOk Try.prog 40 ent40 := entry_of ok40 inv40
@[push_cast] theorem ent40_app (us : List SV) (look : Look) (x : Nat → Xf.Loc) (k : Nat) : ent40 us look x k = spOf fs40 inv40 us look x k := rfl
def tks (f : Rt → Nat × Int → Bool × Nat × Int) : List Rt → Nat × Int → Bool × Nat × Int
  | [], s => (true, s)
  | q :: Q, s => if (f q s).1 then tks f Q (f q s).2 else (false, (f q s).2)
/-- Takes the parts of a tree of r from place o on: whether there is one, the place after it, and the count of cuts. -/
def tk (l : List Pt) : Nat → Rt → Nat × Int → Bool × Nat × Int
  | 0, _, s => (false, s)
  | N + 1, r, s => if s.1 < l.length then if (rdPt l s.1).rt = r then (true, s.1 + 1, s.2) else if r.w * r.h = 1 then (false, s) else tks (tk l N) (qs r) (s.1, s.2 + 1) else (false, s)
theorem qs_two {p : Pn} {r : Rt} (h : inR p r) (h1 : ¬ r.w * r.h = 1) : 2 ≤ (qs r).length := by
  have hs := qs_sum r
  have ha := area_pos h
  match hq : qs r with
  | [] => rw [hq] at hs; simp only [List.map_nil, sumL] at hs; omega
  | [a] =>
    rw [hq] at hs; simp only [List.map_cons, List.map_nil, sumL] at hs
    have := (qs_in h a (by rw [hq]; simp)).2 h1
    omega
  | a :: b :: l => simp
theorem tks_bd {n : Nat} {f : Rt → Nat × Int → Bool × Nat × Int} : ∀ (Q : List Rt) (s : Nat × Int), s.1 ≤ n →
    (∀ q ∈ Q, 1 ≤ area q ∧ ∀ s : Nat × Int, s.1 ≤ n → s.1 ≤ (f q s).2.1 ∧ (f q s).2.1 ≤ n ∧ s.2 ≤ (f q s).2.2 ∧ (f q s).2.2 + 1 ≤ s.2 + area q) →
    s.1 ≤ (tks f Q s).2.1 ∧ (tks f Q s).2.1 ≤ n ∧ s.2 ≤ (tks f Q s).2.2 ∧ (tks f Q s).2.2 + Q.length ≤ s.2 + sumL (Q.map area) ∧ (Q.length : Int) ≤ sumL (Q.map area)
  | [], s, hs, _ => ⟨Nat.le_refl _, hs, Int.le_refl _, by simp [tks, sumL], by simp [sumL]⟩
  | q :: Q, s, hs, h => by
    obtain ⟨a1, h1⟩ := h q (by simp)
    obtain ⟨b1, b2, b3, b4⟩ := h1 s hs
    obtain ⟨c1, c2, c3, c4, c5⟩ := tks_bd Q (f q s).2 b2 fun x hx => h x (by simp [hx])
    rw [tks]
    simp only [List.map_cons, sumL, List.length_cons]
    split
    · exact ⟨by omega, c2, by omega, by push_cast; omega, by push_cast; omega⟩
    · exact ⟨b1, b2, b3, by push_cast; omega, by push_cast; omega⟩
theorem tk_bd {p : Pn} {l : List Pt} : ∀ (N : Nat) (r : Rt) (s : Nat × Int), inR p r → r.w * r.h ≤ N → s.1 ≤ l.length →
    s.1 ≤ (tk l N r s).2.1 ∧ (tk l N r s).2.1 ≤ l.length ∧ s.2 ≤ (tk l N r s).2.2 ∧ (tk l N r s).2.2 + 1 ≤ s.2 + area r
  | 0, r, s, h, hN, _ => by have := area_pos h; unfold area at this; omega
  | N + 1, r, s, h, hN, hs => by
    have ha := area_pos h
    have hself : s.1 ≤ s.1 ∧ s.1 ≤ l.length ∧ s.2 ≤ s.2 ∧ s.2 + 1 ≤ s.2 + area r := ⟨Nat.le_refl _, hs, Int.le_refl _, by omega⟩
    rw [tk]
    split
    · split
      · exact ⟨Nat.le_succ _, by assumption, Int.le_refl _, by simp only; omega⟩
      · split
        · exact hself
        · rename_i h1
          have := tks_bd (n := l.length) (f := tk l N) (qs r) (s.1, s.2 + 1) hs fun q hq => by
            obtain ⟨k1, k2⟩ := qs_in h q hq
            have k3 := k2 h1
            refine ⟨area_pos k1, fun s hs => tk_bd N q s k1 ?_ hs⟩
            unfold area at k3; omega
          have h2 := qs_two h h1
          rw [qs_sum] at this
          obtain ⟨d1, d2, d3, d4, _⟩ := this
          simp only at d1 d3 d4
          exact ⟨d1, d2, by omega, by omega⟩
    · exact hself
def b61_1 : IR :=
  .seq (.reg false [⟨some 51, none, ⟨[], []⟩, .bin 0 .lss (.t 50) (.t 49)⟩] [] []) (.seq (.cond (.t 51) (.skip) (.exit 0)) (.seq (.block 1 (.seq (.reg false [⟨some 52, none, ⟨[], []⟩, .idxS (.t 48) (.t 50) 4⟩,
    ⟨some 53, none, ⟨[], []⟩, .ld true (some 4) 0 0 (.t 52)⟩,
    ⟨some 7, none, ⟨[], []⟩, .alloc 20 [.int .i64 0, .int .i64 0, .int .i64 0, .int .i64 0]⟩,
    ⟨none, none, ⟨[], []⟩, .sto false 4 .i64 (.t 7) (.t 53)⟩] [51, 52, 53] []) (.seq (.reg false [⟨some 54, none, ⟨[], []⟩, .mov (.t 0)⟩,
    ⟨some 55, none, ⟨[], []⟩, .ld false (some 4) 0 0 (.t 7)⟩,
    ⟨some 56, none, ⟨[], []⟩, .call none 21 61 [.t 54, .t 55]⟩,
    ⟨some 57, none, ⟨[], []⟩, .not (.t 56)⟩] [7, 54, 55, 56] []) (.cond (.t 57) (.seq (.reg false [⟨some 4, none, ⟨[], []⟩, .mov (.k (.bool false))⟩] [0, 48, 49, 50, 57] []) (.ret)) (.skip))))) (.reg false [⟨some 58, none, ⟨[], []⟩, .bin 0 .add (.t 50) (.k (.int .i64 1))⟩,
    ⟨some 50, none, ⟨[], []⟩, .mov (.t 58)⟩] [4, 57, 58] [])))
def r61_2 : IR :=
  .seq (.reg false [⟨some 4, none, ⟨[], []⟩, .mov (.k (.bool true))⟩] [0, 48, 49, 50] []) (.ret)
def ir61 : IR :=
  .seq (.reg false [⟨some 3, none, ⟨[], []⟩, .box 10 (.t 1)⟩,
    ⟨some 4, none, ⟨[], []⟩, .mov (.k (.bool false))⟩] [1, 4] []) (.seq (.seq (.reg false [⟨some 8, none, ⟨[], []⟩, .mov (.t 0)⟩,
    ⟨some 9, none, ⟨[], []⟩, .nilc (.t 8)⟩,
    ⟨some 10, none, ⟨[], []⟩, .fld (.t 9) 0⟩,
    ⟨some 11, none, ⟨[], []⟩, .ld false none 0 0 (.t 10)⟩,
    ⟨some 12, none, ⟨[], []⟩, .len (.t 11)⟩,
    ⟨some 13, none, ⟨[], []⟩, .bin 0 .eql (.t 12) (.k (.int .i64 0))⟩] [8, 9, 10, 11, 12] []) (.cond (.t 13) (.seq (.reg false [⟨some 4, none, ⟨[], []⟩, .mov (.k (.bool false))⟩] [0, 3, 13] []) (.ret)) (.skip))) (.seq (.seq (.reg false [⟨some 14, none, ⟨[], []⟩, .mov (.t 0)⟩,
    ⟨some 15, none, ⟨[], []⟩, .nilc (.t 14)⟩,
    ⟨some 16, none, ⟨[], []⟩, .fld (.t 15) 0⟩,
    ⟨some 17, none, ⟨[], []⟩, .ld false none 0 0 (.t 16)⟩,
    ⟨some 18, none, ⟨[], []⟩, .idxS (.t 17) (.k (.int .i64 0)) 5⟩,
    ⟨some 19, none, ⟨[], []⟩, .ld true (some 5) 0 0 (.t 18)⟩,
    ⟨some 5, none, ⟨[], []⟩, .alloc 11 [.int .i64 0, .int .i64 0, .int .i64 0, .int .i64 0, .int .i64 0]⟩,
    ⟨none, none, ⟨[], []⟩, .sto false 5 .i64 (.t 5) (.t 19)⟩] [4, 13, 14, 15, 16, 17, 18, 19] []) (.seq (.reg true [⟨some 20, none, ⟨[12, 13, 14, 15], []⟩, .ld false (some 5) 0 0 (.t 5)⟩,
    ⟨some 21, none, ⟨[], []⟩, .ld false (some 4) 0 0 (.t 3)⟩,
    ⟨some 22, none, ⟨[], []⟩, .fld (.t 5) 0⟩,
    ⟨some 23, none, ⟨[], []⟩, .ld false none 0 0 (.t 22)⟩,
    ⟨some 24, none, ⟨[], []⟩, .call (some 4) 12 54 [.t 21, .t 23]⟩,
    ⟨some 25, none, ⟨[], []⟩, .binA .eql [true, true, true, true, true] (.t 20) (.t 24)⟩] [5, 20, 21, 22, 23, 24] []) (.cond (.t 25) (.seq (.reg false [⟨some 26, none, ⟨[], []⟩, .mov (.t 0)⟩,
    ⟨some 27, none, ⟨[], []⟩, .mov (.t 0)⟩,
    ⟨some 28, none, ⟨[], []⟩, .nilc (.t 27)⟩,
    ⟨some 29, none, ⟨[], []⟩, .fld (.t 28) 0⟩,
    ⟨some 30, none, ⟨[], []⟩, .ld false none 0 0 (.t 29)⟩,
    ⟨some 31, none, ⟨[], []⟩, .slc (.t 30) 5 (some (.k (.int .i64 1))) none⟩,
    ⟨some 32, none, ⟨[], []⟩, .nilc (.t 26)⟩,
    ⟨some 33, none, ⟨[], []⟩, .fld (.t 32) 0⟩,
    ⟨none, none, ⟨[], []⟩, .sto false 1 .i64 (.t 33) (.t 31)⟩] [0, 3, 25, 26, 27, 28, 29, 30, 31, 32, 33] []) (.seq (.reg false [⟨some 4, none, ⟨[], []⟩, .mov (.k (.bool true))⟩] [] []) (.ret))) (.skip)))) (.seq (.seq (.reg false [⟨some 34, none, ⟨[], []⟩, .fld (.t 3) 2⟩,
    ⟨some 35, none, ⟨[], []⟩, .ld false none 0 0 (.t 34)⟩,
    ⟨some 36, none, ⟨[], []⟩, .fld (.t 3) 3⟩,
    ⟨some 37, none, ⟨[], []⟩, .ld false none 0 0 (.t 36)⟩,
    ⟨some 38, none, ⟨[], []⟩, .bin 0 .mul (.t 35) (.t 37)⟩,
    ⟨some 39, none, ⟨[], []⟩, .bin 0 .eql (.t 38) (.k (.int .i64 1))⟩] [4, 25, 34, 35, 36, 37, 38] []) (.cond (.t 39) (.seq (.reg false [⟨some 4, none, ⟨[], []⟩, .mov (.k (.bool false))⟩] [0, 3, 39] []) (.ret)) (.skip))) (.seq (.reg false [⟨some 40, none, ⟨[], []⟩, .mov (.t 0)⟩,
    ⟨some 41, none, ⟨[], []⟩, .nilc (.t 40)⟩,
    ⟨some 42, none, ⟨[], []⟩, .fld (.t 41) 1⟩,
    ⟨some 43, none, ⟨[], []⟩, .ld false none 0 0 (.t 42)⟩,
    ⟨some 44, none, ⟨[], []⟩, .bin 0 .add (.t 43) (.k (.int .i64 1))⟩,
    ⟨some 45, none, ⟨[], []⟩, .nilc (.t 40)⟩,
    ⟨some 46, none, ⟨[], []⟩, .fld (.t 45) 1⟩,
    ⟨none, none, ⟨[], []⟩, .sto false 1 .i64 (.t 46) (.t 44)⟩] [4, 39, 40, 41, 42, 43, 44, 45, 46] []) (.seq (.seq (.reg false [⟨some 47, none, ⟨[], []⟩, .ld false (some 4) 0 0 (.t 3)⟩,
    ⟨some 48, none, ⟨[], []⟩, .call (some 4) 16 55 [.t 47]⟩,
    ⟨some 49, none, ⟨[], []⟩, .len (.t 48)⟩,
    ⟨some 50, none, ⟨[], []⟩, .mov (.k (.int .i64 0))⟩] [3, 47] []) (.block 0 (.loop b61_1))) (r61_2))))))
def kp61_1 : List Nat := [0, 48, 49, 50]
def kl61_1 : List Nat := [20, 21, 22, 23, 24]
attribute [push_cast] kp61_1 kl61_1
set_option maxRecDepth 4000 in
theorem comp61 : (Try.f61.body.bind fun c => compC tab isP chkAll ir61 c) = some ir61 := by kernel_rfl
theorem tks_drop {f : Rt → Nat × Int → Bool × Nat × Int} {Q : List Rt} {i : Nat} (hi : i < Q.length) (s : Nat × Int) :
    tks f (Q.drop i) s = (if (f (rdRt Q (i : Int)) s).1 then tks f (Q.drop (i + 1)) (f (rdRt Q (i : Int)) s).2 else (false, (f (rdRt Q (i : Int)) s).2)) ∧ sumL ((Q.drop i).map area) = area (rdRt Q (i : Int)) + sumL ((Q.drop (i + 1)).map area) := by
  rw [List.drop_eq_getElem_cons hi, rdRt_nat hi]
  exact ⟨rfl, by simp only [List.map_cons, sumL]⟩
theorem len_sum : ∀ (Q : List Rt), (∀ q ∈ Q, 1 ≤ area q) → (Q.length : Int) ≤ sumL (Q.map area)
  | [], _ => by simp [sumL]
  | q :: Q, h => by
    have := len_sum Q fun x hx => h x (by simp [hx])
    have h1 := h q (by simp)
    simp only [List.length_cons, List.map_cons, sumL]; push_cast; omega
structure WkA where
  Lw : Xf.Loc
  L : Xf.Loc
  sz : Nat
  l : List Pt
  o : Nat
  c : Int
  r : Rt
def wkV (L : Xf.Loc) (sz : Nat) (l : List Pt) (s : Nat × Int) : List SV := [.sl 1 L sz s.1 ((l.length - s.1 : Nat) : Int), .int .i64 s.2]
def fs61 (p : Pn) (N : Nat) : FS where
  A := WkA
  args := fun a => [.ptr 0 a.Lw 0 0 0, a.r.sv]
  mem := fun a => [some (.lent, a.Lw, .cells (wkV a.L a.sz a.l (a.o, a.c))), some (.ro, a.L, .recs 5 false [] (a.l.map Pt.rc))]
  pre := fun a => p.grey ∧ inR p a.r ∧ a.r.w * a.r.h ≤ N ∧ a.l.length ≤ 1000000 ∧ (0 < a.l.length → a.sz = 5) ∧ a.o ≤ a.l.length ∧ 0 ≤ a.c ∧ a.c + area a.r ≤ 1000000
  res := fun a _ => .bool (tk a.l N a.r (a.o, a.c)).1
  out := fun a _ => [some (some (.cells (wkV a.L a.sz a.l (tk a.l N a.r (a.o, a.c)).2)))]
  new := fun _ _ => []
def inv61 : List SV → Look → Option (WkA × List Nat)
  | [.ptr c0 _ 0 0 0, .agg [.int .i64 x, .int .i64 y, .int .i64 w, .int .i64 h]], look => match rowC (look c0) with
    | some (Lw, [.sl d _ s o _, .int .i64 c]) => match rowR (look d) with
      | some (L, 5, _, r) => match getPt r with | some l => some (⟨Lw, L, s, l, o.toNat, c, ⟨x, y, w, h⟩⟩, [c0, d]) | none => none
      | _ => none
    | _ => none
  | _, _ => none
attribute [push_cast] inv61
set_option maxRecDepth 4000 in
set_option maxHeartbeats 2000000 in
theorem ok61 (p : Pn) : ∀ N, FSOk Try.prog 61 (fs61 p N)
  | 0 => by
    refine ⟨⟨_, Try.func61, by kernel_rfl, by kernel_rfl⟩, fun a => ⟨by simp [fs61, wkV, push_cast, noMine, argOwn, Chunk.frArg], by simp [fs61, wkV, push_cast, outOk, Chunk.ext], fun x => .inl (by simp [fs61, wkV, push_cast, frNew, frOut, Chunk.fr])⟩, fun a hp => ?_⟩
    obtain ⟨h1, h2, h3, h4⟩ := hp
    have := area_pos h2
    unfold area at this
    omega
  | N + 1 => by
    have ih := ok61 p N
    refine ⟨⟨_, Try.func61, by kernel_rfl, by kernel_rfl⟩, fun a => ⟨by simp [fs61, wkV, push_cast, noMine, argOwn, Chunk.frArg], by simp [fs61, wkV, push_cast, outOk, Chunk.ext], fun x => .inl (by simp [fs61, wkV, push_cast, frNew, frOut, Chunk.fr])⟩, fun a hp => ?_⟩
    obtain ⟨Lw, L, sz, l, o, c, r⟩ := a
    obtain ⟨hg, hin, hN, hl, hsz, ho, hc0, hc1⟩ : p.grey ∧ inR p r ∧ r.w * r.h ≤ ((N + 1 : Nat) : Int) ∧ l.length ≤ 1000000 ∧ (0 < l.length → sz = 5) ∧ o ≤ l.length ∧ 0 ≤ c ∧ c + area r ≤ 1000000 := hp
    have hok2 := hin.ok2 hg
    have har := area_pos hin
    have hne := qs_ne hin
    have hrec := fun {q : Rt} (hq : q ∈ qs r) (h1 : ¬ r.w * r.h = 1) => (show inR p q ∧ q.w * q.h ≤ N from ⟨(qs_in hin q hq).1, by have := (qs_in hin q hq).2 h1; unfold area at this; omega⟩)
    have hT0 : ¬ o < l.length → tk l (N + 1) r (o, c) = (false, o, c) := fun h => by rw [tk, if_neg h]
    have hT1 : o < l.length → (rdPt l o).rt = r → tk l (N + 1) r (o, c) = (true, o + 1, c) := fun h h' => by rw [tk, if_pos h, if_pos h']
    have hT2 : o < l.length → ¬ (rdPt l o).rt = r → r.w * r.h = 1 → tk l (N + 1) r (o, c) = (false, o, c) := fun h h' h1 => by rw [tk, if_pos h, if_neg h', if_pos h1]
    have hT3 : o < l.length → ¬ (rdPt l o).rt = r → ¬ r.w * r.h = 1 → tk l (N + 1) r (o, c) = tks (tk l N) (qs r) (o, c + 1) := fun h h' h1 => by rw [tk, if_pos h, if_neg h', if_neg h1]
    have hq2 := fun h1 => qs_two (r := r) hin h1
    have hqsum := qs_sum r
    obtain ⟨Q, hQ⟩ : ∃ Q, qs r = Q := ⟨_, rfl⟩
    obtain ⟨A, hA⟩ : ∃ A, area r = A := ⟨_, rfl⟩
    rw [hQ, hA] at hqsum
    rw [hQ] at hq2 hne
    rw [hA] at hc1
    obtain ⟨f, hf⟩ : ∃ f, tk l N = f := ⟨_, rfl⟩
    simp only [hQ, hf] at hT3 hrec
    obtain ⟨x, y, w, h⟩ := r
    obtain ⟨i1, i2, i3, i4, i5, i6⟩ := id hin
    obtain ⟨g1, g2, g3, g4⟩ := id hg
    simp only at i1 i2 i3 i4 i5 i6 hN hT1 hT2 hT3 hq2 hrec
    have hm := mul_bd (a := w) (b := h) (A := 200) (B := 200) (by omega) (by omega) (by omega) (by omega)
    have hget := getPt_map l
    change Tri Try.prog 61 [.ptr 0 Lw 0 0 0, .agg [.int .i64 x, .int .i64 y, .int .i64 w, .int .i64 h]] [some (.lent, Lw, .cells [.sl 1 L sz o ((l.length - o : Nat) : Int), .int .i64 c]), some (.ro, L, .recs 5 false [] (l.map Pt.rc))] (postF (fs61 p (N + 1)) ⟨Lw, L, sz, l, o, c, ⟨x, y, w, h⟩⟩)
    refine tri_evS (hyp (l := [(61, spOf (fs61 p N) inv61), (54, ent54), (55, ent55)]) (lp := [])
      ⟨entry_of ih inv61, e54, e55, trivial⟩ trivial) Try.func61 comp61 (rs := [.tmp 4]) (by rfl) Try.ntmps61 25 ?_
    by_cases hol : o < l.length
    case neg =>
      have hm0 : ((l.length - o : Nat) : Int) = 0 := by omega
      simp -implicitDefEqProofs only [push_cast, false_implies, reduceCtorEq, Classical.not_not, Nat.reduceAdd, Nat.reduceSub, Nat.reduceMul, Nat.reduceLeDiff, Nat.reduceLT, Nat.reduceEqDiff, Nat.reduceBEq, Nat.reduceBNe, Int.reduceNeg, Int.reduceToNat, Bool.or_false, Bool.false_or, Bool.or_true, Bool.true_or, BEq.rfl, Bool.not_eq_true, Bool.not_eq_false, decide_eq_true_eq, not_true_eq_false, not_false_eq_true, ite_true, ite_false, List.append_nil, and_assoc, Nat.mul_zero, Nat.zero_mul, ir61, hm0]
      intro X
      refine postF.mk' (fun _ => default) [some 0, some 1] ?_
      simp -implicitDefEqProofs only [push_cast, false_implies, reduceCtorEq, Classical.not_not, Nat.reduceAdd, Nat.reduceSub, Nat.reduceMul, Nat.reduceLeDiff, Nat.reduceLT, Nat.reduceEqDiff, Nat.reduceBEq, Nat.reduceBNe, Int.reduceNeg, Int.reduceToNat, Bool.or_false, Bool.false_or, Bool.or_true, Bool.true_or, BEq.rfl, Bool.not_eq_true, Bool.not_eq_false, decide_eq_true_eq, not_true_eq_false, not_false_eq_true, ite_true, ite_false, List.append_nil, and_assoc, Nat.mul_zero, Nat.zero_mul, fs61, wkV, hT0 hol, hm0]
    obtain rfl := hsz (by omega)
    have r1 := recAt_Pt hol []
    obtain ⟨q, hq⟩ : ∃ q, rdPt l o = q := ⟨_, rfl⟩
    rw [hq] at r1 hT1 hT2 hT3
    obtain ⟨kd, qx, qy, qw, qh⟩ := q
    obtain ⟨m, hm0⟩ : ∃ m, l.length - o = m + 1 := ⟨l.length - o - 1, by omega⟩
    have hm1 : ¬ (m : Int) + 1 = 0 := by omega
    have hm2 : l.length - (o + 1) = m := by omega
    have hlm : (l.map Pt.rc).length = l.length := List.length_map _
    have hrt : (Pt.rt ⟨kd, qx, qy, qw, qh⟩ = ⟨x, y, w, h⟩) ↔ (qx = x ∧ qy = y ∧ qw = w ∧ qh = h) := by simp [Pt.rt]
    rw [hrt] at hT1 hT2 hT3
    replace hT1 := hT1 hol
    replace hT2 := hT2 hol
    replace hT3 := hT3 hol
    simp only [hm0]
    simp -implicitDefEqProofs only [push_cast, false_implies, reduceCtorEq, Classical.not_not, Nat.reduceAdd, Nat.reduceSub, Nat.reduceMul, Nat.reduceLeDiff, Nat.reduceLT, Nat.reduceEqDiff, Nat.reduceBEq, Nat.reduceBNe, Int.reduceNeg, Int.reduceToNat, Bool.or_false, Bool.false_or, Bool.or_true, Bool.true_or, BEq.rfl, Bool.not_eq_true, Bool.not_eq_false, decide_eq_true_eq, not_true_eq_false, not_false_eq_true, ite_true, ite_false, List.append_nil, and_assoc, Nat.mul_zero, Nat.zero_mul, ir61, r1, Pt.rc, hm1, fs54, hlm, fs55, Rt.sv, hok2, hQ, hf]
    intro X X1
    repeat (refine And.intro (by first | omega | trivial | (intros; omega)) ?_)
    refine ⟨fun heq => ?_, fun heq => ⟨by omega, by omega, fun h1 => ?_, fun h1 => ?_⟩⟩
    · refine ⟨by omega, by omega, by omega, ?_⟩
      have e1 : (m : Int) + 1 - 1 = m := by omega
      refine postF.mk' (fun _ => default) [some 0, some 1] ?_
      simp -implicitDefEqProofs only [push_cast, false_implies, reduceCtorEq, Classical.not_not, Nat.reduceAdd, Nat.reduceSub, Nat.reduceMul, Nat.reduceLeDiff, Nat.reduceLT, Nat.reduceEqDiff, Nat.reduceBEq, Nat.reduceBNe, Int.reduceNeg, Int.reduceToNat, Bool.or_false, Bool.false_or, Bool.or_true, Bool.true_or, BEq.rfl, Bool.not_eq_true, Bool.not_eq_false, decide_eq_true_eq, not_true_eq_false, not_false_eq_true, ite_true, ite_false, List.append_nil, and_assoc, Nat.mul_zero, Nat.zero_mul, fs61, wkV, hT1 heq, hm2, e1]
    · refine postF.mk' (fun _ => default) [some 0, some 1] ?_
      simp -implicitDefEqProofs only [push_cast, false_implies, reduceCtorEq, Classical.not_not, Nat.reduceAdd, Nat.reduceSub, Nat.reduceMul, Nat.reduceLeDiff, Nat.reduceLT, Nat.reduceEqDiff, Nat.reduceBEq, Nat.reduceBNe, Int.reduceNeg, Int.reduceToNat, Bool.or_false, Bool.false_or, Bool.or_true, Bool.true_or, BEq.rfl, Bool.not_eq_true, Bool.not_eq_false, decide_eq_true_eq, not_true_eq_false, not_false_eq_true, ite_true, ite_false, List.append_nil, and_assoc, Nat.mul_zero, Nat.zero_mul, fs61, wkV, hT2 heq h1, hm0]
    · refine ⟨by omega, by omega, fun X2 => ?_⟩
      replace hT3 := hT3 heq h1
      replace hq2 := hq2 h1
      have hra := fun {q : Rt} (hq : q ∈ Q) => hrec hq h1
      have hareas : ∀ q ∈ Q, 1 ≤ area q := fun q hq => area_pos (hra hq).1
      have hQ4 : Q.length ≤ 4 := by rw [← hQ]; exact Nat.le_trans (List.length_filter_le _ _) (by simp [qd])
      have hlr : (Q.map Rt.rc ++ List.replicate (4 - Q.length) zR).length = 4 := by rw [List.length_append, List.length_map, List.length_replicate]; omega
      refine evS_loopU (A := Nat × Nat × Int) kp61_1 kl61_1 (fun y => [(50, .int .i64 y.1)]) (fun y => [(0, .lent, Lw, .cells (wkV L 5 l y.2))])
        (fun y => y.1 ≤ Q.length ∧ y.2.1 ≤ l.length ∧ 0 ≤ y.2.2 ∧ y.2.2 + sumL ((Q.drop y.1).map area) + y.1 ≤ c + 1 + A ∧ tks f Q (o, c + 1) = tks f (Q.drop y.1) y.2) (fun y => Q.length - y.1) (0, o, c + 1) ⟨Nat.zero_le _, ho, by simp only; omega, by rw [List.drop_zero]; simp only; omega, by rw [List.drop_zero]⟩ (Sub.pt ?_) ?_
      · simp -implicitDefEqProofs only [push_cast, false_implies, reduceCtorEq, Classical.not_not, Nat.reduceAdd, Nat.reduceSub, Nat.reduceMul, Nat.reduceLeDiff, Nat.reduceLT, Nat.reduceEqDiff, Nat.reduceBEq, Nat.reduceBNe, Int.reduceNeg, Int.reduceToNat, Bool.or_false, Bool.false_or, Bool.or_true, Bool.true_or, BEq.rfl, Bool.not_eq_true, Bool.not_eq_false, decide_eq_true_eq, not_true_eq_false, not_false_eq_true, ite_true, ite_false, List.append_nil, and_assoc, Nat.mul_zero, Nat.zero_mul, wkV, hm0]
      intro ⟨k, o', c'⟩ ⟨(hk : k ≤ Q.length), (ho' : o' ≤ l.length), (hc' : 0 ≤ c'), (hsum : c' + sumL ((Q.drop k).map area) + k ≤ c + 1 + A), (htk : tks f Q (o, c + 1) = tks f (Q.drop k) (o', c'))⟩ K hK
      by_cases hk' : k < Q.length
      · obtain ⟨d1, d2⟩ := tks_drop (f := f) hk' (o', c')
        have hmem := rdRt_mem hk'
        have r2 := recAt_Rt (l := Q) (i := (k : Int)) (by omega) (by omega) [] (List.replicate (4 - Q.length) zR)
        have hls := len_sum (Q.drop (k + 1)) fun q hq => hareas q (List.mem_of_mem_drop hq)
        rw [List.length_drop] at hls
        obtain ⟨q, hqq⟩ : ∃ q, rdRt Q (k : Int) = q := ⟨_, rfl⟩
        rw [hqq] at d1 d2 hmem r2
        obtain ⟨p1, p2⟩ := hra hmem
        have hbd := tk_bd N q (o', c') p1 p2 ho'
        rw [hf] at hbd
        have hfq : tk l N q (o', c') = f q (o', c') := by rw [hf]
        obtain ⟨b, o2, c2, hfr⟩ : ∃ b o2 c2, f q (o', c') = (b, o2, c2) := ⟨_, _, _, rfl⟩
        rw [hfr] at hbd hfq d1
        obtain ⟨n1, n2, n3, n4⟩ := hbd
        obtain ⟨a, hqa⟩ : ∃ a, area q = a := ⟨_, rfl⟩
        rw [hqa] at d2 n4
        have hpa : c' + a ≤ 1000000 := by omega
        rw [d1] at htk
        obtain ⟨qx', qy', qw', qh'⟩ := q
        simp only at n1 n2 n3 n4 p2 htk
        simp -implicitDefEqProofs only [push_cast, false_implies, reduceCtorEq, Classical.not_not, Nat.reduceAdd, Nat.reduceSub, Nat.reduceMul, Nat.reduceLeDiff, Nat.reduceLT, Nat.reduceEqDiff, Nat.reduceBEq, Nat.reduceBNe, Int.reduceNeg, Int.reduceToNat, Bool.or_false, Bool.false_or, Bool.or_true, Bool.true_or, BEq.rfl, Bool.not_eq_true, Bool.not_eq_false, decide_eq_true_eq, not_true_eq_false, not_false_eq_true, ite_true, ite_false, List.append_nil, and_assoc, Nat.mul_zero, Nat.zero_mul, b61_1, r2, Rt.rc, hlr, fs61, wkV, hfq, hqa, hget, hlm, Int.toNat_natCast]
        refine ⟨fun _ X3 => ?_, fun h => by omega⟩
        repeat (refine And.intro (by first | omega | trivial | (intros; omega)) ?_)
        refine ⟨fun hb => ?_, fun hb => ?_⟩
        · have hb' : b = false := by simpa using hb
          subst hb'
          rw [if_neg (by decide)] at htk
          clear hK
          refine postF.mk' (fun _ => default) [some 0, some 1] ?_
          simp -implicitDefEqProofs only [push_cast, false_implies, reduceCtorEq, Classical.not_not, Nat.reduceAdd, Nat.reduceSub, Nat.reduceMul, Nat.reduceLeDiff, Nat.reduceLT, Nat.reduceEqDiff, Nat.reduceBEq, Nat.reduceBNe, Int.reduceNeg, Int.reduceToNat, Bool.or_false, Bool.false_or, Bool.or_true, Bool.true_or, BEq.rfl, Bool.not_eq_true, Bool.not_eq_false, decide_eq_true_eq, not_true_eq_false, not_false_eq_true, ite_true, ite_false, List.append_nil, and_assoc, Nat.mul_zero, Nat.zero_mul, hT3, htk]
        · have hb' : b = true := by simpa using hb
          subst hb'
          rw [if_pos rfl] at htk
          repeat (refine And.intro (by first | omega | trivial | (intros; omega)) ?_)
          refine hK (k + 1, o2, c2) ⟨show k + 1 ≤ Q.length by omega, n2, by simp only; omega, by simp only; push_cast; omega, htk⟩ (show Q.length - (k + 1) < Q.length - k by omega) _ _ (Sub.pt ?_)
          simp -implicitDefEqProofs only [push_cast, false_implies, reduceCtorEq, Classical.not_not, Nat.reduceAdd, Nat.reduceSub, Nat.reduceMul, Nat.reduceLeDiff, Nat.reduceLT, Nat.reduceEqDiff, Nat.reduceBEq, Nat.reduceBNe, Int.reduceNeg, Int.reduceToNat, Bool.or_false, Bool.false_or, Bool.or_true, Bool.true_or, BEq.rfl, Bool.not_eq_true, Bool.not_eq_false, decide_eq_true_eq, not_true_eq_false, not_false_eq_true, ite_true, ite_false, List.append_nil, and_assoc, Nat.mul_zero, Nat.zero_mul, wkV]
      · obtain rfl : k = Q.length := by omega
        clear hK
        rw [List.drop_length] at htk
        have e1 : tks f [] (o', c') = (true, o', c') := rfl
        rw [e1] at htk
        simp -implicitDefEqProofs only [push_cast, false_implies, reduceCtorEq, Classical.not_not, Nat.reduceAdd, Nat.reduceSub, Nat.reduceMul, Nat.reduceLeDiff, Nat.reduceLT, Nat.reduceEqDiff, Nat.reduceBEq, Nat.reduceBNe, Int.reduceNeg, Int.reduceToNat, Bool.or_false, Bool.false_or, Bool.or_true, Bool.true_or, BEq.rfl, Bool.not_eq_true, Bool.not_eq_false, decide_eq_true_eq, not_true_eq_false, not_false_eq_true, ite_true, ite_false, List.append_nil, and_assoc, Nat.mul_zero, Nat.zero_mul, b61_1, r61_2, Int.lt_irrefl, true_implies, true_and, wkV]
        refine postF.mk' (fun _ => default) [some 0, some 1] ?_
        simp -implicitDefEqProofs only [push_cast, false_implies, reduceCtorEq, Classical.not_not, Nat.reduceAdd, Nat.reduceSub, Nat.reduceMul, Nat.reduceLeDiff, Nat.reduceLT, Nat.reduceEqDiff, Nat.reduceBEq, Nat.reduceBNe, Int.reduceNeg, Int.reduceToNat, Bool.or_false, Bool.false_or, Bool.or_true, Bool.true_or, BEq.rfl, Bool.not_eq_true, Bool.not_eq_false, decide_eq_true_eq, not_true_eq_false, not_false_eq_true, ite_true, ite_false, List.append_nil, and_assoc, Nat.mul_zero, Nat.zero_mul, fs61, hT3, htk, wkV]
def ir41 : IR :=
  .seq (.reg false [⟨some 6, none, ⟨[], []⟩, .mov (.k (.int .i64 0))⟩,
    ⟨some 7, none, ⟨[], []⟩, .mov (.k (.bool false))⟩] [6, 7] []) (.seq (.seq (.reg false [⟨some 10, none, ⟨[], []⟩, .mov (.t 0)⟩,
    ⟨some 11, none, ⟨[], []⟩, .mov (.t 1)⟩,
    ⟨some 12, none, ⟨[], []⟩, .bin 0 .mul (.t 10) (.t 11)⟩,
    ⟨some 13, none, ⟨[], []⟩, .bin 0 .eql (.t 12) (.k (.int .i64 0))⟩] [10, 11, 12] []) (.cond (.t 13) (.seq (.reg false [⟨some 14, none, ⟨[], []⟩, .mov (.t 2)⟩,
    ⟨some 15, none, ⟨[], []⟩, .len (.t 14)⟩,
    ⟨some 16, none, ⟨[], []⟩, .bin 0 .eql (.t 15) (.k (.int .i64 0))⟩,
    ⟨some 6, none, ⟨[], []⟩, .mov (.k (.int .i64 0))⟩,
    ⟨some 7, none, ⟨[], []⟩, .mov (.t 16)⟩] [0, 1, 2, 13, 14, 15, 16] []) (.ret)) (.skip))) (.seq (.reg false [⟨some 17, none, ⟨[], []⟩, .mov (.t 2)⟩,
    ⟨some 18, none, ⟨[], []⟩, .build [nilSV, .int .i64 0] [(0, 1, .t 17)]⟩,
    ⟨some 19, none, ⟨[], []⟩, .box 10 (.t 18)⟩,
    ⟨some 8, none, ⟨[], []⟩, .mov (.t 19)⟩] [2, 6, 7, 13, 17, 18, 19] []) (.seq (.reg false [⟨some 20, none, ⟨[], []⟩, .mov (.t 8)⟩,
    ⟨some 21, none, ⟨[], []⟩, .mov (.t 0)⟩,
    ⟨some 22, none, ⟨[], []⟩, .mov (.t 1)⟩,
    ⟨some 23, none, ⟨[], []⟩, .build [.int .i64 0, .int .i64 0, .int .i64 0, .int .i64 0] [(0, 1, .k (.int .i64 0)), (1, 1, .k (.int .i64 0)), (2, 1, .t 21), (3, 1, .t 22)]⟩,
    ⟨some 24, none, ⟨[], []⟩, .call none 11 61 [.t 20, .t 23]⟩,
    ⟨some 9, none, ⟨[], []⟩, .mov (.t 24)⟩] [0, 1, 20, 21, 22, 23, 24] []) (.seq (.reg true [⟨some 25, none, ⟨[], []⟩, .mov (.t 8)⟩,
    ⟨some 26, none, ⟨[], []⟩, .nilc (.t 25)⟩,
    ⟨some 27, none, ⟨[], []⟩, .fld (.t 26) 1⟩,
    ⟨some 28, none, ⟨[], []⟩, .ld false none 0 0 (.t 27)⟩,
    ⟨some 29, none, ⟨[], []⟩, .mov (.t 9)⟩,
    ⟨some 30, none, ⟨[], []⟩, .mov (.t 29)⟩,
    ⟨some 31, some (30, true), ⟨[], []⟩, .mov (.t 8)⟩,
    ⟨some 32, some (30, true), ⟨[], []⟩, .nilc (.t 31)⟩,
    ⟨some 33, some (30, true), ⟨[], []⟩, .fld (.t 32) 0⟩,
    ⟨some 34, some (30, true), ⟨[], []⟩, .ld false none 0 0 (.t 33)⟩,
    ⟨some 35, some (30, true), ⟨[], []⟩, .len (.t 34)⟩,
    ⟨some 36, some (30, true), ⟨[], []⟩, .bin 0 .eql (.t 35) (.k (.int .i64 0))⟩,
    ⟨some 37, none, ⟨[], []⟩, .pick (.t 30) (.t 36) (.k (.bool false))⟩,
    ⟨some 6, none, ⟨[], []⟩, .mov (.t 28)⟩,
    ⟨some 7, none, ⟨[], []⟩, .mov (.t 37)⟩] [8, 9, 25, 26, 27, 28, 29, 30, 31, 32, 33, 34, 35, 36, 37] []) (.ret)))))
set_option maxRecDepth 4000 in
theorem comp41 : (Try.f41.body.bind fun c => compC tab isP chkAll ir41 c) = some ir41 := by kernel_rfl
def ir20 : IR :=
  .seq (.reg false [⟨some 6, none, ⟨[], []⟩, .mov (.k (.int .i64 0))⟩,
    ⟨some 7, none, ⟨[], []⟩, .mov (.k (.int .i64 0))⟩] [6, 7] []) (.seq (.seq (.reg false [⟨some 10, none, ⟨[], []⟩, .mov (.t 0)⟩,
    ⟨some 11, none, ⟨[], []⟩, .mov (.t 1)⟩,
    ⟨some 12, none, ⟨[], []⟩, .callp 39 [.t 10, .t 11]⟩,
    ⟨some 13, none, ⟨[], []⟩, .not (.t 12)⟩,
    ⟨some 14, none, ⟨[], []⟩, .mov (.t 13)⟩,
    ⟨some 15, some (14, false), ⟨[], []⟩, .mov (.t 2)⟩,
    ⟨some 16, some (14, false), ⟨[], []⟩, .mov (.t 0)⟩,
    ⟨some 17, some (14, false), ⟨[], []⟩, .mov (.t 1)⟩,
    ⟨some 18, some (14, false), ⟨[], []⟩, .call (some 4) 10 40 [.t 15, .t 16, .t 17]⟩,
    ⟨some 19, some (14, false), ⟨[], []⟩, .not (.t 18)⟩,
    ⟨some 20, none, ⟨[], []⟩, .pick (.t 14) (.k (.bool true)) (.t 19)⟩] [10, 11, 12, 13, 14, 15, 16, 17, 18, 19] []) (.cond (.t 20) (.seq (.reg false [⟨some 6, none, ⟨[], []⟩, .mov (.k (.int .i64 0))⟩,
    ⟨some 7, none, ⟨[], []⟩, .mov (.k (.int .i64 2))⟩] [0, 1, 2, 20] []) (.ret)) (.skip))) (.seq (.reg false [⟨some 22, none, ⟨[], []⟩, .mov (.t 0)⟩,
    ⟨some 23, none, ⟨[], []⟩, .mov (.t 1)⟩,
    ⟨some 24, none, ⟨[], []⟩, .mov (.t 2)⟩,
    ⟨some 25, none, ⟨[], []⟩, .call (some 4) 14 41 [.t 22, .t 23, .t 24]⟩,
    ⟨some 21, none, ⟨[], []⟩, .mov (.t 25)⟩,
    ⟨some 26, none, ⟨[], []⟩, .ext (.t 21) 0⟩,
    ⟨some 27, none, ⟨[], []⟩, .ext (.t 21) 1⟩,
    ⟨some 8, none, ⟨[], []⟩, .mov (.t 26)⟩,
    ⟨some 9, none, ⟨[], []⟩, .mov (.t 27)⟩] [0, 1, 2, 6, 7, 20, 21, 22, 23, 24, 25, 26, 27] []) (.seq (.seq (.reg false [⟨some 28, none, ⟨[], []⟩, .mov (.t 9)⟩,
    ⟨some 29, none, ⟨[], []⟩, .not (.t 28)⟩] [9, 28] []) (.cond (.t 29) (.seq (.reg false [⟨some 6, none, ⟨[], []⟩, .mov (.k (.int .i64 0))⟩,
    ⟨some 7, none, ⟨[], []⟩, .mov (.k (.int .i64 71))⟩] [8, 29] []) (.ret)) (.skip))) (.seq (.reg false [⟨some 30, none, ⟨[], []⟩, .mov (.t 8)⟩,
    ⟨some 6, none, ⟨[], []⟩, .mov (.t 30)⟩,
    ⟨some 7, none, ⟨[], []⟩, .mov (.k (.int .i64 0))⟩] [8, 29, 30] []) (.ret)))))
set_option maxRecDepth 4000 in
theorem comp20 : (Try.f20.body.bind fun c => compC tab isP chkAll ir20 c) = some ir20 := by kernel_rfl
/-- A plane of w by h, of zeros. -/
def zP (w h : Int) : Pn := ⟨w.toNat, h.toNat, List.replicate (h.toNat * w.toNat) 0⟩
theorem zP_ok {w h : Int} (w0 : 0 ≤ w) (w1 : w ≤ 200) (h0 : 0 ≤ h) (h1 : h ≤ 200) (hn : ¬ w * h = 0) : (zP w h).grey ∧ inR (zP w h) ⟨0, 0, w, h⟩ ∧ w * h ≤ (fuelN : Int) ∧ 1 ≤ w ∧ 1 ≤ h := by
  have hw : w ≠ 0 := fun e => hn (by rw [e, Int.zero_mul])
  have hh : h ≠ 0 := fun e => hn (by rw [e, Int.mul_zero])
  have := mul_bd w0 w1 h0 h1
  refine ⟨⟨show w.toNat ≤ 200 by omega, show h.toNat ≤ 200 by omega, by simp [zP], allIn_rd.2 fun i hi => ?_⟩, ⟨Int.le_refl _, Int.le_refl _, show 1 ≤ w by omega, show 1 ≤ h by omega, show 0 + w ≤ (w.toNat : Int) by omega, show 0 + h ≤ (h.toNat : Int) by omega⟩, show w * h ≤ ((40000 : Nat) : Int) by omega, by omega, by omega⟩
  simp [zP] at hi ⊢
  simp [rd, hi]
def cuT (w h : Int) (l : List Pt) : Bool × Nat × Int := tk l fuelN ⟨0, 0, w, h⟩ (0, 0)
/-- Whether a list is a tree, and its cuts. -/
def cuS (w h : Int) (l : List Pt) : Bool × Int := if w * h = 0 then (decide (l.length = 0), 0) else ((cuT w h l).1 && decide ((cuT w h l).2.1 = l.length), (cuT w h l).2.2)
def fs41 : FS where
  A := ArA
  args := fun a => [.int .i64 a.w, .int .i64 a.h, .sl 0 a.L a.s 0 a.l.length]
  mem := fun a => [some (.ro, a.L, .recs 5 false [] (a.l.map Pt.rc))]
  pre := fun a => a.l.length ≤ 1000000 ∧ (0 < a.l.length → a.s = 5) ∧ 0 ≤ a.w ∧ a.w ≤ 200 ∧ 0 ≤ a.h ∧ a.h ≤ 200
  res := fun a _ => .tup [.int .i64 (cuS a.w a.h a.l).2, .bool (cuS a.w a.h a.l).1]
  out := fun _ _ => []
  new := fun _ _ => []
def inv41 : List SV → Look → Option (ArA × List Nat)
  | [.int .i64 W, .int .i64 H, .sl c _ s 0 _], look => match rowR (look c) with
    | some (L, 5, _, r) => match getPt r with | some l => some (⟨L, s, l, W, H⟩, [c]) | none => none
    | _ => none
  | _, _ => none
attribute [push_cast] inv41
theorem ok41 : FSOk Try.prog 41 fs41 := by
  refine ⟨⟨_, Try.func41, by kernel_rfl, by kernel_rfl⟩, fun a => ⟨by simp [fs41, push_cast, noMine, argOwn, Chunk.frArg], by simp [fs41, push_cast, outOk, Chunk.ext], fun x => .inl (by simp [fs41, push_cast, frNew, frOut, Chunk.fr])⟩, fun a hp => ?_⟩
  obtain ⟨L, s, l, W, H⟩ := a
  obtain ⟨hl, hs, h1, h2, h3, h4⟩ : l.length ≤ 1000000 ∧ (0 < l.length → s = 5) ∧ 0 ≤ W ∧ W ≤ 200 ∧ 0 ≤ H ∧ H ≤ 200 := hp
  have hm := mul_bd h1 h2 h3 h4
  have hget := getPt_map l
  have hlm : (l.map Pt.rc).length = l.length := List.length_map _
  change Tri Try.prog 41 [.int .i64 W, .int .i64 H, .sl 0 L s 0 l.length] [some (.ro, L, .recs 5 false [] (l.map Pt.rc))] (postF fs41 ⟨L, s, l, W, H⟩)
  refine tri_evS (hyp (l := [(61, spOf (fs61 (zP W H) fuelN) inv61)]) (lp := [])
      ⟨entry_of (ok61 (zP W H) fuelN) inv61, trivial⟩ trivial) Try.func41 comp41 (rs := [.tmp 6, .tmp 7]) (by rfl) Try.ntmps41 15 ?_
  by_cases hn : W * H = 0
  · have e1 : cuS W H l = (decide (l.length = 0), 0) := by unfold cuS; rw [if_pos hn]
    have hi : ((l.length : Int) = 0) = (l.length = 0) := by simp
    simp -implicitDefEqProofs only [push_cast, false_implies, reduceCtorEq, Classical.not_not, Nat.reduceAdd, Nat.reduceSub, Nat.reduceMul, Nat.reduceLeDiff, Nat.reduceLT, Nat.reduceEqDiff, Nat.reduceBEq, Nat.reduceBNe, Int.reduceNeg, Int.reduceToNat, Bool.or_false, Bool.false_or, Bool.or_true, Bool.true_or, BEq.rfl, Bool.not_eq_true, Bool.not_eq_false, decide_eq_true_eq, not_true_eq_false, not_false_eq_true, ite_true, ite_false, List.append_nil, and_assoc, Nat.mul_zero, Nat.zero_mul, ir41, hn]
    refine ⟨by decide, by decide, postF.mk' (fun _ => default) [some 0] ?_⟩
    simp -implicitDefEqProofs only [push_cast, false_implies, reduceCtorEq, Classical.not_not, Nat.reduceAdd, Nat.reduceSub, Nat.reduceMul, Nat.reduceLeDiff, Nat.reduceLT, Nat.reduceEqDiff, Nat.reduceBEq, Nat.reduceBNe, Int.reduceNeg, Int.reduceToNat, Bool.or_false, Bool.false_or, Bool.or_true, Bool.true_or, BEq.rfl, Bool.not_eq_true, Bool.not_eq_false, decide_eq_true_eq, not_true_eq_false, not_false_eq_true, ite_true, ite_false, List.append_nil, and_assoc, Nat.mul_zero, Nat.zero_mul, fs41, e1, hi]
  · obtain ⟨z1, z2, z3, z4, z5⟩ := zP_ok h1 h2 h3 h4 hn
    have e1 : cuS W H l = ((cuT W H l).1 && decide ((cuT W H l).2.1 = l.length), (cuT W H l).2.2) := by unfold cuS; rw [if_neg hn]
    have hl0 : l.length - 0 = l.length := rfl
    have hbd := tk_bd fuelN ⟨0, 0, W, H⟩ (0, 0) (l := l) z2 z3 (Nat.zero_le _)
    have har : area ⟨0, 0, W, H⟩ = W * H := rfl
    obtain ⟨b, o, c, ht⟩ : ∃ b o c, cuT W H l = (b, o, c) := ⟨_, _, _, rfl⟩
    rw [ht] at e1
    unfold cuT at ht
    rw [ht, har] at hbd
    simp -implicitDefEqProofs only [push_cast, false_implies, reduceCtorEq, Classical.not_not, Nat.reduceAdd, Nat.reduceSub, Nat.reduceMul, Nat.reduceLeDiff, Nat.reduceLT, Nat.reduceEqDiff, Nat.reduceBEq, Nat.reduceBNe, Int.reduceNeg, Int.reduceToNat, Bool.or_false, Bool.false_or, Bool.or_true, Bool.true_or, BEq.rfl, Bool.not_eq_true, Bool.not_eq_false, decide_eq_true_eq, not_true_eq_false, not_false_eq_true, ite_true, ite_false, List.append_nil, and_assoc, Nat.mul_zero, Nat.zero_mul, ir41, hn, fs61, wkV, hget, hlm, Int.toNat_natCast, ht, har, hl0, z1, z2, z3]
    obtain ⟨-, b1, b2, b3⟩ := hbd
    simp only at b1 b2 b3
    have hi : (((l.length - o : Nat) : Int) = 0) = (o = l.length) := by
      apply propext; constructor <;> intro h <;> omega
    refine ⟨by omega, by omega, fun X => ⟨hl, hs, Nat.zero_le _, by decide, by omega, ?_⟩⟩
    refine postF.mk' (fun _ => default) [some 0] ?_
    simp -implicitDefEqProofs only [push_cast, false_implies, reduceCtorEq, Classical.not_not, Nat.reduceAdd, Nat.reduceSub, Nat.reduceMul, Nat.reduceLeDiff, Nat.reduceLT, Nat.reduceEqDiff, Nat.reduceBEq, Nat.reduceBNe, Int.reduceNeg, Int.reduceToNat, Bool.or_false, Bool.false_or, Bool.or_true, Bool.true_or, BEq.rfl, Bool.not_eq_true, Bool.not_eq_false, decide_eq_true_eq, not_true_eq_false, not_false_eq_true, ite_true, ite_false, List.append_nil, and_assoc, Nat.mul_zero, Nat.zero_mul, fs41, e1, hi]
def ent41 : Entry := spOf fs41 inv41
theorem e41 : EntryOk Try.prog 41 ent41 := entry_of ok41 inv41
@[push_cast] theorem ent41_app (us : List SV) (look : Look) (x : Nat → Xf.Loc) (k : Nat) : ent41 us look x k = spOf fs41 inv41 us look x k := rfl
def cuN (w h : Int) (l : List Pt) : Int := if ptsIn w h l ∧ (cuS w h l).1 = true then (cuS w h l).2 else 0
def cuE (w h : Int) (l : List Pt) : Int := if ptsIn w h l then if (cuS w h l).1 = true then 0 else 71 else 2
def fs20 : FS := { fs41 with res := fun a _ => .tup [.int .i64 (cuN a.w a.h a.l), .int .i64 (cuE a.w a.h a.l)] }
theorem ok20 : FSOk Try.prog 20 fs20 := by
  refine ⟨⟨_, Try.func20, by kernel_rfl, by kernel_rfl⟩, fun a => ⟨by simp [fs20, fs41, push_cast, noMine, argOwn, Chunk.frArg], by simp [fs20, fs41, push_cast, outOk, Chunk.ext], fun x => .inl (by simp [fs20, fs41, push_cast, frNew, frOut, Chunk.fr])⟩, fun a hp => ?_⟩
  obtain ⟨L, s, l, W, H⟩ := a
  obtain ⟨hl, hs, h1, h2, h3, h4⟩ : l.length ≤ 1000000 ∧ (0 < l.length → s = 5) ∧ 0 ≤ W ∧ W ≤ 200 ∧ 0 ≤ H ∧ H ≤ 200 := hp
  have hget := getPt_map l
  have hlm : (l.map Pt.rc).length = l.length := List.length_map _
  change Tri Try.prog 20 [.int .i64 W, .int .i64 H, .sl 0 L s 0 l.length] [some (.ro, L, .recs 5 false [] (l.map Pt.rc))] (postF fs20 ⟨L, s, l, W, H⟩)
  refine tri_evS (hyp (l := [(40, ent40), (41, ent41)]) (lp := [(39, sides4F)]) ⟨e40, e41, trivial⟩ ⟨p39, trivial⟩) Try.func20 comp20 (rs := [.tmp 6, .tmp 7]) (by rfl) Try.ntmps20 18 ?_
  obtain ⟨⟨b, n⟩, hc⟩ : ∃ c, cuS W H l = c := ⟨_, rfl⟩
  have hw : 0 ≤ W ∧ 0 ≤ H ∧ W ≤ 200 ∧ H ≤ 200 := ⟨h1, h3, h2, h4⟩
  by_cases hP : ptsIn W H l
  · cases b
    all_goals
      simp -implicitDefEqProofs only [push_cast, false_implies, reduceCtorEq, Classical.not_not, Nat.reduceAdd, Nat.reduceSub, Nat.reduceMul, Nat.reduceLeDiff, Nat.reduceLT, Nat.reduceEqDiff, Nat.reduceBEq, Nat.reduceBNe, Int.reduceNeg, Int.reduceToNat, Bool.or_false, Bool.false_or, Bool.or_true, Bool.true_or, BEq.rfl, Bool.not_eq_true, Bool.not_eq_false, decide_eq_true_eq, not_true_eq_false, not_false_eq_true, ite_true, ite_false, List.append_nil, and_assoc, Nat.mul_zero, Nat.zero_mul, ir20, fs40, fs41, hget, hlm, hc, h1, h2, h3, h4, hl, hs, hP]
      refine ⟨hs, hs, ?_⟩
      refine postF.mk' (fun _ => default) [some 0] ?_
      simp -implicitDefEqProofs only [push_cast, false_implies, reduceCtorEq, Classical.not_not, Nat.reduceAdd, Nat.reduceSub, Nat.reduceMul, Nat.reduceLeDiff, Nat.reduceLT, Nat.reduceEqDiff, Nat.reduceBEq, Nat.reduceBNe, Int.reduceNeg, Int.reduceToNat, Bool.or_false, Bool.false_or, Bool.or_true, Bool.true_or, BEq.rfl, Bool.not_eq_true, Bool.not_eq_false, decide_eq_true_eq, not_true_eq_false, not_false_eq_true, ite_true, ite_false, List.append_nil, and_assoc, Nat.mul_zero, Nat.zero_mul, fs20, fs41, cuN, cuE, hc, hP, if_true, if_false, false_and, true_and]
  · simp -implicitDefEqProofs only [push_cast, false_implies, reduceCtorEq, Classical.not_not, Nat.reduceAdd, Nat.reduceSub, Nat.reduceMul, Nat.reduceLeDiff, Nat.reduceLT, Nat.reduceEqDiff, Nat.reduceBEq, Nat.reduceBNe, Int.reduceNeg, Int.reduceToNat, Bool.or_false, Bool.false_or, Bool.or_true, Bool.true_or, BEq.rfl, Bool.not_eq_true, Bool.not_eq_false, decide_eq_true_eq, not_true_eq_false, not_false_eq_true, ite_true, ite_false, List.append_nil, and_assoc, Nat.mul_zero, Nat.zero_mul, ir20, fs40, fs41, hget, hlm, hc, h1, h2, h3, h4, hl, hs, hP]
    refine ⟨hs, ?_⟩
    refine postF.mk' (fun _ => default) [some 0] ?_
    simp -implicitDefEqProofs only [push_cast, false_implies, reduceCtorEq, Classical.not_not, Nat.reduceAdd, Nat.reduceSub, Nat.reduceMul, Nat.reduceLeDiff, Nat.reduceLT, Nat.reduceEqDiff, Nat.reduceBEq, Nat.reduceBNe, Int.reduceNeg, Int.reduceToNat, Bool.or_false, Bool.false_or, Bool.or_true, Bool.true_or, BEq.rfl, Bool.not_eq_true, Bool.not_eq_false, decide_eq_true_eq, not_true_eq_false, not_false_eq_true, ite_true, ite_false, List.append_nil, and_assoc, Nat.mul_zero, Nat.zero_mul, fs20, fs41, cuN, cuE, hc, hP, if_true, if_false, false_and, true_and]
def ent20 : Entry := spOf fs20 inv41
theorem e20 : EntryOk Try.prog 20 ent20 := entry_of ok20 inv41
@[push_cast] theorem ent20_app (us : List SV) (look : Look) (x : Nat → Xf.Loc) (k : Nat) : ent20 us look x k = spOf fs20 inv41 us look x k := rfl
theorem cuS_bd {w h : Int} {l : List Pt} (w0 : 0 ≤ w) (w1 : w ≤ 200) (h0 : 0 ≤ h) (h1 : h ≤ 200) : 0 ≤ (cuS w h l).2 ∧ (cuS w h l).2 ≤ 40000 := by
  unfold cuS
  split
  · exact ⟨Int.le_refl _, show (0 : Int) ≤ 40000 by decide⟩
  · rename_i hn
    obtain ⟨z1, z2, z3, z4, z5⟩ := zP_ok w0 w1 h0 h1 hn
    have hm := mul_bd w0 w1 h0 h1
    have hbd := tk_bd fuelN ⟨0, 0, w, h⟩ (0, 0) (l := l) z2 z3 (Nat.zero_le _)
    have har : area ⟨0, 0, w, h⟩ = w * h := rfl
    rw [har] at hbd
    unfold cuT
    simp only at hbd ⊢
    omega
theorem cuN_bd {w h : Int} {l : List Pt} (w0 : 0 ≤ w) (w1 : w ≤ 200) (h0 : 0 ≤ h) (h1 : h ≤ 200) : 0 ≤ cuN w h l ∧ cuN w h l ≤ 40000 := by
  unfold cuN
  split
  · exact cuS_bd w0 w1 h0 h1
  · exact ⟨Int.le_refl _, by decide⟩
theorem paN_bd (p : Pl) (e : En) (x : Pt) : 0 ≤ paN p e x ∧ paN p e x ≤ 4000000000 := by
  unfold paN
  split
  · rename_i h
    obtain ⟨hG, hE, hI⟩ := h
    obtain ⟨j1, j2, j3, j4, j5, j6, j7, j8, j9, j10⟩ := hI
    obtain ⟨w, h, xs⟩ := p
    have hsd : SidesOk w h := hG.1
    obtain ⟨s1, s2, s3, s4, s5⟩ := hsd
    simp only at j7 j8 j9 j10
    have hl0 : 0 < xs.length := by
      have hl : (xs.length : Int) = w * h := hG.2.1
      have := Int.mul_pos (show 0 < w by omega) (show 0 < h by omega)
      omega
    obtain ⟨g1, g2, g3, g4, g5⟩ := hG.pn hl0
    exact en_bd g1 hE (r := x.rt) ⟨j3, j4, j5, j6, show x.x + x.w ≤ (w.toNat : Int) by omega, show x.y + x.h ≤ (h.toNat : Int) by omega⟩ _
  · exact ⟨Int.le_refl _, by decide⟩
def b17_1 : IR :=
  .seq (.reg false [⟨some 42, none, ⟨[], []⟩, .bin 0 .lss (.t 41) (.t 40)⟩] [] []) (.seq (.cond (.t 42) (.skip) (.exit 1)) (.seq (.block 2 (.seq (.reg false [⟨some 43, none, ⟨[], []⟩, .idxS (.t 39) (.t 41) 5⟩,
    ⟨some 44, none, ⟨[], []⟩, .ld true (some 5) 0 0 (.t 43)⟩,
    ⟨some 12, none, ⟨[], []⟩, .alloc 24 [.int .i64 0, .int .i64 0, .int .i64 0, .int .i64 0, .int .i64 0]⟩,
    ⟨none, none, ⟨[], []⟩, .sto false 5 .i64 (.t 12) (.t 44)⟩] [42, 43, 44] []) (.seq (.reg false [⟨some 46, none, ⟨[], []⟩, .ld false (some 3) 0 0 (.t 3)⟩,
    ⟨some 47, none, ⟨[], []⟩, .ld false (some 4) 0 0 (.t 4)⟩,
    ⟨some 48, none, ⟨[], []⟩, .ld false (some 5) 0 0 (.t 12)⟩,
    ⟨some 49, none, ⟨[], []⟩, .call (some 4) 25 16 [.t 46, .t 47, .t 48]⟩,
    ⟨some 45, none, ⟨[], []⟩, .mov (.t 49)⟩,
    ⟨some 50, none, ⟨[], []⟩, .ext (.t 45) 0⟩,
    ⟨some 51, none, ⟨[], []⟩, .ext (.t 45) 1⟩,
    ⟨some 13, none, ⟨[], []⟩, .mov (.t 50)⟩,
    ⟨some 14, none, ⟨[], []⟩, .mov (.t 51)⟩] [12, 14, 45, 46, 47, 48, 49, 50, 51] []) (.reg false [⟨some 52, none, ⟨[], []⟩, .mov (.t 10)⟩,
    ⟨some 53, none, ⟨[], []⟩, .mov (.t 13)⟩,
    ⟨some 54, none, ⟨[], []⟩, .bin 0 .add (.t 52) (.t 53)⟩,
    ⟨some 10, none, ⟨[], []⟩, .mov (.t 54)⟩] [13, 52, 53, 54] [])))) (.reg false [⟨some 55, none, ⟨[], []⟩, .bin 0 .add (.t 41) (.k (.int .i64 1))⟩,
    ⟨some 41, none, ⟨[], []⟩, .mov (.t 55)⟩] [55] [])))
def r17_2 : IR :=
  .seq (.reg false [⟨some 56, none, ⟨[], []⟩, .mov (.t 10)⟩,
    ⟨some 6, none, ⟨[], []⟩, .mov (.t 56)⟩,
    ⟨some 7, none, ⟨[], []⟩, .mov (.k (.int .i64 0))⟩] [3, 4, 10, 39, 40, 41, 56] []) (.ret)
def ir17 : IR :=
  .seq (.reg false [⟨some 3, none, ⟨[], []⟩, .box 10 (.t 0)⟩,
    ⟨some 4, none, ⟨[], []⟩, .box 11 (.t 1)⟩,
    ⟨some 6, none, ⟨[], []⟩, .mov (.k (.int .i64 0))⟩,
    ⟨some 7, none, ⟨[], []⟩, .mov (.k (.int .i64 0))⟩] [0, 1, 6, 7] []) (.seq (.block 0 (.seq (.reg false [⟨some 16, none, ⟨[], []⟩, .ld false (some 3) 0 0 (.t 3)⟩,
    ⟨some 17, none, ⟨[], []⟩, .call (some 4) 12 14 [.t 16]⟩,
    ⟨some 18, none, ⟨[], []⟩, .not (.t 17)⟩,
    ⟨some 15, none, ⟨[], []⟩, .mov (.t 18)⟩] [16, 17, 18] []) (.cond (.t 15) (.seq (.reg false [⟨some 6, none, ⟨[], []⟩, .mov (.k (.int .i64 0))⟩,
    ⟨some 7, none, ⟨[], []⟩, .mov (.k (.int .i64 70))⟩] [2, 3, 4, 15] []) (.ret)) (.seq (.reg false [⟨some 20, none, ⟨[], []⟩, .ld false (some 4) 0 0 (.t 4)⟩,
    ⟨some 21, none, ⟨[], []⟩, .call (some 4) 16 29 [.t 20]⟩,
    ⟨some 22, none, ⟨[], []⟩, .not (.t 21)⟩,
    ⟨some 19, none, ⟨[], []⟩, .mov (.t 22)⟩] [15, 20, 21, 22] []) (.cond (.t 19) (.seq (.reg false [⟨some 6, none, ⟨[], []⟩, .mov (.k (.int .i64 0))⟩,
    ⟨some 7, none, ⟨[], []⟩, .mov (.k (.int .i64 2))⟩] [2, 3, 4, 19] []) (.ret)) (.skip)))))) (.seq (.reg false [⟨some 24, none, ⟨[], []⟩, .fld (.t 3) 0⟩,
    ⟨some 25, none, ⟨[], []⟩, .ld false none 0 0 (.t 24)⟩,
    ⟨some 26, none, ⟨[], []⟩, .fld (.t 3) 1⟩,
    ⟨some 27, none, ⟨[], []⟩, .ld false none 0 0 (.t 26)⟩,
    ⟨some 28, none, ⟨[], []⟩, .mov (.t 2)⟩,
    ⟨some 29, none, ⟨[], []⟩, .call (some 4) 20 20 [.t 25, .t 27, .t 28]⟩,
    ⟨some 23, none, ⟨[], []⟩, .mov (.t 29)⟩,
    ⟨some 30, none, ⟨[], []⟩, .ext (.t 23) 0⟩,
    ⟨some 31, none, ⟨[], []⟩, .ext (.t 23) 1⟩,
    ⟨some 8, none, ⟨[], []⟩, .mov (.t 30)⟩,
    ⟨some 9, none, ⟨[], []⟩, .mov (.t 31)⟩] [6, 7, 19, 23, 24, 25, 26, 27, 28, 29, 30, 31] []) (.seq (.seq (.reg false [⟨some 32, none, ⟨[], []⟩, .mov (.t 9)⟩,
    ⟨some 33, none, ⟨[], []⟩, .bin 0 .neq (.t 32) (.k (.int .i64 0))⟩] [32] []) (.cond (.t 33) (.seq (.reg false [⟨some 34, none, ⟨[], []⟩, .mov (.t 9)⟩,
    ⟨some 6, none, ⟨[], []⟩, .mov (.k (.int .i64 0))⟩,
    ⟨some 7, none, ⟨[], []⟩, .mov (.t 34)⟩] [2, 3, 4, 8, 9, 33, 34] []) (.ret)) (.skip))) (.seq (.reg false [⟨some 35, none, ⟨[], []⟩, .mov (.t 8)⟩,
    ⟨some 36, none, ⟨[], []⟩, .fld (.t 4) 0⟩,
    ⟨some 37, none, ⟨[], []⟩, .ld false none 0 0 (.t 36)⟩,
    ⟨some 38, none, ⟨[], []⟩, .bin 0 .mul (.t 35) (.t 37)⟩,
    ⟨some 10, none, ⟨[], []⟩, .mov (.t 38)⟩] [6, 7, 8, 9, 33, 35, 36, 37, 38] []) (.seq (.seq (.reg false [⟨some 39, none, ⟨[], []⟩, .mov (.t 2)⟩,
    ⟨some 40, none, ⟨[], []⟩, .len (.t 39)⟩,
    ⟨some 41, none, ⟨[], []⟩, .mov (.k (.int .i64 0))⟩] [2] []) (.block 1 (.loop b17_1))) (r17_2))))))
def kp17_1 : List Nat := [3, 4, 10, 39, 40, 41]
def kl17_1 : List Nat := [24, 25, 26, 27, 28]
attribute [push_cast] kp17_1 kl17_1
set_option maxRecDepth 4000 in
theorem comp17 : (Try.f17.body.bind fun c => compC tab isP chkAll ir17 c) = some ir17 := by kernel_rfl
def paS (p : Pl) (e : En) (l : List Pt) : Int := sumL (l.map (paN p e))
theorem paS_step {p : Pl} {e : En} {l : List Pt} {i : Nat} (hi : i < l.length) : paS p e (l.take (i + 1)) = paS p e (l.take i) + paN p e (rdPt l i) := by
  rw [List.take_succ_eq_append_getElem hi]
  unfold paS
  rw [List.map_append, List.map_cons, List.map_nil, sumL_snoc]
  simp [rdPt, hi]
theorem paS_bd (p : Pl) (e : En) (l : List Pt) : ∀ i, i ≤ l.length → 0 ≤ paS p e (l.take i) ∧ paS p e (l.take i) ≤ i * 4000000000
  | 0, _ => by simp [paS, sumL]
  | i + 1, hi => by
    have h1 := paS_bd p e l i (by omega)
    have h2 := paN_bd p e (rdPt l i)
    rw [paS_step (by omega)]
    omega
def eyN (p : Pl) (e : En) (l : List Pt) : Int := if p.Gr ∧ e.Ok ∧ cuE p.w p.h l = 0 then cuN p.w p.h l * e.cut + paS p e l else 0
def eyE (p : Pl) (e : En) (l : List Pt) : Int := if p.Gr then if e.Ok then cuE p.w p.h l else 2 else 70
structure EyA where
  a : PlA
  e : En
  LP : Xf.Loc
  s : Nat
  l : List Pt
def fs17 : FS where
  A := EyA
  args := fun a => [plV a.a.p a.a.L 0, enV a.e, .sl 1 a.LP a.s 0 a.l.length]
  mem := fun a => [some (.ro, a.a.L, .ints .i64 a.a.p.xs), some (.ro, a.LP, .recs 5 false [] (a.l.map Pt.rc))]
  pre := fun a => a.a.p.xs.length ≤ 140737488355328 ∧ a.l.length ≤ 1000000 ∧ (0 < a.l.length → a.s = 5)
  res := fun a _ => .tup [.int .i64 (eyN a.a.p a.e a.l), .int .i64 (eyE a.a.p a.e a.l)]
  out := fun _ _ => []
  new := fun _ _ => []
def inv17 : List SV → Look → Option (EyA × List Nat)
  | [v, .agg [.int .i64 c, .int .i64 q, .int .i64 t, .int .i64 i], .sl d _ s 0 _], look => match getP look v, rowR (look d) with
    | some (a, g), some (LP, 5, _, r) => match getPt r with | some l => some (⟨a, ⟨c, q, t, i⟩, LP, s, l⟩, g ++ [d]) | none => none
    | _, _ => none
  | _, _ => none
attribute [push_cast] inv17
set_option maxRecDepth 4000 in
set_option maxHeartbeats 1000000 in
theorem ok17 : FSOk Try.prog 17 fs17 := by
  refine ⟨⟨_, Try.func17, by kernel_rfl, by kernel_rfl⟩, fun a => ⟨by simp [fs17, push_cast, noMine, argOwn, Chunk.frArg], by simp [fs17, push_cast, outOk, Chunk.ext], fun x => .inl (by simp [fs17, push_cast, frNew, frOut, Chunk.fr])⟩, fun a hp => ?_⟩
  obtain ⟨⟨p, L⟩, e, LP, s, l⟩ := a
  obtain ⟨hp, hl, hs⟩ : p.xs.length ≤ 140737488355328 ∧ l.length ≤ 1000000 ∧ (0 < l.length → s = 5) := hp
  have hget := getPt_map l
  have hlm : (l.map Pt.rc).length = l.length := List.length_map _
  have hbd := fun (w0 : 0 ≤ p.w) (w1 : p.w ≤ 200) (h0 : 0 ≤ p.h) (h1 : p.h ≤ 200) => cuN_bd (l := l) w0 w1 h0 h1
  have hpb := paN_bd p e
  have hsb := paS_bd p e l
  have hst := fun {i} => paS_step (p := p) (e := e) (l := l) (i := i)
  obtain ⟨N, hN⟩ : ∃ N, cuN p.w p.h l = N := ⟨_, rfl⟩
  obtain ⟨E, hE'⟩ : ∃ E, cuE p.w p.h l = E := ⟨_, rfl⟩
  have y1 : p.Gr → e.Ok → E = 0 → eyN p e l = N * e.cut + paS p e l := fun a b c => by unfold eyN; rw [if_pos ⟨a, b, by rw [hE', c]⟩, hN]
  have y2 : ¬ (p.Gr ∧ e.Ok ∧ E = 0) → eyN p e l = 0 := fun a => by unfold eyN; rw [if_neg (by rw [hE']; exact a)]
  have y3 : eyE p e l = if p.Gr then if e.Ok then E else 2 else 70 := by unfold eyE; rw [hE']
  rw [hN] at hbd
  obtain ⟨w, h, xs⟩ := p
  obtain ⟨c, q, t, i⟩ := e
  change xs.length ≤ 140737488355328 at hp
  simp only at hN hE' hbd
  change Tri Try.prog 17 [plV ⟨w, h, xs⟩ L 0, .agg [.int .i64 c, .int .i64 q, .int .i64 t, .int .i64 i], .sl 1 LP s 0 l.length] [some (.ro, L, .ints .i64 xs), some (.ro, LP, .recs 5 false [] (l.map Pt.rc))] (postF fs17 ⟨⟨⟨w, h, xs⟩, L⟩, ⟨c, q, t, i⟩, LP, s, l⟩)
  refine tri_evS (hyp (l := [(14, ent14), (29, ent29), (20, ent20), (16, ent16)]) (lp := []) ⟨e14, e29, e20, e16, trivial⟩ trivial) Try.func17 comp17 (rs := [.tmp 6, .tmp 7]) (by rfl) Try.ntmps17 29 ?_
  by_cases hG : (⟨w, h, xs⟩ : Pl).Gr
  case neg =>
    rw [if_neg hG] at y3
    have y2 := y2 fun H => hG H.1
    simp -implicitDefEqProofs only [push_cast, false_implies, reduceCtorEq, Classical.not_not, Nat.reduceAdd, Nat.reduceSub, Nat.reduceMul, Nat.reduceLeDiff, Nat.reduceLT, Nat.reduceEqDiff, Nat.reduceBEq, Nat.reduceBNe, Int.reduceNeg, Int.reduceToNat, Bool.or_false, Bool.false_or, Bool.or_true, Bool.true_or, BEq.rfl, Bool.not_eq_true, Bool.not_eq_false, decide_eq_true_eq, not_true_eq_false, not_false_eq_true, ite_true, ite_false, List.append_nil, and_assoc, Nat.mul_zero, Nat.zero_mul, ir17, fs14, fs12, plV, hG, hp]
    intro X
    refine postF.mk' (fun _ => default) [some 0, some 1] ?_
    simp -implicitDefEqProofs only [push_cast, false_implies, reduceCtorEq, Classical.not_not, Nat.reduceAdd, Nat.reduceSub, Nat.reduceMul, Nat.reduceLeDiff, Nat.reduceLT, Nat.reduceEqDiff, Nat.reduceBEq, Nat.reduceBNe, Int.reduceNeg, Int.reduceToNat, Bool.or_false, Bool.false_or, Bool.or_true, Bool.true_or, BEq.rfl, Bool.not_eq_true, Bool.not_eq_false, decide_eq_true_eq, not_true_eq_false, not_false_eq_true, ite_true, ite_false, List.append_nil, and_assoc, Nat.mul_zero, Nat.zero_mul, fs17, y2, y3]
  have hsd : SidesOk w h := hG.1
  obtain ⟨s1, s2, s3, s4, s5⟩ := hsd
  rw [if_pos hG] at y3
  by_cases hE : (⟨c, q, t, i⟩ : En).Ok
  case neg =>
    rw [if_neg hE] at y3
    have y2 := y2 fun H => hE H.2.1
    simp -implicitDefEqProofs only [push_cast, false_implies, reduceCtorEq, Classical.not_not, Nat.reduceAdd, Nat.reduceSub, Nat.reduceMul, Nat.reduceLeDiff, Nat.reduceLT, Nat.reduceEqDiff, Nat.reduceBEq, Nat.reduceBNe, Int.reduceNeg, Int.reduceToNat, Bool.or_false, Bool.false_or, Bool.or_true, Bool.true_or, BEq.rfl, Bool.not_eq_true, Bool.not_eq_false, decide_eq_true_eq, not_true_eq_false, not_false_eq_true, ite_true, ite_false, List.append_nil, and_assoc, Nat.mul_zero, Nat.zero_mul, ir17, fs14, fs12, fs29, plV, enV, hG, hE, hp]
    intro X
    refine postF.mk' (fun _ => default) [some 0, some 1] ?_
    simp -implicitDefEqProofs only [push_cast, false_implies, reduceCtorEq, Classical.not_not, Nat.reduceAdd, Nat.reduceSub, Nat.reduceMul, Nat.reduceLeDiff, Nat.reduceLT, Nat.reduceEqDiff, Nat.reduceBEq, Nat.reduceBNe, Int.reduceNeg, Int.reduceToNat, Bool.or_false, Bool.false_or, Bool.or_true, Bool.true_or, BEq.rfl, Bool.not_eq_true, Bool.not_eq_false, decide_eq_true_eq, not_true_eq_false, not_false_eq_true, ite_true, ite_false, List.append_nil, and_assoc, Nat.mul_zero, Nat.zero_mul, fs17, y2, y3]
  rw [if_pos hE] at y3
  replace hbd := hbd s1 s3 s2 s4
  by_cases hE0 : E = 0
  case neg =>
    have y2 := y2 fun H => hE0 H.2.2
    simp -implicitDefEqProofs only [push_cast, false_implies, reduceCtorEq, Classical.not_not, Nat.reduceAdd, Nat.reduceSub, Nat.reduceMul, Nat.reduceLeDiff, Nat.reduceLT, Nat.reduceEqDiff, Nat.reduceBEq, Nat.reduceBNe, Int.reduceNeg, Int.reduceToNat, Bool.or_false, Bool.false_or, Bool.or_true, Bool.true_or, BEq.rfl, Bool.not_eq_true, Bool.not_eq_false, decide_eq_true_eq, not_true_eq_false, not_false_eq_true, ite_true, ite_false, List.append_nil, and_assoc, Nat.mul_zero, Nat.zero_mul, ir17, fs14, fs12, fs29, fs20, fs41, plV, enV, hG, hE, hp, hN, hE', hE0, hget, hlm, hl, s1, s2, s3, s4]
    refine fun X => ⟨hs, ?_⟩
    refine postF.mk' (fun _ => default) [some 0, some 1] ?_
    simp -implicitDefEqProofs only [push_cast, false_implies, reduceCtorEq, Classical.not_not, Nat.reduceAdd, Nat.reduceSub, Nat.reduceMul, Nat.reduceLeDiff, Nat.reduceLT, Nat.reduceEqDiff, Nat.reduceBEq, Nat.reduceBNe, Int.reduceNeg, Int.reduceToNat, Bool.or_false, Bool.false_or, Bool.or_true, Bool.true_or, BEq.rfl, Bool.not_eq_true, Bool.not_eq_false, decide_eq_true_eq, not_true_eq_false, not_false_eq_true, ite_true, ite_false, List.append_nil, and_assoc, Nat.mul_zero, Nat.zero_mul, fs17, y2, y3]
  subst hE0
  obtain ⟨⟨c1, c2⟩, _⟩ := id hE
  simp only at c1 c2
  have hm := mul_bd hbd.1 hbd.2 c1 c2
  have y1 := y1 hG hE rfl
  simp -implicitDefEqProofs only [push_cast, false_implies, reduceCtorEq, Classical.not_not, Nat.reduceAdd, Nat.reduceSub, Nat.reduceMul, Nat.reduceLeDiff, Nat.reduceLT, Nat.reduceEqDiff, Nat.reduceBEq, Nat.reduceBNe, Int.reduceNeg, Int.reduceToNat, Bool.or_false, Bool.false_or, Bool.or_true, Bool.true_or, BEq.rfl, Bool.not_eq_true, Bool.not_eq_false, decide_eq_true_eq, not_true_eq_false, not_false_eq_true, ite_true, ite_false, List.append_nil, and_assoc, Nat.mul_zero, Nat.zero_mul, ir17, fs14, fs12, fs29, fs20, fs41, plV, enV, hG, hE, hp, hN, hE', hget, hlm, hl, s1, s2, s3, s4]
  refine fun X => ⟨hs, by omega, by omega, ?_⟩
  refine evS_loopU (A := Nat) kp17_1 kl17_1 (fun k => [(10, .int .i64 (N * c + paS ⟨w, h, xs⟩ ⟨c, q, t, i⟩ (l.take k))), (41, .int .i64 k)]) (fun _ => []) (fun k => k ≤ l.length) (fun k => l.length - k) 0 (Nat.zero_le _) (Sub.pt ?_) ?_
  · have z1 : paS ⟨w, h, xs⟩ ⟨c, q, t, i⟩ (l.take 0) = 0 := rfl
    simp -implicitDefEqProofs only [push_cast, false_implies, reduceCtorEq, Classical.not_not, Nat.reduceAdd, Nat.reduceSub, Nat.reduceMul, Nat.reduceLeDiff, Nat.reduceLT, Nat.reduceEqDiff, Nat.reduceBEq, Nat.reduceBNe, Int.reduceNeg, Int.reduceToNat, Bool.or_false, Bool.false_or, Bool.or_true, Bool.true_or, BEq.rfl, Bool.not_eq_true, Bool.not_eq_false, decide_eq_true_eq, not_true_eq_false, not_false_eq_true, ite_true, ite_false, List.append_nil, and_assoc, Nat.mul_zero, Nat.zero_mul, z1]
  intro k (hk : k ≤ l.length) K hK
  have hsk := hsb k hk
  by_cases hk' : k < l.length
  · have r1 := recAt_Pt hk' []
    have hst' := hst hk'
    have hpb' := hpb (rdPt l k)
    obtain rfl := hs (by omega)
    obtain ⟨q', hq⟩ : ∃ q, rdPt l k = q := ⟨_, rfl⟩
    rw [hq] at r1 hst' hpb'
    obtain ⟨kd, qx, qy, qw, qh⟩ := q'
    obtain ⟨v, hv⟩ : ∃ v, paN ⟨w, h, xs⟩ ⟨c, q, t, i⟩ ⟨kd, qx, qy, qw, qh⟩ = v := ⟨_, rfl⟩
    obtain ⟨S, hS⟩ : ∃ v, paS ⟨w, h, xs⟩ ⟨c, q, t, i⟩ (l.take k) = v := ⟨_, rfl⟩
    obtain ⟨S', hS'⟩ : ∃ v, paS ⟨w, h, xs⟩ ⟨c, q, t, i⟩ (l.take (k + 1)) = v := ⟨_, rfl⟩
    rw [hv] at hst' hpb'
    rw [hS] at hst' hsk
    rw [hS'] at hst'
    simp only [hS]
    simp -implicitDefEqProofs only [push_cast, false_implies, reduceCtorEq, Classical.not_not, Nat.reduceAdd, Nat.reduceSub, Nat.reduceMul, Nat.reduceLeDiff, Nat.reduceLT, Nat.reduceEqDiff, Nat.reduceBEq, Nat.reduceBNe, Int.reduceNeg, Int.reduceToNat, Bool.or_false, Bool.false_or, Bool.or_true, Bool.true_or, BEq.rfl, Bool.not_eq_true, Bool.not_eq_false, decide_eq_true_eq, not_true_eq_false, not_false_eq_true, ite_true, ite_false, List.append_nil, and_assoc, Nat.mul_zero, Nat.zero_mul, b17_1, r1, Pt.rc, hlm, fs16, plV, enV, ptV, hp, hv]
    refine ⟨fun _ X3 => ?_, fun h => by omega⟩
    repeat (refine And.intro (by first | omega | trivial | (intros; omega)) ?_)
    refine hK (k + 1) (show k + 1 ≤ l.length by omega) (show l.length - (k + 1) < l.length - k by omega) _ _ (Sub.pt ?_)
    simp -implicitDefEqProofs only [push_cast, false_implies, reduceCtorEq, Classical.not_not, Nat.reduceAdd, Nat.reduceSub, Nat.reduceMul, Nat.reduceLeDiff, Nat.reduceLT, Nat.reduceEqDiff, Nat.reduceBEq, Nat.reduceBNe, Int.reduceNeg, Int.reduceToNat, Bool.or_false, Bool.false_or, Bool.or_true, Bool.true_or, BEq.rfl, Bool.not_eq_true, Bool.not_eq_false, decide_eq_true_eq, not_true_eq_false, not_false_eq_true, ite_true, ite_false, List.append_nil, and_assoc, Nat.mul_zero, Nat.zero_mul, hS', hst', Int.add_assoc]
  · obtain rfl : k = l.length := by omega
    clear hK
    rw [List.take_length] at *
    simp -implicitDefEqProofs only [push_cast, false_implies, reduceCtorEq, Classical.not_not, Nat.reduceAdd, Nat.reduceSub, Nat.reduceMul, Nat.reduceLeDiff, Nat.reduceLT, Nat.reduceEqDiff, Nat.reduceBEq, Nat.reduceBNe, Int.reduceNeg, Int.reduceToNat, Bool.or_false, Bool.false_or, Bool.or_true, Bool.true_or, BEq.rfl, Bool.not_eq_true, Bool.not_eq_false, decide_eq_true_eq, not_true_eq_false, not_false_eq_true, ite_true, ite_false, List.append_nil, and_assoc, Nat.mul_zero, Nat.zero_mul, b17_1, r17_2, Int.lt_irrefl, true_implies, true_and]
    refine postF.mk' (fun _ => default) [some 0, some 1] ?_
    simp -implicitDefEqProofs only [push_cast, false_implies, reduceCtorEq, Classical.not_not, Nat.reduceAdd, Nat.reduceSub, Nat.reduceMul, Nat.reduceLeDiff, Nat.reduceLT, Nat.reduceEqDiff, Nat.reduceBEq, Nat.reduceBNe, Int.reduceNeg, Int.reduceToNat, Bool.or_false, Bool.false_or, Bool.or_true, Bool.true_or, BEq.rfl, Bool.not_eq_true, Bool.not_eq_false, decide_eq_true_eq, not_true_eq_false, not_false_eq_true, ite_true, ite_false, List.append_nil, and_assoc, Nat.mul_zero, Nat.zero_mul, fs17, y1, y3]
def ent17 : Entry := spOf fs17 inv17
theorem e17 : EntryOk Try.prog 17 ent17 := entry_of ok17 inv17
@[push_cast] theorem ent17_app (us : List SV) (look : Look) (x : Nat → Xf.Loc) (k : Nat) : ent17 us look x k = spOf fs17 inv17 us look x k := rfl
theorem tks_shift {f : Rt → Nat × Int → Bool × Nat × Int} {d : Int} (h : ∀ q s, f q (s.1, s.2 + d) = ((f q s).1, (f q s).2.1, (f q s).2.2 + d)) : ∀ Q s, tks f Q (s.1, s.2 + d) = ((tks f Q s).1, (tks f Q s).2.1, (tks f Q s).2.2 + d)
  | [], s => rfl
  | q :: Q, s => by
    rw [tks, tks, h]
    simp only
    split
    · exact tks_shift h Q (f q s).2
    · rfl
theorem tk_shift (l : List Pt) (d : Int) : ∀ (N : Nat) (r : Rt) (s : Nat × Int), tk l N r (s.1, s.2 + d) = ((tk l N r s).1, (tk l N r s).2.1, (tk l N r s).2.2 + d)
  | 0, r, s => rfl
  | N + 1, r, s => by
    rw [tk, tk]
    simp only
    split
    · split
      · rfl
      · split
        · rfl
        · have := tks_shift (tk_shift l d N) (qs r) (s.1, s.2 + 1)
          simp only at this
          rw [← this]
          congr 2
          omega
    · rfl
def b58_1 : IR :=
  .seq (.seq (.reg false [⟨some 43, none, ⟨[], []⟩, .mov (.t 11)⟩,
    ⟨some 44, none, ⟨[], []⟩, .mov (.t 10)⟩,
    ⟨some 45, none, ⟨[], []⟩, .len (.t 44)⟩,
    ⟨some 46, none, ⟨[], []⟩, .bin 0 .lss (.t 43) (.t 45)⟩] [43, 44, 45] []) (.cond (.t 46) (.skip) (.exit 0))) (.seq (.block 1 (.seq (.reg false [⟨some 50, none, ⟨[], []⟩, .mov (.t 10)⟩,
    ⟨some 51, none, ⟨[], []⟩, .mov (.t 11)⟩,
    ⟨some 52, none, ⟨[], []⟩, .idxS (.t 50) (.t 51) 5⟩,
    ⟨some 53, none, ⟨[], []⟩, .ld true (some 5) 0 0 (.t 52)⟩,
    ⟨some 54, none, ⟨[], []⟩, .mov (.t 1)⟩,
    ⟨some 55, none, ⟨[], []⟩, .call (some 4) 16 58 [.t 53, .t 54]⟩,
    ⟨some 49, none, ⟨[], []⟩, .mov (.t 55)⟩,
    ⟨some 56, none, ⟨[], []⟩, .ext (.t 49) 0⟩,
    ⟨some 57, none, ⟨[], []⟩, .ext (.t 49) 1⟩,
    ⟨some 58, none, ⟨[], []⟩, .ext (.t 49) 2⟩,
    ⟨some 12, none, ⟨[], []⟩, .mov (.t 56)⟩,
    ⟨some 13, none, ⟨[], []⟩, .mov (.t 57)⟩,
    ⟨some 14, none, ⟨[], []⟩, .mov (.t 58)⟩] [1, 46, 49, 50, 51, 52, 53, 54, 55, 56, 57, 58] []) (.seq (.seq (.reg false [⟨some 59, none, ⟨[], []⟩, .mov (.t 14)⟩,
    ⟨some 60, none, ⟨[], []⟩, .not (.t 59)⟩] [14, 59] []) (.cond (.t 60) (.seq (.reg false [⟨some 4, none, ⟨[], []⟩, .mov (.k (.int .i64 0))⟩,
    ⟨some 5, none, ⟨[], []⟩, .mov (.k nilSV)⟩,
    ⟨some 6, none, ⟨[], []⟩, .mov (.k (.bool false))⟩] [9, 10, 11, 12, 13, 60] []) (.ret)) (.skip))) (.seq (.reg false [⟨some 61, none, ⟨[], []⟩, .mov (.t 9)⟩,
    ⟨some 62, none, ⟨[], []⟩, .mov (.t 12)⟩,
    ⟨some 63, none, ⟨[], []⟩, .bin 0 .add (.t 61) (.t 62)⟩,
    ⟨some 9, none, ⟨[], []⟩, .mov (.t 63)⟩] [4, 5, 6, 12, 60, 61, 62, 63] []) (.reg false [⟨some 64, none, ⟨[], []⟩, .mov (.t 13)⟩,
    ⟨some 1, none, ⟨[], []⟩, .mov (.t 64)⟩] [13, 64] []))))) (.reg false [⟨some 47, none, ⟨[], []⟩, .mov (.t 11)⟩,
    ⟨some 48, none, ⟨[], []⟩, .bin 0 .add (.t 47) (.k (.int .i64 1))⟩,
    ⟨some 11, none, ⟨[], []⟩, .mov (.t 48)⟩] [47, 48] []))
def r58_2 : IR :=
  .seq (.reg false [⟨some 65, none, ⟨[], []⟩, .mov (.t 9)⟩,
    ⟨some 66, none, ⟨[], []⟩, .mov (.t 1)⟩,
    ⟨some 4, none, ⟨[], []⟩, .mov (.t 65)⟩,
    ⟨some 5, none, ⟨[], []⟩, .mov (.t 66)⟩,
    ⟨some 6, none, ⟨[], []⟩, .mov (.k (.bool true))⟩] [1, 9, 10, 11, 65, 66] []) (.ret)
def ir58 : IR :=
  .seq (.reg false [⟨some 2, none, ⟨[], []⟩, .box 10 (.t 0)⟩,
    ⟨some 4, none, ⟨[], []⟩, .mov (.k (.int .i64 0))⟩,
    ⟨some 5, none, ⟨[], []⟩, .mov (.k nilSV)⟩,
    ⟨some 6, none, ⟨[], []⟩, .mov (.k (.bool false))⟩] [0, 4, 5, 6] []) (.seq (.seq (.reg false [⟨some 15, none, ⟨[], []⟩, .mov (.t 1)⟩,
    ⟨some 16, none, ⟨[], []⟩, .len (.t 15)⟩,
    ⟨some 17, none, ⟨[], []⟩, .bin 0 .eql (.t 16) (.k (.int .i64 0))⟩] [15, 16] []) (.cond (.t 17) (.seq (.reg false [⟨some 4, none, ⟨[], []⟩, .mov (.k (.int .i64 0))⟩,
    ⟨some 5, none, ⟨[], []⟩, .mov (.k nilSV)⟩,
    ⟨some 6, none, ⟨[], []⟩, .mov (.k (.bool false))⟩] [1, 2, 17] []) (.ret)) (.skip))) (.seq (.reg false [⟨some 18, none, ⟨[], []⟩, .mov (.t 1)⟩,
    ⟨some 19, none, ⟨[], []⟩, .idxS (.t 18) (.k (.int .i64 0)) 5⟩,
    ⟨some 20, none, ⟨[], []⟩, .ld true (some 5) 0 0 (.t 19)⟩,
    ⟨some 7, none, ⟨[], []⟩, .alloc 11 [.int .i64 0, .int .i64 0, .int .i64 0, .int .i64 0, .int .i64 0]⟩,
    ⟨none, none, ⟨[], []⟩, .sto false 5 .i64 (.t 7) (.t 20)⟩] [4, 5, 6, 17, 18, 19, 20] []) (.seq (.reg false [⟨some 21, none, ⟨[], []⟩, .fld (.t 7) 0⟩,
    ⟨some 22, none, ⟨[], []⟩, .ld false none 0 0 (.t 21)⟩,
    ⟨some 8, none, ⟨[], []⟩, .mov (.t 22)⟩] [21, 22] []) (.seq (.reg false [⟨some 23, none, ⟨[], []⟩, .fld (.t 7) 0⟩,
    ⟨none, none, ⟨[], []⟩, .sto false 1 .i64 (.t 23) (.k (.int .i64 0))⟩] [23] []) (.seq (.seq (.reg false [⟨some 24, none, ⟨[], []⟩, .ld false (some 5) 0 0 (.t 7)⟩,
    ⟨some 25, none, ⟨[], []⟩, .ld false (some 5) 0 0 (.t 2)⟩,
    ⟨some 26, none, ⟨[], []⟩, .binA .eql [true, true, true, true, true] (.t 24) (.t 25)⟩] [7, 24, 25] []) (.cond (.t 26) (.seq (.reg true [⟨some 27, none, ⟨[], []⟩, .mov (.t 1)⟩,
    ⟨some 28, none, ⟨[], []⟩, .slc (.t 27) 5 (some (.k (.int .i64 1))) none⟩,
    ⟨some 29, none, ⟨[], []⟩, .mov (.t 8)⟩,
    ⟨some 30, none, ⟨[], []⟩, .bin 0 .geq (.t 29) (.k (.int .i64 0))⟩,
    ⟨some 31, none, ⟨[], []⟩, .mov (.t 30)⟩,
    ⟨some 32, some (31, true), ⟨[], []⟩, .mov (.t 8)⟩,
    ⟨some 33, some (31, true), ⟨[], []⟩, .bin 0 .leq (.t 32) (.k (.int .i64 2))⟩,
    ⟨some 34, none, ⟨[], []⟩, .pick (.t 31) (.t 33) (.k (.bool false))⟩,
    ⟨some 4, none, ⟨[], []⟩, .mov (.k (.int .i64 0))⟩,
    ⟨some 5, none, ⟨[], []⟩, .mov (.t 28)⟩,
    ⟨some 6, none, ⟨[], []⟩, .mov (.t 34)⟩] [1, 2, 8, 26, 27, 28, 29, 30, 31, 32, 33, 34] []) (.ret)) (.skip))) (.seq (.seq (.reg false [⟨some 35, none, ⟨[], []⟩, .fld (.t 2) 3⟩,
    ⟨some 36, none, ⟨[], []⟩, .ld false none 0 0 (.t 35)⟩,
    ⟨some 37, none, ⟨[], []⟩, .fld (.t 2) 4⟩,
    ⟨some 38, none, ⟨[], []⟩, .ld false none 0 0 (.t 37)⟩,
    ⟨some 39, none, ⟨[], []⟩, .bin 0 .mul (.t 36) (.t 38)⟩,
    ⟨some 40, none, ⟨[], []⟩, .bin 0 .lss (.t 39) (.k (.int .i64 2))⟩] [4, 5, 6, 8, 26, 35, 36, 37, 38, 39] []) (.cond (.t 40) (.seq (.reg false [⟨some 4, none, ⟨[], []⟩, .mov (.k (.int .i64 0))⟩,
    ⟨some 5, none, ⟨[], []⟩, .mov (.k nilSV)⟩,
    ⟨some 6, none, ⟨[], []⟩, .mov (.k (.bool false))⟩] [1, 2, 40] []) (.ret)) (.skip))) (.seq (.reg false [⟨some 9, none, ⟨[], []⟩, .mov (.k (.int .i64 1))⟩] [4, 5, 6, 40] []) (.seq (.reg false [⟨some 41, none, ⟨[], []⟩, .ld false (some 5) 0 0 (.t 2)⟩,
    ⟨some 42, none, ⟨[], []⟩, .call (some 4) 12 62 [.t 41]⟩,
    ⟨some 10, none, ⟨[], []⟩, .mov (.t 42)⟩] [2, 41, 42] []) (.seq (.seq (.reg false [⟨some 11, none, ⟨[], []⟩, .mov (.k (.int .i64 0))⟩] [] []) (.block 0 (.loop b58_1))) (r58_2))))))))))
def kp58_1 : List Nat := [1, 9, 10, 11]
def kl58_1 : List Nat := [16, 17, 18, 19]
attribute [push_cast] kp58_1 kl58_1
set_option maxRecDepth 4000 in
theorem comp58 : (Try.f58.body.bind fun c => compC tab isP chkAll ir58 c) = some ir58 := by kernel_rfl
structure TkA where
  L : Xf.Loc
  sz : Nat
  l : List Pt
  o : Nat
  r : Rt
def tkV (L : Xf.Loc) (l : List Pt) : Bool × Nat × Int → SV
  | (true, o, c) => .tup [.int .i64 c, .sl 0 L 5 o ((l.length - o : Nat) : Int), .bool true]
  | (false, _, _) => .tup [.int .i64 0, nilSV, .bool false]
def kdOk (l : List Pt) : Prop := ∀ x ∈ l, 0 ≤ x.kind ∧ x.kind ≤ 2
def fs58 (p : Pn) (N : Nat) : FS where
  A := TkA
  args := fun a => [.agg [.int .i64 0, .int .i64 a.r.x, .int .i64 a.r.y, .int .i64 a.r.w, .int .i64 a.r.h], .sl 0 a.L a.sz a.o ((a.l.length - a.o : Nat) : Int)]
  mem := fun a => [some (.ro, a.L, .recs 5 false [] (a.l.map Pt.rc))]
  pre := fun a => p.grey ∧ inR p a.r ∧ a.r.w * a.r.h ≤ N ∧ a.l.length ≤ 1000000 ∧ (0 < a.l.length → a.sz = 5) ∧ a.o ≤ a.l.length ∧ kdOk a.l
  res := fun a _ => tkV a.L a.l (tk a.l N a.r (a.o, 0))
  out := fun _ _ => []
  new := fun _ _ => []
def inv58 : List SV → Look → Option (TkA × List Nat)
  | [.agg [.int .i64 _, .int .i64 x, .int .i64 y, .int .i64 w, .int .i64 h], .sl d _ s o _], look => match rowR (look d) with
      | some (L, 5, _, r) => match getPt r with | some l => some (⟨L, s, l, o.toNat, ⟨x, y, w, h⟩⟩, [d]) | none => none
      | _ => none
  | _, _ => none
attribute [push_cast] inv58
set_option maxRecDepth 4000 in
set_option maxHeartbeats 2000000 in
theorem ok58 (p : Pn) : ∀ N, FSOk Try.prog 58 (fs58 p N)
  | 0 => by
    refine ⟨⟨_, Try.func58, by kernel_rfl, by kernel_rfl⟩, fun a => ⟨by simp [fs58, push_cast, noMine, argOwn, Chunk.frArg], by simp [fs58, push_cast, outOk, Chunk.ext], fun x => .inl (by simp [fs58, push_cast, frNew, frOut, Chunk.fr])⟩, fun a hp => ?_⟩
    obtain ⟨h1, h2, h3, h4⟩ := hp
    have := area_pos h2
    unfold area at this
    omega
  | N + 1 => by
    have ih := ok58 p N
    refine ⟨⟨_, Try.func58, by kernel_rfl, by kernel_rfl⟩, fun a => ⟨by simp [fs58, push_cast, noMine, argOwn, Chunk.frArg], by simp [fs58, push_cast, outOk, Chunk.ext], fun x => .inl (by simp [fs58, push_cast, frNew, frOut, Chunk.fr])⟩, fun a hp => ?_⟩
    obtain ⟨L, sz, l, o, r⟩ := a
    obtain ⟨hg, hin, hN, hl, hsz, ho, hkd⟩ : p.grey ∧ inR p r ∧ r.w * r.h ≤ ((N + 1 : Nat) : Int) ∧ l.length ≤ 1000000 ∧ (0 < l.length → sz = 5) ∧ o ≤ l.length ∧ kdOk l := hp
    have hok2 := hin.ok2 hg
    have har := area_pos hin
    have hne := qs_ne hin
    have hrec := fun {q : Rt} (hq : q ∈ qs r) (h1 : ¬ r.w * r.h = 1) => (show inR p q ∧ q.w * q.h ≤ N from ⟨(qs_in hin q hq).1, by have := (qs_in hin q hq).2 h1; unfold area at this; omega⟩)
    have hT0 : ¬ o < l.length → tk l (N + 1) r (o, 0) = (false, o, 0) := fun h => by rw [tk, if_neg h]
    have hT1 : o < l.length → (rdPt l o).rt = r → tk l (N + 1) r (o, 0) = (true, o + 1, 0) := fun h h' => by rw [tk, if_pos h, if_pos h']
    have hT2 : o < l.length → ¬ (rdPt l o).rt = r → r.w * r.h = 1 → tk l (N + 1) r (o, 0) = (false, o, 0) := fun h h' h1 => by rw [tk, if_pos h, if_neg h', if_pos h1]
    have hT3 : o < l.length → ¬ (rdPt l o).rt = r → ¬ r.w * r.h = 1 → tk l (N + 1) r (o, 0) = tks (tk l N) (qs r) (o, 1) := fun h h' h1 => by rw [tk, if_pos h, if_neg h', if_neg h1]; rfl
    have hq2 := fun h1 => qs_two (r := r) hin h1
    have hqsum := qs_sum r
    obtain ⟨Q, hQ⟩ : ∃ Q, qs r = Q := ⟨_, rfl⟩
    obtain ⟨A, hA⟩ : ∃ A, area r = A := ⟨_, rfl⟩
    rw [hQ, hA] at hqsum
    rw [hQ] at hq2 hne
    have hAr : r.w * r.h = A := hA
    rw [hA] at har
    obtain ⟨f, hf⟩ : ∃ f, tk l N = f := ⟨_, rfl⟩
    simp only [hQ, hf] at hT3 hrec
    obtain ⟨x, y, w, h⟩ := r
    obtain ⟨i1, i2, i3, i4, i5, i6⟩ := id hin
    obtain ⟨g1, g2, g3, g4⟩ := id hg
    simp only at i1 i2 i3 i4 i5 i6 hN hT1 hT2 hT3 hq2 hrec hAr
    have hm := mul_bd (a := w) (b := h) (A := 200) (B := 200) (by omega) (by omega) (by omega) (by omega)
    have hget := getPt_map l
    change Tri Try.prog 58 [.agg [.int .i64 0, .int .i64 x, .int .i64 y, .int .i64 w, .int .i64 h], .sl 0 L sz o ((l.length - o : Nat) : Int)] [some (.ro, L, .recs 5 false [] (l.map Pt.rc))] (postF (fs58 p (N + 1)) ⟨L, sz, l, o, ⟨x, y, w, h⟩⟩)
    refine tri_evS (hyp (l := [(58, spOf (fs58 p N) inv58), (62, ent62)]) (lp := [])
      ⟨entry_of ih inv58, e62, trivial⟩ trivial) Try.func58 comp58 (rs := [.tmp 4, .tmp 5, .tmp 6]) (by rfl) Try.ntmps58 20 ?_
    by_cases hol : o < l.length
    case neg =>
      have hm0 : ((l.length - o : Nat) : Int) = 0 := by omega
      simp -implicitDefEqProofs only [push_cast, false_implies, reduceCtorEq, Classical.not_not, Nat.reduceAdd, Nat.reduceSub, Nat.reduceMul, Nat.reduceLeDiff, Nat.reduceLT, Nat.reduceEqDiff, Nat.reduceBEq, Nat.reduceBNe, Int.reduceNeg, Int.reduceToNat, Bool.or_false, Bool.false_or, Bool.or_true, Bool.true_or, BEq.rfl, Bool.not_eq_true, Bool.not_eq_false, decide_eq_true_eq, not_true_eq_false, not_false_eq_true, ite_true, ite_false, List.append_nil, and_assoc, Nat.mul_zero, Nat.zero_mul, ir58, hm0]
      intro X
      refine postF.mk' (fun _ => default) [some 0] ?_
      simp -implicitDefEqProofs only [push_cast, false_implies, reduceCtorEq, Classical.not_not, Nat.reduceAdd, Nat.reduceSub, Nat.reduceMul, Nat.reduceLeDiff, Nat.reduceLT, Nat.reduceEqDiff, Nat.reduceBEq, Nat.reduceBNe, Int.reduceNeg, Int.reduceToNat, Bool.or_false, Bool.false_or, Bool.or_true, Bool.true_or, BEq.rfl, Bool.not_eq_true, Bool.not_eq_false, decide_eq_true_eq, not_true_eq_false, not_false_eq_true, ite_true, ite_false, List.append_nil, and_assoc, Nat.mul_zero, Nat.zero_mul, fs58, hT0 hol, hm0, tkV]
    obtain rfl := hsz (by omega)
    have r1 := recAt_Pt hol []
    have hkx := hkd _ (rdPt_mem hol)
    obtain ⟨q, hq⟩ : ∃ q, rdPt l o = q := ⟨_, rfl⟩
    rw [hq] at r1 hT1 hT2 hT3 hkx
    obtain ⟨kd, qx, qy, qw, qh⟩ := q
    obtain ⟨m, hm0⟩ : ∃ m, l.length - o = m + 1 := ⟨l.length - o - 1, by omega⟩
    have hm1 : ¬ (m : Int) + 1 = 0 := by omega
    have hm2 : l.length - (o + 1) = m := by omega
    have hlm : (l.map Pt.rc).length = l.length := List.length_map _
    have hrt : (Pt.rt ⟨kd, qx, qy, qw, qh⟩ = ⟨x, y, w, h⟩) ↔ (qx = x ∧ qy = y ∧ qw = w ∧ qh = h) := by simp [Pt.rt]
    rw [hrt] at hT1 hT2 hT3
    replace hT1 := hT1 hol
    replace hT2 := hT2 hol
    replace hT3 := hT3 hol
    obtain ⟨k0, k1⟩ := hkx
    simp only at k0 k1
    simp only [hm0]
    simp -implicitDefEqProofs only [push_cast, false_implies, reduceCtorEq, Classical.not_not, Nat.reduceAdd, Nat.reduceSub, Nat.reduceMul, Nat.reduceLeDiff, Nat.reduceLT, Nat.reduceEqDiff, Nat.reduceBEq, Nat.reduceBNe, Int.reduceNeg, Int.reduceToNat, Bool.or_false, Bool.false_or, Bool.or_true, Bool.true_or, BEq.rfl, Bool.not_eq_true, Bool.not_eq_false, decide_eq_true_eq, not_true_eq_false, not_false_eq_true, ite_true, ite_false, List.append_nil, and_assoc, Nat.mul_zero, Nat.zero_mul, ir58, r1, Pt.rc, hm1, hlm, fs62, hok2, hQ, hf, k0, k1]
    intro X X1
    repeat (refine And.intro (by first | omega | trivial | (intros; omega)) ?_)
    refine ⟨fun heq => ?_, fun heq => ⟨by omega, by omega, fun h1 => ?_, fun h1 => ?_⟩⟩
    · refine ⟨by omega, by omega, by omega, ?_⟩
      have e1 : (m : Int) + 1 - 1 = m := by omega
      refine postF.mk' (fun _ => default) [some 0] ?_
      simp -implicitDefEqProofs only [push_cast, false_implies, reduceCtorEq, Classical.not_not, Nat.reduceAdd, Nat.reduceSub, Nat.reduceMul, Nat.reduceLeDiff, Nat.reduceLT, Nat.reduceEqDiff, Nat.reduceBEq, Nat.reduceBNe, Int.reduceNeg, Int.reduceToNat, Bool.or_false, Bool.false_or, Bool.or_true, Bool.true_or, BEq.rfl, Bool.not_eq_true, Bool.not_eq_false, decide_eq_true_eq, not_true_eq_false, not_false_eq_true, ite_true, ite_false, List.append_nil, and_assoc, Nat.mul_zero, Nat.zero_mul, fs58, tkV, hT1 heq, hm2, e1]
    · refine postF.mk' (fun _ => default) [some 0] ?_
      simp -implicitDefEqProofs only [push_cast, false_implies, reduceCtorEq, Classical.not_not, Nat.reduceAdd, Nat.reduceSub, Nat.reduceMul, Nat.reduceLeDiff, Nat.reduceLT, Nat.reduceEqDiff, Nat.reduceBEq, Nat.reduceBNe, Int.reduceNeg, Int.reduceToNat, Bool.or_false, Bool.false_or, Bool.or_true, Bool.true_or, BEq.rfl, Bool.not_eq_true, Bool.not_eq_false, decide_eq_true_eq, not_true_eq_false, not_false_eq_true, ite_true, ite_false, List.append_nil, and_assoc, Nat.mul_zero, Nat.zero_mul, fs58, tkV, hT2 heq (by omega)]
    · intro X2
      replace h1 : ¬ w * h = 1 := by omega
      replace hT3 := hT3 heq h1
      replace hq2 := hq2 h1
      have hra := fun {q : Rt} (hq : q ∈ Q) => hrec hq h1
      have hareas : ∀ q ∈ Q, 1 ≤ area q := fun q hq => area_pos (hra hq).1
      have hQ4 : Q.length ≤ 4 := by rw [← hQ]; exact Nat.le_trans (List.length_filter_le _ _) (by simp [qd])
      have he5 := esz_pos (s := 5) (n := Q.length) (by omega)
      have hlr : ((Q.map pt0).map Pt.rc).length = Q.length := by rw [List.length_map, List.length_map]
      refine evS_loopU (A := Nat × Nat × Int) kp58_1 kl58_1 (fun y => [(11, .int .i64 y.1), (9, .int .i64 y.2.2), (1, .sl 0 L 5 y.2.1 ((l.length - y.2.1 : Nat) : Int))]) (fun _ => [])
        (fun y => y.1 ≤ Q.length ∧ y.2.1 ≤ l.length ∧ 0 ≤ y.2.2 ∧ y.2.2 + sumL ((Q.drop y.1).map area) + y.1 ≤ 1 + A ∧ tks f Q (o, 1) = tks f (Q.drop y.1) y.2) (fun y => Q.length - y.1) (0, o, 1) ⟨Nat.zero_le _, ho, show (0 : Int) ≤ 1 by decide, by rw [List.drop_zero]; simp only; omega, by rw [List.drop_zero]⟩ (Sub.pt ?_) ?_
      · simp -implicitDefEqProofs only [push_cast, false_implies, reduceCtorEq, Classical.not_not, Nat.reduceAdd, Nat.reduceSub, Nat.reduceMul, Nat.reduceLeDiff, Nat.reduceLT, Nat.reduceEqDiff, Nat.reduceBEq, Nat.reduceBNe, Int.reduceNeg, Int.reduceToNat, Bool.or_false, Bool.false_or, Bool.or_true, Bool.true_or, BEq.rfl, Bool.not_eq_true, Bool.not_eq_false, decide_eq_true_eq, not_true_eq_false, not_false_eq_true, ite_true, ite_false, List.append_nil, and_assoc, Nat.mul_zero, Nat.zero_mul, hm0]
      intro ⟨k, o', c'⟩ ⟨(hk : k ≤ Q.length), (ho' : o' ≤ l.length), (hc' : 0 ≤ c'), (hsum : c' + sumL ((Q.drop k).map area) + k ≤ 1 + A), (htk : tks f Q (o, 1) = tks f (Q.drop k) (o', c'))⟩ K hK
      by_cases hk' : k < Q.length
      · obtain ⟨d1, d2⟩ := tks_drop (f := f) hk' (o', c')
        have hmem := rdRt_mem hk'
        have r2 := recAt_Pt (l := Q.map pt0) (i := k) (by rw [List.length_map]; exact hk') []
        rw [rdPt_map hk'] at r2
        have hls := len_sum (Q.drop (k + 1)) fun q hq => hareas q (List.mem_of_mem_drop hq)
        rw [List.length_drop] at hls
        obtain ⟨q, hqq⟩ : ∃ q, rdRt Q (k : Int) = q := ⟨_, rfl⟩
        rw [hqq] at d1 d2 hmem r2
        obtain ⟨p1, p2⟩ := hra hmem
        have hbd := tk_bd N q (o', 0) p1 p2 ho'
        have hsh := tk_shift l c' N q (o', 0)
        have e0 : ((o', (0 : Int)).1, (o', (0 : Int)).2 + c') = (o', c') := by simp only [Int.zero_add]
        rw [e0, hf] at hsh
        obtain ⟨b, o2, c2, hfq⟩ : ∃ b o2 c2, tk l N q (o', 0) = (b, o2, c2) := ⟨_, _, _, rfl⟩
        rw [hfq] at hbd
        rw [← hf, hfq] at hsh
        rw [hf] at hsh
        rw [hsh] at d1
        obtain ⟨n1, n2, n3, n4⟩ := hbd
        obtain ⟨a, hqa⟩ : ∃ a, area q = a := ⟨_, rfl⟩
        rw [hqa] at d2 n4
        rw [d1] at htk
        obtain ⟨qx', qy', qw', qh'⟩ := q
        simp only at n1 n2 n3 n4 p2 htk
        cases b
        · rw [if_neg (by decide)] at htk
          clear hK
          simp -implicitDefEqProofs only [push_cast, false_implies, reduceCtorEq, Classical.not_not, Nat.reduceAdd, Nat.reduceSub, Nat.reduceMul, Nat.reduceLeDiff, Nat.reduceLT, Nat.reduceEqDiff, Nat.reduceBEq, Nat.reduceBNe, Int.reduceNeg, Int.reduceToNat, Bool.or_false, Bool.false_or, Bool.or_true, Bool.true_or, BEq.rfl, Bool.not_eq_true, Bool.not_eq_false, decide_eq_true_eq, not_true_eq_false, not_false_eq_true, ite_true, ite_false, List.append_nil, and_assoc, Nat.mul_zero, Nat.zero_mul, b58_1, r2, pt0, Pt.rc, hlr, he5, fs58, hfq, tkV, hget, hlm, Int.toNat_natCast]
          refine ⟨fun _ => ?_, fun h => by omega⟩
          repeat (refine And.intro (by first | omega | trivial | (intros; omega)) ?_)
          refine postF.mk' (fun _ => default) [some 0] ?_
          simp -implicitDefEqProofs only [push_cast, false_implies, reduceCtorEq, Classical.not_not, Nat.reduceAdd, Nat.reduceSub, Nat.reduceMul, Nat.reduceLeDiff, Nat.reduceLT, Nat.reduceEqDiff, Nat.reduceBEq, Nat.reduceBNe, Int.reduceNeg, Int.reduceToNat, Bool.or_false, Bool.false_or, Bool.or_true, Bool.true_or, BEq.rfl, Bool.not_eq_true, Bool.not_eq_false, decide_eq_true_eq, not_true_eq_false, not_false_eq_true, ite_true, ite_false, List.append_nil, and_assoc, Nat.mul_zero, Nat.zero_mul, hT3, htk, tkV]
        · rw [if_pos rfl] at htk
          simp -implicitDefEqProofs only [push_cast, false_implies, reduceCtorEq, Classical.not_not, Nat.reduceAdd, Nat.reduceSub, Nat.reduceMul, Nat.reduceLeDiff, Nat.reduceLT, Nat.reduceEqDiff, Nat.reduceBEq, Nat.reduceBNe, Int.reduceNeg, Int.reduceToNat, Bool.or_false, Bool.false_or, Bool.or_true, Bool.true_or, BEq.rfl, Bool.not_eq_true, Bool.not_eq_false, decide_eq_true_eq, not_true_eq_false, not_false_eq_true, ite_true, ite_false, List.append_nil, and_assoc, Nat.mul_zero, Nat.zero_mul, b58_1, r2, pt0, Pt.rc, hlr, he5, fs58, hfq, tkV, hget, hlm, Int.toNat_natCast]
          refine ⟨fun _ => ?_, fun h => by omega⟩
          repeat (refine And.intro (by first | omega | trivial | (intros; omega)) ?_)
          refine hK (k + 1, o2, c' + c2) ⟨show k + 1 ≤ Q.length by omega, n2, by simp only; omega, by simp only; push_cast; omega, by rw [htk]; simp only [Int.add_comm]⟩ (show Q.length - (k + 1) < Q.length - k by omega) _ _ (Sub.pt ?_)
          simp -implicitDefEqProofs only [push_cast, false_implies, reduceCtorEq, Classical.not_not, Nat.reduceAdd, Nat.reduceSub, Nat.reduceMul, Nat.reduceLeDiff, Nat.reduceLT, Nat.reduceEqDiff, Nat.reduceBEq, Nat.reduceBNe, Int.reduceNeg, Int.reduceToNat, Bool.or_false, Bool.false_or, Bool.or_true, Bool.true_or, BEq.rfl, Bool.not_eq_true, Bool.not_eq_false, decide_eq_true_eq, not_true_eq_false, not_false_eq_true, ite_true, ite_false, List.append_nil, and_assoc, Nat.mul_zero, Nat.zero_mul, he5]
      · obtain rfl : k = Q.length := by omega
        clear hK
        rw [List.drop_length] at htk
        have e1 : tks f [] (o', c') = (true, o', c') := rfl
        rw [e1] at htk
        simp -implicitDefEqProofs only [push_cast, false_implies, reduceCtorEq, Classical.not_not, Nat.reduceAdd, Nat.reduceSub, Nat.reduceMul, Nat.reduceLeDiff, Nat.reduceLT, Nat.reduceEqDiff, Nat.reduceBEq, Nat.reduceBNe, Int.reduceNeg, Int.reduceToNat, Bool.or_false, Bool.false_or, Bool.or_true, Bool.true_or, BEq.rfl, Bool.not_eq_true, Bool.not_eq_false, decide_eq_true_eq, not_true_eq_false, not_false_eq_true, ite_true, ite_false, List.append_nil, and_assoc, Nat.mul_zero, Nat.zero_mul, b58_1, r58_2, Int.lt_irrefl, true_implies, true_and]
        refine postF.mk' (fun _ => default) [some 0] ?_
        simp -implicitDefEqProofs only [push_cast, false_implies, reduceCtorEq, Classical.not_not, Nat.reduceAdd, Nat.reduceSub, Nat.reduceMul, Nat.reduceLeDiff, Nat.reduceLT, Nat.reduceEqDiff, Nat.reduceBEq, Nat.reduceBNe, Int.reduceNeg, Int.reduceToNat, Bool.or_false, Bool.false_or, Bool.or_true, Bool.true_or, BEq.rfl, Bool.not_eq_true, Bool.not_eq_false, decide_eq_true_eq, not_true_eq_false, not_false_eq_true, ite_true, ite_false, List.append_nil, and_assoc, Nat.mul_zero, Nat.zero_mul, fs58, hT3, htk, tkV]
def ir37 : IR :=
  .seq (.reg false [⟨some 6, none, ⟨[], []⟩, .mov (.k (.int .i64 0))⟩,
    ⟨some 7, none, ⟨[], []⟩, .mov (.k (.bool false))⟩] [6, 7] []) (.seq (.seq (.reg false [⟨some 11, none, ⟨[], []⟩, .mov (.t 0)⟩,
    ⟨some 12, none, ⟨[], []⟩, .bin 0 .eql (.t 11) (.k (.int .i64 0))⟩,
    ⟨some 13, none, ⟨[], []⟩, .mov (.t 12)⟩,
    ⟨some 14, some (13, false), ⟨[], []⟩, .mov (.t 1)⟩,
    ⟨some 15, some (13, false), ⟨[], []⟩, .bin 0 .eql (.t 14) (.k (.int .i64 0))⟩,
    ⟨some 16, none, ⟨[], []⟩, .pick (.t 13) (.k (.bool true)) (.t 15)⟩] [11, 12, 13, 14, 15] []) (.cond (.t 16) (.seq (.reg false [⟨some 17, none, ⟨[], []⟩, .mov (.t 2)⟩,
    ⟨some 18, none, ⟨[], []⟩, .len (.t 17)⟩,
    ⟨some 19, none, ⟨[], []⟩, .bin 0 .eql (.t 18) (.k (.int .i64 0))⟩,
    ⟨some 6, none, ⟨[], []⟩, .mov (.k (.int .i64 0))⟩,
    ⟨some 7, none, ⟨[], []⟩, .mov (.t 19)⟩] [0, 1, 2, 16, 17, 18, 19] []) (.ret)) (.skip))) (.seq (.reg false [⟨some 21, none, ⟨[], []⟩, .mov (.t 0)⟩,
    ⟨some 22, none, ⟨[], []⟩, .mov (.t 1)⟩,
    ⟨some 23, none, ⟨[], []⟩, .build [.int .i64 0, .int .i64 0, .int .i64 0, .int .i64 0, .int .i64 0] [(3, 1, .t 21), (4, 1, .t 22)]⟩,
    ⟨some 24, none, ⟨[], []⟩, .mov (.t 2)⟩,
    ⟨some 25, none, ⟨[], []⟩, .call (some 4) 10 58 [.t 23, .t 24]⟩,
    ⟨some 20, none, ⟨[], []⟩, .mov (.t 25)⟩,
    ⟨some 26, none, ⟨[], []⟩, .ext (.t 20) 0⟩,
    ⟨some 27, none, ⟨[], []⟩, .ext (.t 20) 1⟩,
    ⟨some 28, none, ⟨[], []⟩, .ext (.t 20) 2⟩,
    ⟨some 8, none, ⟨[], []⟩, .mov (.t 26)⟩,
    ⟨some 9, none, ⟨[], []⟩, .mov (.t 27)⟩,
    ⟨some 10, none, ⟨[], []⟩, .mov (.t 28)⟩] [0, 1, 2, 6, 7, 16, 20, 21, 22, 23, 24, 25, 26, 27, 28] []) (.seq (.reg false [⟨some 29, none, ⟨[], []⟩, .mov (.t 8)⟩,
    ⟨some 30, none, ⟨[], []⟩, .mov (.t 10)⟩,
    ⟨some 31, none, ⟨[], []⟩, .mov (.t 30)⟩,
    ⟨some 32, some (31, true), ⟨[], []⟩, .mov (.t 9)⟩,
    ⟨some 33, some (31, true), ⟨[], []⟩, .len (.t 32)⟩,
    ⟨some 34, some (31, true), ⟨[], []⟩, .bin 0 .eql (.t 33) (.k (.int .i64 0))⟩,
    ⟨some 35, none, ⟨[], []⟩, .pick (.t 31) (.t 34) (.k (.bool false))⟩,
    ⟨some 6, none, ⟨[], []⟩, .mov (.t 29)⟩,
    ⟨some 7, none, ⟨[], []⟩, .mov (.t 35)⟩] [8, 9, 10, 29, 30, 31, 32, 33, 34, 35] []) (.ret))))
set_option maxRecDepth 4000 in
theorem comp37 : (Try.f37.body.bind fun c => compC tab isP chkAll ir37 c) = some ir37 := by kernel_rfl
def cuR (w h : Int) (l : List Pt) : Int := if w * h = 0 then 0 else if (cuT w h l).1 = true then (cuT w h l).2.2 else 0
theorem cuR_of {w h : Int} {l : List Pt} (hb : (cuS w h l).1 = true) : cuR w h l = (cuS w h l).2 := by
  unfold cuS at hb ⊢
  unfold cuR
  split
  · rfl
  · rename_i h
    rw [if_neg h] at hb
    simp only [Bool.and_eq_true] at hb
    rw [if_pos hb.1]
def fs37 : FS := { fs41 with pre := fun a => a.l.length ≤ 1000000 ∧ (0 < a.l.length → a.s = 5) ∧ 0 ≤ a.w ∧ a.w ≤ 200 ∧ 0 ≤ a.h ∧ a.h ≤ 200 ∧ kdOk a.l, res := fun a _ => .tup [.int .i64 (cuR a.w a.h a.l), .bool (cuS a.w a.h a.l).1] }
set_option maxRecDepth 4000 in
theorem ok37 : FSOk Try.prog 37 fs37 := by
  refine ⟨⟨_, Try.func37, by kernel_rfl, by kernel_rfl⟩, fun a => ⟨by simp [fs37, fs41, push_cast, noMine, argOwn, Chunk.frArg], by simp [fs37, fs41, push_cast, outOk, Chunk.ext], fun x => .inl (by simp [fs37, fs41, push_cast, frNew, frOut, Chunk.fr])⟩, fun a hp => ?_⟩
  obtain ⟨L, s, l, W, H⟩ := a
  obtain ⟨hl, hs, h1, h2, h3, h4, hkd⟩ : l.length ≤ 1000000 ∧ (0 < l.length → s = 5) ∧ 0 ≤ W ∧ W ≤ 200 ∧ 0 ≤ H ∧ H ≤ 200 ∧ kdOk l := hp
  have hm := mul_bd h1 h2 h3 h4
  have hget := getPt_map l
  have hlm : (l.map Pt.rc).length = l.length := List.length_map _
  change Tri Try.prog 37 [.int .i64 W, .int .i64 H, .sl 0 L s 0 l.length] [some (.ro, L, .recs 5 false [] (l.map Pt.rc))] (postF fs37 ⟨L, s, l, W, H⟩)
  have z3 := fun hn => (zP_ok h1 h2 h3 h4 hn).2.2.1
  have ec : cuT W H l = tk l fuelN ⟨0, 0, W, H⟩ (0, 0) := rfl
  have hbd := fun hn => tk_bd fuelN ⟨0, 0, W, H⟩ (0, 0) (l := l) (zP_ok h1 h2 h3 h4 hn).2.1 (z3 hn) (Nat.zero_le _)
  generalize fuelN = N at z3 ec hbd
  refine tri_evS (hyp (l := [(58, spOf (fs58 (zP W H) N) inv58)]) (lp := [])
      ⟨entry_of (ok58 (zP W H) N) inv58, trivial⟩ trivial) Try.func37 comp37 (rs := [.tmp 6, .tmp 7]) (by rfl) Try.ntmps37 14 ?_
  have hWH : (W = 0 ∨ H = 0) ↔ W * H = 0 := Int.mul_eq_zero.symm
  by_cases hn : W * H = 0
  · have e1 : cuS W H l = (decide (l.length = 0), 0) := by unfold cuS; rw [if_pos hn]
    have e2 : cuR W H l = 0 := by unfold cuR; rw [if_pos hn]
    have hi : ((l.length : Int) = 0) = (l.length = 0) := by simp
    simp -implicitDefEqProofs only [push_cast, false_implies, reduceCtorEq, Classical.not_not, Nat.reduceAdd, Nat.reduceSub, Nat.reduceMul, Nat.reduceLeDiff, Nat.reduceLT, Nat.reduceEqDiff, Nat.reduceBEq, Nat.reduceBNe, Int.reduceNeg, Int.reduceToNat, Bool.or_false, Bool.false_or, Bool.or_true, Bool.true_or, BEq.rfl, Bool.not_eq_true, Bool.not_eq_false, decide_eq_true_eq, not_true_eq_false, not_false_eq_true, ite_true, ite_false, List.append_nil, and_assoc, Nat.mul_zero, Nat.zero_mul, ir37, hWH, hn]
    refine postF.mk' (fun _ => default) [some 0] ?_
    simp -implicitDefEqProofs only [push_cast, false_implies, reduceCtorEq, Classical.not_not, Nat.reduceAdd, Nat.reduceSub, Nat.reduceMul, Nat.reduceLeDiff, Nat.reduceLT, Nat.reduceEqDiff, Nat.reduceBEq, Nat.reduceBNe, Int.reduceNeg, Int.reduceToNat, Bool.or_false, Bool.false_or, Bool.or_true, Bool.true_or, BEq.rfl, Bool.not_eq_true, Bool.not_eq_false, decide_eq_true_eq, not_true_eq_false, not_false_eq_true, ite_true, ite_false, List.append_nil, and_assoc, Nat.mul_zero, Nat.zero_mul, fs37, fs41, e1, e2, hi]
  · obtain ⟨z1, z2, -, z4, z5⟩ := zP_ok h1 h2 h3 h4 hn
    have hW0 : ¬ W = 0 := by omega
    have hH0 : ¬ H = 0 := by omega
    have e1 : cuS W H l = ((cuT W H l).1 && decide ((cuT W H l).2.1 = l.length), (cuT W H l).2.2) := by unfold cuS; rw [if_neg hn]
    have e2 : cuR W H l = if (cuT W H l).1 = true then (cuT W H l).2.2 else 0 := by unfold cuR; rw [if_neg hn]
    have hl0 : l.length - 0 = l.length := rfl
    replace hbd := hbd hn
    replace z3 := z3 hn
    obtain ⟨b, o, c, ht⟩ : ∃ b o c, cuT W H l = (b, o, c) := ⟨_, _, _, rfl⟩
    rw [ht] at e1 e2
    rw [ec] at ht
    rw [ht] at hbd
    obtain ⟨-, b1, b2, b3⟩ := hbd
    simp only at b1 b2 b3
    have hi : (((l.length - o : Nat) : Int) = 0) = (o = l.length) := by
      apply propext; constructor <;> intro h <;> omega
    cases b
    all_goals
      have hv := congrArg (tkV L l) ht
      rw [tkV] at hv
      clear ht ec
      simp -implicitDefEqProofs only [push_cast, false_implies, reduceCtorEq, Classical.not_not, Nat.reduceAdd, Nat.reduceSub, Nat.reduceMul, Nat.reduceLeDiff, Nat.reduceLT, Nat.reduceEqDiff, Nat.reduceBEq, Nat.reduceBNe, Int.reduceNeg, Int.reduceToNat, Bool.or_false, Bool.false_or, Bool.or_true, Bool.true_or, BEq.rfl, Bool.not_eq_true, Bool.not_eq_false, decide_eq_true_eq, not_true_eq_false, not_false_eq_true, ite_true, ite_false, List.append_nil, and_assoc, Nat.mul_zero, Nat.zero_mul, ir37, hW0, hH0, fs58, hget, hlm, Int.toNat_natCast, hv, hl0, z1, z2, z3, hl, hs, hkd]
      refine ⟨hs, Nat.zero_le _, ?_⟩
      refine postF.mk' (fun _ => default) [some 0] ?_
      simp -implicitDefEqProofs only [push_cast, false_implies, reduceCtorEq, Classical.not_not, Nat.reduceAdd, Nat.reduceSub, Nat.reduceMul, Nat.reduceLeDiff, Nat.reduceLT, Nat.reduceEqDiff, Nat.reduceBEq, Nat.reduceBNe, Int.reduceNeg, Int.reduceToNat, Bool.or_false, Bool.false_or, Bool.or_true, Bool.true_or, BEq.rfl, Bool.not_eq_true, Bool.not_eq_false, decide_eq_true_eq, not_true_eq_false, not_false_eq_true, ite_true, ite_false, List.append_nil, and_assoc, Nat.mul_zero, Nat.zero_mul, fs37, fs41, e1, e2, hi, if_true, if_false]
def ent37 : Entry := spOf fs37 inv41
theorem e37 : EntryOk Try.prog 37 ent37 := entry_of ok37 inv41
@[push_cast] theorem ent37_app (us : List SV) (look : Look) (x : Nat → Xf.Loc) (k : Nat) : ent37 us look x k = spOf fs37 inv41 us look x k := rfl
def b18_1 : IR :=
  .seq (.seq (.reg false [⟨some 19, none, ⟨[], []⟩, .mov (.t 8)⟩,
    ⟨some 20, none, ⟨[], []⟩, .mov (.t 2)⟩,
    ⟨some 21, none, ⟨[], []⟩, .len (.t 20)⟩,
    ⟨some 22, none, ⟨[], []⟩, .bin 0 .lss (.t 19) (.t 21)⟩] [19, 20, 21] []) (.cond (.t 22) (.skip) (.exit 0))) (.seq (.block 1 (.seq (.reg true [⟨some 25, none, ⟨[], []⟩, .fld (.t 3) 0⟩,
    ⟨some 26, none, ⟨[], []⟩, .ld false none 0 0 (.t 25)⟩,
    ⟨some 27, none, ⟨[], []⟩, .fld (.t 3) 1⟩,
    ⟨some 28, none, ⟨[], []⟩, .ld false none 0 0 (.t 27)⟩,
    ⟨some 29, none, ⟨[], []⟩, .mov (.t 2)⟩,
    ⟨some 30, none, ⟨[], []⟩, .mov (.t 8)⟩,
    ⟨some 31, none, ⟨[], []⟩, .idxS (.t 29) (.t 30) 5⟩,
    ⟨some 32, none, ⟨[], []⟩, .ld true (some 5) 0 0 (.t 31)⟩,
    ⟨some 33, none, ⟨[], []⟩, .call (some 4) 20 36 [.t 26, .t 28, .t 32]⟩,
    ⟨some 34, none, ⟨[], []⟩, .not (.t 33)⟩] [22, 25, 26, 27, 28, 29, 30, 31, 32, 33] []) (.cond (.t 34) (.seq (.reg false [⟨some 6, none, ⟨[], []⟩, .mov (.k (.int .i64 0))⟩,
    ⟨some 7, none, ⟨[], []⟩, .mov (.k (.int .i64 2))⟩] [2, 3, 4, 8, 34] []) (.ret)) (.skip)))) (.reg false [⟨some 23, none, ⟨[], []⟩, .mov (.t 8)⟩,
    ⟨some 24, none, ⟨[], []⟩, .bin 0 .add (.t 23) (.k (.int .i64 1))⟩,
    ⟨some 8, none, ⟨[], []⟩, .mov (.t 24)⟩] [6, 7, 23, 24, 34] []))
def b18_2 : IR :=
  .seq (.seq (.reg false [⟨some 50, none, ⟨[], []⟩, .mov (.t 12)⟩,
    ⟨some 51, none, ⟨[], []⟩, .mov (.t 2)⟩,
    ⟨some 52, none, ⟨[], []⟩, .len (.t 51)⟩,
    ⟨some 53, none, ⟨[], []⟩, .bin 0 .lss (.t 50) (.t 52)⟩] [50, 51, 52] []) (.cond (.t 53) (.skip) (.exit 2))) (.seq (.block 3 (.reg true [⟨some 56, none, ⟨[], []⟩, .mov (.t 11)⟩,
    ⟨some 57, none, ⟨[], []⟩, .ld false (some 3) 0 0 (.t 3)⟩,
    ⟨some 58, none, ⟨[], []⟩, .ld false (some 4) 0 0 (.t 4)⟩,
    ⟨some 59, none, ⟨[], []⟩, .mov (.t 2)⟩,
    ⟨some 60, none, ⟨[], []⟩, .mov (.t 12)⟩,
    ⟨some 61, none, ⟨[], []⟩, .idxS (.t 59) (.t 60) 5⟩,
    ⟨some 62, none, ⟨[], []⟩, .ld true (some 5) 0 0 (.t 61)⟩,
    ⟨some 63, none, ⟨[], []⟩, .call (some 4) 28 38 [.t 57, .t 58, .t 62]⟩,
    ⟨some 64, none, ⟨[], []⟩, .bin 0 .add (.t 56) (.t 63)⟩,
    ⟨some 11, none, ⟨[], []⟩, .mov (.t 64)⟩] [53, 56, 57, 58, 59, 60, 61, 62, 63, 64] [])) (.reg false [⟨some 54, none, ⟨[], []⟩, .mov (.t 12)⟩,
    ⟨some 55, none, ⟨[], []⟩, .bin 0 .add (.t 54) (.k (.int .i64 1))⟩,
    ⟨some 12, none, ⟨[], []⟩, .mov (.t 55)⟩] [54, 55] []))
def r18_3 : IR :=
  .seq (.reg false [⟨some 65, none, ⟨[], []⟩, .mov (.t 11)⟩,
    ⟨some 6, none, ⟨[], []⟩, .mov (.t 65)⟩,
    ⟨some 7, none, ⟨[], []⟩, .mov (.k (.int .i64 0))⟩] [2, 3, 4, 11, 12, 65] []) (.ret)
def r18_4 : IR :=
  .seq (.reg false [⟨some 36, none, ⟨[], []⟩, .fld (.t 3) 0⟩,
    ⟨some 37, none, ⟨[], []⟩, .ld false none 0 0 (.t 36)⟩,
    ⟨some 38, none, ⟨[], []⟩, .fld (.t 3) 1⟩,
    ⟨some 39, none, ⟨[], []⟩, .ld false none 0 0 (.t 38)⟩,
    ⟨some 40, none, ⟨[], []⟩, .mov (.t 2)⟩,
    ⟨some 41, none, ⟨[], []⟩, .call (some 4) 24 37 [.t 37, .t 39, .t 40]⟩,
    ⟨some 35, none, ⟨[], []⟩, .mov (.t 41)⟩,
    ⟨some 42, none, ⟨[], []⟩, .ext (.t 35) 0⟩,
    ⟨some 43, none, ⟨[], []⟩, .ext (.t 35) 1⟩,
    ⟨some 9, none, ⟨[], []⟩, .mov (.t 42)⟩,
    ⟨some 10, none, ⟨[], []⟩, .mov (.t 43)⟩] [8, 35, 36, 37, 38, 39, 40, 41, 42, 43] []) (.seq (.seq (.reg false [⟨some 44, none, ⟨[], []⟩, .mov (.t 10)⟩,
    ⟨some 45, none, ⟨[], []⟩, .not (.t 44)⟩] [10, 44] []) (.cond (.t 45) (.seq (.reg false [⟨some 6, none, ⟨[], []⟩, .mov (.k (.int .i64 0))⟩,
    ⟨some 7, none, ⟨[], []⟩, .mov (.k (.int .i64 71))⟩] [2, 3, 4, 9, 45] []) (.ret)) (.skip))) (.seq (.reg false [⟨some 46, none, ⟨[], []⟩, .mov (.t 9)⟩,
    ⟨some 47, none, ⟨[], []⟩, .fld (.t 4) 0⟩,
    ⟨some 48, none, ⟨[], []⟩, .ld false none 0 0 (.t 47)⟩,
    ⟨some 49, none, ⟨[], []⟩, .bin 0 .mul (.t 46) (.t 48)⟩,
    ⟨some 11, none, ⟨[], []⟩, .mov (.t 49)⟩] [6, 7, 9, 45, 46, 47, 48, 49] []) (.seq (.seq (.reg false [⟨some 12, none, ⟨[], []⟩, .mov (.k (.int .i64 0))⟩] [] []) (.block 2 (.loop b18_2))) (r18_3))))
def ir18 : IR :=
  .seq (.reg false [⟨some 3, none, ⟨[], []⟩, .box 10 (.t 0)⟩,
    ⟨some 4, none, ⟨[], []⟩, .box 11 (.t 1)⟩,
    ⟨some 6, none, ⟨[], []⟩, .mov (.k (.int .i64 0))⟩,
    ⟨some 7, none, ⟨[], []⟩, .mov (.k (.int .i64 0))⟩] [0, 1, 6, 7] []) (.seq (.seq (.reg false [⟨some 13, none, ⟨[], []⟩, .ld false (some 3) 0 0 (.t 3)⟩,
    ⟨some 14, none, ⟨[], []⟩, .call (some 4) 12 15 [.t 13]⟩,
    ⟨some 15, none, ⟨[], []⟩, .not (.t 14)⟩] [13, 14] []) (.cond (.t 15) (.seq (.reg false [⟨some 6, none, ⟨[], []⟩, .mov (.k (.int .i64 0))⟩,
    ⟨some 7, none, ⟨[], []⟩, .mov (.k (.int .i64 70))⟩] [2, 3, 4, 15] []) (.ret)) (.skip))) (.seq (.seq (.reg false [⟨some 16, none, ⟨[], []⟩, .ld false (some 4) 0 0 (.t 4)⟩,
    ⟨some 17, none, ⟨[], []⟩, .call (some 4) 16 35 [.t 16]⟩,
    ⟨some 18, none, ⟨[], []⟩, .not (.t 17)⟩] [6, 7, 15, 16, 17] []) (.cond (.t 18) (.seq (.reg false [⟨some 6, none, ⟨[], []⟩, .mov (.k (.int .i64 0))⟩,
    ⟨some 7, none, ⟨[], []⟩, .mov (.k (.int .i64 2))⟩] [2, 3, 4, 18] []) (.ret)) (.skip))) (.seq (.seq (.reg false [⟨some 8, none, ⟨[], []⟩, .mov (.k (.int .i64 0))⟩] [6, 7, 18] []) (.block 0 (.loop b18_1))) (r18_4))))
def kp18_1 : List Nat := [2, 3, 4, 8]
def kl18_1 : List Nat := [20, 21, 22, 23]
attribute [push_cast] kp18_1 kl18_1
def kp18_2 : List Nat := [2, 3, 4, 11, 12]
def kl18_2 : List Nat := [28, 29, 30, 31]
attribute [push_cast] kp18_2 kl18_2
set_option maxRecDepth 4000 in
theorem comp18 : (Try.f18.body.bind fun c => compC tab isP chkAll ir18 c) = some ir18 := by kernel_rfl
theorem pa_facts {w h : Int} {xs : List Int} {e : En} {kd qx qy qw qh : Int} (hG : (⟨w, h, xs⟩ : Pl).Gr) (hE : e.Ok) (hI : (⟨kd, qx, qy, qw, qh⟩ : Pt).In w h) :
    paN ⟨w, h, xs⟩ e ⟨kd, qx, qy, qw, qh⟩ = (⟨qx.toNat, qy.toNat, qw.toNat, qh.toNat, w.toNat, h.toNat, xs⟩ : Rp).en e kd.toNat ∧
    (⟨qx.toNat, qy.toNat, qw.toNat, qh.toNat, w.toNat, h.toNat, xs⟩ : Rp).Ok ∧ (⟨qx.toNat, qy.toNat, qw.toNat, qh.toNat, w.toNat, h.toNat, xs⟩ : Rp).grey ∧ 0 < (⟨qx.toNat, qy.toNat, qw.toNat, qh.toNat, w.toNat, h.toNat, xs⟩ : Rp).n ∧
    (qx.toNat : Int) = qx ∧ (qy.toNat : Int) = qy ∧ (qw.toNat : Int) = qw ∧ (qh.toNat : Int) = qh ∧ (w.toNat : Int) = w ∧ (h.toNat : Int) = h ∧ 0 ≤ kd ∧ kd ≤ 2 := by
  have hsd : SidesOk w h := hG.1
  obtain ⟨s1, s2, s3, s4, s5⟩ := hsd
  have e1 : paN ⟨w, h, xs⟩ e ⟨kd, qx, qy, qw, qh⟩ = (rpOf (⟨w, h, xs⟩ : Pl).pn ⟨qx, qy, qw, qh⟩).en e kd.toNat := by unfold paN; rw [if_pos ⟨hG, hE, hI⟩]; rfl
  obtain ⟨j1, j2, j3, j4, j5, j6, j7, j8, j9, j10⟩ := id hI
  simp only at j1 j2 j3 j4 j5 j6 j7 j8 j9 j10 s1 s2 s3 s4
  have hl0 : 0 < xs.length := by
    have hl : (xs.length : Int) = w * h := hG.2.1
    have := Int.mul_pos (show 0 < w by omega) (show 0 < h by omega)
    omega
  obtain ⟨g1, g2, g3, g4, g5⟩ := hG.pn hl0
  have hin : inR (⟨w, h, xs⟩ : Pl).pn ⟨qx, qy, qw, qh⟩ := ⟨j3, j4, j5, j6, show qx + qw ≤ (w.toNat : Int) by omega, show qy + qh ≤ (h.toNat : Int) by omega⟩
  obtain ⟨hRp, hGr⟩ := hin.rp g1
  exact ⟨e1, hRp, hGr, Nat.mul_pos (show 0 < qw.toNat by omega) (show 0 < qh.toNat by omega), by omega, by omega, by omega, by omega, by omega, by omega, j1, j2⟩
set_option maxRecDepth 4000 in
set_option maxHeartbeats 1000000 in
theorem ok18 : FSOk Try.prog 18 fs17 := by
  refine ⟨⟨_, Try.func18, by kernel_rfl, by kernel_rfl⟩, fun a => ⟨by simp [fs17, push_cast, noMine, argOwn, Chunk.frArg], by simp [fs17, push_cast, outOk, Chunk.ext], fun x => .inl (by simp [fs17, push_cast, frNew, frOut, Chunk.fr])⟩, fun a hp => ?_⟩
  obtain ⟨⟨p, L⟩, e, LP, s, l⟩ := a
  obtain ⟨hp, hl, hs⟩ : p.xs.length ≤ 140737488355328 ∧ l.length ≤ 1000000 ∧ (0 < l.length → s = 5) := hp
  have hget := getPt_map l
  have hlm : (l.map Pt.rc).length = l.length := List.length_map _
  have hpb := paN_bd p e
  have hsb := paS_bd p e l
  have hst := fun {i} => paS_step (p := p) (e := e) (l := l) (i := i)
  have y1 : p.Gr → e.Ok → ptsIn p.w p.h l → (cuS p.w p.h l).1 = true → eyN p e l = (cuS p.w p.h l).2 * e.cut + paS p e l ∧ eyE p e l = 0 := fun a b c d => by
    have e1 : cuE p.w p.h l = 0 := by unfold cuE; rw [if_pos c, if_pos d]
    have e2 : cuN p.w p.h l = (cuS p.w p.h l).2 := by unfold cuN; rw [if_pos ⟨c, d⟩]
    unfold eyN eyE; rw [if_pos ⟨a, b, e1⟩, if_pos a, if_pos b, e1, e2]; exact ⟨rfl, rfl⟩
  have y2 : p.Gr → e.Ok → ptsIn p.w p.h l → ¬ (cuS p.w p.h l).1 = true → eyN p e l = 0 ∧ eyE p e l = 71 := fun a b c d => by
    have e1 : cuE p.w p.h l = 71 := by unfold cuE; rw [if_pos c, if_neg d]
    unfold eyN eyE; rw [if_neg (by rw [e1]; exact fun H => absurd H.2.2 (by decide)), if_pos a, if_pos b, e1]; exact ⟨rfl, rfl⟩
  have y3 : p.Gr → e.Ok → ¬ ptsIn p.w p.h l → eyN p e l = 0 ∧ eyE p e l = 2 := fun a b c => by
    have e1 : cuE p.w p.h l = 2 := by unfold cuE; rw [if_neg c]
    unfold eyN eyE; rw [if_neg (by rw [e1]; exact fun H => absurd H.2.2 (by decide)), if_pos a, if_pos b, e1]; exact ⟨rfl, rfl⟩
  have y4 : p.Gr → ¬ e.Ok → eyN p e l = 0 ∧ eyE p e l = 2 := fun a b => by
    unfold eyN eyE; rw [if_neg fun H => b H.2.1, if_pos a, if_neg b]; exact ⟨rfl, rfl⟩
  have y5 : ¬ p.Gr → eyN p e l = 0 ∧ eyE p e l = 70 := fun a => by
    unfold eyN eyE; rw [if_neg fun H => a H.1, if_neg a]; exact ⟨rfl, rfl⟩
  obtain ⟨w, h, xs⟩ := p
  obtain ⟨c, q, t, i⟩ := e
  change xs.length ≤ 140737488355328 at hp
  simp only at y1 y2 y3
  change Tri Try.prog 18 [plV ⟨w, h, xs⟩ L 0, .agg [.int .i64 c, .int .i64 q, .int .i64 t, .int .i64 i], .sl 1 LP s 0 l.length] [some (.ro, L, .ints .i64 xs), some (.ro, LP, .recs 5 false [] (l.map Pt.rc))] (postF fs17 ⟨⟨⟨w, h, xs⟩, L⟩, ⟨c, q, t, i⟩, LP, s, l⟩)
  refine tri_evS (hyp (l := [(15, ent15), (35, ent35), (36, ent36), (37, ent37), (38, ent38)]) (lp := []) ⟨e15, e35, e36, e37, e38, trivial⟩ trivial) Try.func18 comp18 (rs := [.tmp 6, .tmp 7]) (by rfl) Try.ntmps18 32 ?_
  by_cases hG : (⟨w, h, xs⟩ : Pl).Gr
  case neg =>
    obtain ⟨v1, v2⟩ := y5 hG
    simp -implicitDefEqProofs only [push_cast, false_implies, reduceCtorEq, Classical.not_not, Nat.reduceAdd, Nat.reduceSub, Nat.reduceMul, Nat.reduceLeDiff, Nat.reduceLT, Nat.reduceEqDiff, Nat.reduceBEq, Nat.reduceBNe, Int.reduceNeg, Int.reduceToNat, Bool.or_false, Bool.false_or, Bool.or_true, Bool.true_or, BEq.rfl, Bool.not_eq_true, Bool.not_eq_false, decide_eq_true_eq, not_true_eq_false, not_false_eq_true, ite_true, ite_false, List.append_nil, and_assoc, Nat.mul_zero, Nat.zero_mul, ir18, fs14, fs12, plV, hG, hp]
    refine fun X => postF.mk' (fun _ => default) [some 0, some 1] ?_
    simp -implicitDefEqProofs only [push_cast, false_implies, reduceCtorEq, Classical.not_not, Nat.reduceAdd, Nat.reduceSub, Nat.reduceMul, Nat.reduceLeDiff, Nat.reduceLT, Nat.reduceEqDiff, Nat.reduceBEq, Nat.reduceBNe, Int.reduceNeg, Int.reduceToNat, Bool.or_false, Bool.false_or, Bool.or_true, Bool.true_or, BEq.rfl, Bool.not_eq_true, Bool.not_eq_false, decide_eq_true_eq, not_true_eq_false, not_false_eq_true, ite_true, ite_false, List.append_nil, and_assoc, Nat.mul_zero, Nat.zero_mul, fs17, v1, v2]
  have hsd : SidesOk w h := hG.1
  obtain ⟨s1, s2, s3, s4, s5⟩ := hsd
  by_cases hE : (⟨c, q, t, i⟩ : En).Ok
  case neg =>
    obtain ⟨v1, v2⟩ := y4 hG hE
    simp -implicitDefEqProofs only [push_cast, false_implies, reduceCtorEq, Classical.not_not, Nat.reduceAdd, Nat.reduceSub, Nat.reduceMul, Nat.reduceLeDiff, Nat.reduceLT, Nat.reduceEqDiff, Nat.reduceBEq, Nat.reduceBNe, Int.reduceNeg, Int.reduceToNat, Bool.or_false, Bool.false_or, Bool.or_true, Bool.true_or, BEq.rfl, Bool.not_eq_true, Bool.not_eq_false, decide_eq_true_eq, not_true_eq_false, not_false_eq_true, ite_true, ite_false, List.append_nil, and_assoc, Nat.mul_zero, Nat.zero_mul, ir18, fs14, fs12, fs29, plV, enV, hG, hE, hp]
    refine fun X => postF.mk' (fun _ => default) [some 0, some 1] ?_
    simp -implicitDefEqProofs only [push_cast, false_implies, reduceCtorEq, Classical.not_not, Nat.reduceAdd, Nat.reduceSub, Nat.reduceMul, Nat.reduceLeDiff, Nat.reduceLT, Nat.reduceEqDiff, Nat.reduceBEq, Nat.reduceBNe, Int.reduceNeg, Int.reduceToNat, Bool.or_false, Bool.false_or, Bool.or_true, Bool.true_or, BEq.rfl, Bool.not_eq_true, Bool.not_eq_false, decide_eq_true_eq, not_true_eq_false, not_false_eq_true, ite_true, ite_false, List.append_nil, and_assoc, Nat.mul_zero, Nat.zero_mul, fs17, v1, v2]
  simp -implicitDefEqProofs only [push_cast, false_implies, reduceCtorEq, Classical.not_not, Nat.reduceAdd, Nat.reduceSub, Nat.reduceMul, Nat.reduceLeDiff, Nat.reduceLT, Nat.reduceEqDiff, Nat.reduceBEq, Nat.reduceBNe, Int.reduceNeg, Int.reduceToNat, Bool.or_false, Bool.false_or, Bool.or_true, Bool.true_or, BEq.rfl, Bool.not_eq_true, Bool.not_eq_false, decide_eq_true_eq, not_true_eq_false, not_false_eq_true, ite_true, ite_false, List.append_nil, and_assoc, Nat.mul_zero, Nat.zero_mul, ir18, fs14, fs12, fs29, plV, enV, hG, hE, hp]
  intro X
  refine evS_loopU (A := Nat) kp18_1 kl18_1 (fun k => [(8, .int .i64 k)]) (fun _ => []) (fun k => k ≤ l.length ∧ ∀ j : Nat, j < k → (rdPt l j).In w h) (fun k => l.length - k) 0 ⟨Nat.zero_le _, fun j hj => absurd hj (Nat.not_lt_zero j)⟩ (Sub.pt ?_) ?_
  · simp -implicitDefEqProofs only [push_cast, false_implies, reduceCtorEq, Classical.not_not, Nat.reduceAdd, Nat.reduceSub, Nat.reduceMul, Nat.reduceLeDiff, Nat.reduceLT, Nat.reduceEqDiff, Nat.reduceBEq, Nat.reduceBNe, Int.reduceNeg, Int.reduceToNat, Bool.or_false, Bool.false_or, Bool.or_true, Bool.true_or, BEq.rfl, Bool.not_eq_true, Bool.not_eq_false, decide_eq_true_eq, not_true_eq_false, not_false_eq_true, ite_true, ite_false, List.append_nil, and_assoc, Nat.mul_zero, Nat.zero_mul]
  intro k ⟨hk, hj⟩ K hK
  by_cases hk' : k < l.length
  · have r1 := recAt_Pt hk' []
    have hmem := rdPt_mem hk'
    obtain rfl := hs (by omega)
    obtain ⟨q', hq⟩ : ∃ q, rdPt l k = q := ⟨_, rfl⟩
    rw [hq] at r1 hmem
    obtain ⟨kd, qx, qy, qw, qh⟩ := q'
    by_cases hI : (⟨kd, qx, qy, qw, qh⟩ : Pt).In w h
    · simp -implicitDefEqProofs only [push_cast, false_implies, reduceCtorEq, Classical.not_not, Nat.reduceAdd, Nat.reduceSub, Nat.reduceMul, Nat.reduceLeDiff, Nat.reduceLT, Nat.reduceEqDiff, Nat.reduceBEq, Nat.reduceBNe, Int.reduceNeg, Int.reduceToNat, Bool.or_false, Bool.false_or, Bool.or_true, Bool.true_or, BEq.rfl, Bool.not_eq_true, Bool.not_eq_false, decide_eq_true_eq, not_true_eq_false, not_false_eq_true, ite_true, ite_false, List.append_nil, and_assoc, Nat.mul_zero, Nat.zero_mul, b18_1, r1, Pt.rc, hlm, fs36, ptV, s1, s2, s3, s4, hI]
      refine ⟨fun _ => ?_, fun h => by omega⟩
      repeat (refine And.intro (by first | omega | trivial | (intros; omega)) ?_)
      refine hK (k + 1) ⟨by omega, fun j h => ?_⟩ (show l.length - (k + 1) < l.length - k by omega) _ _ (Sub.pt ?_)
      · by_cases e : j = k
        · subst e; rw [hq]; exact hI
        · exact hj j (by omega)
      · simp -implicitDefEqProofs only [push_cast, false_implies, reduceCtorEq, Classical.not_not, Nat.reduceAdd, Nat.reduceSub, Nat.reduceMul, Nat.reduceLeDiff, Nat.reduceLT, Nat.reduceEqDiff, Nat.reduceBEq, Nat.reduceBNe, Int.reduceNeg, Int.reduceToNat, Bool.or_false, Bool.false_or, Bool.or_true, Bool.true_or, BEq.rfl, Bool.not_eq_true, Bool.not_eq_false, decide_eq_true_eq, not_true_eq_false, not_false_eq_true, ite_true, ite_false, List.append_nil, and_assoc, Nat.mul_zero, Nat.zero_mul]
    · clear hK
      obtain ⟨v1, v2⟩ := y3 hG hE fun H => hI (H _ hmem)
      simp -implicitDefEqProofs only [push_cast, false_implies, reduceCtorEq, Classical.not_not, Nat.reduceAdd, Nat.reduceSub, Nat.reduceMul, Nat.reduceLeDiff, Nat.reduceLT, Nat.reduceEqDiff, Nat.reduceBEq, Nat.reduceBNe, Int.reduceNeg, Int.reduceToNat, Bool.or_false, Bool.false_or, Bool.or_true, Bool.true_or, BEq.rfl, Bool.not_eq_true, Bool.not_eq_false, decide_eq_true_eq, not_true_eq_false, not_false_eq_true, ite_true, ite_false, List.append_nil, and_assoc, Nat.mul_zero, Nat.zero_mul, b18_1, r1, Pt.rc, hlm, fs36, ptV, s1, s2, s3, s4, hI]
      refine ⟨fun _ => ?_, fun h => by omega⟩
      repeat (refine And.intro (by first | omega | trivial | (intros; omega)) ?_)
      refine postF.mk' (fun _ => default) [some 0, some 1] ?_
      simp -implicitDefEqProofs only [push_cast, false_implies, reduceCtorEq, Classical.not_not, Nat.reduceAdd, Nat.reduceSub, Nat.reduceMul, Nat.reduceLeDiff, Nat.reduceLT, Nat.reduceEqDiff, Nat.reduceBEq, Nat.reduceBNe, Int.reduceNeg, Int.reduceToNat, Bool.or_false, Bool.false_or, Bool.or_true, Bool.true_or, BEq.rfl, Bool.not_eq_true, Bool.not_eq_false, decide_eq_true_eq, not_true_eq_false, not_false_eq_true, ite_true, ite_false, List.append_nil, and_assoc, Nat.mul_zero, Nat.zero_mul, fs17, v1, v2]
  · obtain rfl : k = l.length := by omega
    clear hK
    have hP : ptsIn w h l := fun x hx => by
      obtain ⟨j, hj', rfl⟩ := List.mem_iff_getElem.1 hx
      have := hj j hj'
      simpa [rdPt, hj'] using this
    have hkd : kdOk l := fun x hx => ⟨(hP x hx).1, (hP x hx).2.1⟩
    obtain ⟨⟨b, n⟩, hc⟩ : ∃ c, cuS w h l = c := ⟨_, rfl⟩
    have hcb := cuS_bd (l := l) s1 s3 s2 s4
    rw [hc] at hcb y1 y2
    obtain ⟨⟨c1, c2⟩, _⟩ := id hE
    simp only at c1 c2 hcb y1 y2
    have hm := mul_bd hcb.1 hcb.2 c1 c2
    have hcR := cuR_of (w := w) (h := h) (l := l)
    rw [hc] at hcR
    cases b
    · obtain ⟨v1, v2⟩ := y2 hG hE hP (by decide)
      simp -implicitDefEqProofs only [push_cast, false_implies, reduceCtorEq, Classical.not_not, Nat.reduceAdd, Nat.reduceSub, Nat.reduceMul, Nat.reduceLeDiff, Nat.reduceLT, Nat.reduceEqDiff, Nat.reduceBEq, Nat.reduceBNe, Int.reduceNeg, Int.reduceToNat, Bool.or_false, Bool.false_or, Bool.or_true, Bool.true_or, BEq.rfl, Bool.not_eq_true, Bool.not_eq_false, decide_eq_true_eq, not_true_eq_false, not_false_eq_true, ite_true, ite_false, List.append_nil, and_assoc, Nat.mul_zero, Nat.zero_mul, b18_1, r18_4, Int.lt_irrefl, true_implies, true_and, fs37, fs41, hget, hlm, hl, hc, hkd, s1, s2, s3, s4]
      refine ⟨hs, ?_⟩
      refine postF.mk' (fun _ => default) [some 0, some 1] ?_
      simp -implicitDefEqProofs only [push_cast, false_implies, reduceCtorEq, Classical.not_not, Nat.reduceAdd, Nat.reduceSub, Nat.reduceMul, Nat.reduceLeDiff, Nat.reduceLT, Nat.reduceEqDiff, Nat.reduceBEq, Nat.reduceBNe, Int.reduceNeg, Int.reduceToNat, Bool.or_false, Bool.false_or, Bool.or_true, Bool.true_or, BEq.rfl, Bool.not_eq_true, Bool.not_eq_false, decide_eq_true_eq, not_true_eq_false, not_false_eq_true, ite_true, ite_false, List.append_nil, and_assoc, Nat.mul_zero, Nat.zero_mul, fs17, v1, v2]
    · obtain ⟨v1, v2⟩ := y1 hG hE hP rfl
      have hcR := hcR rfl
      simp -implicitDefEqProofs only [push_cast, false_implies, reduceCtorEq, Classical.not_not, Nat.reduceAdd, Nat.reduceSub, Nat.reduceMul, Nat.reduceLeDiff, Nat.reduceLT, Nat.reduceEqDiff, Nat.reduceBEq, Nat.reduceBNe, Int.reduceNeg, Int.reduceToNat, Bool.or_false, Bool.false_or, Bool.or_true, Bool.true_or, BEq.rfl, Bool.not_eq_true, Bool.not_eq_false, decide_eq_true_eq, not_true_eq_false, not_false_eq_true, ite_true, ite_false, List.append_nil, and_assoc, Nat.mul_zero, Nat.zero_mul, b18_1, r18_4, Int.lt_irrefl, true_implies, true_and, fs37, fs41, hget, hlm, hl, hc, hkd, hcR, s1, s2, s3, s4]
      refine ⟨hs, by omega, by omega, ?_⟩
      refine evS_loopU (A := Nat) kp18_2 kl18_2 (fun k => [(11, .int .i64 (n * c + paS ⟨w, h, xs⟩ ⟨c, q, t, i⟩ (l.take k))), (12, .int .i64 k)]) (fun _ => []) (fun k => k ≤ l.length) (fun k => l.length - k) 0 (Nat.zero_le _) (Sub.pt ?_) ?_
      · have z1 : paS ⟨w, h, xs⟩ ⟨c, q, t, i⟩ (l.take 0) = 0 := rfl
        simp -implicitDefEqProofs only [push_cast, false_implies, reduceCtorEq, Classical.not_not, Nat.reduceAdd, Nat.reduceSub, Nat.reduceMul, Nat.reduceLeDiff, Nat.reduceLT, Nat.reduceEqDiff, Nat.reduceBEq, Nat.reduceBNe, Int.reduceNeg, Int.reduceToNat, Bool.or_false, Bool.false_or, Bool.or_true, Bool.true_or, BEq.rfl, Bool.not_eq_true, Bool.not_eq_false, decide_eq_true_eq, not_true_eq_false, not_false_eq_true, ite_true, ite_false, List.append_nil, and_assoc, Nat.mul_zero, Nat.zero_mul, z1]
      intro k (hk : k ≤ l.length) K hK
      have hsk := hsb k hk
      by_cases hk' : k < l.length
      · have r1 := recAt_Pt hk' []
        have hst' := hst hk'
        have hpb' := hpb (rdPt l k)
        have hI := hP _ (rdPt_mem hk')
        obtain rfl := hs (by omega)
        obtain ⟨q', hq⟩ : ∃ q, rdPt l k = q := ⟨_, rfl⟩
        rw [hq] at r1 hst' hpb' hI
        obtain ⟨kd, qx, qy, qw, qh⟩ := q'
        obtain ⟨e1, hRp, hGr, hn0, t1, t2, t3, t4, g4, g5, k0, k2⟩ := pa_facts hG hE hI
        obtain ⟨v, hv⟩ : ∃ v, paN ⟨w, h, xs⟩ ⟨c, q, t, i⟩ ⟨kd, qx, qy, qw, qh⟩ = v := ⟨_, rfl⟩
        obtain ⟨S, hS⟩ : ∃ v, paS ⟨w, h, xs⟩ ⟨c, q, t, i⟩ (l.take k) = v := ⟨_, rfl⟩
        obtain ⟨S', hS'⟩ : ∃ v, paS ⟨w, h, xs⟩ ⟨c, q, t, i⟩ (l.take (k + 1)) = v := ⟨_, rfl⟩
        rw [hv] at hst' hpb' e1
        rw [hS] at hst' hsk
        rw [hS'] at hst'
        simp only [hS]
        simp -implicitDefEqProofs only [push_cast, false_implies, reduceCtorEq, Classical.not_not, Nat.reduceAdd, Nat.reduceSub, Nat.reduceMul, Nat.reduceLeDiff, Nat.reduceLT, Nat.reduceEqDiff, Nat.reduceBEq, Nat.reduceBNe, Int.reduceNeg, Int.reduceToNat, Bool.or_false, Bool.false_or, Bool.or_true, Bool.true_or, BEq.rfl, Bool.not_eq_true, Bool.not_eq_false, decide_eq_true_eq, not_true_eq_false, not_false_eq_true, ite_true, ite_false, List.append_nil, and_assoc, Nat.mul_zero, Nat.zero_mul, b18_2, r1, Pt.rc, hlm, fs38, plV, enV, ptV, hp, e1.symm, hE, hRp, hGr, hn0, t1, t2, t3, t4, g4, g5, k0, k2]
        refine ⟨fun _ => ?_, fun h => by omega⟩
        repeat (refine And.intro (by first | omega | trivial | (intros; omega)) ?_)
        refine hK (k + 1) (show k + 1 ≤ l.length by omega) (show l.length - (k + 1) < l.length - k by omega) _ _ (Sub.pt ?_)
        simp -implicitDefEqProofs only [push_cast, false_implies, reduceCtorEq, Classical.not_not, Nat.reduceAdd, Nat.reduceSub, Nat.reduceMul, Nat.reduceLeDiff, Nat.reduceLT, Nat.reduceEqDiff, Nat.reduceBEq, Nat.reduceBNe, Int.reduceNeg, Int.reduceToNat, Bool.or_false, Bool.false_or, Bool.or_true, Bool.true_or, BEq.rfl, Bool.not_eq_true, Bool.not_eq_false, decide_eq_true_eq, not_true_eq_false, not_false_eq_true, ite_true, ite_false, List.append_nil, and_assoc, Nat.mul_zero, Nat.zero_mul, hS', hst', Int.add_assoc]
      · obtain rfl : k = l.length := by omega
        clear hK
        rw [List.take_length] at *
        simp -implicitDefEqProofs only [push_cast, false_implies, reduceCtorEq, Classical.not_not, Nat.reduceAdd, Nat.reduceSub, Nat.reduceMul, Nat.reduceLeDiff, Nat.reduceLT, Nat.reduceEqDiff, Nat.reduceBEq, Nat.reduceBNe, Int.reduceNeg, Int.reduceToNat, Bool.or_false, Bool.false_or, Bool.or_true, Bool.true_or, BEq.rfl, Bool.not_eq_true, Bool.not_eq_false, decide_eq_true_eq, not_true_eq_false, not_false_eq_true, ite_true, ite_false, List.append_nil, and_assoc, Nat.mul_zero, Nat.zero_mul, b18_2, r18_3, Int.lt_irrefl, true_implies, true_and]
        refine postF.mk' (fun _ => default) [some 0, some 1] ?_
        simp -implicitDefEqProofs only [push_cast, false_implies, reduceCtorEq, Classical.not_not, Nat.reduceAdd, Nat.reduceSub, Nat.reduceMul, Nat.reduceLeDiff, Nat.reduceLT, Nat.reduceEqDiff, Nat.reduceBEq, Nat.reduceBNe, Int.reduceNeg, Int.reduceToNat, Bool.or_false, Bool.false_or, Bool.or_true, Bool.true_or, BEq.rfl, Bool.not_eq_true, Bool.not_eq_false, decide_eq_true_eq, not_true_eq_false, not_false_eq_true, ite_true, ite_false, List.append_nil, and_assoc, Nat.mul_zero, Nat.zero_mul, fs17, v1, v2]
def ent18 : Entry := spOf fs17 inv17
theorem e18 : EntryOk Try.prog 18 ent18 := entry_of ok18 inv17
@[push_cast] theorem ent18_app (us : List SV) (look : Look) (x : Nat → Xf.Loc) (k : Nat) : ent18 us look x k = spOf fs17 inv17 us look x k := rfl
def rcI (ns : List Int) : List RC := ns.map (RC.int .i64)
def flatIs (P : Program) (tot : Nat) : Nat → List Field → Bool
  | off, [] => decide (off = tot)
  | off, f :: fs => decide (f.offset = off) && (match P.underlying f.type with | some (.int .i64) => true | _ => false) && decide (P.cellsOf f.type = 1) && flatIs P tot (off + 1) fs
/-- A slice of structs of n numbers each. -/
def flatI (P : Program) (t : TypeId) (n : Nat) : Bool :=
  match P.underlying t with
  | some (.slice e) => match P.underlying e with
    | some (.struct fs) => decide (P.cellsOf e = n) && decide (0 < n) && decide (0 < P.bytesOf e) && flatIs P n 0 fs.toList
    | _ => false
  | _ => false
end Go.Proofs.Ytbndfifoakmdnaa
