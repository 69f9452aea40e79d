import Derived.Test.YtnmbimhcfioeiaaVx
set_option linter.unusedVariables false
set_option linter.unusedSimpArgs false
/-! Paint, walked. -/
namespace Go.Proofs.Ytnmbimhcfioeiaa
open Xf
set_option maxRecDepth 4000
/- incunable/colour.Paint : slots 110, labels 10..29; loop b31_1 keeps [2, 3, 4, 5, 6, 7, 8, 14, 16, 57, 58, 59] -/
def b31_1 : IR :=
  .seq (.reg false [⟨some 60, none, ⟨[], []⟩, .bin 0 .lss (.t 59) (.t 58)⟩] [] []) (.seq (.cond (.t 60) (.skip) (.exit 0)) (.seq (.block 1 (.seq (.reg false [⟨some 61, none, ⟨[], []⟩, .mov (.t 59)⟩,
    ⟨some 62, none, ⟨[], []⟩, .idxS (.t 57) (.t 59) 1⟩,
    ⟨some 63, none, ⟨[], []⟩, .ld true none 0 0 (.t 62)⟩,
    ⟨some 17, none, ⟨[], []⟩, .mov (.t 61)⟩,
    ⟨some 18, none, ⟨[], []⟩, .mov (.t 63)⟩] [60, 61, 62, 63] []) (.seq (.reg true [⟨some 64, none, ⟨[], []⟩, .mov (.t 2)⟩,
    ⟨some 65, none, ⟨[], []⟩, .mov (.t 17)⟩,
    ⟨some 66, none, ⟨[], []⟩, .fld (.t 8) 0⟩,
    ⟨some 67, none, ⟨[], []⟩, .ld false none 0 0 (.t 66)⟩,
    ⟨some 68, none, ⟨[], []⟩, .bin 0 .rem (.t 65) (.t 67)⟩,
    ⟨some 69, none, ⟨[], []⟩, .bin 0 .add (.t 64) (.t 68)⟩,
    ⟨some 70, none, ⟨[], []⟩, .mov (.t 3)⟩,
    ⟨some 71, none, ⟨[], []⟩, .mov (.t 17)⟩,
    ⟨some 72, none, ⟨[], []⟩, .fld (.t 8) 0⟩,
    ⟨some 73, none, ⟨[], []⟩, .ld false none 0 0 (.t 72)⟩,
    ⟨some 74, none, ⟨[], []⟩, .bin 0 .quo (.t 71) (.t 73)⟩,
    ⟨some 75, none, ⟨[], []⟩, .bin 0 .add (.t 70) (.t 74)⟩,
    ⟨some 19, none, ⟨[], []⟩, .mov (.t 69)⟩,
    ⟨some 20, none, ⟨[], []⟩, .mov (.t 75)⟩] [17, 64, 65, 66, 67, 68, 69, 70, 71, 72, 73, 74, 75] []) (.seq (.reg false [⟨some 76, none, ⟨[], []⟩, .mov (.t 18)⟩,
    ⟨some 77, none, ⟨[], []⟩, .bin 0 .eql (.t 76) (.k (.int .u8 1))⟩,
    ⟨some 78, none, ⟨[], []⟩, .mov (.t 77)⟩,
    ⟨some 79, some (78, true), ⟨[], []⟩, .mov (.t 19)⟩,
    ⟨some 80, some (78, true), ⟨[], []⟩, .bin 0 .geq (.t 79) (.k (.int .i64 0))⟩,
    ⟨some 81, none, ⟨[], []⟩, .pick (.t 78) (.t 80) (.k (.bool false))⟩,
    ⟨some 82, none, ⟨[], []⟩, .mov (.t 81)⟩,
    ⟨some 83, some (82, true), ⟨[], []⟩, .mov (.t 20)⟩,
    ⟨some 84, some (82, true), ⟨[], []⟩, .bin 0 .geq (.t 83) (.k (.int .i64 0))⟩,
    ⟨some 85, none, ⟨[], []⟩, .pick (.t 82) (.t 84) (.k (.bool false))⟩,
    ⟨some 86, none, ⟨[], []⟩, .mov (.t 85)⟩,
    ⟨some 87, some (86, true), ⟨[], []⟩, .mov (.t 19)⟩,
    ⟨some 88, some (86, true), ⟨[], []⟩, .fld (.t 7) 0⟩,
    ⟨some 89, some (86, true), ⟨[], []⟩, .ld false none 0 0 (.t 88)⟩,
    ⟨some 90, some (86, true), ⟨[], []⟩, .bin 0 .lss (.t 87) (.t 89)⟩,
    ⟨some 91, none, ⟨[], []⟩, .pick (.t 86) (.t 90) (.k (.bool false))⟩,
    ⟨some 92, none, ⟨[], []⟩, .mov (.t 91)⟩,
    ⟨some 93, some (92, true), ⟨[], []⟩, .mov (.t 20)⟩,
    ⟨some 94, some (92, true), ⟨[], []⟩, .fld (.t 7) 1⟩,
    ⟨some 95, some (92, true), ⟨[], []⟩, .ld false none 0 0 (.t 94)⟩,
    ⟨some 96, some (92, true), ⟨[], []⟩, .bin 0 .lss (.t 93) (.t 95)⟩,
    ⟨some 97, none, ⟨[], []⟩, .pick (.t 92) (.t 96) (.k (.bool false))⟩] [18, 76, 77, 78, 79, 80, 81, 82, 83, 84, 85, 86, 87, 88, 89, 90, 91, 92, 93, 94, 95, 96] []) (.cond (.t 97) (.reg false [⟨some 98, none, ⟨[], []⟩, .mov (.t 20)⟩,
    ⟨some 99, none, ⟨[], []⟩, .fld (.t 7) 0⟩,
    ⟨some 100, none, ⟨[], []⟩, .ld false none 0 0 (.t 99)⟩,
    ⟨some 101, none, ⟨[], []⟩, .bin 0 .mul (.t 98) (.t 100)⟩,
    ⟨some 102, none, ⟨[], []⟩, .mov (.t 19)⟩,
    ⟨some 103, none, ⟨[], []⟩, .bin 0 .add (.t 101) (.t 102)⟩,
    ⟨some 104, none, ⟨[], []⟩, .mov (.t 4)⟩,
    ⟨some 105, none, ⟨[], []⟩, .mov (.t 5)⟩,
    ⟨some 106, none, ⟨[], []⟩, .mov (.t 6)⟩,
    ⟨some 107, none, ⟨[], []⟩, .call none 26 42 [.t 16, .t 103, .t 104, .t 105, .t 106]⟩] [19, 20, 97, 98, 99, 100, 101, 102, 103, 104, 105, 106, 107] []) (.skip)))))) (.reg false [⟨some 108, none, ⟨[], []⟩, .bin 0 .add (.t 59) (.k (.int .i64 1))⟩,
    ⟨some 59, none, ⟨[], []⟩, .mov (.t 108)⟩] [19, 20, 97, 108] [])))
def r31_2 : IR :=
  .seq (.reg false [⟨some 109, none, ⟨[], []⟩, .ld false (some 5) 0 0 (.t 16)⟩,
    ⟨none, none, ⟨[], []⟩, .sto false 5 .i64 (.t 14) (.t 109)⟩,
    ⟨some 15, none, ⟨[], []⟩, .mov (.k (.int .i64 0))⟩] [2, 3, 4, 5, 6, 7, 8, 16, 57, 58, 59, 109] []) (.ret)
def ir31 : IR :=
  .seq (.reg false [⟨some 7, none, ⟨[], []⟩, .box 10 (.t 0)⟩,
    ⟨some 8, none, ⟨[], []⟩, .box 11 (.t 1)⟩,
    ⟨some 14, none, ⟨[], []⟩, .alloc 12 [.int .i64 0, .int .i64 0, nilSV, nilSV, nilSV]⟩,
    ⟨some 15, none, ⟨[], []⟩, .mov (.k (.int .i64 0))⟩] [0, 1, 15] []) (.seq (.seq (.reg false [⟨some 21, none, ⟨[], []⟩, .ld false (some 5) 0 0 (.t 7)⟩,
    ⟨some 22, none, ⟨[], []⟩, .call (some 4) 13 15 [.t 21]⟩,
    ⟨some 23, none, ⟨[], []⟩, .not (.t 22)⟩] [21, 22] []) (.cond (.t 23) (.seq (.reg false [⟨some 24, none, ⟨[], []⟩, .build [.int .i64 0, .int .i64 0, nilSV, nilSV, nilSV] []⟩,
    ⟨none, none, ⟨[], []⟩, .sto false 5 .i64 (.t 14) (.t 24)⟩,
    ⟨some 15, none, ⟨[], []⟩, .mov (.k (.int .i64 75))⟩] [2, 3, 4, 5, 6, 7, 8, 23, 24] []) (.ret)) (.skip))) (.seq (.seq (.reg false [⟨some 25, none, ⟨[], []⟩, .ld false (some 3) 0 0 (.t 8)⟩,
    ⟨some 26, none, ⟨[], []⟩, .call (some 4) 17 57 [.t 25]⟩,
    ⟨some 27, none, ⟨[], []⟩, .not (.t 26)⟩,
    ⟨some 28, none, ⟨[], []⟩, .mov (.t 27)⟩,
    ⟨some 29, some (28, false), ⟨[], []⟩, .mov (.t 2)⟩,
    ⟨some 30, some (28, false), ⟨[], []⟩, .callp 58 [.t 29]⟩,
    ⟨some 31, some (28, false), ⟨[], []⟩, .not (.t 30)⟩,
    ⟨some 32, none, ⟨[], []⟩, .pick (.t 28) (.k (.bool true)) (.t 31)⟩,
    ⟨some 33, none, ⟨[], []⟩, .mov (.t 32)⟩,
    ⟨some 34, some (33, false), ⟨[], []⟩, .mov (.t 3)⟩,
    ⟨some 35, some (33, false), ⟨[], []⟩, .callp 58 [.t 34]⟩,
    ⟨some 36, some (33, false), ⟨[], []⟩, .not (.t 35)⟩,
    ⟨some 37, none, ⟨[], []⟩, .pick (.t 33) (.k (.bool true)) (.t 36)⟩,
    ⟨some 38, none, ⟨[], []⟩, .mov (.t 37)⟩,
    ⟨some 39, some (38, false), ⟨[], []⟩, .mov (.t 4)⟩,
    ⟨some 40, some (38, false), ⟨[], []⟩, .callp 40 [.t 39]⟩,
    ⟨some 41, some (38, false), ⟨[], []⟩, .not (.t 40)⟩,
    ⟨some 42, none, ⟨[], []⟩, .pick (.t 38) (.k (.bool true)) (.t 41)⟩,
    ⟨some 43, none, ⟨[], []⟩, .mov (.t 42)⟩,
    ⟨some 44, some (43, false), ⟨[], []⟩, .mov (.t 5)⟩,
    ⟨some 45, some (43, false), ⟨[], []⟩, .callp 40 [.t 44]⟩,
    ⟨some 46, some (43, false), ⟨[], []⟩, .not (.t 45)⟩,
    ⟨some 47, none, ⟨[], []⟩, .pick (.t 43) (.k (.bool true)) (.t 46)⟩,
    ⟨some 48, none, ⟨[], []⟩, .mov (.t 47)⟩,
    ⟨some 49, some (48, false), ⟨[], []⟩, .mov (.t 6)⟩,
    ⟨some 50, some (48, false), ⟨[], []⟩, .callp 40 [.t 49]⟩,
    ⟨some 51, some (48, false), ⟨[], []⟩, .not (.t 50)⟩,
    ⟨some 52, none, ⟨[], []⟩, .pick (.t 48) (.k (.bool true)) (.t 51)⟩] [15, 23, 25, 26, 27, 28, 29, 30, 31, 32, 33, 34, 35, 36, 37, 38, 39, 40, 41, 42, 43, 44, 45, 46, 47, 48, 49, 50, 51] []) (.cond (.t 52) (.seq (.reg false [⟨some 53, none, ⟨[], []⟩, .build [.int .i64 0, .int .i64 0, nilSV, nilSV, nilSV] []⟩,
    ⟨none, none, ⟨[], []⟩, .sto false 5 .i64 (.t 14) (.t 53)⟩,
    ⟨some 15, none, ⟨[], []⟩, .mov (.k (.int .i64 2))⟩] [2, 3, 4, 5, 6, 7, 8, 52, 53] []) (.ret)) (.skip))) (.seq (.reg false [⟨some 54, none, ⟨[], []⟩, .ld false (some 5) 0 0 (.t 7)⟩,
    ⟨some 55, none, ⟨[], []⟩, .call (some 4) 21 59 [.t 54]⟩,
    ⟨some 16, none, ⟨[], []⟩, .alloc 25 [.int .i64 0, .int .i64 0, nilSV, nilSV, nilSV]⟩,
    ⟨none, none, ⟨[], []⟩, .sto false 5 .i64 (.t 16) (.t 55)⟩] [15, 52, 54, 55] []) (.seq (.seq (.reg false [⟨some 56, none, ⟨[], []⟩, .fld (.t 8) 2⟩,
    ⟨some 57, none, ⟨[], []⟩, .ld false none 0 0 (.t 56)⟩,
    ⟨some 58, none, ⟨[], []⟩, .len (.t 57)⟩,
    ⟨some 59, none, ⟨[], []⟩, .mov (.k (.int .i64 0))⟩] [56] []) (.block 0 (.loop b31_1))) (r31_2)))))
def kp31_1 : List Nat := [2, 3, 4, 5, 6, 7, 8, 14, 16, 57, 58, 59]
def kl31_1 : List Nat := [26, 27, 28, 29]
attribute [push_cast] kp31_1 kl31_1
theorem comp31 : (Try.f31.body.bind fun c => compC tab isP chkAll ir31 c) = some ir31 := by kernel_rfl
set_option maxRecDepth 512

def fs31 : FS where
  A := PaintA
  args := fun P => [imV P.a.i P.a.L1 P.a.L2 P.a.L3 0, bmV P.b.b P.b.L 3, .int .i64 P.x, .int .i64 P.y, .int .i64 P.r, .int .i64 P.g, .int .i64 P.bl]
  mem := fun P => [some (.ro, P.a.L1, .ints .i64 P.a.i.R), some (.ro, P.a.L2, .ints .i64 P.a.i.G), some (.ro, P.a.L3, .ints .i64 P.a.i.B), some (.ro, P.b.L, .ints .u8 P.b.b.xs)]
  pre := fun P => P.a.i.small ∧ P.b.b.xs.length ≤ 140737488355328 ∧ ∀ n, n ∈ P.b.b.xs → 0 ≤ n
  res := fun P x => .tup [imV (paintI P) (lx P.Ok x 0) (lx P.Ok x 1) (lx P.Ok x 2) 4, .int .i64 (if P.Ok then 0 else if P.a.i.Ok then 2 else 75)]
  out := fun _ _ => []
  new := fun P x => imN (paintI P) (lx P.Ok x)
def inv31 : List SV → Look → Option (PaintA × List Nat)
  | [v, u, .int .i64 x, .int .i64 y, .int .i64 r, .int .i64 g, .int .i64 bl], look => match getI look v, getB look u with
    | some (a, q), some (b, q') => some (⟨a, b, x, y, r, g, bl⟩, q ++ q')
    | _, _ => none
  | _, _ => none
attribute [push_cast] inv31
theorem ok31 : FSOk Try.prog 31 fs31 := by
  refine ⟨⟨_, Try.func31, by kernel_rfl, by kernel_rfl⟩, fun a => ⟨by simp [fs31, push_cast, noMine, argOwn, Chunk.frArg], by simp [fs31, push_cast, outOk, Chunk.ext], fun x => .inl (by simp [fs31, push_cast, frNew, frOut, Chunk.fr])⟩, fun a hp => ?_⟩
  obtain ⟨⟨⟨W, H, R, G, B⟩, L1, L2, L3⟩, ⟨⟨bw, bh, xs⟩, L⟩, x, y, r, g, bl⟩ := a
  obtain ⟨hp1, hp2, hp3⟩ : (⟨W, H, R, G, B⟩ : Im).small ∧ xs.length ≤ 140737488355328 ∧ ∀ n, n ∈ xs → 0 ≤ n := hp
  change Tri Try.prog 31 [imV ⟨W, H, R, G, B⟩ L1 L2 L3 0, bmV ⟨bw, bh, xs⟩ L 3, .int .i64 x, .int .i64 y, .int .i64 r, .int .i64 g, .int .i64 bl] [some (.ro, L1, .ints .i64 R), some (.ro, L2, .ints .i64 G), some (.ro, L3, .ints .i64 B), some (.ro, L, .ints .u8 xs)] (postF fs31 ⟨⟨⟨W, H, R, G, B⟩, L1, L2, L3⟩, ⟨⟨bw, bh, xs⟩, L⟩, x, y, r, g, bl⟩)
  refine tri_evS (hyp (l := [(15, ent15), (57, ent57), (59, ent59), (42, ent42)]) (lp := [(58, nearF), (40, valF)]) ⟨e15, e57, e59, e42, trivial⟩ ⟨p58, p40, trivial⟩) Try.func31 comp31 (rs := [.cell 14 (some 5), .tmp 15]) (by rfl) Try.ntmps31 30 ?_
  simp -implicitDefEqProofs only [push_cast, false_implies, reduceCtorEq, Classical.not_not, Nat.reduceAdd, Nat.reduceSub, Nat.reduceMul, Nat.reduceLeDiff, Nat.reduceLT, Nat.reduceEqDiff, Nat.reduceBEq, Nat.reduceBNe, Int.reduceNeg, Int.reduceToNat, Bool.or_false, Bool.false_or, Bool.or_true, Bool.true_or, BEq.rfl, Bool.not_eq_true, Bool.not_eq_false, decide_eq_true_eq, not_true_eq_false, not_false_eq_true, ite_true, ite_false, List.append_nil, and_assoc, Nat.mul_zero, Nat.zero_mul, ir31, fs15, fs57, fs59, hp2]
  refine fun X => ⟨hp1, fun hn => ?_, fun hy => ⟨fun hb => ?_, fun hg X1 => ?_⟩⟩
  · have e : ¬ (⟨⟨⟨W, H, R, G, B⟩, L1, L2, L3⟩, ⟨⟨bw, bh, xs⟩, L⟩, x, y, r, g, bl⟩ : PaintA).Ok := fun H => hn H.1
    refine postF.mk' (fun _ => default) [some 0, some 1, some 2, some 3, none, none, none] ?_
    simp -implicitDefEqProofs only [push_cast, false_implies, reduceCtorEq, Classical.not_not, Nat.reduceAdd, Nat.reduceSub, Nat.reduceMul, Nat.reduceLeDiff, Nat.reduceLT, Nat.reduceEqDiff, Nat.reduceBEq, Nat.reduceBNe, Int.reduceNeg, Int.reduceToNat, Bool.or_false, Bool.false_or, Bool.or_true, Bool.true_or, BEq.rfl, Bool.not_eq_true, Bool.not_eq_false, decide_eq_true_eq, not_true_eq_false, not_false_eq_true, ite_true, ite_false, List.append_nil, and_assoc, Nat.mul_zero, Nat.zero_mul, fs31, paintI, e, hn, if_false, lx, im0]
  · have e : ¬ (⟨⟨⟨W, H, R, G, B⟩, L1, L2, L3⟩, ⟨⟨bw, bh, xs⟩, L⟩, x, y, r, g, bl⟩ : PaintA).Ok := fun H => by
      obtain ⟨_, q1, q2, q3, q4, q5, q6⟩ := H
      simp only at q1 q2 q3 q4 q5 q6
      simp [q1, q2, q3, q4, q5, q6] at hb
    refine postF.mk' (fun _ => default) [some 0, some 1, some 2, some 3, none, none, none] ?_
    simp -implicitDefEqProofs only [push_cast, false_implies, reduceCtorEq, Classical.not_not, Nat.reduceAdd, Nat.reduceSub, Nat.reduceMul, Nat.reduceLeDiff, Nat.reduceLT, Nat.reduceEqDiff, Nat.reduceBEq, Nat.reduceBNe, Int.reduceNeg, Int.reduceToNat, Bool.or_false, Bool.false_or, Bool.or_true, Bool.true_or, BEq.rfl, Bool.not_eq_true, Bool.not_eq_false, decide_eq_true_eq, not_true_eq_false, not_false_eq_true, ite_true, ite_false, List.append_nil, and_assoc, Nat.mul_zero, Nat.zero_mul, fs31, paintI, e, hy, if_false, if_true, lx, im0]
  simp only [not_or, Classical.not_not] at hg
  obtain ⟨⟨⟨⟨⟨g1, g2⟩, g3⟩, g4⟩, g5⟩, g6⟩ := hg
  have e : (⟨⟨⟨W, H, R, G, B⟩, L1, L2, L3⟩, ⟨⟨bw, bh, xs⟩, L⟩, x, y, r, g, bl⟩ : PaintA).Ok := ⟨hy, g1, g2, g3, g4, g5, g6⟩
  obtain ⟨hs, ⟨hl, _⟩, _⟩ := id hy
  obtain ⟨hs2, hl2, hbit⟩ := id g1
  obtain ⟨e1, e2, _⟩ := hy.val
  simp only at e1 e2 hs hl hs2 hl2 hbit
  obtain ⟨a1, a2, a3, a4, a5⟩ := id hs
  obtain ⟨c1, c2, c3, c4, c5⟩ := id hs2
  obtain ⟨n1, n2⟩ := id g2
  obtain ⟨n3, n4⟩ := id g3
  have hm := hs.bd
  have hm2 := hs2.bd
  repeat (refine And.intro (by first | omega | trivial | (intros; omega)) ?_)
  have z1 : ∀ zs c, zs.length = R.length → tabl R.length (pntF W ⟨bw, bh, xs⟩ x y zs c 0) = zs := fun zs c q => by rw [← q]; exact pntF_zero ..
  refine evS_loopU (A := Nat) kp31_1 kl31_1 (fun k => [(59, .int .i64 k)])
    (fun k => [(21, .mine, X1 1 21, .ints .i64 (tabl R.length (pntF W ⟨bw, bh, xs⟩ x y R r k))), (22, .mine, X1 1 22, .ints .i64 (tabl R.length (pntF W ⟨bw, bh, xs⟩ x y G g k))), (23, .mine, X1 1 23, .ints .i64 (tabl R.length (pntF W ⟨bw, bh, xs⟩ x y B bl k)))])
    (fun k => k ≤ xs.length) (fun k => xs.length - k) 0 (by omega) (Sub.pt ?_) ?_
  · simp -implicitDefEqProofs only [push_cast, false_implies, reduceCtorEq, Classical.not_not, Nat.reduceAdd, Nat.reduceSub, Nat.reduceMul, Nat.reduceLeDiff, Nat.reduceLT, Nat.reduceEqDiff, Nat.reduceBEq, Nat.reduceBNe, Int.reduceNeg, Int.reduceToNat, Bool.or_false, Bool.false_or, Bool.or_true, Bool.true_or, BEq.rfl, Bool.not_eq_true, Bool.not_eq_false, decide_eq_true_eq, not_true_eq_false, not_false_eq_true, ite_true, ite_false, List.append_nil, and_assoc, Nat.mul_zero, Nat.zero_mul, z1 R r rfl, z1 G g e1, z1 B bl e2]
  intro k (hk : k ≤ xs.length) K hK
  simp -implicitDefEqProofs only [push_cast, false_implies, reduceCtorEq, Classical.not_not, Nat.reduceAdd, Nat.reduceSub, Nat.reduceMul, Nat.reduceLeDiff, Nat.reduceLT, Nat.reduceEqDiff, Nat.reduceBEq, Nat.reduceBNe, Int.reduceNeg, Int.reduceToNat, Bool.or_false, Bool.false_or, Bool.or_true, Bool.true_or, BEq.rfl, Bool.not_eq_true, Bool.not_eq_false, decide_eq_true_eq, not_true_eq_false, not_false_eq_true, ite_true, ite_false, List.append_nil, and_assoc, Nat.mul_zero, Nat.zero_mul, b31_1, r31_2, fs42]
  refine ⟨fun hk1 => ?_, fun hk1 => ?_⟩
  · have hk' : k < xs.length := by omega
    obtain ⟨b1, b2, b3, b4, b5⟩ := dm_bd (k := k) (w := bw) (h := bh) (by omega) (by omega) c1
    repeat (refine And.intro (by first | omega | trivial | (intros; omega)) ?_)
    refine ⟨fun hh => ?_, fun hh => ⟨by omega, by omega, ?_⟩⟩
    · obtain ⟨q1, q2, q3, q4, q5⟩ := id hh
      have hi := idx_bd q3 q5 q2 q4
      have hmb := mul_bd q3 (show y + (k : Int) / bw ≤ 200 by omega) a1 a3
      simp only [tabl_length]
      repeat (refine And.intro (by first | omega | trivial | (intros; omega)) ?_)
      refine hK (k + 1) (by omega) (by omega) _ _ (Sub.pt ?_)
      have st := fun zs c => pnt_hit (b := ⟨bw, bh, xs⟩) a1 hs2 hl2 hk' hl q1 q2 q3 q4 q5 zs c
      simp only at st
      simp -implicitDefEqProofs only [push_cast, false_implies, reduceCtorEq, Classical.not_not, Nat.reduceAdd, Nat.reduceSub, Nat.reduceMul, Nat.reduceLeDiff, Nat.reduceLT, Nat.reduceEqDiff, Nat.reduceBEq, Nat.reduceBNe, Int.reduceNeg, Int.reduceToNat, Bool.or_false, Bool.false_or, Bool.or_true, Bool.true_or, BEq.rfl, Bool.not_eq_true, Bool.not_eq_false, decide_eq_true_eq, not_true_eq_false, not_false_eq_true, ite_true, ite_false, List.append_nil, and_assoc, Nat.mul_zero, Nat.zero_mul, st]
    · refine hK (k + 1) (by omega) (by omega) _ _ (Sub.pt ?_)
      have st := fun zs c => pnt_miss (b := ⟨bw, bh, xs⟩) a1 hs2 hl2 hk' hl hh zs c
      simp -implicitDefEqProofs only [push_cast, false_implies, reduceCtorEq, Classical.not_not, Nat.reduceAdd, Nat.reduceSub, Nat.reduceMul, Nat.reduceLeDiff, Nat.reduceLT, Nat.reduceEqDiff, Nat.reduceBEq, Nat.reduceBNe, Int.reduceNeg, Int.reduceToNat, Bool.or_false, Bool.false_or, Bool.or_true, Bool.true_or, BEq.rfl, Bool.not_eq_true, Bool.not_eq_false, decide_eq_true_eq, not_true_eq_false, not_false_eq_true, ite_true, ite_false, List.append_nil, and_assoc, Nat.mul_zero, Nat.zero_mul, st]
  · obtain rfl : k = xs.length := by omega
    refine postF.mk' (locs [X1 1 21, X1 1 22, X1 1 23]) [some 0, some 1, some 2, some 3, some 21, some 22, some 23] ?_
    simp -implicitDefEqProofs only [push_cast, false_implies, reduceCtorEq, Classical.not_not, Nat.reduceAdd, Nat.reduceSub, Nat.reduceMul, Nat.reduceLeDiff, Nat.reduceLT, Nat.reduceEqDiff, Nat.reduceBEq, Nat.reduceBNe, Int.reduceNeg, Int.reduceToNat, Bool.or_false, Bool.false_or, Bool.or_true, Bool.true_or, BEq.rfl, Bool.not_eq_true, Bool.not_eq_false, decide_eq_true_eq, not_true_eq_false, not_false_eq_true, ite_true, ite_false, List.append_nil, and_assoc, Nat.mul_zero, Nat.zero_mul, fs31, paintI, pntL, e, if_true, lx, tabl_length, e1, e2]
def ent31 : Entry := spOf fs31 inv31
theorem e31 : EntryOk Try.prog 31 ent31 := entry_of ok31 inv31
@[push_cast] theorem ent31_app (us : List SV) (look : Look) (x : Nat → Xf.Loc) (k : Nat) : ent31 us look x k = spOf fs31 inv31 us look x k := rfl
end Go.Proofs.Ytnmbimhcfioeiaa
