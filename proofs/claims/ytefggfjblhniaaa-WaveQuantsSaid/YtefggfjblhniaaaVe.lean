import Derived.Test.YtefggfjblhniaaaVd
set_option linter.unusedVariables false
set_option linter.unusedSimpArgs false
/-! The reference's Same. -/
namespace Go.Proofs.Ytefggfjblhniaaa
open Xf
set_option maxRecDepth 4000
/- incunable/incunableref19.Same : slots 101, labels 10..11; loop b35_1 keeps [2, 3, 5]; loop b35_2 keeps [2, 3, 6]; loop b35_3 keeps [2, 3, 7] -/
def b35_1 : IR :=
  .seq (.seq (.reg false [⟨some 47, none, ⟨[], []⟩, .mov (.t 5)⟩,
    ⟨some 48, none, ⟨[], []⟩, .fld (.t 2) 2⟩,
    ⟨some 49, none, ⟨[], []⟩, .ld false none 0 0 (.t 48)⟩,
    ⟨some 50, none, ⟨[], []⟩, .len (.t 49)⟩,
    ⟨some 51, none, ⟨[], []⟩, .bin 0 .lss (.t 47) (.t 50)⟩] [47, 48, 49, 50] []) (.cond (.t 51) (.skip) (.exit 0))) (.seq (.block 1 (.seq (.reg true [⟨some 54, none, ⟨[], []⟩, .fld (.t 2) 2⟩,
    ⟨some 55, none, ⟨[], []⟩, .ld false none 0 0 (.t 54)⟩,
    ⟨some 56, none, ⟨[], []⟩, .mov (.t 5)⟩,
    ⟨some 57, none, ⟨[], []⟩, .idxS (.t 55) (.t 56) 1⟩,
    ⟨some 58, none, ⟨[], []⟩, .ld true none 0 0 (.t 57)⟩,
    ⟨some 59, none, ⟨[], []⟩, .fld (.t 3) 2⟩,
    ⟨some 60, none, ⟨[], []⟩, .ld false none 0 0 (.t 59)⟩,
    ⟨some 61, none, ⟨[], []⟩, .mov (.t 5)⟩,
    ⟨some 62, none, ⟨[], []⟩, .idxS (.t 60) (.t 61) 1⟩,
    ⟨some 63, none, ⟨[], []⟩, .ld true none 0 0 (.t 62)⟩,
    ⟨some 64, none, ⟨[], []⟩, .bin 0 .neq (.t 58) (.t 63)⟩] [51, 54, 55, 56, 57, 58, 59, 60, 61, 62, 63] []) (.cond (.t 64) (.seq (.reg false [⟨some 4, none, ⟨[], []⟩, .mov (.k (.bool false))⟩] [2, 3, 5, 64] []) (.ret)) (.skip)))) (.reg false [⟨some 52, none, ⟨[], []⟩, .mov (.t 5)⟩,
    ⟨some 53, none, ⟨[], []⟩, .bin 0 .add (.t 52) (.k (.int .i64 1))⟩,
    ⟨some 5, none, ⟨[], []⟩, .mov (.t 53)⟩] [4, 52, 53, 64] []))
def b35_2 : IR :=
  .seq (.seq (.reg false [⟨some 65, none, ⟨[], []⟩, .mov (.t 6)⟩,
    ⟨some 66, none, ⟨[], []⟩, .fld (.t 2) 3⟩,
    ⟨some 67, none, ⟨[], []⟩, .ld false none 0 0 (.t 66)⟩,
    ⟨some 68, none, ⟨[], []⟩, .len (.t 67)⟩,
    ⟨some 69, none, ⟨[], []⟩, .bin 0 .lss (.t 65) (.t 68)⟩] [65, 66, 67, 68] []) (.cond (.t 69) (.skip) (.exit 2))) (.seq (.block 3 (.seq (.reg true [⟨some 72, none, ⟨[], []⟩, .fld (.t 2) 3⟩,
    ⟨some 73, none, ⟨[], []⟩, .ld false none 0 0 (.t 72)⟩,
    ⟨some 74, none, ⟨[], []⟩, .mov (.t 6)⟩,
    ⟨some 75, none, ⟨[], []⟩, .idxS (.t 73) (.t 74) 1⟩,
    ⟨some 76, none, ⟨[], []⟩, .ld true none 0 0 (.t 75)⟩,
    ⟨some 77, none, ⟨[], []⟩, .fld (.t 3) 3⟩,
    ⟨some 78, none, ⟨[], []⟩, .ld false none 0 0 (.t 77)⟩,
    ⟨some 79, none, ⟨[], []⟩, .mov (.t 6)⟩,
    ⟨some 80, none, ⟨[], []⟩, .idxS (.t 78) (.t 79) 1⟩,
    ⟨some 81, none, ⟨[], []⟩, .ld true none 0 0 (.t 80)⟩,
    ⟨some 82, none, ⟨[], []⟩, .bin 0 .neq (.t 76) (.t 81)⟩] [69, 72, 73, 74, 75, 76, 77, 78, 79, 80, 81] []) (.cond (.t 82) (.seq (.reg false [⟨some 4, none, ⟨[], []⟩, .mov (.k (.bool false))⟩] [2, 3, 6, 82] []) (.ret)) (.skip)))) (.reg false [⟨some 70, none, ⟨[], []⟩, .mov (.t 6)⟩,
    ⟨some 71, none, ⟨[], []⟩, .bin 0 .add (.t 70) (.k (.int .i64 1))⟩,
    ⟨some 6, none, ⟨[], []⟩, .mov (.t 71)⟩] [4, 70, 71, 82] []))
def b35_3 : IR :=
  .seq (.seq (.reg false [⟨some 83, none, ⟨[], []⟩, .mov (.t 7)⟩,
    ⟨some 84, none, ⟨[], []⟩, .fld (.t 2) 4⟩,
    ⟨some 85, none, ⟨[], []⟩, .ld false none 0 0 (.t 84)⟩,
    ⟨some 86, none, ⟨[], []⟩, .len (.t 85)⟩,
    ⟨some 87, none, ⟨[], []⟩, .bin 0 .lss (.t 83) (.t 86)⟩] [83, 84, 85, 86] []) (.cond (.t 87) (.skip) (.exit 4))) (.seq (.block 5 (.seq (.reg true [⟨some 90, none, ⟨[], []⟩, .fld (.t 2) 4⟩,
    ⟨some 91, none, ⟨[], []⟩, .ld false none 0 0 (.t 90)⟩,
    ⟨some 92, none, ⟨[], []⟩, .mov (.t 7)⟩,
    ⟨some 93, none, ⟨[], []⟩, .idxS (.t 91) (.t 92) 1⟩,
    ⟨some 94, none, ⟨[], []⟩, .ld true none 0 0 (.t 93)⟩,
    ⟨some 95, none, ⟨[], []⟩, .fld (.t 3) 4⟩,
    ⟨some 96, none, ⟨[], []⟩, .ld false none 0 0 (.t 95)⟩,
    ⟨some 97, none, ⟨[], []⟩, .mov (.t 7)⟩,
    ⟨some 98, none, ⟨[], []⟩, .idxS (.t 96) (.t 97) 1⟩,
    ⟨some 99, none, ⟨[], []⟩, .ld true none 0 0 (.t 98)⟩,
    ⟨some 100, none, ⟨[], []⟩, .bin 0 .neq (.t 94) (.t 99)⟩] [87, 90, 91, 92, 93, 94, 95, 96, 97, 98, 99] []) (.cond (.t 100) (.seq (.reg false [⟨some 4, none, ⟨[], []⟩, .mov (.k (.bool false))⟩] [2, 3, 7, 100] []) (.ret)) (.skip)))) (.reg false [⟨some 88, none, ⟨[], []⟩, .mov (.t 7)⟩,
    ⟨some 89, none, ⟨[], []⟩, .bin 0 .add (.t 88) (.k (.int .i64 1))⟩,
    ⟨some 7, none, ⟨[], []⟩, .mov (.t 89)⟩] [4, 88, 89, 100] []))
def r35_4 : IR :=
  .seq (.reg false [⟨some 4, none, ⟨[], []⟩, .mov (.k (.bool true))⟩] [2, 3, 7] []) (.ret)
def r35_5 : IR :=
  .seq (.seq (.reg false [⟨some 7, none, ⟨[], []⟩, .mov (.k (.int .i64 0))⟩] [6] []) (.block 4 (.loop b35_3))) (r35_4)
def r35_6 : IR :=
  .seq (.seq (.reg false [⟨some 6, none, ⟨[], []⟩, .mov (.k (.int .i64 0))⟩] [5] []) (.block 2 (.loop b35_2))) (r35_5)
def ir35 : IR :=
  .seq (.reg false [⟨some 2, none, ⟨[], []⟩, .box 10 (.t 0)⟩,
    ⟨some 3, none, ⟨[], []⟩, .box 11 (.t 1)⟩,
    ⟨some 4, none, ⟨[], []⟩, .mov (.k (.bool false))⟩] [0, 1, 4] []) (.seq (.seq (.reg false [⟨some 8, none, ⟨[], []⟩, .fld (.t 2) 0⟩,
    ⟨some 9, none, ⟨[], []⟩, .ld false none 0 0 (.t 8)⟩,
    ⟨some 10, none, ⟨[], []⟩, .fld (.t 3) 0⟩,
    ⟨some 11, none, ⟨[], []⟩, .ld false none 0 0 (.t 10)⟩,
    ⟨some 12, none, ⟨[], []⟩, .bin 0 .neq (.t 9) (.t 11)⟩,
    ⟨some 13, none, ⟨[], []⟩, .mov (.t 12)⟩,
    ⟨some 14, some (13, false), ⟨[], []⟩, .fld (.t 2) 1⟩,
    ⟨some 15, some (13, false), ⟨[], []⟩, .ld false none 0 0 (.t 14)⟩,
    ⟨some 16, some (13, false), ⟨[], []⟩, .fld (.t 3) 1⟩,
    ⟨some 17, some (13, false), ⟨[], []⟩, .ld false none 0 0 (.t 16)⟩,
    ⟨some 18, some (13, false), ⟨[], []⟩, .bin 0 .neq (.t 15) (.t 17)⟩,
    ⟨some 19, none, ⟨[], []⟩, .pick (.t 13) (.k (.bool true)) (.t 18)⟩,
    ⟨some 20, none, ⟨[], []⟩, .mov (.t 19)⟩,
    ⟨some 21, some (20, false), ⟨[], []⟩, .fld (.t 2) 2⟩,
    ⟨some 22, some (20, false), ⟨[], []⟩, .ld false none 0 0 (.t 21)⟩,
    ⟨some 23, some (20, false), ⟨[], []⟩, .len (.t 22)⟩,
    ⟨some 24, some (20, false), ⟨[], []⟩, .fld (.t 3) 2⟩,
    ⟨some 25, some (20, false), ⟨[], []⟩, .ld false none 0 0 (.t 24)⟩,
    ⟨some 26, some (20, false), ⟨[], []⟩, .len (.t 25)⟩,
    ⟨some 27, some (20, false), ⟨[], []⟩, .bin 0 .neq (.t 23) (.t 26)⟩,
    ⟨some 28, none, ⟨[], []⟩, .pick (.t 20) (.k (.bool true)) (.t 27)⟩,
    ⟨some 29, none, ⟨[], []⟩, .mov (.t 28)⟩,
    ⟨some 30, some (29, false), ⟨[], []⟩, .fld (.t 2) 3⟩,
    ⟨some 31, some (29, false), ⟨[], []⟩, .ld false none 0 0 (.t 30)⟩,
    ⟨some 32, some (29, false), ⟨[], []⟩, .len (.t 31)⟩,
    ⟨some 33, some (29, false), ⟨[], []⟩, .fld (.t 3) 3⟩,
    ⟨some 34, some (29, false), ⟨[], []⟩, .ld false none 0 0 (.t 33)⟩,
    ⟨some 35, some (29, false), ⟨[], []⟩, .len (.t 34)⟩,
    ⟨some 36, some (29, false), ⟨[], []⟩, .bin 0 .neq (.t 32) (.t 35)⟩,
    ⟨some 37, none, ⟨[], []⟩, .pick (.t 29) (.k (.bool true)) (.t 36)⟩,
    ⟨some 38, none, ⟨[], []⟩, .mov (.t 37)⟩,
    ⟨some 39, some (38, false), ⟨[], []⟩, .fld (.t 2) 4⟩,
    ⟨some 40, some (38, false), ⟨[], []⟩, .ld false none 0 0 (.t 39)⟩,
    ⟨some 41, some (38, false), ⟨[], []⟩, .len (.t 40)⟩,
    ⟨some 42, some (38, false), ⟨[], []⟩, .fld (.t 3) 4⟩,
    ⟨some 43, some (38, false), ⟨[], []⟩, .ld false none 0 0 (.t 42)⟩,
    ⟨some 44, some (38, false), ⟨[], []⟩, .len (.t 43)⟩,
    ⟨some 45, some (38, false), ⟨[], []⟩, .bin 0 .neq (.t 41) (.t 44)⟩,
    ⟨some 46, none, ⟨[], []⟩, .pick (.t 38) (.k (.bool true)) (.t 45)⟩] [8, 9, 10, 11, 12, 13, 14, 15, 16, 17, 18, 19, 20, 21, 22, 23, 24, 25, 26, 27, 28, 29, 30, 31, 32, 33, 34, 35, 36, 37, 38, 39, 40, 41, 42, 43, 44, 45] []) (.cond (.t 46) (.seq (.reg false [⟨some 4, none, ⟨[], []⟩, .mov (.k (.bool false))⟩] [2, 3, 46] []) (.ret)) (.skip))) (.seq (.seq (.reg false [⟨some 5, none, ⟨[], []⟩, .mov (.k (.int .i64 0))⟩] [4, 46] []) (.block 0 (.loop b35_1))) (r35_6)))
def kp35_1 : List Nat := [2, 3, 5]
def kl35_1 : List Nat := []
attribute [push_cast] kp35_1 kl35_1
def kp35_2 : List Nat := [2, 3, 6]
def kl35_2 : List Nat := []
attribute [push_cast] kp35_2 kl35_2
def kp35_3 : List Nat := [2, 3, 7]
def kl35_3 : List Nat := []
attribute [push_cast] kp35_3 kl35_3
theorem comp35 : (Try.f35.body.bind fun c => compC tab isP chkAll ir35 c) = some ir35 := by kernel_rfl
set_option maxRecDepth 512

def Im.Eq (a b : Im) : Prop := a.w = b.w ∧ a.h = b.h ∧ a.R = b.R ∧ a.G = b.G ∧ a.B = b.B
instance (a b : Im) : Decidable (a.Eq b) := by unfold Im.Eq; infer_instance
theorem Im.Eq.refl (a : Im) : a.Eq a := ⟨rfl, rfl, rfl, rfl, rfl⟩
structure Im2 where
  a : ImA
  b : ImA
def fs35 : FS where
  A := Im2
  args := fun a => [imV a.a.i a.a.L1 a.a.L2 a.a.L3 0, imV a.b.i a.b.L1 a.b.L2 a.b.L3 3]
  mem := fun a => [some (.ro, a.a.L1, .ints .i64 a.a.i.R), some (.ro, a.a.L2, .ints .i64 a.a.i.G), some (.ro, a.a.L3, .ints .i64 a.a.i.B), some (.ro, a.b.L1, .ints .i64 a.b.i.R), some (.ro, a.b.L2, .ints .i64 a.b.i.G), some (.ro, a.b.L3, .ints .i64 a.b.i.B)]
  pre := fun a => a.a.i.small ∧ a.b.i.small
  res := fun a _ => .bool (decide (a.a.i.Eq a.b.i))
  out := fun _ _ => []
  new := fun _ _ => []
def inv35 : List SV → Look → Option (Im2 × List Nat)
  | [v, u], look => match getI look v, getI look u with
    | some (a, g), some (b, g') => some (⟨a, b⟩, g ++ g')
    | _, _ => none
  | _, _ => none
attribute [push_cast] inv35
def M35 (w h w' h' : Int) (R G B R' G' B' : List Int) (L1 L2 L3 M1 M2 M3 L0 L0' : Xf.Loc) : Mem :=
  mkM 18 [(0, .ro, L1, .ints .i64 R), (1, .ro, L2, .ints .i64 G), (2, .ro, L3, .ints .i64 B), (3, .ro, M1, .ints .i64 R'), (4, .ro, M2, .ints .i64 G'), (5, .ro, M3, .ints .i64 B'),
    (10, .mine, L0, .cells [.int .i64 w, .int .i64 h, .sl 0 L1 1 0 R.length, .sl 1 L2 1 0 G.length, .sl 2 L3 1 0 B.length]), (11, .mine, L0', .cells [.int .i64 w', .int .i64 h', .sl 3 M1 1 0 R'.length, .sl 4 M2 1 0 G'.length, .sl 5 M3 1 0 B'.length])]
def lp35 (t : Nat) (xs ys : List Int) (m : Mem) (L0 L0' : Xf.Loc) : LoopS where
  A := Nat
  I := fun i => (mkS 101 [(2, .ptr 10 L0 0 0 0), (3, .ptr 11 L0' 0 0 0), (t, .int .i64 i)], m)
  R := fun i => i ≤ xs.length ∧ ∀ j, j < i → rd xs (j : Nat) = rd ys (j : Nat)
  mu := fun i => xs.length - i

theorem ok35 : FSOk Try.prog 35 fs35 := by
  refine ⟨⟨_, Try.func35, by kernel_rfl, by kernel_rfl⟩, fun a => ⟨by simp [fs35, push_cast, noMine, argOwn, Chunk.frArg], by simp [fs35, push_cast, outOk, Chunk.ext], fun x => .inl (by simp [fs35, push_cast, frNew, frOut, Chunk.fr])⟩, fun a hp => ?_⟩
  obtain ⟨⟨⟨w, h, R, G, B⟩, L1, L2, L3⟩, ⟨⟨w', h', R', G', B'⟩, M1, M2, M3⟩⟩ := a
  obtain ⟨⟨s1, s2, s3⟩, s4, s5, s6⟩ := hp
  simp only at s1 s2 s3 s4 s5 s6
  change Tri Try.prog 35 [imV ⟨w, h, R, G, B⟩ L1 L2 L3 0, imV ⟨w', h', R', G', B'⟩ M1 M2 M3 3] [some (.ro, L1, .ints .i64 R), some (.ro, L2, .ints .i64 G), some (.ro, L3, .ints .i64 B), some (.ro, M1, .ints .i64 R'), some (.ro, M2, .ints .i64 G'), some (.ro, M3, .ints .i64 B')] (postF fs35 ⟨⟨⟨w, h, R, G, B⟩, L1, L2, L3⟩, ⟨⟨w', h', R', G', B'⟩, M1, M2, M3⟩⟩)
  refine tri_evS (hyp (l := []) (lp := []) trivial trivial) Try.func35 comp35 (rs := [.tmp 4]) (by rfl) Try.ntmps35 12 ?_
  simp -implicitDefEqProofs only [push_cast, false_implies, reduceCtorEq, Classical.not_not, Nat.reduceAdd, Nat.reduceSub, Nat.reduceMul, Nat.reduceLeDiff, Nat.reduceLT, Nat.reduceEqDiff, Nat.reduceBEq, Nat.reduceBNe, Int.reduceNeg, Int.reduceToNat, Bool.or_false, Bool.false_or, Bool.or_true, Bool.true_or, BEq.rfl, Bool.not_eq_true, Bool.not_eq_false, decide_eq_true_eq, not_true_eq_false, not_false_eq_true, ite_true, ite_false, List.append_nil, and_assoc, Nat.mul_zero, Nat.zero_mul, ir35]
  intro X
  refine ⟨fun hn => ?_, fun hy => ?_⟩
  · have e : ¬ (⟨w, h, R, G, B⟩ : Im).Eq ⟨w', h', R', G', B'⟩ := fun H => by
      obtain ⟨a, b, c, d, f⟩ := H
      simp only at a b c d f
      subst a b c d f
      simp at hn
    refine postF.mk' (fun _ => default) [some 0, some 1, some 2, some 3, some 4, some 5] ?_
    simp -implicitDefEqProofs only [push_cast, false_implies, reduceCtorEq, Classical.not_not, Nat.reduceAdd, Nat.reduceSub, Nat.reduceMul, Nat.reduceLeDiff, Nat.reduceLT, Nat.reduceEqDiff, Nat.reduceBEq, Nat.reduceBNe, Int.reduceNeg, Int.reduceToNat, Bool.or_false, Bool.false_or, Bool.or_true, Bool.true_or, BEq.rfl, Bool.not_eq_true, Bool.not_eq_false, decide_eq_true_eq, not_true_eq_false, not_false_eq_true, ite_true, ite_false, List.append_nil, and_assoc, Nat.mul_zero, Nat.zero_mul, fs35, e, decide_false]
  obtain ⟨q1, q2, q3, q4, q5⟩ : w = w' ∧ h = h' ∧ R.length = R'.length ∧ G.length = G'.length ∧ B.length = B'.length := by omega
  refine evS_loop _ _ _ (lp35 5 R R' (M35 w h w' h' R G B R' G' B' L1 L2 L3 M1 M2 M3 (X 0 10) (X 1 11)) (X 0 10) (X 1 11)) (0 : Nat) ⟨Nat.zero_le _, fun j hj => absurd hj (Nat.not_lt_zero _)⟩ ?_ ?_
  · change Sub _ _ ((lp35 5 R R' (M35 w h w' h' R G B R' G' B' L1 L2 L3 M1 M2 M3 (X 0 10) (X 1 11)) (X 0 10) (X 1 11)).I (0 : Nat)).1 ((lp35 5 R R' (M35 w h w' h' R G B R' G' B' L1 L2 L3 M1 M2 M3 (X 0 10) (X 1 11)) (X 0 10) (X 1 11)).I (0 : Nat)).2
    refine Sub.of (mkG 18 [(0, 0), (1, 1), (2, 2), (3, 3), (4, 4), (5, 5), (10, 10), (11, 11)]) ?_
    simp -implicitDefEqProofs only [push_cast, false_implies, reduceCtorEq, Classical.not_not, Nat.reduceAdd, Nat.reduceSub, Nat.reduceMul, Nat.reduceLeDiff, Nat.reduceLT, Nat.reduceEqDiff, Nat.reduceBEq, Nat.reduceBNe, Int.reduceNeg, Int.reduceToNat, Bool.or_false, Bool.false_or, Bool.or_true, Bool.true_or, BEq.rfl, Bool.not_eq_true, Bool.not_eq_false, decide_eq_true_eq, not_true_eq_false, not_false_eq_true, ite_true, ite_false, List.append_nil, and_assoc, Nat.mul_zero, Nat.zero_mul, lp35, M35]
  intro (i : Nat) ⟨(hi : i ≤ R.length), (hj : ∀ j, j < i → rd R (j : Nat) = rd R' (j : Nat))⟩
  change evS _ _ _ _ (mkS 101 [(2, .ptr 10 (X 0 10) 0 0 0), (3, .ptr 11 (X 1 11) 0 0 0), (5, .int .i64 i)]) (M35 w h w' h' R G B R' G' B' L1 L2 L3 M1 M2 M3 (X 0 10) (X 1 11))
  simp -implicitDefEqProofs only [push_cast, false_implies, reduceCtorEq, Classical.not_not, Nat.reduceAdd, Nat.reduceSub, Nat.reduceMul, Nat.reduceLeDiff, Nat.reduceLT, Nat.reduceEqDiff, Nat.reduceBEq, Nat.reduceBNe, Int.reduceNeg, Int.reduceToNat, Bool.or_false, Bool.false_or, Bool.or_true, Bool.true_or, BEq.rfl, Bool.not_eq_true, Bool.not_eq_false, decide_eq_true_eq, not_true_eq_false, not_false_eq_true, ite_true, ite_false, List.append_nil, and_assoc, Nat.mul_zero, Nat.zero_mul, M35, b35_1, r35_6]
  refine ⟨fun hl => ⟨by omega, by omega, by omega, by omega, by omega, by omega, by omega, by omega, fun hb => ?_, fun hg => ⟨by omega, by omega, ?_⟩⟩, fun hl => ?_⟩
  · have e : ¬ (⟨w, h, R, G, B⟩ : Im).Eq ⟨w', h', R', G', B'⟩ := fun H => by
      obtain ⟨a, b, c, d, f⟩ := H
      simp only at a b c d f
      subst a b c d f
      simp at hb
    refine postF.mk' (fun _ => default) [some 0, some 1, some 2, some 3, some 4, some 5] ?_
    simp -implicitDefEqProofs only [push_cast, false_implies, reduceCtorEq, Classical.not_not, Nat.reduceAdd, Nat.reduceSub, Nat.reduceMul, Nat.reduceLeDiff, Nat.reduceLT, Nat.reduceEqDiff, Nat.reduceBEq, Nat.reduceBNe, Int.reduceNeg, Int.reduceToNat, Bool.or_false, Bool.false_or, Bool.or_true, Bool.true_or, BEq.rfl, Bool.not_eq_true, Bool.not_eq_false, decide_eq_true_eq, not_true_eq_false, not_false_eq_true, ite_true, ite_false, List.append_nil, and_assoc, Nat.mul_zero, Nat.zero_mul, fs35, e, decide_false]
  · refine lpK_mk (i + 1 : Nat) ⟨by omega, fun j h => ?_⟩ (show R.length - (i + 1) < R.length - i by omega) ?_
    · by_cases e : j = i
      · subst e; exact hg
      · exact hj j (by omega)
    · change Sub _ _ ((lp35 5 R R' (M35 w h w' h' R G B R' G' B' L1 L2 L3 M1 M2 M3 (X 0 10) (X 1 11)) (X 0 10) (X 1 11)).I (i + 1 : Nat)).1 ((lp35 5 R R' (M35 w h w' h' R G B R' G' B' L1 L2 L3 M1 M2 M3 (X 0 10) (X 1 11)) (X 0 10) (X 1 11)).I (i + 1 : Nat)).2
      simp -implicitDefEqProofs only [push_cast, false_implies, reduceCtorEq, Classical.not_not, Nat.reduceAdd, Nat.reduceSub, Nat.reduceMul, Nat.reduceLeDiff, Nat.reduceLT, Nat.reduceEqDiff, Nat.reduceBEq, Nat.reduceBNe, Int.reduceNeg, Int.reduceToNat, Bool.or_false, Bool.false_or, Bool.or_true, Bool.true_or, BEq.rfl, Bool.not_eq_true, Bool.not_eq_false, decide_eq_true_eq, not_true_eq_false, not_false_eq_true, ite_true, ite_false, List.append_nil, and_assoc, Nat.mul_zero, Nat.zero_mul, lp35, M35]
      exact Sub.refl _ _
  have eqR : R = R' := eq_of_rd q3 fun j h => hj j (by omega)
  clear hj
  refine evS_loop _ _ _ (lp35 6 G G' (M35 w h w' h' R G B R' G' B' L1 L2 L3 M1 M2 M3 (X 0 10) (X 1 11)) (X 0 10) (X 1 11)) (0 : Nat) ⟨Nat.zero_le _, fun j hj => absurd hj (Nat.not_lt_zero _)⟩ ?_ ?_
  · change Sub _ _ ((lp35 6 G G' (M35 w h w' h' R G B R' G' B' L1 L2 L3 M1 M2 M3 (X 0 10) (X 1 11)) (X 0 10) (X 1 11)).I (0 : Nat)).1 ((lp35 6 G G' (M35 w h w' h' R G B R' G' B' L1 L2 L3 M1 M2 M3 (X 0 10) (X 1 11)) (X 0 10) (X 1 11)).I (0 : Nat)).2
    refine Sub.of (mkG 18 [(0, 0), (1, 1), (2, 2), (3, 3), (4, 4), (5, 5), (10, 10), (11, 11)]) ?_
    simp -implicitDefEqProofs only [push_cast, false_implies, reduceCtorEq, Classical.not_not, Nat.reduceAdd, Nat.reduceSub, Nat.reduceMul, Nat.reduceLeDiff, Nat.reduceLT, Nat.reduceEqDiff, Nat.reduceBEq, Nat.reduceBNe, Int.reduceNeg, Int.reduceToNat, Bool.or_false, Bool.false_or, Bool.or_true, Bool.true_or, BEq.rfl, Bool.not_eq_true, Bool.not_eq_false, decide_eq_true_eq, not_true_eq_false, not_false_eq_true, ite_true, ite_false, List.append_nil, and_assoc, Nat.mul_zero, Nat.zero_mul, lp35, M35]
  intro (i : Nat) ⟨(hi : i ≤ G.length), (hj : ∀ j, j < i → rd G (j : Nat) = rd G' (j : Nat))⟩
  change evS _ _ _ _ (mkS 101 [(2, .ptr 10 (X 0 10) 0 0 0), (3, .ptr 11 (X 1 11) 0 0 0), (6, .int .i64 i)]) (M35 w h w' h' R G B R' G' B' L1 L2 L3 M1 M2 M3 (X 0 10) (X 1 11))
  simp -implicitDefEqProofs only [push_cast, false_implies, reduceCtorEq, Classical.not_not, Nat.reduceAdd, Nat.reduceSub, Nat.reduceMul, Nat.reduceLeDiff, Nat.reduceLT, Nat.reduceEqDiff, Nat.reduceBEq, Nat.reduceBNe, Int.reduceNeg, Int.reduceToNat, Bool.or_false, Bool.false_or, Bool.or_true, Bool.true_or, BEq.rfl, Bool.not_eq_true, Bool.not_eq_false, decide_eq_true_eq, not_true_eq_false, not_false_eq_true, ite_true, ite_false, List.append_nil, and_assoc, Nat.mul_zero, Nat.zero_mul, M35, b35_2, r35_5]
  refine ⟨fun hl => ⟨by omega, by omega, by omega, by omega, by omega, by omega, by omega, by omega, fun hb => ?_, fun hg => ⟨by omega, by omega, ?_⟩⟩, fun hl => ?_⟩
  · have e : ¬ (⟨w, h, R, G, B⟩ : Im).Eq ⟨w', h', R', G', B'⟩ := fun H => by
      obtain ⟨a, b, c, d, f⟩ := H
      simp only at a b c d f
      subst a b c d f
      simp at hb
    refine postF.mk' (fun _ => default) [some 0, some 1, some 2, some 3, some 4, some 5] ?_
    simp -implicitDefEqProofs only [push_cast, false_implies, reduceCtorEq, Classical.not_not, Nat.reduceAdd, Nat.reduceSub, Nat.reduceMul, Nat.reduceLeDiff, Nat.reduceLT, Nat.reduceEqDiff, Nat.reduceBEq, Nat.reduceBNe, Int.reduceNeg, Int.reduceToNat, Bool.or_false, Bool.false_or, Bool.or_true, Bool.true_or, BEq.rfl, Bool.not_eq_true, Bool.not_eq_false, decide_eq_true_eq, not_true_eq_false, not_false_eq_true, ite_true, ite_false, List.append_nil, and_assoc, Nat.mul_zero, Nat.zero_mul, fs35, e, decide_false]
  · refine lpK_mk (i + 1 : Nat) ⟨by omega, fun j h => ?_⟩ (show G.length - (i + 1) < G.length - i by omega) ?_
    · by_cases e : j = i
      · subst e; exact hg
      · exact hj j (by omega)
    · change Sub _ _ ((lp35 6 G G' (M35 w h w' h' R G B R' G' B' L1 L2 L3 M1 M2 M3 (X 0 10) (X 1 11)) (X 0 10) (X 1 11)).I (i + 1 : Nat)).1 ((lp35 6 G G' (M35 w h w' h' R G B R' G' B' L1 L2 L3 M1 M2 M3 (X 0 10) (X 1 11)) (X 0 10) (X 1 11)).I (i + 1 : Nat)).2
      simp -implicitDefEqProofs only [push_cast, false_implies, reduceCtorEq, Classical.not_not, Nat.reduceAdd, Nat.reduceSub, Nat.reduceMul, Nat.reduceLeDiff, Nat.reduceLT, Nat.reduceEqDiff, Nat.reduceBEq, Nat.reduceBNe, Int.reduceNeg, Int.reduceToNat, Bool.or_false, Bool.false_or, Bool.or_true, Bool.true_or, BEq.rfl, Bool.not_eq_true, Bool.not_eq_false, decide_eq_true_eq, not_true_eq_false, not_false_eq_true, ite_true, ite_false, List.append_nil, and_assoc, Nat.mul_zero, Nat.zero_mul, lp35, M35]
      exact Sub.refl _ _
  have eqG : G = G' := eq_of_rd q4 fun j h => hj j (by omega)
  clear hj
  refine evS_loop _ _ _ (lp35 7 B B' (M35 w h w' h' R G B R' G' B' L1 L2 L3 M1 M2 M3 (X 0 10) (X 1 11)) (X 0 10) (X 1 11)) (0 : Nat) ⟨Nat.zero_le _, fun j hj => absurd hj (Nat.not_lt_zero _)⟩ ?_ ?_
  · change Sub _ _ ((lp35 7 B B' (M35 w h w' h' R G B R' G' B' L1 L2 L3 M1 M2 M3 (X 0 10) (X 1 11)) (X 0 10) (X 1 11)).I (0 : Nat)).1 ((lp35 7 B B' (M35 w h w' h' R G B R' G' B' L1 L2 L3 M1 M2 M3 (X 0 10) (X 1 11)) (X 0 10) (X 1 11)).I (0 : Nat)).2
    refine Sub.of (mkG 18 [(0, 0), (1, 1), (2, 2), (3, 3), (4, 4), (5, 5), (10, 10), (11, 11)]) ?_
    simp -implicitDefEqProofs only [push_cast, false_implies, reduceCtorEq, Classical.not_not, Nat.reduceAdd, Nat.reduceSub, Nat.reduceMul, Nat.reduceLeDiff, Nat.reduceLT, Nat.reduceEqDiff, Nat.reduceBEq, Nat.reduceBNe, Int.reduceNeg, Int.reduceToNat, Bool.or_false, Bool.false_or, Bool.or_true, Bool.true_or, BEq.rfl, Bool.not_eq_true, Bool.not_eq_false, decide_eq_true_eq, not_true_eq_false, not_false_eq_true, ite_true, ite_false, List.append_nil, and_assoc, Nat.mul_zero, Nat.zero_mul, lp35, M35]
  intro (i : Nat) ⟨(hi : i ≤ B.length), (hj : ∀ j, j < i → rd B (j : Nat) = rd B' (j : Nat))⟩
  change evS _ _ _ _ (mkS 101 [(2, .ptr 10 (X 0 10) 0 0 0), (3, .ptr 11 (X 1 11) 0 0 0), (7, .int .i64 i)]) (M35 w h w' h' R G B R' G' B' L1 L2 L3 M1 M2 M3 (X 0 10) (X 1 11))
  simp -implicitDefEqProofs only [push_cast, false_implies, reduceCtorEq, Classical.not_not, Nat.reduceAdd, Nat.reduceSub, Nat.reduceMul, Nat.reduceLeDiff, Nat.reduceLT, Nat.reduceEqDiff, Nat.reduceBEq, Nat.reduceBNe, Int.reduceNeg, Int.reduceToNat, Bool.or_false, Bool.false_or, Bool.or_true, Bool.true_or, BEq.rfl, Bool.not_eq_true, Bool.not_eq_false, decide_eq_true_eq, not_true_eq_false, not_false_eq_true, ite_true, ite_false, List.append_nil, and_assoc, Nat.mul_zero, Nat.zero_mul, M35, b35_3, r35_4]
  refine ⟨fun hl => ⟨by omega, by omega, by omega, by omega, by omega, by omega, by omega, by omega, fun hb => ?_, fun hg => ⟨by omega, by omega, ?_⟩⟩, fun hl => ?_⟩
  · have e : ¬ (⟨w, h, R, G, B⟩ : Im).Eq ⟨w', h', R', G', B'⟩ := fun H => by
      obtain ⟨a, b, c, d, f⟩ := H
      simp only at a b c d f
      subst a b c d f
      simp at hb
    refine postF.mk' (fun _ => default) [some 0, some 1, some 2, some 3, some 4, some 5] ?_
    simp -implicitDefEqProofs only [push_cast, false_implies, reduceCtorEq, Classical.not_not, Nat.reduceAdd, Nat.reduceSub, Nat.reduceMul, Nat.reduceLeDiff, Nat.reduceLT, Nat.reduceEqDiff, Nat.reduceBEq, Nat.reduceBNe, Int.reduceNeg, Int.reduceToNat, Bool.or_false, Bool.false_or, Bool.or_true, Bool.true_or, BEq.rfl, Bool.not_eq_true, Bool.not_eq_false, decide_eq_true_eq, not_true_eq_false, not_false_eq_true, ite_true, ite_false, List.append_nil, and_assoc, Nat.mul_zero, Nat.zero_mul, fs35, e, decide_false]
  · refine lpK_mk (i + 1 : Nat) ⟨by omega, fun j h => ?_⟩ (show B.length - (i + 1) < B.length - i by omega) ?_
    · by_cases e : j = i
      · subst e; exact hg
      · exact hj j (by omega)
    · change Sub _ _ ((lp35 7 B B' (M35 w h w' h' R G B R' G' B' L1 L2 L3 M1 M2 M3 (X 0 10) (X 1 11)) (X 0 10) (X 1 11)).I (i + 1 : Nat)).1 ((lp35 7 B B' (M35 w h w' h' R G B R' G' B' L1 L2 L3 M1 M2 M3 (X 0 10) (X 1 11)) (X 0 10) (X 1 11)).I (i + 1 : Nat)).2
      simp -implicitDefEqProofs only [push_cast, false_implies, reduceCtorEq, Classical.not_not, Nat.reduceAdd, Nat.reduceSub, Nat.reduceMul, Nat.reduceLeDiff, Nat.reduceLT, Nat.reduceEqDiff, Nat.reduceBEq, Nat.reduceBNe, Int.reduceNeg, Int.reduceToNat, Bool.or_false, Bool.false_or, Bool.or_true, Bool.true_or, BEq.rfl, Bool.not_eq_true, Bool.not_eq_false, decide_eq_true_eq, not_true_eq_false, not_false_eq_true, ite_true, ite_false, List.append_nil, and_assoc, Nat.mul_zero, Nat.zero_mul, lp35, M35]
      exact Sub.refl _ _
  have eqB : B = B' := eq_of_rd q5 fun j h => hj j (by omega)
  clear hj
  have e : (⟨w, h, R, G, B⟩ : Im).Eq ⟨w', h', R', G', B'⟩ := ⟨q1, q2, eqR, eqG, eqB⟩
  refine postF.mk' (fun _ => default) [some 0, some 1, some 2, some 3, some 4, some 5] ?_
  simp -implicitDefEqProofs only [push_cast, false_implies, reduceCtorEq, Classical.not_not, Nat.reduceAdd, Nat.reduceSub, Nat.reduceMul, Nat.reduceLeDiff, Nat.reduceLT, Nat.reduceEqDiff, Nat.reduceBEq, Nat.reduceBNe, Int.reduceNeg, Int.reduceToNat, Bool.or_false, Bool.false_or, Bool.or_true, Bool.true_or, BEq.rfl, Bool.not_eq_true, Bool.not_eq_false, decide_eq_true_eq, not_true_eq_false, not_false_eq_true, ite_true, ite_false, List.append_nil, and_assoc, Nat.mul_zero, Nat.zero_mul, fs35, e, decide_true]
def ent35 : Entry := spOf fs35 inv35
theorem e35 : EntryOk Try.prog 35 ent35 := entry_of ok35 inv35
@[push_cast] theorem ent35_app (us : List SV) (look : Look) (x : Nat → Xf.Loc) (k : Nat) : ent35 us look x k = spOf fs35 inv35 us look x k := rfl

end Go.Proofs.Ytefggfjblhniaaa
