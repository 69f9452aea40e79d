import Derived.Test.YtnmbimhcfioeiaaVd
set_option linter.unusedVariables false
set_option linter.unusedSimpArgs false
/-! The reference's Same. -/
namespace Go.Proofs.Ytnmbimhcfioeiaa
open Xf

def Im.Eq (a b : Im) : Prop := a.w = b.w ∧ a.h = b.h ∧ a.R = b.R ∧ a.G = b.G ∧ a.B = b.B
instance (a b : Im) : Decidable (a.Eq b) := by unfold Im.Eq; infer_instance
theorem Im.Eq.refl (a : Im) : a.Eq a := ⟨rfl, rfl, rfl, rfl, rfl⟩
structure Im2 where
  a : ImA
  b : ImA
def fs17 : FS where
  A := Im2
  args := fun a => [imV a.a.i a.a.L1 a.a.L2 a.a.L3 0, imV a.b.i a.b.L1 a.b.L2 a.b.L3 3]
  mem := fun a => [some (.ro, a.a.L1, .ints .i64 a.a.i.R), some (.ro, a.a.L2, .ints .i64 a.a.i.G), some (.ro, a.a.L3, .ints .i64 a.a.i.B), some (.ro, a.b.L1, .ints .i64 a.b.i.R), some (.ro, a.b.L2, .ints .i64 a.b.i.G), some (.ro, a.b.L3, .ints .i64 a.b.i.B)]
  pre := fun a => a.a.i.small ∧ a.b.i.small
  res := fun a _ => .bool (decide (a.a.i.Eq a.b.i))
  out := fun _ _ => []
  new := fun _ _ => []
def inv17 : List SV → Look → Option (Im2 × List Nat)
  | [v, u], look => match getI look v, getI look u with
    | some (a, g), some (b, g') => some (⟨a, b⟩, g ++ g')
    | _, _ => none
  | _, _ => none
attribute [push_cast] inv17
def M17 (w h w' h' : Int) (R G B R' G' B' : List Int) (L1 L2 L3 M1 M2 M3 L0 L0' : Xf.Loc) : Mem :=
  mkM 18 [(0, .ro, L1, .ints .i64 R), (1, .ro, L2, .ints .i64 G), (2, .ro, L3, .ints .i64 B), (3, .ro, M1, .ints .i64 R'), (4, .ro, M2, .ints .i64 G'), (5, .ro, M3, .ints .i64 B'),
    (10, .mine, L0, .cells [.int .i64 w, .int .i64 h, .sl 0 L1 1 0 R.length, .sl 1 L2 1 0 G.length, .sl 2 L3 1 0 B.length]), (11, .mine, L0', .cells [.int .i64 w', .int .i64 h', .sl 3 M1 1 0 R'.length, .sl 4 M2 1 0 G'.length, .sl 5 M3 1 0 B'.length])]
def lp17 (t : Nat) (xs ys : List Int) (m : Mem) (L0 L0' : Xf.Loc) : LoopS where
  A := Nat
  I := fun i => (mkS 101 [(2, .ptr 10 L0 0 0 0), (3, .ptr 11 L0' 0 0 0), (t, .int .i64 i)], m)
  R := fun i => i ≤ xs.length ∧ ∀ j, j < i → rd xs (j : Nat) = rd ys (j : Nat)
  mu := fun i => xs.length - i

theorem ok17 : FSOk Try.prog 17 fs17 := by
  refine ⟨⟨_, Try.func17, by kernel_rfl, by kernel_rfl⟩, fun a => ⟨by simp [fs17, push_cast, noMine, argOwn, Chunk.frArg], by simp [fs17, push_cast, outOk, Chunk.ext], fun x => .inl (by simp [fs17, push_cast, frNew, frOut, Chunk.fr])⟩, fun a hp => ?_⟩
  obtain ⟨⟨⟨w, h, R, G, B⟩, L1, L2, L3⟩, ⟨⟨w', h', R', G', B'⟩, M1, M2, M3⟩⟩ := a
  obtain ⟨⟨s1, s2, s3⟩, s4, s5, s6⟩ := hp
  simp only at s1 s2 s3 s4 s5 s6
  change Tri Try.prog 17 [imV ⟨w, h, R, G, B⟩ L1 L2 L3 0, imV ⟨w', h', R', G', B'⟩ M1 M2 M3 3] [some (.ro, L1, .ints .i64 R), some (.ro, L2, .ints .i64 G), some (.ro, L3, .ints .i64 B), some (.ro, M1, .ints .i64 R'), some (.ro, M2, .ints .i64 G'), some (.ro, M3, .ints .i64 B')] (postF fs17 ⟨⟨⟨w, h, R, G, B⟩, L1, L2, L3⟩, ⟨⟨w', h', R', G', B'⟩, M1, M2, M3⟩⟩)
  refine tri_evS (hyp (l := []) (lp := []) trivial trivial) Try.func17 comp17 (rs := [.tmp 4]) (by rfl) Try.ntmps17 12 ?_
  simp -implicitDefEqProofs only [push_cast, reduceCtorEq, Classical.not_not, Nat.reduceAdd, Nat.reduceSub, Nat.reduceMul, Nat.reduceLeDiff, Nat.reduceLT, Nat.reduceEqDiff, Nat.reduceBEq, Nat.reduceBNe, Int.reduceNeg, Int.reduceToNat, Bool.or_false, Bool.false_or, Bool.or_true, Bool.true_or, BEq.rfl, Bool.not_eq_true, Bool.not_eq_false, decide_eq_true_eq, not_true_eq_false, not_false_eq_true, ite_true, ite_false, List.append_nil, and_assoc, Nat.mul_zero, Nat.zero_mul, ir17]
  intro X
  refine ⟨fun hn => ?_, fun hy => ?_⟩
  · have e : ¬ (⟨w, h, R, G, B⟩ : Im).Eq ⟨w', h', R', G', B'⟩ := fun H => by
      obtain ⟨a, b, c, d, f⟩ := H
      simp only at a b c d f
      subst a b c d f
      simp at hn
    refine postF.mk' (fun _ => default) [some 0, some 1, some 2, some 3, some 4, some 5] ?_
    simp -implicitDefEqProofs only [push_cast, reduceCtorEq, Classical.not_not, Nat.reduceAdd, Nat.reduceSub, Nat.reduceMul, Nat.reduceLeDiff, Nat.reduceLT, Nat.reduceEqDiff, Nat.reduceBEq, Nat.reduceBNe, Int.reduceNeg, Int.reduceToNat, Bool.or_false, Bool.false_or, Bool.or_true, Bool.true_or, BEq.rfl, Bool.not_eq_true, Bool.not_eq_false, decide_eq_true_eq, not_true_eq_false, not_false_eq_true, ite_true, ite_false, List.append_nil, and_assoc, Nat.mul_zero, Nat.zero_mul, fs17, e, decide_false]
  obtain ⟨q1, q2, q3, q4, q5⟩ : w = w' ∧ h = h' ∧ R.length = R'.length ∧ G.length = G'.length ∧ B.length = B'.length := by omega
  refine evS_loop _ _ _ (lp17 5 R R' (M17 w h w' h' R G B R' G' B' L1 L2 L3 M1 M2 M3 (X 0 10) (X 1 11)) (X 0 10) (X 1 11)) (0 : Nat) ⟨Nat.zero_le _, fun j hj => absurd hj (Nat.not_lt_zero _)⟩ ?_ ?_
  · change Sub _ _ ((lp17 5 R R' (M17 w h w' h' R G B R' G' B' L1 L2 L3 M1 M2 M3 (X 0 10) (X 1 11)) (X 0 10) (X 1 11)).I (0 : Nat)).1 ((lp17 5 R R' (M17 w h w' h' R G B R' G' B' L1 L2 L3 M1 M2 M3 (X 0 10) (X 1 11)) (X 0 10) (X 1 11)).I (0 : Nat)).2
    refine Sub.of (mkG 18 [(0, 0), (1, 1), (2, 2), (3, 3), (4, 4), (5, 5), (10, 10), (11, 11)]) ?_
    simp -implicitDefEqProofs only [push_cast, reduceCtorEq, Classical.not_not, Nat.reduceAdd, Nat.reduceSub, Nat.reduceMul, Nat.reduceLeDiff, Nat.reduceLT, Nat.reduceEqDiff, Nat.reduceBEq, Nat.reduceBNe, Int.reduceNeg, Int.reduceToNat, Bool.or_false, Bool.false_or, Bool.or_true, Bool.true_or, BEq.rfl, Bool.not_eq_true, Bool.not_eq_false, decide_eq_true_eq, not_true_eq_false, not_false_eq_true, ite_true, ite_false, List.append_nil, and_assoc, Nat.mul_zero, Nat.zero_mul, lp17, M17]
  intro (i : Nat) ⟨(hi : i ≤ R.length), (hj : ∀ j, j < i → rd R (j : Nat) = rd R' (j : Nat))⟩
  change evS _ _ _ _ (mkS 101 [(2, .ptr 10 (X 0 10) 0 0 0), (3, .ptr 11 (X 1 11) 0 0 0), (5, .int .i64 i)]) (M17 w h w' h' R G B R' G' B' L1 L2 L3 M1 M2 M3 (X 0 10) (X 1 11))
  simp -implicitDefEqProofs only [push_cast, reduceCtorEq, Classical.not_not, Nat.reduceAdd, Nat.reduceSub, Nat.reduceMul, Nat.reduceLeDiff, Nat.reduceLT, Nat.reduceEqDiff, Nat.reduceBEq, Nat.reduceBNe, Int.reduceNeg, Int.reduceToNat, Bool.or_false, Bool.false_or, Bool.or_true, Bool.true_or, BEq.rfl, Bool.not_eq_true, Bool.not_eq_false, decide_eq_true_eq, not_true_eq_false, not_false_eq_true, ite_true, ite_false, List.append_nil, and_assoc, Nat.mul_zero, Nat.zero_mul, M17, b17_1, r17_6]
  refine ⟨fun hl => ⟨by omega, by omega, by omega, by omega, by omega, by omega, by omega, by omega, fun hb => ?_, fun hg => ⟨by omega, by omega, ?_⟩⟩, fun hl => ?_⟩
  · have e : ¬ (⟨w, h, R, G, B⟩ : Im).Eq ⟨w', h', R', G', B'⟩ := fun H => by
      obtain ⟨a, b, c, d, f⟩ := H
      simp only at a b c d f
      subst a b c d f
      simp at hb
    refine postF.mk' (fun _ => default) [some 0, some 1, some 2, some 3, some 4, some 5] ?_
    simp -implicitDefEqProofs only [push_cast, reduceCtorEq, Classical.not_not, Nat.reduceAdd, Nat.reduceSub, Nat.reduceMul, Nat.reduceLeDiff, Nat.reduceLT, Nat.reduceEqDiff, Nat.reduceBEq, Nat.reduceBNe, Int.reduceNeg, Int.reduceToNat, Bool.or_false, Bool.false_or, Bool.or_true, Bool.true_or, BEq.rfl, Bool.not_eq_true, Bool.not_eq_false, decide_eq_true_eq, not_true_eq_false, not_false_eq_true, ite_true, ite_false, List.append_nil, and_assoc, Nat.mul_zero, Nat.zero_mul, fs17, e, decide_false]
  · refine lpK_mk (i + 1 : Nat) ⟨by omega, fun j h => ?_⟩ (show R.length - (i + 1) < R.length - i by omega) ?_
    · by_cases e : j = i
      · subst e; exact hg
      · exact hj j (by omega)
    · change Sub _ _ ((lp17 5 R R' (M17 w h w' h' R G B R' G' B' L1 L2 L3 M1 M2 M3 (X 0 10) (X 1 11)) (X 0 10) (X 1 11)).I (i + 1 : Nat)).1 ((lp17 5 R R' (M17 w h w' h' R G B R' G' B' L1 L2 L3 M1 M2 M3 (X 0 10) (X 1 11)) (X 0 10) (X 1 11)).I (i + 1 : Nat)).2
      simp -implicitDefEqProofs only [push_cast, reduceCtorEq, Classical.not_not, Nat.reduceAdd, Nat.reduceSub, Nat.reduceMul, Nat.reduceLeDiff, Nat.reduceLT, Nat.reduceEqDiff, Nat.reduceBEq, Nat.reduceBNe, Int.reduceNeg, Int.reduceToNat, Bool.or_false, Bool.false_or, Bool.or_true, Bool.true_or, BEq.rfl, Bool.not_eq_true, Bool.not_eq_false, decide_eq_true_eq, not_true_eq_false, not_false_eq_true, ite_true, ite_false, List.append_nil, and_assoc, Nat.mul_zero, Nat.zero_mul, lp17, M17]
      exact Sub.refl _ _
  have eqR : R = R' := eq_of_rd q3 fun j h => hj j (by omega)
  clear hj
  refine evS_loop _ _ _ (lp17 6 G G' (M17 w h w' h' R G B R' G' B' L1 L2 L3 M1 M2 M3 (X 0 10) (X 1 11)) (X 0 10) (X 1 11)) (0 : Nat) ⟨Nat.zero_le _, fun j hj => absurd hj (Nat.not_lt_zero _)⟩ ?_ ?_
  · change Sub _ _ ((lp17 6 G G' (M17 w h w' h' R G B R' G' B' L1 L2 L3 M1 M2 M3 (X 0 10) (X 1 11)) (X 0 10) (X 1 11)).I (0 : Nat)).1 ((lp17 6 G G' (M17 w h w' h' R G B R' G' B' L1 L2 L3 M1 M2 M3 (X 0 10) (X 1 11)) (X 0 10) (X 1 11)).I (0 : Nat)).2
    refine Sub.of (mkG 18 [(0, 0), (1, 1), (2, 2), (3, 3), (4, 4), (5, 5), (10, 10), (11, 11)]) ?_
    simp -implicitDefEqProofs only [push_cast, reduceCtorEq, Classical.not_not, Nat.reduceAdd, Nat.reduceSub, Nat.reduceMul, Nat.reduceLeDiff, Nat.reduceLT, Nat.reduceEqDiff, Nat.reduceBEq, Nat.reduceBNe, Int.reduceNeg, Int.reduceToNat, Bool.or_false, Bool.false_or, Bool.or_true, Bool.true_or, BEq.rfl, Bool.not_eq_true, Bool.not_eq_false, decide_eq_true_eq, not_true_eq_false, not_false_eq_true, ite_true, ite_false, List.append_nil, and_assoc, Nat.mul_zero, Nat.zero_mul, lp17, M17]
  intro (i : Nat) ⟨(hi : i ≤ G.length), (hj : ∀ j, j < i → rd G (j : Nat) = rd G' (j : Nat))⟩
  change evS _ _ _ _ (mkS 101 [(2, .ptr 10 (X 0 10) 0 0 0), (3, .ptr 11 (X 1 11) 0 0 0), (6, .int .i64 i)]) (M17 w h w' h' R G B R' G' B' L1 L2 L3 M1 M2 M3 (X 0 10) (X 1 11))
  simp -implicitDefEqProofs only [push_cast, reduceCtorEq, Classical.not_not, Nat.reduceAdd, Nat.reduceSub, Nat.reduceMul, Nat.reduceLeDiff, Nat.reduceLT, Nat.reduceEqDiff, Nat.reduceBEq, Nat.reduceBNe, Int.reduceNeg, Int.reduceToNat, Bool.or_false, Bool.false_or, Bool.or_true, Bool.true_or, BEq.rfl, Bool.not_eq_true, Bool.not_eq_false, decide_eq_true_eq, not_true_eq_false, not_false_eq_true, ite_true, ite_false, List.append_nil, and_assoc, Nat.mul_zero, Nat.zero_mul, M17, b17_2, r17_5]
  refine ⟨fun hl => ⟨by omega, by omega, by omega, by omega, by omega, by omega, by omega, by omega, fun hb => ?_, fun hg => ⟨by omega, by omega, ?_⟩⟩, fun hl => ?_⟩
  · have e : ¬ (⟨w, h, R, G, B⟩ : Im).Eq ⟨w', h', R', G', B'⟩ := fun H => by
      obtain ⟨a, b, c, d, f⟩ := H
      simp only at a b c d f
      subst a b c d f
      simp at hb
    refine postF.mk' (fun _ => default) [some 0, some 1, some 2, some 3, some 4, some 5] ?_
    simp -implicitDefEqProofs only [push_cast, reduceCtorEq, Classical.not_not, Nat.reduceAdd, Nat.reduceSub, Nat.reduceMul, Nat.reduceLeDiff, Nat.reduceLT, Nat.reduceEqDiff, Nat.reduceBEq, Nat.reduceBNe, Int.reduceNeg, Int.reduceToNat, Bool.or_false, Bool.false_or, Bool.or_true, Bool.true_or, BEq.rfl, Bool.not_eq_true, Bool.not_eq_false, decide_eq_true_eq, not_true_eq_false, not_false_eq_true, ite_true, ite_false, List.append_nil, and_assoc, Nat.mul_zero, Nat.zero_mul, fs17, e, decide_false]
  · refine lpK_mk (i + 1 : Nat) ⟨by omega, fun j h => ?_⟩ (show G.length - (i + 1) < G.length - i by omega) ?_
    · by_cases e : j = i
      · subst e; exact hg
      · exact hj j (by omega)
    · change Sub _ _ ((lp17 6 G G' (M17 w h w' h' R G B R' G' B' L1 L2 L3 M1 M2 M3 (X 0 10) (X 1 11)) (X 0 10) (X 1 11)).I (i + 1 : Nat)).1 ((lp17 6 G G' (M17 w h w' h' R G B R' G' B' L1 L2 L3 M1 M2 M3 (X 0 10) (X 1 11)) (X 0 10) (X 1 11)).I (i + 1 : Nat)).2
      simp -implicitDefEqProofs only [push_cast, reduceCtorEq, Classical.not_not, Nat.reduceAdd, Nat.reduceSub, Nat.reduceMul, Nat.reduceLeDiff, Nat.reduceLT, Nat.reduceEqDiff, Nat.reduceBEq, Nat.reduceBNe, Int.reduceNeg, Int.reduceToNat, Bool.or_false, Bool.false_or, Bool.or_true, Bool.true_or, BEq.rfl, Bool.not_eq_true, Bool.not_eq_false, decide_eq_true_eq, not_true_eq_false, not_false_eq_true, ite_true, ite_false, List.append_nil, and_assoc, Nat.mul_zero, Nat.zero_mul, lp17, M17]
      exact Sub.refl _ _
  have eqG : G = G' := eq_of_rd q4 fun j h => hj j (by omega)
  clear hj
  refine evS_loop _ _ _ (lp17 7 B B' (M17 w h w' h' R G B R' G' B' L1 L2 L3 M1 M2 M3 (X 0 10) (X 1 11)) (X 0 10) (X 1 11)) (0 : Nat) ⟨Nat.zero_le _, fun j hj => absurd hj (Nat.not_lt_zero _)⟩ ?_ ?_
  · change Sub _ _ ((lp17 7 B B' (M17 w h w' h' R G B R' G' B' L1 L2 L3 M1 M2 M3 (X 0 10) (X 1 11)) (X 0 10) (X 1 11)).I (0 : Nat)).1 ((lp17 7 B B' (M17 w h w' h' R G B R' G' B' L1 L2 L3 M1 M2 M3 (X 0 10) (X 1 11)) (X 0 10) (X 1 11)).I (0 : Nat)).2
    refine Sub.of (mkG 18 [(0, 0), (1, 1), (2, 2), (3, 3), (4, 4), (5, 5), (10, 10), (11, 11)]) ?_
    simp -implicitDefEqProofs only [push_cast, reduceCtorEq, Classical.not_not, Nat.reduceAdd, Nat.reduceSub, Nat.reduceMul, Nat.reduceLeDiff, Nat.reduceLT, Nat.reduceEqDiff, Nat.reduceBEq, Nat.reduceBNe, Int.reduceNeg, Int.reduceToNat, Bool.or_false, Bool.false_or, Bool.or_true, Bool.true_or, BEq.rfl, Bool.not_eq_true, Bool.not_eq_false, decide_eq_true_eq, not_true_eq_false, not_false_eq_true, ite_true, ite_false, List.append_nil, and_assoc, Nat.mul_zero, Nat.zero_mul, lp17, M17]
  intro (i : Nat) ⟨(hi : i ≤ B.length), (hj : ∀ j, j < i → rd B (j : Nat) = rd B' (j : Nat))⟩
  change evS _ _ _ _ (mkS 101 [(2, .ptr 10 (X 0 10) 0 0 0), (3, .ptr 11 (X 1 11) 0 0 0), (7, .int .i64 i)]) (M17 w h w' h' R G B R' G' B' L1 L2 L3 M1 M2 M3 (X 0 10) (X 1 11))
  simp -implicitDefEqProofs only [push_cast, reduceCtorEq, Classical.not_not, Nat.reduceAdd, Nat.reduceSub, Nat.reduceMul, Nat.reduceLeDiff, Nat.reduceLT, Nat.reduceEqDiff, Nat.reduceBEq, Nat.reduceBNe, Int.reduceNeg, Int.reduceToNat, Bool.or_false, Bool.false_or, Bool.or_true, Bool.true_or, BEq.rfl, Bool.not_eq_true, Bool.not_eq_false, decide_eq_true_eq, not_true_eq_false, not_false_eq_true, ite_true, ite_false, List.append_nil, and_assoc, Nat.mul_zero, Nat.zero_mul, M17, b17_3, r17_4]
  refine ⟨fun hl => ⟨by omega, by omega, by omega, by omega, by omega, by omega, by omega, by omega, fun hb => ?_, fun hg => ⟨by omega, by omega, ?_⟩⟩, fun hl => ?_⟩
  · have e : ¬ (⟨w, h, R, G, B⟩ : Im).Eq ⟨w', h', R', G', B'⟩ := fun H => by
      obtain ⟨a, b, c, d, f⟩ := H
      simp only at a b c d f
      subst a b c d f
      simp at hb
    refine postF.mk' (fun _ => default) [some 0, some 1, some 2, some 3, some 4, some 5] ?_
    simp -implicitDefEqProofs only [push_cast, reduceCtorEq, Classical.not_not, Nat.reduceAdd, Nat.reduceSub, Nat.reduceMul, Nat.reduceLeDiff, Nat.reduceLT, Nat.reduceEqDiff, Nat.reduceBEq, Nat.reduceBNe, Int.reduceNeg, Int.reduceToNat, Bool.or_false, Bool.false_or, Bool.or_true, Bool.true_or, BEq.rfl, Bool.not_eq_true, Bool.not_eq_false, decide_eq_true_eq, not_true_eq_false, not_false_eq_true, ite_true, ite_false, List.append_nil, and_assoc, Nat.mul_zero, Nat.zero_mul, fs17, e, decide_false]
  · refine lpK_mk (i + 1 : Nat) ⟨by omega, fun j h => ?_⟩ (show B.length - (i + 1) < B.length - i by omega) ?_
    · by_cases e : j = i
      · subst e; exact hg
      · exact hj j (by omega)
    · change Sub _ _ ((lp17 7 B B' (M17 w h w' h' R G B R' G' B' L1 L2 L3 M1 M2 M3 (X 0 10) (X 1 11)) (X 0 10) (X 1 11)).I (i + 1 : Nat)).1 ((lp17 7 B B' (M17 w h w' h' R G B R' G' B' L1 L2 L3 M1 M2 M3 (X 0 10) (X 1 11)) (X 0 10) (X 1 11)).I (i + 1 : Nat)).2
      simp -implicitDefEqProofs only [push_cast, reduceCtorEq, Classical.not_not, Nat.reduceAdd, Nat.reduceSub, Nat.reduceMul, Nat.reduceLeDiff, Nat.reduceLT, Nat.reduceEqDiff, Nat.reduceBEq, Nat.reduceBNe, Int.reduceNeg, Int.reduceToNat, Bool.or_false, Bool.false_or, Bool.or_true, Bool.true_or, BEq.rfl, Bool.not_eq_true, Bool.not_eq_false, decide_eq_true_eq, not_true_eq_false, not_false_eq_true, ite_true, ite_false, List.append_nil, and_assoc, Nat.mul_zero, Nat.zero_mul, lp17, M17]
      exact Sub.refl _ _
  have eqB : B = B' := eq_of_rd q5 fun j h => hj j (by omega)
  clear hj
  have e : (⟨w, h, R, G, B⟩ : Im).Eq ⟨w', h', R', G', B'⟩ := ⟨q1, q2, eqR, eqG, eqB⟩
  refine postF.mk' (fun _ => default) [some 0, some 1, some 2, some 3, some 4, some 5] ?_
  simp -implicitDefEqProofs only [push_cast, reduceCtorEq, Classical.not_not, Nat.reduceAdd, Nat.reduceSub, Nat.reduceMul, Nat.reduceLeDiff, Nat.reduceLT, Nat.reduceEqDiff, Nat.reduceBEq, Nat.reduceBNe, Int.reduceNeg, Int.reduceToNat, Bool.or_false, Bool.false_or, Bool.or_true, Bool.true_or, BEq.rfl, Bool.not_eq_true, Bool.not_eq_false, decide_eq_true_eq, not_true_eq_false, not_false_eq_true, ite_true, ite_false, List.append_nil, and_assoc, Nat.mul_zero, Nat.zero_mul, fs17, e, decide_true]
def ent17 : Entry := spOf fs17 inv17
theorem e17 : EntryOk Try.prog 17 ent17 := entry_of ok17 inv17
@[push_cast] theorem ent17_app (us : List SV) (look : Look) (x : Nat → Xf.Loc) (k : Nat) : ent17 us look x k = spOf fs17 inv17 us look x k := rfl

end Go.Proofs.Ytnmbimhcfioeiaa
