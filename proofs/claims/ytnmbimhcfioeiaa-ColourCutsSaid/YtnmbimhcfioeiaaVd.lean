import Derived.Test.YtnmbimhcfioeiaaVc
set_option linter.unusedVariables false
set_option linter.unusedSimpArgs false
/-! The reference's New, Valid, Same. -/
namespace Go.Proofs.Ytnmbimhcfioeiaa
open Xf

/-! Of -/
def fs45 : FS where
  A := NewA
  args := fun a => [.int .i64 a.w, .int .i64 a.h, .int .i64 a.r, .int .i64 a.g, .int .i64 a.b]
  mem := fun _ => []
  pre := fun a => a.Ok
  res := fun a x => imV (newI a) (x 0) (x 1) (x 2) 0
  out := fun _ _ => []
  new := fun a x => imN (newI a) x
def I45 (w h r g b : Int) (L0 L1 : Xf.Loc) (i : Nat × Xf.Loc × Xf.Loc × Xf.Loc) : List Ent × Mem :=
  (mkS 42 [(0, .int .i64 w), (1, .int .i64 h), (2, .int .i64 r), (3, .int .i64 g), (4, .int .i64 b), (10, .ptr 10 L0 0 0 0), (11, .ptr 11 L1 0 0 0), (12, .int .i64 i.1)],
    mkM 22 [(10, .mine, L0, .cells [.int .i64 0, .int .i64 0, nilSV, nilSV, nilSV]), (11, .mine, L1, .cells [.int .i64 w, .int .i64 h, .sl 13 i.2.1 1 0 i.1, .sl 15 i.2.2.1 1 0 i.1, .sl 17 i.2.2.2 1 0 i.1]),
      (13, .mine, i.2.1, .ints .i64 (List.replicate i.1 r)), (15, .mine, i.2.2.1, .ints .i64 (List.replicate i.1 g)), (17, .mine, i.2.2.2, .ints .i64 (List.replicate i.1 b))])
def lp45 (w h r g b : Int) (L0 L1 : Xf.Loc) : LoopS where
  A := Nat × Xf.Loc × Xf.Loc × Xf.Loc
  I := I45 w h r g b L0 L1
  R := fun i => i.1 ≤ (w * h).toNat
  mu := fun i => (w * h).toNat - i.1
theorem ok45 : FSOk Try.prog 45 fs45 := by
  refine ⟨⟨_, Try.func45, by kernel_rfl, by kernel_rfl⟩, fun a => ⟨by simp [fs45, push_cast, noMine, argOwn, Chunk.frArg], by simp [fs45, push_cast, outOk, Chunk.ext], fun x => .inl (by simp [fs45, push_cast, frNew, frOut, Chunk.fr])⟩, fun a e => ?_⟩
  obtain ⟨w, h, r, g, b⟩ := a
  change (⟨w, h, r, g, b⟩ : NewA).Ok at e
  have hm := (show SidesOk w h from e.1).bd
  change Tri Try.prog 45 [.int .i64 w, .int .i64 h, .int .i64 r, .int .i64 g, .int .i64 b] [] (postF fs45 ⟨w, h, r, g, b⟩)
  refine tri_evS (hyp (l := []) (lp := []) trivial trivial) Try.func45 comp45 (rs := [.cell 10 (some 5)]) (by rfl) Try.ntmps45 22 ?_
  simp -implicitDefEqProofs only [push_cast, reduceCtorEq, Classical.not_not, Nat.reduceAdd, Nat.reduceSub, Nat.reduceMul, Nat.reduceLeDiff, Nat.reduceLT, Nat.reduceEqDiff, Nat.reduceBEq, Nat.reduceBNe, Int.reduceNeg, Int.reduceToNat, Bool.or_false, Bool.false_or, Bool.or_true, Bool.true_or, BEq.rfl, Bool.not_eq_true, Bool.not_eq_false, decide_eq_true_eq, not_true_eq_false, not_false_eq_true, ite_true, ite_false, List.append_nil, and_assoc, Nat.mul_zero, Nat.zero_mul, ir45]
  intro X X1
  refine evS_loop _ _ _ (lp45 w h r g b (X 0 10) (X1 3 11)) ((0, nilLoc, nilLoc, nilLoc) : Nat × Xf.Loc × Xf.Loc × Xf.Loc) (Nat.zero_le _) ?_ ?_
  · change Sub _ _ (I45 w h r g b (X 0 10) (X1 3 11) (0, nilLoc, nilLoc, nilLoc)).1 (I45 w h r g b (X 0 10) (X1 3 11) (0, nilLoc, nilLoc, nilLoc)).2
    refine Sub.of (mkG 22 [(10, 10), (11, 11)]) ?_
    simp -implicitDefEqProofs only [push_cast, reduceCtorEq, Classical.not_not, Nat.reduceAdd, Nat.reduceSub, Nat.reduceMul, Nat.reduceLeDiff, Nat.reduceLT, Nat.reduceEqDiff, Nat.reduceBEq, Nat.reduceBNe, Int.reduceNeg, Int.reduceToNat, Bool.or_false, Bool.false_or, Bool.or_true, Bool.true_or, BEq.rfl, Bool.not_eq_true, Bool.not_eq_false, decide_eq_true_eq, not_true_eq_false, not_false_eq_true, ite_true, ite_false, List.append_nil, and_assoc, Nat.mul_zero, Nat.zero_mul, I45, List.replicate_zero]
  · intro (⟨i, L1, L2, L3⟩ : Nat × Xf.Loc × Xf.Loc × Xf.Loc) (hi : i ≤ (w * h).toNat)
    change evS _ _ _ _ (I45 w h r g b (X 0 10) (X1 3 11) (i, L1, L2, L3)).1 (I45 w h r g b (X 0 10) (X1 3 11) (i, L1, L2, L3)).2
    simp -implicitDefEqProofs only [push_cast, reduceCtorEq, Classical.not_not, Nat.reduceAdd, Nat.reduceSub, Nat.reduceMul, Nat.reduceLeDiff, Nat.reduceLT, Nat.reduceEqDiff, Nat.reduceBEq, Nat.reduceBNe, Int.reduceNeg, Int.reduceToNat, Bool.or_false, Bool.false_or, Bool.or_true, Bool.true_or, BEq.rfl, Bool.not_eq_true, Bool.not_eq_false, decide_eq_true_eq, not_true_eq_false, not_false_eq_true, ite_true, ite_false, List.append_nil, and_assoc, Nat.mul_zero, Nat.zero_mul, I45, b45_1, r45_2]
    refine ⟨by omega, by omega, fun hl X2 => ?_, fun hl => ?_⟩
    · have hl' : i < (w * h).toNat := by omega
      simp only [List.length_replicate, true_and]
      refine ⟨by omega, by omega, by omega, by omega, by omega, lpK_mk ((i + 1, X2 4 13, X2 9 15, X2 14 17) : Nat × Xf.Loc × Xf.Loc × Xf.Loc) hl' (show (w * h).toNat - (i + 1) < (w * h).toNat - i by omega) ?_⟩
      change Sub _ _ (I45 w h r g b (X 0 10) (X1 3 11) (i + 1, X2 4 13, X2 9 15, X2 14 17)).1 (I45 w h r g b (X 0 10) (X1 3 11) (i + 1, X2 4 13, X2 9 15, X2 14 17)).2
      refine Sub.of (mkG 22 [(10, 10), (11, 11), (13, 13), (15, 15), (17, 17)]) ?_
      simp -implicitDefEqProofs only [push_cast, reduceCtorEq, Classical.not_not, Nat.reduceAdd, Nat.reduceSub, Nat.reduceMul, Nat.reduceLeDiff, Nat.reduceLT, Nat.reduceEqDiff, Nat.reduceBEq, Nat.reduceBNe, Int.reduceNeg, Int.reduceToNat, Bool.or_false, Bool.false_or, Bool.or_true, Bool.true_or, BEq.rfl, Bool.not_eq_true, Bool.not_eq_false, decide_eq_true_eq, not_true_eq_false, not_false_eq_true, ite_true, ite_false, List.append_nil, and_assoc, Nat.mul_zero, Nat.zero_mul, I45, rep_snoc]
    · obtain rfl : i = (w * h).toNat := by omega
      refine postF.mk' (locs [L1, L2, L3]) [some 13, some 15, some 17] ?_
      simp -implicitDefEqProofs only [push_cast, reduceCtorEq, Classical.not_not, Nat.reduceAdd, Nat.reduceSub, Nat.reduceMul, Nat.reduceLeDiff, Nat.reduceLT, Nat.reduceEqDiff, Nat.reduceBEq, Nat.reduceBNe, Int.reduceNeg, Int.reduceToNat, Bool.or_false, Bool.false_or, Bool.or_true, Bool.true_or, BEq.rfl, Bool.not_eq_true, Bool.not_eq_false, decide_eq_true_eq, not_true_eq_false, not_false_eq_true, ite_true, ite_false, List.append_nil, and_assoc, Nat.mul_zero, Nat.zero_mul, fs45, newI, e, cst, if_true, List.length_replicate]
def ent45 : Entry := spOf fs45 inv13
theorem e45 : EntryOk Try.prog 45 ent45 := entry_of ok45 inv13
@[push_cast] theorem ent45_app (us : List SV) (look : Look) (x : Nat → Xf.Loc) (k : Nat) : ent45 us look x k = spOf fs45 inv13 us look x k := rfl

theorem ok14 : FSOk Try.prog 14 fs13 := by
  refine ⟨⟨_, Try.func14, by kernel_rfl, by kernel_rfl⟩, fun a => ⟨by simp [fs13, push_cast, noMine, argOwn, Chunk.frArg], by simp [fs13, push_cast, outOk, Chunk.ext], fun x => .inl (by simp [fs13, push_cast, frNew, frOut, Chunk.fr])⟩, fun a hp => ?_⟩
  obtain ⟨w, h, r, g, b⟩ := a
  change Tri Try.prog 14 [.int .i64 w, .int .i64 h, .int .i64 r, .int .i64 g, .int .i64 b] [] (postF fs13 ⟨w, h, r, g, b⟩)
  refine tri_evS (hyp (l := [(45, ent45)]) (lp := [(43, sidesF), (44, valF)]) ⟨e45, trivial⟩ ⟨p43, p44, trivial⟩) Try.func14 comp14 (rs := [.cell 10 (some 5), .tmp 11]) (by rfl) Try.ntmps14 22 ?_
  simp -implicitDefEqProofs only [push_cast, reduceCtorEq, Classical.not_not, Nat.reduceAdd, Nat.reduceSub, Nat.reduceMul, Nat.reduceLeDiff, Nat.reduceLT, Nat.reduceEqDiff, Nat.reduceBEq, Nat.reduceBNe, Int.reduceNeg, Int.reduceToNat, Bool.or_false, Bool.false_or, Bool.or_true, Bool.true_or, BEq.rfl, Bool.not_eq_true, Bool.not_eq_false, decide_eq_true_eq, not_true_eq_false, not_false_eq_true, ite_true, ite_false, List.append_nil, and_assoc, Nat.mul_zero, Nat.zero_mul, ir14, fs45]
  intro X
  refine ⟨fun hn => ?_, fun hy X1 => ?_⟩
  · have e : ¬ (⟨w, h, r, g, b⟩ : NewA).Ok := by unfold NewA.Ok; simp only; intro ⟨h1, h2, h3, h4⟩; simp [h1, h2, h3, h4] at hn
    refine postF.mk' (fun _ => default) [none, none, none] ?_
    simp -implicitDefEqProofs only [push_cast, reduceCtorEq, Classical.not_not, Nat.reduceAdd, Nat.reduceSub, Nat.reduceMul, Nat.reduceLeDiff, Nat.reduceLT, Nat.reduceEqDiff, Nat.reduceBEq, Nat.reduceBNe, Int.reduceNeg, Int.reduceToNat, Bool.or_false, Bool.false_or, Bool.or_true, Bool.true_or, BEq.rfl, Bool.not_eq_true, Bool.not_eq_false, decide_eq_true_eq, not_true_eq_false, not_false_eq_true, ite_true, ite_false, List.append_nil, and_assoc, Nat.mul_zero, Nat.zero_mul, fs13, newI, im0, lx, e, List.length_nil, Int.natCast_zero, if_false]
  · simp only [not_or, Classical.not_not] at hy
    obtain ⟨⟨⟨h1, h2⟩, h3⟩, h4⟩ := hy
    have e : (⟨w, h, r, g, b⟩ : NewA).Ok := ⟨h1, h2, h3, h4⟩
    refine ⟨e, postF.mk' (locs [X1 5 11, X1 5 12, X1 5 13]) [some 11, some 12, some 13] ?_⟩
    simp -implicitDefEqProofs only [push_cast, reduceCtorEq, Classical.not_not, Nat.reduceAdd, Nat.reduceSub, Nat.reduceMul, Nat.reduceLeDiff, Nat.reduceLT, Nat.reduceEqDiff, Nat.reduceBEq, Nat.reduceBNe, Int.reduceNeg, Int.reduceToNat, Bool.or_false, Bool.false_or, Bool.or_true, Bool.true_or, BEq.rfl, Bool.not_eq_true, Bool.not_eq_false, decide_eq_true_eq, not_true_eq_false, not_false_eq_true, ite_true, ite_false, List.append_nil, and_assoc, Nat.mul_zero, Nat.zero_mul, fs13, lx, e, if_true]
def ent14 : Entry := spOf fs13 inv13
theorem e14 : EntryOk Try.prog 14 ent14 := entry_of ok14 inv13
@[push_cast] theorem ent14_app (us : List SV) (look : Look) (x : Nat → Xf.Loc) (k : Nat) : ent14 us look x k = spOf fs13 inv13 us look x k := rfl

/-! Valid -/
def I16 (w h : Int) (R G B : List Int) (L1 L2 L3 L0 : Xf.Loc) (i : Nat) : List Ent × Mem :=
  (mkS 65 [(1, .ptr 10 L0 0 0 0), (3, .int .i64 (w * h)), (4, .int .i64 i)],
    mkM 17 [(0, .ro, L1, .ints .i64 R), (1, .ro, L2, .ints .i64 G), (2, .ro, L3, .ints .i64 B), (10, .mine, L0, .cells [.int .i64 w, .int .i64 h, .sl 0 L1 1 0 R.length, .sl 1 L2 1 0 G.length, .sl 2 L3 1 0 B.length])])
def lp16 (w h : Int) (R G B : List Int) (L1 L2 L3 L0 : Xf.Loc) : LoopS where
  A := Nat
  I := I16 w h R G B L1 L2 L3 L0
  R := fun i => i ≤ (w * h).toNat ∧ ∀ j, j < i → ValOk (rd R (j : Nat)) ∧ ValOk (rd G (j : Nat)) ∧ ValOk (rd B (j : Nat))
  mu := fun i => (w * h).toNat - i
theorem allVal_rd {xs : List Int} : AllVal xs ↔ ∀ j : Nat, j < xs.length → ValOk (rd xs j) := by
  unfold AllVal
  constructor
  · intro h j hj; rw [rd_lt xs j hj]; exact h _ (List.getElem_mem hj)
  · intro h x hx
    obtain ⟨j, hj, rfl⟩ := List.getElem_of_mem hx
    have := h j hj
    rwa [rd_lt xs j hj] at this
theorem ok16 : FSOk Try.prog 16 fs15 := by
  refine ⟨⟨_, Try.func16, by kernel_rfl, by kernel_rfl⟩, fun a => ⟨by simp [fs15, imM, push_cast, noMine, argOwn, Chunk.frArg], by simp [fs15, imM, push_cast, outOk, Chunk.ext], fun x => .inl (by simp [fs15, imM, push_cast, frNew, frOut, Chunk.fr])⟩, fun a hp => ?_⟩
  obtain ⟨⟨w, h, R, G, B⟩, L1, L2, L3⟩ := a
  change Tri Try.prog 16 [imV ⟨w, h, R, G, B⟩ L1 L2 L3 0] (imM ⟨w, h, R, G, B⟩ L1 L2 L3) (postF fs15 ⟨⟨w, h, R, G, B⟩, L1, L2, L3⟩)
  refine tri_evS (hyp (l := []) (lp := [(43, sidesF), (44, valF)]) trivial ⟨p43, p44, trivial⟩) Try.func16 comp16 (rs := [.tmp 2]) (by rfl) Try.ntmps16 14 ?_
  simp -implicitDefEqProofs only [push_cast, reduceCtorEq, Classical.not_not, Nat.reduceAdd, Nat.reduceSub, Nat.reduceMul, Nat.reduceLeDiff, Nat.reduceLT, Nat.reduceEqDiff, Nat.reduceBEq, Nat.reduceBNe, Int.reduceNeg, Int.reduceToNat, Bool.or_false, Bool.false_or, Bool.or_true, Bool.true_or, BEq.rfl, Bool.not_eq_true, Bool.not_eq_false, decide_eq_true_eq, not_true_eq_false, not_false_eq_true, ite_true, ite_false, List.append_nil, and_assoc, Nat.mul_zero, Nat.zero_mul, ir16]
  intro X
  have fin : ∀ p : Prop, [Decidable p] → (p ↔ (⟨w, h, R, G, B⟩ : Im).Ok) → decide p = decide (⟨w, h, R, G, B⟩ : Im).Ok := fun p _ e => decide_eq_decide.2 e
  refine ⟨fun hn => ?_, fun hs => ?_⟩
  · have e : ¬ (⟨w, h, R, G, B⟩ : Im).Ok := fun H => hn H.1
    refine postF.mk' (fun _ => default) [some 0, some 1, some 2] ?_
    simp -implicitDefEqProofs only [push_cast, reduceCtorEq, Classical.not_not, Nat.reduceAdd, Nat.reduceSub, Nat.reduceMul, Nat.reduceLeDiff, Nat.reduceLT, Nat.reduceEqDiff, Nat.reduceBEq, Nat.reduceBNe, Int.reduceNeg, Int.reduceToNat, Bool.or_false, Bool.false_or, Bool.or_true, Bool.true_or, BEq.rfl, Bool.not_eq_true, Bool.not_eq_false, decide_eq_true_eq, not_true_eq_false, not_false_eq_true, ite_true, ite_false, List.append_nil, and_assoc, Nat.mul_zero, Nat.zero_mul, fs15, e, decide_false]
  · have hm := hs.bd
    refine ⟨by omega, by omega, fun hn => ?_, fun hy => ?_⟩
    · have e : ¬ (⟨w, h, R, G, B⟩ : Im).Ok := fun H => by
        obtain ⟨_, ⟨a, _⟩, ⟨b, _⟩, ⟨c, _⟩⟩ := H
        simp only at a b c
        omega
      refine postF.mk' (fun _ => default) [some 0, some 1, some 2] ?_
      simp -implicitDefEqProofs only [push_cast, reduceCtorEq, Classical.not_not, Nat.reduceAdd, Nat.reduceSub, Nat.reduceMul, Nat.reduceLeDiff, Nat.reduceLT, Nat.reduceEqDiff, Nat.reduceBEq, Nat.reduceBNe, Int.reduceNeg, Int.reduceToNat, Bool.or_false, Bool.false_or, Bool.or_true, Bool.true_or, BEq.rfl, Bool.not_eq_true, Bool.not_eq_false, decide_eq_true_eq, not_true_eq_false, not_false_eq_true, ite_true, ite_false, List.append_nil, and_assoc, Nat.mul_zero, Nat.zero_mul, fs15, e, decide_false]
    · obtain ⟨a, b, c⟩ : R.length = w * h ∧ G.length = w * h ∧ B.length = w * h := by omega
      refine evS_loop _ _ _ (lp16 w h R G B L1 L2 L3 (X 0 10)) (0 : Nat) ⟨Nat.zero_le _, fun j hj => absurd hj (Nat.not_lt_zero _)⟩ ?_ ?_
      · change Sub _ _ (I16 w h R G B L1 L2 L3 (X 0 10) 0).1 (I16 w h R G B L1 L2 L3 (X 0 10) 0).2
        simp -implicitDefEqProofs only [push_cast, reduceCtorEq, Classical.not_not, Nat.reduceAdd, Nat.reduceSub, Nat.reduceMul, Nat.reduceLeDiff, Nat.reduceLT, Nat.reduceEqDiff, Nat.reduceBEq, Nat.reduceBNe, Int.reduceNeg, Int.reduceToNat, Bool.or_false, Bool.false_or, Bool.or_true, Bool.true_or, BEq.rfl, Bool.not_eq_true, Bool.not_eq_false, decide_eq_true_eq, not_true_eq_false, not_false_eq_true, ite_true, ite_false, List.append_nil, and_assoc, Nat.mul_zero, Nat.zero_mul, I16]
        exact Sub.refl _ _
      · intro (i : Nat) ⟨(hi : i ≤ (w * h).toNat), (hj : ∀ j, j < i → ValOk (rd R (j : Nat)) ∧ ValOk (rd G (j : Nat)) ∧ ValOk (rd B (j : Nat)))⟩
        change evS _ _ _ _ (I16 w h R G B L1 L2 L3 (X 0 10) i).1 (I16 w h R G B L1 L2 L3 (X 0 10) i).2
        simp -implicitDefEqProofs only [push_cast, reduceCtorEq, Classical.not_not, Nat.reduceAdd, Nat.reduceSub, Nat.reduceMul, Nat.reduceLeDiff, Nat.reduceLT, Nat.reduceEqDiff, Nat.reduceBEq, Nat.reduceBNe, Int.reduceNeg, Int.reduceToNat, Bool.or_false, Bool.false_or, Bool.or_true, Bool.true_or, BEq.rfl, Bool.not_eq_true, Bool.not_eq_false, decide_eq_true_eq, not_true_eq_false, not_false_eq_true, ite_true, ite_false, List.append_nil, and_assoc, Nat.mul_zero, Nat.zero_mul, I16, b16_1, r16_2]
        refine ⟨fun hl => ⟨by omega, by omega, by omega, by omega, fun h => ⟨h, h, by omega, by omega⟩, fun h => ⟨h, by omega, by omega⟩, fun h => ⟨h, h, by omega, by omega⟩, fun h => ⟨h, by omega, by omega⟩, fun hb => ?_, fun hg => ⟨by omega, by omega, ?_⟩⟩, fun hl => ?_⟩
        · have e : ¬ (⟨w, h, R, G, B⟩ : Im).Ok := fun H => by
            obtain ⟨_, ⟨_, x⟩, ⟨_, y⟩, ⟨_, z⟩⟩ := H
            rcases hb with (hb | hb) | hb
            · exact hb (allVal_rd.1 x i (show i < R.length by omega))
            · exact hb (allVal_rd.1 y i (show i < G.length by omega))
            · exact hb (allVal_rd.1 z i (show i < B.length by omega))
          refine postF.mk' (fun _ => default) [some 0, some 1, some 2] ?_
          simp -implicitDefEqProofs only [push_cast, reduceCtorEq, Classical.not_not, Nat.reduceAdd, Nat.reduceSub, Nat.reduceMul, Nat.reduceLeDiff, Nat.reduceLT, Nat.reduceEqDiff, Nat.reduceBEq, Nat.reduceBNe, Int.reduceNeg, Int.reduceToNat, Bool.or_false, Bool.false_or, Bool.or_true, Bool.true_or, BEq.rfl, Bool.not_eq_true, Bool.not_eq_false, decide_eq_true_eq, not_true_eq_false, not_false_eq_true, ite_true, ite_false, List.append_nil, and_assoc, Nat.mul_zero, Nat.zero_mul, fs15, e, decide_false]
        · refine lpK_mk (i + 1 : Nat) ⟨by omega, fun j h => ?_⟩ (show (w * h).toNat - (i + 1) < (w * h).toNat - i by omega) ?_
          · by_cases e : j = i
            · subst e; simp only [not_or, Classical.not_not] at hg; exact ⟨hg.1.1, hg.1.2, hg.2⟩
            · exact hj j (by omega)
          · change Sub _ _ (I16 w h R G B L1 L2 L3 (X 0 10) (i + 1)).1 (I16 w h R G B L1 L2 L3 (X 0 10) (i + 1)).2
            simp -implicitDefEqProofs only [push_cast, reduceCtorEq, Classical.not_not, Nat.reduceAdd, Nat.reduceSub, Nat.reduceMul, Nat.reduceLeDiff, Nat.reduceLT, Nat.reduceEqDiff, Nat.reduceBEq, Nat.reduceBNe, Int.reduceNeg, Int.reduceToNat, Bool.or_false, Bool.false_or, Bool.or_true, Bool.true_or, BEq.rfl, Bool.not_eq_true, Bool.not_eq_false, decide_eq_true_eq, not_true_eq_false, not_false_eq_true, ite_true, ite_false, List.append_nil, and_assoc, Nat.mul_zero, Nat.zero_mul, I16]
            exact Sub.refl _ _
        · have e : (⟨w, h, R, G, B⟩ : Im).Ok := ⟨hs, ⟨a, allVal_rd.2 fun j h => (hj j (by simp only at h; omega)).1⟩, ⟨b, allVal_rd.2 fun j h => (hj j (by simp only at h; omega)).2.1⟩, ⟨c, allVal_rd.2 fun j h => (hj j (by simp only at h; omega)).2.2⟩⟩
          refine postF.mk' (fun _ => default) [some 0, some 1, some 2] ?_
          simp -implicitDefEqProofs only [push_cast, reduceCtorEq, Classical.not_not, Nat.reduceAdd, Nat.reduceSub, Nat.reduceMul, Nat.reduceLeDiff, Nat.reduceLT, Nat.reduceEqDiff, Nat.reduceBEq, Nat.reduceBNe, Int.reduceNeg, Int.reduceToNat, Bool.or_false, Bool.false_or, Bool.or_true, Bool.true_or, BEq.rfl, Bool.not_eq_true, Bool.not_eq_false, decide_eq_true_eq, not_true_eq_false, not_false_eq_true, ite_true, ite_false, List.append_nil, and_assoc, Nat.mul_zero, Nat.zero_mul, fs15, e, decide_true]
def ent16 : Entry := spOf fs15 inv15
theorem e16 : EntryOk Try.prog 16 ent16 := entry_of ok16 inv15
@[push_cast] theorem ent16_app (us : List SV) (look : Look) (x : Nat → Xf.Loc) (k : Nat) : ent16 us look x k = spOf fs15 inv15 us look x k := rfl

end Go.Proofs.Ytnmbimhcfioeiaa
