import Derived.Test.YtnmbimhcfioeiaaPShrinks0
set_option linter.unusedVariables false
set_option linter.unusedSimpArgs false
set_option maxRecDepth 1000
namespace Go.Proofs.Ytnmbimhcfioeiaa
open Xf
set_option maxRecDepth 4000 in
set_option maxHeartbeats 2000000 in
theorem ok37 : FSOk Try.prog 37 fs37 := by
  refine ⟨⟨_, Try.func37, by kernel_rfl, by kernel_rfl⟩, fun a => ⟨by simp [fs37, imM, push_cast, noMine, argOwn, Chunk.frArg], by simp [fs37, imM, push_cast, outOk, Chunk.ext], fun x => .inl (by simp [fs37, imM, push_cast, frNew, frOut, Chunk.fr])⟩, fun a hp => ?_⟩
  obtain ⟨⟨⟨W, H, R, G, B⟩, L1, L2, L3⟩, k, ⟨⟨bw, bh, xs⟩, LB⟩⟩ := a
  obtain ⟨hp, hb, hb0⟩ := hp
  simp only at hb hb0
  change (⟨W, H, R, G, B⟩ : Im).small at hp
  change Tri Try.prog 37 [imV ⟨W, H, R, G, B⟩ L1 L2 L3 0, .int .i64 k, bmV ⟨bw, bh, xs⟩ LB 3] [some (.ro, L1, .ints .i64 R), some (.ro, L2, .ints .i64 G), some (.ro, L3, .ints .i64 B), some (.ro, LB, .ints .u8 xs)] (postF fs37 ⟨⟨⟨W, H, R, G, B⟩, L1, L2, L3⟩, k, ⟨⟨bw, bh, xs⟩, LB⟩⟩)
  refine tri_evS (hyp (l := [(15, ent15), (57, ent57), (41, ent41), (64, ent64), (42, ent42)]) (lp := [(62, meanF)]) ⟨e15, e57, e41, e64, e42, trivial⟩ ⟨p62, trivial⟩) Try.func37 comp37 (rs := [.cell 6 (some 5), .tmp 7]) (by rfl) Try.ntmps37 40 ?_
  by_cases hi : (⟨W, H, R, G, B⟩ : Im).Ok
  case neg =>
    have e : ¬ (⟨⟨⟨W, H, R, G, B⟩, L1, L2, L3⟩, k, ⟨⟨bw, bh, xs⟩, LB⟩⟩ : ShA).Ok := fun H => hi H.1
    simp -implicitDefEqProofs only [push_cast, false_implies, reduceCtorEq, Classical.not_not, Nat.reduceAdd, Nat.reduceSub, Nat.reduceMul, Nat.reduceLeDiff, Nat.reduceLT, Nat.reduceEqDiff, Nat.reduceBEq, Nat.reduceBNe, Int.reduceNeg, Int.reduceToNat, Bool.or_false, Bool.false_or, Bool.or_true, Bool.true_or, BEq.rfl, Bool.not_eq_true, Bool.not_eq_false, decide_eq_true_eq, not_true_eq_false, not_false_eq_true, ite_true, ite_false, List.append_nil, and_assoc, Nat.mul_zero, Nat.zero_mul, ir37, fs15, imV, bmV, hp, hi]
    intro X
    refine postF.mk' (fun _ => default) [some 0, some 1, some 2, some 3, none, none, none] ?_
    simp -implicitDefEqProofs only [push_cast, false_implies, reduceCtorEq, Classical.not_not, Nat.reduceAdd, Nat.reduceSub, Nat.reduceMul, Nat.reduceLeDiff, Nat.reduceLT, Nat.reduceEqDiff, Nat.reduceBEq, Nat.reduceBNe, Int.reduceNeg, Int.reduceToNat, Bool.or_false, Bool.false_or, Bool.or_true, Bool.true_or, BEq.rfl, Bool.not_eq_true, Bool.not_eq_false, decide_eq_true_eq, not_true_eq_false, not_false_eq_true, ite_true, ite_false, List.append_nil, and_assoc, Nat.mul_zero, Nat.zero_mul, fs37, imM, shrI, e, hi, if_false, lx, im0]
  by_cases hfit : (⟨⟨⟨W, H, R, G, B⟩, L1, L2, L3⟩, k, ⟨⟨bw, bh, xs⟩, LB⟩⟩ : ShA).fit
  case neg =>
    have e : ¬ (⟨⟨⟨W, H, R, G, B⟩, L1, L2, L3⟩, k, ⟨⟨bw, bh, xs⟩, LB⟩⟩ : ShA).Ok := fun H => hfit H.2
    by_cases c1 : k < 1
    · simp -implicitDefEqProofs only [push_cast, false_implies, reduceCtorEq, Classical.not_not, Nat.reduceAdd, Nat.reduceSub, Nat.reduceMul, Nat.reduceLeDiff, Nat.reduceLT, Nat.reduceEqDiff, Nat.reduceBEq, Nat.reduceBNe, Int.reduceNeg, Int.reduceToNat, Bool.or_false, Bool.false_or, Bool.or_true, Bool.true_or, BEq.rfl, Bool.not_eq_true, Bool.not_eq_false, decide_eq_true_eq, not_true_eq_false, not_false_eq_true, ite_true, ite_false, List.append_nil, and_assoc, Nat.mul_zero, Nat.zero_mul, ir37, fs15, fs57, imV, bmV, hp, hi, hb, c1]
      intro X
      refine postF.mk' (fun _ => default) [some 0, some 1, some 2, some 3, none, none, none] ?_
      simp -implicitDefEqProofs only [push_cast, false_implies, reduceCtorEq, Classical.not_not, Nat.reduceAdd, Nat.reduceSub, Nat.reduceMul, Nat.reduceLeDiff, Nat.reduceLT, Nat.reduceEqDiff, Nat.reduceBEq, Nat.reduceBNe, Int.reduceNeg, Int.reduceToNat, Bool.or_false, Bool.false_or, Bool.or_true, Bool.true_or, BEq.rfl, Bool.not_eq_true, Bool.not_eq_false, decide_eq_true_eq, not_true_eq_false, not_false_eq_true, ite_true, ite_false, List.append_nil, and_assoc, Nat.mul_zero, Nat.zero_mul, fs37, imM, shrI, e, hi, if_false, if_true, lx, im0]
    by_cases c2 : 200 < k
    · simp -implicitDefEqProofs only [push_cast, false_implies, reduceCtorEq, Classical.not_not, Nat.reduceAdd, Nat.reduceSub, Nat.reduceMul, Nat.reduceLeDiff, Nat.reduceLT, Nat.reduceEqDiff, Nat.reduceBEq, Nat.reduceBNe, Int.reduceNeg, Int.reduceToNat, Bool.or_false, Bool.false_or, Bool.or_true, Bool.true_or, BEq.rfl, Bool.not_eq_true, Bool.not_eq_false, decide_eq_true_eq, not_true_eq_false, not_false_eq_true, ite_true, ite_false, List.append_nil, and_assoc, Nat.mul_zero, Nat.zero_mul, ir37, fs15, fs57, imV, bmV, hp, hi, hb, c1, c2]
      intro X
      refine postF.mk' (fun _ => default) [some 0, some 1, some 2, some 3, none, none, none] ?_
      simp -implicitDefEqProofs only [push_cast, false_implies, reduceCtorEq, Classical.not_not, Nat.reduceAdd, Nat.reduceSub, Nat.reduceMul, Nat.reduceLeDiff, Nat.reduceLT, Nat.reduceEqDiff, Nat.reduceBEq, Nat.reduceBNe, Int.reduceNeg, Int.reduceToNat, Bool.or_false, Bool.false_or, Bool.or_true, Bool.true_or, BEq.rfl, Bool.not_eq_true, Bool.not_eq_false, decide_eq_true_eq, not_true_eq_false, not_false_eq_true, ite_true, ite_false, List.append_nil, and_assoc, Nat.mul_zero, Nat.zero_mul, fs37, imM, shrI, e, hi, if_false, if_true, lx, im0]
    by_cases c3 : (⟨bw, bh, xs⟩ : Bm).Ok
    case neg =>
      simp -implicitDefEqProofs only [push_cast, false_implies, reduceCtorEq, Classical.not_not, Nat.reduceAdd, Nat.reduceSub, Nat.reduceMul, Nat.reduceLeDiff, Nat.reduceLT, Nat.reduceEqDiff, Nat.reduceBEq, Nat.reduceBNe, Int.reduceNeg, Int.reduceToNat, Bool.or_false, Bool.false_or, Bool.or_true, Bool.true_or, BEq.rfl, Bool.not_eq_true, Bool.not_eq_false, decide_eq_true_eq, not_true_eq_false, not_false_eq_true, ite_true, ite_false, List.append_nil, and_assoc, Nat.mul_zero, Nat.zero_mul, ir37, fs15, fs57, imV, bmV, hp, hi, hb, c1, c2, c3]
      intro X
      refine postF.mk' (fun _ => default) [some 0, some 1, some 2, some 3, none, none, none] ?_
      simp -implicitDefEqProofs only [push_cast, false_implies, reduceCtorEq, Classical.not_not, Nat.reduceAdd, Nat.reduceSub, Nat.reduceMul, Nat.reduceLeDiff, Nat.reduceLT, Nat.reduceEqDiff, Nat.reduceBEq, Nat.reduceBNe, Int.reduceNeg, Int.reduceToNat, Bool.or_false, Bool.false_or, Bool.or_true, Bool.true_or, BEq.rfl, Bool.not_eq_true, Bool.not_eq_false, decide_eq_true_eq, not_true_eq_false, not_false_eq_true, ite_true, ite_false, List.append_nil, and_assoc, Nat.mul_zero, Nat.zero_mul, fs37, imM, shrI, e, hi, if_false, if_true, lx, im0]
    by_cases c4 : bw = 0 ∧ bh = 0
    · exact absurd ⟨show 1 ≤ k by omega, show k ≤ 200 by omega, c3, .inl c4⟩ hfit
    by_cases c5 : bw = W
    case neg =>
      simp -implicitDefEqProofs only [push_cast, false_implies, reduceCtorEq, Classical.not_not, Nat.reduceAdd, Nat.reduceSub, Nat.reduceMul, Nat.reduceLeDiff, Nat.reduceLT, Nat.reduceEqDiff, Nat.reduceBEq, Nat.reduceBNe, Int.reduceNeg, Int.reduceToNat, Bool.or_false, Bool.false_or, Bool.or_true, Bool.true_or, BEq.rfl, Bool.not_eq_true, Bool.not_eq_false, decide_eq_true_eq, not_true_eq_false, not_false_eq_true, ite_true, ite_false, List.append_nil, and_assoc, Nat.mul_zero, Nat.zero_mul, ir37, fs15, fs57, imV, bmV, hp, hi, hb, c1, c2, c3, c4, c5]
      intro X
      refine postF.mk' (fun _ => default) [some 0, some 1, some 2, some 3, none, none, none] ?_
      simp -implicitDefEqProofs only [push_cast, false_implies, reduceCtorEq, Classical.not_not, Nat.reduceAdd, Nat.reduceSub, Nat.reduceMul, Nat.reduceLeDiff, Nat.reduceLT, Nat.reduceEqDiff, Nat.reduceBEq, Nat.reduceBNe, Int.reduceNeg, Int.reduceToNat, Bool.or_false, Bool.false_or, Bool.or_true, Bool.true_or, BEq.rfl, Bool.not_eq_true, Bool.not_eq_false, decide_eq_true_eq, not_true_eq_false, not_false_eq_true, ite_true, ite_false, List.append_nil, and_assoc, Nat.mul_zero, Nat.zero_mul, fs37, imM, shrI, e, hi, if_false, if_true, lx, im0]
    by_cases c6 : bh = H
    · exact absurd ⟨show 1 ≤ k by omega, show k ≤ 200 by omega, c3, .inr ⟨c5, c6⟩⟩ hfit
    subst c5
    simp -implicitDefEqProofs only [push_cast, false_implies, reduceCtorEq, Classical.not_not, Nat.reduceAdd, Nat.reduceSub, Nat.reduceMul, Nat.reduceLeDiff, Nat.reduceLT, Nat.reduceEqDiff, Nat.reduceBEq, Nat.reduceBNe, Int.reduceNeg, Int.reduceToNat, Bool.or_false, Bool.false_or, Bool.or_true, Bool.true_or, BEq.rfl, Bool.not_eq_true, Bool.not_eq_false, decide_eq_true_eq, not_true_eq_false, not_false_eq_true, ite_true, ite_false, List.append_nil, and_assoc, Nat.mul_zero, Nat.zero_mul, ir37, fs15, fs57, imV, bmV, hp, hi, hb, c1, c2, c3, c4, c6]
    intro X
    refine postF.mk' (fun _ => default) [some 0, some 1, some 2, some 3, none, none, none] ?_
    simp -implicitDefEqProofs only [push_cast, false_implies, reduceCtorEq, Classical.not_not, Nat.reduceAdd, Nat.reduceSub, Nat.reduceMul, Nat.reduceLeDiff, Nat.reduceLT, Nat.reduceEqDiff, Nat.reduceBEq, Nat.reduceBNe, Int.reduceNeg, Int.reduceToNat, Bool.or_false, Bool.false_or, Bool.or_true, Bool.true_or, BEq.rfl, Bool.not_eq_true, Bool.not_eq_false, decide_eq_true_eq, not_true_eq_false, not_false_eq_true, ite_true, ite_false, List.append_nil, and_assoc, Nat.mul_zero, Nat.zero_mul, fs37, imM, shrI, e, hi, if_false, if_true, lx, im0]
  have hok : (⟨⟨⟨W, H, R, G, B⟩, L1, L2, L3⟩, k, ⟨⟨bw, bh, xs⟩, LB⟩⟩ : ShA).Ok := ⟨hi, hfit⟩
  obtain ⟨f1, f2, f3, f4⟩ : 1 ≤ k ∧ k ≤ 200 ∧ (⟨bw, bh, xs⟩ : Bm).Ok ∧ ((bw = 0 ∧ bh = 0) ∨ (bw = W ∧ bh = H)) := hfit
  obtain ⟨a1, a2, a3, a4, a5⟩ : SidesOk W H := hi.1
  obtain ⟨W, rfl⟩ : ∃ n : Nat, W = n := ⟨W.toNat, by omega⟩
  obtain ⟨H, rfl⟩ : ∃ n : Nat, H = n := ⟨H.toNat, by omega⟩
  obtain ⟨K, rfl⟩ : ∃ n : Nat, k = n := ⟨k.toNat, by omega⟩
  have g1 : ¬ (K : Int) < 1 := by omega
  have g2 : ¬ (200 : Int) < K := by omega
  have g4 : ¬ (bw = 0 ∧ bh = 0) → W = bw ∧ H = bh := fun h => by omega
  obtain ⟨o1, o2, o3⟩ := ceil_bd a1 f1
  obtain ⟨o4, o5, o6⟩ := ceil_bd a2 f1
  have hS : SidesOk (((W : Int) + K - 1) / K) (((H : Int) + K - 1) / K) := ⟨o1, o4, by omega, by omega, Int.le_trans (Int.mul_le_mul o2 o5 o4 a1) a5⟩
  obtain ⟨O, hO⟩ : ∃ n : Nat, ((W : Int) + K - 1) / K = n := ⟨(((W : Int) + K - 1) / K).toNat, by omega⟩
  obtain ⟨P, hP⟩ : ∃ n : Nat, ((H : Int) + K - 1) / K = n := ⟨(((H : Int) + K - 1) / K).toNat, by omega⟩
  have cO : ceilN W K = O := by unfold ceilN; rw [hO]; rfl
  have cP : ceilN H K = P := by unfold ceilN; rw [hP]; rfl
  rw [hO, hP] at hS
  rw [hO] at o1 o2 o3
  rw [hP] at o4 o5 o6
  have hN8 := hS.bd
  obtain ⟨v1, v2, v3⟩ := hi.val
  simp only at v1 v2 v3
  have hl : (R.length : Int) = W * H := hi.2.1.1
  have hlB : R.length = H * W := by rw [← Int.ofNat_inj]; rw [hl]; rw [Int.natCast_mul, Int.mul_comm]
  by_cases c4 : bw = 0 ∧ bh = 0
  · obtain ⟨rfl, rfl⟩ := c4
    have hkp : ∀ m : Nat, m < R.length → rd xs (m : Nat) = 0 := fun m _ => by
      have : (xs.length : Int) = 0 * 0 := f3.2.1
      have : xs = [] := List.eq_nil_of_length_eq_zero (by omega)
      rw [this]; rfl
    simp -implicitDefEqProofs only [push_cast, false_implies, reduceCtorEq, Classical.not_not, Nat.reduceAdd, Nat.reduceSub, Nat.reduceMul, Nat.reduceLeDiff, Nat.reduceLT, Nat.reduceEqDiff, Nat.reduceBEq, Nat.reduceBNe, Int.reduceNeg, Int.reduceToNat, Bool.or_false, Bool.false_or, Bool.or_true, Bool.true_or, BEq.rfl, Bool.not_eq_true, Bool.not_eq_false, decide_eq_true_eq, not_true_eq_false, not_false_eq_true, ite_true, ite_false, List.append_nil, and_assoc, Nat.mul_zero, Nat.zero_mul, ir37, fs15, fs57, imV, bmV, hp, hi, hb, fs41, g1, g2, f3, hS, hO, hP]
    intro X X1
    repeat (refine And.intro (by first | omega | trivial | (intros; omega)) ?_)
    intro X2
    repeat (refine And.intro (by first | omega | trivial | (intros; omega)) ?_)
    have hz : (smL W K O (O * P) ⟨0, 0, xs⟩ ⟨W, H, R, G, B⟩ 0).map Sm.rc = List.replicate (O * P) zS := smL_zero
    have hOP : ((O : Int) * P).toNat = O * P := by rw [← Int.natCast_mul]; rfl
    refine evS_loopU (A := Nat) kp37_1 kl37_1 (fun m => [(78, .int .i64 m)]) (fun m => [(26, .mine, X2 3 26, .recs 4 false zS ((smL W K O (O * P) ⟨0, 0, xs⟩ ⟨W, H, R, G, B⟩ m).map Sm.rc))]) (fun m => m ≤ R.length) (fun m => R.length - m) 0 (Nat.zero_le _) (Sub.pt ?_) ?_
    · simp -implicitDefEqProofs only [push_cast, false_implies, reduceCtorEq, Classical.not_not, Nat.reduceAdd, Nat.reduceSub, Nat.reduceMul, Nat.reduceLeDiff, Nat.reduceLT, Nat.reduceEqDiff, Nat.reduceBEq, Nat.reduceBNe, Int.reduceNeg, Int.reduceToNat, Bool.or_false, Bool.false_or, Bool.or_true, Bool.true_or, BEq.rfl, Bool.not_eq_true, Bool.not_eq_false, decide_eq_true_eq, not_true_eq_false, not_false_eq_true, ite_true, ite_false, List.append_nil, and_assoc, Nat.mul_zero, Nat.zero_mul, hz, zS, hOP]
    intro m (hm : m ≤ R.length) Kk hK
    by_cases hm' : m < R.length
    · have hmI : (m : Int) < W * H := by omega
      obtain ⟨d1, d2, d3, d4, d5⟩ := dm_bd (k := m) (by omega) hmI a1
      obtain ⟨q1, q2⟩ := o6 _ d2 d3
      obtain ⟨q3, q4⟩ := o3 _ d4 d5
      have hix := idx_bd (a := (m : Int) / W / K) (b := (m : Int) % W / K) (W := O) (H := P) q1 q2 q3 q4
      have hmb := mul_bd q1 (show (m : Int) / W / K ≤ 200 by omega) (show (0 : Int) ≤ O by omega) (show (O : Int) ≤ 200 by omega)
      obtain ⟨c, hc⟩ : ∃ c, cellN W K O m = c := ⟨_, rfl⟩
      have hcI : (m : Int) / W / K * O + (m : Int) % W / K = c := by rw [← hc]; unfold cellN; push_cast
      have hcN : c < O * P := by rw [hcI] at hix; exact Int.ofNat_lt.1 (by push_cast; omega)
      have hbs := smF_bd (W := W) (K := K) (O := O) (b := ⟨0, 0, xs⟩) hi hm c
      have hrs := rdSm_smL (W := W) (K := K) (O := O) (b := ⟨0, 0, xs⟩) (i := ⟨W, H, R, G, B⟩) (m := m) hcN
      have hsl := smL_length W K O (O * P) ⟨0, 0, xs⟩ ⟨W, H, R, G, B⟩ m
      have hgs := getSm_map (smL W K O (O * P) ⟨0, 0, xs⟩ ⟨W, H, R, G, B⟩ m)
      have hadd := fun h => smL_add (W := W) (K := K) (O := O) (N := O * P) (b := ⟨0, 0, xs⟩) (i := ⟨W, H, R, G, B⟩) (m := m) (by rw [hc]; exact hcN) h
      rw [hc] at hadd
      have hskip := fun h => smL_skip (W := W) (K := K) (O := O) (N := O * P) (b := ⟨0, 0, xs⟩) (i := ⟨W, H, R, G, B⟩) (m := m) h
      obtain ⟨S0, hS0⟩ : ∃ S, smL W K O (O * P) ⟨0, 0, xs⟩ ⟨W, H, R, G, B⟩ m = S := ⟨_, rfl⟩
      obtain ⟨S1, hS1⟩ : ∃ S, smL W K O (O * P) ⟨0, 0, xs⟩ ⟨W, H, R, G, B⟩ (m + 1) = S := ⟨_, rfl⟩
      rw [hS0] at hrs hsl hgs hadd hskip
      rw [hS1] at hadd hskip
      obtain ⟨T, hT⟩ : ∃ T, smF W K O ⟨0, 0, xs⟩ ⟨W, H, R, G, B⟩ m c = T := ⟨_, rfl⟩
      rw [hT] at hrs hadd hbs
      simp only at hbs
      simp only [hS0]
      have hslm : (S0.map Sm.rc).length = O * P := by rw [List.length_map, hsl]
      have hcz : (c : Int) < O * P := by rw [← hcI]; exact hix.2
      have hz0 := hkp m hm'
      replace hadd := hadd hz0
      simp -implicitDefEqProofs only [push_cast, false_implies, reduceCtorEq, Classical.not_not, Nat.reduceAdd, Nat.reduceSub, Nat.reduceMul, Nat.reduceLeDiff, Nat.reduceLT, Nat.reduceEqDiff, Nat.reduceBEq, Nat.reduceBNe, Int.reduceNeg, Int.reduceToNat, Bool.or_false, Bool.false_or, Bool.or_true, Bool.true_or, BEq.rfl, Bool.not_eq_true, Bool.not_eq_false, decide_eq_true_eq, not_true_eq_false, not_false_eq_true, ite_true, ite_false, List.append_nil, and_assoc, Nat.mul_zero, Nat.zero_mul, b37_1, fs64, imV, imM, hcI, hgs, hrs, hslm, hsl, hi, Int.toNat_natCast]
      refine ⟨fun _ => ?_, fun h => by omega⟩
      repeat (refine And.intro (by first | omega | trivial | (intros; omega)) ?_)
      refine hK (m + 1) (show m + 1 ≤ R.length by omega) (show R.length - (m + 1) < R.length - m by omega) _ _ (Sub.pt ?_)
      simp -implicitDefEqProofs only [push_cast, false_implies, reduceCtorEq, Classical.not_not, Nat.reduceAdd, Nat.reduceSub, Nat.reduceMul, Nat.reduceLeDiff, Nat.reduceLT, Nat.reduceEqDiff, Nat.reduceBEq, Nat.reduceBNe, Int.reduceNeg, Int.reduceToNat, Bool.or_false, Bool.false_or, Bool.or_true, Bool.true_or, BEq.rfl, Bool.not_eq_true, Bool.not_eq_false, decide_eq_true_eq, not_true_eq_false, not_false_eq_true, ite_true, ite_false, List.append_nil, and_assoc, Nat.mul_zero, Nat.zero_mul, hS1, hadd]
    · obtain rfl : m = R.length := by omega
      clear hK
      obtain ⟨C, hC⟩ : ∃ C : ShA, (⟨⟨⟨W, H, R, G, B⟩, L1, L2, L3⟩, K, ⟨⟨0, 0, xs⟩, LB⟩⟩ : ShA) = C := ⟨_, rfl⟩
      have e1 : ∀ f a, shF C f a = shO (smF W K O ⟨0, 0, xs⟩ ⟨W, H, R, G, B⟩ R.length a).n (f (smF W K O ⟨0, 0, xs⟩ ⟨W, H, R, G, B⟩ R.length a)) := fun f a => by rw [← hC]; unfold shF; simp only [Int.toNat_natCast, cO]
      have hsl := smL_length W K O (O * P) ⟨0, 0, xs⟩ ⟨W, H, R, G, B⟩ R.length
      have hbs := smF_bd (W := W) (K := K) (O := O) (b := ⟨0, 0, xs⟩) hi (Nat.le_refl _)
      have hrs := fun {a} => rdSm_smL (W := W) (K := K) (O := O) (b := ⟨0, 0, xs⟩) (i := ⟨W, H, R, G, B⟩) (m := R.length) (N := O * P) (a := a)
      obtain ⟨S, hS'⟩ : ∃ S, smL W K O (O * P) ⟨0, 0, xs⟩ ⟨W, H, R, G, B⟩ R.length = S := ⟨_, rfl⟩
      rw [hS'] at hsl
      simp only [hS'] at hrs ⊢
      have hslm : (S.map Sm.rc).length = O * P := by rw [List.length_map, hsl]
      simp -implicitDefEqProofs only [push_cast, false_implies, reduceCtorEq, Classical.not_not, Nat.reduceAdd, Nat.reduceSub, Nat.reduceMul, Nat.reduceLeDiff, Nat.reduceLT, Nat.reduceEqDiff, Nat.reduceBEq, Nat.reduceBNe, Int.reduceNeg, Int.reduceToNat, Bool.or_false, Bool.false_or, Bool.or_true, Bool.true_or, BEq.rfl, Bool.not_eq_true, Bool.not_eq_false, decide_eq_true_eq, not_true_eq_false, not_false_eq_true, ite_true, ite_false, List.append_nil, and_assoc, Nat.mul_zero, Nat.zero_mul, b37_1, r37_4, Int.lt_irrefl, true_implies, true_and]
      refine evS_loopU (A := Nat) kp37_2 kl37_2 (fun a => [(114, .int .i64 a)]) (fun a => [(21, .mine, X1 14 21, .ints .i64 (prt (O * P) a (shF C Sm.r))), (22, .mine, X1 14 22, .ints .i64 (prt (O * P) a (shF C Sm.g))), (23, .mine, X1 14 23, .ints .i64 (prt (O * P) a (shF C Sm.b)))]) (fun a => a ≤ O * P) (fun a => O * P - a) 0 (Nat.zero_le _) (Sub.pt ?_) ?_
      · simp -implicitDefEqProofs only [push_cast, false_implies, reduceCtorEq, Classical.not_not, Nat.reduceAdd, Nat.reduceSub, Nat.reduceMul, Nat.reduceLeDiff, Nat.reduceLT, Nat.reduceEqDiff, Nat.reduceBEq, Nat.reduceBNe, Int.reduceNeg, Int.reduceToNat, Bool.or_false, Bool.false_or, Bool.or_true, Bool.true_or, BEq.rfl, Bool.not_eq_true, Bool.not_eq_false, decide_eq_true_eq, not_true_eq_false, not_false_eq_true, ite_true, ite_false, List.append_nil, and_assoc, Nat.mul_zero, Nat.zero_mul, zs, prt_zero, hOP]
      intro a (ha : a ≤ O * P) Kk hK
      have lR := prt_length ha (shF C Sm.r)
      have lG := prt_length ha (shF C Sm.g)
      have lB := prt_length ha (shF C Sm.b)
      have hNI : ((O * P : Nat) : Int) = (O : Int) * P := Int.natCast_mul ..
      by_cases ha' : a < O * P
      · have haI : (a : Int) < (O : Int) * P := by omega
        have r1 := fun z => recAt_Sm (l := S) (i := a) (by omega) z
        simp only [hrs ha'] at r1
        have hbs := hbs a
        have hr : shF C Sm.r a = _ := e1 Sm.r a
        have hg : shF C Sm.g a = _ := e1 Sm.g a
        have hbb : shF C Sm.b a = _ := e1 Sm.b a
        have qR := prt_set ha' (shF C Sm.r)
        have qG := prt_set ha' (shF C Sm.g)
        have qB := prt_set ha' (shF C Sm.b)
        obtain ⟨T, hT⟩ : ∃ T, smF W K O ⟨0, 0, xs⟩ ⟨W, H, R, G, B⟩ R.length a = T := ⟨_, rfl⟩
        rw [hT] at hr hg hbb hbs
        simp only [hT] at r1
        obtain ⟨sr, sg, sb, sn⟩ := T
        simp only at hbs hr hg hbb
        unfold shO at hr hg hbb
        obtain ⟨⟨k1, k2⟩, ⟨k3, k4⟩, ⟨k5, k6⟩, k7, k8⟩ := hbs
        by_cases hn : sn = 0
        · rw [if_pos hn] at hr hg hbb
          rw [hr] at qR
          rw [hg] at qG
          rw [hbb] at qB
          simp -implicitDefEqProofs only [push_cast, false_implies, reduceCtorEq, Classical.not_not, Nat.reduceAdd, Nat.reduceSub, Nat.reduceMul, Nat.reduceLeDiff, Nat.reduceLT, Nat.reduceEqDiff, Nat.reduceBEq, Nat.reduceBNe, Int.reduceNeg, Int.reduceToNat, Bool.or_false, Bool.false_or, Bool.or_true, Bool.true_or, BEq.rfl, Bool.not_eq_true, Bool.not_eq_false, decide_eq_true_eq, not_true_eq_false, not_false_eq_true, ite_true, ite_false, List.append_nil, and_assoc, Nat.mul_zero, Nat.zero_mul, b37_2, r1, Sm.rc, hn, hslm, fs42, lR, lG, lB, hNI, Int.toNat_natCast, qR, qG, qB]
          refine ⟨fun _ X3 => ?_, fun h => by omega⟩
          repeat (refine And.intro (by first | omega | trivial | (intros; omega)) ?_)
          refine hK (a + 1) (show a + 1 ≤ O * P by omega) (show O * P - (a + 1) < O * P - a by omega) _ _ (Sub.pt ?_)
          simp -implicitDefEqProofs only [push_cast, false_implies, reduceCtorEq, Classical.not_not, Nat.reduceAdd, Nat.reduceSub, Nat.reduceMul, Nat.reduceLeDiff, Nat.reduceLT, Nat.reduceEqDiff, Nat.reduceBEq, Nat.reduceBNe, Int.reduceNeg, Int.reduceToNat, Bool.or_false, Bool.false_or, Bool.or_true, Bool.true_or, BEq.rfl, Bool.not_eq_true, Bool.not_eq_false, decide_eq_true_eq, not_true_eq_false, not_false_eq_true, ite_true, ite_false, List.append_nil, and_assoc, Nat.mul_zero, Nat.zero_mul]
        · rw [if_neg hn] at hr hg hbb
          rw [hr] at qR
          rw [hg] at qG
          rw [hbb] at qB
          simp -implicitDefEqProofs only [push_cast, false_implies, reduceCtorEq, Classical.not_not, Nat.reduceAdd, Nat.reduceSub, Nat.reduceMul, Nat.reduceLeDiff, Nat.reduceLT, Nat.reduceEqDiff, Nat.reduceBEq, Nat.reduceBNe, Int.reduceNeg, Int.reduceToNat, Bool.or_false, Bool.false_or, Bool.or_true, Bool.true_or, BEq.rfl, Bool.not_eq_true, Bool.not_eq_false, decide_eq_true_eq, not_true_eq_false, not_false_eq_true, ite_true, ite_false, List.append_nil, and_assoc, Nat.mul_zero, Nat.zero_mul, b37_2, r1, Sm.rc, hn, hslm, fs42, lR, lG, lB, hNI, Int.toNat_natCast, qR, qG, qB]
          refine ⟨fun _ X3 => ?_, fun h => by omega⟩
          repeat (refine And.intro (by first | omega | trivial | (intros; omega)) ?_)
          refine hK (a + 1) (show a + 1 ≤ O * P by omega) (show O * P - (a + 1) < O * P - a by omega) _ _ (Sub.pt ?_)
          simp -implicitDefEqProofs only [push_cast, false_implies, reduceCtorEq, Classical.not_not, Nat.reduceAdd, Nat.reduceSub, Nat.reduceMul, Nat.reduceLeDiff, Nat.reduceLT, Nat.reduceEqDiff, Nat.reduceBEq, Nat.reduceBNe, Int.reduceNeg, Int.reduceToNat, Bool.or_false, Bool.false_or, Bool.or_true, Bool.true_or, BEq.rfl, Bool.not_eq_true, Bool.not_eq_false, decide_eq_true_eq, not_true_eq_false, not_false_eq_true, ite_true, ite_false, List.append_nil, and_assoc, Nat.mul_zero, Nat.zero_mul]
      · obtain rfl : a = O * P := by omega
        clear hK
        have hNn : ¬ ((O * P : Nat) : Int) < (O : Int) * P := by omega
        simp -implicitDefEqProofs only [push_cast, false_implies, reduceCtorEq, Classical.not_not, Nat.reduceAdd, Nat.reduceSub, Nat.reduceMul, Nat.reduceLeDiff, Nat.reduceLT, Nat.reduceEqDiff, Nat.reduceBEq, Nat.reduceBNe, Int.reduceNeg, Int.reduceToNat, Bool.or_false, Bool.false_or, Bool.or_true, Bool.true_or, BEq.rfl, Bool.not_eq_true, Bool.not_eq_false, decide_eq_true_eq, not_true_eq_false, not_false_eq_true, ite_true, ite_false, List.append_nil, and_assoc, Nat.mul_zero, Nat.zero_mul, b37_2, r37_3, hNn, hNI, Int.lt_irrefl, true_implies, true_and, lR, lG, lB]
        refine postF.mk' (locs [X1 14 21, X1 14 22, X1 14 23]) [some 0, some 1, some 2, some 3, some 21, some 22, some 23] ?_
        subst hC
        simp -implicitDefEqProofs only [push_cast, false_implies, reduceCtorEq, Classical.not_not, Nat.reduceAdd, Nat.reduceSub, Nat.reduceMul, Nat.reduceLeDiff, Nat.reduceLT, Nat.reduceEqDiff, Nat.reduceBEq, Nat.reduceBNe, Int.reduceNeg, Int.reduceToNat, Bool.or_false, Bool.false_or, Bool.or_true, Bool.true_or, BEq.rfl, Bool.not_eq_true, Bool.not_eq_false, decide_eq_true_eq, not_true_eq_false, not_false_eq_true, ite_true, ite_false, List.append_nil, and_assoc, Nat.mul_zero, Nat.zero_mul, fs37, imM, shrI, hok, hi, if_true, lx, prt_all, shL, tabl_length, cO, cP, hNI]
  · obtain ⟨rfl, rfl⟩ := g4 c4
    have hkp : ∀ m : Nat, m < R.length → m < xs.length := fun m hm => by
      have h2 : (xs.length : Int) = W * H := f3.2.1
      omega
    simp -implicitDefEqProofs only [push_cast, false_implies, reduceCtorEq, Classical.not_not, Nat.reduceAdd, Nat.reduceSub, Nat.reduceMul, Nat.reduceLeDiff, Nat.reduceLT, Nat.reduceEqDiff, Nat.reduceBEq, Nat.reduceBNe, Int.reduceNeg, Int.reduceToNat, Bool.or_false, Bool.false_or, Bool.or_true, Bool.true_or, BEq.rfl, Bool.not_eq_true, Bool.not_eq_false, decide_eq_true_eq, not_true_eq_false, not_false_eq_true, ite_true, ite_false, List.append_nil, and_assoc, Nat.mul_zero, Nat.zero_mul, ir37, fs15, fs57, imV, bmV, hp, hi, hb, fs41, g1, g2, f3, hS, hO, hP, c4]
    intro X X1
    repeat (refine And.intro (by first | omega | trivial | (intros; omega)) ?_)
    intro X2
    repeat (refine And.intro (by first | omega | trivial | (intros; omega)) ?_)
    have hz : (smL W K O (O * P) ⟨W, H, xs⟩ ⟨W, H, R, G, B⟩ 0).map Sm.rc = List.replicate (O * P) zS := smL_zero
    have hOP : ((O : Int) * P).toNat = O * P := by rw [← Int.natCast_mul]; rfl
    refine evS_loopU (A := Nat) kp37_1 kl37_1 (fun m => [(78, .int .i64 m)]) (fun m => [(26, .mine, X2 3 26, .recs 4 false zS ((smL W K O (O * P) ⟨W, H, xs⟩ ⟨W, H, R, G, B⟩ m).map Sm.rc))]) (fun m => m ≤ R.length) (fun m => R.length - m) 0 (Nat.zero_le _) (Sub.pt ?_) ?_
    · simp -implicitDefEqProofs only [push_cast, false_implies, reduceCtorEq, Classical.not_not, Nat.reduceAdd, Nat.reduceSub, Nat.reduceMul, Nat.reduceLeDiff, Nat.reduceLT, Nat.reduceEqDiff, Nat.reduceBEq, Nat.reduceBNe, Int.reduceNeg, Int.reduceToNat, Bool.or_false, Bool.false_or, Bool.or_true, Bool.true_or, BEq.rfl, Bool.not_eq_true, Bool.not_eq_false, decide_eq_true_eq, not_true_eq_false, not_false_eq_true, ite_true, ite_false, List.append_nil, and_assoc, Nat.mul_zero, Nat.zero_mul, hz, zS, hOP]
    intro m (hm : m ≤ R.length) Kk hK
    by_cases hm' : m < R.length
    · have hmI : (m : Int) < W * H := by omega
      obtain ⟨d1, d2, d3, d4, d5⟩ := dm_bd (k := m) (by omega) hmI a1
      obtain ⟨q1, q2⟩ := o6 _ d2 d3
      obtain ⟨q3, q4⟩ := o3 _ d4 d5
      have hix := idx_bd (a := (m : Int) / W / K) (b := (m : Int) % W / K) (W := O) (H := P) q1 q2 q3 q4
      have hmb := mul_bd q1 (show (m : Int) / W / K ≤ 200 by omega) (show (0 : Int) ≤ O by omega) (show (O : Int) ≤ 200 by omega)
      obtain ⟨c, hc⟩ : ∃ c, cellN W K O m = c := ⟨_, rfl⟩
      have hcI : (m : Int) / W / K * O + (m : Int) % W / K = c := by rw [← hc]; unfold cellN; push_cast
      have hcN : c < O * P := by rw [hcI] at hix; exact Int.ofNat_lt.1 (by push_cast; omega)
      have hbs := smF_bd (W := W) (K := K) (O := O) (b := ⟨W, H, xs⟩) hi hm c
      have hrs := rdSm_smL (W := W) (K := K) (O := O) (b := ⟨W, H, xs⟩) (i := ⟨W, H, R, G, B⟩) (m := m) hcN
      have hsl := smL_length W K O (O * P) ⟨W, H, xs⟩ ⟨W, H, R, G, B⟩ m
      have hgs := getSm_map (smL W K O (O * P) ⟨W, H, xs⟩ ⟨W, H, R, G, B⟩ m)
      have hadd := fun h => smL_add (W := W) (K := K) (O := O) (N := O * P) (b := ⟨W, H, xs⟩) (i := ⟨W, H, R, G, B⟩) (m := m) (by rw [hc]; exact hcN) h
      rw [hc] at hadd
      have hskip := fun h => smL_skip (W := W) (K := K) (O := O) (N := O * P) (b := ⟨W, H, xs⟩) (i := ⟨W, H, R, G, B⟩) (m := m) h
      obtain ⟨S0, hS0⟩ : ∃ S, smL W K O (O * P) ⟨W, H, xs⟩ ⟨W, H, R, G, B⟩ m = S := ⟨_, rfl⟩
      obtain ⟨S1, hS1⟩ : ∃ S, smL W K O (O * P) ⟨W, H, xs⟩ ⟨W, H, R, G, B⟩ (m + 1) = S := ⟨_, rfl⟩
      rw [hS0] at hrs hsl hgs hadd hskip
      rw [hS1] at hadd hskip
      obtain ⟨T, hT⟩ : ∃ T, smF W K O ⟨W, H, xs⟩ ⟨W, H, R, G, B⟩ m c = T := ⟨_, rfl⟩
      rw [hT] at hrs hadd hbs
      simp only at hbs
      simp only [hS0]
      have hslm : (S0.map Sm.rc).length = O * P := by rw [List.length_map, hsl]
      have hcz : (c : Int) < O * P := by rw [← hcI]; exact hix.2
      have hmx := hkp m hm'
      have hmx' : (m : Int) < xs.length := by omega
      by_cases hz0 : rd xs (m : Nat) = 0
      · replace hadd := hadd hz0
        simp -implicitDefEqProofs only [push_cast, false_implies, reduceCtorEq, Classical.not_not, Nat.reduceAdd, Nat.reduceSub, Nat.reduceMul, Nat.reduceLeDiff, Nat.reduceLT, Nat.reduceEqDiff, Nat.reduceBEq, Nat.reduceBNe, Int.reduceNeg, Int.reduceToNat, Bool.or_false, Bool.false_or, Bool.or_true, Bool.true_or, BEq.rfl, Bool.not_eq_true, Bool.not_eq_false, decide_eq_true_eq, not_true_eq_false, not_false_eq_true, ite_true, ite_false, List.append_nil, and_assoc, Nat.mul_zero, Nat.zero_mul, b37_1, hz0, fs64, imV, imM, hcI, hgs, hrs, hslm, hsl, hi, Int.toNat_natCast]
        refine ⟨fun _ => ?_, fun h => by omega⟩
        repeat (refine And.intro (by first | omega | trivial | (intros; omega)) ?_)
        refine hK (m + 1) (show m + 1 ≤ R.length by omega) (show R.length - (m + 1) < R.length - m by omega) _ _ (Sub.pt ?_)
        simp -implicitDefEqProofs only [push_cast, false_implies, reduceCtorEq, Classical.not_not, Nat.reduceAdd, Nat.reduceSub, Nat.reduceMul, Nat.reduceLeDiff, Nat.reduceLT, Nat.reduceEqDiff, Nat.reduceBEq, Nat.reduceBNe, Int.reduceNeg, Int.reduceToNat, Bool.or_false, Bool.false_or, Bool.or_true, Bool.true_or, BEq.rfl, Bool.not_eq_true, Bool.not_eq_false, decide_eq_true_eq, not_true_eq_false, not_false_eq_true, ite_true, ite_false, List.append_nil, and_assoc, Nat.mul_zero, Nat.zero_mul, hS1, hadd]
      · replace hskip := hskip hz0
        simp -implicitDefEqProofs only [push_cast, false_implies, reduceCtorEq, Classical.not_not, Nat.reduceAdd, Nat.reduceSub, Nat.reduceMul, Nat.reduceLeDiff, Nat.reduceLT, Nat.reduceEqDiff, Nat.reduceBEq, Nat.reduceBNe, Int.reduceNeg, Int.reduceToNat, Bool.or_false, Bool.false_or, Bool.or_true, Bool.true_or, BEq.rfl, Bool.not_eq_true, Bool.not_eq_false, decide_eq_true_eq, not_true_eq_false, not_false_eq_true, ite_true, ite_false, List.append_nil, and_assoc, Nat.mul_zero, Nat.zero_mul, b37_1, hz0, fs64, imV, imM, hcI, hgs, hrs, hslm, hsl, hi, Int.toNat_natCast]
        refine ⟨fun _ => ?_, fun h => by omega⟩
        repeat (refine And.intro (by first | omega | trivial | (intros; omega)) ?_)
        refine hK (m + 1) (show m + 1 ≤ R.length by omega) (show R.length - (m + 1) < R.length - m by omega) _ _ (Sub.pt ?_)
        simp -implicitDefEqProofs only [push_cast, false_implies, reduceCtorEq, Classical.not_not, Nat.reduceAdd, Nat.reduceSub, Nat.reduceMul, Nat.reduceLeDiff, Nat.reduceLT, Nat.reduceEqDiff, Nat.reduceBEq, Nat.reduceBNe, Int.reduceNeg, Int.reduceToNat, Bool.or_false, Bool.false_or, Bool.or_true, Bool.true_or, BEq.rfl, Bool.not_eq_true, Bool.not_eq_false, decide_eq_true_eq, not_true_eq_false, not_false_eq_true, ite_true, ite_false, List.append_nil, and_assoc, Nat.mul_zero, Nat.zero_mul, hS1, ← hskip]
    · obtain rfl : m = R.length := by omega
      clear hK
      obtain ⟨C, hC⟩ : ∃ C : ShA, (⟨⟨⟨W, H, R, G, B⟩, L1, L2, L3⟩, K, ⟨⟨W, H, xs⟩, LB⟩⟩ : ShA) = C := ⟨_, rfl⟩
      have e1 : ∀ f a, shF C f a = shO (smF W K O ⟨W, H, xs⟩ ⟨W, H, R, G, B⟩ R.length a).n (f (smF W K O ⟨W, H, xs⟩ ⟨W, H, R, G, B⟩ R.length a)) := fun f a => by rw [← hC]; unfold shF; simp only [Int.toNat_natCast, cO]
      have hsl := smL_length W K O (O * P) ⟨W, H, xs⟩ ⟨W, H, R, G, B⟩ R.length
      have hbs := smF_bd (W := W) (K := K) (O := O) (b := ⟨W, H, xs⟩) hi (Nat.le_refl _)
      have hrs := fun {a} => rdSm_smL (W := W) (K := K) (O := O) (b := ⟨W, H, xs⟩) (i := ⟨W, H, R, G, B⟩) (m := R.length) (N := O * P) (a := a)
      obtain ⟨S, hS'⟩ : ∃ S, smL W K O (O * P) ⟨W, H, xs⟩ ⟨W, H, R, G, B⟩ R.length = S := ⟨_, rfl⟩
      rw [hS'] at hsl
      simp only [hS'] at hrs ⊢
      have hslm : (S.map Sm.rc).length = O * P := by rw [List.length_map, hsl]
      simp -implicitDefEqProofs only [push_cast, false_implies, reduceCtorEq, Classical.not_not, Nat.reduceAdd, Nat.reduceSub, Nat.reduceMul, Nat.reduceLeDiff, Nat.reduceLT, Nat.reduceEqDiff, Nat.reduceBEq, Nat.reduceBNe, Int.reduceNeg, Int.reduceToNat, Bool.or_false, Bool.false_or, Bool.or_true, Bool.true_or, BEq.rfl, Bool.not_eq_true, Bool.not_eq_false, decide_eq_true_eq, not_true_eq_false, not_false_eq_true, ite_true, ite_false, List.append_nil, and_assoc, Nat.mul_zero, Nat.zero_mul, b37_1, r37_4, Int.lt_irrefl, true_implies, true_and]
      refine evS_loopU (A := Nat) kp37_2 kl37_2 (fun a => [(114, .int .i64 a)]) (fun a => [(21, .mine, X1 14 21, .ints .i64 (prt (O * P) a (shF C Sm.r))), (22, .mine, X1 14 22, .ints .i64 (prt (O * P) a (shF C Sm.g))), (23, .mine, X1 14 23, .ints .i64 (prt (O * P) a (shF C Sm.b)))]) (fun a => a ≤ O * P) (fun a => O * P - a) 0 (Nat.zero_le _) (Sub.pt ?_) ?_
      · simp -implicitDefEqProofs only [push_cast, false_implies, reduceCtorEq, Classical.not_not, Nat.reduceAdd, Nat.reduceSub, Nat.reduceMul, Nat.reduceLeDiff, Nat.reduceLT, Nat.reduceEqDiff, Nat.reduceBEq, Nat.reduceBNe, Int.reduceNeg, Int.reduceToNat, Bool.or_false, Bool.false_or, Bool.or_true, Bool.true_or, BEq.rfl, Bool.not_eq_true, Bool.not_eq_false, decide_eq_true_eq, not_true_eq_false, not_false_eq_true, ite_true, ite_false, List.append_nil, and_assoc, Nat.mul_zero, Nat.zero_mul, zs, prt_zero, hOP]
      intro a (ha : a ≤ O * P) Kk hK
      have lR := prt_length ha (shF C Sm.r)
      have lG := prt_length ha (shF C Sm.g)
      have lB := prt_length ha (shF C Sm.b)
      have hNI : ((O * P : Nat) : Int) = (O : Int) * P := Int.natCast_mul ..
      by_cases ha' : a < O * P
      · have haI : (a : Int) < (O : Int) * P := by omega
        have r1 := fun z => recAt_Sm (l := S) (i := a) (by omega) z
        simp only [hrs ha'] at r1
        have hbs := hbs a
        have hr : shF C Sm.r a = _ := e1 Sm.r a
        have hg : shF C Sm.g a = _ := e1 Sm.g a
        have hbb : shF C Sm.b a = _ := e1 Sm.b a
        have qR := prt_set ha' (shF C Sm.r)
        have qG := prt_set ha' (shF C Sm.g)
        have qB := prt_set ha' (shF C Sm.b)
        obtain ⟨T, hT⟩ : ∃ T, smF W K O ⟨W, H, xs⟩ ⟨W, H, R, G, B⟩ R.length a = T := ⟨_, rfl⟩
        rw [hT] at hr hg hbb hbs
        simp only [hT] at r1
        obtain ⟨sr, sg, sb, sn⟩ := T
        simp only at hbs hr hg hbb
        unfold shO at hr hg hbb
        obtain ⟨⟨k1, k2⟩, ⟨k3, k4⟩, ⟨k5, k6⟩, k7, k8⟩ := hbs
        by_cases hn : sn = 0
        · rw [if_pos hn] at hr hg hbb
          rw [hr] at qR
          rw [hg] at qG
          rw [hbb] at qB
          simp -implicitDefEqProofs only [push_cast, false_implies, reduceCtorEq, Classical.not_not, Nat.reduceAdd, Nat.reduceSub, Nat.reduceMul, Nat.reduceLeDiff, Nat.reduceLT, Nat.reduceEqDiff, Nat.reduceBEq, Nat.reduceBNe, Int.reduceNeg, Int.reduceToNat, Bool.or_false, Bool.false_or, Bool.or_true, Bool.true_or, BEq.rfl, Bool.not_eq_true, Bool.not_eq_false, decide_eq_true_eq, not_true_eq_false, not_false_eq_true, ite_true, ite_false, List.append_nil, and_assoc, Nat.mul_zero, Nat.zero_mul, b37_2, r1, Sm.rc, hn, hslm, fs42, lR, lG, lB, hNI, Int.toNat_natCast, qR, qG, qB]
          refine ⟨fun _ X3 => ?_, fun h => by omega⟩
          repeat (refine And.intro (by first | omega | trivial | (intros; omega)) ?_)
          refine hK (a + 1) (show a + 1 ≤ O * P by omega) (show O * P - (a + 1) < O * P - a by omega) _ _ (Sub.pt ?_)
          simp -implicitDefEqProofs only [push_cast, false_implies, reduceCtorEq, Classical.not_not, Nat.reduceAdd, Nat.reduceSub, Nat.reduceMul, Nat.reduceLeDiff, Nat.reduceLT, Nat.reduceEqDiff, Nat.reduceBEq, Nat.reduceBNe, Int.reduceNeg, Int.reduceToNat, Bool.or_false, Bool.false_or, Bool.or_true, Bool.true_or, BEq.rfl, Bool.not_eq_true, Bool.not_eq_false, decide_eq_true_eq, not_true_eq_false, not_false_eq_true, ite_true, ite_false, List.append_nil, and_assoc, Nat.mul_zero, Nat.zero_mul]
        · rw [if_neg hn] at hr hg hbb
          rw [hr] at qR
          rw [hg] at qG
          rw [hbb] at qB
          simp -implicitDefEqProofs only [push_cast, false_implies, reduceCtorEq, Classical.not_not, Nat.reduceAdd, Nat.reduceSub, Nat.reduceMul, Nat.reduceLeDiff, Nat.reduceLT, Nat.reduceEqDiff, Nat.reduceBEq, Nat.reduceBNe, Int.reduceNeg, Int.reduceToNat, Bool.or_false, Bool.false_or, Bool.or_true, Bool.true_or, BEq.rfl, Bool.not_eq_true, Bool.not_eq_false, decide_eq_true_eq, not_true_eq_false, not_false_eq_true, ite_true, ite_false, List.append_nil, and_assoc, Nat.mul_zero, Nat.zero_mul, b37_2, r1, Sm.rc, hn, hslm, fs42, lR, lG, lB, hNI, Int.toNat_natCast, qR, qG, qB]
          refine ⟨fun _ X3 => ?_, fun h => by omega⟩
          repeat (refine And.intro (by first | omega | trivial | (intros; omega)) ?_)
          refine hK (a + 1) (show a + 1 ≤ O * P by omega) (show O * P - (a + 1) < O * P - a by omega) _ _ (Sub.pt ?_)
          simp -implicitDefEqProofs only [push_cast, false_implies, reduceCtorEq, Classical.not_not, Nat.reduceAdd, Nat.reduceSub, Nat.reduceMul, Nat.reduceLeDiff, Nat.reduceLT, Nat.reduceEqDiff, Nat.reduceBEq, Nat.reduceBNe, Int.reduceNeg, Int.reduceToNat, Bool.or_false, Bool.false_or, Bool.or_true, Bool.true_or, BEq.rfl, Bool.not_eq_true, Bool.not_eq_false, decide_eq_true_eq, not_true_eq_false, not_false_eq_true, ite_true, ite_false, List.append_nil, and_assoc, Nat.mul_zero, Nat.zero_mul]
      · obtain rfl : a = O * P := by omega
        clear hK
        have hNn : ¬ ((O * P : Nat) : Int) < (O : Int) * P := by omega
        simp -implicitDefEqProofs only [push_cast, false_implies, reduceCtorEq, Classical.not_not, Nat.reduceAdd, Nat.reduceSub, Nat.reduceMul, Nat.reduceLeDiff, Nat.reduceLT, Nat.reduceEqDiff, Nat.reduceBEq, Nat.reduceBNe, Int.reduceNeg, Int.reduceToNat, Bool.or_false, Bool.false_or, Bool.or_true, Bool.true_or, BEq.rfl, Bool.not_eq_true, Bool.not_eq_false, decide_eq_true_eq, not_true_eq_false, not_false_eq_true, ite_true, ite_false, List.append_nil, and_assoc, Nat.mul_zero, Nat.zero_mul, b37_2, r37_3, hNn, hNI, Int.lt_irrefl, true_implies, true_and, lR, lG, lB]
        refine postF.mk' (locs [X1 14 21, X1 14 22, X1 14 23]) [some 0, some 1, some 2, some 3, some 21, some 22, some 23] ?_
        subst hC
        simp -implicitDefEqProofs only [push_cast, false_implies, reduceCtorEq, Classical.not_not, Nat.reduceAdd, Nat.reduceSub, Nat.reduceMul, Nat.reduceLeDiff, Nat.reduceLT, Nat.reduceEqDiff, Nat.reduceBEq, Nat.reduceBNe, Int.reduceNeg, Int.reduceToNat, Bool.or_false, Bool.false_or, Bool.or_true, Bool.true_or, BEq.rfl, Bool.not_eq_true, Bool.not_eq_false, decide_eq_true_eq, not_true_eq_false, not_false_eq_true, ite_true, ite_false, List.append_nil, and_assoc, Nat.mul_zero, Nat.zero_mul, fs37, imM, shrI, hok, hi, if_true, lx, prt_all, shL, tabl_length, cO, cP, hNI]
def ent37 : Entry := spOf fs37 inv37
theorem e37 : EntryOk Try.prog 37 ent37 := entry_of ok37 inv37
@[push_cast] theorem ent37_app (us : List SV) (look : Look) (x : Nat → Xf.Loc) (k : Nat) : ent37 us look x k = spOf fs37 inv37 us look x k := rfl
def b65_2 : IR :=
  .seq (.seq (.reg false [⟨some 31, none, ⟨[], []⟩, .mov (.t 17)⟩,
    ⟨some 32, none, ⟨[], []⟩, .mov (.t 2)⟩,
    ⟨some 33, none, ⟨[], []⟩, .mov (.t 4)⟩,
    ⟨some 34, none, ⟨[], []⟩, .bin 0 .add (.t 32) (.t 33)⟩,
    ⟨some 35, none, ⟨[], []⟩, .fld (.t 6) 0⟩,
    ⟨some 36, none, ⟨[], []⟩, .ld false none 0 0 (.t 35)⟩,
    ⟨some 37, none, ⟨[], []⟩, .mn (.t 34) (.t 36)⟩,
    ⟨some 38, none, ⟨[], []⟩, .bin 0 .lss (.t 31) (.t 37)⟩] [31, 32, 33, 34, 35, 36, 37] []) (.cond (.t 38) (.skip) (.exit 2))) (.seq (.block 3 (.seq (.reg false [⟨some 41, none, ⟨[], []⟩, .ld false (some 3) 0 0 (.t 7)⟩,
    ⟨some 42, none, ⟨[], []⟩, .mov (.t 17)⟩,
    ⟨some 43, none, ⟨[], []⟩, .mov (.t 16)⟩,
    ⟨some 44, none, ⟨[], []⟩, .call (some 4) 14 61 [.t 41, .t 42, .t 43]⟩,
    ⟨some 45, none, ⟨[], []⟩, .bin 0 .eql (.t 44) (.k (.int .i64 0))⟩] [38, 41, 42, 43, 44] []) (.cond (.t 45) (.seq (.reg false [⟨some 46, none, ⟨[], []⟩, .mov (.t 16)⟩,
    ⟨some 47, none, ⟨[], []⟩, .fld (.t 6) 0⟩,
    ⟨some 48, none, ⟨[], []⟩, .ld false none 0 0 (.t 47)⟩,
    ⟨some 49, none, ⟨[], []⟩, .bin 0 .mul (.t 46) (.t 48)⟩,
    ⟨some 50, none, ⟨[], []⟩, .mov (.t 17)⟩,
    ⟨some 51, none, ⟨[], []⟩, .bin 0 .add (.t 49) (.t 50)⟩,
    ⟨some 18, none, ⟨[], []⟩, .mov (.t 51)⟩] [45, 46, 47, 48, 49, 50, 51] []) (.reg true [⟨some 52, none, ⟨[], []⟩, .idxP (.t 14) (.k (.int .i64 0)) 3 1⟩,
    ⟨some 53, none, ⟨[], []⟩, .ld true none 0 0 (.t 52)⟩,
    ⟨some 54, none, ⟨[], []⟩, .fld (.t 6) 2⟩,
    ⟨some 55, none, ⟨[], []⟩, .ld false none 0 0 (.t 54)⟩,
    ⟨some 56, none, ⟨[], []⟩, .mov (.t 18)⟩,
    ⟨some 57, none, ⟨[], []⟩, .idxS (.t 55) (.t 56) 1⟩,
    ⟨some 58, none, ⟨[], []⟩, .ld true none 0 0 (.t 57)⟩,
    ⟨some 59, none, ⟨[], []⟩, .bin 0 .add (.t 53) (.t 58)⟩,
    ⟨some 60, none, ⟨[], []⟩, .idxP (.t 14) (.k (.int .i64 1)) 3 1⟩,
    ⟨some 61, none, ⟨[], []⟩, .ld true none 0 0 (.t 60)⟩,
    ⟨some 62, none, ⟨[], []⟩, .fld (.t 6) 3⟩,
    ⟨some 63, none, ⟨[], []⟩, .ld false none 0 0 (.t 62)⟩,
    ⟨some 64, none, ⟨[], []⟩, .mov (.t 18)⟩,
    ⟨some 65, none, ⟨[], []⟩, .idxS (.t 63) (.t 64) 1⟩,
    ⟨some 66, none, ⟨[13], []⟩, .ld true none 0 0 (.t 65)⟩,
    ⟨some 67, none, ⟨[], []⟩, .bin 0 .add (.t 61) (.t 66)⟩,
    ⟨some 68, none, ⟨[], []⟩, .idxP (.t 14) (.k (.int .i64 2)) 3 1⟩,
    ⟨some 69, none, ⟨[], []⟩, .ld true none 0 0 (.t 68)⟩,
    ⟨some 70, none, ⟨[], []⟩, .fld (.t 6) 4⟩,
    ⟨some 71, none, ⟨[], []⟩, .ld false none 0 0 (.t 70)⟩,
    ⟨some 72, none, ⟨[], []⟩, .mov (.t 18)⟩,
    ⟨some 73, none, ⟨[], []⟩, .idxS (.t 71) (.t 72) 1⟩,
    ⟨some 74, none, ⟨[13], []⟩, .ld true none 0 0 (.t 73)⟩,
    ⟨some 75, none, ⟨[], []⟩, .bin 0 .add (.t 69) (.t 74)⟩,
    ⟨some 76, none, ⟨[], []⟩, .mov (.t 15)⟩,
    ⟨some 77, none, ⟨[], []⟩, .bin 0 .add (.t 76) (.k (.int .i64 1))⟩,
    ⟨some 78, none, ⟨[], []⟩, .idxP (.t 14) (.k (.int .i64 0)) 3 1⟩,
    ⟨none, none, ⟨[], [13]⟩, .sto true 1 .i64 (.t 78) (.t 59)⟩,
    ⟨some 79, none, ⟨[], []⟩, .idxP (.t 14) (.k (.int .i64 1)) 3 1⟩,
    ⟨none, none, ⟨[], [13]⟩, .sto true 1 .i64 (.t 79) (.t 67)⟩,
    ⟨some 80, none, ⟨[], []⟩, .idxP (.t 14) (.k (.int .i64 2)) 3 1⟩,
    ⟨none, none, ⟨[], []⟩, .sto true 1 .i64 (.t 80) (.t 75)⟩,
    ⟨some 15, none, ⟨[], []⟩, .mov (.t 77)⟩] [18, 52, 53, 54, 55, 56, 57, 58, 59, 60, 61, 62, 63, 64, 65, 66, 67, 68, 69, 70, 71, 72, 73, 74, 75, 76, 77, 78, 79, 80] [])) (.skip)))) (.reg false [⟨some 39, none, ⟨[], []⟩, .mov (.t 17)⟩,
    ⟨some 40, none, ⟨[], []⟩, .bin 0 .add (.t 39) (.k (.int .i64 1))⟩,
    ⟨some 17, none, ⟨[], []⟩, .mov (.t 40)⟩] [39, 40, 45] []))
def r65_3 : IR :=
  .reg false [⟨some 28, none, ⟨[], []⟩, .mov (.t 16)⟩,
    ⟨some 29, none, ⟨[], []⟩, .bin 0 .add (.t 28) (.k (.int .i64 1))⟩,
    ⟨some 16, none, ⟨[], []⟩, .mov (.t 29)⟩] [17, 28, 29] []
def b65_1 : IR :=
  .seq (.seq (.reg false [⟨some 20, none, ⟨[], []⟩, .mov (.t 16)⟩,
    ⟨some 21, none, ⟨[], []⟩, .mov (.t 3)⟩,
    ⟨some 22, none, ⟨[], []⟩, .mov (.t 5)⟩,
    ⟨some 23, none, ⟨[], []⟩, .bin 0 .add (.t 21) (.t 22)⟩,
    ⟨some 24, none, ⟨[], []⟩, .fld (.t 6) 1⟩,
    ⟨some 25, none, ⟨[], []⟩, .ld false none 0 0 (.t 24)⟩,
    ⟨some 26, none, ⟨[], []⟩, .mn (.t 23) (.t 25)⟩,
    ⟨some 27, none, ⟨[], []⟩, .bin 0 .lss (.t 20) (.t 26)⟩] [20, 21, 22, 23, 24, 25, 26] []) (.cond (.t 27) (.skip) (.exit 0))) (.seq (.block 1 (.seq (.reg false [⟨some 30, none, ⟨[], []⟩, .mov (.t 2)⟩,
    ⟨some 17, none, ⟨[], []⟩, .mov (.t 30)⟩] [27, 30] []) (.block 2 (.loop b65_2)))) (r65_3))
def r65_4 : IR :=
  .seq (.seq (.reg false [⟨some 81, none, ⟨[], []⟩, .mov (.t 15)⟩,
    ⟨some 82, none, ⟨[], []⟩, .bin 0 .eql (.t 81) (.k (.int .i64 0))⟩] [2, 3, 4, 5, 6, 7, 16, 81] []) (.cond (.t 82) (.seq (.reg false [⟨some 83, none, ⟨[], []⟩, .build [.int .i64 0, .int .i64 0, .int .i64 0] [(0, 1, .k (.int .i64 255)), (1, 1, .k (.int .i64 255)), (2, 1, .k (.int .i64 255))]⟩,
    ⟨none, none, ⟨[], []⟩, .sto true 3 .i64 (.t 12) (.t 83)⟩,
    ⟨some 13, none, ⟨[], []⟩, .mov (.k (.int .i64 0))⟩] [14, 15, 82, 83] []) (.ret)) (.skip))) (.seq (.reg true [⟨some 84, none, ⟨[], []⟩, .idxP (.t 14) (.k (.int .i64 0)) 3 1⟩,
    ⟨some 85, none, ⟨[], []⟩, .ld true none 0 0 (.t 84)⟩,
    ⟨some 86, none, ⟨[], []⟩, .mov (.t 15)⟩,
    ⟨some 87, none, ⟨[], []⟩, .callp 63 [.t 85, .t 86]⟩,
    ⟨some 88, none, ⟨[], []⟩, .idxP (.t 14) (.k (.int .i64 1)) 3 1⟩,
    ⟨some 89, none, ⟨[], []⟩, .ld true none 0 0 (.t 88)⟩,
    ⟨some 90, none, ⟨[], []⟩, .mov (.t 15)⟩,
    ⟨some 91, none, ⟨[], []⟩, .callp 63 [.t 89, .t 90]⟩,
    ⟨some 92, none, ⟨[], []⟩, .idxP (.t 14) (.k (.int .i64 2)) 3 1⟩,
    ⟨some 93, none, ⟨[], []⟩, .ld true none 0 0 (.t 92)⟩,
    ⟨some 94, none, ⟨[], []⟩, .mov (.t 15)⟩,
    ⟨some 95, none, ⟨[], []⟩, .callp 63 [.t 93, .t 94]⟩,
    ⟨some 96, none, ⟨[], []⟩, .build [.int .i64 0, .int .i64 0, .int .i64 0] [(0, 1, .t 87), (1, 1, .t 91), (2, 1, .t 95)]⟩,
    ⟨some 97, none, ⟨[], []⟩, .mov (.t 15)⟩,
    ⟨none, none, ⟨[], []⟩, .sto true 3 .i64 (.t 12) (.t 96)⟩,
    ⟨some 13, none, ⟨[], []⟩, .mov (.t 97)⟩] [14, 15, 82, 84, 85, 86, 87, 88, 89, 90, 91, 92, 93, 94, 95, 96, 97] []) (.ret))
def ir65 : IR :=
  .seq (.reg false [⟨some 6, none, ⟨[], []⟩, .box 10 (.t 0)⟩,
    ⟨some 7, none, ⟨[], []⟩, .box 11 (.t 1)⟩,
    ⟨some 12, none, ⟨[], []⟩, .allocI 12 .i64 3⟩,
    ⟨some 13, none, ⟨[], []⟩, .mov (.k (.int .i64 0))⟩] [0, 1, 13] []) (.seq (.reg false [⟨some 14, none, ⟨[], []⟩, .allocI 13 .i64 3⟩] [] []) (.seq (.reg false [⟨some 15, none, ⟨[], []⟩, .mov (.k (.int .i64 0))⟩] [] []) (.seq (.seq (.reg false [⟨some 19, none, ⟨[], []⟩, .mov (.t 3)⟩,
    ⟨some 16, none, ⟨[], []⟩, .mov (.t 19)⟩] [19] []) (.block 0 (.loop b65_1))) (r65_4))))
def kp65_2 : List Nat := [2, 3, 4, 5, 6, 7, 12, 14, 15, 16, 17]
def kl65_2 : List Nat := [14, 15, 16, 17]
attribute [push_cast] kp65_2 kl65_2
def kp65_1 : List Nat := [2, 3, 4, 5, 6, 7, 12, 14, 15, 16]
def kl65_1 : List Nat := [14, 15, 16, 17]
attribute [push_cast] kp65_1 kl65_1
set_option maxRecDepth 4000 in
theorem comp65 : (Try.f65.body.bind fun c => compC tab isP chkAll ir65 c) = some ir65 := by kernel_rfl
def amG (W : Nat) (b : Bm) (x y : Nat) (f : Nat → Int) (a i : Nat) : Int := if rd b.xs (((y + a) * W + (x + i) : Nat) : Int) = 0 then f ((y + a) * W + (x + i)) else 0
def amS (W : Nat) (b : Bm) (x y c : Nat) (f : Nat → Int) : Nat → Int := sumF fun a => sumF (amG W b x y f a) c
def tillN (x k W : Nat) : Nat := min (x + k) W - x
theorem div_iff {u K q W : Nat} (hK : 0 < K) (hu : u < W) : u / K = q ↔ q * K ≤ u ∧ u < q * K + tillN (q * K) K W := by
  unfold tillN
  constructor
  · intro h
    have h1 := Nat.div_mul_le_self u K
    have h2 := Nat.lt_div_mul_add hK (a := u)
    rw [h] at h1 h2
    omega
  · intro h
    refine Nat.div_eq_of_lt_le (by omega) ?_
    rw [Nat.succ_mul]
    omega
/-- The sums over a cell's rectangle are those over all places of the cell. -/
theorem am_sm {W H K O q p : Nat} {b : Bm} {f : Nat → Int} (hK : 0 < K) (hO : ∀ u, u < W → u / K < O) (hq : q < O) (hx : q * K ≤ W) (hy : p * K ≤ H) :
    amS W b (q * K) (p * K) (tillN (q * K) K W) f (tillN (p * K) K H) = sumF (smG W K O b f (p * O + q)) (H * W) := by
  unfold amS
  have h := sumF_rect (fun k => if rd b.xs (k : Int) = 0 then f k else 0) (X := q * K) (Y := p * K) (c := tillN (q * K) K W) (r := tillN (p * K) K H) (W := W) (H := H) (by unfold tillN; omega) (by unfold tillN; omega)
  unfold amG
  rw [← h]
  refine sumF_congr fun k hk => ?_
  have hW : 0 < W := by
    rcases Nat.eq_zero_or_pos W with e | e
    · rw [e, Nat.mul_zero] at hk; omega
    · exact e
  have hu := Nat.mod_lt k hW
  have hv : k / W < H := by rw [Nat.div_lt_iff_lt_mul hW]; exact hk
  have e1 := div_iff (q := q) hK hu
  have e2 := div_iff (q := p) hK hv
  have huO := hO _ hu
  unfold smG cellN
  have e3 : k / W / K * O + k % W / K = p * O + q ↔ k / W / K = p ∧ k % W / K = q := by
    constructor
    · intro h
      have h1 := (dmN (w := O) (v := k / W / K) huO)
      have h2 := (dmN (w := O) (v := p) hq)
      rw [h] at h1
      exact ⟨h1.1.symm.trans h2.1, h1.2.symm.trans h2.2⟩
    · rintro ⟨rfl, rfl⟩; rfl
  simp only [e3, e1, e2]
  by_cases hr : rd b.xs (k : Int) = 0
  · simp only [hr, if_true, and_true]
  · simp only [hr, if_false, and_false, ite_self]
theorem amG_bd {W : Nat} {b : Bm} {x y c r : Nat} {f : Nat → Int} (hf : ∀ a i, a < r → i < c → 0 ≤ f ((y + a) * W + (x + i)) ∧ f ((y + a) * W + (x + i)) ≤ 255) {a : Nat} (ha : a < r) {i : Nat} (hi : i ≤ c) :
    0 ≤ sumF (amG W b x y f a) i ∧ sumF (amG W b x y f a) i ≤ i * 255 := by
  refine sumF_bd fun k hk => ?_
  unfold amG
  split
  · exact hf a k ha (by omega)
  · exact ⟨Int.le_refl _, by decide⟩
theorem amS_bd {W : Nat} {b : Bm} {x y c r : Nat} {f : Nat → Int} (hc : c ≤ 200) (hf : ∀ a i, a < r → i < c → 0 ≤ f ((y + a) * W + (x + i)) ∧ f ((y + a) * W + (x + i)) ≤ 255) {a : Nat} (ha : a ≤ r) :
    0 ≤ amS W b x y c f a ∧ amS W b x y c f a ≤ a * 51000 := by
  unfold amS
  refine sumF_bd fun k hk => ?_
  have := amG_bd (b := b) hf (a := k) (by omega) (Nat.le_refl c)
  omega
theorem rd30 (a b c : Int) : rd [a, b, c] 0 = a := rfl
theorem rd31 (a b c : Int) : rd [a, b, c] 1 = b := rfl
theorem rd32 (a b c : Int) : rd [a, b, c] 2 = c := rfl
theorem s30 (a b c v : Int) : [a, b, c].set 0 v = [v, b, c] := rfl
theorem s31 (a b c v : Int) : [a, b, c].set 1 v = [a, v, c] := rfl
theorem s32 (a b c v : Int) : [a, b, c].set 2 v = [a, b, v] := rfl
structure AmA where
  a : ImA
  b : BmA
  x : Nat
  y : Nat
  k : Nat
def AmA.v (c : AmA) (f : Nat → Int) : Int := amS c.a.i.w.toNat c.b.b c.x c.y (tillN c.x c.k c.a.i.w.toNat) f (tillN c.y c.k c.a.i.h.toNat)
def fs65 : FS where
  A := AmA
  args := fun c => [imV c.a.i c.a.L1 c.a.L2 c.a.L3 0, bmV c.b.b c.b.L 3, .int .i64 c.x, .int .i64 c.y, .int .i64 c.k, .int .i64 c.k]
  mem := fun c => imM c.a.i c.a.L1 c.a.L2 c.a.L3 ++ [some (.ro, c.b.L, .ints .u8 c.b.b.xs)]
  pre := fun c => c.a.i.Ok ∧ c.b.b.Ok ∧ (∀ n, n ∈ c.b.b.xs → 0 ≤ n) ∧ ((c.b.b.w = 0 ∧ c.b.b.h = 0) ∨ (c.b.b.w = c.a.i.w ∧ c.b.b.h = c.a.i.h)) ∧ (c.x : Int) < c.a.i.w ∧ (c.y : Int) < c.a.i.h ∧ c.k ≤ 200
  res := fun c _ => .tup [.agg [.int .i64 (shO (c.v fun _ => 1) (c.v fun j => rd c.a.i.R (j : Nat))), .int .i64 (shO (c.v fun _ => 1) (c.v fun j => rd c.a.i.G (j : Nat))), .int .i64 (shO (c.v fun _ => 1) (c.v fun j => rd c.a.i.B (j : Nat)))], .int .i64 (c.v fun _ => 1)]
  out := fun _ _ => []
  new := fun _ _ => []
def inv65 : List SV → Look → Option (AmA × List Nat)
  | [v, u, .int .i64 x, .int .i64 y, .int .i64 k, _], look => match getI look v, getB look u with
    | some (a, g), some (b, g') => some (⟨a, b, x.toNat, y.toNat, k.toNat⟩, g ++ g')
    | _, _ => none
  | _, _ => none
attribute [push_cast] inv65
set_option maxRecDepth 4000 in
set_option maxHeartbeats 2000000 in
theorem ok65 : FSOk Try.prog 65 fs65 := by
  refine ⟨⟨_, Try.func65, by kernel_rfl, by kernel_rfl⟩, fun a => ⟨by simp [fs65, imM, push_cast, noMine, argOwn, Chunk.frArg], by simp [fs65, imM, push_cast, outOk, Chunk.ext], fun x => .inl (by simp [fs65, imM, push_cast, frNew, frOut, Chunk.fr])⟩, fun a hp => ?_⟩
  obtain ⟨⟨⟨W, H, R, G, B⟩, L1, L2, L3⟩, ⟨⟨bw, bh, xs⟩, LB⟩, x, y, k⟩ := a
  obtain ⟨hi, hb, hb0, hsm, hx, hy, hk⟩ := hp
  obtain ⟨v1, v2, v3⟩ := hi.val
  obtain ⟨a1, a2, a3, a4, a5⟩ : SidesOk W H := hi.1
  have hl : (R.length : Int) = W * H := hi.2.1.1
  have hbl : (xs.length : Int) = bw * bh := hb.2.1
  simp only at hx hy hk v1 v2 v3 hb0 hsm
  obtain ⟨W, rfl⟩ : ∃ n : Nat, W = n := ⟨W.toNat, by omega⟩
  obtain ⟨H, rfl⟩ : ∃ n : Nat, H = n := ⟨H.toNat, by omega⟩
  have hlB : R.length = H * W := by rw [← Int.ofNat_inj, hl, Int.natCast_mul, Int.mul_comm]
  obtain ⟨c, hc⟩ : ∃ c, tillN x k W = c := ⟨_, rfl⟩
  obtain ⟨r, hr⟩ : ∃ r, tillN y k H = r := ⟨_, rfl⟩
  have hcI : min ((x : Int) + k) W = x + c := by rw [← hc]; unfold tillN; omega
  have hrI : min ((y : Int) + k) H = y + r := by rw [← hr]; unfold tillN; omega
  have hcb : c ≤ 200 ∧ x + c ≤ W := by rw [← hc]; unfold tillN; omega
  have hrb : r ≤ 200 ∧ y + r ≤ H := by rw [← hr]; unfold tillN; omega
  have hidx : ∀ a i, a < r → i < c → (y + a) * W + (x + i) < R.length := fun a i ha hi => by
    rw [hlB]
    have : (y + a + 1) * W ≤ H * W := Nat.mul_le_mul_right _ (by omega)
    rw [Nat.succ_mul] at this
    omega
  obtain ⟨sR, hsR⟩ : ∃ s, amS W ⟨bw, bh, xs⟩ x y c (fun j => rd R (j : Nat)) = s := ⟨_, rfl⟩
  obtain ⟨sG, hsG⟩ : ∃ s, amS W ⟨bw, bh, xs⟩ x y c (fun j => rd G (j : Nat)) = s := ⟨_, rfl⟩
  obtain ⟨sB, hsB⟩ : ∃ s, amS W ⟨bw, bh, xs⟩ x y c (fun j => rd B (j : Nat)) = s := ⟨_, rfl⟩
  obtain ⟨sN, hsN⟩ : ∃ s, amS W ⟨bw, bh, xs⟩ x y c (fun _ => 1) = s := ⟨_, rfl⟩
  have bR := fun {a} h => amS_bd (W := W) (b := ⟨bw, bh, xs⟩) (x := x) (y := y) (f := fun j => rd R (j : Nat)) hcb.1 (fun a i ha hi => (v3 _ (hidx a i ha hi)).1) (a := a) h
  have bG := fun {a} h => amS_bd (W := W) (b := ⟨bw, bh, xs⟩) (x := x) (y := y) (f := fun j => rd G (j : Nat)) hcb.1 (fun a i ha hi => (v3 _ (hidx a i ha hi)).2.1) (a := a) h
  have bB := fun {a} h => amS_bd (W := W) (b := ⟨bw, bh, xs⟩) (x := x) (y := y) (f := fun j => rd B (j : Nat)) hcb.1 (fun a i ha hi => (v3 _ (hidx a i ha hi)).2.2) (a := a) h
  have bN := fun {a} h => amS_bd (W := W) (b := ⟨bw, bh, xs⟩) (x := x) (y := y) (f := fun _ => 1) hcb.1 (fun a i ha hi => ⟨by decide, by decide⟩) (r := r) (a := a) h
  rw [hsR] at bR; rw [hsG] at bG; rw [hsB] at bB; rw [hsN] at bN
  change Tri Try.prog 65 [imV ⟨W, H, R, G, B⟩ L1 L2 L3 0, bmV ⟨bw, bh, xs⟩ LB 3, .int .i64 x, .int .i64 y, .int .i64 k, .int .i64 k] [some (.ro, L1, .ints .i64 R), some (.ro, L2, .ints .i64 G), some (.ro, L3, .ints .i64 B), some (.ro, LB, .ints .u8 xs)] (postF fs65 ⟨⟨⟨W, H, R, G, B⟩, L1, L2, L3⟩, ⟨⟨bw, bh, xs⟩, LB⟩, x, y, k⟩)
  refine tri_evS (hyp (l := [(61, ent61)]) (lp := [(63, meanF)]) ⟨e61, trivial⟩ ⟨p63, trivial⟩) Try.func65 comp65 (rs := [.cell 12 (some 3), .tmp 13]) (by rfl) Try.ntmps65 18 ?_
  simp -implicitDefEqProofs only [push_cast, false_implies, reduceCtorEq, Classical.not_not, Nat.reduceAdd, Nat.reduceSub, Nat.reduceMul, Nat.reduceLeDiff, Nat.reduceLT, Nat.reduceEqDiff, Nat.reduceBEq, Nat.reduceBNe, Int.reduceNeg, Int.reduceToNat, Bool.or_false, Bool.false_or, Bool.or_true, Bool.true_or, BEq.rfl, Bool.not_eq_true, Bool.not_eq_false, decide_eq_true_eq, not_true_eq_false, not_false_eq_true, ite_true, ite_false, List.append_nil, and_assoc, Nat.mul_zero, Nat.zero_mul, ir65, imV, bmV]
  intro X X1
  have z3 : List.replicate 3 (0 : Int) = [0, 0, 0] := rfl
  have s0 : sR 0 = 0 ∧ sG 0 = 0 ∧ sB 0 = 0 ∧ sN 0 = 0 := by rw [← hsR, ← hsG, ← hsB, ← hsN]; exact ⟨rfl, rfl, rfl, rfl⟩
  refine evS_loopU (A := Nat) kp65_1 kl65_1 (fun a => [(15, .int .i64 (sN a)), (16, .int .i64 ((y : Int) + a))]) (fun a => [(13, .mine, ⟨(X1 0 13).b, (X1 0 13).o, false, 3⟩, .ints .i64 [sR a, sG a, sB a])]) (fun a => a ≤ r) (fun a => r - a) 0 (Nat.zero_le _) (Sub.pt ?_) ?_
  · simp -implicitDefEqProofs only [push_cast, false_implies, reduceCtorEq, Classical.not_not, Nat.reduceAdd, Nat.reduceSub, Nat.reduceMul, Nat.reduceLeDiff, Nat.reduceLT, Nat.reduceEqDiff, Nat.reduceBEq, Nat.reduceBNe, Int.reduceNeg, Int.reduceToNat, Bool.or_false, Bool.false_or, Bool.or_true, Bool.true_or, BEq.rfl, Bool.not_eq_true, Bool.not_eq_false, decide_eq_true_eq, not_true_eq_false, not_false_eq_true, ite_true, ite_false, List.append_nil, and_assoc, Nat.mul_zero, Nat.zero_mul, s0, z3, Int.add_zero]
  intro a (ha : a ≤ r) Kk hK
  obtain ⟨p1, p2⟩ := bR ha
  obtain ⟨p3, p4⟩ := bG ha
  obtain ⟨p5, p6⟩ := bB ha
  obtain ⟨p7, p8⟩ := bN ha
  by_cases ha' : a < r
  · have haI : (y : Int) + a < y + r := by omega
    have eR : sR (a + 1) = sR a + sumF (amG W ⟨bw, bh, xs⟩ x y (fun j => rd R (j : Nat)) a) c := by rw [← hsR]; rfl
    have eG : sG (a + 1) = sG a + sumF (amG W ⟨bw, bh, xs⟩ x y (fun j => rd G (j : Nat)) a) c := by rw [← hsG]; rfl
    have eB : sB (a + 1) = sB a + sumF (amG W ⟨bw, bh, xs⟩ x y (fun j => rd B (j : Nat)) a) c := by rw [← hsB]; rfl
    have eN : sN (a + 1) = sN a + sumF (amG W ⟨bw, bh, xs⟩ x y (fun _ => 1) a) c := by rw [← hsN]; rfl
    have cR := fun {i} h => amG_bd (W := W) (b := ⟨bw, bh, xs⟩) (x := x) (y := y) (f := fun j => rd R (j : Nat)) (fun a i ha hi => (v3 _ (hidx a i ha hi)).1) ha' (i := i) h
    have cG := fun {i} h => amG_bd (W := W) (b := ⟨bw, bh, xs⟩) (x := x) (y := y) (f := fun j => rd G (j : Nat)) (fun a i ha hi => (v3 _ (hidx a i ha hi)).2.1) ha' (i := i) h
    have cB := fun {i} h => amG_bd (W := W) (b := ⟨bw, bh, xs⟩) (x := x) (y := y) (f := fun j => rd B (j : Nat)) (fun a i ha hi => (v3 _ (hidx a i ha hi)).2.2) ha' (i := i) h
    have cN := fun {i} h => amG_bd (W := W) (b := ⟨bw, bh, xs⟩) (x := x) (y := y) (f := fun _ => 1) (r := r) (c := c) (fun a i ha hi => ⟨by decide, by decide⟩) ha' (i := i) h
    have stR : ∀ i, sumF (amG W ⟨bw, bh, xs⟩ x y (fun j => rd R (j : Nat)) a) (i + 1) = sumF (amG W ⟨bw, bh, xs⟩ x y (fun j => rd R (j : Nat)) a) i + (if rd xs (((y + a) * W + (x + i) : Nat) : Int) = 0 then rd R (((y + a) * W + (x + i) : Nat) : Int) else 0) := fun i => rfl
    have stG : ∀ i, sumF (amG W ⟨bw, bh, xs⟩ x y (fun j => rd G (j : Nat)) a) (i + 1) = sumF (amG W ⟨bw, bh, xs⟩ x y (fun j => rd G (j : Nat)) a) i + (if rd xs (((y + a) * W + (x + i) : Nat) : Int) = 0 then rd G (((y + a) * W + (x + i) : Nat) : Int) else 0) := fun i => rfl
    have stB : ∀ i, sumF (amG W ⟨bw, bh, xs⟩ x y (fun j => rd B (j : Nat)) a) (i + 1) = sumF (amG W ⟨bw, bh, xs⟩ x y (fun j => rd B (j : Nat)) a) i + (if rd xs (((y + a) * W + (x + i) : Nat) : Int) = 0 then rd B (((y + a) * W + (x + i) : Nat) : Int) else 0) := fun i => rfl
    have stN : ∀ i, sumF (amG W ⟨bw, bh, xs⟩ x y (fun _ => 1) a) (i + 1) = sumF (amG W ⟨bw, bh, xs⟩ x y (fun _ => 1) a) i + (if rd xs (((y + a) * W + (x + i) : Nat) : Int) = 0 then 1 else 0) := fun i => rfl
    obtain ⟨tR, hR⟩ : ∃ t, sumF (amG W ⟨bw, bh, xs⟩ x y (fun j => rd R (j : Nat)) a) = t := ⟨_, rfl⟩
    obtain ⟨tG, hG⟩ : ∃ t, sumF (amG W ⟨bw, bh, xs⟩ x y (fun j => rd G (j : Nat)) a) = t := ⟨_, rfl⟩
    obtain ⟨tB, hB⟩ : ∃ t, sumF (amG W ⟨bw, bh, xs⟩ x y (fun j => rd B (j : Nat)) a) = t := ⟨_, rfl⟩
    obtain ⟨tN, hN⟩ : ∃ t, sumF (amG W ⟨bw, bh, xs⟩ x y (fun _ => 1) a) = t := ⟨_, rfl⟩
    have t0 : tR 0 = 0 ∧ tG 0 = 0 ∧ tB 0 = 0 ∧ tN 0 = 0 := by rw [← hR, ← hG, ← hB, ← hN]; exact ⟨rfl, rfl, rfl, rfl⟩
    simp only [hR, hG, hB, hN] at eR eG eB eN cR cG cB cN stR stG stB stN
    simp -implicitDefEqProofs only [push_cast, false_implies, reduceCtorEq, Classical.not_not, Nat.reduceAdd, Nat.reduceSub, Nat.reduceMul, Nat.reduceLeDiff, Nat.reduceLT, Nat.reduceEqDiff, Nat.reduceBEq, Nat.reduceBNe, Int.reduceNeg, Int.reduceToNat, Bool.or_false, Bool.false_or, Bool.or_true, Bool.true_or, BEq.rfl, Bool.not_eq_true, Bool.not_eq_false, decide_eq_true_eq, not_true_eq_false, not_false_eq_true, ite_true, ite_false, List.append_nil, and_assoc, Nat.mul_zero, Nat.zero_mul, b65_1, hrI, haI]
    refine ⟨by omega, by omega, ?_⟩
    refine evS_loopU (A := Nat) kp65_2 kl65_2 (fun i => [(15, .int .i64 (sN a + tN i)), (17, .int .i64 ((x : Int) + i))]) (fun i => [(13, .mine, ⟨(X1 0 13).b, (X1 0 13).o, false, 3⟩, .ints .i64 [sR a + tR i, sG a + tG i, sB a + tB i])]) (fun i => i ≤ c) (fun i => c - i) 0 (Nat.zero_le _) (Sub.pt ?_) ?_
    · simp -implicitDefEqProofs only [push_cast, false_implies, reduceCtorEq, Classical.not_not, Nat.reduceAdd, Nat.reduceSub, Nat.reduceMul, Nat.reduceLeDiff, Nat.reduceLT, Nat.reduceEqDiff, Nat.reduceBEq, Nat.reduceBNe, Int.reduceNeg, Int.reduceToNat, Bool.or_false, Bool.false_or, Bool.or_true, Bool.true_or, BEq.rfl, Bool.not_eq_true, Bool.not_eq_false, decide_eq_true_eq, not_true_eq_false, not_false_eq_true, ite_true, ite_false, List.append_nil, and_assoc, Nat.mul_zero, Nat.zero_mul, t0, Int.add_zero]
    intro i (hi' : i ≤ c) Ki hKi
    obtain ⟨r1, r2⟩ := cR hi'
    obtain ⟨r3, r4⟩ := cG hi'
    obtain ⟨r5, r6⟩ := cB hi'
    obtain ⟨r7, r8⟩ := cN hi'
    by_cases hi2 : i < c
    · have hiI : (x : Int) + i < x + c := by omega
      have hj := hidx a i ha' hi2
      obtain ⟨⟨u1, u2⟩, ⟨u3, u4⟩, u5, u6⟩ := v3 _ hj
      have stR := stR i
      have stG := stG i
      have stB := stB i
      have stN := stN i
      have hat : atV ⟨⟨⟨bw, bh, xs⟩, LB⟩, (x : Int) + i, (y : Int) + a⟩ = rd xs (((y + a) * W + (x + i) : Nat) : Int) := by
        unfold atV
        rcases hsm with ⟨rfl, rfl⟩ | ⟨rfl, rfl⟩
        · have : xs = [] := List.eq_nil_of_length_eq_zero (by omega)
          rw [if_neg (fun h => by unfold AtA.inside at h; simp only at h; omega), this]; rfl
        · rw [if_pos (by unfold AtA.inside; simp only; omega)]
          simp only
          push_cast
      have hmm := mul_bd (show (0 : Int) ≤ y + a by omega) (show (y : Int) + a ≤ 200 by omega) a1 a3
      have hjI : ((y : Int) + a) * W + ((x : Int) + i) = (((y + a) * W + (x + i) : Nat) : Int) := by push_cast
      obtain ⟨j, hjj⟩ : ∃ j, (y + a) * W + (x + i) = j := ⟨_, rfl⟩
      rw [hjj] at hat hjI hj u1 u2 u3 u4 u5 u6 stR stG stB stN
      have tn0 : (0 : Int).toNat = 0 := rfl
      have tn1 : (1 : Int).toNat = 1 := rfl
      have tn2 : (2 : Int).toNat = 2 := rfl
      by_cases hz : rd xs (j : Int) = 0
      · simp only [hz, if_true] at stR stG stB stN
        simp -implicitDefEqProofs only [push_cast, false_implies, reduceCtorEq, Classical.not_not, Nat.reduceAdd, Nat.reduceSub, Nat.reduceMul, Nat.reduceLeDiff, Nat.reduceLT, Nat.reduceEqDiff, Nat.reduceBEq, Nat.reduceBNe, Int.reduceNeg, Int.reduceToNat, Bool.or_false, Bool.false_or, Bool.or_true, Bool.true_or, BEq.rfl, Bool.not_eq_true, Bool.not_eq_false, decide_eq_true_eq, not_true_eq_false, not_false_eq_true, ite_true, ite_false, List.append_nil, and_assoc, Nat.mul_zero, Nat.zero_mul, b65_2, hrI, hcI, hiI, fs61, fs70, hat, hz, hb, hb0, hjI, rd30, rd31, rd32, s30, s31, s32, tn0, tn1, tn2, List.length_cons, List.length_nil]
        refine ⟨by omega, by omega, hb0, ?_⟩
        repeat (refine And.intro (by first | omega | trivial | (intros; omega)) ?_)
        refine hKi (i + 1) (show i + 1 ≤ c by omega) (show c - (i + 1) < c - i by omega) _ _ (Sub.pt ?_)
        simp -implicitDefEqProofs only [push_cast, false_implies, reduceCtorEq, Classical.not_not, Nat.reduceAdd, Nat.reduceSub, Nat.reduceMul, Nat.reduceLeDiff, Nat.reduceLT, Nat.reduceEqDiff, Nat.reduceBEq, Nat.reduceBNe, Int.reduceNeg, Int.reduceToNat, Bool.or_false, Bool.false_or, Bool.or_true, Bool.true_or, BEq.rfl, Bool.not_eq_true, Bool.not_eq_false, decide_eq_true_eq, not_true_eq_false, not_false_eq_true, ite_true, ite_false, List.append_nil, and_assoc, Nat.mul_zero, Nat.zero_mul, stR, stG, stB, stN, Int.add_assoc]
      · simp only [hz, if_false, Int.add_zero] at stR stG stB stN
        simp -implicitDefEqProofs only [push_cast, false_implies, reduceCtorEq, Classical.not_not, Nat.reduceAdd, Nat.reduceSub, Nat.reduceMul, Nat.reduceLeDiff, Nat.reduceLT, Nat.reduceEqDiff, Nat.reduceBEq, Nat.reduceBNe, Int.reduceNeg, Int.reduceToNat, Bool.or_false, Bool.false_or, Bool.or_true, Bool.true_or, BEq.rfl, Bool.not_eq_true, Bool.not_eq_false, decide_eq_true_eq, not_true_eq_false, not_false_eq_true, ite_true, ite_false, List.append_nil, and_assoc, Nat.mul_zero, Nat.zero_mul, b65_2, hrI, hcI, hiI, fs61, fs70, hat, hz, hb, hb0, hjI, rd30, rd31, rd32, s30, s31, s32, tn0, tn1, tn2, List.length_cons, List.length_nil]
        refine ⟨by omega, by omega, hb0, ?_⟩
        repeat (refine And.intro (by first | omega | trivial | (intros; omega)) ?_)
        refine hKi (i + 1) (show i + 1 ≤ c by omega) (show c - (i + 1) < c - i by omega) _ _ (Sub.pt ?_)
        simp -implicitDefEqProofs only [push_cast, false_implies, reduceCtorEq, Classical.not_not, Nat.reduceAdd, Nat.reduceSub, Nat.reduceMul, Nat.reduceLeDiff, Nat.reduceLT, Nat.reduceEqDiff, Nat.reduceBEq, Nat.reduceBNe, Int.reduceNeg, Int.reduceToNat, Bool.or_false, Bool.false_or, Bool.or_true, Bool.true_or, BEq.rfl, Bool.not_eq_true, Bool.not_eq_false, decide_eq_true_eq, not_true_eq_false, not_false_eq_true, ite_true, ite_false, List.append_nil, and_assoc, Nat.mul_zero, Nat.zero_mul, stR, stG, stB, stN, Int.add_assoc]
    · obtain rfl : i = c := by omega
      clear hKi
      simp -implicitDefEqProofs only [push_cast, false_implies, reduceCtorEq, Classical.not_not, Nat.reduceAdd, Nat.reduceSub, Nat.reduceMul, Nat.reduceLeDiff, Nat.reduceLT, Nat.reduceEqDiff, Nat.reduceBEq, Nat.reduceBNe, Int.reduceNeg, Int.reduceToNat, Bool.or_false, Bool.false_or, Bool.or_true, Bool.true_or, BEq.rfl, Bool.not_eq_true, Bool.not_eq_false, decide_eq_true_eq, not_true_eq_false, not_false_eq_true, ite_true, ite_false, List.append_nil, and_assoc, Nat.mul_zero, Nat.zero_mul, b65_2, r65_3, hcI, Int.lt_irrefl, true_implies, true_and]
      repeat (refine And.intro (by first | omega | trivial | (intros; omega)) ?_)
      refine hK (a + 1) (show a + 1 ≤ r by omega) (show r - (a + 1) < r - a by omega) _ _ (Sub.pt ?_)
      simp -implicitDefEqProofs only [push_cast, false_implies, reduceCtorEq, Classical.not_not, Nat.reduceAdd, Nat.reduceSub, Nat.reduceMul, Nat.reduceLeDiff, Nat.reduceLT, Nat.reduceEqDiff, Nat.reduceBEq, Nat.reduceBNe, Int.reduceNeg, Int.reduceToNat, Bool.or_false, Bool.false_or, Bool.or_true, Bool.true_or, BEq.rfl, Bool.not_eq_true, Bool.not_eq_false, decide_eq_true_eq, not_true_eq_false, not_false_eq_true, ite_true, ite_false, List.append_nil, and_assoc, Nat.mul_zero, Nat.zero_mul, eR, eG, eB, eN, Int.add_assoc]
  · obtain rfl : a = r := by omega
    clear hK
    have g0 : ([255, 255, 255] : List Int).getD 0 0 = 255 ∧ ([255, 255, 255] : List Int).getD 1 0 = 255 ∧ ([255, 255, 255] : List Int).getD 2 0 = 255 := ⟨rfl, rfl, rfl⟩
    have hvN : (⟨⟨⟨W, H, R, G, B⟩, L1, L2, L3⟩, ⟨⟨bw, bh, xs⟩, LB⟩, x, y, k⟩ : AmA).v (fun _ => 1) = sN a := by unfold AmA.v; simp only [Int.toNat_natCast, hc, hr]; rw [hsN]
    have hvR : (⟨⟨⟨W, H, R, G, B⟩, L1, L2, L3⟩, ⟨⟨bw, bh, xs⟩, LB⟩, x, y, k⟩ : AmA).v (fun j => rd R (j : Nat)) = sR a := by unfold AmA.v; simp only [Int.toNat_natCast, hc, hr]; rw [hsR]
    have hvG : (⟨⟨⟨W, H, R, G, B⟩, L1, L2, L3⟩, ⟨⟨bw, bh, xs⟩, LB⟩, x, y, k⟩ : AmA).v (fun j => rd G (j : Nat)) = sG a := by unfold AmA.v; simp only [Int.toNat_natCast, hc, hr]; rw [hsG]
    have hvB : (⟨⟨⟨W, H, R, G, B⟩, L1, L2, L3⟩, ⟨⟨bw, bh, xs⟩, LB⟩, x, y, k⟩ : AmA).v (fun j => rd B (j : Nat)) = sB a := by unfold AmA.v; simp only [Int.toNat_natCast, hc, hr]; rw [hsB]
    by_cases hn : sN a = 0
    · simp -implicitDefEqProofs only [push_cast, false_implies, reduceCtorEq, Classical.not_not, Nat.reduceAdd, Nat.reduceSub, Nat.reduceMul, Nat.reduceLeDiff, Nat.reduceLT, Nat.reduceEqDiff, Nat.reduceBEq, Nat.reduceBNe, Int.reduceNeg, Int.reduceToNat, Bool.or_false, Bool.false_or, Bool.or_true, Bool.true_or, BEq.rfl, Bool.not_eq_true, Bool.not_eq_false, decide_eq_true_eq, not_true_eq_false, not_false_eq_true, ite_true, ite_false, List.append_nil, and_assoc, Nat.mul_zero, Nat.zero_mul, b65_1, r65_4, hrI, hn, g0, Int.lt_irrefl, true_implies, true_and]
      refine ⟨by omega, by omega, ?_⟩
      refine postF.mk' (fun _ => default) [some 0, some 1, some 2, some 3] ?_
      simp -implicitDefEqProofs only [push_cast, false_implies, reduceCtorEq, Classical.not_not, Nat.reduceAdd, Nat.reduceSub, Nat.reduceMul, Nat.reduceLeDiff, Nat.reduceLT, Nat.reduceEqDiff, Nat.reduceBEq, Nat.reduceBNe, Int.reduceNeg, Int.reduceToNat, Bool.or_false, Bool.false_or, Bool.or_true, Bool.true_or, BEq.rfl, Bool.not_eq_true, Bool.not_eq_false, decide_eq_true_eq, not_true_eq_false, not_false_eq_true, ite_true, ite_false, List.append_nil, and_assoc, Nat.mul_zero, Nat.zero_mul, fs65, imM, hvN, hvR, hvG, hvB, shO, hn, if_true]
    · simp -implicitDefEqProofs only [push_cast, false_implies, reduceCtorEq, Classical.not_not, Nat.reduceAdd, Nat.reduceSub, Nat.reduceMul, Nat.reduceLeDiff, Nat.reduceLT, Nat.reduceEqDiff, Nat.reduceBEq, Nat.reduceBNe, Int.reduceNeg, Int.reduceToNat, Bool.or_false, Bool.false_or, Bool.or_true, Bool.true_or, BEq.rfl, Bool.not_eq_true, Bool.not_eq_false, decide_eq_true_eq, not_true_eq_false, not_false_eq_true, ite_true, ite_false, List.append_nil, and_assoc, Nat.mul_zero, Nat.zero_mul, b65_1, r65_4, hrI, hn, rd30, rd31, rd32, Int.lt_irrefl, true_implies, true_and]
      repeat (refine And.intro (by first | omega | trivial | (intros; omega)) ?_)
      refine postF.mk' (fun _ => default) [some 0, some 1, some 2, some 3] ?_
      simp -implicitDefEqProofs only [push_cast, false_implies, reduceCtorEq, Classical.not_not, Nat.reduceAdd, Nat.reduceSub, Nat.reduceMul, Nat.reduceLeDiff, Nat.reduceLT, Nat.reduceEqDiff, Nat.reduceBEq, Nat.reduceBNe, Int.reduceNeg, Int.reduceToNat, Bool.or_false, Bool.false_or, Bool.or_true, Bool.true_or, BEq.rfl, Bool.not_eq_true, Bool.not_eq_false, decide_eq_true_eq, not_true_eq_false, not_false_eq_true, ite_true, ite_false, List.append_nil, and_assoc, Nat.mul_zero, Nat.zero_mul, fs65, imM, hvN, hvR, hvG, hvB, shO, hn, if_false]
      exact ⟨rfl, rfl, rfl⟩
def ent65 : Entry := spOf fs65 inv65
theorem e65 : EntryOk Try.prog 65 ent65 := entry_of ok65 inv65
@[push_cast] theorem ent65_app (us : List SV) (look : Look) (x : Nat → Xf.Loc) (k : Nat) : ent65 us look x k = spOf fs65 inv65 us look x k := rfl
def b38_2 : IR :=
  .seq (.seq (.reg false [⟨some 77, none, ⟨[], []⟩, .mov (.t 11)⟩,
    ⟨some 78, none, ⟨[], []⟩, .fld (.t 9) 0⟩,
    ⟨some 79, none, ⟨[], []⟩, .ld false none 0 0 (.t 78)⟩,
    ⟨some 80, none, ⟨[], []⟩, .bin 0 .lss (.t 77) (.t 79)⟩] [77, 78, 79] []) (.cond (.t 80) (.skip) (.exit 2))) (.seq (.block 3 (.seq (.reg false [⟨some 84, none, ⟨[], []⟩, .ld false (some 5) 0 0 (.t 3)⟩,
    ⟨some 85, none, ⟨[], []⟩, .ld false (some 3) 0 0 (.t 5)⟩,
    ⟨some 86, none, ⟨[], []⟩, .mov (.t 11)⟩,
    ⟨some 87, none, ⟨[], []⟩, .mov (.t 1)⟩,
    ⟨some 88, none, ⟨[], []⟩, .bin 0 .mul (.t 86) (.t 87)⟩,
    ⟨some 89, none, ⟨[], []⟩, .mov (.t 10)⟩,
    ⟨some 90, none, ⟨[], []⟩, .mov (.t 1)⟩,
    ⟨some 91, none, ⟨[], []⟩, .bin 0 .mul (.t 89) (.t 90)⟩,
    ⟨some 92, none, ⟨[], []⟩, .mov (.t 1)⟩,
    ⟨some 93, none, ⟨[], []⟩, .mov (.t 1)⟩,
    ⟨some 94, none, ⟨[], []⟩, .call (some 4) 22 65 [.t 84, .t 85, .t 88, .t 91, .t 92, .t 93]⟩,
    ⟨some 83, none, ⟨[], []⟩, .mov (.t 94)⟩,
    ⟨some 95, none, ⟨[], []⟩, .ext (.t 83) 0⟩,
    ⟨some 96, none, ⟨[], []⟩, .ext (.t 83) 1⟩,
    ⟨some 12, none, ⟨[], []⟩, .allocI 26 .i64 3⟩,
    ⟨none, none, ⟨[], []⟩, .sto true 3 .i64 (.t 12) (.t 95)⟩,
    ⟨some 13, none, ⟨[], []⟩, .mov (.t 96)⟩] [13, 80, 83, 84, 85, 86, 87, 88, 89, 90, 91, 92, 93, 94, 95, 96] []) (.reg true [⟨some 97, none, ⟨[], []⟩, .fld (.t 9) 2⟩,
    ⟨some 98, none, ⟨[27, 29, 31], []⟩, .ld false none 0 0 (.t 97)⟩,
    ⟨some 99, none, ⟨[], []⟩, .idxP (.t 12) (.k (.int .i64 0)) 3 1⟩,
    ⟨some 100, none, ⟨[29, 31], []⟩, .ld true none 0 0 (.t 99)⟩,
    ⟨some 101, none, ⟨[], []⟩, .bslice 27 [.t 100]⟩,
    ⟨some 102, none, ⟨[26, 29, 31], []⟩, .app 28 1 8 (.t 98) (.t 101)⟩,
    ⟨some 103, none, ⟨[], []⟩, .fld (.t 9) 3⟩,
    ⟨some 104, none, ⟨[27, 28, 29, 31], []⟩, .ld false none 0 0 (.t 103)⟩,
    ⟨some 105, none, ⟨[], []⟩, .idxP (.t 12) (.k (.int .i64 1)) 3 1⟩,
    ⟨some 106, none, ⟨[27, 28, 31], [26]⟩, .ld true none 0 0 (.t 105)⟩,
    ⟨some 107, none, ⟨[], []⟩, .bslice 29 [.t 106]⟩,
    ⟨some 108, none, ⟨[26, 31], []⟩, .app 30 1 8 (.t 104) (.t 107)⟩,
    ⟨some 109, none, ⟨[], []⟩, .fld (.t 9) 4⟩,
    ⟨some 110, none, ⟨[27, 28, 29, 30, 31], []⟩, .ld false none 0 0 (.t 109)⟩,
    ⟨some 111, none, ⟨[], []⟩, .idxP (.t 12) (.k (.int .i64 2)) 3 1⟩,
    ⟨some 112, none, ⟨[27, 28, 29, 30], [26]⟩, .ld true none 0 0 (.t 111)⟩,
    ⟨some 113, none, ⟨[], []⟩, .bslice 31 [.t 112]⟩,
    ⟨some 114, none, ⟨[], []⟩, .app 32 1 8 (.t 110) (.t 113)⟩,
    ⟨some 115, none, ⟨[], []⟩, .fld (.t 9) 2⟩,
    ⟨none, none, ⟨[], []⟩, .sto false 1 .i64 (.t 115) (.t 102)⟩,
    ⟨some 116, none, ⟨[], []⟩, .fld (.t 9) 3⟩,
    ⟨none, none, ⟨[], []⟩, .sto false 1 .i64 (.t 116) (.t 108)⟩,
    ⟨some 117, none, ⟨[], []⟩, .fld (.t 9) 4⟩,
    ⟨none, none, ⟨[], []⟩, .sto false 1 .i64 (.t 117) (.t 114)⟩] [12, 97, 98, 99, 100, 101, 102, 103, 104, 105, 106, 107, 108, 109, 110, 111, 112, 113, 114, 115, 116, 117] []))) (.reg false [⟨some 81, none, ⟨[], []⟩, .mov (.t 11)⟩,
    ⟨some 82, none, ⟨[], []⟩, .bin 0 .add (.t 81) (.k (.int .i64 1))⟩,
    ⟨some 11, none, ⟨[], []⟩, .mov (.t 82)⟩] [81, 82] []))
def r38_3 : IR :=
  .reg false [⟨some 75, none, ⟨[], []⟩, .mov (.t 10)⟩,
    ⟨some 76, none, ⟨[], []⟩, .bin 0 .add (.t 75) (.k (.int .i64 1))⟩,
    ⟨some 10, none, ⟨[], []⟩, .mov (.t 76)⟩] [11, 75, 76] []
def b38_1 : IR :=
  .seq (.seq (.reg false [⟨some 71, none, ⟨[], []⟩, .mov (.t 10)⟩,
    ⟨some 72, none, ⟨[], []⟩, .fld (.t 9) 1⟩,
    ⟨some 73, none, ⟨[], []⟩, .ld false none 0 0 (.t 72)⟩,
    ⟨some 74, none, ⟨[], []⟩, .bin 0 .lss (.t 71) (.t 73)⟩] [71, 72, 73] []) (.cond (.t 74) (.skip) (.exit 0))) (.seq (.block 1 (.seq (.reg false [⟨some 11, none, ⟨[], []⟩, .mov (.k (.int .i64 0))⟩] [74] []) (.block 2 (.loop b38_2)))) (r38_3))
def r38_4 : IR :=
  .seq (.reg false [⟨some 118, none, ⟨[], []⟩, .ld false (some 5) 0 0 (.t 9)⟩,
    ⟨none, none, ⟨[], []⟩, .sto false 5 .i64 (.t 6) (.t 118)⟩,
    ⟨some 7, none, ⟨[], []⟩, .mov (.k (.int .i64 0))⟩] [1, 3, 5, 9, 10, 118] []) (.ret)
def ir38 : IR :=
  .seq (.reg false [⟨some 3, none, ⟨[], []⟩, .box 10 (.t 0)⟩,
    ⟨some 5, none, ⟨[], []⟩, .box 11 (.t 2)⟩,
    ⟨some 6, none, ⟨[], []⟩, .alloc 12 [.int .i64 0, .int .i64 0, nilSV, nilSV, nilSV]⟩,
    ⟨some 7, none, ⟨[], []⟩, .mov (.k (.int .i64 0))⟩] [0, 2, 7] []) (.seq (.seq (.reg false [⟨some 14, none, ⟨[], []⟩, .ld false (some 5) 0 0 (.t 3)⟩,
    ⟨some 15, none, ⟨[], []⟩, .call (some 4) 13 16 [.t 14]⟩,
    ⟨some 16, none, ⟨[], []⟩, .not (.t 15)⟩] [14, 15] []) (.cond (.t 16) (.seq (.reg false [⟨some 17, none, ⟨[], []⟩, .build [.int .i64 0, .int .i64 0, nilSV, nilSV, nilSV] []⟩,
    ⟨none, none, ⟨[], []⟩, .sto false 5 .i64 (.t 6) (.t 17)⟩,
    ⟨some 7, none, ⟨[], []⟩, .mov (.k (.int .i64 75))⟩] [1, 3, 5, 16, 17] []) (.ret)) (.skip))) (.seq (.reg false [⟨some 18, none, ⟨[], []⟩, .fld (.t 5) 0⟩,
    ⟨some 19, none, ⟨[], []⟩, .ld false none 0 0 (.t 18)⟩,
    ⟨some 20, none, ⟨[], []⟩, .bin 0 .eql (.t 19) (.k (.int .i64 0))⟩,
    ⟨some 21, none, ⟨[], []⟩, .mov (.t 20)⟩,
    ⟨some 22, some (21, true), ⟨[], []⟩, .fld (.t 5) 1⟩,
    ⟨some 23, some (21, true), ⟨[], []⟩, .ld false none 0 0 (.t 22)⟩,
    ⟨some 24, some (21, true), ⟨[], []⟩, .bin 0 .eql (.t 23) (.k (.int .i64 0))⟩,
    ⟨some 25, none, ⟨[], []⟩, .pick (.t 21) (.t 24) (.k (.bool false))⟩,
    ⟨some 8, none, ⟨[], []⟩, .mov (.t 25)⟩] [7, 16, 18, 19, 20, 21, 22, 23, 24, 25] []) (.seq (.seq (.reg false [⟨some 26, none, ⟨[], []⟩, .mov (.t 1)⟩,
    ⟨some 27, none, ⟨[], []⟩, .bin 0 .lss (.t 26) (.k (.int .i64 1))⟩,
    ⟨some 28, none, ⟨[], []⟩, .mov (.t 27)⟩,
    ⟨some 29, some (28, false), ⟨[], []⟩, .mov (.t 1)⟩,
    ⟨some 30, some (28, false), ⟨[], []⟩, .bin 0 .gtr (.t 29) (.k (.int .i64 200))⟩,
    ⟨some 31, none, ⟨[], []⟩, .pick (.t 28) (.k (.bool true)) (.t 30)⟩,
    ⟨some 32, none, ⟨[], []⟩, .mov (.t 31)⟩,
    ⟨some 33, some (32, false), ⟨[], []⟩, .ld false (some 3) 0 0 (.t 5)⟩,
    ⟨some 34, some (32, false), ⟨[], []⟩, .call (some 4) 17 60 [.t 33]⟩,
    ⟨some 35, some (32, false), ⟨[], []⟩, .not (.t 34)⟩,
    ⟨some 36, none, ⟨[], []⟩, .pick (.t 32) (.k (.bool true)) (.t 35)⟩,
    ⟨some 37, none, ⟨[], []⟩, .mov (.t 36)⟩,
    ⟨some 38, some (37, false), ⟨[], []⟩, .mov (.t 8)⟩,
    ⟨some 39, some (37, false), ⟨[], []⟩, .not (.t 38)⟩,
    ⟨some 40, some (37, false), ⟨[], []⟩, .mov (.t 39)⟩,
    ⟨some 41, some (40, true), ⟨[], []⟩, .fld (.t 5) 0⟩,
    ⟨some 42, some (40, true), ⟨[], []⟩, .ld false none 0 0 (.t 41)⟩,
    ⟨some 43, some (40, true), ⟨[], []⟩, .fld (.t 3) 0⟩,
    ⟨some 44, some (40, true), ⟨[], []⟩, .ld false none 0 0 (.t 43)⟩,
    ⟨some 45, some (40, true), ⟨[], []⟩, .bin 0 .neq (.t 42) (.t 44)⟩,
    ⟨some 46, some (40, true), ⟨[], []⟩, .mov (.t 45)⟩,
    ⟨some 47, some (46, false), ⟨[], []⟩, .fld (.t 5) 1⟩,
    ⟨some 48, some (46, false), ⟨[], []⟩, .ld false none 0 0 (.t 47)⟩,
    ⟨some 49, some (46, false), ⟨[], []⟩, .fld (.t 3) 1⟩,
    ⟨some 50, some (46, false), ⟨[], []⟩, .ld false none 0 0 (.t 49)⟩,
    ⟨some 51, some (46, false), ⟨[], []⟩, .bin 0 .neq (.t 48) (.t 50)⟩,
    ⟨some 52, some (40, true), ⟨[], []⟩, .pick (.t 46) (.k (.bool true)) (.t 51)⟩,
    ⟨some 53, some (37, false), ⟨[], []⟩, .pick (.t 40) (.t 52) (.k (.bool false))⟩,
    ⟨some 54, none, ⟨[], []⟩, .pick (.t 37) (.k (.bool true)) (.t 53)⟩] [8, 26, 27, 28, 29, 30, 31, 32, 33, 34, 35, 36, 37, 38, 39, 40, 41, 42, 43, 44, 45, 46, 47, 48, 49, 50, 51, 52, 53] []) (.cond (.t 54) (.seq (.reg false [⟨some 55, none, ⟨[], []⟩, .build [.int .i64 0, .int .i64 0, nilSV, nilSV, nilSV] []⟩,
    ⟨none, none, ⟨[], []⟩, .sto false 5 .i64 (.t 6) (.t 55)⟩,
    ⟨some 7, none, ⟨[], []⟩, .mov (.k (.int .i64 2))⟩] [1, 3, 5, 54, 55] []) (.ret)) (.skip))) (.seq (.reg true [⟨some 56, none, ⟨[], []⟩, .fld (.t 3) 0⟩,
    ⟨some 57, none, ⟨[21], []⟩, .ld false none 0 0 (.t 56)⟩,
    ⟨some 58, none, ⟨[], []⟩, .mov (.t 1)⟩,
    ⟨some 59, none, ⟨[], []⟩, .bin 0 .add (.t 57) (.t 58)⟩,
    ⟨some 60, none, ⟨[], []⟩, .bin 0 .sub (.t 59) (.k (.int .i64 1))⟩,
    ⟨some 61, none, ⟨[], []⟩, .mov (.t 1)⟩,
    ⟨some 62, none, ⟨[], []⟩, .bin 0 .quo (.t 60) (.t 61)⟩,
    ⟨some 63, none, ⟨[], []⟩, .fld (.t 3) 1⟩,
    ⟨some 64, none, ⟨[21], []⟩, .ld false none 0 0 (.t 63)⟩,
    ⟨some 65, none, ⟨[], []⟩, .mov (.t 1)⟩,
    ⟨some 66, none, ⟨[], []⟩, .bin 0 .add (.t 64) (.t 65)⟩,
    ⟨some 67, none, ⟨[], []⟩, .bin 0 .sub (.t 66) (.k (.int .i64 1))⟩,
    ⟨some 68, none, ⟨[], []⟩, .mov (.t 1)⟩,
    ⟨some 69, none, ⟨[], []⟩, .bin 0 .quo (.t 67) (.t 68)⟩,
    ⟨some 70, none, ⟨[], []⟩, .build [.int .i64 0, .int .i64 0, nilSV, nilSV, nilSV] [(0, 1, .t 62), (1, 1, .t 69)]⟩,
    ⟨some 9, none, ⟨[], []⟩, .alloc 21 [.int .i64 0, .int .i64 0, nilSV, nilSV, nilSV]⟩,
    ⟨none, none, ⟨[], []⟩, .sto false 5 .i64 (.t 9) (.t 70)⟩] [7, 54, 56, 57, 58, 59, 60, 61, 62, 63, 64, 65, 66, 67, 68, 69, 70] []) (.seq (.seq (.reg false [⟨some 10, none, ⟨[], []⟩, .mov (.k (.int .i64 0))⟩] [] []) (.block 0 (.loop b38_1))) (r38_4))))))
def kp38_2 : List Nat := [1, 3, 5, 6, 9, 10, 11]
def kl38_2 : List Nat := [22, 23, 24, 25, 26, 27, 28, 29, 30, 31, 32]
attribute [push_cast] kp38_2 kl38_2
def kp38_1 : List Nat := [1, 3, 5, 6, 9, 10]
def kl38_1 : List Nat := [22, 23, 24, 25, 26, 27, 28, 29, 30, 31, 32]
attribute [push_cast] kp38_1 kl38_1
set_option maxRecDepth 4000 in
theorem comp38 : (Try.f38.body.bind fun c => compC tab isP chkAll ir38 c) = some ir38 := by kernel_rfl
theorem ceil_lt {w k u : Int} (hk : 1 ≤ k) (h : u < (w + k - 1) / k) : u * k < w := by
  have h1 : (u + 1) ≤ (w + k - 1) / k := by omega
  rw [Int.le_ediv_iff_mul_le (by omega)] at h1
  rw [Int.add_mul, Int.one_mul] at h1
  omega
set_option maxRecDepth 4000 in
set_option maxHeartbeats 2000000 in
theorem ok38 : FSOk Try.prog 38 fs37 := by
  refine ⟨⟨_, Try.func38, by kernel_rfl, by kernel_rfl⟩, fun a => ⟨by simp [fs37, imM, push_cast, noMine, argOwn, Chunk.frArg], by simp [fs37, imM, push_cast, outOk, Chunk.ext], fun x => .inl (by simp [fs37, imM, push_cast, frNew, frOut, Chunk.fr])⟩, fun a hp => ?_⟩
  obtain ⟨⟨⟨W, H, R, G, B⟩, L1, L2, L3⟩, k, ⟨⟨bw, bh, xs⟩, LB⟩⟩ := a
  obtain ⟨hp, hb, hb0⟩ := hp
  simp only at hb hb0
  change (⟨W, H, R, G, B⟩ : Im).small at hp
  change Tri Try.prog 38 [imV ⟨W, H, R, G, B⟩ L1 L2 L3 0, .int .i64 k, bmV ⟨bw, bh, xs⟩ LB 3] [some (.ro, L1, .ints .i64 R), some (.ro, L2, .ints .i64 G), some (.ro, L3, .ints .i64 B), some (.ro, LB, .ints .u8 xs)] (postF fs37 ⟨⟨⟨W, H, R, G, B⟩, L1, L2, L3⟩, k, ⟨⟨bw, bh, xs⟩, LB⟩⟩)
  refine tri_evS (hyp (l := [(16, ent16), (60, ent60), (65, ent65)]) (lp := []) ⟨e16, e60, e65, trivial⟩ trivial) Try.func38 comp38 (rs := [.cell 6 (some 5), .tmp 7]) (by rfl) Try.ntmps38 33 ?_
  by_cases hi : (⟨W, H, R, G, B⟩ : Im).Ok
  case neg =>
    have e : ¬ (⟨⟨⟨W, H, R, G, B⟩, L1, L2, L3⟩, k, ⟨⟨bw, bh, xs⟩, LB⟩⟩ : ShA).Ok := fun H => hi H.1
    simp -implicitDefEqProofs only [push_cast, false_implies, reduceCtorEq, Classical.not_not, Nat.reduceAdd, Nat.reduceSub, Nat.reduceMul, Nat.reduceLeDiff, Nat.reduceLT, Nat.reduceEqDiff, Nat.reduceBEq, Nat.reduceBNe, Int.reduceNeg, Int.reduceToNat, Bool.or_false, Bool.false_or, Bool.or_true, Bool.true_or, BEq.rfl, Bool.not_eq_true, Bool.not_eq_false, decide_eq_true_eq, not_true_eq_false, not_false_eq_true, ite_true, ite_false, List.append_nil, and_assoc, Nat.mul_zero, Nat.zero_mul, ir38, fs15, imV, bmV, hp, hi]
    intro X
    refine postF.mk' (fun _ => default) [some 0, some 1, some 2, some 3, none, none, none] ?_
    simp -implicitDefEqProofs only [push_cast, false_implies, reduceCtorEq, Classical.not_not, Nat.reduceAdd, Nat.reduceSub, Nat.reduceMul, Nat.reduceLeDiff, Nat.reduceLT, Nat.reduceEqDiff, Nat.reduceBEq, Nat.reduceBNe, Int.reduceNeg, Int.reduceToNat, Bool.or_false, Bool.false_or, Bool.or_true, Bool.true_or, BEq.rfl, Bool.not_eq_true, Bool.not_eq_false, decide_eq_true_eq, not_true_eq_false, not_false_eq_true, ite_true, ite_false, List.append_nil, and_assoc, Nat.mul_zero, Nat.zero_mul, fs37, imM, shrI, e, hi, if_false, lx, im0]
  by_cases hfit : (⟨⟨⟨W, H, R, G, B⟩, L1, L2, L3⟩, k, ⟨⟨bw, bh, xs⟩, LB⟩⟩ : ShA).fit
  case neg =>
    have e : ¬ (⟨⟨⟨W, H, R, G, B⟩, L1, L2, L3⟩, k, ⟨⟨bw, bh, xs⟩, LB⟩⟩ : ShA).Ok := fun H => hfit H.2
    by_cases c1 : k < 1
    · simp -implicitDefEqProofs only [push_cast, false_implies, reduceCtorEq, Classical.not_not, Nat.reduceAdd, Nat.reduceSub, Nat.reduceMul, Nat.reduceLeDiff, Nat.reduceLT, Nat.reduceEqDiff, Nat.reduceBEq, Nat.reduceBNe, Int.reduceNeg, Int.reduceToNat, Bool.or_false, Bool.false_or, Bool.or_true, Bool.true_or, BEq.rfl, Bool.not_eq_true, Bool.not_eq_false, decide_eq_true_eq, not_true_eq_false, not_false_eq_true, ite_true, ite_false, List.append_nil, and_assoc, Nat.mul_zero, Nat.zero_mul, ir38, fs15, fs57, imV, bmV, hp, hi, hb, c1]
      intro X
      refine postF.mk' (fun _ => default) [some 0, some 1, some 2, some 3, none, none, none] ?_
      simp -implicitDefEqProofs only [push_cast, false_implies, reduceCtorEq, Classical.not_not, Nat.reduceAdd, Nat.reduceSub, Nat.reduceMul, Nat.reduceLeDiff, Nat.reduceLT, Nat.reduceEqDiff, Nat.reduceBEq, Nat.reduceBNe, Int.reduceNeg, Int.reduceToNat, Bool.or_false, Bool.false_or, Bool.or_true, Bool.true_or, BEq.rfl, Bool.not_eq_true, Bool.not_eq_false, decide_eq_true_eq, not_true_eq_false, not_false_eq_true, ite_true, ite_false, List.append_nil, and_assoc, Nat.mul_zero, Nat.zero_mul, fs37, imM, shrI, e, hi, if_false, if_true, lx, im0]
    by_cases c2 : 200 < k
    · simp -implicitDefEqProofs only [push_cast, false_implies, reduceCtorEq, Classical.not_not, Nat.reduceAdd, Nat.reduceSub, Nat.reduceMul, Nat.reduceLeDiff, Nat.reduceLT, Nat.reduceEqDiff, Nat.reduceBEq, Nat.reduceBNe, Int.reduceNeg, Int.reduceToNat, Bool.or_false, Bool.false_or, Bool.or_true, Bool.true_or, BEq.rfl, Bool.not_eq_true, Bool.not_eq_false, decide_eq_true_eq, not_true_eq_false, not_false_eq_true, ite_true, ite_false, List.append_nil, and_assoc, Nat.mul_zero, Nat.zero_mul, ir38, fs15, fs57, imV, bmV, hp, hi, hb, c1, c2]
      intro X
      refine postF.mk' (fun _ => default) [some 0, some 1, some 2, some 3, none, none, none] ?_
      simp -implicitDefEqProofs only [push_cast, false_implies, reduceCtorEq, Classical.not_not, Nat.reduceAdd, Nat.reduceSub, Nat.reduceMul, Nat.reduceLeDiff, Nat.reduceLT, Nat.reduceEqDiff, Nat.reduceBEq, Nat.reduceBNe, Int.reduceNeg, Int.reduceToNat, Bool.or_false, Bool.false_or, Bool.or_true, Bool.true_or, BEq.rfl, Bool.not_eq_true, Bool.not_eq_false, decide_eq_true_eq, not_true_eq_false, not_false_eq_true, ite_true, ite_false, List.append_nil, and_assoc, Nat.mul_zero, Nat.zero_mul, fs37, imM, shrI, e, hi, if_false, if_true, lx, im0]
    by_cases c3 : (⟨bw, bh, xs⟩ : Bm).Ok
    case neg =>
      simp -implicitDefEqProofs only [push_cast, false_implies, reduceCtorEq, Classical.not_not, Nat.reduceAdd, Nat.reduceSub, Nat.reduceMul, Nat.reduceLeDiff, Nat.reduceLT, Nat.reduceEqDiff, Nat.reduceBEq, Nat.reduceBNe, Int.reduceNeg, Int.reduceToNat, Bool.or_false, Bool.false_or, Bool.or_true, Bool.true_or, BEq.rfl, Bool.not_eq_true, Bool.not_eq_false, decide_eq_true_eq, not_true_eq_false, not_false_eq_true, ite_true, ite_false, List.append_nil, and_assoc, Nat.mul_zero, Nat.zero_mul, ir38, fs15, fs57, imV, bmV, hp, hi, hb, c1, c2, c3]
      intro X
      refine postF.mk' (fun _ => default) [some 0, some 1, some 2, some 3, none, none, none] ?_
      simp -implicitDefEqProofs only [push_cast, false_implies, reduceCtorEq, Classical.not_not, Nat.reduceAdd, Nat.reduceSub, Nat.reduceMul, Nat.reduceLeDiff, Nat.reduceLT, Nat.reduceEqDiff, Nat.reduceBEq, Nat.reduceBNe, Int.reduceNeg, Int.reduceToNat, Bool.or_false, Bool.false_or, Bool.or_true, Bool.true_or, BEq.rfl, Bool.not_eq_true, Bool.not_eq_false, decide_eq_true_eq, not_true_eq_false, not_false_eq_true, ite_true, ite_false, List.append_nil, and_assoc, Nat.mul_zero, Nat.zero_mul, fs37, imM, shrI, e, hi, if_false, if_true, lx, im0]
    by_cases c4 : bw = 0 ∧ bh = 0
    · exact absurd ⟨show 1 ≤ k by omega, show k ≤ 200 by omega, c3, .inl c4⟩ hfit
    by_cases c5 : bw = W
    case neg =>
      simp -implicitDefEqProofs only [push_cast, false_implies, reduceCtorEq, Classical.not_not, Nat.reduceAdd, Nat.reduceSub, Nat.reduceMul, Nat.reduceLeDiff, Nat.reduceLT, Nat.reduceEqDiff, Nat.reduceBEq, Nat.reduceBNe, Int.reduceNeg, Int.reduceToNat, Bool.or_false, Bool.false_or, Bool.or_true, Bool.true_or, BEq.rfl, Bool.not_eq_true, Bool.not_eq_false, decide_eq_true_eq, not_true_eq_false, not_false_eq_true, ite_true, ite_false, List.append_nil, and_assoc, Nat.mul_zero, Nat.zero_mul, ir38, fs15, fs57, imV, bmV, hp, hi, hb, c1, c2, c3, c4, c5]
      intro X
      refine postF.mk' (fun _ => default) [some 0, some 1, some 2, some 3, none, none, none] ?_
      simp -implicitDefEqProofs only [push_cast, false_implies, reduceCtorEq, Classical.not_not, Nat.reduceAdd, Nat.reduceSub, Nat.reduceMul, Nat.reduceLeDiff, Nat.reduceLT, Nat.reduceEqDiff, Nat.reduceBEq, Nat.reduceBNe, Int.reduceNeg, Int.reduceToNat, Bool.or_false, Bool.false_or, Bool.or_true, Bool.true_or, BEq.rfl, Bool.not_eq_true, Bool.not_eq_false, decide_eq_true_eq, not_true_eq_false, not_false_eq_true, ite_true, ite_false, List.append_nil, and_assoc, Nat.mul_zero, Nat.zero_mul, fs37, imM, shrI, e, hi, if_false, if_true, lx, im0]
    by_cases c6 : bh = H
    · exact absurd ⟨show 1 ≤ k by omega, show k ≤ 200 by omega, c3, .inr ⟨c5, c6⟩⟩ hfit
    subst c5
    simp -implicitDefEqProofs only [push_cast, false_implies, reduceCtorEq, Classical.not_not, Nat.reduceAdd, Nat.reduceSub, Nat.reduceMul, Nat.reduceLeDiff, Nat.reduceLT, Nat.reduceEqDiff, Nat.reduceBEq, Nat.reduceBNe, Int.reduceNeg, Int.reduceToNat, Bool.or_false, Bool.false_or, Bool.or_true, Bool.true_or, BEq.rfl, Bool.not_eq_true, Bool.not_eq_false, decide_eq_true_eq, not_true_eq_false, not_false_eq_true, ite_true, ite_false, List.append_nil, and_assoc, Nat.mul_zero, Nat.zero_mul, ir38, fs15, fs57, imV, bmV, hp, hi, hb, c1, c2, c3, c4, c6]
    intro X
    refine postF.mk' (fun _ => default) [some 0, some 1, some 2, some 3, none, none, none] ?_
    simp -implicitDefEqProofs only [push_cast, false_implies, reduceCtorEq, Classical.not_not, Nat.reduceAdd, Nat.reduceSub, Nat.reduceMul, Nat.reduceLeDiff, Nat.reduceLT, Nat.reduceEqDiff, Nat.reduceBEq, Nat.reduceBNe, Int.reduceNeg, Int.reduceToNat, Bool.or_false, Bool.false_or, Bool.or_true, Bool.true_or, BEq.rfl, Bool.not_eq_true, Bool.not_eq_false, decide_eq_true_eq, not_true_eq_false, not_false_eq_true, ite_true, ite_false, List.append_nil, and_assoc, Nat.mul_zero, Nat.zero_mul, fs37, imM, shrI, e, hi, if_false, if_true, lx, im0]
  have hok : (⟨⟨⟨W, H, R, G, B⟩, L1, L2, L3⟩, k, ⟨⟨bw, bh, xs⟩, LB⟩⟩ : ShA).Ok := ⟨hi, hfit⟩
  obtain ⟨f1, f2, f3, f4⟩ : 1 ≤ k ∧ k ≤ 200 ∧ (⟨bw, bh, xs⟩ : Bm).Ok ∧ ((bw = 0 ∧ bh = 0) ∨ (bw = W ∧ bh = H)) := hfit
  obtain ⟨a1, a2, a3, a4, a5⟩ : SidesOk W H := hi.1
  obtain ⟨W, rfl⟩ : ∃ n : Nat, W = n := ⟨W.toNat, by omega⟩
  obtain ⟨H, rfl⟩ : ∃ n : Nat, H = n := ⟨H.toNat, by omega⟩
  obtain ⟨K, rfl⟩ : ∃ n : Nat, k = n := ⟨k.toNat, by omega⟩
  have g1 : ¬ (K : Int) < 1 := by omega
  have g2 : ¬ (200 : Int) < K := by omega
  have g4 : ¬ (bw = 0 ∧ bh = 0) → W = bw ∧ H = bh := fun h => by omega
  obtain ⟨o1, o2, o3⟩ := ceil_bd a1 f1
  obtain ⟨o4, o5, o6⟩ := ceil_bd a2 f1
  have hS : SidesOk (((W : Int) + K - 1) / K) (((H : Int) + K - 1) / K) := ⟨o1, o4, by omega, by omega, Int.le_trans (Int.mul_le_mul o2 o5 o4 a1) a5⟩
  obtain ⟨O, hO⟩ : ∃ n : Nat, ((W : Int) + K - 1) / K = n := ⟨(((W : Int) + K - 1) / K).toNat, by omega⟩
  obtain ⟨P, hP⟩ : ∃ n : Nat, ((H : Int) + K - 1) / K = n := ⟨(((H : Int) + K - 1) / K).toNat, by omega⟩
  have cO : ceilN W K = O := by unfold ceilN; rw [hO]; rfl
  have cP : ceilN H K = P := by unfold ceilN; rw [hP]; rfl
  rw [hO, hP] at hS
  rw [hO] at o1 o2 o3
  rw [hP] at o4 o5 o6
  have hN8 := hS.bd
  obtain ⟨v1, v2, v3⟩ := hi.val
  simp only at v1 v2 v3
  have hl : (R.length : Int) = W * H := hi.2.1.1
  have hlB : R.length = H * W := by rw [← Int.ofNat_inj]; rw [hl]; rw [Int.natCast_mul, Int.mul_comm]
  have o7 : ∀ u : Int, u < O → u * K < W := fun u h => ceil_lt f1 (by rw [hO]; exact h)
  have o8 : ∀ u : Int, u < P → u * K < H := fun u h => ceil_lt f1 (by rw [hP]; exact h)
  have o9 : ∀ u : Nat, u < W → u / K < O := fun u h => by have := (o3 u (by omega) (by omega)).2; rw [← Int.natCast_ediv] at this; omega
  by_cases c4 : bw = 0 ∧ bh = 0
  · obtain ⟨rfl, rfl⟩ := c4
    simp -implicitDefEqProofs only [push_cast, false_implies, reduceCtorEq, Classical.not_not, Nat.reduceAdd, Nat.reduceSub, Nat.reduceMul, Nat.reduceLeDiff, Nat.reduceLT, Nat.reduceEqDiff, Nat.reduceBEq, Nat.reduceBNe, Int.reduceNeg, Int.reduceToNat, Bool.or_false, Bool.false_or, Bool.or_true, Bool.true_or, BEq.rfl, Bool.not_eq_true, Bool.not_eq_false, decide_eq_true_eq, not_true_eq_false, not_false_eq_true, ite_true, ite_false, List.append_nil, and_assoc, Nat.mul_zero, Nat.zero_mul, ir38, fs15, fs57, imV, bmV, hp, hi, hb, g1, g2, f3, hO, hP]
    intro X X1
    repeat (refine And.intro (by first | omega | trivial | (intros; omega)) ?_)
    obtain ⟨C, hC⟩ : ∃ C : ShA, (⟨⟨⟨W, H, R, G, B⟩, L1, L2, L3⟩, K, ⟨⟨0, 0, xs⟩, LB⟩⟩ : ShA) = C := ⟨_, rfl⟩
    have e1 : ∀ f a, shF C f a = shO (smF W K O ⟨0, 0, xs⟩ ⟨W, H, R, G, B⟩ R.length a).n (f (smF W K O ⟨0, 0, xs⟩ ⟨W, H, R, G, B⟩ R.length a)) := fun f a => by rw [← hC]; unfold shF; simp only [Int.toNat_natCast, cO]
    have hsm : ((0 : Int) = 0 ∧ (0 : Int) = 0) ∨ ((0 : Int) = (W : Int) ∧ (0 : Int) = (H : Int)) := .inl ⟨rfl, rfl⟩
    refine evS_loopU (A := L3T) kp38_1 kl38_1 (fun y => [(10, .int .i64 y.1)])
      (fun y => [(21, .mine, X1 15 21, .cells [.int .i64 O, .int .i64 P, .sl 28 y.2.1 1 0 ((y.1 * O : Nat) : Int), .sl 30 y.2.2.1 1 0 ((y.1 * O : Nat) : Int), .sl 32 y.2.2.2 1 0 ((y.1 * O : Nat) : Int)]), (28, .mine, y.2.1, .ints .i64 (tabl (y.1 * O) (shF C Sm.r))), (30, .mine, y.2.2.1, .ints .i64 (tabl (y.1 * O) (shF C Sm.g))), (32, .mine, y.2.2.2, .ints .i64 (tabl (y.1 * O) (shF C Sm.b)))])
      (fun y => y.1 ≤ P) (fun y => P - y.1) (0, nilLoc, nilLoc, nilLoc) (Nat.zero_le _) (Sub.pt ?_) ?_
    · simp -implicitDefEqProofs only [push_cast, false_implies, reduceCtorEq, Classical.not_not, Nat.reduceAdd, Nat.reduceSub, Nat.reduceMul, Nat.reduceLeDiff, Nat.reduceLT, Nat.reduceEqDiff, Nat.reduceBEq, Nat.reduceBNe, Int.reduceNeg, Int.reduceToNat, Bool.or_false, Bool.false_or, Bool.or_true, Bool.true_or, BEq.rfl, Bool.not_eq_true, Bool.not_eq_false, decide_eq_true_eq, not_true_eq_false, not_false_eq_true, ite_true, ite_false, List.append_nil, and_assoc, Nat.mul_zero, Nat.zero_mul, Nat.zero_mul, tabl_zero]
    intro ⟨v, N1, N2, N3⟩ (hv : v ≤ P) Kk hK
    by_cases hv' : v < P
    · have hvI : (v : Int) < P := by omega
      obtain ⟨yv, hyv⟩ : ∃ n, v * K = n := ⟨_, rfl⟩
      have hyvI : (v : Int) * K = yv := by rw [← hyv]; push_cast
      have hyH : (yv : Int) < H := by rw [← hyvI]; exact o8 _ hvI
      have hvO := mul_bd (a := (v : Int)) (b := (O : Int)) (A := 200) (B := 200) (by omega) (by omega) (by omega) (by omega)
      simp -implicitDefEqProofs only [push_cast, false_implies, reduceCtorEq, Classical.not_not, Nat.reduceAdd, Nat.reduceSub, Nat.reduceMul, Nat.reduceLeDiff, Nat.reduceLT, Nat.reduceEqDiff, Nat.reduceBEq, Nat.reduceBNe, Int.reduceNeg, Int.reduceToNat, Bool.or_false, Bool.false_or, Bool.or_true, Bool.true_or, BEq.rfl, Bool.not_eq_true, Bool.not_eq_false, decide_eq_true_eq, not_true_eq_false, not_false_eq_true, ite_true, ite_false, List.append_nil, and_assoc, Nat.mul_zero, Nat.zero_mul, b38_1, hvI]
      refine evS_loopU (A := L3T) kp38_2 kl38_2 (fun y => [(11, .int .i64 y.1)])
        (fun y => [(21, .mine, X1 15 21, .cells [.int .i64 O, .int .i64 P, .sl 28 y.2.1 1 0 ((v * O + y.1 : Nat) : Int), .sl 30 y.2.2.1 1 0 ((v * O + y.1 : Nat) : Int), .sl 32 y.2.2.2 1 0 ((v * O + y.1 : Nat) : Int)]), (28, .mine, y.2.1, .ints .i64 (tabl (v * O + y.1) (shF C Sm.r))), (30, .mine, y.2.2.1, .ints .i64 (tabl (v * O + y.1) (shF C Sm.g))), (32, .mine, y.2.2.2, .ints .i64 (tabl (v * O + y.1) (shF C Sm.b)))])
        (fun y => y.1 ≤ O) (fun y => O - y.1) (0, N1, N2, N3) (Nat.zero_le _) (Sub.pt ?_) ?_
      · simp -implicitDefEqProofs only [push_cast, false_implies, reduceCtorEq, Classical.not_not, Nat.reduceAdd, Nat.reduceSub, Nat.reduceMul, Nat.reduceLeDiff, Nat.reduceLT, Nat.reduceEqDiff, Nat.reduceBEq, Nat.reduceBNe, Int.reduceNeg, Int.reduceToNat, Bool.or_false, Bool.false_or, Bool.or_true, Bool.true_or, BEq.rfl, Bool.not_eq_true, Bool.not_eq_false, decide_eq_true_eq, not_true_eq_false, not_false_eq_true, ite_true, ite_false, List.append_nil, and_assoc, Nat.mul_zero, Nat.zero_mul, Nat.add_zero]
      intro ⟨u, K1, K2, K3⟩ (hu : u ≤ O) Ki hKi
      by_cases hu' : u < O
      · have huI : (u : Int) < O := by omega
        obtain ⟨xu, hxu⟩ : ∃ n, u * K = n := ⟨_, rfl⟩
        have hxuI : (u : Int) * K = xu := by rw [← hxu]; push_cast
        have hxW : (xu : Int) < W := by rw [← hxuI]; exact o7 _ huI
        have am := fun f => am_sm (W := W) (H := H) (K := K) (O := O) (q := u) (p := v) (b := ⟨0, 0, xs⟩) (f := f) (by omega) o9 hu' (by omega) (by omega)
        rw [hxu, hyv, ← hlB] at am
        have hvv : ∀ f, (⟨⟨⟨W, H, R, G, B⟩, L1, L2, L3⟩, ⟨⟨0, 0, xs⟩, LB⟩, xu, yv, K⟩ : AmA).v f = sumF (smG W K O ⟨0, 0, xs⟩ f (v * O + u)) R.length := fun f => by unfold AmA.v; simp only [Int.toNat_natCast]; exact am f
        have qr := e1 Sm.r (v * O + u)
        have qg := e1 Sm.g (v * O + u)
        have qb := e1 Sm.b (v * O + u)
        simp only [smF] at qr qg qb
        rw [← hvv, ← hvv] at qr qg qb
        have tr := tabl_snoc (v * O + u) (shF C Sm.r)
        have tg := tabl_snoc (v * O + u) (shF C Sm.g)
        have tb := tabl_snoc (v * O + u) (shF C Sm.b)
        rw [qr] at tr
        rw [qg] at tg
        rw [qb] at tb
        obtain ⟨n, hn⟩ : ∃ n, v * O + u = n := ⟨_, rfl⟩
        have hn1 : v * O + (u + 1) = n + 1 := by omega
        have hnb : (n : Int) < 40200 := by rw [← hn]; push_cast; omega
        rw [hn] at tr tg tb
        have lr := tabl_length n (shF C Sm.r)
        have lg := tabl_length n (shF C Sm.g)
        have lb := tabl_length n (shF C Sm.b)
        simp only [hn]
        simp -implicitDefEqProofs only [push_cast, false_implies, reduceCtorEq, Classical.not_not, Nat.reduceAdd, Nat.reduceSub, Nat.reduceMul, Nat.reduceLeDiff, Nat.reduceLT, Nat.reduceEqDiff, Nat.reduceBEq, Nat.reduceBNe, Int.reduceNeg, Int.reduceToNat, Bool.or_false, Bool.false_or, Bool.or_true, Bool.true_or, BEq.rfl, Bool.not_eq_true, Bool.not_eq_false, decide_eq_true_eq, not_true_eq_false, not_false_eq_true, ite_true, ite_false, List.append_nil, and_assoc, Nat.mul_zero, Nat.zero_mul, b38_2, huI, fs65, imV, bmV, imM, hi, f3, hb0, hsm, hxuI, hyvI, hxW, hyH, lr, lg, lb, rd30, rd31, rd32, Int.toNat_natCast]
        intro X4
        refine ⟨by omega, by omega, by omega, by omega, hb0, by omega, fun X5 => ?_⟩
        repeat (refine And.intro (by first | omega | trivial | (intros; omega)) ?_)
        refine hKi (u + 1, X5 5 28, X5 11 30, X5 17 32) (show u + 1 ≤ O by omega) (show O - (u + 1) < O - u by omega) _ _ (Sub.pt ?_)
        simp only [hn1]
        simp -implicitDefEqProofs only [push_cast, false_implies, reduceCtorEq, Classical.not_not, Nat.reduceAdd, Nat.reduceSub, Nat.reduceMul, Nat.reduceLeDiff, Nat.reduceLT, Nat.reduceEqDiff, Nat.reduceBEq, Nat.reduceBNe, Int.reduceNeg, Int.reduceToNat, Bool.or_false, Bool.false_or, Bool.or_true, Bool.true_or, BEq.rfl, Bool.not_eq_true, Bool.not_eq_false, decide_eq_true_eq, not_true_eq_false, not_false_eq_true, ite_true, ite_false, List.append_nil, and_assoc, Nat.mul_zero, Nat.zero_mul, tr, tg, tb]
      · obtain rfl : u = O := by omega
        clear hKi
        simp -implicitDefEqProofs only [push_cast, false_implies, reduceCtorEq, Classical.not_not, Nat.reduceAdd, Nat.reduceSub, Nat.reduceMul, Nat.reduceLeDiff, Nat.reduceLT, Nat.reduceEqDiff, Nat.reduceBEq, Nat.reduceBNe, Int.reduceNeg, Int.reduceToNat, Bool.or_false, Bool.false_or, Bool.or_true, Bool.true_or, BEq.rfl, Bool.not_eq_true, Bool.not_eq_false, decide_eq_true_eq, not_true_eq_false, not_false_eq_true, ite_true, ite_false, List.append_nil, and_assoc, Nat.mul_zero, Nat.zero_mul, b38_2, r38_3, Int.lt_irrefl, true_implies, true_and]
        repeat (refine And.intro (by first | omega | trivial | (intros; omega)) ?_)
        refine hK (v + 1, K1, K2, K3) (show v + 1 ≤ P by omega) (show P - (v + 1) < P - v by omega) _ _ (Sub.pt ?_)
        simp -implicitDefEqProofs only [push_cast, false_implies, reduceCtorEq, Classical.not_not, Nat.reduceAdd, Nat.reduceSub, Nat.reduceMul, Nat.reduceLeDiff, Nat.reduceLT, Nat.reduceEqDiff, Nat.reduceBEq, Nat.reduceBNe, Int.reduceNeg, Int.reduceToNat, Bool.or_false, Bool.false_or, Bool.or_true, Bool.true_or, BEq.rfl, Bool.not_eq_true, Bool.not_eq_false, decide_eq_true_eq, not_true_eq_false, not_false_eq_true, ite_true, ite_false, List.append_nil, and_assoc, Nat.mul_zero, Nat.zero_mul, Nat.add_mul, Nat.one_mul]
    · obtain rfl : v = P := by omega
      clear hK
      have hPO : v * O = O * v := Nat.mul_comm _ _
      simp -implicitDefEqProofs only [push_cast, false_implies, reduceCtorEq, Classical.not_not, Nat.reduceAdd, Nat.reduceSub, Nat.reduceMul, Nat.reduceLeDiff, Nat.reduceLT, Nat.reduceEqDiff, Nat.reduceBEq, Nat.reduceBNe, Int.reduceNeg, Int.reduceToNat, Bool.or_false, Bool.false_or, Bool.or_true, Bool.true_or, BEq.rfl, Bool.not_eq_true, Bool.not_eq_false, decide_eq_true_eq, not_true_eq_false, not_false_eq_true, ite_true, ite_false, List.append_nil, and_assoc, Nat.mul_zero, Nat.zero_mul, b38_1, r38_4, hPO, Int.lt_irrefl, true_implies, true_and]
      subst hC
      refine postF.mk' (locs [N1, N2, N3]) [some 0, some 1, some 2, some 3, some 28, some 30, some 32] ?_
      simp -implicitDefEqProofs only [push_cast, false_implies, reduceCtorEq, Classical.not_not, Nat.reduceAdd, Nat.reduceSub, Nat.reduceMul, Nat.reduceLeDiff, Nat.reduceLT, Nat.reduceEqDiff, Nat.reduceBEq, Nat.reduceBNe, Int.reduceNeg, Int.reduceToNat, Bool.or_false, Bool.false_or, Bool.or_true, Bool.true_or, BEq.rfl, Bool.not_eq_true, Bool.not_eq_false, decide_eq_true_eq, not_true_eq_false, not_false_eq_true, ite_true, ite_false, List.append_nil, and_assoc, Nat.mul_zero, Nat.zero_mul, fs37, imM, shrI, hok, hi, if_true, lx, shL, tabl_length, cO, cP]
  · obtain ⟨rfl, rfl⟩ := g4 c4
    simp -implicitDefEqProofs only [push_cast, false_implies, reduceCtorEq, Classical.not_not, Nat.reduceAdd, Nat.reduceSub, Nat.reduceMul, Nat.reduceLeDiff, Nat.reduceLT, Nat.reduceEqDiff, Nat.reduceBEq, Nat.reduceBNe, Int.reduceNeg, Int.reduceToNat, Bool.or_false, Bool.false_or, Bool.or_true, Bool.true_or, BEq.rfl, Bool.not_eq_true, Bool.not_eq_false, decide_eq_true_eq, not_true_eq_false, not_false_eq_true, ite_true, ite_false, List.append_nil, and_assoc, Nat.mul_zero, Nat.zero_mul, ir38, fs15, fs57, imV, bmV, hp, hi, hb, g1, g2, f3, hO, hP, c4]
    intro X X1
    repeat (refine And.intro (by first | omega | trivial | (intros; omega)) ?_)
    obtain ⟨C, hC⟩ : ∃ C : ShA, (⟨⟨⟨W, H, R, G, B⟩, L1, L2, L3⟩, K, ⟨⟨W, H, xs⟩, LB⟩⟩ : ShA) = C := ⟨_, rfl⟩
    have e1 : ∀ f a, shF C f a = shO (smF W K O ⟨W, H, xs⟩ ⟨W, H, R, G, B⟩ R.length a).n (f (smF W K O ⟨W, H, xs⟩ ⟨W, H, R, G, B⟩ R.length a)) := fun f a => by rw [← hC]; unfold shF; simp only [Int.toNat_natCast, cO]
    have hsm : ((W : Int) = 0 ∧ (H : Int) = 0) ∨ ((W : Int) = (W : Int) ∧ (H : Int) = (H : Int)) := .inr ⟨rfl, rfl⟩
    refine evS_loopU (A := L3T) kp38_1 kl38_1 (fun y => [(10, .int .i64 y.1)])
      (fun y => [(21, .mine, X1 15 21, .cells [.int .i64 O, .int .i64 P, .sl 28 y.2.1 1 0 ((y.1 * O : Nat) : Int), .sl 30 y.2.2.1 1 0 ((y.1 * O : Nat) : Int), .sl 32 y.2.2.2 1 0 ((y.1 * O : Nat) : Int)]), (28, .mine, y.2.1, .ints .i64 (tabl (y.1 * O) (shF C Sm.r))), (30, .mine, y.2.2.1, .ints .i64 (tabl (y.1 * O) (shF C Sm.g))), (32, .mine, y.2.2.2, .ints .i64 (tabl (y.1 * O) (shF C Sm.b)))])
      (fun y => y.1 ≤ P) (fun y => P - y.1) (0, nilLoc, nilLoc, nilLoc) (Nat.zero_le _) (Sub.pt ?_) ?_
    · simp -implicitDefEqProofs only [push_cast, false_implies, reduceCtorEq, Classical.not_not, Nat.reduceAdd, Nat.reduceSub, Nat.reduceMul, Nat.reduceLeDiff, Nat.reduceLT, Nat.reduceEqDiff, Nat.reduceBEq, Nat.reduceBNe, Int.reduceNeg, Int.reduceToNat, Bool.or_false, Bool.false_or, Bool.or_true, Bool.true_or, BEq.rfl, Bool.not_eq_true, Bool.not_eq_false, decide_eq_true_eq, not_true_eq_false, not_false_eq_true, ite_true, ite_false, List.append_nil, and_assoc, Nat.mul_zero, Nat.zero_mul, Nat.zero_mul, tabl_zero]
    intro ⟨v, N1, N2, N3⟩ (hv : v ≤ P) Kk hK
    by_cases hv' : v < P
    · have hvI : (v : Int) < P := by omega
      obtain ⟨yv, hyv⟩ : ∃ n, v * K = n := ⟨_, rfl⟩
      have hyvI : (v : Int) * K = yv := by rw [← hyv]; push_cast
      have hyH : (yv : Int) < H := by rw [← hyvI]; exact o8 _ hvI
      have hvO := mul_bd (a := (v : Int)) (b := (O : Int)) (A := 200) (B := 200) (by omega) (by omega) (by omega) (by omega)
      simp -implicitDefEqProofs only [push_cast, false_implies, reduceCtorEq, Classical.not_not, Nat.reduceAdd, Nat.reduceSub, Nat.reduceMul, Nat.reduceLeDiff, Nat.reduceLT, Nat.reduceEqDiff, Nat.reduceBEq, Nat.reduceBNe, Int.reduceNeg, Int.reduceToNat, Bool.or_false, Bool.false_or, Bool.or_true, Bool.true_or, BEq.rfl, Bool.not_eq_true, Bool.not_eq_false, decide_eq_true_eq, not_true_eq_false, not_false_eq_true, ite_true, ite_false, List.append_nil, and_assoc, Nat.mul_zero, Nat.zero_mul, b38_1, hvI]
      refine evS_loopU (A := L3T) kp38_2 kl38_2 (fun y => [(11, .int .i64 y.1)])
        (fun y => [(21, .mine, X1 15 21, .cells [.int .i64 O, .int .i64 P, .sl 28 y.2.1 1 0 ((v * O + y.1 : Nat) : Int), .sl 30 y.2.2.1 1 0 ((v * O + y.1 : Nat) : Int), .sl 32 y.2.2.2 1 0 ((v * O + y.1 : Nat) : Int)]), (28, .mine, y.2.1, .ints .i64 (tabl (v * O + y.1) (shF C Sm.r))), (30, .mine, y.2.2.1, .ints .i64 (tabl (v * O + y.1) (shF C Sm.g))), (32, .mine, y.2.2.2, .ints .i64 (tabl (v * O + y.1) (shF C Sm.b)))])
        (fun y => y.1 ≤ O) (fun y => O - y.1) (0, N1, N2, N3) (Nat.zero_le _) (Sub.pt ?_) ?_
      · simp -implicitDefEqProofs only [push_cast, false_implies, reduceCtorEq, Classical.not_not, Nat.reduceAdd, Nat.reduceSub, Nat.reduceMul, Nat.reduceLeDiff, Nat.reduceLT, Nat.reduceEqDiff, Nat.reduceBEq, Nat.reduceBNe, Int.reduceNeg, Int.reduceToNat, Bool.or_false, Bool.false_or, Bool.or_true, Bool.true_or, BEq.rfl, Bool.not_eq_true, Bool.not_eq_false, decide_eq_true_eq, not_true_eq_false, not_false_eq_true, ite_true, ite_false, List.append_nil, and_assoc, Nat.mul_zero, Nat.zero_mul, Nat.add_zero]
      intro ⟨u, K1, K2, K3⟩ (hu : u ≤ O) Ki hKi
      by_cases hu' : u < O
      · have huI : (u : Int) < O := by omega
        obtain ⟨xu, hxu⟩ : ∃ n, u * K = n := ⟨_, rfl⟩
        have hxuI : (u : Int) * K = xu := by rw [← hxu]; push_cast
        have hxW : (xu : Int) < W := by rw [← hxuI]; exact o7 _ huI
        have am := fun f => am_sm (W := W) (H := H) (K := K) (O := O) (q := u) (p := v) (b := ⟨W, H, xs⟩) (f := f) (by omega) o9 hu' (by omega) (by omega)
        rw [hxu, hyv, ← hlB] at am
        have hvv : ∀ f, (⟨⟨⟨W, H, R, G, B⟩, L1, L2, L3⟩, ⟨⟨W, H, xs⟩, LB⟩, xu, yv, K⟩ : AmA).v f = sumF (smG W K O ⟨W, H, xs⟩ f (v * O + u)) R.length := fun f => by unfold AmA.v; simp only [Int.toNat_natCast]; exact am f
        have qr := e1 Sm.r (v * O + u)
        have qg := e1 Sm.g (v * O + u)
        have qb := e1 Sm.b (v * O + u)
        simp only [smF] at qr qg qb
        rw [← hvv, ← hvv] at qr qg qb
        have tr := tabl_snoc (v * O + u) (shF C Sm.r)
        have tg := tabl_snoc (v * O + u) (shF C Sm.g)
        have tb := tabl_snoc (v * O + u) (shF C Sm.b)
        rw [qr] at tr
        rw [qg] at tg
        rw [qb] at tb
        obtain ⟨n, hn⟩ : ∃ n, v * O + u = n := ⟨_, rfl⟩
        have hn1 : v * O + (u + 1) = n + 1 := by omega
        have hnb : (n : Int) < 40200 := by rw [← hn]; push_cast; omega
        rw [hn] at tr tg tb
        have lr := tabl_length n (shF C Sm.r)
        have lg := tabl_length n (shF C Sm.g)
        have lb := tabl_length n (shF C Sm.b)
        simp only [hn]
        simp -implicitDefEqProofs only [push_cast, false_implies, reduceCtorEq, Classical.not_not, Nat.reduceAdd, Nat.reduceSub, Nat.reduceMul, Nat.reduceLeDiff, Nat.reduceLT, Nat.reduceEqDiff, Nat.reduceBEq, Nat.reduceBNe, Int.reduceNeg, Int.reduceToNat, Bool.or_false, Bool.false_or, Bool.or_true, Bool.true_or, BEq.rfl, Bool.not_eq_true, Bool.not_eq_false, decide_eq_true_eq, not_true_eq_false, not_false_eq_true, ite_true, ite_false, List.append_nil, and_assoc, Nat.mul_zero, Nat.zero_mul, b38_2, huI, fs65, imV, bmV, imM, hi, f3, hb0, hsm, hxuI, hyvI, hxW, hyH, lr, lg, lb, rd30, rd31, rd32, Int.toNat_natCast]
        intro X4
        refine ⟨by omega, by omega, by omega, by omega, hb0, by omega, fun X5 => ?_⟩
        repeat (refine And.intro (by first | omega | trivial | (intros; omega)) ?_)
        refine hKi (u + 1, X5 5 28, X5 11 30, X5 17 32) (show u + 1 ≤ O by omega) (show O - (u + 1) < O - u by omega) _ _ (Sub.pt ?_)
        simp only [hn1]
        simp -implicitDefEqProofs only [push_cast, false_implies, reduceCtorEq, Classical.not_not, Nat.reduceAdd, Nat.reduceSub, Nat.reduceMul, Nat.reduceLeDiff, Nat.reduceLT, Nat.reduceEqDiff, Nat.reduceBEq, Nat.reduceBNe, Int.reduceNeg, Int.reduceToNat, Bool.or_false, Bool.false_or, Bool.or_true, Bool.true_or, BEq.rfl, Bool.not_eq_true, Bool.not_eq_false, decide_eq_true_eq, not_true_eq_false, not_false_eq_true, ite_true, ite_false, List.append_nil, and_assoc, Nat.mul_zero, Nat.zero_mul, tr, tg, tb]
      · obtain rfl : u = O := by omega
        clear hKi
        simp -implicitDefEqProofs only [push_cast, false_implies, reduceCtorEq, Classical.not_not, Nat.reduceAdd, Nat.reduceSub, Nat.reduceMul, Nat.reduceLeDiff, Nat.reduceLT, Nat.reduceEqDiff, Nat.reduceBEq, Nat.reduceBNe, Int.reduceNeg, Int.reduceToNat, Bool.or_false, Bool.false_or, Bool.or_true, Bool.true_or, BEq.rfl, Bool.not_eq_true, Bool.not_eq_false, decide_eq_true_eq, not_true_eq_false, not_false_eq_true, ite_true, ite_false, List.append_nil, and_assoc, Nat.mul_zero, Nat.zero_mul, b38_2, r38_3, Int.lt_irrefl, true_implies, true_and]
        repeat (refine And.intro (by first | omega | trivial | (intros; omega)) ?_)
        refine hK (v + 1, K1, K2, K3) (show v + 1 ≤ P by omega) (show P - (v + 1) < P - v by omega) _ _ (Sub.pt ?_)
        simp -implicitDefEqProofs only [push_cast, false_implies, reduceCtorEq, Classical.not_not, Nat.reduceAdd, Nat.reduceSub, Nat.reduceMul, Nat.reduceLeDiff, Nat.reduceLT, Nat.reduceEqDiff, Nat.reduceBEq, Nat.reduceBNe, Int.reduceNeg, Int.reduceToNat, Bool.or_false, Bool.false_or, Bool.or_true, Bool.true_or, BEq.rfl, Bool.not_eq_true, Bool.not_eq_false, decide_eq_true_eq, not_true_eq_false, not_false_eq_true, ite_true, ite_false, List.append_nil, and_assoc, Nat.mul_zero, Nat.zero_mul, Nat.add_mul, Nat.one_mul]
    · obtain rfl : v = P := by omega
      clear hK
      have hPO : v * O = O * v := Nat.mul_comm _ _
      simp -implicitDefEqProofs only [push_cast, false_implies, reduceCtorEq, Classical.not_not, Nat.reduceAdd, Nat.reduceSub, Nat.reduceMul, Nat.reduceLeDiff, Nat.reduceLT, Nat.reduceEqDiff, Nat.reduceBEq, Nat.reduceBNe, Int.reduceNeg, Int.reduceToNat, Bool.or_false, Bool.false_or, Bool.or_true, Bool.true_or, BEq.rfl, Bool.not_eq_true, Bool.not_eq_false, decide_eq_true_eq, not_true_eq_false, not_false_eq_true, ite_true, ite_false, List.append_nil, and_assoc, Nat.mul_zero, Nat.zero_mul, b38_1, r38_4, hPO, Int.lt_irrefl, true_implies, true_and]
      subst hC
      refine postF.mk' (locs [N1, N2, N3]) [some 0, some 1, some 2, some 3, some 28, some 30, some 32] ?_
      simp -implicitDefEqProofs only [push_cast, false_implies, reduceCtorEq, Classical.not_not, Nat.reduceAdd, Nat.reduceSub, Nat.reduceMul, Nat.reduceLeDiff, Nat.reduceLT, Nat.reduceEqDiff, Nat.reduceBEq, Nat.reduceBNe, Int.reduceNeg, Int.reduceToNat, Bool.or_false, Bool.false_or, Bool.or_true, Bool.true_or, BEq.rfl, Bool.not_eq_true, Bool.not_eq_false, decide_eq_true_eq, not_true_eq_false, not_false_eq_true, ite_true, ite_false, List.append_nil, and_assoc, Nat.mul_zero, Nat.zero_mul, fs37, imM, shrI, hok, hi, if_true, lx, shL, tabl_length, cO, cP]
def ent38 : Entry := spOf fs37 inv37
theorem e38 : EntryOk Try.prog 38 ent38 := entry_of ok38 inv37
@[push_cast] theorem ent38_app (us : List SV) (look : Look) (x : Nat → Xf.Loc) (k : Nat) : ent38 us look x k = spOf fs37 inv37 us look x k := rfl
def ir10 : IR :=
  .seq (.reg false [⟨some 3, none, ⟨[], []⟩, .box 10 (.t 0)⟩,
    ⟨some 5, none, ⟨[], []⟩, .box 11 (.t 2)⟩,
    ⟨some 6, none, ⟨[], []⟩, .mov (.k (.bool false))⟩] [0, 2, 6] []) (.seq (.seq (.reg false [⟨some 12, none, ⟨[], []⟩, .ld false (some 5) 0 0 (.t 3)⟩,
    ⟨some 13, none, ⟨[], []⟩, .call (some 4) 12 11 [.t 12]⟩,
    ⟨some 14, none, ⟨[], []⟩, .mov (.t 13)⟩,
    ⟨some 15, some (14, false), ⟨[], []⟩, .fld (.t 5) 2⟩,
    ⟨some 16, some (14, false), ⟨[], []⟩, .ld false none 0 0 (.t 15)⟩,
    ⟨some 17, some (14, false), ⟨[], []⟩, .len (.t 16)⟩,
    ⟨some 18, some (14, false), ⟨[], []⟩, .bin 0 .gtr (.t 17) (.k (.int .i64 20000))⟩,
    ⟨some 19, none, ⟨[], []⟩, .pick (.t 14) (.k (.bool true)) (.t 18)⟩] [12, 13, 14, 15, 16, 17, 18] []) (.cond (.t 19) (.seq (.reg false [⟨some 20, none, ⟨[], []⟩, .call (some 4) 16 12 []⟩,
    ⟨some 6, none, ⟨[], []⟩, .mov (.t 20)⟩] [1, 3, 5, 19, 20] []) (.ret)) (.skip))) (.seq (.reg false [⟨some 22, none, ⟨[], []⟩, .ld false (some 5) 0 0 (.t 3)⟩,
    ⟨some 23, none, ⟨[], []⟩, .mov (.t 1)⟩,
    ⟨some 24, none, ⟨[], []⟩, .ld false (some 3) 0 0 (.t 5)⟩,
    ⟨some 25, none, ⟨[], []⟩, .call (some 4) 20 37 [.t 22, .t 23, .t 24]⟩,
    ⟨some 21, none, ⟨[], []⟩, .mov (.t 25)⟩,
    ⟨some 26, none, ⟨[], []⟩, .ext (.t 21) 0⟩,
    ⟨some 27, none, ⟨[], []⟩, .ext (.t 21) 1⟩,
    ⟨some 7, none, ⟨[], []⟩, .alloc 24 [.int .i64 0, .int .i64 0, nilSV, nilSV, nilSV]⟩,
    ⟨none, none, ⟨[], []⟩, .sto false 5 .i64 (.t 7) (.t 26)⟩,
    ⟨some 8, none, ⟨[], []⟩, .mov (.t 27)⟩] [6, 19, 21, 22, 23, 24, 25, 26, 27] []) (.seq (.reg false [⟨some 29, none, ⟨[], []⟩, .ld false (some 5) 0 0 (.t 3)⟩,
    ⟨some 30, none, ⟨[], []⟩, .mov (.t 1)⟩,
    ⟨some 31, none, ⟨[], []⟩, .ld false (some 3) 0 0 (.t 5)⟩,
    ⟨some 32, none, ⟨[], []⟩, .call (some 4) 25 38 [.t 29, .t 30, .t 31]⟩,
    ⟨some 28, none, ⟨[], []⟩, .mov (.t 32)⟩,
    ⟨some 33, none, ⟨[], []⟩, .ext (.t 28) 0⟩,
    ⟨some 34, none, ⟨[], []⟩, .ext (.t 28) 1⟩,
    ⟨some 9, none, ⟨[], []⟩, .alloc 29 [.int .i64 0, .int .i64 0, nilSV, nilSV, nilSV]⟩,
    ⟨none, none, ⟨[], []⟩, .sto false 5 .i64 (.t 9) (.t 33)⟩,
    ⟨some 10, none, ⟨[], []⟩, .mov (.t 34)⟩] [1, 5, 28, 29, 30, 31, 32, 33, 34] []) (.seq (.seq (.reg false [⟨some 35, none, ⟨[], []⟩, .mov (.t 8)⟩,
    ⟨some 36, none, ⟨[], []⟩, .mov (.t 10)⟩,
    ⟨some 37, none, ⟨[], []⟩, .bin 0 .neq (.t 35) (.t 36)⟩,
    ⟨some 38, none, ⟨[], []⟩, .mov (.t 37)⟩,
    ⟨some 39, some (38, false), ⟨[], []⟩, .ld false (some 5) 0 0 (.t 7)⟩,
    ⟨some 40, some (38, false), ⟨[], []⟩, .ld false (some 5) 0 0 (.t 9)⟩,
    ⟨some 41, some (38, false), ⟨[], []⟩, .call (some 4) 30 17 [.t 39, .t 40]⟩,
    ⟨some 42, some (38, false), ⟨[], []⟩, .not (.t 41)⟩,
    ⟨some 43, none, ⟨[], []⟩, .pick (.t 38) (.k (.bool true)) (.t 42)⟩] [7, 8, 9, 10, 35, 36, 37, 38, 39, 40, 41, 42] []) (.cond (.t 43) (.seq (.reg false [⟨some 6, none, ⟨[], []⟩, .mov (.k (.bool false))⟩] [3, 43] []) (.ret)) (.skip))) (.seq (.seq (.reg false [⟨some 44, none, ⟨[], []⟩, .ld false (some 5) 0 0 (.t 3)⟩,
    ⟨some 45, none, ⟨[], []⟩, .call (some 4) 34 16 [.t 44]⟩,
    ⟨some 46, none, ⟨[], []⟩, .not (.t 45)⟩] [6, 43, 44, 45] []) (.cond (.t 46) (.seq (.reg false [⟨some 47, none, ⟨[], []⟩, .call (some 4) 38 12 []⟩,
    ⟨some 6, none, ⟨[], []⟩, .mov (.t 47)⟩] [3, 46, 47] []) (.ret)) (.skip))) (.seq (.reg false [⟨some 49, none, ⟨[], []⟩, .ld false (some 5) 0 0 (.t 3)⟩,
    ⟨some 50, none, ⟨[], []⟩, .build [.int .i64 0, .int .i64 0, nilSV] []⟩,
    ⟨some 51, none, ⟨[], []⟩, .call (some 4) 42 37 [.t 49, .k (.int .i64 1), .t 50]⟩,
    ⟨some 48, none, ⟨[], []⟩, .mov (.t 51)⟩,
    ⟨some 52, none, ⟨[], []⟩, .ext (.t 48) 0⟩,
    ⟨some 53, none, ⟨[], []⟩, .ext (.t 48) 1⟩,
    ⟨some 11, none, ⟨[], []⟩, .alloc 46 [.int .i64 0, .int .i64 0, nilSV, nilSV, nilSV]⟩,
    ⟨none, none, ⟨[], []⟩, .sto false 5 .i64 (.t 11) (.t 52)⟩,
    ⟨some 8, none, ⟨[], []⟩, .mov (.t 53)⟩] [6, 46, 48, 49, 50, 51, 52, 53] []) (.seq (.reg false [⟨some 54, none, ⟨[], []⟩, .mov (.t 8)⟩,
    ⟨some 55, none, ⟨[], []⟩, .bin 0 .eql (.t 54) (.k (.int .i64 0))⟩,
    ⟨some 56, none, ⟨[], []⟩, .mov (.t 55)⟩,
    ⟨some 57, some (56, true), ⟨[], []⟩, .ld false (some 5) 0 0 (.t 11)⟩,
    ⟨some 58, some (56, true), ⟨[], []⟩, .ld false (some 5) 0 0 (.t 3)⟩,
    ⟨some 59, some (56, true), ⟨[], []⟩, .call (some 4) 47 17 [.t 57, .t 58]⟩,
    ⟨some 60, none, ⟨[], []⟩, .pick (.t 56) (.t 59) (.k (.bool false))⟩,
    ⟨some 61, none, ⟨[], []⟩, .mov (.t 60)⟩,
    ⟨some 62, some (61, true), ⟨[], []⟩, .call (some 4) 51 12 []⟩,
    ⟨some 63, none, ⟨[], []⟩, .pick (.t 61) (.t 62) (.k (.bool false))⟩,
    ⟨some 6, none, ⟨[], []⟩, .mov (.t 63)⟩] [3, 8, 11, 54, 55, 56, 57, 58, 59, 60, 61, 62, 63] []) (.ret))))))))
set_option maxRecDepth 4000 in
theorem comp10 : (Try.f10.body.bind fun c => compC tab isP chkAll ir10 c) = some ir10 := by kernel_rfl
theorem tabl_rds (xs : List Int) : tabl xs.length (fun j => rd xs (j : Nat)) = xs :=
  eq_of_rd (tabl_length _ _) fun j hj => by rw [tabl_length] at hj; rw [rd_tabl hj]
theorem wf_u8s {xs : List Int} (h : Xf.wfAll .u8 xs) : ∀ n, n ∈ xs → 0 ≤ n := fun n hn => by
  have := h n hn
  simp only [Lit.wf, Bool.and_eq_true, decide_eq_true_eq] at this
  exact Int.le_trans (by decide) this.1
theorem shrI_small (c : ShA) : (shrI c).small := by
  unfold shrI
  split
  · rename_i h
    obtain ⟨hi, f1, f2, _⟩ := h
    obtain ⟨a1, a2, a3, a4, a5⟩ : SidesOk c.a.i.w c.a.i.h := hi.1
    obtain ⟨o1, o2, _⟩ := ceil_bd a1 f1
    obtain ⟨o4, o5, _⟩ := ceil_bd a2 f1
    have h1 : ceilN c.a.i.w c.k ≤ 200 := by unfold ceilN; omega
    have h2 : ceilN c.a.i.h c.k ≤ 200 := by unfold ceilN; omega
    have := Nat.mul_le_mul h1 h2
    refine ⟨?_, ?_, ?_⟩ <;> simp only [shL, tabl_length] <;> omega
  · exact ⟨by decide, by decide, by decide⟩
theorem sumF_one {f : Nat → Int} {n a : Nat} (h : a < n) : sumF (fun j => if j = a then f j else 0) n = f a := by
  have := sumF_win f (X := a) (c := 1) (W := n) (by omega)
  rw [sumF_congr (g := fun u => if a ≤ u ∧ u < a + 1 then f u else 0) fun k hk => by
    by_cases e : k = a
    · rw [if_pos e, if_pos (by omega)]
    · rw [if_neg e, if_neg (by omega)], this]
  simp [sumF]
/-- By 1, where nothing is skipped, an image stays as it is. -/
theorem shr_one {i : Im} (h : i.Ok) (L1 L2 L3 LB : Xf.Loc) : (⟨⟨i, L1, L2, L3⟩, 1, ⟨⟨0, 0, []⟩, LB⟩⟩ : ShA).Ok ∧ shrI ⟨⟨i, L1, L2, L3⟩, 1, ⟨⟨0, 0, []⟩, LB⟩⟩ = i := by
  have hok : (⟨⟨i, L1, L2, L3⟩, 1, ⟨⟨0, 0, []⟩, LB⟩⟩ : ShA).Ok := ⟨h, show (1 : Int) ≤ 1 by decide, show (1 : Int) ≤ 200 by decide, (by decide : (⟨0, 0, []⟩ : Bm).Ok), .inl ⟨rfl, rfl⟩⟩
  refine ⟨hok, ?_⟩
  obtain ⟨v1, v2, v3⟩ := h.val
  obtain ⟨a1, a2, a3, a4, a5⟩ : SidesOk i.w i.h := h.1
  have hl : (i.R.length : Int) = i.w * i.h := h.2.1.1
  obtain ⟨W, hW⟩ : ∃ n : Nat, i.w = n := ⟨i.w.toNat, by omega⟩
  obtain ⟨H, hH⟩ : ∃ n : Nat, i.h = n := ⟨i.h.toNat, by omega⟩
  have hlB : i.R.length = W * H := by rw [← Int.ofNat_inj, hl, hW, hH, Int.natCast_mul]
  have cO : ceilN i.w 1 = W := by unfold ceilN; rw [Int.ediv_one, hW]; omega
  have cP : ceilN i.h 1 = H := by unfold ceilN; rw [Int.ediv_one, hH]; omega
  have key : ∀ (f : Sm → Int) (g : Nat → Int), (∀ a, f (smF W 1 W ⟨0, 0, []⟩ i i.R.length a) = sumF (smG W 1 W ⟨0, 0, []⟩ g a) i.R.length) →
      tabl (W * H) (shF ⟨⟨i, L1, L2, L3⟩, 1, ⟨⟨0, 0, []⟩, LB⟩⟩ f) = tabl (W * H) g := fun f g hf => by
    refine tabl_congr fun a ha => ?_
    have one : ∀ (g : Nat → Int), sumF (smG W 1 W ⟨0, 0, []⟩ g a) i.R.length = g a := fun g => by
      rw [← sumF_one (f := g) (n := i.R.length) (a := a) (by omega)]
      refine sumF_congr fun k hk => ?_
      unfold smG cellN
      have hz : rd ([] : List Int) (k : Nat) = 0 := by simp [rd]
      have e1 : k / W / 1 * W + k % W / 1 = k := by rw [Nat.div_one, Nat.div_one, Nat.mul_comm]; exact Nat.div_add_mod k W
      simp only [hz, e1, and_true]
    unfold shF
    simp only [hW]
    rw [show (1 : Int).toNat = 1 from rfl, Int.toNat_natCast, ← hW, cO, hf, one]
    have e2 : (smF W 1 W ⟨0, 0, []⟩ i i.R.length a).n = 1 := one fun _ => 1
    rw [e2]
    unfold shO meanI
    rw [if_neg (by decide)]
    omega
  unfold shrI
  rw [if_pos hok]
  obtain ⟨w, h', R, G, B⟩ := i
  unfold shL
  simp only at cO cP hW hH hlB v1 v2 ⊢
  rw [cO, cP, key Sm.r (fun j => rd R (j : Nat)) fun a => rfl, key Sm.g (fun j => rd G (j : Nat)) fun a => rfl, key Sm.b (fun j => rd B (j : Nat)) fun a => rfl, ← hlB, tabl_rds]
  rw [← v1, tabl_rds, v1, ← v2, tabl_rds, hW, hH]
theorem tri10 (i : Im) (hi : i.small) (k : Int) (b : Bm) (hb : b.xs.length ≤ 140737488355328) (hb0 : ∀ n, n ∈ b.xs → 0 ≤ n) (L1 L2 L3 L : Xf.Loc) :
    Tri Try.prog 10 [.agg [.int .i64 i.w, .int .i64 i.h, .sl 0 L1 1 0 i.R.length, .sl 1 L2 1 0 i.G.length, .sl 2 L3 1 0 i.B.length], .int .i64 k, .agg [.int .i64 b.w, .int .i64 b.h, .sl 3 L 1 0 b.xs.length]]
    [some (.ro, L1, .ints .i64 i.R), some (.ro, L2, .ints .i64 i.G), some (.ro, L3, .ints .i64 i.B), some (.ro, L, .ints .u8 b.xs)] (fun v _ => v = .bool true) := by
  have hone := fun h M1 M2 M3 M => shr_one (i := i) h M1 M2 M3 M
  have hr0 := Im.Eq.refl i
  obtain ⟨W, H, R, G, B⟩ := i
  obtain ⟨bw, bh, xs⟩ := b
  have hi2 := hi
  simp only at hb hb0
  have k3 : ∀ M1 M2 M3 M, shrI ⟨⟨⟨W, H, R, G, B⟩, M1, M2, M3⟩, k, ⟨⟨bw, bh, xs⟩, M⟩⟩ = shrI ⟨⟨⟨W, H, R, G, B⟩, L1, L2, L3⟩, k, ⟨⟨bw, bh, xs⟩, L⟩⟩ := fun _ _ _ _ => rfl
  have hsm := shrI_small ⟨⟨⟨W, H, R, G, B⟩, L1, L2, L3⟩, k, ⟨⟨bw, bh, xs⟩, L⟩⟩
  have hr := Im.Eq.refl (shrI ⟨⟨⟨W, H, R, G, B⟩, L1, L2, L3⟩, k, ⟨⟨bw, bh, xs⟩, L⟩⟩)
  obtain ⟨T, hT⟩ : ∃ T, (⟨⟨⟨W, H, R, G, B⟩, L1, L2, L3⟩, k, ⟨⟨bw, bh, xs⟩, L⟩⟩ : ShA) = T := ⟨_, rfl⟩
  have hok : ∀ M1 M2 M3 M, (⟨⟨⟨W, H, R, G, B⟩, M1, M2, M3⟩, k, ⟨⟨bw, bh, xs⟩, M⟩⟩ : ShA).Ok ↔ T.Ok := fun _ _ _ _ => by rw [← hT]; exact Iff.rfl
  rw [hT] at k3 hsm hr
  by_cases hIm : (⟨W, H, R, G, B⟩ : Im).Ok
  · have k0 := fun M1 M2 M3 M => (hone hIm M1 M2 M3 M).1
    have k1 := fun M1 M2 M3 M => (hone hIm M1 M2 M3 M).2
    by_cases hc : T.Ok
    · generalize hC : shrI T = C at hsm hr k3
      obtain ⟨cw, ch, cR, cG, cB⟩ := C
      refine tri_evS (hyp (l := [(11, ent11), (12, ent12), (17, ent17), (16, ent16), (37, ent37), (38, ent38)]) (lp := []) ⟨e11, e12, e17, e16, e37, e38, trivial⟩ trivial) Try.func10 comp10 (rs := [.tmp 6]) (by rfl) Try.ntmps10 55 ?_
      simp -implicitDefEqProofs only [push_cast, false_implies, reduceCtorEq, Classical.not_not, Nat.reduceAdd, Nat.reduceSub, Nat.reduceMul, Nat.reduceLeDiff, Nat.reduceLT, Nat.reduceEqDiff, Nat.reduceBEq, Nat.reduceBNe, Int.reduceNeg, Int.reduceToNat, Bool.or_false, Bool.false_or, Bool.or_true, Bool.true_or, BEq.rfl, Bool.not_eq_true, Bool.not_eq_false, decide_eq_true_eq, not_true_eq_false, not_false_eq_true, ite_true, ite_false, List.append_nil, and_assoc, Nat.mul_zero, Nat.zero_mul, ir10, fs11, fs15, fs12, fs17, fs37, hi2, hb, hok, hc, hIm, k0, k1, k3, hsm, hr, hr0, if_true]
      exact fun _ => ⟨hb0, hb0, fun n hn => by simp at hn⟩
    · have hz : shrI T = im0 := by unfold shrI; rw [if_neg hc]
      rw [hz] at k3
      have hsm : im0.small := ⟨by decide, by decide, by decide⟩
      have hr := Im.Eq.refl im0
      refine tri_evS (hyp (l := [(11, ent11), (12, ent12), (17, ent17), (16, ent16), (37, ent37), (38, ent38)]) (lp := []) ⟨e11, e12, e17, e16, e37, e38, trivial⟩ trivial) Try.func10 comp10 (rs := [.tmp 6]) (by rfl) Try.ntmps10 55 ?_
      simp -implicitDefEqProofs only [push_cast, false_implies, reduceCtorEq, Classical.not_not, Nat.reduceAdd, Nat.reduceSub, Nat.reduceMul, Nat.reduceLeDiff, Nat.reduceLT, Nat.reduceEqDiff, Nat.reduceBEq, Nat.reduceBNe, Int.reduceNeg, Int.reduceToNat, Bool.or_false, Bool.false_or, Bool.or_true, Bool.true_or, BEq.rfl, Bool.not_eq_true, Bool.not_eq_false, decide_eq_true_eq, not_true_eq_false, not_false_eq_true, ite_true, ite_false, List.append_nil, and_assoc, Nat.mul_zero, Nat.zero_mul, ir10, fs11, fs15, fs12, fs17, fs37, hi2, hb, hok, hc, hIm, k0, k1, k3, hsm, hr, hr0, if_true, if_false]
      exact fun _ => ⟨hb0, hb0, fun n hn => by simp at hn⟩
  · have hc : ¬ T.Ok := fun h => by rw [← hT] at h; exact hIm h.1
    have hz : shrI T = im0 := by unfold shrI; rw [if_neg hc]
    rw [hz] at k3
    have hsm : im0.small := ⟨by decide, by decide, by decide⟩
    have hr := Im.Eq.refl im0
    refine tri_evS (hyp (l := [(11, ent11), (12, ent12), (17, ent17), (16, ent16), (37, ent37), (38, ent38)]) (lp := []) ⟨e11, e12, e17, e16, e37, e38, trivial⟩ trivial) Try.func10 comp10 (rs := [.tmp 6]) (by rfl) Try.ntmps10 55 ?_
    simp -implicitDefEqProofs only [push_cast, false_implies, reduceCtorEq, Classical.not_not, Nat.reduceAdd, Nat.reduceSub, Nat.reduceMul, Nat.reduceLeDiff, Nat.reduceLT, Nat.reduceEqDiff, Nat.reduceBEq, Nat.reduceBNe, Int.reduceNeg, Int.reduceToNat, Bool.or_false, Bool.false_or, Bool.or_true, Bool.true_or, BEq.rfl, Bool.not_eq_true, Bool.not_eq_false, decide_eq_true_eq, not_true_eq_false, not_false_eq_true, ite_true, ite_false, List.append_nil, and_assoc, Nat.mul_zero, Nat.zero_mul, ir10, fs11, fs15, fs12, fs17, fs37, hi2, hb, hok, hc, hIm, k3, hsm, hr, hr0, if_true, if_false]
    exact fun _ => hb0
end Go.Proofs.Ytnmbimhcfioeiaa
