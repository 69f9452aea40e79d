import Derived.Test.YtbndfifoakmdnaaPMasks1
set_option linter.unusedVariables false
set_option linter.unusedSimpArgs false
set_option maxRecDepth 1000
namespace Go.Proofs.Ytbndfifoakmdnaa
open Xf
set_option maxRecDepth 4000 in
set_option maxHeartbeats 2000000 in
theorem ok24 : FSOk Try.prog 24 fs24 := by
  refine ⟨⟨_, Try.func24, by kernel_rfl, by kernel_rfl⟩, fun a => ⟨by simp [fs24, push_cast, noMine, argOwn, Chunk.frArg], by simp [fs24, push_cast, outOk, Chunk.ext], fun x => .inl (by simp [fs24, push_cast, frNew, frOut, Chunk.fr])⟩, fun a hp => ?_⟩
  obtain ⟨⟨p, L⟩, LP, s, l⟩ := a
  obtain ⟨hp, hl, hs⟩ : p.xs.length ≤ 140737488355328 ∧ l.length ≤ 1000000 ∧ (0 < l.length → s = 5) := hp
  have hget := getPt_map l
  have hlm : (l.map Pt.rc).length = l.length := List.length_map _
  obtain ⟨E, hE'⟩ : ∃ E, cuE p.w p.h l = E := ⟨_, rfl⟩
  obtain ⟨w, h, xs⟩ := p
  change xs.length ≤ 140737488355328 at hp
  simp only at hE'
  change Tri Try.prog 24 [plV ⟨w, h, xs⟩ L 0, .sl 1 LP s 0 l.length] [some (.ro, L, .ints .i64 xs), some (.ro, LP, .recs 5 false [] (l.map Pt.rc))] (postF fs24 ⟨⟨⟨w, h, xs⟩, L⟩, LP, s, l⟩)
  refine tri_evS (hypI (l := [(14, ent14), (20, ent20), (43, ent43), (44, ent44), (45, ent45)]) (li := [(64, its64)]) (lp := []) ⟨e14, e20, e43, e44, e45, trivial⟩ ⟨it64, trivial⟩ trivial) Try.func24 comp24 (rs := [.cell 4 (some 3), .tmp 5]) (by rfl) Try.ntmps24 37 ?_
  by_cases hG : (⟨w, h, xs⟩ : Pl).Gr
  case neg =>
    have y1 : maE ⟨w, h, xs⟩ l = 70 := by unfold maE; rw [if_neg hG]
    have y2 : ¬ maOk ⟨w, h, xs⟩ l := fun H => hG H.1
    have y3 : maB ⟨w, h, xs⟩ l = ⟨0, 0, []⟩ := by unfold maB; rw [if_neg y2]
    simp -implicitDefEqProofs only [push_cast, false_implies, reduceCtorEq, Classical.not_not, Nat.reduceAdd, Nat.reduceSub, Nat.reduceMul, Nat.reduceLeDiff, Nat.reduceLT, Nat.reduceEqDiff, Nat.reduceBEq, Nat.reduceBNe, Int.reduceNeg, Int.reduceToNat, Bool.or_false, Bool.false_or, Bool.or_true, Bool.true_or, BEq.rfl, Bool.not_eq_true, Bool.not_eq_false, decide_eq_true_eq, not_true_eq_false, not_false_eq_true, ite_true, ite_false, List.append_nil, and_assoc, Nat.mul_zero, Nat.zero_mul, ir24, fs14, fs12, plV, hG, hp]
    intro X
    refine postF.mk' (fun _ => default) [some 0, some 1, none] ?_
    simp -implicitDefEqProofs only [push_cast, false_implies, reduceCtorEq, Classical.not_not, Nat.reduceAdd, Nat.reduceSub, Nat.reduceMul, Nat.reduceLeDiff, Nat.reduceLT, Nat.reduceEqDiff, Nat.reduceBEq, Nat.reduceBNe, Int.reduceNeg, Int.reduceToNat, Bool.or_false, Bool.false_or, Bool.or_true, Bool.true_or, BEq.rfl, Bool.not_eq_true, Bool.not_eq_false, decide_eq_true_eq, not_true_eq_false, not_false_eq_true, ite_true, ite_false, List.append_nil, and_assoc, Nat.mul_zero, Nat.zero_mul, fs24, y1, y2, y3, lx, if_false, List.length_nil]
  have hsd : SidesOk w h := hG.1
  obtain ⟨s1, s2, s3, s4, s5⟩ := id hsd
  by_cases hE0 : E = 0
  case neg =>
    have y1 : maE ⟨w, h, xs⟩ l = E := by unfold maE; rw [if_pos hG, hE']
    have y2 : ¬ maOk ⟨w, h, xs⟩ l := fun H => hE0 (by rw [← hE']; exact H.2)
    have y3 : maB ⟨w, h, xs⟩ l = ⟨0, 0, []⟩ := by unfold maB; rw [if_neg y2]
    simp -implicitDefEqProofs only [push_cast, false_implies, reduceCtorEq, Classical.not_not, Nat.reduceAdd, Nat.reduceSub, Nat.reduceMul, Nat.reduceLeDiff, Nat.reduceLT, Nat.reduceEqDiff, Nat.reduceBEq, Nat.reduceBNe, Int.reduceNeg, Int.reduceToNat, Bool.or_false, Bool.false_or, Bool.or_true, Bool.true_or, BEq.rfl, Bool.not_eq_true, Bool.not_eq_false, decide_eq_true_eq, not_true_eq_false, not_false_eq_true, ite_true, ite_false, List.append_nil, and_assoc, Nat.mul_zero, Nat.zero_mul, ir24, fs14, fs12, fs20, fs41, plV, hG, hp, hE', hE0, hget, hlm, hl, s1, s2, s3, s4]
    refine fun X => ⟨hs, ?_⟩
    refine postF.mk' (fun _ => default) [some 0, some 1, none] ?_
    simp -implicitDefEqProofs only [push_cast, false_implies, reduceCtorEq, Classical.not_not, Nat.reduceAdd, Nat.reduceSub, Nat.reduceMul, Nat.reduceLeDiff, Nat.reduceLT, Nat.reduceEqDiff, Nat.reduceBEq, Nat.reduceBNe, Int.reduceNeg, Int.reduceToNat, Bool.or_false, Bool.false_or, Bool.or_true, Bool.true_or, BEq.rfl, Bool.not_eq_true, Bool.not_eq_false, decide_eq_true_eq, not_true_eq_false, not_false_eq_true, ite_true, ite_false, List.append_nil, and_assoc, Nat.mul_zero, Nat.zero_mul, fs24, y1, y2, y3, lx, if_false, List.length_nil]
  subst hE0
  have hwl : (xs.length : Int) = w * h := hG.2.1
  have y1 : maE ⟨w, h, xs⟩ l = 0 := by unfold maE; rw [if_pos hG, hE']
  have y2 : maOk ⟨w, h, xs⟩ l := ⟨hG, hE'⟩
  have y3 : maB ⟨w, h, xs⟩ l = ⟨w, h, tabl xs.length (msN (⟨w, h, xs⟩ : Pl).pn l l.length)⟩ := by unfold maB maX; rw [if_pos y2]
  have hP : ptsIn w h l := by
    unfold cuE at hE'
    split at hE'
    · assumption
    · exact absurd hE' (by decide)
  have hz : zb (w * h) = tabl xs.length (msN (⟨w, h, xs⟩ : Pl).pn l 0) := by rw [ms_zero]; unfold zb; rw [← hwl]; rfl
  simp -implicitDefEqProofs only [push_cast, false_implies, reduceCtorEq, Classical.not_not, Nat.reduceAdd, Nat.reduceSub, Nat.reduceMul, Nat.reduceLeDiff, Nat.reduceLT, Nat.reduceEqDiff, Nat.reduceBEq, Nat.reduceBNe, Int.reduceNeg, Int.reduceToNat, Bool.or_false, Bool.false_or, Bool.or_true, Bool.true_or, BEq.rfl, Bool.not_eq_true, Bool.not_eq_false, decide_eq_true_eq, not_true_eq_false, not_false_eq_true, ite_true, ite_false, List.append_nil, and_assoc, Nat.mul_zero, Nat.zero_mul, ir24, fs14, fs12, fs20, fs41, fs43, fs63, plV, hG, hp, hE', hsd, hz, hget, hlm, hl, s1, s2, s3, s4]
  refine fun X => ⟨hs, fun X1 => ?_⟩
  refine evS_loopU (A := Nat) kp24_1 kl24_1 (fun i => [(44, .int .i64 i)]) (fun i => [(20, .mine, X1 4 20, .ints .u8 (tabl xs.length (msN (⟨w, h, xs⟩ : Pl).pn l i)))]) (fun i => i ≤ l.length) (fun i => l.length - i) 0 (Nat.zero_le _) (Sub.pt ?_) ?_
  · simp -implicitDefEqProofs only [push_cast, false_implies, reduceCtorEq, Classical.not_not, Nat.reduceAdd, Nat.reduceSub, Nat.reduceMul, Nat.reduceLeDiff, Nat.reduceLT, Nat.reduceEqDiff, Nat.reduceBEq, Nat.reduceBNe, Int.reduceNeg, Int.reduceToNat, Bool.or_false, Bool.false_or, Bool.or_true, Bool.true_or, BEq.rfl, Bool.not_eq_true, Bool.not_eq_false, decide_eq_true_eq, not_true_eq_false, not_false_eq_true, ite_true, ite_false, List.append_nil, and_assoc, Nat.mul_zero, Nat.zero_mul]
  intro i (hi : i ≤ l.length) K hK
  by_cases hi' : i < l.length
  · have r1 := recAt_Pt hi' []
    have hI := hP _ (rdPt_mem hi')
    have hall := msP_all (⟨w, h, xs⟩ : Pl).pn l i
    have hzero := msP_zero (⟨w, h, xs⟩ : Pl).pn l i
    have hstep := fun {j} => ms_step (p := (⟨w, h, xs⟩ : Pl).pn) (l := l) (i := i) (j := j) (n := xs.length)
    obtain rfl := hs (by omega)
    obtain ⟨q', hq⟩ : ∃ q, rdPt l i = q := ⟨_, rfl⟩
    rw [hq] at r1 hI hall hstep
    obtain ⟨kd, qx, qy, qw, qh⟩ := q'
    obtain ⟨hRp, hGr, hn0, t1, t2, t3, t4, g4, g5, k0, k2⟩ := pr_facts hG hI
    have hlohi := fun {k : Nat} => Rp.lohi hGr (k := k)
    have hat := fun {k : Nat} => atN_lt hRp (k := k)
    obtain ⟨x, rfl⟩ : ∃ n : Nat, qx = (n : Int) := ⟨qx.toNat, by omega⟩
    obtain ⟨y, rfl⟩ : ∃ n : Nat, qy = (n : Int) := ⟨qy.toNat, by omega⟩
    obtain ⟨a, rfl⟩ : ∃ n : Nat, qw = (n : Int) := ⟨qw.toNat, by omega⟩
    obtain ⟨b, rfl⟩ : ∃ n : Nat, qh = (n : Int) := ⟨qh.toNat, by omega⟩
    obtain ⟨W, rfl⟩ : ∃ n : Nat, w = (n : Int) := ⟨w.toNat, by omega⟩
    obtain ⟨H, rfl⟩ : ∃ n : Nat, h = (n : Int) := ⟨h.toNat, by omega⟩
    simp only [Int.toNat_natCast] at hRp hGr hn0 hlohi hat hall hstep
    obtain ⟨lo, hlo⟩ : ∃ N, (⟨x, y, a, b, W, H, xs⟩ : Rp).lo = N := ⟨_, rfl⟩
    obtain ⟨hi2, hhi⟩ : ∃ N, (⟨x, y, a, b, W, H, xs⟩ : Rp).hi = N := ⟨_, rfl⟩
    obtain ⟨v, hv⟩ : ∃ N, (⟨x, y, a, b, W, H, xs⟩ : Rp).val = N := ⟨_, rfl⟩
    have hdark : ∀ k, dark (⟨W, H, xs⟩ : Pl).pn ⟨kd, x, y, a, b⟩ (atN x y a W k) ↔ kd = 1 ∧ 2 * v k < lo + hi2 := fun k => by
      rw [← hlo, ← hhi, ← hv]; exact Iff.rfl
    have hW : (⟨W, H, xs⟩ : Pl).pn.W = W := rfl
    rw [hW] at hstep
    simp only [hdark] at hstep
    simp only [hlo, hhi, hv] at hlohi
    have hh0 := hlohi hn0
    obtain ⟨F, hF⟩ : ∃ F, msP (⟨W, H, xs⟩ : Pl).pn l i = F := ⟨_, rfl⟩
    rw [hF] at hall hzero hstep
    simp -implicitDefEqProofs only [push_cast, false_implies, reduceCtorEq, Classical.not_not, Nat.reduceAdd, Nat.reduceSub, Nat.reduceMul, Nat.reduceLeDiff, Nat.reduceLT, Nat.reduceEqDiff, Nat.reduceBEq, Nat.reduceBNe, Int.reduceNeg, Int.reduceToNat, Bool.or_false, Bool.false_or, Bool.or_true, Bool.true_or, BEq.rfl, Bool.not_eq_true, Bool.not_eq_false, decide_eq_true_eq, not_true_eq_false, not_false_eq_true, ite_true, ite_false, List.append_nil, and_assoc, Nat.mul_zero, Nat.zero_mul, b24_1, r1, Pt.rc, hlm, fs44, fs45, rcV, plV, hRp, hlo, hhi, Int.toNat_natCast]
    refine ⟨fun _ X2 => ?_, fun h => by omega⟩
    refine ⟨by omega, by omega, by omega, by omega, fun X3 X4 X5 => ?_⟩
    refine evS_rf its64 ⟨X5 2 33, X5 2 34, L, ⟨x, y, a, b, W, H, xs⟩⟩ rfl hRp ⟨by kernel_rfl, by kernel_rfl⟩ rfl ?_ (by intro _ _; rfl) (A := Unit)
      (fun k _ => [(20, .mine, X1 4 20, .ints .u8 (tabl xs.length (F k)))]) (fun k _ => True) () trivial ?_ [some 33, some 34, some 0] ?_ ?_ ?_ ?_
    · simp -implicitDefEqProofs only [push_cast, false_implies, reduceCtorEq, Classical.not_not, Nat.reduceAdd, Nat.reduceSub, Nat.reduceMul, Nat.reduceLeDiff, Nat.reduceLT, Nat.reduceEqDiff, Nat.reduceBEq, Nat.reduceBNe, Int.reduceNeg, Int.reduceToNat, Bool.or_false, Bool.false_or, Bool.or_true, Bool.true_or, BEq.rfl, Bool.not_eq_true, Bool.not_eq_false, decide_eq_true_eq, not_true_eq_false, not_false_eq_true, ite_true, ite_false, List.append_nil, and_assoc, Nat.mul_zero, Nat.zero_mul, its64]
    · simp -implicitDefEqProofs only [push_cast, false_implies, reduceCtorEq, Classical.not_not, Nat.reduceAdd, Nat.reduceSub, Nat.reduceMul, Nat.reduceLeDiff, Nat.reduceLT, Nat.reduceEqDiff, Nat.reduceBEq, Nat.reduceBNe, Int.reduceNeg, Int.reduceToNat, Bool.or_false, Bool.false_or, Bool.or_true, Bool.true_or, BEq.rfl, Bool.not_eq_true, Bool.not_eq_false, decide_eq_true_eq, not_true_eq_false, not_false_eq_true, ite_true, ite_false, List.append_nil, and_assoc, Nat.mul_zero, Nat.zero_mul, hzero]
    · simp -implicitDefEqProofs only [push_cast, false_implies, reduceCtorEq, Classical.not_not, Nat.reduceAdd, Nat.reduceSub, Nat.reduceMul, Nat.reduceLeDiff, Nat.reduceLT, Nat.reduceEqDiff, Nat.reduceBEq, Nat.reduceBNe, Int.reduceNeg, Int.reduceToNat, Bool.or_false, Bool.false_or, Bool.or_true, Bool.true_or, BEq.rfl, Bool.not_eq_true, Bool.not_eq_false, decide_eq_true_eq, not_true_eq_false, not_false_eq_true, ite_true, ite_false, List.append_nil, and_assoc, Nat.mul_zero, Nat.zero_mul, its64]
    · intro k _ _
      simp -implicitDefEqProofs only [push_cast, false_implies, reduceCtorEq, Classical.not_not, Nat.reduceAdd, Nat.reduceSub, Nat.reduceMul, Nat.reduceLeDiff, Nat.reduceLT, Nat.reduceEqDiff, Nat.reduceBEq, Nat.reduceBNe, Int.reduceNeg, Int.reduceToNat, Bool.or_false, Bool.false_or, Bool.or_true, Bool.true_or, BEq.rfl, Bool.not_eq_true, Bool.not_eq_false, decide_eq_true_eq, not_true_eq_false, not_false_eq_true, ite_true, ite_false, List.append_nil, and_assoc, Nat.mul_zero, Nat.zero_mul, its64]
    · intro k _ hk _ K2 hK2
      have hk : k < a * b := hk
      have hvk : Rp.val ⟨x, y, a, b, W, H, xs⟩ k = v k := by rw [hv]
      have q1 := hlohi hk
      have q2 := (hat hk).1
      have hst := hstep (j := k) hRp.1 hk q2
      have htl := tabl_length xs.length (F k)
      have hwl' : (xs.length : Int) = (W : Int) * H := hwl
      obtain ⟨z, hzz⟩ : ∃ z, atN x y a W k = z := ⟨_, rfl⟩
      rw [hzz] at q2 hst
      change evS _ _ _ _ (putsE _ [66, 67] (vaX ⟨x, y, a, b, W, H, xs⟩ k)) _
      simp -implicitDefEqProofs only [push_cast, false_implies, reduceCtorEq, Classical.not_not, Nat.reduceAdd, Nat.reduceSub, Nat.reduceMul, Nat.reduceLeDiff, Nat.reduceLT, Nat.reduceEqDiff, Nat.reduceBEq, Nat.reduceBNe, Int.reduceNeg, Int.reduceToNat, Bool.or_false, Bool.false_or, Bool.or_true, Bool.true_or, BEq.rfl, Bool.not_eq_true, Bool.not_eq_false, decide_eq_true_eq, not_true_eq_false, not_false_eq_true, ite_true, ite_false, List.append_nil, and_assoc, Nat.mul_zero, Nat.zero_mul, vaX, hvk, hzz]
      by_cases hd1 : kd = 1
      · by_cases hd2 : 2 * v k < lo + hi2
        · have hset := hst.1 ⟨hd1, hd2⟩
          simp -implicitDefEqProofs only [push_cast, false_implies, reduceCtorEq, Classical.not_not, Nat.reduceAdd, Nat.reduceSub, Nat.reduceMul, Nat.reduceLeDiff, Nat.reduceLT, Nat.reduceEqDiff, Nat.reduceBEq, Nat.reduceBNe, Int.reduceNeg, Int.reduceToNat, Bool.or_false, Bool.false_or, Bool.or_true, Bool.true_or, BEq.rfl, Bool.not_eq_true, Bool.not_eq_false, decide_eq_true_eq, not_true_eq_false, not_false_eq_true, ite_true, ite_false, List.append_nil, and_assoc, Nat.mul_zero, Nat.zero_mul, b24_2, hd1, hd2, htl, Int.toNat_natCast, hset]
          repeat (refine And.intro (by first | omega | trivial | (intros; omega)) ?_)
          refine hK2 () trivial _ _ ?_
          simp -implicitDefEqProofs only [push_cast, false_implies, reduceCtorEq, Classical.not_not, Nat.reduceAdd, Nat.reduceSub, Nat.reduceMul, Nat.reduceLeDiff, Nat.reduceLT, Nat.reduceEqDiff, Nat.reduceBEq, Nat.reduceBNe, Int.reduceNeg, Int.reduceToNat, Bool.or_false, Bool.false_or, Bool.or_true, Bool.true_or, BEq.rfl, Bool.not_eq_true, Bool.not_eq_false, decide_eq_true_eq, not_true_eq_false, not_false_eq_true, ite_true, ite_false, List.append_nil, and_assoc, Nat.mul_zero, Nat.zero_mul, hd1]
        · have hset := hst.2 fun h => hd2 h.2
          simp -implicitDefEqProofs only [push_cast, false_implies, reduceCtorEq, Classical.not_not, Nat.reduceAdd, Nat.reduceSub, Nat.reduceMul, Nat.reduceLeDiff, Nat.reduceLT, Nat.reduceEqDiff, Nat.reduceBEq, Nat.reduceBNe, Int.reduceNeg, Int.reduceToNat, Bool.or_false, Bool.false_or, Bool.or_true, Bool.true_or, BEq.rfl, Bool.not_eq_true, Bool.not_eq_false, decide_eq_true_eq, not_true_eq_false, not_false_eq_true, ite_true, ite_false, List.append_nil, and_assoc, Nat.mul_zero, Nat.zero_mul, b24_2, hd1, hd2]
          repeat (refine And.intro (by first | omega | trivial | (intros; omega)) ?_)
          refine hK2 () trivial _ _ ?_
          simp -implicitDefEqProofs only [push_cast, false_implies, reduceCtorEq, Classical.not_not, Nat.reduceAdd, Nat.reduceSub, Nat.reduceMul, Nat.reduceLeDiff, Nat.reduceLT, Nat.reduceEqDiff, Nat.reduceBEq, Nat.reduceBNe, Int.reduceNeg, Int.reduceToNat, Bool.or_false, Bool.false_or, Bool.or_true, Bool.true_or, BEq.rfl, Bool.not_eq_true, Bool.not_eq_false, decide_eq_true_eq, not_true_eq_false, not_false_eq_true, ite_true, ite_false, List.append_nil, and_assoc, Nat.mul_zero, Nat.zero_mul, ← hset, hd1]
      · have hset := hst.2 fun h => hd1 h.1
        simp -implicitDefEqProofs only [push_cast, false_implies, reduceCtorEq, Classical.not_not, Nat.reduceAdd, Nat.reduceSub, Nat.reduceMul, Nat.reduceLeDiff, Nat.reduceLT, Nat.reduceEqDiff, Nat.reduceBEq, Nat.reduceBNe, Int.reduceNeg, Int.reduceToNat, Bool.or_false, Bool.false_or, Bool.or_true, Bool.true_or, BEq.rfl, Bool.not_eq_true, Bool.not_eq_false, decide_eq_true_eq, not_true_eq_false, not_false_eq_true, ite_true, ite_false, List.append_nil, and_assoc, Nat.mul_zero, Nat.zero_mul, b24_2, hd1]
        refine hK2 () trivial _ _ ?_
        simp -implicitDefEqProofs only [push_cast, false_implies, reduceCtorEq, Classical.not_not, Nat.reduceAdd, Nat.reduceSub, Nat.reduceMul, Nat.reduceLeDiff, Nat.reduceLT, Nat.reduceEqDiff, Nat.reduceBEq, Nat.reduceBNe, Int.reduceNeg, Int.reduceToNat, Bool.or_false, Bool.false_or, Bool.or_true, Bool.true_or, BEq.rfl, Bool.not_eq_true, Bool.not_eq_false, decide_eq_true_eq, not_true_eq_false, not_false_eq_true, ite_true, ite_false, List.append_nil, and_assoc, Nat.mul_zero, Nat.zero_mul, ← hset, hd1]
    · intro _ _
      have eN : its64.n ⟨X5 2 33, X5 2 34, L, ⟨x, y, a, b, W, H, xs⟩⟩ = a * b := rfl
      simp -implicitDefEqProofs only [push_cast, false_implies, reduceCtorEq, Classical.not_not, Nat.reduceAdd, Nat.reduceSub, Nat.reduceMul, Nat.reduceLeDiff, Nat.reduceLT, Nat.reduceEqDiff, Nat.reduceBEq, Nat.reduceBNe, Int.reduceNeg, Int.reduceToNat, Bool.or_false, Bool.false_or, Bool.or_true, Bool.true_or, BEq.rfl, Bool.not_eq_true, Bool.not_eq_false, decide_eq_true_eq, not_true_eq_false, not_false_eq_true, ite_true, ite_false, List.append_nil, and_assoc, Nat.mul_zero, Nat.zero_mul, eN, hall, r24_3]
      refine ⟨by omega, by omega, ?_⟩
      refine hK (i + 1) (show i + 1 ≤ l.length by omega) (show l.length - (i + 1) < l.length - i by omega) _ _ (Sub.pt ?_)
      simp -implicitDefEqProofs only [push_cast, false_implies, reduceCtorEq, Classical.not_not, Nat.reduceAdd, Nat.reduceSub, Nat.reduceMul, Nat.reduceLeDiff, Nat.reduceLT, Nat.reduceEqDiff, Nat.reduceBEq, Nat.reduceBNe, Int.reduceNeg, Int.reduceToNat, Bool.or_false, Bool.false_or, Bool.or_true, Bool.true_or, BEq.rfl, Bool.not_eq_true, Bool.not_eq_false, decide_eq_true_eq, not_true_eq_false, not_false_eq_true, ite_true, ite_false, List.append_nil, and_assoc, Nat.mul_zero, Nat.zero_mul]
  · obtain rfl : i = l.length := by omega
    clear hK
    simp -implicitDefEqProofs only [push_cast, false_implies, reduceCtorEq, Classical.not_not, Nat.reduceAdd, Nat.reduceSub, Nat.reduceMul, Nat.reduceLeDiff, Nat.reduceLT, Nat.reduceEqDiff, Nat.reduceBEq, Nat.reduceBNe, Int.reduceNeg, Int.reduceToNat, Bool.or_false, Bool.false_or, Bool.or_true, Bool.true_or, BEq.rfl, Bool.not_eq_true, Bool.not_eq_false, decide_eq_true_eq, not_true_eq_false, not_false_eq_true, ite_true, ite_false, List.append_nil, and_assoc, Nat.mul_zero, Nat.zero_mul, b24_1, r24_4, Int.lt_irrefl, true_implies, true_and]
    refine postF.mk' (locs [X1 4 20]) [some 0, some 1, some 20] ?_
    simp -implicitDefEqProofs only [push_cast, false_implies, reduceCtorEq, Classical.not_not, Nat.reduceAdd, Nat.reduceSub, Nat.reduceMul, Nat.reduceLeDiff, Nat.reduceLT, Nat.reduceEqDiff, Nat.reduceBEq, Nat.reduceBNe, Int.reduceNeg, Int.reduceToNat, Bool.or_false, Bool.false_or, Bool.or_true, Bool.true_or, BEq.rfl, Bool.not_eq_true, Bool.not_eq_false, decide_eq_true_eq, not_true_eq_false, not_false_eq_true, ite_true, ite_false, List.append_nil, and_assoc, Nat.mul_zero, Nat.zero_mul, fs24, y1, y2, y3, lx, if_true, tabl_length, hwl]
def ent24 : Entry := spOf fs24 inv24
theorem e24 : EntryOk Try.prog 24 ent24 := entry_of ok24 inv24
@[push_cast] theorem ent24_app (us : List SV) (look : Look) (x : Nat → Xf.Loc) (k : Nat) : ent24 us look x k = spOf fs24 inv24 us look x k := rfl
def b25_1 : IR :=
  .seq (.seq (.reg false [⟨some 20, none, ⟨[], []⟩, .mov (.t 6)⟩,
    ⟨some 21, none, ⟨[], []⟩, .mov (.t 1)⟩,
    ⟨some 22, none, ⟨[], []⟩, .len (.t 21)⟩,
    ⟨some 23, none, ⟨[], []⟩, .bin 0 .lss (.t 20) (.t 22)⟩] [20, 21, 22] []) (.cond (.t 23) (.skip) (.exit 0))) (.seq (.block 1 (.seq (.reg true [⟨some 26, none, ⟨[], []⟩, .fld (.t 2) 0⟩,
    ⟨some 27, none, ⟨[], []⟩, .ld false none 0 0 (.t 26)⟩,
    ⟨some 28, none, ⟨[], []⟩, .fld (.t 2) 1⟩,
    ⟨some 29, none, ⟨[], []⟩, .ld false none 0 0 (.t 28)⟩,
    ⟨some 30, none, ⟨[], []⟩, .mov (.t 1)⟩,
    ⟨some 31, none, ⟨[], []⟩, .mov (.t 6)⟩,
    ⟨some 32, none, ⟨[], []⟩, .idxS (.t 30) (.t 31) 5⟩,
    ⟨some 33, none, ⟨[], []⟩, .ld true (some 5) 0 0 (.t 32)⟩,
    ⟨some 34, none, ⟨[], []⟩, .call (some 4) 16 36 [.t 27, .t 29, .t 33]⟩,
    ⟨some 35, none, ⟨[], []⟩, .not (.t 34)⟩] [23, 26, 27, 28, 29, 30, 31, 32, 33, 34] []) (.cond (.t 35) (.seq (.reg false [⟨some 36, none, ⟨[], []⟩, .build [.int .i64 0, .int .i64 0, nilSV] []⟩,
    ⟨none, none, ⟨[], []⟩, .sto false 3 .u8 (.t 4) (.t 36)⟩,
    ⟨some 5, none, ⟨[], []⟩, .mov (.k (.int .i64 2))⟩] [1, 2, 6, 35, 36] []) (.ret)) (.skip)))) (.reg false [⟨some 24, none, ⟨[], []⟩, .mov (.t 6)⟩,
    ⟨some 25, none, ⟨[], []⟩, .bin 0 .add (.t 24) (.k (.int .i64 1))⟩,
    ⟨some 6, none, ⟨[], []⟩, .mov (.t 25)⟩] [5, 24, 25, 35] []))
def b25_4 : IR :=
  .seq (.seq (.reg true [⟨some 97, none, ⟨[], []⟩, .mov (.t 15)⟩,
    ⟨some 98, none, ⟨[], []⟩, .mov (.t 1)⟩,
    ⟨some 99, none, ⟨[], []⟩, .mov (.t 11)⟩,
    ⟨some 100, none, ⟨[], []⟩, .idxS (.t 98) (.t 99) 5⟩,
    ⟨some 101, none, ⟨[], []⟩, .fld (.t 100) 1⟩,
    ⟨some 102, none, ⟨[], []⟩, .ld true none 0 0 (.t 101)⟩,
    ⟨some 103, none, ⟨[], []⟩, .mov (.t 1)⟩,
    ⟨some 104, none, ⟨[], []⟩, .mov (.t 11)⟩,
    ⟨some 105, none, ⟨[], []⟩, .idxS (.t 103) (.t 104) 5⟩,
    ⟨some 106, none, ⟨[], []⟩, .fld (.t 105) 3⟩,
    ⟨some 107, none, ⟨[], []⟩, .ld true none 0 0 (.t 106)⟩,
    ⟨some 108, none, ⟨[], []⟩, .bin 0 .add (.t 102) (.t 107)⟩,
    ⟨some 109, none, ⟨[], []⟩, .bin 0 .lss (.t 97) (.t 108)⟩] [97, 98, 99, 100, 101, 102, 103, 104, 105, 106, 107, 108] []) (.cond (.t 109) (.skip) (.exit 6))) (.seq (.block 7 (.seq (.reg false [⟨some 112, none, ⟨[], []⟩, .mov (.t 1)⟩,
    ⟨some 113, none, ⟨[], []⟩, .mov (.t 11)⟩,
    ⟨some 114, none, ⟨[], []⟩, .idxS (.t 112) (.t 113) 5⟩,
    ⟨some 115, none, ⟨[], []⟩, .fld (.t 114) 0⟩,
    ⟨some 116, none, ⟨[], []⟩, .ld true none 0 0 (.t 115)⟩,
    ⟨some 117, none, ⟨[], []⟩, .bin 0 .eql (.t 116) (.k (.int .i64 1))⟩,
    ⟨some 118, none, ⟨[], []⟩, .mov (.t 117)⟩,
    ⟨some 119, some (118, true), ⟨[], []⟩, .fld (.t 2) 2⟩,
    ⟨some 120, some (118, true), ⟨[], []⟩, .ld false none 0 0 (.t 119)⟩,
    ⟨some 121, some (118, true), ⟨[], []⟩, .mov (.t 14)⟩,
    ⟨some 122, some (118, true), ⟨[], []⟩, .fld (.t 2) 0⟩,
    ⟨some 123, some (118, true), ⟨[], []⟩, .ld false none 0 0 (.t 122)⟩,
    ⟨some 124, some (118, true), ⟨[], []⟩, .bin 0 .mul (.t 121) (.t 123)⟩,
    ⟨some 125, some (118, true), ⟨[], []⟩, .mov (.t 15)⟩,
    ⟨some 126, some (118, true), ⟨[], []⟩, .bin 0 .add (.t 124) (.t 125)⟩,
    ⟨some 127, some (118, true), ⟨[], []⟩, .idxS (.t 120) (.t 126) 1⟩,
    ⟨some 128, some (118, true), ⟨[], []⟩, .ld true none 0 0 (.t 127)⟩,
    ⟨some 129, some (118, true), ⟨[], []⟩, .bin 0 .mul (.k (.int .i64 2)) (.t 128)⟩,
    ⟨some 130, some (118, true), ⟨[], []⟩, .mov (.t 12)⟩,
    ⟨some 131, some (118, true), ⟨[], []⟩, .mov (.t 13)⟩,
    ⟨some 132, some (118, true), ⟨[], []⟩, .bin 0 .add (.t 130) (.t 131)⟩,
    ⟨some 133, some (118, true), ⟨[], []⟩, .bin 0 .lss (.t 129) (.t 132)⟩,
    ⟨some 134, none, ⟨[], []⟩, .pick (.t 118) (.t 133) (.k (.bool false))⟩] [109, 112, 113, 114, 115, 116, 117, 118, 119, 120, 121, 122, 123, 124, 125, 126, 127, 128, 129, 130, 131, 132, 133] []) (.cond (.t 134) (.reg false [⟨some 135, none, ⟨[], []⟩, .ld false (some 3) 0 0 (.t 9)⟩,
    ⟨some 136, none, ⟨[], []⟩, .mov (.t 15)⟩,
    ⟨some 137, none, ⟨[], []⟩, .mov (.t 14)⟩,
    ⟨some 138, none, ⟨[], []⟩, .call none 33 48 [.t 135, .t 136, .t 137, .k (.int .i64 1)]⟩] [134, 135, 136, 137, 138] []) (.skip)))) (.reg false [⟨some 110, none, ⟨[], []⟩, .mov (.t 15)⟩,
    ⟨some 111, none, ⟨[], []⟩, .bin 0 .add (.t 110) (.k (.int .i64 1))⟩,
    ⟨some 15, none, ⟨[], []⟩, .mov (.t 111)⟩] [110, 111, 134] []))
def r25_5 : IR :=
  .reg false [⟨some 90, none, ⟨[], []⟩, .mov (.t 14)⟩,
    ⟨some 91, none, ⟨[], []⟩, .bin 0 .add (.t 90) (.k (.int .i64 1))⟩,
    ⟨some 14, none, ⟨[], []⟩, .mov (.t 91)⟩] [15, 90, 91] []
def b25_3 : IR :=
  .seq (.seq (.reg true [⟨some 77, none, ⟨[], []⟩, .mov (.t 14)⟩,
    ⟨some 78, none, ⟨[], []⟩, .mov (.t 1)⟩,
    ⟨some 79, none, ⟨[], []⟩, .mov (.t 11)⟩,
    ⟨some 80, none, ⟨[], []⟩, .idxS (.t 78) (.t 79) 5⟩,
    ⟨some 81, none, ⟨[], []⟩, .fld (.t 80) 2⟩,
    ⟨some 82, none, ⟨[], []⟩, .ld true none 0 0 (.t 81)⟩,
    ⟨some 83, none, ⟨[], []⟩, .mov (.t 1)⟩,
    ⟨some 84, none, ⟨[], []⟩, .mov (.t 11)⟩,
    ⟨some 85, none, ⟨[], []⟩, .idxS (.t 83) (.t 84) 5⟩,
    ⟨some 86, none, ⟨[], []⟩, .fld (.t 85) 4⟩,
    ⟨some 87, none, ⟨[], []⟩, .ld true none 0 0 (.t 86)⟩,
    ⟨some 88, none, ⟨[], []⟩, .bin 0 .add (.t 82) (.t 87)⟩,
    ⟨some 89, none, ⟨[], []⟩, .bin 0 .lss (.t 77) (.t 88)⟩] [77, 78, 79, 80, 81, 82, 83, 84, 85, 86, 87, 88] []) (.cond (.t 89) (.skip) (.exit 4))) (.seq (.block 5 (.seq (.reg false [⟨some 92, none, ⟨[], []⟩, .mov (.t 1)⟩,
    ⟨some 93, none, ⟨[], []⟩, .mov (.t 11)⟩,
    ⟨some 94, none, ⟨[], []⟩, .idxS (.t 92) (.t 93) 5⟩,
    ⟨some 95, none, ⟨[], []⟩, .fld (.t 94) 1⟩,
    ⟨some 96, none, ⟨[], []⟩, .ld true none 0 0 (.t 95)⟩,
    ⟨some 15, none, ⟨[], []⟩, .mov (.t 96)⟩] [89, 92, 93, 94, 95, 96] []) (.block 6 (.loop b25_4)))) (r25_5))
def r25_6 : IR :=
  .reg false [⟨some 61, none, ⟨[], []⟩, .mov (.t 11)⟩,
    ⟨some 62, none, ⟨[], []⟩, .bin 0 .add (.t 61) (.k (.int .i64 1))⟩,
    ⟨some 11, none, ⟨[], []⟩, .mov (.t 62)⟩] [12, 13, 14, 61, 62] []
def b25_2 : IR :=
  .seq (.seq (.reg false [⟨some 57, none, ⟨[], []⟩, .mov (.t 11)⟩,
    ⟨some 58, none, ⟨[], []⟩, .mov (.t 1)⟩,
    ⟨some 59, none, ⟨[], []⟩, .len (.t 58)⟩,
    ⟨some 60, none, ⟨[], []⟩, .bin 0 .lss (.t 57) (.t 59)⟩] [57, 58, 59] []) (.cond (.t 60) (.skip) (.exit 2))) (.seq (.block 3 (.seq (.reg true [⟨some 64, none, ⟨[], []⟩, .ld false (some 3) 0 0 (.t 2)⟩,
    ⟨some 65, none, ⟨[], []⟩, .mov (.t 1)⟩,
    ⟨some 66, none, ⟨[], []⟩, .mov (.t 11)⟩,
    ⟨some 67, none, ⟨[], []⟩, .idxS (.t 65) (.t 66) 5⟩,
    ⟨some 68, none, ⟨[], []⟩, .ld true (some 5) 0 0 (.t 67)⟩,
    ⟨some 69, none, ⟨[], []⟩, .call (some 4) 29 47 [.t 64, .t 68]⟩,
    ⟨some 63, none, ⟨[], []⟩, .mov (.t 69)⟩,
    ⟨some 70, none, ⟨[], []⟩, .ext (.t 63) 0⟩,
    ⟨some 71, none, ⟨[], []⟩, .ext (.t 63) 1⟩,
    ⟨some 12, none, ⟨[], []⟩, .mov (.t 70)⟩,
    ⟨some 13, none, ⟨[], []⟩, .mov (.t 71)⟩] [60, 63, 64, 65, 66, 67, 68, 69, 70, 71] []) (.seq (.reg false [⟨some 72, none, ⟨[], []⟩, .mov (.t 1)⟩,
    ⟨some 73, none, ⟨[], []⟩, .mov (.t 11)⟩,
    ⟨some 74, none, ⟨[], []⟩, .idxS (.t 72) (.t 73) 5⟩,
    ⟨some 75, none, ⟨[], []⟩, .fld (.t 74) 2⟩,
    ⟨some 76, none, ⟨[], []⟩, .ld true none 0 0 (.t 75)⟩,
    ⟨some 14, none, ⟨[], []⟩, .mov (.t 76)⟩] [72, 73, 74, 75, 76] []) (.block 4 (.loop b25_3))))) (r25_6))
def r25_7 : IR :=
  .seq (.reg false [⟨some 139, none, ⟨[], []⟩, .ld false (some 3) 0 0 (.t 9)⟩,
    ⟨none, none, ⟨[], []⟩, .sto false 3 .u8 (.t 4) (.t 139)⟩,
    ⟨some 5, none, ⟨[], []⟩, .mov (.k (.int .i64 0))⟩] [1, 2, 9, 11, 139] []) (.ret)
def r25_8 : IR :=
  .seq (.reg false [⟨some 38, none, ⟨[], []⟩, .fld (.t 2) 0⟩,
    ⟨some 39, none, ⟨[], []⟩, .ld false none 0 0 (.t 38)⟩,
    ⟨some 40, none, ⟨[], []⟩, .fld (.t 2) 1⟩,
    ⟨some 41, none, ⟨[], []⟩, .ld false none 0 0 (.t 40)⟩,
    ⟨some 42, none, ⟨[], []⟩, .mov (.t 1)⟩,
    ⟨some 43, none, ⟨[], []⟩, .call (some 4) 20 37 [.t 39, .t 41, .t 42]⟩,
    ⟨some 37, none, ⟨[], []⟩, .mov (.t 43)⟩,
    ⟨some 44, none, ⟨[], []⟩, .ext (.t 37) 0⟩,
    ⟨some 45, none, ⟨[], []⟩, .ext (.t 37) 1⟩,
    ⟨some 7, none, ⟨[], []⟩, .mov (.t 44)⟩,
    ⟨some 8, none, ⟨[], []⟩, .mov (.t 45)⟩] [6, 7, 37, 38, 39, 40, 41, 42, 43, 44, 45] []) (.seq (.seq (.reg false [⟨some 46, none, ⟨[], []⟩, .mov (.t 8)⟩,
    ⟨some 47, none, ⟨[], []⟩, .not (.t 46)⟩] [8, 46] []) (.cond (.t 47) (.seq (.reg false [⟨some 48, none, ⟨[], []⟩, .build [.int .i64 0, .int .i64 0, nilSV] []⟩,
    ⟨none, none, ⟨[], []⟩, .sto false 3 .u8 (.t 4) (.t 48)⟩,
    ⟨some 5, none, ⟨[], []⟩, .mov (.k (.int .i64 71))⟩] [1, 2, 47, 48] []) (.ret)) (.skip))) (.seq (.reg false [⟨some 50, none, ⟨[], []⟩, .fld (.t 2) 0⟩,
    ⟨some 51, none, ⟨[], []⟩, .ld false none 0 0 (.t 50)⟩,
    ⟨some 52, none, ⟨[], []⟩, .fld (.t 2) 1⟩,
    ⟨some 53, none, ⟨[], []⟩, .ld false none 0 0 (.t 52)⟩,
    ⟨some 54, none, ⟨[], []⟩, .call (some 4) 24 46 [.t 51, .t 53, .k (.int .i64 0)]⟩,
    ⟨some 49, none, ⟨[], []⟩, .mov (.t 54)⟩,
    ⟨some 55, none, ⟨[], []⟩, .ext (.t 49) 0⟩,
    ⟨some 56, none, ⟨[], []⟩, .ext (.t 49) 1⟩,
    ⟨some 9, none, ⟨[], []⟩, .alloc 28 [.int .i64 0, .int .i64 0, nilSV]⟩,
    ⟨none, none, ⟨[], []⟩, .sto false 3 .u8 (.t 9) (.t 55)⟩,
    ⟨some 10, none, ⟨[], []⟩, .mov (.t 56)⟩] [5, 10, 47, 49, 50, 51, 52, 53, 54, 55, 56] []) (.seq (.seq (.reg false [⟨some 11, none, ⟨[], []⟩, .mov (.k (.int .i64 0))⟩] [] []) (.block 2 (.loop b25_2))) (r25_7))))
def ir25 : IR :=
  .seq (.reg false [⟨some 2, none, ⟨[], []⟩, .box 10 (.t 0)⟩,
    ⟨some 4, none, ⟨[], []⟩, .alloc 11 [.int .i64 0, .int .i64 0, nilSV]⟩,
    ⟨some 5, none, ⟨[], []⟩, .mov (.k (.int .i64 0))⟩] [0, 5] []) (.seq (.seq (.reg false [⟨some 16, none, ⟨[], []⟩, .ld false (some 3) 0 0 (.t 2)⟩,
    ⟨some 17, none, ⟨[], []⟩, .call (some 4) 12 15 [.t 16]⟩,
    ⟨some 18, none, ⟨[], []⟩, .not (.t 17)⟩] [16, 17] []) (.cond (.t 18) (.seq (.reg false [⟨some 19, none, ⟨[], []⟩, .build [.int .i64 0, .int .i64 0, nilSV] []⟩,
    ⟨none, none, ⟨[], []⟩, .sto false 3 .u8 (.t 4) (.t 19)⟩,
    ⟨some 5, none, ⟨[], []⟩, .mov (.k (.int .i64 70))⟩] [1, 2, 18, 19] []) (.ret)) (.skip))) (.seq (.seq (.reg false [⟨some 6, none, ⟨[], []⟩, .mov (.k (.int .i64 0))⟩] [5, 18] []) (.block 0 (.loop b25_1))) (r25_8)))
def kp25_1 : List Nat := [1, 2, 4, 6]
def kl25_1 : List Nat := [16, 17, 18, 19]
attribute [push_cast] kp25_1 kl25_1
def kp25_4 : List Nat := [1, 2, 4, 9, 11, 12, 13, 14, 15]
def kl25_4 : List Nat := [33, 34, 35, 36]
attribute [push_cast] kp25_4 kl25_4
def kp25_3 : List Nat := [1, 2, 4, 9, 11, 12, 13, 14]
def kl25_3 : List Nat := [33, 34, 35, 36]
attribute [push_cast] kp25_3 kl25_3
def kp25_2 : List Nat := [1, 2, 4, 9, 11]
def kl25_2 : List Nat := [29, 30, 31, 32, 33, 34, 35, 36]
attribute [push_cast] kp25_2 kl25_2
set_option maxRecDepth 4000 in
theorem comp25 : (Try.f25.body.bind fun c => compC tab isP chkAll ir25 c) = some ir25 := by kernel_rfl
set_option maxRecDepth 4000 in
set_option maxHeartbeats 2000000 in
theorem ok25 : FSOk Try.prog 25 fs24 := by
  refine ⟨⟨_, Try.func25, by kernel_rfl, by kernel_rfl⟩, fun a => ⟨by simp [fs24, push_cast, noMine, argOwn, Chunk.frArg], by simp [fs24, push_cast, outOk, Chunk.ext], fun x => .inl (by simp [fs24, push_cast, frNew, frOut, Chunk.fr])⟩, fun a hp => ?_⟩
  obtain ⟨⟨p, L⟩, LP, s, l⟩ := a
  obtain ⟨hp, hl, hs⟩ : p.xs.length ≤ 140737488355328 ∧ l.length ≤ 1000000 ∧ (0 < l.length → s = 5) := hp
  have hget := getPt_map l
  have hlm : (l.map Pt.rc).length = l.length := List.length_map _
  obtain ⟨w, h, xs⟩ := p
  change xs.length ≤ 140737488355328 at hp
  change Tri Try.prog 25 [plV ⟨w, h, xs⟩ L 0, .sl 1 LP s 0 l.length] [some (.ro, L, .ints .i64 xs), some (.ro, LP, .recs 5 false [] (l.map Pt.rc))] (postF fs24 ⟨⟨⟨w, h, xs⟩, L⟩, LP, s, l⟩)
  refine tri_evS (hyp (l := [(15, ent15), (36, ent36), (37, ent37), (46, ent46), (47, ent47), (48, ent48)]) (lp := []) ⟨e15, e36, e37, e46, e47, e48, trivial⟩ trivial) Try.func25 comp25 (rs := [.cell 4 (some 3), .tmp 5]) (by rfl) Try.ntmps25 37 ?_
  by_cases hG : (⟨w, h, xs⟩ : Pl).Gr
  case neg =>
    have y1 : maE ⟨w, h, xs⟩ l = 70 := by unfold maE; rw [if_neg hG]
    have y2 : ¬ maOk ⟨w, h, xs⟩ l := fun H => hG H.1
    have y3 : maB ⟨w, h, xs⟩ l = ⟨0, 0, []⟩ := by unfold maB; rw [if_neg y2]
    simp -implicitDefEqProofs only [push_cast, false_implies, reduceCtorEq, Classical.not_not, Nat.reduceAdd, Nat.reduceSub, Nat.reduceMul, Nat.reduceLeDiff, Nat.reduceLT, Nat.reduceEqDiff, Nat.reduceBEq, Nat.reduceBNe, Int.reduceNeg, Int.reduceToNat, Bool.or_false, Bool.false_or, Bool.or_true, Bool.true_or, BEq.rfl, Bool.not_eq_true, Bool.not_eq_false, decide_eq_true_eq, not_true_eq_false, not_false_eq_true, ite_true, ite_false, List.append_nil, and_assoc, Nat.mul_zero, Nat.zero_mul, ir25, fs14, fs12, plV, hG, hp]
    intro X
    refine postF.mk' (fun _ => default) [some 0, some 1, none] ?_
    simp -implicitDefEqProofs only [push_cast, false_implies, reduceCtorEq, Classical.not_not, Nat.reduceAdd, Nat.reduceSub, Nat.reduceMul, Nat.reduceLeDiff, Nat.reduceLT, Nat.reduceEqDiff, Nat.reduceBEq, Nat.reduceBNe, Int.reduceNeg, Int.reduceToNat, Bool.or_false, Bool.false_or, Bool.or_true, Bool.true_or, BEq.rfl, Bool.not_eq_true, Bool.not_eq_false, decide_eq_true_eq, not_true_eq_false, not_false_eq_true, ite_true, ite_false, List.append_nil, and_assoc, Nat.mul_zero, Nat.zero_mul, fs24, y1, y2, y3, lx, if_false, List.length_nil]
  have hsd : SidesOk w h := hG.1
  obtain ⟨s1, s2, s3, s4, s5⟩ := id hsd
  have hwl : (xs.length : Int) = w * h := hG.2.1
  have y0 : ∀ e, cuE w h l = e → maE ⟨w, h, xs⟩ l = e := fun e he => by unfold maE; rw [if_pos hG, ← he]
  have y00 : ∀ e, cuE w h l = e → ¬ e = 0 → ¬ maOk ⟨w, h, xs⟩ l ∧ maB ⟨w, h, xs⟩ l = ⟨0, 0, []⟩ := fun e he h0 => by
    have y2 : ¬ maOk ⟨w, h, xs⟩ l := fun H => h0 (by rw [← he]; exact H.2)
    exact ⟨y2, by unfold maB; rw [if_neg y2]⟩
  simp -implicitDefEqProofs only [push_cast, false_implies, reduceCtorEq, Classical.not_not, Nat.reduceAdd, Nat.reduceSub, Nat.reduceMul, Nat.reduceLeDiff, Nat.reduceLT, Nat.reduceEqDiff, Nat.reduceBEq, Nat.reduceBNe, Int.reduceNeg, Int.reduceToNat, Bool.or_false, Bool.false_or, Bool.or_true, Bool.true_or, BEq.rfl, Bool.not_eq_true, Bool.not_eq_false, decide_eq_true_eq, not_true_eq_false, not_false_eq_true, ite_true, ite_false, List.append_nil, and_assoc, Nat.mul_zero, Nat.zero_mul, ir25, fs14, fs12, plV, hG, hp]
  intro X
  refine evS_loopU (A := Nat) kp25_1 kl25_1 (fun k => [(6, .int .i64 k)]) (fun _ => []) (fun k => k ≤ l.length ∧ ∀ j : Nat, j < k → (rdPt l j).In w h) (fun k => l.length - k) 0 ⟨Nat.zero_le _, fun j hj => absurd hj (Nat.not_lt_zero j)⟩ (Sub.pt ?_) ?_
  · simp -implicitDefEqProofs only [push_cast, false_implies, reduceCtorEq, Classical.not_not, Nat.reduceAdd, Nat.reduceSub, Nat.reduceMul, Nat.reduceLeDiff, Nat.reduceLT, Nat.reduceEqDiff, Nat.reduceBEq, Nat.reduceBNe, Int.reduceNeg, Int.reduceToNat, Bool.or_false, Bool.false_or, Bool.or_true, Bool.true_or, BEq.rfl, Bool.not_eq_true, Bool.not_eq_false, decide_eq_true_eq, not_true_eq_false, not_false_eq_true, ite_true, ite_false, List.append_nil, and_assoc, Nat.mul_zero, Nat.zero_mul]
  intro k ⟨hk, hj⟩ K hK
  by_cases hk' : k < l.length
  · have r1 := recAt_Pt hk' []
    have hmem := rdPt_mem hk'
    obtain rfl := hs (by omega)
    obtain ⟨q', hq⟩ : ∃ q, rdPt l k = q := ⟨_, rfl⟩
    rw [hq] at r1 hmem
    obtain ⟨kd, qx, qy, qw, qh⟩ := q'
    by_cases hI : (⟨kd, qx, qy, qw, qh⟩ : Pt).In w h
    · simp -implicitDefEqProofs only [push_cast, false_implies, reduceCtorEq, Classical.not_not, Nat.reduceAdd, Nat.reduceSub, Nat.reduceMul, Nat.reduceLeDiff, Nat.reduceLT, Nat.reduceEqDiff, Nat.reduceBEq, Nat.reduceBNe, Int.reduceNeg, Int.reduceToNat, Bool.or_false, Bool.false_or, Bool.or_true, Bool.true_or, BEq.rfl, Bool.not_eq_true, Bool.not_eq_false, decide_eq_true_eq, not_true_eq_false, not_false_eq_true, ite_true, ite_false, List.append_nil, and_assoc, Nat.mul_zero, Nat.zero_mul, b25_1, r1, Pt.rc, hlm, fs36, ptV, s1, s2, s3, s4, hI]
      refine ⟨fun _ => ?_, fun h => by omega⟩
      repeat (refine And.intro (by first | omega | trivial | (intros; omega)) ?_)
      refine hK (k + 1) ⟨by omega, fun j h => ?_⟩ (show l.length - (k + 1) < l.length - k by omega) _ _ (Sub.pt ?_)
      · by_cases e : j = k
        · subst e; rw [hq]; exact hI
        · exact hj j (by omega)
      · simp -implicitDefEqProofs only [push_cast, false_implies, reduceCtorEq, Classical.not_not, Nat.reduceAdd, Nat.reduceSub, Nat.reduceMul, Nat.reduceLeDiff, Nat.reduceLT, Nat.reduceEqDiff, Nat.reduceBEq, Nat.reduceBNe, Int.reduceNeg, Int.reduceToNat, Bool.or_false, Bool.false_or, Bool.or_true, Bool.true_or, BEq.rfl, Bool.not_eq_true, Bool.not_eq_false, decide_eq_true_eq, not_true_eq_false, not_false_eq_true, ite_true, ite_false, List.append_nil, and_assoc, Nat.mul_zero, Nat.zero_mul]
    · clear hK
      have e2 : cuE w h l = 2 := by unfold cuE; rw [if_neg fun H => hI (H _ hmem)]
      have v1 := y0 2 e2
      obtain ⟨v2, v3⟩ := y00 2 e2 (by decide)
      simp -implicitDefEqProofs only [push_cast, false_implies, reduceCtorEq, Classical.not_not, Nat.reduceAdd, Nat.reduceSub, Nat.reduceMul, Nat.reduceLeDiff, Nat.reduceLT, Nat.reduceEqDiff, Nat.reduceBEq, Nat.reduceBNe, Int.reduceNeg, Int.reduceToNat, Bool.or_false, Bool.false_or, Bool.or_true, Bool.true_or, BEq.rfl, Bool.not_eq_true, Bool.not_eq_false, decide_eq_true_eq, not_true_eq_false, not_false_eq_true, ite_true, ite_false, List.append_nil, and_assoc, Nat.mul_zero, Nat.zero_mul, b25_1, r1, Pt.rc, hlm, fs36, ptV, s1, s2, s3, s4, hI]
      refine ⟨fun _ => ?_, fun h => by omega⟩
      repeat (refine And.intro (by first | omega | trivial | (intros; omega)) ?_)
      refine postF.mk' (fun _ => default) [some 0, some 1, none] ?_
      simp -implicitDefEqProofs only [push_cast, false_implies, reduceCtorEq, Classical.not_not, Nat.reduceAdd, Nat.reduceSub, Nat.reduceMul, Nat.reduceLeDiff, Nat.reduceLT, Nat.reduceEqDiff, Nat.reduceBEq, Nat.reduceBNe, Int.reduceNeg, Int.reduceToNat, Bool.or_false, Bool.false_or, Bool.or_true, Bool.true_or, BEq.rfl, Bool.not_eq_true, Bool.not_eq_false, decide_eq_true_eq, not_true_eq_false, not_false_eq_true, ite_true, ite_false, List.append_nil, and_assoc, Nat.mul_zero, Nat.zero_mul, fs24, v1, v2, v3, lx, if_false, List.length_nil]
  · obtain rfl : k = l.length := by omega
    clear hK
    have hP : ptsIn w h l := fun x hx => by
      obtain ⟨j, hj', rfl⟩ := List.mem_iff_getElem.1 hx
      have := hj j hj'
      simpa [rdPt, hj'] using this
    have hkd : kdOk l := fun x hx => ⟨(hP x hx).1, (hP x hx).2.1⟩
    obtain ⟨⟨b, n⟩, hc⟩ : ∃ c, cuS w h l = c := ⟨_, rfl⟩
    have hcR := cuR_of (w := w) (h := h) (l := l)
    rw [hc] at hcR
    cases b
    · have e2 : cuE w h l = 71 := by unfold cuE; rw [if_pos hP, hc]; rfl
      have v1 := y0 71 e2
      obtain ⟨v2, v3⟩ := y00 71 e2 (by decide)
      simp -implicitDefEqProofs only [push_cast, false_implies, reduceCtorEq, Classical.not_not, Nat.reduceAdd, Nat.reduceSub, Nat.reduceMul, Nat.reduceLeDiff, Nat.reduceLT, Nat.reduceEqDiff, Nat.reduceBEq, Nat.reduceBNe, Int.reduceNeg, Int.reduceToNat, Bool.or_false, Bool.false_or, Bool.or_true, Bool.true_or, BEq.rfl, Bool.not_eq_true, Bool.not_eq_false, decide_eq_true_eq, not_true_eq_false, not_false_eq_true, ite_true, ite_false, List.append_nil, and_assoc, Nat.mul_zero, Nat.zero_mul, b25_1, r25_8, Int.lt_irrefl, true_implies, true_and, fs37, fs41, hget, hlm, hl, hc, hkd, s1, s2, s3, s4]
      refine ⟨hs, ?_⟩
      refine postF.mk' (fun _ => default) [some 0, some 1, none] ?_
      simp -implicitDefEqProofs only [push_cast, false_implies, reduceCtorEq, Classical.not_not, Nat.reduceAdd, Nat.reduceSub, Nat.reduceMul, Nat.reduceLeDiff, Nat.reduceLT, Nat.reduceEqDiff, Nat.reduceBEq, Nat.reduceBNe, Int.reduceNeg, Int.reduceToNat, Bool.or_false, Bool.false_or, Bool.or_true, Bool.true_or, BEq.rfl, Bool.not_eq_true, Bool.not_eq_false, decide_eq_true_eq, not_true_eq_false, not_false_eq_true, ite_true, ite_false, List.append_nil, and_assoc, Nat.mul_zero, Nat.zero_mul, fs24, v1, v2, v3, lx, if_false, List.length_nil]
    · have hcR := hcR rfl
      have hE' : cuE w h l = 0 := by unfold cuE; rw [if_pos hP, hc]; rfl
      have y1 := y0 0 hE'
      have y2 : maOk ⟨w, h, xs⟩ l := ⟨hG, hE'⟩
      have y3 : maB ⟨w, h, xs⟩ l = ⟨w, h, tabl xs.length (msN (⟨w, h, xs⟩ : Pl).pn l l.length)⟩ := by unfold maB maX; rw [if_pos y2]
      have hz : zb (w * h) = tabl xs.length (msN (⟨w, h, xs⟩ : Pl).pn l 0) := by rw [ms_zero]; unfold zb; rw [← hwl]; rfl
      simp -implicitDefEqProofs only [push_cast, false_implies, reduceCtorEq, Classical.not_not, Nat.reduceAdd, Nat.reduceSub, Nat.reduceMul, Nat.reduceLeDiff, Nat.reduceLT, Nat.reduceEqDiff, Nat.reduceBEq, Nat.reduceBNe, Int.reduceNeg, Int.reduceToNat, Bool.or_false, Bool.false_or, Bool.or_true, Bool.true_or, BEq.rfl, Bool.not_eq_true, Bool.not_eq_false, decide_eq_true_eq, not_true_eq_false, not_false_eq_true, ite_true, ite_false, List.append_nil, and_assoc, Nat.mul_zero, Nat.zero_mul, b25_1, r25_8, Int.lt_irrefl, true_implies, true_and, fs37, fs41, fs43, fs63, hsd, hz, hget, hlm, hl, hc, hkd, hcR, s1, s2, s3, s4]
      refine ⟨hs, fun X1 => ?_⟩
      refine evS_loopU (A := Nat) kp25_2 kl25_2 (fun i => [(11, .int .i64 i)]) (fun i => [(24, .mine, X1 4 24, .ints .u8 (tabl xs.length (msN (⟨w, h, xs⟩ : Pl).pn l i)))]) (fun i => i ≤ l.length) (fun i => l.length - i) 0 (Nat.zero_le _) (Sub.pt ?_) ?_
      · simp -implicitDefEqProofs only [push_cast, false_implies, reduceCtorEq, Classical.not_not, Nat.reduceAdd, Nat.reduceSub, Nat.reduceMul, Nat.reduceLeDiff, Nat.reduceLT, Nat.reduceEqDiff, Nat.reduceBEq, Nat.reduceBNe, Int.reduceNeg, Int.reduceToNat, Bool.or_false, Bool.false_or, Bool.or_true, Bool.true_or, BEq.rfl, Bool.not_eq_true, Bool.not_eq_false, decide_eq_true_eq, not_true_eq_false, not_false_eq_true, ite_true, ite_false, List.append_nil, and_assoc, Nat.mul_zero, Nat.zero_mul]
      intro i (hi : i ≤ l.length) K hK
      by_cases hi' : i < l.length
      · have r1 := recAt_Pt hi' []
        have hI := hP _ (rdPt_mem hi')
        have hall := msP_all (⟨w, h, xs⟩ : Pl).pn l i
        have hzero := msP_zero (⟨w, h, xs⟩ : Pl).pn l i
        have hstep := fun {j} => ms_step (p := (⟨w, h, xs⟩ : Pl).pn) (l := l) (i := i) (j := j) (n := xs.length)
        obtain rfl := hs (by omega)
        obtain ⟨q', hq⟩ : ∃ q, rdPt l i = q := ⟨_, rfl⟩
        rw [hq] at r1 hI hall hstep
        obtain ⟨kd, qx, qy, qw, qh⟩ := q'
        obtain ⟨hRp, hGr, hn0, t1, t2, t3, t4, g4, g5, k0, k2⟩ := pr_facts hG hI
        have hlohi := fun {k : Nat} => Rp.lohi hGr (k := k)
        have hat := fun {k : Nat} => atN_lt hRp (k := k)
        obtain ⟨x, rfl⟩ : ∃ n : Nat, qx = (n : Int) := ⟨qx.toNat, by omega⟩
        obtain ⟨y, rfl⟩ : ∃ n : Nat, qy = (n : Int) := ⟨qy.toNat, by omega⟩
        obtain ⟨a, rfl⟩ : ∃ n : Nat, qw = (n : Int) := ⟨qw.toNat, by omega⟩
        obtain ⟨b, rfl⟩ : ∃ n : Nat, qh = (n : Int) := ⟨qh.toNat, by omega⟩
        obtain ⟨W, rfl⟩ : ∃ n : Nat, w = (n : Int) := ⟨w.toNat, by omega⟩
        obtain ⟨H, rfl⟩ : ∃ n : Nat, h = (n : Int) := ⟨h.toNat, by omega⟩
        simp only [Int.toNat_natCast] at hRp hGr hn0 hlohi hat hall hstep
        have hpre : (⟨x, y, a, b, W, H, xs⟩ : Rp).Ok ∧ (⟨x, y, a, b, W, H, xs⟩ : Rp).grey ∧ 0 < (⟨x, y, a, b, W, H, xs⟩ : Rp).n := ⟨hRp, hGr, hn0⟩
        obtain ⟨p1, p2, p3, p4, p5⟩ := id hRp
        simp only at p1 p2 p3 p4 p5
        obtain ⟨lo, hlo⟩ : ∃ N, (⟨x, y, a, b, W, H, xs⟩ : Rp).lo = N := ⟨_, rfl⟩
        obtain ⟨hi2, hhi⟩ : ∃ N, (⟨x, y, a, b, W, H, xs⟩ : Rp).hi = N := ⟨_, rfl⟩
        obtain ⟨v, hv⟩ : ∃ N, (⟨x, y, a, b, W, H, xs⟩ : Rp).val = N := ⟨_, rfl⟩
        have hdark : ∀ k, dark (⟨W, H, xs⟩ : Pl).pn ⟨kd, x, y, a, b⟩ (atN x y a W k) ↔ kd = 1 ∧ 2 * v k < lo + hi2 := fun k => by
          rw [← hlo, ← hhi, ← hv]; exact Iff.rfl
        have hW : (⟨W, H, xs⟩ : Pl).pn.W = W := rfl
        rw [hW] at hstep
        simp only [hdark] at hstep
        simp only [hlo, hhi, hv] at hlohi
        have hh0 := hlohi hn0
        have hvat := fun {i j : Nat} (hj : j < a) => val_at (x := x) (y := y) (h := b) (W := W) (H := H) (xs := xs) (i := i) hj
        rw [hv] at hvat
        obtain ⟨F, hF⟩ : ∃ F, msP (⟨W, H, xs⟩ : Pl).pn l i = F := ⟨_, rfl⟩
        rw [hF] at hall hzero hstep
        simp -implicitDefEqProofs only [push_cast, false_implies, reduceCtorEq, Classical.not_not, Nat.reduceAdd, Nat.reduceSub, Nat.reduceMul, Nat.reduceLeDiff, Nat.reduceLT, Nat.reduceEqDiff, Nat.reduceBEq, Nat.reduceBNe, Int.reduceNeg, Int.reduceToNat, Bool.or_false, Bool.false_or, Bool.or_true, Bool.true_or, BEq.rfl, Bool.not_eq_true, Bool.not_eq_false, decide_eq_true_eq, not_true_eq_false, not_false_eq_true, ite_true, ite_false, List.append_nil, and_assoc, Nat.mul_zero, Nat.zero_mul, b25_2, r1, Pt.rc, hlm, fs47, plV, hRp, hGr, hn0, hlo, hhi, Int.toNat_natCast]
        refine ⟨fun _ => ?_, fun h => by omega⟩
        refine ⟨by omega, by omega, by omega, by omega, ?_⟩
        repeat (refine And.intro (by first | omega | trivial | (intros; omega)) ?_)
        refine evS_loopU (A := Nat) kp25_3 kl25_3 (fun c => [(14, .int .i64 ((y + c : Nat) : Int))]) (fun c => [(24, .mine, X1 4 24, .ints .u8 (tabl xs.length (F (c * a))))]) (fun c => c ≤ b) (fun c => b - c) 0 (Nat.zero_le _) (Sub.pt ?_) ?_
        · simp -implicitDefEqProofs only [push_cast, false_implies, reduceCtorEq, Classical.not_not, Nat.reduceAdd, Nat.reduceSub, Nat.reduceMul, Nat.reduceLeDiff, Nat.reduceLT, Nat.reduceEqDiff, Nat.reduceBEq, Nat.reduceBNe, Int.reduceNeg, Int.reduceToNat, Bool.or_false, Bool.false_or, Bool.or_true, Bool.true_or, BEq.rfl, Bool.not_eq_true, Bool.not_eq_false, decide_eq_true_eq, not_true_eq_false, not_false_eq_true, ite_true, ite_false, List.append_nil, and_assoc, Nat.mul_zero, Nat.zero_mul, Nat.zero_mul, Nat.add_zero, hzero]
        intro c (hc0 : c ≤ b) K3 hK3
        by_cases hc1 : c < b
        · have hcI : (y : Int) + c < y + b := by omega
          simp -implicitDefEqProofs only [push_cast, false_implies, reduceCtorEq, Classical.not_not, Nat.reduceAdd, Nat.reduceSub, Nat.reduceMul, Nat.reduceLeDiff, Nat.reduceLT, Nat.reduceEqDiff, Nat.reduceBEq, Nat.reduceBNe, Int.reduceNeg, Int.reduceToNat, Bool.or_false, Bool.false_or, Bool.or_true, Bool.true_or, BEq.rfl, Bool.not_eq_true, Bool.not_eq_false, decide_eq_true_eq, not_true_eq_false, not_false_eq_true, ite_true, ite_false, List.append_nil, and_assoc, Nat.mul_zero, Nat.zero_mul, b25_3, r1, Pt.rc, hlm, hcI]
          repeat (refine And.intro (by first | omega | trivial | (intros; omega)) ?_)
          refine evS_loopU (A := Nat) kp25_4 kl25_4 (fun d => [(15, .int .i64 ((x + d : Nat) : Int))]) (fun d => [(24, .mine, X1 4 24, .ints .u8 (tabl xs.length (F (c * a + d))))]) (fun d => d ≤ a) (fun d => a - d) 0 (Nat.zero_le _) (Sub.pt ?_) ?_
          · simp -implicitDefEqProofs only [push_cast, false_implies, reduceCtorEq, Classical.not_not, Nat.reduceAdd, Nat.reduceSub, Nat.reduceMul, Nat.reduceLeDiff, Nat.reduceLT, Nat.reduceEqDiff, Nat.reduceBEq, Nat.reduceBNe, Int.reduceNeg, Int.reduceToNat, Bool.or_false, Bool.false_or, Bool.or_true, Bool.true_or, BEq.rfl, Bool.not_eq_true, Bool.not_eq_false, decide_eq_true_eq, not_true_eq_false, not_false_eq_true, ite_true, ite_false, List.append_nil, and_assoc, Nat.mul_zero, Nat.zero_mul, Nat.add_zero]
          intro d (hd0 : d ≤ a) K4 hK4
          by_cases hd1 : d < a
          · have hdI : (x : Int) + d < x + a := by omega
            have hlt : (c + 1) * a ≤ b * a := Nat.mul_le_mul_right _ hc1
            rw [Nat.succ_mul, Nat.mul_comm b a] at hlt
            have hj : c * a + d < a * b := by omega
            have q1 := hlohi (show c * a + d < (⟨x, y, a, b, W, H, xs⟩ : Rp).n from hj)
            have q2 := (hat (k := c * a + d) hj).1
            have hst := hstep (j := c * a + d) hRp.1 hj q2
            have hva := hvat (i := c) hd1
            have hatz : atN x y a W (c * a + d) = (y + c) * W + (x + d) := by
              have := dmN (w := a) (v := c) (u := d) hd1
              unfold atN
              rw [this.1, this.2, Nat.add_assoc]
            rw [hatz] at q2 hst
            have htl := tabl_length xs.length (F (c * a + d))
            have hjI : ((y : Int) + c) * W + ((x : Int) + d) = (((y + c) * W + (x + d) : Nat) : Int) := by push_cast
            have hmm := mul_bd (a := (y : Int) + c) (b := (W : Int)) (A := 200) (B := 200) (by omega) (by omega) (by omega) (by omega)
            have tx : ((x : Int) + d).toNat = x + d := by omega
            have ty : ((y : Int) + c).toNat = y + c := by omega
            obtain ⟨z, hzz⟩ : ∃ z, (y + c) * W + (x + d) = z := ⟨_, rfl⟩
            obtain ⟨j, hjj⟩ : ∃ j, c * a + d = j := ⟨_, rfl⟩
            have hj1 : c * a + (d + 1) = j + 1 := by omega
            rw [hzz] at q2 hst hva hjI
            rw [hjj] at hst htl hva q1
            simp only [hjj]
            by_cases hk1 : kd = 1
            · by_cases hk2 : 2 * v j < lo + hi2
              · have hset := hst.1 ⟨hk1, hk2⟩
                simp -implicitDefEqProofs only [push_cast, false_implies, reduceCtorEq, Classical.not_not, Nat.reduceAdd, Nat.reduceSub, Nat.reduceMul, Nat.reduceLeDiff, Nat.reduceLT, Nat.reduceEqDiff, Nat.reduceBEq, Nat.reduceBNe, Int.reduceNeg, Int.reduceToNat, Bool.or_false, Bool.false_or, Bool.or_true, Bool.true_or, BEq.rfl, Bool.not_eq_true, Bool.not_eq_false, decide_eq_true_eq, not_true_eq_false, not_false_eq_true, ite_true, ite_false, List.append_nil, and_assoc, Nat.mul_zero, Nat.zero_mul, b25_4, r1, Pt.rc, hlm, hdI, hjI, ← hva, hk1, hk2, fs48, bmV, htl, tx, ty, hzz, hset, hwl, hsd, Int.toNat_natCast]
                repeat (refine And.intro (by first | omega | trivial | (intros; omega)) ?_)
                refine hK4 (d + 1) (show d + 1 ≤ a by omega) (show a - (d + 1) < a - d by omega) _ _ (Sub.pt ?_)
                simp only [hj1]
                simp -implicitDefEqProofs only [push_cast, false_implies, reduceCtorEq, Classical.not_not, Nat.reduceAdd, Nat.reduceSub, Nat.reduceMul, Nat.reduceLeDiff, Nat.reduceLT, Nat.reduceEqDiff, Nat.reduceBEq, Nat.reduceBNe, Int.reduceNeg, Int.reduceToNat, Bool.or_false, Bool.false_or, Bool.or_true, Bool.true_or, BEq.rfl, Bool.not_eq_true, Bool.not_eq_false, decide_eq_true_eq, not_true_eq_false, not_false_eq_true, ite_true, ite_false, List.append_nil, and_assoc, Nat.mul_zero, Nat.zero_mul, Int.add_assoc]
                exact hwl.symm
              · have hset := hst.2 fun h => hk2 h.2
                simp -implicitDefEqProofs only [push_cast, false_implies, reduceCtorEq, Classical.not_not, Nat.reduceAdd, Nat.reduceSub, Nat.reduceMul, Nat.reduceLeDiff, Nat.reduceLT, Nat.reduceEqDiff, Nat.reduceBEq, Nat.reduceBNe, Int.reduceNeg, Int.reduceToNat, Bool.or_false, Bool.false_or, Bool.or_true, Bool.true_or, BEq.rfl, Bool.not_eq_true, Bool.not_eq_false, decide_eq_true_eq, not_true_eq_false, not_false_eq_true, ite_true, ite_false, List.append_nil, and_assoc, Nat.mul_zero, Nat.zero_mul, b25_4, r1, Pt.rc, hlm, hdI, hjI, ← hva, hk1, hk2]
                repeat (refine And.intro (by first | omega | trivial | (intros; omega)) ?_)
                refine hK4 (d + 1) (show d + 1 ≤ a by omega) (show a - (d + 1) < a - d by omega) _ _ (Sub.pt ?_)
                simp only [hj1]
                simp -implicitDefEqProofs only [push_cast, false_implies, reduceCtorEq, Classical.not_not, Nat.reduceAdd, Nat.reduceSub, Nat.reduceMul, Nat.reduceLeDiff, Nat.reduceLT, Nat.reduceEqDiff, Nat.reduceBEq, Nat.reduceBNe, Int.reduceNeg, Int.reduceToNat, Bool.or_false, Bool.false_or, Bool.or_true, Bool.true_or, BEq.rfl, Bool.not_eq_true, Bool.not_eq_false, decide_eq_true_eq, not_true_eq_false, not_false_eq_true, ite_true, ite_false, List.append_nil, and_assoc, Nat.mul_zero, Nat.zero_mul, ← hset, Int.add_assoc]
            · have hset := hst.2 fun h => hk1 h.1
              simp -implicitDefEqProofs only [push_cast, false_implies, reduceCtorEq, Classical.not_not, Nat.reduceAdd, Nat.reduceSub, Nat.reduceMul, Nat.reduceLeDiff, Nat.reduceLT, Nat.reduceEqDiff, Nat.reduceBEq, Nat.reduceBNe, Int.reduceNeg, Int.reduceToNat, Bool.or_false, Bool.false_or, Bool.or_true, Bool.true_or, BEq.rfl, Bool.not_eq_true, Bool.not_eq_false, decide_eq_true_eq, not_true_eq_false, not_false_eq_true, ite_true, ite_false, List.append_nil, and_assoc, Nat.mul_zero, Nat.zero_mul, b25_4, r1, Pt.rc, hlm, hdI, hk1]
              repeat (refine And.intro (by first | omega | trivial | (intros; omega)) ?_)
              refine hK4 (d + 1) (show d + 1 ≤ a by omega) (show a - (d + 1) < a - d by omega) _ _ (Sub.pt ?_)
              simp only [hj1]
              simp -implicitDefEqProofs only [push_cast, false_implies, reduceCtorEq, Classical.not_not, Nat.reduceAdd, Nat.reduceSub, Nat.reduceMul, Nat.reduceLeDiff, Nat.reduceLT, Nat.reduceEqDiff, Nat.reduceBEq, Nat.reduceBNe, Int.reduceNeg, Int.reduceToNat, Bool.or_false, Bool.false_or, Bool.or_true, Bool.true_or, BEq.rfl, Bool.not_eq_true, Bool.not_eq_false, decide_eq_true_eq, not_true_eq_false, not_false_eq_true, ite_true, ite_false, List.append_nil, and_assoc, Nat.mul_zero, Nat.zero_mul, ← hset, Int.add_assoc]
          · obtain rfl : d = a := by omega
            clear hK4
            simp -implicitDefEqProofs only [push_cast, false_implies, reduceCtorEq, Classical.not_not, Nat.reduceAdd, Nat.reduceSub, Nat.reduceMul, Nat.reduceLeDiff, Nat.reduceLT, Nat.reduceEqDiff, Nat.reduceBEq, Nat.reduceBNe, Int.reduceNeg, Int.reduceToNat, Bool.or_false, Bool.false_or, Bool.or_true, Bool.true_or, BEq.rfl, Bool.not_eq_true, Bool.not_eq_false, decide_eq_true_eq, not_true_eq_false, not_false_eq_true, ite_true, ite_false, List.append_nil, and_assoc, Nat.mul_zero, Nat.zero_mul, b25_4, r25_5, r1, Pt.rc, hlm, Int.lt_irrefl, true_implies, true_and]
            repeat (refine And.intro (by first | omega | trivial | (intros; omega)) ?_)
            refine hK3 (c + 1) (show c + 1 ≤ b by omega) (show b - (c + 1) < b - c by omega) _ _ (Sub.pt ?_)
            simp -implicitDefEqProofs only [push_cast, false_implies, reduceCtorEq, Classical.not_not, Nat.reduceAdd, Nat.reduceSub, Nat.reduceMul, Nat.reduceLeDiff, Nat.reduceLT, Nat.reduceEqDiff, Nat.reduceBEq, Nat.reduceBNe, Int.reduceNeg, Int.reduceToNat, Bool.or_false, Bool.false_or, Bool.or_true, Bool.true_or, BEq.rfl, Bool.not_eq_true, Bool.not_eq_false, decide_eq_true_eq, not_true_eq_false, not_false_eq_true, ite_true, ite_false, List.append_nil, and_assoc, Nat.mul_zero, Nat.zero_mul, Nat.add_mul, Nat.one_mul, Int.add_assoc]
        · obtain rfl : c = b := by omega
          clear hK3
          have e1 : c * a = a * c := Nat.mul_comm _ _
          simp -implicitDefEqProofs only [push_cast, false_implies, reduceCtorEq, Classical.not_not, Nat.reduceAdd, Nat.reduceSub, Nat.reduceMul, Nat.reduceLeDiff, Nat.reduceLT, Nat.reduceEqDiff, Nat.reduceBEq, Nat.reduceBNe, Int.reduceNeg, Int.reduceToNat, Bool.or_false, Bool.false_or, Bool.or_true, Bool.true_or, BEq.rfl, Bool.not_eq_true, Bool.not_eq_false, decide_eq_true_eq, not_true_eq_false, not_false_eq_true, ite_true, ite_false, List.append_nil, and_assoc, Nat.mul_zero, Nat.zero_mul, b25_3, r25_6, r1, Pt.rc, hlm, e1, hall, Int.lt_irrefl, true_implies, true_and]
          repeat (refine And.intro (by first | omega | trivial | (intros; omega)) ?_)
          refine hK (i + 1) (show i + 1 ≤ l.length by omega) (show l.length - (i + 1) < l.length - i by omega) _ _ (Sub.pt ?_)
          simp -implicitDefEqProofs only [push_cast, false_implies, reduceCtorEq, Classical.not_not, Nat.reduceAdd, Nat.reduceSub, Nat.reduceMul, Nat.reduceLeDiff, Nat.reduceLT, Nat.reduceEqDiff, Nat.reduceBEq, Nat.reduceBNe, Int.reduceNeg, Int.reduceToNat, Bool.or_false, Bool.false_or, Bool.or_true, Bool.true_or, BEq.rfl, Bool.not_eq_true, Bool.not_eq_false, decide_eq_true_eq, not_true_eq_false, not_false_eq_true, ite_true, ite_false, List.append_nil, and_assoc, Nat.mul_zero, Nat.zero_mul]
      · obtain rfl : i = l.length := by omega
        clear hK
        simp -implicitDefEqProofs only [push_cast, false_implies, reduceCtorEq, Classical.not_not, Nat.reduceAdd, Nat.reduceSub, Nat.reduceMul, Nat.reduceLeDiff, Nat.reduceLT, Nat.reduceEqDiff, Nat.reduceBEq, Nat.reduceBNe, Int.reduceNeg, Int.reduceToNat, Bool.or_false, Bool.false_or, Bool.or_true, Bool.true_or, BEq.rfl, Bool.not_eq_true, Bool.not_eq_false, decide_eq_true_eq, not_true_eq_false, not_false_eq_true, ite_true, ite_false, List.append_nil, and_assoc, Nat.mul_zero, Nat.zero_mul, b25_2, r25_7, Int.lt_irrefl, true_implies, true_and]
        refine postF.mk' (locs [X1 4 24]) [some 0, some 1, some 24] ?_
        simp -implicitDefEqProofs only [push_cast, false_implies, reduceCtorEq, Classical.not_not, Nat.reduceAdd, Nat.reduceSub, Nat.reduceMul, Nat.reduceLeDiff, Nat.reduceLT, Nat.reduceEqDiff, Nat.reduceBEq, Nat.reduceBNe, Int.reduceNeg, Int.reduceToNat, Bool.or_false, Bool.false_or, Bool.or_true, Bool.true_or, BEq.rfl, Bool.not_eq_true, Bool.not_eq_false, decide_eq_true_eq, not_true_eq_false, not_false_eq_true, ite_true, ite_false, List.append_nil, and_assoc, Nat.mul_zero, Nat.zero_mul, fs24, y1, y2, y3, lx, if_true, tabl_length, hwl]
def ent25 : Entry := spOf fs24 inv24
theorem e25 : EntryOk Try.prog 25 ent25 := entry_of ok25 inv24
@[push_cast] theorem ent25_app (us : List SV) (look : Look) (x : Nat → Xf.Loc) (k : Nat) : ent25 us look x k = spOf fs24 inv24 us look x k := rfl
def b8_1 : IR :=
  .seq (.seq (.reg false [⟨some 43, none, ⟨[], []⟩, .mov (.t 10)⟩,
    ⟨some 44, none, ⟨[], []⟩, .mov (.t 1)⟩,
    ⟨some 45, none, ⟨[], []⟩, .len (.t 44)⟩,
    ⟨some 46, none, ⟨[], []⟩, .bin 0 .lss (.t 43) (.t 45)⟩] [43, 44, 45] []) (.cond (.t 46) (.skip) (.exit 0))) (.seq (.block 1 (.seq (.reg false [⟨some 49, none, ⟨[], []⟩, .mov (.t 1)⟩,
    ⟨some 50, none, ⟨[], []⟩, .mov (.t 10)⟩,
    ⟨some 51, none, ⟨[], []⟩, .idxS (.t 49) (.t 50) 5⟩,
    ⟨some 52, none, ⟨[], []⟩, .fld (.t 51) 0⟩,
    ⟨some 53, none, ⟨[], []⟩, .ld true none 0 0 (.t 52)⟩,
    ⟨some 54, none, ⟨[], []⟩, .bin 0 .eql (.t 53) (.k (.int .i64 1))⟩] [46, 49, 50, 51, 52, 53] []) (.cond (.t 54) (.reg true [⟨some 55, none, ⟨[], []⟩, .mov (.t 9)⟩,
    ⟨some 56, none, ⟨[], []⟩, .ld false (some 3) 0 0 (.t 5)⟩,
    ⟨some 57, none, ⟨[], []⟩, .mov (.t 1)⟩,
    ⟨some 58, none, ⟨[], []⟩, .mov (.t 10)⟩,
    ⟨some 59, none, ⟨[], []⟩, .idxS (.t 57) (.t 58) 5⟩,
    ⟨some 60, none, ⟨[], []⟩, .fld (.t 59) 1⟩,
    ⟨some 61, none, ⟨[], []⟩, .ld true none 0 0 (.t 60)⟩,
    ⟨some 62, none, ⟨[], []⟩, .mov (.t 1)⟩,
    ⟨some 63, none, ⟨[], []⟩, .mov (.t 10)⟩,
    ⟨some 64, none, ⟨[], []⟩, .idxS (.t 62) (.t 63) 5⟩,
    ⟨some 65, none, ⟨[], []⟩, .fld (.t 64) 2⟩,
    ⟨some 66, none, ⟨[], []⟩, .ld true none 0 0 (.t 65)⟩,
    ⟨some 67, none, ⟨[], []⟩, .mov (.t 1)⟩,
    ⟨some 68, none, ⟨[], []⟩, .mov (.t 10)⟩,
    ⟨some 69, none, ⟨[], []⟩, .idxS (.t 67) (.t 68) 5⟩,
    ⟨some 70, none, ⟨[], []⟩, .fld (.t 69) 3⟩,
    ⟨some 71, none, ⟨[], []⟩, .ld true none 0 0 (.t 70)⟩,
    ⟨some 72, none, ⟨[], []⟩, .mov (.t 1)⟩,
    ⟨some 73, none, ⟨[], []⟩, .mov (.t 10)⟩,
    ⟨some 74, none, ⟨[], []⟩, .idxS (.t 72) (.t 73) 5⟩,
    ⟨some 75, none, ⟨[], []⟩, .fld (.t 74) 4⟩,
    ⟨some 76, none, ⟨[], []⟩, .ld true none 0 0 (.t 75)⟩,
    ⟨some 77, none, ⟨[], []⟩, .call (some 4) 37 28 [.t 56, .t 61, .t 66, .t 71, .t 76]⟩,
    ⟨some 78, none, ⟨[], []⟩, .call (some 4) 41 27 [.t 77]⟩,
    ⟨some 79, none, ⟨[], []⟩, .bin 0 .add (.t 55) (.t 78)⟩,
    ⟨some 9, none, ⟨[], []⟩, .mov (.t 79)⟩] [54, 55, 56, 57, 58, 59, 60, 61, 62, 63, 64, 65, 66, 67, 68, 69, 70, 71, 72, 73, 74, 75, 76, 77, 78, 79] []) (.skip)))) (.reg false [⟨some 47, none, ⟨[], []⟩, .mov (.t 10)⟩,
    ⟨some 48, none, ⟨[], []⟩, .bin 0 .add (.t 47) (.k (.int .i64 1))⟩,
    ⟨some 10, none, ⟨[], []⟩, .mov (.t 48)⟩] [47, 48, 54] []))
def r8_2 : IR :=
  .seq (.reg false [⟨some 80, none, ⟨[], []⟩, .mov (.t 9)⟩,
    ⟨some 81, none, ⟨[], []⟩, .ld false (some 3) 0 0 (.t 5)⟩,
    ⟨some 82, none, ⟨[], []⟩, .call (some 4) 45 27 [.t 81]⟩,
    ⟨some 83, none, ⟨[], []⟩, .bin 0 .eql (.t 80) (.t 82)⟩,
    ⟨some 84, none, ⟨[], []⟩, .mov (.t 83)⟩,
    ⟨some 85, some (84, true), ⟨[], []⟩, .call (some 4) 49 10 []⟩,
    ⟨some 86, none, ⟨[], []⟩, .pick (.t 84) (.t 85) (.k (.bool false))⟩,
    ⟨some 4, none, ⟨[], []⟩, .mov (.t 86)⟩] [1, 5, 9, 10, 80, 81, 82, 83, 84, 85, 86] []) (.ret)
def ir8 : IR :=
  .seq (.reg false [⟨some 2, none, ⟨[], []⟩, .box 10 (.t 0)⟩,
    ⟨some 4, none, ⟨[], []⟩, .mov (.k (.bool false))⟩] [0, 4] []) (.seq (.seq (.reg false [⟨some 11, none, ⟨[], []⟩, .ld false (some 3) 0 0 (.t 2)⟩,
    ⟨some 12, none, ⟨[], []⟩, .call (some 4) 11 9 [.t 11]⟩,
    ⟨some 13, none, ⟨[], []⟩, .mov (.t 12)⟩,
    ⟨some 14, some (13, false), ⟨[], []⟩, .mov (.t 1)⟩,
    ⟨some 15, some (13, false), ⟨[], []⟩, .len (.t 14)⟩,
    ⟨some 16, some (13, false), ⟨[], []⟩, .bin 0 .gtr (.t 15) (.k (.int .i64 1500))⟩,
    ⟨some 17, none, ⟨[], []⟩, .pick (.t 13) (.k (.bool true)) (.t 16)⟩] [11, 12, 13, 14, 15, 16] []) (.cond (.t 17) (.seq (.reg false [⟨some 18, none, ⟨[], []⟩, .call (some 4) 15 10 []⟩,
    ⟨some 4, none, ⟨[], []⟩, .mov (.t 18)⟩] [1, 2, 17, 18] []) (.ret)) (.skip))) (.seq (.reg false [⟨some 20, none, ⟨[], []⟩, .ld false (some 3) 0 0 (.t 2)⟩,
    ⟨some 21, none, ⟨[], []⟩, .mov (.t 1)⟩,
    ⟨some 22, none, ⟨[], []⟩, .call (some 4) 19 24 [.t 20, .t 21]⟩,
    ⟨some 19, none, ⟨[], []⟩, .mov (.t 22)⟩,
    ⟨some 23, none, ⟨[], []⟩, .ext (.t 19) 0⟩,
    ⟨some 24, none, ⟨[], []⟩, .ext (.t 19) 1⟩,
    ⟨some 5, none, ⟨[], []⟩, .alloc 23 [.int .i64 0, .int .i64 0, nilSV]⟩,
    ⟨none, none, ⟨[], []⟩, .sto false 3 .u8 (.t 5) (.t 23)⟩,
    ⟨some 6, none, ⟨[], []⟩, .mov (.t 24)⟩] [4, 17, 19, 20, 21, 22, 23, 24] []) (.seq (.reg false [⟨some 26, none, ⟨[], []⟩, .ld false (some 3) 0 0 (.t 2)⟩,
    ⟨some 27, none, ⟨[], []⟩, .mov (.t 1)⟩,
    ⟨some 28, none, ⟨[], []⟩, .call (some 4) 24 25 [.t 26, .t 27]⟩,
    ⟨some 25, none, ⟨[], []⟩, .mov (.t 28)⟩,
    ⟨some 29, none, ⟨[], []⟩, .ext (.t 25) 0⟩,
    ⟨some 30, none, ⟨[], []⟩, .ext (.t 25) 1⟩,
    ⟨some 7, none, ⟨[], []⟩, .alloc 28 [.int .i64 0, .int .i64 0, nilSV]⟩,
    ⟨none, none, ⟨[], []⟩, .sto false 3 .u8 (.t 7) (.t 29)⟩,
    ⟨some 8, none, ⟨[], []⟩, .mov (.t 30)⟩] [2, 25, 26, 27, 28, 29, 30] []) (.seq (.seq (.reg false [⟨some 31, none, ⟨[], []⟩, .mov (.t 6)⟩,
    ⟨some 32, none, ⟨[], []⟩, .mov (.t 8)⟩,
    ⟨some 33, none, ⟨[], []⟩, .bin 0 .neq (.t 31) (.t 32)⟩,
    ⟨some 34, none, ⟨[], []⟩, .mov (.t 33)⟩,
    ⟨some 35, some (34, false), ⟨[], []⟩, .ld false (some 3) 0 0 (.t 5)⟩,
    ⟨some 36, some (34, false), ⟨[], []⟩, .ld false (some 3) 0 0 (.t 7)⟩,
    ⟨some 37, some (34, false), ⟨[], []⟩, .call (some 4) 29 26 [.t 35, .t 36]⟩,
    ⟨some 38, some (34, false), ⟨[], []⟩, .not (.t 37)⟩,
    ⟨some 39, none, ⟨[], []⟩, .pick (.t 34) (.k (.bool true)) (.t 38)⟩] [7, 8, 31, 32, 33, 34, 35, 36, 37, 38] []) (.cond (.t 39) (.seq (.reg false [⟨some 4, none, ⟨[], []⟩, .mov (.k (.bool false))⟩] [1, 5, 6, 39] []) (.ret)) (.skip))) (.seq (.seq (.reg false [⟨some 40, none, ⟨[], []⟩, .mov (.t 6)⟩,
    ⟨some 41, none, ⟨[], []⟩, .bin 0 .neq (.t 40) (.k (.int .i64 0))⟩] [4, 6, 39, 40] []) (.cond (.t 41) (.seq (.reg false [⟨some 42, none, ⟨[], []⟩, .call (some 4) 33 10 []⟩,
    ⟨some 4, none, ⟨[], []⟩, .mov (.t 42)⟩] [1, 5, 41, 42] []) (.ret)) (.skip))) (.seq (.reg false [⟨some 9, none, ⟨[], []⟩, .mov (.k (.int .i64 0))⟩] [4, 41] []) (.seq (.seq (.reg false [⟨some 10, none, ⟨[], []⟩, .mov (.k (.int .i64 0))⟩] [] []) (.block 0 (.loop b8_1))) (r8_2))))))))
def kp8_1 : List Nat := [1, 5, 9, 10]
def kl8_1 : List Nat := [37, 38, 39, 40, 41, 42, 43, 44]
attribute [push_cast] kp8_1 kl8_1
set_option maxRecDepth 4000 in
theorem comp8 : (Try.f8.body.bind fun c => compC tab isP chkAll ir8 c) = some ir8 := by kernel_rfl
theorem pn_grey {p : Pl} (hG : p.Gr) : p.pn.grey ∧ ((p.pn.W : Int) = p.w ∧ (p.pn.H : Int) = p.h) ∧ p.xs.length = p.pn.H * p.pn.W := by
  obtain ⟨w, h, xs⟩ := p
  obtain ⟨⟨s1, s2, s3, s4, s5⟩, hl, ha⟩ : SidesOk w h ∧ (xs.length : Int) = w * h ∧ AllIn 0 255 xs := hG
  obtain ⟨W, rfl⟩ : ∃ n : Nat, w = (n : Int) := ⟨w.toNat, by omega⟩
  obtain ⟨H, rfl⟩ : ∃ n : Nat, h = (n : Int) := ⟨h.toNat, by omega⟩
  have hn : xs.length = H * W := by rw [← Int.ofNat_inj, hl, Int.natCast_mul, Int.mul_comm]
  exact ⟨⟨show W ≤ 200 by omega, show H ≤ 200 by omega, hn, ha⟩, ⟨rfl, rfl⟩, hn⟩
theorem ma_cov {p : Pl} {l : List Pt} (h : maOk p l) : ptsIn p.w p.h l ∧ bkS p.pn.W (maX p l) l l.length = sumF (fun k => rd (maX p l) (k : Nat)) (maX p l).length := by
  obtain ⟨hG, hE⟩ := h
  obtain ⟨g1, ⟨g2, g3⟩, g4⟩ := pn_grey hG
  have hsd : SidesOk p.w p.h := hG.1
  obtain ⟨s1, s2, s3, s4, s5⟩ := hsd
  unfold cuE at hE
  split at hE
  case isFalse => exact absurd hE (by decide)
  rename_i hP
  split at hE
  case isFalse => exact absurd hE (by decide)
  rename_i hb
  refine ⟨hP, ?_⟩
  have hX : maX p l = tabl (p.pn.H * p.pn.W) (msN p.pn l l.length) := by unfold maX; rw [g4]
  rw [hX, tabl_length]
  refine bk_all g1 (by rw [g2, g3]; exact hP) fun k hk => ?_
  have hW : 0 < p.pn.W := by
    rcases Nat.eq_zero_or_pos p.pn.W with e | e
    · rw [e, Nat.mul_zero] at hk; omega
    · exact e
  have hH : 0 < p.pn.H := by
    rcases Nat.eq_zero_or_pos p.pn.H with e | e
    · rw [e, Nat.zero_mul] at hk; omega
    · exact e
  have hn : ¬ p.w * p.h = 0 := by
    have := Int.mul_pos (show 0 < p.w by omega) (show 0 < p.h by omega)
    omega
  unfold cuS at hb
  rw [if_neg hn] at hb
  simp only [Bool.and_eq_true, decide_eq_true_eq] at hb
  have ht := tk_cov (p := p.pn) (l := l) g1 ((k / p.pn.W : Nat) : Int) ((k % p.pn.W : Nat) : Int) fuelN ⟨0, 0, p.w, p.h⟩ (0, 0) ⟨Int.le_refl _, Int.le_refl _, show 1 ≤ p.w by omega, show 1 ≤ p.h by omega, show 0 + p.w ≤ (p.pn.W : Int) by omega, show 0 + p.h ≤ (p.pn.H : Int) by omega⟩ hb.1
  have e1 : (tk l fuelN ⟨0, 0, p.w, p.h⟩ (0, 0)).2.1 = l.length := hb.2
  rw [e1, List.take_length] at ht
  rw [ht]
  have h1 := Nat.mod_lt k hW
  have h2 : k / p.pn.W < p.pn.H := by rw [Nat.div_lt_iff_lt_mul hW]; exact hk
  simp only [List.take_zero, covN]
  unfold ind
  simp only
  rw [if_pos]
  · rfl
  · generalize k / p.pn.W = a at *
    generalize k % p.pn.W = b at *
    omega
theorem maX_bw (p : Pl) (l : List Pt) : Bw (maX p l) := fun n hn => by
  unfold maX tabl at hn
  obtain ⟨k, _, rfl⟩ := List.mem_map.1 hn
  rcases msN_bw p.pn l l.length k with e | e <;> rw [e] <;> decide
theorem pt_bw {M : List Int} (h : Bw M) (W x y w n : Nat) : Bw (tabl n (ptF M W x y w)) := fun m hm => by
  unfold tabl at hm
  obtain ⟨k, _, rfl⟩ := List.mem_map.1 hm
  unfold ptF
  by_cases hk : (y + k / w) * W + (x + k % w) < M.length
  · exact bw_rd h _ hk
  · have : rd M (((y + k / w) * W + (x + k % w) : Nat) : Int) = 0 := by
      generalize (y + k / w) * W + (x + k % w) = z at hk
      simp [rd, show M.length ≤ z by omega]
    rw [this]; decide
theorem bkS_bd {W : Nat} {M : List Int} {l : List Pt} (h : Bw M) (hl : ∀ q ∈ l, q.w ≤ 200 ∧ q.h ≤ 200) : ∀ i, i ≤ l.length → 0 ≤ bkS W M l i ∧ bkS W M l i ≤ i * 40000
  | 0, _ => by simp [bkS]
  | i + 1, hi => by
    have ih := bkS_bd (W := W) h hl i (by omega)
    obtain ⟨h1, h2⟩ := hl _ (rdPt_mem (show i < l.length by omega))
    have h3 : (rdPt l i).w.toNat * (rdPt l i).h.toNat ≤ 200 * 200 := Nat.mul_le_mul (by omega) (by omega)
    rw [bkS]
    split
    · have := sumF_bd (f := fun k => rd (tabl ((rdPt l i).w.toNat * (rdPt l i).h.toNat) (ptF M W (rdPt l i).x.toNat (rdPt l i).y.toNat (rdPt l i).w.toNat)) (k : Nat)) (B := 1) (n := (rdPt l i).w.toNat * (rdPt l i).h.toNat) fun k hk => bw_rd (pt_bw h W _ _ _ _) k (by rw [tabl_length]; exact hk)
      omega
    · omega
set_option maxRecDepth 4000 in
set_option maxHeartbeats 2000000 in
theorem tri8a (p : Pl) (hp : p.xs.length ≤ 140737488355328) (l : List Pt) (hl : l.length ≤ 140737488355328) (L LP : Xf.Loc) : Tri Try.prog 8 [plV p L 0, .sl 1 LP 5 0 l.length]
    [some (.ro, L, .ints .i64 p.xs), some (.ro, LP, .recs 5 false [] (l.map Pt.rc))] (fun v _ => v = .bool true) := by
  have hget := getPt_map l
  have hlm : (l.map Pt.rc).length = l.length := List.length_map _
  by_cases hbig : (1200 : Int) < p.xs.length ∨ (1500 : Int) < l.length
  · obtain ⟨w, h, xs⟩ := p
    change xs.length ≤ 140737488355328 at hp
    simp only at hbig
    change Tri Try.prog 8 [plV ⟨w, h, xs⟩ L 0, .sl 1 LP 5 0 l.length] [some (.ro, L, .ints .i64 xs), some (.ro, LP, .recs 5 false [] (l.map Pt.rc))] _
    refine tri_evS (hyp (l := [(9, ent9), (10, ent10)]) (lp := []) ⟨e9, e10, trivial⟩ trivial) Try.func8 comp8 (rs := [.tmp 4]) (by rfl) Try.ntmps8 53 ?_
    rcases hbig with hbig | hbig
    · simp -implicitDefEqProofs only [push_cast, false_implies, reduceCtorEq, Classical.not_not, Nat.reduceAdd, Nat.reduceSub, Nat.reduceMul, Nat.reduceLeDiff, Nat.reduceLT, Nat.reduceEqDiff, Nat.reduceBEq, Nat.reduceBNe, Int.reduceNeg, Int.reduceToNat, Bool.or_false, Bool.false_or, Bool.or_true, Bool.true_or, BEq.rfl, Bool.not_eq_true, Bool.not_eq_false, decide_eq_true_eq, not_true_eq_false, not_false_eq_true, ite_true, ite_false, List.append_nil, and_assoc, Nat.mul_zero, Nat.zero_mul, ir8, fs9, fs12, fs10, hp, hbig, plV]
    · by_cases hb : (1200 : Int) < xs.length
      · simp -implicitDefEqProofs only [push_cast, false_implies, reduceCtorEq, Classical.not_not, Nat.reduceAdd, Nat.reduceSub, Nat.reduceMul, Nat.reduceLeDiff, Nat.reduceLT, Nat.reduceEqDiff, Nat.reduceBEq, Nat.reduceBNe, Int.reduceNeg, Int.reduceToNat, Bool.or_false, Bool.false_or, Bool.or_true, Bool.true_or, BEq.rfl, Bool.not_eq_true, Bool.not_eq_false, decide_eq_true_eq, not_true_eq_false, not_false_eq_true, ite_true, ite_false, List.append_nil, and_assoc, Nat.mul_zero, Nat.zero_mul, ir8, fs9, fs12, fs10, hp, hb, plV]
      · simp -implicitDefEqProofs only [push_cast, false_implies, reduceCtorEq, Classical.not_not, Nat.reduceAdd, Nat.reduceSub, Nat.reduceMul, Nat.reduceLeDiff, Nat.reduceLT, Nat.reduceEqDiff, Nat.reduceBEq, Nat.reduceBNe, Int.reduceNeg, Int.reduceToNat, Bool.or_false, Bool.false_or, Bool.or_true, Bool.true_or, BEq.rfl, Bool.not_eq_true, Bool.not_eq_false, decide_eq_true_eq, not_true_eq_false, not_false_eq_true, ite_true, ite_false, List.append_nil, and_assoc, Nat.mul_zero, Nat.zero_mul, ir8, fs9, fs12, fs10, hp, hb, hbig, plV]
  have hb1 : ¬ (1200 : Int) < p.xs.length := fun h => hbig (.inl h)
  have hb2 : ¬ (1500 : Int) < l.length := fun h => hbig (.inr h)
  clear hbig
  have hl6 : l.length ≤ 1000000 := by omega
  by_cases hok : maOk p l
  case neg =>
    have y3 : maB p l = ⟨0, 0, []⟩ := by unfold maB; rw [if_neg hok]
    have y1 : ¬ maE p l = 0 := fun h => by
      unfold maE at h
      split at h
      · rename_i hG; exact hok ⟨hG, h⟩
      · exact absurd h (by decide)
    obtain ⟨E, hE⟩ : ∃ E, maE p l = E := ⟨_, rfl⟩
    rw [hE] at y1
    obtain ⟨w, h, xs⟩ := p
    change xs.length ≤ 140737488355328 at hp
    simp only at hb1
    change Tri Try.prog 8 [plV ⟨w, h, xs⟩ L 0, .sl 1 LP 5 0 l.length] [some (.ro, L, .ints .i64 xs), some (.ro, LP, .recs 5 false [] (l.map Pt.rc))] _
    refine tri_evS (hyp (l := [(9, ent9), (10, ent10), (24, ent24), (25, ent25), (26, ent26)]) (lp := []) ⟨e9, e10, e24, e25, e26, trivial⟩ trivial) Try.func8 comp8 (rs := [.tmp 4]) (by rfl) Try.ntmps8 53 ?_
    simp -implicitDefEqProofs only [push_cast, false_implies, reduceCtorEq, Classical.not_not, Nat.reduceAdd, Nat.reduceSub, Nat.reduceMul, Nat.reduceLeDiff, Nat.reduceLT, Nat.reduceEqDiff, Nat.reduceBEq, Nat.reduceBNe, Int.reduceNeg, Int.reduceToNat, Bool.or_false, Bool.false_or, Bool.or_true, Bool.true_or, BEq.rfl, Bool.not_eq_true, Bool.not_eq_false, decide_eq_true_eq, not_true_eq_false, not_false_eq_true, ite_true, ite_false, List.append_nil, and_assoc, Nat.mul_zero, Nat.zero_mul, ir8, fs9, fs12, fs10, fs24, fs26, bmV, hp, hb1, hb2, hl6, hget, hlm, y1, y3, hE, hok, plV, lx, if_false, List.length_nil]
  obtain ⟨hP, hsum⟩ := ma_cov hok
  have hX := maX_bw p l
  have y3 : maB p l = ⟨p.w, p.h, maX p l⟩ := by unfold maB; rw [if_pos hok]
  have hXl : (maX p l).length = p.xs.length := by unfold maX; exact tabl_length _ _
  have hG := hok.1
  have hE : maE p l = 0 := by unfold maE; rw [if_pos hG]; exact hok.2
  obtain ⟨-, ⟨g2, g3⟩, g4⟩ := pn_grey hG
  have hsd : SidesOk p.w p.h := hG.1
  have hwl : (p.xs.length : Int) = p.w * p.h := hG.2.1
  have hbd := bkS_bd (W := p.pn.W) (l := l) hX fun q hq => by
    have := hP q hq
    obtain ⟨s1, s2, s3, s4, s5⟩ := hsd
    unfold Pt.In at this; omega
  obtain ⟨w, h, xs⟩ := p
  change xs.length ≤ 140737488355328 at hp
  simp only at hb1 hP hsd hwl hXl y3
  obtain ⟨s1, s2, s3, s4, s5⟩ := id hsd
  obtain ⟨W, rfl⟩ : ∃ n : Nat, w = (n : Int) := ⟨w.toNat, by omega⟩
  obtain ⟨H, rfl⟩ : ∃ n : Nat, h = (n : Int) := ⟨h.toNat, by omega⟩
  have hpW : (⟨W, H, xs⟩ : Pl).pn.W = W := rfl
  rw [hpW] at hbd hsum
  obtain ⟨M, hM⟩ : ∃ M, maX ⟨W, H, xs⟩ l = M := ⟨_, rfl⟩
  rw [hM] at hX hXl hsum hbd y3
  obtain ⟨S, hS⟩ : ∃ S, bkS W M l = S := ⟨_, rfl⟩
  have hst1 : ∀ i, (rdPt l i).kind = 1 → S (i + 1) = S i + sumF (fun k => rd (tabl ((rdPt l i).w.toNat * (rdPt l i).h.toNat) (ptF M W (rdPt l i).x.toNat (rdPt l i).y.toNat (rdPt l i).w.toNat)) (k : Nat)) ((rdPt l i).w.toNat * (rdPt l i).h.toNat) := fun i h => by
    rw [← hS, bkS, if_pos h]
  have hst2 : ∀ i, ¬ (rdPt l i).kind = 1 → S (i + 1) = S i := fun i h => by
    rw [← hS, bkS, if_neg h]; omega
  rw [hS] at hbd hsum
  have hS0 : S 0 = 0 := by rw [← hS]; rfl
  have hM6 : M.length ≤ 1000000 := by omega
  have hMI : (M.length : Int) = (W : Int) * H := by rw [hXl]; exact hwl
  change Tri Try.prog 8 [plV ⟨W, H, xs⟩ L 0, .sl 1 LP 5 0 l.length] [some (.ro, L, .ints .i64 xs), some (.ro, LP, .recs 5 false [] (l.map Pt.rc))] _
  refine tri_evS (hyp (l := [(9, ent9), (10, ent10), (24, ent24), (25, ent25), (26, ent26), (28, ent28), (27, ent27)]) (lp := []) ⟨e9, e10, e24, e25, e26, e28, e27, trivial⟩ trivial) Try.func8 comp8 (rs := [.tmp 4]) (by rfl) Try.ntmps8 53 ?_
  simp -implicitDefEqProofs only [push_cast, false_implies, reduceCtorEq, Classical.not_not, Nat.reduceAdd, Nat.reduceSub, Nat.reduceMul, Nat.reduceLeDiff, Nat.reduceLT, Nat.reduceEqDiff, Nat.reduceBEq, Nat.reduceBNe, Int.reduceNeg, Int.reduceToNat, Bool.or_false, Bool.false_or, Bool.or_true, Bool.true_or, BEq.rfl, Bool.not_eq_true, Bool.not_eq_false, decide_eq_true_eq, not_true_eq_false, not_false_eq_true, ite_true, ite_false, List.append_nil, and_assoc, Nat.mul_zero, Nat.zero_mul, ir8, fs9, fs12, fs10, fs24, fs26, bmV, hp, hb1, hb2, hl6, hget, hlm, y3, hE, hok, plV, lx, if_true, hM6]
  intro X X1 X2
  refine evS_loopU (A := Nat) kp8_1 kl8_1 (fun i => [(9, .int .i64 (S i)), (10, .int .i64 i)]) (fun _ => []) (fun i => i ≤ l.length) (fun i => l.length - i) 0 (Nat.zero_le _) (Sub.pt ?_) ?_
  · simp -implicitDefEqProofs only [push_cast, false_implies, reduceCtorEq, Classical.not_not, Nat.reduceAdd, Nat.reduceSub, Nat.reduceMul, Nat.reduceLeDiff, Nat.reduceLT, Nat.reduceEqDiff, Nat.reduceBEq, Nat.reduceBNe, Int.reduceNeg, Int.reduceToNat, Bool.or_false, Bool.false_or, Bool.or_true, Bool.true_or, BEq.rfl, Bool.not_eq_true, Bool.not_eq_false, decide_eq_true_eq, not_true_eq_false, not_false_eq_true, ite_true, ite_false, List.append_nil, and_assoc, Nat.mul_zero, Nat.zero_mul, hS0]
  intro i (hi : i ≤ l.length) K hK
  obtain ⟨b1, b2⟩ := hbd i hi
  by_cases hi' : i < l.length
  · have r1 := recAt_Pt hi' []
    have hI := hP _ (rdPt_mem hi')
    have hst1 := hst1 i
    have hst2 := hst2 i
    obtain ⟨q', hq⟩ : ∃ q, rdPt l i = q := ⟨_, rfl⟩
    rw [hq] at r1 hI hst1 hst2
    obtain ⟨kd, qx, qy, qw, qh⟩ := q'
    obtain ⟨j1, j2, j3, j4, j5, j6, j7, j8, j9, j10⟩ := hI
    simp only at j1 j2 j3 j4 j5 j6 j7 j8 j9 j10 hst1 hst2
    obtain ⟨x, rfl⟩ : ∃ n : Nat, qx = (n : Int) := ⟨qx.toNat, by omega⟩
    obtain ⟨y, rfl⟩ : ∃ n : Nat, qy = (n : Int) := ⟨qy.toNat, by omega⟩
    obtain ⟨a, rfl⟩ : ∃ n : Nat, qw = (n : Int) := ⟨qw.toNat, by omega⟩
    obtain ⟨b, rfl⟩ : ∃ n : Nat, qh = (n : Int) := ⟨qh.toNat, by omega⟩
    simp only [Int.toNat_natCast] at hst1 hst2
    by_cases hk1 : kd = 1
    · have hst1 := hst1 hk1
      have hpb := pt_bw hX W x y a (a * b)
      have hpl := tabl_length (a * b) (ptF M W x y a)
      obtain ⟨TT, hTT⟩ : ∃ T, tabl (a * b) (ptF M W x y a) = T := ⟨_, rfl⟩
      rw [hTT] at hst1 hpb hpl
      have hab : a * b ≤ 200 * 200 := Nat.mul_le_mul (by omega) (by omega)
      have hT6 : TT.length ≤ 1000000 := by omega
      obtain ⟨Z, hZ⟩ : ∃ Z, sumF (fun k => rd TT (k : Nat)) (a * b) = Z := ⟨_, rfl⟩
      have hZb := sumF_bd (f := fun k => rd TT (k : Nat)) (B := 1) (n := a * b) fun k hk => bw_rd hpb k (by rw [hpl]; exact hk)
      rw [hZ] at hst1 hZb
      have hpx : (x : Int) + a ≤ W := by omega
      have hpy : (y : Int) + b ≤ H := by omega
      simp -implicitDefEqProofs only [push_cast, false_implies, reduceCtorEq, Classical.not_not, Nat.reduceAdd, Nat.reduceSub, Nat.reduceMul, Nat.reduceLeDiff, Nat.reduceLT, Nat.reduceEqDiff, Nat.reduceBEq, Nat.reduceBNe, Int.reduceNeg, Int.reduceToNat, Bool.or_false, Bool.false_or, Bool.or_true, Bool.true_or, BEq.rfl, Bool.not_eq_true, Bool.not_eq_false, decide_eq_true_eq, not_true_eq_false, not_false_eq_true, ite_true, ite_false, List.append_nil, and_assoc, Nat.mul_zero, Nat.zero_mul, b8_1, r1, Pt.rc, hlm, hk1, fs28, fs27, bmV, hsd, hMI, hX, hpx, hpy, hTT, hpb, hpl, hT6, hZ, Int.toNat_natCast]
      refine ⟨fun _ => ⟨by omega, by omega, by omega, by omega, fun X3 => ?_⟩, fun h => by omega⟩
      repeat (refine And.intro (by first | omega | trivial | (intros; omega)) ?_)
      refine hK (i + 1) (show i + 1 ≤ l.length by omega) (show l.length - (i + 1) < l.length - i by omega) _ _ (Sub.pt ?_)
      simp -implicitDefEqProofs only [push_cast, false_implies, reduceCtorEq, Classical.not_not, Nat.reduceAdd, Nat.reduceSub, Nat.reduceMul, Nat.reduceLeDiff, Nat.reduceLT, Nat.reduceEqDiff, Nat.reduceBEq, Nat.reduceBNe, Int.reduceNeg, Int.reduceToNat, Bool.or_false, Bool.false_or, Bool.or_true, Bool.true_or, BEq.rfl, Bool.not_eq_true, Bool.not_eq_false, decide_eq_true_eq, not_true_eq_false, not_false_eq_true, ite_true, ite_false, List.append_nil, and_assoc, Nat.mul_zero, Nat.zero_mul, hst1]
      exact hMI.symm
    · have hst2 := hst2 hk1
      simp -implicitDefEqProofs only [push_cast, false_implies, reduceCtorEq, Classical.not_not, Nat.reduceAdd, Nat.reduceSub, Nat.reduceMul, Nat.reduceLeDiff, Nat.reduceLT, Nat.reduceEqDiff, Nat.reduceBEq, Nat.reduceBNe, Int.reduceNeg, Int.reduceToNat, Bool.or_false, Bool.false_or, Bool.or_true, Bool.true_or, BEq.rfl, Bool.not_eq_true, Bool.not_eq_false, decide_eq_true_eq, not_true_eq_false, not_false_eq_true, ite_true, ite_false, List.append_nil, and_assoc, Nat.mul_zero, Nat.zero_mul, b8_1, r1, Pt.rc, hlm, hk1]
      refine ⟨fun _ => ?_, fun h => by omega⟩
      repeat (refine And.intro (by first | omega | trivial | (intros; omega)) ?_)
      refine hK (i + 1) (show i + 1 ≤ l.length by omega) (show l.length - (i + 1) < l.length - i by omega) _ _ (Sub.pt ?_)
      simp -implicitDefEqProofs only [push_cast, false_implies, reduceCtorEq, Classical.not_not, Nat.reduceAdd, Nat.reduceSub, Nat.reduceMul, Nat.reduceLeDiff, Nat.reduceLT, Nat.reduceEqDiff, Nat.reduceBEq, Nat.reduceBNe, Int.reduceNeg, Int.reduceToNat, Bool.or_false, Bool.false_or, Bool.or_true, Bool.true_or, BEq.rfl, Bool.not_eq_true, Bool.not_eq_false, decide_eq_true_eq, not_true_eq_false, not_false_eq_true, ite_true, ite_false, List.append_nil, and_assoc, Nat.mul_zero, Nat.zero_mul, hst2]
  · obtain rfl : i = l.length := by omega
    clear hK
    simp -implicitDefEqProofs only [push_cast, false_implies, reduceCtorEq, Classical.not_not, Nat.reduceAdd, Nat.reduceSub, Nat.reduceMul, Nat.reduceLeDiff, Nat.reduceLT, Nat.reduceEqDiff, Nat.reduceBEq, Nat.reduceBNe, Int.reduceNeg, Int.reduceToNat, Bool.or_false, Bool.false_or, Bool.or_true, Bool.true_or, BEq.rfl, Bool.not_eq_true, Bool.not_eq_false, decide_eq_true_eq, not_true_eq_false, not_false_eq_true, ite_true, ite_false, List.append_nil, and_assoc, Nat.mul_zero, Nat.zero_mul, b8_1, r8_2, fs27, fs10, bmV, hX, hM6, hsum, Int.lt_irrefl, true_implies, true_and]
theorem tri8 (p : Pl) (hp : p.xs.length ≤ 140737488355328) (x : List (List Int)) (hx : x.length ≤ 140737488355328) (hr : ∀ r ∈ x, r.length = 5 ∧ wfAll .i64 r) (L LP : Xf.Loc) : Tri Try.prog 8 [plV p L 0, .sl 1 LP 5 0 x.length]
    [some (.ro, L, .ints .i64 p.xs), some (.ro, LP, .recs 5 false [] (x.map rcI))] (fun v _ => v = .bool true) := by
  obtain ⟨m, h1, h2⟩ := toPt x hr
  rw [h2, h1]
  exact tri8a p hp m (by omega) L LP
end Go.Proofs.Ytbndfifoakmdnaa
