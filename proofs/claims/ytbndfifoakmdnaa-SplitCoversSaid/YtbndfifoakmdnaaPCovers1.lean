import Derived.Test.YtbndfifoakmdnaaPCovers0
set_option linter.unusedVariables false
set_option linter.unusedSimpArgs false
set_option maxRecDepth 1000
namespace Go.Proofs.Ytbndfifoakmdnaa
open Xf
set_option maxRecDepth 4000 in
set_option maxHeartbeats 2000000 in
theorem tri3 (p : Pl) (hp : p.xs.length ≤ 140737488355328) (e : En) (L : Xf.Loc) : Tri Try.prog 3 [plV p L 0, .agg [.int .i64 e.cut, .int .i64 e.paper, .int .i64 e.text, .int .i64 e.pic]]
    [some (.ro, L, .ints .i64 p.xs)] (fun v _ => v = .bool true) := by
  have hno : ¬ (p.Gr ∧ e.Ok) → spS p e = ([], 0) ∧ ¬ spE p e = 0 := fun h => by
    refine ⟨by unfold spS; rw [if_neg fun H => h ⟨H.1, H.2.1⟩], ?_⟩
    unfold spE
    split
    · rename_i hG; rw [if_neg fun hE => h ⟨hG, hE⟩]; decide
    · decide
  by_cases hok : p.Gr ∧ e.Ok
  case neg =>
    obtain ⟨h1, h2⟩ := hno hok
    obtain ⟨w, h, xs⟩ := p
    obtain ⟨c, q, t, i⟩ := e
    change xs.length ≤ 140737488355328 at hp
    change Tri Try.prog 3 [plV ⟨w, h, xs⟩ L 0, .agg [.int .i64 c, .int .i64 q, .int .i64 t, .int .i64 i]] [some (.ro, L, .ints .i64 xs)] _
    refine tri_evS (hyp (l := [(9, ent9), (10, ent10), (11, ent11)]) (lp := []) ⟨e9, e10, e11, trivial⟩ trivial) Try.func3 comp3 (rs := [.tmp 4]) (by rfl) Try.ntmps3 34 ?_
    simp -implicitDefEqProofs only [push_cast, false_implies, reduceCtorEq, Classical.not_not, Nat.reduceAdd, Nat.reduceSub, Nat.reduceMul, Nat.reduceLeDiff, Nat.reduceLT, Nat.reduceEqDiff, Nat.reduceBEq, Nat.reduceBNe, Int.reduceNeg, Int.reduceToNat, Bool.or_false, Bool.false_or, Bool.or_true, Bool.true_or, BEq.rfl, Bool.not_eq_true, Bool.not_eq_false, decide_eq_true_eq, not_true_eq_false, not_false_eq_true, ite_true, ite_false, List.append_nil, and_assoc, Nat.mul_zero, Nat.zero_mul, ir3, fs9, fs12, fs10, fs11, hp, h1, h2, plV, enV, esz, List.length_nil, List.map_nil]
  obtain ⟨hG, hE⟩ := hok
  have hsE : spE p e = 0 := by unfold spE; rw [if_pos hG, if_pos hE]
  obtain ⟨w, h, xs⟩ := p
  obtain ⟨W, rfl⟩ : ∃ n : Nat, w = (n : Int) := ⟨w.toNat, by have : SidesOk w h := hG.1; have := this.1; omega⟩
  obtain ⟨H, rfl⟩ : ∃ n : Nat, h = (n : Int) := ⟨h.toNat, by have : SidesOk W h := hG.1; have := this.2.1; omega⟩
  obtain ⟨hn, hn8, hW, hH, hll, hcov, hinp⟩ := sp_cov hG hE
  obtain ⟨l, hl⟩ : ∃ l, (spS ⟨W, H, xs⟩ e).1 = l := ⟨_, rfl⟩
  rw [hl] at hll hcov hinp
  obtain ⟨c, q, t, i⟩ := e
  change xs.length ≤ 140737488355328 at hp
  change Tri Try.prog 3 [plV ⟨W, H, xs⟩ L 0, .agg [.int .i64 c, .int .i64 q, .int .i64 t, .int .i64 i]] [some (.ro, L, .ints .i64 xs)] _
  refine tri_evS (hyp (l := [(9, ent9), (10, ent10), (11, ent11)]) (lp := []) ⟨e9, e10, e11, trivial⟩ trivial) Try.func3 comp3 (rs := [.tmp 4]) (by rfl) Try.ntmps3 34 ?_
  simp -implicitDefEqProofs only [push_cast, false_implies, reduceCtorEq, Classical.not_not, Nat.reduceAdd, Nat.reduceSub, Nat.reduceMul, Nat.reduceLeDiff, Nat.reduceLT, Nat.reduceEqDiff, Nat.reduceBEq, Nat.reduceBNe, Int.reduceNeg, Int.reduceToNat, Bool.or_false, Bool.false_or, Bool.or_true, Bool.true_or, BEq.rfl, Bool.not_eq_true, Bool.not_eq_false, decide_eq_true_eq, not_true_eq_false, not_false_eq_true, ite_true, ite_false, List.append_nil, and_assoc, Nat.mul_zero, Nat.zero_mul, ir3, fs9, fs12, fs10, fs11, hp, hsE, hl, plV, enV]
  intro X hL X1 X2
  repeat (refine And.intro (by first | omega | trivial | (intros; omega)) ?_)
  obtain ⟨LP, hLP⟩ : ∃ LP, lx (spOk ⟨W, H, xs⟩ ⟨c, q, t, i⟩) (fun j => X1 2 (20 + j)) 0 = LP := ⟨_, rfl⟩
  simp only [hLP, Int.toNat_natCast]
  obtain ⟨n, hnn⟩ : ∃ n, xs.length = n := ⟨_, rfl⟩
  simp only [hnn]
  rw [hnn] at hn hn8 hcov
  have z0 : List.replicate n (0 : Int) = tabl n (cvF W l 0) := (tabl_zero' fun k _ => rfl).symm
  rw [z0]
  refine evS_loopU (A := Nat) kp3_1 kl3_1 (fun i => [(9, .int .i64 i)]) (fun i => [(28, .mine, X2 3 28, .ints .i64 (tabl n (cvF W l i)))]) (fun i => i ≤ l.length) (fun i => l.length - i) 0 (Nat.zero_le _) (Sub.pt ?_) ?_
  · simp -implicitDefEqProofs only [push_cast, false_implies, reduceCtorEq, Classical.not_not, Nat.reduceAdd, Nat.reduceSub, Nat.reduceMul, Nat.reduceLeDiff, Nat.reduceLT, Nat.reduceEqDiff, Nat.reduceBEq, Nat.reduceBNe, Int.reduceNeg, Int.reduceToNat, Bool.or_false, Bool.false_or, Bool.or_true, Bool.true_or, BEq.rfl, Bool.not_eq_true, Bool.not_eq_false, decide_eq_true_eq, not_true_eq_false, not_false_eq_true, ite_true, ite_false, List.append_nil, and_assoc, Nat.mul_zero, Nat.zero_mul]
  intro k (hk : k ≤ l.length) K hK
  have hlm : (l.map Pt.rc).length = l.length := List.length_map _
  by_cases hk' : k < l.length
  · have he5 := esz_pos (s := 5) (n := l.length) (by omega)
    have r1 := recAt_Pt hk' []
    have hb := hinp _ (rdPt_mem hk')
    have f1 := sn_first (W := W) (n := n) (l := l) (i := k)
    have f2 := fun v => sn_row (W := W) (n := n) (l := l) (i := k) v (by have := hb.2.2.1; omega)
    have f3 := sn_last (W := W) (n := n) hk'
    have f4 := fun {v u : Nat} => sn_set (W := W) (n := n) (l := l) (i := k) (v := v) (u := u)
    obtain ⟨pt, hpt⟩ : ∃ pt, rdPt l k = pt := ⟨_, rfl⟩
    rw [hpt] at r1 hb f1 f2 f3 f4
    obtain ⟨kd, qx, qy, qw, qh⟩ := pt
    obtain ⟨b1, b2, b3, b4, b5, b6⟩ := hb
    simp only at b1 b2 b3 b4 b5 b6 f1 f2 f3 f4
    simp -implicitDefEqProofs only [push_cast, false_implies, reduceCtorEq, Classical.not_not, Nat.reduceAdd, Nat.reduceSub, Nat.reduceMul, Nat.reduceLeDiff, Nat.reduceLT, Nat.reduceEqDiff, Nat.reduceBEq, Nat.reduceBNe, Int.reduceNeg, Int.reduceToNat, Bool.or_false, Bool.false_or, Bool.or_true, Bool.true_or, BEq.rfl, Bool.not_eq_true, Bool.not_eq_false, decide_eq_true_eq, not_true_eq_false, not_false_eq_true, ite_true, ite_false, List.append_nil, and_assoc, Nat.mul_zero, Nat.zero_mul, b3_1, r1, Pt.rc, he5, hlm]
    refine ⟨fun _ X3 => ?_, fun h => by omega⟩
    repeat (refine And.intro (by first | omega | trivial | (intros; omega)) ?_)
    intro _
    refine evS_loopU (A := Int) kp3_2 kl3_2 (fun v => [(11, .int .i64 v)]) (fun v => [(28, .mine, X2 3 28, .ints .i64 (tabl n (snF W l k v qx)))]) (fun v => qy ≤ v ∧ v ≤ qy + qh) (fun v => (qy + qh - v).toNat) qy ⟨by omega, by omega⟩ (Sub.pt ?_) ?_
    · simp -implicitDefEqProofs only [push_cast, false_implies, reduceCtorEq, Classical.not_not, Nat.reduceAdd, Nat.reduceSub, Nat.reduceMul, Nat.reduceLeDiff, Nat.reduceLT, Nat.reduceEqDiff, Nat.reduceBEq, Nat.reduceBNe, Int.reduceNeg, Int.reduceToNat, Bool.or_false, Bool.false_or, Bool.or_true, Bool.true_or, BEq.rfl, Bool.not_eq_true, Bool.not_eq_false, decide_eq_true_eq, not_true_eq_false, not_false_eq_true, ite_true, ite_false, List.append_nil, and_assoc, Nat.mul_zero, Nat.zero_mul, f1]
    intro v ⟨v1, v2⟩ K2 hK2
    by_cases hv : v < qy + qh
    · obtain ⟨v, rfl⟩ : ∃ m : Nat, v = (m : Int) := ⟨v.toNat, by omega⟩
      simp -implicitDefEqProofs only [push_cast, false_implies, reduceCtorEq, Classical.not_not, Nat.reduceAdd, Nat.reduceSub, Nat.reduceMul, Nat.reduceLeDiff, Nat.reduceLT, Nat.reduceEqDiff, Nat.reduceBEq, Nat.reduceBNe, Int.reduceNeg, Int.reduceToNat, Bool.or_false, Bool.false_or, Bool.or_true, Bool.true_or, BEq.rfl, Bool.not_eq_true, Bool.not_eq_false, decide_eq_true_eq, not_true_eq_false, not_false_eq_true, ite_true, ite_false, List.append_nil, and_assoc, Nat.mul_zero, Nat.zero_mul, b3_2, r3_4]
      refine And.intro (by omega) (And.intro (by omega) ?_)
      refine ⟨fun _ => ?_, fun h => absurd hv h⟩
      refine evS_loopU (A := Int) kp3_3 kl3_3 (fun u => [(12, .int .i64 u)]) (fun u => [(28, .mine, X2 3 28, .ints .i64 (tabl n (snF W l k v u)))]) (fun u => qx ≤ u ∧ u ≤ qx + qw) (fun u => (qx + qw - u).toNat) qx ⟨by omega, by omega⟩ (Sub.pt ?_) ?_
      · simp -implicitDefEqProofs only [push_cast, false_implies, reduceCtorEq, Classical.not_not, Nat.reduceAdd, Nat.reduceSub, Nat.reduceMul, Nat.reduceLeDiff, Nat.reduceLT, Nat.reduceEqDiff, Nat.reduceBEq, Nat.reduceBNe, Int.reduceNeg, Int.reduceToNat, Bool.or_false, Bool.false_or, Bool.or_true, Bool.true_or, BEq.rfl, Bool.not_eq_true, Bool.not_eq_false, decide_eq_true_eq, not_true_eq_false, not_false_eq_true, ite_true, ite_false, List.append_nil, and_assoc, Nat.mul_zero, Nat.zero_mul]
      intro u ⟨u1, u2⟩ K3 hK3
      by_cases hu : u < qx + qw
      · obtain ⟨u, rfl⟩ : ∃ m : Nat, u = (m : Int) := ⟨u.toNat, by omega⟩
        have huW : u < W := by omega
        have hvH : (v + 1) * W ≤ H * W := Nat.mul_le_mul_right _ (by omega)
        rw [Nat.add_mul] at hvH
        have hix : v * W + u < n := by omega
        have hset := f4 (v := v) (u := u) huW hix ⟨by omega, by omega, by omega, by omega⟩
        have hbd := sn_bd W l k v u (v * W + u)
        have hm := mul_bd (a := (v : Int)) (b := (W : Int)) (A := 200) (B := 200) (by omega) (by omega) (by omega) (by omega)
        have eidx : (v : Int) * W + u = ((v * W + u : Nat) : Int) := by simp
        have hrd := rd_tabl (n := n) (j := v * W + u) hix (snF W l k v u)
        obtain ⟨ix, hixx⟩ : ∃ ix, v * W + u = ix := ⟨_, rfl⟩
        obtain ⟨sv, hsv⟩ : ∃ sv, snF W l k v u ix = sv := ⟨_, rfl⟩
        rw [hixx] at hix hset hbd eidx hrd
        rw [hsv] at hset hbd hrd
        simp -implicitDefEqProofs only [push_cast, false_implies, reduceCtorEq, Classical.not_not, Nat.reduceAdd, Nat.reduceSub, Nat.reduceMul, Nat.reduceLeDiff, Nat.reduceLT, Nat.reduceEqDiff, Nat.reduceBEq, Nat.reduceBNe, Int.reduceNeg, Int.reduceToNat, Bool.or_false, Bool.false_or, Bool.or_true, Bool.true_or, BEq.rfl, Bool.not_eq_true, Bool.not_eq_false, decide_eq_true_eq, not_true_eq_false, not_false_eq_true, ite_true, ite_false, List.append_nil, and_assoc, Nat.mul_zero, Nat.zero_mul, b3_3, eidx, hrd, tabl_length, Int.toNat_natCast]
        refine And.intro (by omega) (And.intro (by omega) ?_)
        refine ⟨fun _ => ?_, fun h => absurd hu h⟩
        repeat (refine And.intro (by first | omega | trivial | (intros; omega)) ?_)
        refine hK3 ((u : Int) + 1) ⟨by omega, by omega⟩ (by omega) _ _ (Sub.pt ?_)
        simp -implicitDefEqProofs only [push_cast, false_implies, reduceCtorEq, Classical.not_not, Nat.reduceAdd, Nat.reduceSub, Nat.reduceMul, Nat.reduceLeDiff, Nat.reduceLT, Nat.reduceEqDiff, Nat.reduceBEq, Nat.reduceBNe, Int.reduceNeg, Int.reduceToNat, Bool.or_false, Bool.false_or, Bool.or_true, Bool.true_or, BEq.rfl, Bool.not_eq_true, Bool.not_eq_false, decide_eq_true_eq, not_true_eq_false, not_false_eq_true, ite_true, ite_false, List.append_nil, and_assoc, Nat.mul_zero, Nat.zero_mul, hset]
      · obtain rfl : u = qx + qw := by omega
        clear hK3
        simp -implicitDefEqProofs only [push_cast, false_implies, reduceCtorEq, Classical.not_not, Nat.reduceAdd, Nat.reduceSub, Nat.reduceMul, Nat.reduceLeDiff, Nat.reduceLT, Nat.reduceEqDiff, Nat.reduceBEq, Nat.reduceBNe, Int.reduceNeg, Int.reduceToNat, Bool.or_false, Bool.false_or, Bool.or_true, Bool.true_or, BEq.rfl, Bool.not_eq_true, Bool.not_eq_false, decide_eq_true_eq, not_true_eq_false, not_false_eq_true, ite_true, ite_false, List.append_nil, and_assoc, Nat.mul_zero, Nat.zero_mul, b3_3, Int.lt_irrefl, true_implies, true_and]
        repeat (refine And.intro (by first | omega | trivial | (intros; omega)) ?_)
        refine hK2 ((v : Int) + 1) ⟨by omega, by omega⟩ (by omega) _ _ (Sub.pt ?_)
        simp -implicitDefEqProofs only [push_cast, false_implies, reduceCtorEq, Classical.not_not, Nat.reduceAdd, Nat.reduceSub, Nat.reduceMul, Nat.reduceLeDiff, Nat.reduceLT, Nat.reduceEqDiff, Nat.reduceBEq, Nat.reduceBNe, Int.reduceNeg, Int.reduceToNat, Bool.or_false, Bool.false_or, Bool.or_true, Bool.true_or, BEq.rfl, Bool.not_eq_true, Bool.not_eq_false, decide_eq_true_eq, not_true_eq_false, not_false_eq_true, ite_true, ite_false, List.append_nil, and_assoc, Nat.mul_zero, Nat.zero_mul, f2 v]
    · obtain rfl : v = qy + qh := by omega
      clear hK2
      simp -implicitDefEqProofs only [push_cast, false_implies, reduceCtorEq, Classical.not_not, Nat.reduceAdd, Nat.reduceSub, Nat.reduceMul, Nat.reduceLeDiff, Nat.reduceLT, Nat.reduceEqDiff, Nat.reduceBEq, Nat.reduceBNe, Int.reduceNeg, Int.reduceToNat, Bool.or_false, Bool.false_or, Bool.or_true, Bool.true_or, BEq.rfl, Bool.not_eq_true, Bool.not_eq_false, decide_eq_true_eq, not_true_eq_false, not_false_eq_true, ite_true, ite_false, List.append_nil, and_assoc, Nat.mul_zero, Nat.zero_mul, b3_2, r3_4, r3_5, Int.lt_irrefl, true_implies, true_and]
      repeat (refine And.intro (by first | omega | trivial | (intros; omega)) ?_)
      refine hK (k + 1) (by omega) (by omega) _ _ (Sub.pt ?_)
      simp -implicitDefEqProofs only [push_cast, false_implies, reduceCtorEq, Classical.not_not, Nat.reduceAdd, Nat.reduceSub, Nat.reduceMul, Nat.reduceLeDiff, Nat.reduceLT, Nat.reduceEqDiff, Nat.reduceBEq, Nat.reduceBNe, Int.reduceNeg, Int.reduceToNat, Bool.or_false, Bool.false_or, Bool.or_true, Bool.true_or, BEq.rfl, Bool.not_eq_true, Bool.not_eq_false, decide_eq_true_eq, not_true_eq_false, not_false_eq_true, ite_true, ite_false, List.append_nil, and_assoc, Nat.mul_zero, Nat.zero_mul, f3, he5]
  · obtain rfl : k = l.length := by omega
    clear hK
    have hfin : tabl n (cvF W l l.length) = List.replicate n 1 := by
      refine eq_of_rd (by simp [tabl_length]) fun j hj => ?_
      rw [tabl_length] at hj
      rw [rd_tabl hj, rd_lt _ _ (by simpa using hj)]
      unfold cvF
      rw [List.take_length, hcov j hj]; simp
    simp -implicitDefEqProofs only [push_cast, false_implies, reduceCtorEq, Classical.not_not, Nat.reduceAdd, Nat.reduceSub, Nat.reduceMul, Nat.reduceLeDiff, Nat.reduceLT, Nat.reduceEqDiff, Nat.reduceBEq, Nat.reduceBNe, Int.reduceNeg, Int.reduceToNat, Bool.or_false, Bool.false_or, Bool.or_true, Bool.true_or, BEq.rfl, Bool.not_eq_true, Bool.not_eq_false, decide_eq_true_eq, not_true_eq_false, not_false_eq_true, ite_true, ite_false, List.append_nil, and_assoc, Nat.mul_zero, Nat.zero_mul, b3_1, r3_8, hfin, hlm, Int.lt_irrefl, true_implies, true_and]
    refine evS_loopU (A := Nat) kp3_6 kl3_6 (fun i => [(13, .int .i64 i)]) (fun _ => []) (fun i => i ≤ n) (fun i => n - i) 0 (Nat.zero_le _) (Sub.pt ?_) ?_
    · simp -implicitDefEqProofs only [push_cast, false_implies, reduceCtorEq, Classical.not_not, Nat.reduceAdd, Nat.reduceSub, Nat.reduceMul, Nat.reduceLeDiff, Nat.reduceLT, Nat.reduceEqDiff, Nat.reduceBEq, Nat.reduceBNe, Int.reduceNeg, Int.reduceToNat, Bool.or_false, Bool.false_or, Bool.or_true, Bool.true_or, BEq.rfl, Bool.not_eq_true, Bool.not_eq_false, decide_eq_true_eq, not_true_eq_false, not_false_eq_true, ite_true, ite_false, List.append_nil, and_assoc, Nat.mul_zero, Nat.zero_mul]
    intro j (hj : j ≤ n) K hK
    by_cases hj' : j < n
    · have hrd : rd (List.replicate n (1 : Int)) (j : Int) = 1 := by rw [rd_lt _ _ (by simpa using hj')]; simp
      simp -implicitDefEqProofs only [push_cast, false_implies, reduceCtorEq, Classical.not_not, Nat.reduceAdd, Nat.reduceSub, Nat.reduceMul, Nat.reduceLeDiff, Nat.reduceLT, Nat.reduceEqDiff, Nat.reduceBEq, Nat.reduceBNe, Int.reduceNeg, Int.reduceToNat, Bool.or_false, Bool.false_or, Bool.or_true, Bool.true_or, BEq.rfl, Bool.not_eq_true, Bool.not_eq_false, decide_eq_true_eq, not_true_eq_false, not_false_eq_true, ite_true, ite_false, List.append_nil, and_assoc, Nat.mul_zero, Nat.zero_mul, b3_6, hrd, List.length_replicate]
      refine ⟨fun _ => ?_, fun h => by omega⟩
      repeat (refine And.intro (by first | omega | trivial | (intros; omega)) ?_)
      refine hK (j + 1) (by omega) (by omega) _ _ (Sub.pt ?_)
      simp -implicitDefEqProofs only [push_cast, false_implies, reduceCtorEq, Classical.not_not, Nat.reduceAdd, Nat.reduceSub, Nat.reduceMul, Nat.reduceLeDiff, Nat.reduceLT, Nat.reduceEqDiff, Nat.reduceBEq, Nat.reduceBNe, Int.reduceNeg, Int.reduceToNat, Bool.or_false, Bool.false_or, Bool.or_true, Bool.true_or, BEq.rfl, Bool.not_eq_true, Bool.not_eq_false, decide_eq_true_eq, not_true_eq_false, not_false_eq_true, ite_true, ite_false, List.append_nil, and_assoc, Nat.mul_zero, Nat.zero_mul]
    · obtain rfl : j = n := by omega
      clear hK
      simp -implicitDefEqProofs only [push_cast, false_implies, reduceCtorEq, Classical.not_not, Nat.reduceAdd, Nat.reduceSub, Nat.reduceMul, Nat.reduceLeDiff, Nat.reduceLT, Nat.reduceEqDiff, Nat.reduceBEq, Nat.reduceBNe, Int.reduceNeg, Int.reduceToNat, Bool.or_false, Bool.false_or, Bool.or_true, Bool.true_or, BEq.rfl, Bool.not_eq_true, Bool.not_eq_false, decide_eq_true_eq, not_true_eq_false, not_false_eq_true, ite_true, ite_false, List.append_nil, and_assoc, Nat.mul_zero, Nat.zero_mul, b3_6, r3_7, fs10, Int.lt_irrefl, true_implies, true_and]
end Go.Proofs.Ytbndfifoakmdnaa
