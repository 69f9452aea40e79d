import Derived.Test.YtnmbimhcfioeiaaVi
set_option linter.unusedVariables false
set_option linter.unusedSimpArgs false
/-! The reference's Cut. -/
namespace Go.Proofs.Ytnmbimhcfioeiaa
open Xf

theorem cutF_at {W x y : Int} {xs : List Int} {w v u : Nat} (hu : u < w) : cutF W x y (w : Int) xs (v * w + u) = rd xs ((y + v) * W + (x + u)) := by
  unfold cutF
  have e1 : (((v * w + u : Nat) : Int)) / (w : Int) = v := by
    rw [← Int.natCast_ediv]
    congr 1
    rw [Nat.mul_comm, Nat.mul_add_div (by omega), Nat.div_eq_of_lt hu, Nat.add_zero]
  have e2 : (((v * w + u : Nat) : Int)) % (w : Int) = u := by
    rw [← Int.natCast_emod]
    congr 1
    rw [Nat.mul_comm, Nat.mul_add_mod, Nat.mod_eq_of_lt hu]
  rw [e1, e2, Int.add_assoc]
abbrev L3T := Nat × Xf.Loc × Xf.Loc × Xf.Loc
def M19 (c : CutA) (L0 M0 M1 N1 N2 N3 : Xf.Loc) (n : Nat) : Mem :=
  mkM 33 [(0, .ro, c.a.L1, .ints .i64 c.a.i.R), (1, .ro, c.a.L2, .ints .i64 c.a.i.G), (2, .ro, c.a.L3, .ints .i64 c.a.i.B), (10, .mine, L0, .cells [.int .i64 c.a.i.w, .int .i64 c.a.i.h, .sl 0 c.a.L1 1 0 c.a.i.R.length, .sl 1 c.a.L2 1 0 c.a.i.G.length, .sl 2 c.a.L3 1 0 c.a.i.B.length]),
      (11, .mine, M0, .cells [.int .i64 0, .int .i64 0, nilSV, nilSV, nilSV]), (16, .mine, M1, .cells [.int .i64 c.w, .int .i64 c.h, .sl 18 N1 1 0 n, .sl 20 N2 1 0 n, .sl 22 N3 1 0 n]),
      (18, .mine, N1, .ints .i64 (tabl n (cutF c.a.i.w c.x c.y c.w c.a.i.R))), (20, .mine, N2, .ints .i64 (tabl n (cutF c.a.i.w c.x c.y c.w c.a.i.G))), (22, .mine, N3, .ints .i64 (tabl n (cutF c.a.i.w c.x c.y c.w c.a.i.B)))]
def S19 (c : CutA) (L0 M0 M1 : Xf.Loc) (v : Int) : List (Nat × SV) := [(1, .int .i64 c.x), (2, .int .i64 c.y), (3, .int .i64 c.w), (4, .int .i64 c.h), (5, .ptr 10 L0 0 0 0), (10, .ptr 11 M0 0 0 0), (12, .ptr 16 M1 0 0 0), (13, .int .i64 v)]
def lp19 (c : CutA) (L0 M0 M1 : Xf.Loc) : LoopS where
  A := L3T
  I := fun i => (mkS 119 (S19 c L0 M0 M1 (c.y + i.1)), M19 c L0 M0 M1 i.2.1 i.2.2.1 i.2.2.2 (i.1 * c.w.toNat))
  R := fun i => i.1 ≤ c.h.toNat
  mu := fun i => c.h.toNat - i.1
def lp19b (c : CutA) (L0 M0 M1 : Xf.Loc) (v : Nat) : LoopS where
  A := L3T
  I := fun i => (mkS 119 ((14, .int .i64 (c.x + i.1)) :: S19 c L0 M0 M1 (c.y + v)), M19 c L0 M0 M1 i.2.1 i.2.2.1 i.2.2.2 (v * c.w.toNat + i.1))
  R := fun i => i.1 ≤ c.w.toNat
  mu := fun i => c.w.toNat - i.1
theorem ok19 : FSOk Try.prog 19 fs18 := by
  refine ⟨⟨_, Try.func19, by kernel_rfl, by kernel_rfl⟩, fun a => ⟨by simp [fs18, imM, push_cast, noMine, argOwn, Chunk.frArg], by simp [fs18, imM, push_cast, outOk, Chunk.ext], fun x => .inl (by simp [fs18, imM, push_cast, frNew, frOut, Chunk.fr])⟩, fun a hp => ?_⟩
  obtain ⟨⟨⟨W, H, R, G, B⟩, L1, L2, L3⟩, x, y, w, h⟩ := a
  change (⟨W, H, R, G, B⟩ : Im).small at hp
  change Tri Try.prog 19 [imV ⟨W, H, R, G, B⟩ L1 L2 L3 0, .int .i64 x, .int .i64 y, .int .i64 w, .int .i64 h] (imM ⟨W, H, R, G, B⟩ L1 L2 L3) (postF fs18 ⟨⟨⟨W, H, R, G, B⟩, L1, L2, L3⟩, x, y, w, h⟩)
  refine tri_evS (hyp (l := [(16, ent16)]) (lp := []) ⟨e16, trivial⟩ trivial) Try.func19 comp19 (rs := [.cell 10 (some 5), .tmp 11]) (by rfl) Try.ntmps19 30 ?_
  simp -implicitDefEqProofs only [push_cast, reduceCtorEq, Classical.not_not, Nat.reduceAdd, Nat.reduceSub, Nat.reduceMul, Nat.reduceLeDiff, Nat.reduceLT, Nat.reduceEqDiff, Nat.reduceBEq, Nat.reduceBNe, Int.reduceNeg, Int.reduceToNat, Bool.or_false, Bool.false_or, Bool.or_true, Bool.true_or, BEq.rfl, Bool.not_eq_true, Bool.not_eq_false, decide_eq_true_eq, not_true_eq_false, not_false_eq_true, ite_true, ite_false, List.append_nil, and_assoc, Nat.mul_zero, Nat.zero_mul, ir19, fs15]
  intro X
  refine ⟨hp, fun hn => ?_, fun hy => ⟨fun q => ?_, fun q => ?_, fun hb => ?_, fun hg X1 => ?_⟩⟩
  · have e : ¬ (⟨⟨⟨W, H, R, G, B⟩, L1, L2, L3⟩, x, y, w, h⟩ : CutA).Ok := fun H => hn H.1
    refine postF.mk' (fun _ => default) [some 0, some 1, some 2, none, none, none] ?_
    simp -implicitDefEqProofs only [push_cast, reduceCtorEq, Classical.not_not, Nat.reduceAdd, Nat.reduceSub, Nat.reduceMul, Nat.reduceLeDiff, Nat.reduceLT, Nat.reduceEqDiff, Nat.reduceBEq, Nat.reduceBNe, Int.reduceNeg, Int.reduceToNat, Bool.or_false, Bool.false_or, Bool.or_true, Bool.true_or, BEq.rfl, Bool.not_eq_true, Bool.not_eq_false, decide_eq_true_eq, not_true_eq_false, not_false_eq_true, ite_true, ite_false, List.append_nil, and_assoc, Nat.mul_zero, Nat.zero_mul, fs18, cutI, e, hn, if_false, lx, im0]
  · obtain ⟨a1, a2, a3, a4, _⟩ : SidesOk W H := hy.1
    exact ⟨q, q, by omega, by omega⟩
  · obtain ⟨a1, a2, a3, a4, _⟩ : SidesOk W H := hy.1
    exact ⟨q, q, by omega, by omega⟩
  · have e : ¬ (⟨⟨⟨W, H, R, G, B⟩, L1, L2, L3⟩, x, y, w, h⟩ : CutA).Ok := fun H => by
      obtain ⟨_, a, b, c, d, e, f⟩ := H
      simp only at a b c d e f
      omega
    refine postF.mk' (fun _ => default) [some 0, some 1, some 2, none, none, none] ?_
    simp -implicitDefEqProofs only [push_cast, reduceCtorEq, Classical.not_not, Nat.reduceAdd, Nat.reduceSub, Nat.reduceMul, Nat.reduceLeDiff, Nat.reduceLT, Nat.reduceEqDiff, Nat.reduceBEq, Nat.reduceBNe, Int.reduceNeg, Int.reduceToNat, Bool.or_false, Bool.false_or, Bool.or_true, Bool.true_or, BEq.rfl, Bool.not_eq_true, Bool.not_eq_false, decide_eq_true_eq, not_true_eq_false, not_false_eq_true, ite_true, ite_false, List.append_nil, and_assoc, Nat.mul_zero, Nat.zero_mul, fs18, cutI, e, hy, if_true, if_false, lx, im0]
  have hs : SidesOk W H := hy.1
  have hin : (⟨⟨⟨W, H, R, G, B⟩, L1, L2, L3⟩, x, y, w, h⟩ : CutA).In := by unfold CutA.In; simp only; omega
  have e : (⟨⟨⟨W, H, R, G, B⟩, L1, L2, L3⟩, x, y, w, h⟩ : CutA).Ok := ⟨hy, hin⟩
  have hm := hs.bd
  obtain ⟨g1, g2, g3, g4, g5, g6⟩ : 0 ≤ x ∧ 0 ≤ y ∧ 0 ≤ w ∧ 0 ≤ h ∧ x + w ≤ W ∧ y + h ≤ H := hin
  obtain ⟨a1, a2, a3, a4, _⟩ := id hs
  obtain ⟨e1, e2, _⟩ := hy.val
  simp only at e1 e2
  have hl : (R.length : Int) = W * H := hy.2.1.1
  obtain ⟨w, rfl⟩ : ∃ n : Nat, w = (n : Int) := ⟨w.toNat, by omega⟩
  obtain ⟨h, rfl⟩ : ∃ n : Nat, h = (n : Int) := ⟨h.toNat, by omega⟩
  refine evS_loop _ _ _ (lp19 ⟨⟨⟨W, H, R, G, B⟩, L1, L2, L3⟩, x, y, w, h⟩ (X 0 10) (X 1 11) (X1 3 16)) ((0, nilLoc, nilLoc, nilLoc) : L3T) (Nat.zero_le _) ?_ ?_
  · refine Sub.of (mkG 33 [(0, 0), (1, 1), (2, 2), (10, 10), (11, 11), (16, 16)]) ?_
    simp -implicitDefEqProofs only [push_cast, reduceCtorEq, Classical.not_not, Nat.reduceAdd, Nat.reduceSub, Nat.reduceMul, Nat.reduceLeDiff, Nat.reduceLT, Nat.reduceEqDiff, Nat.reduceBEq, Nat.reduceBNe, Int.reduceNeg, Int.reduceToNat, Bool.or_false, Bool.false_or, Bool.or_true, Bool.true_or, BEq.rfl, Bool.not_eq_true, Bool.not_eq_false, decide_eq_true_eq, not_true_eq_false, not_false_eq_true, ite_true, ite_false, List.append_nil, and_assoc, Nat.mul_zero, Nat.zero_mul, lp19, M19, S19, Nat.zero_mul, tabl_zero, Int.natCast_zero, Int.zero_mul]
  intro (⟨v, N1, N2, N3⟩ : L3T) (hv : v ≤ ((h : Int)).toNat)
  change evS _ _ _ _ (mkS 119 (S19 ⟨⟨⟨W, H, R, G, B⟩, L1, L2, L3⟩, x, y, w, h⟩ (X 0 10) (X 1 11) (X1 3 16) (y + v))) (M19 ⟨⟨⟨W, H, R, G, B⟩, L1, L2, L3⟩, x, y, w, h⟩ (X 0 10) (X 1 11) (X1 3 16) N1 N2 N3 (v * ((w : Int)).toNat))
  simp only [Int.toNat_natCast] at hv ⊢
  simp -implicitDefEqProofs only [push_cast, reduceCtorEq, Classical.not_not, Nat.reduceAdd, Nat.reduceSub, Nat.reduceMul, Nat.reduceLeDiff, Nat.reduceLT, Nat.reduceEqDiff, Nat.reduceBEq, Nat.reduceBNe, Int.reduceNeg, Int.reduceToNat, Bool.or_false, Bool.false_or, Bool.or_true, Bool.true_or, BEq.rfl, Bool.not_eq_true, Bool.not_eq_false, decide_eq_true_eq, not_true_eq_false, not_false_eq_true, ite_true, ite_false, List.append_nil, and_assoc, Nat.mul_zero, Nat.zero_mul, M19, S19, b19_1, r19_4]
  refine ⟨by omega, by omega, fun hl1 => ?_, fun hl1 => ?_⟩
  · have hvw := mul_bd (a := (v : Int)) (b := w) (A := 200) (B := 200) (by omega) (by omega) (by omega) (by omega)
    refine evS_loop _ _ _ (lp19b ⟨⟨⟨W, H, R, G, B⟩, L1, L2, L3⟩, x, y, w, h⟩ (X 0 10) (X 1 11) (X1 3 16) v) ((0, N1, N2, N3) : L3T) (Nat.zero_le _) ?_ ?_
    · refine Sub.of (mkG 33 [(0, 0), (1, 1), (2, 2), (10, 10), (11, 11), (16, 16), (18, 18), (20, 20), (22, 22)]) ?_
      simp -implicitDefEqProofs only [push_cast, reduceCtorEq, Classical.not_not, Nat.reduceAdd, Nat.reduceSub, Nat.reduceMul, Nat.reduceLeDiff, Nat.reduceLT, Nat.reduceEqDiff, Nat.reduceBEq, Nat.reduceBNe, Int.reduceNeg, Int.reduceToNat, Bool.or_false, Bool.false_or, Bool.or_true, Bool.true_or, BEq.rfl, Bool.not_eq_true, Bool.not_eq_false, decide_eq_true_eq, not_true_eq_false, not_false_eq_true, ite_true, ite_false, List.append_nil, and_assoc, Nat.mul_zero, Nat.zero_mul, lp19b, M19, S19, Int.toNat_natCast, Int.natCast_zero]
    intro (⟨u, K1, K2, K3⟩ : L3T) (hu : u ≤ ((w : Int)).toNat)
    change evS _ _ _ _ (mkS 119 ((14, .int .i64 (x + u)) :: S19 ⟨⟨⟨W, H, R, G, B⟩, L1, L2, L3⟩, x, y, w, h⟩ (X 0 10) (X 1 11) (X1 3 16) (y + v))) (M19 ⟨⟨⟨W, H, R, G, B⟩, L1, L2, L3⟩, x, y, w, h⟩ (X 0 10) (X 1 11) (X1 3 16) K1 K2 K3 (v * ((w : Int)).toNat + u))
    simp only [Int.toNat_natCast] at hu ⊢
    simp -implicitDefEqProofs only [push_cast, reduceCtorEq, Classical.not_not, Nat.reduceAdd, Nat.reduceSub, Nat.reduceMul, Nat.reduceLeDiff, Nat.reduceLT, Nat.reduceEqDiff, Nat.reduceBEq, Nat.reduceBNe, Int.reduceNeg, Int.reduceToNat, Bool.or_false, Bool.false_or, Bool.or_true, Bool.true_or, BEq.rfl, Bool.not_eq_true, Bool.not_eq_false, decide_eq_true_eq, not_true_eq_false, not_false_eq_true, ite_true, ite_false, List.append_nil, and_assoc, Nat.mul_zero, Nat.zero_mul, M19, S19, b19_2, r19_3]
    refine ⟨by omega, by omega, fun hl2 => ?_, fun hl2 => ?_⟩
    · have hu' : u < w := by omega
      have hi := idx_bd (a := y + v) (b := x + u) (W := W) (H := H) (by omega) (by omega) (by omega) (by omega)
      have hb0 := mul_bd (show 0 ≤ y + v by omega) (show y + v ≤ 200 by omega) a1 a3
      have lR := tabl_length (v * w + u) (cutF W x y w R)
      have lG := tabl_length (v * w + u) (cutF W x y w G)
      have lB := tabl_length (v * w + u) (cutF W x y w B)
      have lc : ((v * w + u : Nat) : Int) = v * w + u := by simp
      refine ⟨by omega, by omega, by omega, by omega, fun X2 => ?_⟩
      rw [lR, lG, lB, lc]
      repeat (refine ⟨by omega, ?_⟩)
      refine lpK_mk ((u + 1, X2 8 18, X2 17 20, X2 26 22) : L3T) hu' (show w - (u + 1) < w - u by omega) ?_
      have qR : tabl (v * w + u) (cutF W x y w R) ++ [rd R ((y + v) * W + (x + u))] = tabl (v * w + u + 1) (cutF W x y w R) := by rw [← tabl_snoc, cutF_at hu']
      have qG : tabl (v * w + u) (cutF W x y w G) ++ [rd G ((y + v) * W + (x + u))] = tabl (v * w + u + 1) (cutF W x y w G) := by rw [← tabl_snoc, cutF_at hu']
      have qB : tabl (v * w + u) (cutF W x y w B) ++ [rd B ((y + v) * W + (x + u))] = tabl (v * w + u + 1) (cutF W x y w B) := by rw [← tabl_snoc, cutF_at hu']
      refine Sub.of (mkG 33 [(0, 0), (1, 1), (2, 2), (10, 10), (11, 11), (16, 16), (18, 18), (20, 20), (22, 22)]) ?_
      simp -implicitDefEqProofs only [push_cast, reduceCtorEq, Classical.not_not, Nat.reduceAdd, Nat.reduceSub, Nat.reduceMul, Nat.reduceLeDiff, Nat.reduceLT, Nat.reduceEqDiff, Nat.reduceBEq, Nat.reduceBNe, Int.reduceNeg, Int.reduceToNat, Bool.or_false, Bool.false_or, Bool.or_true, Bool.true_or, BEq.rfl, Bool.not_eq_true, Bool.not_eq_false, decide_eq_true_eq, not_true_eq_false, not_false_eq_true, ite_true, ite_false, List.append_nil, and_assoc, Nat.mul_zero, Nat.zero_mul, lp19b, M19, S19, Int.toNat_natCast, Int.add_assoc, ← Nat.add_assoc, qR, qG, qB]
    · obtain rfl : u = w := by omega
      refine ⟨by omega, by omega, ?_⟩
      refine lpK_mk ((v + 1, K1, K2, K3) : L3T) (show v < h by omega) (show h - (v + 1) < h - v by omega) ?_
      refine Sub.of (mkG 33 [(0, 0), (1, 1), (2, 2), (10, 10), (11, 11), (16, 16), (18, 18), (20, 20), (22, 22)]) ?_
      have e3 : (v + 1) * u = v * u + u := by rw [Nat.add_mul, Nat.one_mul]
      simp -implicitDefEqProofs only [push_cast, reduceCtorEq, Classical.not_not, Nat.reduceAdd, Nat.reduceSub, Nat.reduceMul, Nat.reduceLeDiff, Nat.reduceLT, Nat.reduceEqDiff, Nat.reduceBEq, Nat.reduceBNe, Int.reduceNeg, Int.reduceToNat, Bool.or_false, Bool.false_or, Bool.or_true, Bool.true_or, BEq.rfl, Bool.not_eq_true, Bool.not_eq_false, decide_eq_true_eq, not_true_eq_false, not_false_eq_true, ite_true, ite_false, List.append_nil, and_assoc, Nat.mul_zero, Nat.zero_mul, lp19, M19, S19, Int.toNat_natCast, ← Int.add_assoc, e3, Int.add_mul, Int.one_mul]
  · obtain rfl : v = h := by omega
    refine postF.mk' (locs [N1, N2, N3]) [some 0, some 1, some 2, some 18, some 20, some 22] ?_
    have e3 : ((w : Int) * v).toNat = v * w := by rw [← Int.natCast_mul, Int.toNat_natCast, Nat.mul_comm]
    simp -implicitDefEqProofs only [push_cast, reduceCtorEq, Classical.not_not, Nat.reduceAdd, Nat.reduceSub, Nat.reduceMul, Nat.reduceLeDiff, Nat.reduceLT, Nat.reduceEqDiff, Nat.reduceBEq, Nat.reduceBNe, Int.reduceNeg, Int.reduceToNat, Bool.or_false, Bool.false_or, Bool.or_true, Bool.true_or, BEq.rfl, Bool.not_eq_true, Bool.not_eq_false, decide_eq_true_eq, not_true_eq_false, not_false_eq_true, ite_true, ite_false, List.append_nil, and_assoc, Nat.mul_zero, Nat.zero_mul, fs18, cutI, cutL, e, hy, if_true, lx, tabl_length, e3]
def ent19 : Entry := spOf fs18 inv18
theorem e19 : EntryOk Try.prog 19 ent19 := entry_of ok19 inv18
@[push_cast] theorem ent19_app (us : List SV) (look : Look) (x : Nat → Xf.Loc) (k : Nat) : ent19 us look x k = spOf fs18 inv18 us look x k := rfl
end Go.Proofs.Ytnmbimhcfioeiaa
