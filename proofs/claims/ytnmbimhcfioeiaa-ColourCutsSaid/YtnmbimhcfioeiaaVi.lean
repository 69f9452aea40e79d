import Derived.Test.YtnmbimhcfioeiaaVg
set_option linter.unusedVariables false
set_option linter.unusedSimpArgs false
/-! Cut. -/
namespace Go.Proofs.Ytnmbimhcfioeiaa
open Xf

structure CutA where
  a : ImA
  x : Int
  y : Int
  w : Int
  h : Int
def CutA.In (c : CutA) : Prop := 0 ≤ c.x ∧ 0 ≤ c.y ∧ 0 ≤ c.w ∧ 0 ≤ c.h ∧ c.x + c.w ≤ c.a.i.w ∧ c.y + c.h ≤ c.a.i.h
instance (c : CutA) : Decidable c.In := by unfold CutA.In; infer_instance
def CutA.Ok (c : CutA) : Prop := c.a.i.Ok ∧ c.In
instance (c : CutA) : Decidable c.Ok := by unfold CutA.Ok; infer_instance
def cutF (W x y w : Int) (xs : List Int) : Nat → Int := fun k => rd xs ((y + (k : Int) / w) * W + x + (k : Int) % w)
def cutL (c : CutA) (xs : List Int) : List Int := tabl (c.w * c.h).toNat (cutF c.a.i.w c.x c.y c.w xs)
def cutI (c : CutA) : Im := if c.Ok then ⟨c.w, c.h, cutL c c.a.i.R, cutL c c.a.i.G, cutL c c.a.i.B⟩ else im0
def fs18 : FS where
  A := CutA
  args := fun c => [imV c.a.i c.a.L1 c.a.L2 c.a.L3 0, .int .i64 c.x, .int .i64 c.y, .int .i64 c.w, .int .i64 c.h]
  mem := fun c => imM c.a.i c.a.L1 c.a.L2 c.a.L3
  pre := fun c => c.a.i.small
  res := fun c x => .tup [imV (cutI c) (lx c.Ok x 0) (lx c.Ok x 1) (lx c.Ok x 2) 3, .int .i64 (if c.Ok then 0 else if c.a.i.Ok then 2 else 75)]
  out := fun _ _ => []
  new := fun c x => imN (cutI c) (lx c.Ok x)
def inv18 : List SV → Look → Option (CutA × List Nat)
  | [v, .int .i64 x, .int .i64 y, .int .i64 w, .int .i64 h], look => match getI look v with
    | some (a, g) => some (⟨a, x, y, w, h⟩, g)
    | _ => none
  | _, _ => none
attribute [push_cast] inv18
theorem idx_bd {a b W H : Int} (h1 : 0 ≤ a) (h2 : a < H) (h3 : 0 ≤ b) (h4 : b < W) : 0 ≤ a * W + b ∧ a * W + b < W * H := by
  have e1 : 0 ≤ a * W := Int.mul_nonneg h1 (by omega)
  have e2 : (a + 1) * W ≤ H * W := Int.mul_le_mul_of_nonneg_right (by omega) (by omega)
  rw [Int.add_mul, Int.one_mul, Int.mul_comm H W] at e2
  omega
theorem dm_bd {k w h : Int} (h0 : 0 ≤ k) (h1 : k < w * h) (hw : 0 ≤ w) : 0 < w ∧ 0 ≤ k / w ∧ k / w < h ∧ 0 ≤ k % w ∧ k % w < w := by
  have hw' : 0 < w := by
    rcases Int.lt_or_eq_of_le hw with h | h
    · exact h
    · rw [← h, Int.zero_mul] at h1; omega
  refine ⟨hw', Int.ediv_nonneg h0 hw, ?_, Int.emod_nonneg _ (by omega), Int.emod_lt_of_pos _ hw'⟩
  exact Int.ediv_lt_of_lt_mul hw' (by rw [Int.mul_comm]; exact h1)

def I18 (c : CutA) (L0 M0 M1 N1 N2 N3 : Xf.Loc) (k : Nat) : List Ent × Mem :=
  (mkS 104 [(1, .int .i64 c.x), (2, .int .i64 c.y), (3, .int .i64 c.w), (5, .ptr 10 L0 0 0 0), (10, .ptr 11 M0 0 0 0), (12, .ptr 20 M1 0 0 0), (67, .int .i64 (c.w * c.h)), (68, .int .i64 k)],
    mkM 33 [(0, .ro, c.a.L1, .ints .i64 c.a.i.R), (1, .ro, c.a.L2, .ints .i64 c.a.i.G), (2, .ro, c.a.L3, .ints .i64 c.a.i.B), (10, .mine, L0, .cells [.int .i64 c.a.i.w, .int .i64 c.a.i.h, .sl 0 c.a.L1 1 0 c.a.i.R.length, .sl 1 c.a.L2 1 0 c.a.i.G.length, .sl 2 c.a.L3 1 0 c.a.i.B.length]),
      (11, .mine, M0, .cells [.int .i64 0, .int .i64 0, nilSV, nilSV, nilSV]), (20, .mine, M1, .cells [.int .i64 c.w, .int .i64 c.h, .sl 16 N1 1 0 (c.w * c.h), .sl 17 N2 1 0 (c.w * c.h), .sl 18 N3 1 0 (c.w * c.h)]),
      (16, .mine, N1, .ints .i64 (prt (c.w * c.h).toNat k (cutF c.a.i.w c.x c.y c.w c.a.i.R))), (17, .mine, N2, .ints .i64 (prt (c.w * c.h).toNat k (cutF c.a.i.w c.x c.y c.w c.a.i.G))), (18, .mine, N3, .ints .i64 (prt (c.w * c.h).toNat k (cutF c.a.i.w c.x c.y c.w c.a.i.B)))])
def lp18 (c : CutA) (L0 M0 M1 N1 N2 N3 : Xf.Loc) : LoopS where
  A := Nat
  I := I18 c L0 M0 M1 N1 N2 N3
  R := fun k => k ≤ (c.w * c.h).toNat
  mu := fun k => (c.w * c.h).toNat - k
theorem ok18 : FSOk Try.prog 18 fs18 := by
  refine ⟨⟨_, Try.func18, by kernel_rfl, by kernel_rfl⟩, fun a => ⟨by simp [fs18, imM, push_cast, noMine, argOwn, Chunk.frArg], by simp [fs18, imM, push_cast, outOk, Chunk.ext], fun x => .inl (by simp [fs18, imM, push_cast, frNew, frOut, Chunk.fr])⟩, fun a hp => ?_⟩
  obtain ⟨⟨⟨W, H, R, G, B⟩, L1, L2, L3⟩, x, y, w, h⟩ := a
  change (⟨W, H, R, G, B⟩ : Im).small at hp
  change Tri Try.prog 18 [imV ⟨W, H, R, G, B⟩ L1 L2 L3 0, .int .i64 x, .int .i64 y, .int .i64 w, .int .i64 h] (imM ⟨W, H, R, G, B⟩ L1 L2 L3) (postF fs18 ⟨⟨⟨W, H, R, G, B⟩, L1, L2, L3⟩, x, y, w, h⟩)
  refine tri_evS (hyp (l := [(15, ent15), (41, ent41), (42, ent42)]) (lp := []) ⟨e15, e41, e42, trivial⟩ trivial) Try.func18 comp18 (rs := [.cell 10 (some 5), .tmp 11]) (by rfl) Try.ntmps18 30 ?_
  simp -implicitDefEqProofs only [push_cast, reduceCtorEq, Classical.not_not, Nat.reduceAdd, Nat.reduceSub, Nat.reduceMul, Nat.reduceLeDiff, Nat.reduceLT, Nat.reduceEqDiff, Nat.reduceBEq, Nat.reduceBNe, Int.reduceNeg, Int.reduceToNat, Bool.or_false, Bool.false_or, Bool.or_true, Bool.true_or, BEq.rfl, Bool.not_eq_true, Bool.not_eq_false, decide_eq_true_eq, not_true_eq_false, not_false_eq_true, ite_true, ite_false, List.append_nil, and_assoc, Nat.mul_zero, Nat.zero_mul, ir18, fs15, fs41]
  intro X
  refine ⟨hp, fun hn => ?_, fun hy => ⟨fun q => ?_, fun q => ?_, fun hb => ?_, fun hg X1 => ?_⟩⟩
  · have e : ¬ (⟨⟨⟨W, H, R, G, B⟩, L1, L2, L3⟩, x, y, w, h⟩ : CutA).Ok := fun H => hn H.1
    refine postF.mk' (fun _ => default) [some 0, some 1, some 2, none, none, none] ?_
    simp -implicitDefEqProofs only [push_cast, reduceCtorEq, Classical.not_not, Nat.reduceAdd, Nat.reduceSub, Nat.reduceMul, Nat.reduceLeDiff, Nat.reduceLT, Nat.reduceEqDiff, Nat.reduceBEq, Nat.reduceBNe, Int.reduceNeg, Int.reduceToNat, Bool.or_false, Bool.false_or, Bool.or_true, Bool.true_or, BEq.rfl, Bool.not_eq_true, Bool.not_eq_false, decide_eq_true_eq, not_true_eq_false, not_false_eq_true, ite_true, ite_false, List.append_nil, and_assoc, Nat.mul_zero, Nat.zero_mul, fs18, cutI, e, hn, if_false, lx, im0]
  · obtain ⟨a1, a2, a3, a4, _⟩ : SidesOk W H := hy.1
    exact ⟨q, q, by omega, by omega⟩
  · obtain ⟨a1, a2, a3, a4, _⟩ : SidesOk W H := hy.1
    exact ⟨q, q, by omega, by omega⟩
  · have e : ¬ (⟨⟨⟨W, H, R, G, B⟩, L1, L2, L3⟩, x, y, w, h⟩ : CutA).Ok := fun H => by
      obtain ⟨_, a, b, c, d, e, f⟩ := H
      simp only at a b c d e f
      omega
    refine postF.mk' (fun _ => default) [some 0, some 1, some 2, none, none, none] ?_
    simp -implicitDefEqProofs only [push_cast, reduceCtorEq, Classical.not_not, Nat.reduceAdd, Nat.reduceSub, Nat.reduceMul, Nat.reduceLeDiff, Nat.reduceLT, Nat.reduceEqDiff, Nat.reduceBEq, Nat.reduceBNe, Int.reduceNeg, Int.reduceToNat, Bool.or_false, Bool.false_or, Bool.or_true, Bool.true_or, BEq.rfl, Bool.not_eq_true, Bool.not_eq_false, decide_eq_true_eq, not_true_eq_false, not_false_eq_true, ite_true, ite_false, List.append_nil, and_assoc, Nat.mul_zero, Nat.zero_mul, fs18, cutI, e, hy, if_true, if_false, lx, im0]
  have hs : SidesOk W H := hy.1
  have hin : (⟨⟨⟨W, H, R, G, B⟩, L1, L2, L3⟩, x, y, w, h⟩ : CutA).In := by unfold CutA.In; simp only; omega
  have e : (⟨⟨⟨W, H, R, G, B⟩, L1, L2, L3⟩, x, y, w, h⟩ : CutA).Ok := ⟨hy, hin⟩
  have hm := hs.bd
  obtain ⟨g1, g2, g3, g4, g5, g6⟩ : 0 ≤ x ∧ 0 ≤ y ∧ 0 ≤ w ∧ 0 ≤ h ∧ x + w ≤ W ∧ y + h ≤ H := hin
  obtain ⟨a1, a2, a3, a4, _⟩ := id hs
  have hm2 := mul_bd g3 (show w ≤ W by omega) g4 (show h ≤ H by omega)
  obtain ⟨e1, e2, _⟩ := hy.val
  simp only at e1 e2
  have hl : (R.length : Int) = W * H := hy.2.1.1
  refine ⟨⟨g3, g4, by omega, by omega, by omega⟩, by omega, by omega, ?_⟩
  refine evS_loop _ _ _ (lp18 ⟨⟨⟨W, H, R, G, B⟩, L1, L2, L3⟩, x, y, w, h⟩ (X 0 10) (X 1 11) (X1 3 20) (X1 2 16) (X1 2 17) (X1 2 18)) (0 : Nat) (Nat.zero_le _) ?_ ?_
  · refine Sub.of (mkG 33 [(0, 0), (1, 1), (2, 2), (10, 10), (11, 11), (16, 16), (17, 17), (18, 18), (20, 20)]) ?_
    simp -implicitDefEqProofs only [push_cast, reduceCtorEq, Classical.not_not, Nat.reduceAdd, Nat.reduceSub, Nat.reduceMul, Nat.reduceLeDiff, Nat.reduceLT, Nat.reduceEqDiff, Nat.reduceBEq, Nat.reduceBNe, Int.reduceNeg, Int.reduceToNat, Bool.or_false, Bool.false_or, Bool.or_true, Bool.true_or, BEq.rfl, Bool.not_eq_true, Bool.not_eq_false, decide_eq_true_eq, not_true_eq_false, not_false_eq_true, ite_true, ite_false, List.append_nil, and_assoc, Nat.mul_zero, Nat.zero_mul, lp18, I18, zs, prt_zero]
  intro (k : Nat) (hk : k ≤ (w * h).toNat)
  change evS _ _ _ _ (I18 ⟨⟨⟨W, H, R, G, B⟩, L1, L2, L3⟩, x, y, w, h⟩ (X 0 10) (X 1 11) (X1 3 20) (X1 2 16) (X1 2 17) (X1 2 18) k).1 (I18 ⟨⟨⟨W, H, R, G, B⟩, L1, L2, L3⟩, x, y, w, h⟩ (X 0 10) (X 1 11) (X1 3 20) (X1 2 16) (X1 2 17) (X1 2 18) k).2
  simp -implicitDefEqProofs only [push_cast, reduceCtorEq, Classical.not_not, Nat.reduceAdd, Nat.reduceSub, Nat.reduceMul, Nat.reduceLeDiff, Nat.reduceLT, Nat.reduceEqDiff, Nat.reduceBEq, Nat.reduceBNe, Int.reduceNeg, Int.reduceToNat, Bool.or_false, Bool.false_or, Bool.or_true, Bool.true_or, BEq.rfl, Bool.not_eq_true, Bool.not_eq_false, decide_eq_true_eq, not_true_eq_false, not_false_eq_true, ite_true, ite_false, List.append_nil, and_assoc, Nat.mul_zero, Nat.zero_mul, I18, b18_1, r18_2, fs42]
  refine ⟨fun hk1 => ?_, fun hk1 => ?_⟩
  · have hk' : k < (w * h).toNat := by omega
    obtain ⟨b1, b2, b3, b4, b5⟩ := dm_bd (k := k) (by omega) hk1 g3
    have hi := idx_bd (a := y + (k : Int) / w) (b := x + (k : Int) % w) (W := W) (H := H) (by omega) (by omega) (by omega) (by omega)
    rw [← Int.add_assoc] at hi
    have lR := prt_length hk (cutF W x y w R)
    have lG := prt_length hk (cutF W x y w G)
    have lB := prt_length hk (cutF W x y w B)
    have hmb := mul_bd (show 0 ≤ y + (k : Int) / w by omega) (show y + (k : Int) / w ≤ 200 by omega) a1 a3
    repeat (refine ⟨by omega, ?_⟩)
    refine lpK_mk (k + 1 : Nat) hk' (show (w * h).toNat - (k + 1) < (w * h).toNat - k by omega) ?_
    have qR : (prt (w * h).toNat k (cutF W x y w R)).set k (rd R ((y + (k : Int) / w) * W + x + (k : Int) % w)) = prt (w * h).toNat (k + 1) (cutF W x y w R) := prt_set hk' _
    have qG : (prt (w * h).toNat k (cutF W x y w G)).set k (rd G ((y + (k : Int) / w) * W + x + (k : Int) % w)) = prt (w * h).toNat (k + 1) (cutF W x y w G) := prt_set hk' _
    have qB : (prt (w * h).toNat k (cutF W x y w B)).set k (rd B ((y + (k : Int) / w) * W + x + (k : Int) % w)) = prt (w * h).toNat (k + 1) (cutF W x y w B) := prt_set hk' _
    refine Sub.of (mkG 33 [(0, 0), (1, 1), (2, 2), (10, 10), (11, 11), (16, 16), (17, 17), (18, 18), (20, 20)]) ?_
    simp -implicitDefEqProofs only [push_cast, reduceCtorEq, Classical.not_not, Nat.reduceAdd, Nat.reduceSub, Nat.reduceMul, Nat.reduceLeDiff, Nat.reduceLT, Nat.reduceEqDiff, Nat.reduceBEq, Nat.reduceBNe, Int.reduceNeg, Int.reduceToNat, Bool.or_false, Bool.false_or, Bool.or_true, Bool.true_or, BEq.rfl, Bool.not_eq_true, Bool.not_eq_false, decide_eq_true_eq, not_true_eq_false, not_false_eq_true, ite_true, ite_false, List.append_nil, and_assoc, Nat.mul_zero, Nat.zero_mul, lp18, I18, Int.toNat_natCast, qR, qG, qB]
  · obtain rfl : k = (w * h).toNat := by omega
    refine postF.mk' (locs [X1 2 16, X1 2 17, X1 2 18]) [some 0, some 1, some 2, some 16, some 17, some 18] ?_
    simp -implicitDefEqProofs only [push_cast, reduceCtorEq, Classical.not_not, Nat.reduceAdd, Nat.reduceSub, Nat.reduceMul, Nat.reduceLeDiff, Nat.reduceLT, Nat.reduceEqDiff, Nat.reduceBEq, Nat.reduceBNe, Int.reduceNeg, Int.reduceToNat, Bool.or_false, Bool.false_or, Bool.or_true, Bool.true_or, BEq.rfl, Bool.not_eq_true, Bool.not_eq_false, decide_eq_true_eq, not_true_eq_false, not_false_eq_true, ite_true, ite_false, List.append_nil, and_assoc, Nat.mul_zero, Nat.zero_mul, fs18, cutI, cutL, e, hy, if_true, lx, prt_all, tabl_length, Int.toNat_of_nonneg hm2.1]
def ent18 : Entry := spOf fs18 inv18
theorem e18 : EntryOk Try.prog 18 ent18 := entry_of ok18 inv18
@[push_cast] theorem ent18_app (us : List SV) (look : Look) (x : Nat → Xf.Loc) (k : Nat) : ent18 us look x k = spOf fs18 inv18 us look x k := rfl
end Go.Proofs.Ytnmbimhcfioeiaa
