import Derived.Test.YtnmbimhcfioeiaaVe
set_option linter.unusedVariables false
set_option linter.unusedSimpArgs false
/-! Turn. -/
namespace Go.Proofs.Ytnmbimhcfioeiaa
open Xf

structure Pl where
  w : Int
  h : Int
  xs : List Int
def plV (p : Pl) (L : Xf.Loc) (c : Nat) : SV := .agg [.int .i64 p.w, .int .i64 p.h, .sl c L 1 0 p.xs.length]
attribute [push_cast] plV
def pl0 : Pl := ⟨0, 0, []⟩

def fs47 : FS where
  A := WH
  args := fun a => [.int .i64 a.w, .int .i64 a.h]
  mem := fun _ => []
  pre := fun a => SidesOk a.w a.h
  res := fun a x => .agg [.int .i64 a.w, .int .i64 a.h, .sl 0 (x 0) 1 0 (a.w * a.h)]
  out := fun _ _ => []
  new := fun a x => [(x 0, .ints .i64 (zs (a.w * a.h)))]
theorem ok47 : FSOk Try.prog 47 fs47 := by
  refine ⟨⟨_, Try.func47, by kernel_rfl, by kernel_rfl⟩, fun a => ⟨by simp [fs47, push_cast, noMine, argOwn, Chunk.frArg], by simp [fs47, push_cast, outOk, Chunk.ext], fun x => .inl (by simp [fs47, push_cast, frNew, frOut, Chunk.fr])⟩, fun a hp => ?_⟩
  obtain ⟨w, h⟩ := a
  change SidesOk w h at hp
  change Tri Try.prog 47 [.int .i64 w, .int .i64 h] [] (postF fs47 ⟨w, h⟩)
  refine tri_evS (hyp (l := []) (lp := []) trivial trivial) Try.func47 comp47 (rs := [.cell 4 (some 3)]) (by rfl) Try.ntmps47 14 ?_
  simp -implicitDefEqProofs only [push_cast, reduceCtorEq, Classical.not_not, Nat.reduceAdd, Nat.reduceSub, Nat.reduceMul, Nat.reduceLeDiff, Nat.reduceLT, Nat.reduceEqDiff, Nat.reduceBEq, Nat.reduceBNe, Int.reduceNeg, Int.reduceToNat, Bool.or_false, Bool.false_or, Bool.or_true, Bool.true_or, BEq.rfl, Bool.not_eq_true, Bool.not_eq_false, decide_eq_true_eq, not_true_eq_false, not_false_eq_true, ite_true, ite_false, List.append_nil, and_assoc, Nat.mul_zero, Nat.zero_mul, ir47]
  have hm := hp.bd
  intro X X1
  refine ⟨by omega, by omega, by omega, by omega, by omega, postF.mk' (locs [X1 5 11]) [some 11] ?_⟩
  simp -implicitDefEqProofs only [push_cast, reduceCtorEq, Classical.not_not, Nat.reduceAdd, Nat.reduceSub, Nat.reduceMul, Nat.reduceLeDiff, Nat.reduceLT, Nat.reduceEqDiff, Nat.reduceBEq, Nat.reduceBNe, Int.reduceNeg, Int.reduceToNat, Bool.or_false, Bool.false_or, Bool.or_true, Bool.true_or, BEq.rfl, Bool.not_eq_true, Bool.not_eq_false, decide_eq_true_eq, not_true_eq_false, not_false_eq_true, ite_true, ite_false, List.append_nil, and_assoc, Nat.mul_zero, Nat.zero_mul, fs47, zs]
def ent47 : Entry := spOf fs47 inv41
theorem e47 : EntryOk Try.prog 47 ent47 := entry_of ok47 inv41
@[push_cast] theorem ent47_app (us : List SV) (look : Look) (x : Nat → Xf.Loc) (k : Nat) : ent47 us look x k = spOf fs47 inv41 us look x k := rfl

/-- The planes of an image. -/
def tY (i : Im) : Nat → Int := fun k => (rd i.R (k : Nat) + 2 * rd i.G (k : Nat) + rd i.B (k : Nat)) / 4
def tU (i : Im) : Nat → Int := fun k => rd i.B (k : Nat) - rd i.G (k : Nat)
def tV (i : Im) : Nat → Int := fun k => rd i.R (k : Nat) - rd i.G (k : Nat)
def turn (f : Im → Nat → Int) (i : Im) : Pl := if i.Ok then ⟨i.w, i.h, tabl i.R.length (f i)⟩ else pl0
def fs20 : FS where
  A := ImA
  args := fun a => [imV a.i a.L1 a.L2 a.L3 0]
  mem := fun a => imM a.i a.L1 a.L2 a.L3
  pre := fun a => a.i.small
  res := fun a x => .tup [plV (turn tY a.i) (lx a.i.Ok x 0) 3, plV (turn tU a.i) (lx a.i.Ok x 1) 4, plV (turn tV a.i) (lx a.i.Ok x 2) 5, .int .i64 (if a.i.Ok then 0 else 75)]
  out := fun _ _ => []
  new := fun a x => [(lx a.i.Ok x 0, .ints .i64 (turn tY a.i).xs), (lx a.i.Ok x 1, .ints .i64 (turn tU a.i).xs), (lx a.i.Ok x 2, .ints .i64 (turn tV a.i).xs)]
def I20 (i : Im) (L1 L2 L3 L0 M1 M2 M3 N1 N2 N3 : Xf.Loc) (k : Nat) : List Ent × Mem :=
  (mkS 91 [(1, .ptr 10 L0 0 0 0), (2, .ptr 11 M1 0 0 0), (3, .ptr 12 M2 0 0 0), (4, .ptr 13 M3 0 0 0), (30, .int .i64 i.R.length), (31, .int .i64 k)],
    mkM 35 [(0, .ro, L1, .ints .i64 i.R), (1, .ro, L2, .ints .i64 i.G), (2, .ro, L3, .ints .i64 i.B), (10, .mine, L0, .cells [.int .i64 i.w, .int .i64 i.h, .sl 0 L1 1 0 i.R.length, .sl 1 L2 1 0 i.G.length, .sl 2 L3 1 0 i.B.length]),
      (11, .mine, M1, .cells [.int .i64 i.w, .int .i64 i.h, .sl 18 N1 1 0 (i.w * i.h)]), (12, .mine, M2, .cells [.int .i64 i.w, .int .i64 i.h, .sl 22 N2 1 0 (i.w * i.h)]), (13, .mine, M3, .cells [.int .i64 i.w, .int .i64 i.h, .sl 26 N3 1 0 (i.w * i.h)]),
      (18, .mine, N1, .ints .i64 (prt i.R.length k (tY i))), (22, .mine, N2, .ints .i64 (prt i.R.length k (tU i))), (26, .mine, N3, .ints .i64 (prt i.R.length k (tV i)))])
def lp20 (i : Im) (L1 L2 L3 L0 M1 M2 M3 N1 N2 N3 : Xf.Loc) : LoopS where
  A := Nat
  I := I20 i L1 L2 L3 L0 M1 M2 M3 N1 N2 N3
  R := fun k => k ≤ i.R.length
  mu := fun k => i.R.length - k
theorem Im.Ok.val {i : Im} (h : i.Ok) : i.G.length = i.R.length ∧ i.B.length = i.R.length ∧ ∀ k : Nat, k < i.R.length → (0 ≤ rd i.R (k : Nat) ∧ rd i.R (k : Nat) ≤ 255) ∧ (0 ≤ rd i.G (k : Nat) ∧ rd i.G (k : Nat) ≤ 255) ∧ (0 ≤ rd i.B (k : Nat) ∧ rd i.B (k : Nat) ≤ 255) := by
  obtain ⟨_, ⟨a, x⟩, ⟨b, y⟩, ⟨c, z⟩⟩ := h
  have e1 : i.G.length = i.R.length := by omega
  have e2 : i.B.length = i.R.length := by omega
  exact ⟨e1, e2, fun k hk => ⟨allVal_rd.1 x k hk, allVal_rd.1 y k (by omega), allVal_rd.1 z k (by omega)⟩⟩
theorem ok20 : FSOk Try.prog 20 fs20 := by
  refine ⟨⟨_, Try.func20, by kernel_rfl, by kernel_rfl⟩, fun a => ⟨by simp [fs20, imM, push_cast, noMine, argOwn, Chunk.frArg], by simp [fs20, imM, push_cast, outOk, Chunk.ext], fun x => .inl (by simp [fs20, imM, push_cast, frNew, frOut, Chunk.fr])⟩, fun a hp => ?_⟩
  obtain ⟨⟨w, h, R, G, B⟩, L1, L2, L3⟩ := a
  change (⟨w, h, R, G, B⟩ : Im).small at hp
  change Tri Try.prog 20 [imV ⟨w, h, R, G, B⟩ L1 L2 L3 0] (imM ⟨w, h, R, G, B⟩ L1 L2 L3) (postF fs20 ⟨⟨w, h, R, G, B⟩, L1, L2, L3⟩)
  refine tri_evS (hyp (l := [(15, ent15), (47, ent47)]) (lp := []) ⟨e15, e47, trivial⟩ trivial) Try.func20 comp20 (rs := [.cell 2 (some 3), .cell 3 (some 3), .cell 4 (some 3), .tmp 5]) (by rfl) Try.ntmps20 32 ?_
  simp -implicitDefEqProofs only [push_cast, reduceCtorEq, Classical.not_not, Nat.reduceAdd, Nat.reduceSub, Nat.reduceMul, Nat.reduceLeDiff, Nat.reduceLT, Nat.reduceEqDiff, Nat.reduceBEq, Nat.reduceBNe, Int.reduceNeg, Int.reduceToNat, Bool.or_false, Bool.false_or, Bool.or_true, Bool.true_or, BEq.rfl, Bool.not_eq_true, Bool.not_eq_false, decide_eq_true_eq, not_true_eq_false, not_false_eq_true, ite_true, ite_false, List.append_nil, and_assoc, Nat.mul_zero, Nat.zero_mul, ir20, fs15, fs47]
  intro X
  refine ⟨hp, fun hn => ?_, fun hy X1 => ⟨hy.1, ?_⟩⟩
  · refine postF.mk' (fun _ => default) [some 0, some 1, some 2, none, none, none] ?_
    simp -implicitDefEqProofs only [push_cast, reduceCtorEq, Classical.not_not, Nat.reduceAdd, Nat.reduceSub, Nat.reduceMul, Nat.reduceLeDiff, Nat.reduceLT, Nat.reduceEqDiff, Nat.reduceBEq, Nat.reduceBNe, Int.reduceNeg, Int.reduceToNat, Bool.or_false, Bool.false_or, Bool.or_true, Bool.true_or, BEq.rfl, Bool.not_eq_true, Bool.not_eq_false, decide_eq_true_eq, not_true_eq_false, not_false_eq_true, ite_true, ite_false, List.append_nil, and_assoc, Nat.mul_zero, Nat.zero_mul, fs20, turn, hn, if_false, lx, pl0]
  have hs : SidesOk w h := hy.1
  have hm := hs.bd
  have hl : (R.length : Int) = w * h := hy.2.1.1
  obtain ⟨e1, e2, hv⟩ := hy.val
  simp only at e1 e2 hv
  refine evS_loop _ _ _ (lp20 ⟨w, h, R, G, B⟩ L1 L2 L3 (X 0 10) (X 1 11) (X 2 12) (X 3 13) (X1 4 18) (X1 9 22) (X1 14 26)) (0 : Nat) (Nat.zero_le _) ?_ ?_
  · refine Sub.of (mkG 35 [(0, 0), (1, 1), (2, 2), (10, 10), (11, 11), (12, 12), (13, 13), (18, 18), (22, 22), (26, 26)]) ?_
    have ez : (w * h).toNat = R.length := by omega
    simp -implicitDefEqProofs only [push_cast, reduceCtorEq, Classical.not_not, Nat.reduceAdd, Nat.reduceSub, Nat.reduceMul, Nat.reduceLeDiff, Nat.reduceLT, Nat.reduceEqDiff, Nat.reduceBEq, Nat.reduceBNe, Int.reduceNeg, Int.reduceToNat, Bool.or_false, Bool.false_or, Bool.or_true, Bool.true_or, BEq.rfl, Bool.not_eq_true, Bool.not_eq_false, decide_eq_true_eq, not_true_eq_false, not_false_eq_true, ite_true, ite_false, List.append_nil, and_assoc, Nat.mul_zero, Nat.zero_mul, lp20, I20, zs, prt_zero, ez]
  intro (k : Nat) (hk : k ≤ R.length)
  change evS _ _ _ _ (I20 ⟨w, h, R, G, B⟩ L1 L2 L3 (X 0 10) (X 1 11) (X 2 12) (X 3 13) (X1 4 18) (X1 9 22) (X1 14 26) k).1 (I20 ⟨w, h, R, G, B⟩ L1 L2 L3 (X 0 10) (X 1 11) (X 2 12) (X 3 13) (X1 4 18) (X1 9 22) (X1 14 26) k).2
  simp -implicitDefEqProofs only [push_cast, reduceCtorEq, Classical.not_not, Nat.reduceAdd, Nat.reduceSub, Nat.reduceMul, Nat.reduceLeDiff, Nat.reduceLT, Nat.reduceEqDiff, Nat.reduceBEq, Nat.reduceBNe, Int.reduceNeg, Int.reduceToNat, Bool.or_false, Bool.false_or, Bool.or_true, Bool.true_or, BEq.rfl, Bool.not_eq_true, Bool.not_eq_false, decide_eq_true_eq, not_true_eq_false, not_false_eq_true, ite_true, ite_false, List.append_nil, and_assoc, Nat.mul_zero, Nat.zero_mul, I20, b20_1, r20_2]
  refine ⟨fun hk1 => ?_, fun hk1 => ?_⟩
  · have hk' : k < R.length := by omega
    obtain ⟨v1, v2, v3⟩ := hv k hk'
    have lY := prt_length hk (tY (⟨w, h, R, G, B⟩ : Im))
    have lU := prt_length hk (tU (⟨w, h, R, G, B⟩ : Im))
    have lV := prt_length hk (tV (⟨w, h, R, G, B⟩ : Im))
    repeat (refine ⟨by omega, ?_⟩)
    refine lpK_mk (k + 1 : Nat) hk' (show R.length - (k + 1) < R.length - k by omega) ?_
    have q1 : (prt R.length k (tY (⟨w, h, R, G, B⟩ : Im))).set k ((rd R k + 2 * rd G k + rd B k) / 4) = prt R.length (k + 1) (tY (⟨w, h, R, G, B⟩ : Im)) := prt_set hk' _
    have q2 : (prt R.length k (tU (⟨w, h, R, G, B⟩ : Im))).set k (rd B k - rd G k) = prt R.length (k + 1) (tU (⟨w, h, R, G, B⟩ : Im)) := prt_set hk' _
    have q3 : (prt R.length k (tV (⟨w, h, R, G, B⟩ : Im))).set k (rd R k - rd G k) = prt R.length (k + 1) (tV (⟨w, h, R, G, B⟩ : Im)) := prt_set hk' _
    refine Sub.of (mkG 35 [(0, 0), (1, 1), (2, 2), (10, 10), (11, 11), (12, 12), (13, 13), (18, 18), (22, 22), (26, 26)]) ?_
    simp -implicitDefEqProofs only [push_cast, reduceCtorEq, Classical.not_not, Nat.reduceAdd, Nat.reduceSub, Nat.reduceMul, Nat.reduceLeDiff, Nat.reduceLT, Nat.reduceEqDiff, Nat.reduceBEq, Nat.reduceBNe, Int.reduceNeg, Int.reduceToNat, Bool.or_false, Bool.false_or, Bool.or_true, Bool.true_or, BEq.rfl, Bool.not_eq_true, Bool.not_eq_false, decide_eq_true_eq, not_true_eq_false, not_false_eq_true, ite_true, ite_false, List.append_nil, and_assoc, Nat.mul_zero, Nat.zero_mul, lp20, I20, Int.toNat_natCast, q1, q2, q3]
  · obtain rfl : k = R.length := by omega
    refine postF.mk' (locs [X1 4 18, X1 9 22, X1 14 26]) [some 0, some 1, some 2, some 18, some 22, some 26] ?_
    simp -implicitDefEqProofs only [push_cast, reduceCtorEq, Classical.not_not, Nat.reduceAdd, Nat.reduceSub, Nat.reduceMul, Nat.reduceLeDiff, Nat.reduceLT, Nat.reduceEqDiff, Nat.reduceBEq, Nat.reduceBNe, Int.reduceNeg, Int.reduceToNat, Bool.or_false, Bool.false_or, Bool.or_true, Bool.true_or, BEq.rfl, Bool.not_eq_true, Bool.not_eq_false, decide_eq_true_eq, not_true_eq_false, not_false_eq_true, ite_true, ite_false, List.append_nil, and_assoc, Nat.mul_zero, Nat.zero_mul, fs20, turn, hy, if_true, lx, prt_all, tabl_length, hl]
def ent20 : Entry := spOf fs20 inv15
theorem e20 : EntryOk Try.prog 20 ent20 := entry_of ok20 inv15
@[push_cast] theorem ent20_app (us : List SV) (look : Look) (x : Nat → Xf.Loc) (k : Nat) : ent20 us look x k = spOf fs20 inv15 us look x k := rfl
end Go.Proofs.Ytnmbimhcfioeiaa
