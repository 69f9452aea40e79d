import Derived.Test.YtefggfjblhniaaaPBack0
set_option linter.unusedVariables false
set_option linter.unusedSimpArgs false
set_option maxRecDepth 1000
namespace Go.Proofs.Ytefggfjblhniaaa
open Xf
def fs28 : FS where
  A := AskA
  args := fun a => [plV a.a.p a.a.L 0, .int .i64 a.kind, .int .i64 a.n]
  mem := fun a => [some (.ro, a.a.L, .ints .i64 a.a.p.xs)]
  pre := fun a => a.a.p.xs.length ≤ 140737488355328
  res := fun a x => .tup [plV (fwP a.a.p a.kind a.n) (lx (fwOk a.a.p a.kind a.n) x 0) 1, .int .i64 (fwE a.a.p a.kind a.n)]
  out := fun _ _ => []
  new := fun a x => [(lx (fwOk a.a.p a.kind a.n) x 0, .ints .i64 (fwP a.a.p a.kind a.n).xs)]
theorem ok28 : FSOk Try.prog 28 fs28 := by
  refine ⟨⟨_, Try.func28, by kernel_rfl, by kernel_rfl⟩, fun a => ⟨by simp [fs28, push_cast, noMine, argOwn, Chunk.frArg], by simp [fs28, push_cast, outOk, Chunk.ext], fun x => .inl (by simp [fs28, push_cast, frNew, frOut, Chunk.fr])⟩, fun a hp => ?_⟩
  obtain ⟨⟨⟨w, h, xs⟩, L⟩, kind, n⟩ := a
  change xs.length ≤ 140737488355328 at hp
  change Tri Try.prog 28 [plV ⟨w, h, xs⟩ L 0, .int .i64 kind, .int .i64 n] [some (.ro, L, .ints .i64 xs)] (postF fs28 ⟨⟨⟨w, h, xs⟩, L⟩, kind, n⟩)
  refine tri_evS (hyp (l := [(51, ent51), (37, ent37), (52, ent52), (47, ent47), (53, ent53f), (54, ent54f)]) (lp := [])
    ⟨e51, e37, e52, e47, e53f, e54f, trivial⟩ trivial) Try.func28 comp28 (rs := [.cell 6 (some 3), .tmp 7]) (by rfl) Try.ntmps28 37 ?_
  simp -implicitDefEqProofs only [push_cast, false_implies, reduceCtorEq, Classical.not_not, Nat.reduceAdd, Nat.reduceSub, Nat.reduceMul, Nat.reduceLeDiff, Nat.reduceLT, Nat.reduceEqDiff, Nat.reduceBEq, Nat.reduceBNe, Int.reduceNeg, Int.reduceToNat, Bool.or_false, Bool.false_or, Bool.or_true, Bool.true_or, BEq.rfl, Bool.not_eq_true, Bool.not_eq_false, decide_eq_true_eq, not_true_eq_false, not_false_eq_true, ite_true, ite_false, List.append_nil, and_assoc, Nat.mul_zero, Nat.zero_mul, ir28, fs51, fs37]
  by_cases hO : (⟨w, h, xs⟩ : Pl).Ok ∧ stOk kind n
  · obtain ⟨hO, hS⟩ := hO
    have hE : askE ⟨w, h, xs⟩ kind n = 0 := by unfold askE; rw [if_pos hO, if_pos hS]
    simp -implicitDefEqProofs only [push_cast, false_implies, reduceCtorEq, Classical.not_not, Nat.reduceAdd, Nat.reduceSub, Nat.reduceMul, Nat.reduceLeDiff, Nat.reduceLT, Nat.reduceEqDiff, Nat.reduceBEq, Nat.reduceBNe, Int.reduceNeg, Int.reduceToNat, Bool.or_false, Bool.false_or, Bool.or_true, Bool.true_or, BEq.rfl, Bool.not_eq_true, Bool.not_eq_false, decide_eq_true_eq, not_true_eq_false, not_false_eq_true, ite_true, ite_false, List.append_nil, and_assoc, Nat.mul_zero, Nat.zero_mul, hE, hp]
    refine fun X => ⟨by omega, by omega, fun hb => ?_, fun hg X1 => ?_⟩
    · have e : ¬ fwOk ⟨w, h, xs⟩ kind n := fun H => hb H.2.2
      refine postF.mk' (fun _ => default) [some 0, none] ?_
      simp -implicitDefEqProofs only [push_cast, false_implies, reduceCtorEq, Classical.not_not, Nat.reduceAdd, Nat.reduceSub, Nat.reduceMul, Nat.reduceLeDiff, Nat.reduceLT, Nat.reduceEqDiff, Nat.reduceBEq, Nat.reduceBNe, Int.reduceNeg, Int.reduceToNat, Bool.or_false, Bool.false_or, Bool.or_true, Bool.true_or, BEq.rfl, Bool.not_eq_true, Bool.not_eq_false, decide_eq_true_eq, not_true_eq_false, not_false_eq_true, ite_true, ite_false, List.append_nil, and_assoc, Nat.mul_zero, Nat.zero_mul, fs28, fwP, fwE, e, hO, if_false, if_true, lx, pl0]
    have e : fwOk ⟨w, h, xs⟩ kind n := ⟨hO, hS, hg⟩
    obtain ⟨hs, hl, ha⟩ : SidesOk w h ∧ (xs.length : Int) = w * h ∧ AllIn (-16777216) 16777216 xs := id hO
    obtain ⟨W, H, rfl, rfl, hW, hH, hl2, hl3⟩ := Pl.nat hs hl
    obtain ⟨hk, hn0, hn6⟩ := id hS
    obtain ⟨n, rfl⟩ : ∃ m : Nat, n = (m : Int) := ⟨n.toNat, by omega⟩
    simp -implicitDefEqProofs only [push_cast, false_implies, reduceCtorEq, Classical.not_not, Nat.reduceAdd, Nat.reduceSub, Nat.reduceMul, Nat.reduceLeDiff, Nat.reduceLT, Nat.reduceEqDiff, Nat.reduceBEq, Nat.reduceBNe, Int.reduceNeg, Int.reduceToNat, Bool.or_false, Bool.false_or, Bool.or_true, Bool.true_or, BEq.rfl, Bool.not_eq_true, Bool.not_eq_false, decide_eq_true_eq, not_true_eq_false, not_false_eq_true, ite_true, ite_false, List.append_nil, and_assoc, Nat.mul_zero, Nat.zero_mul, fs52, fs47, Int.toNat_natCast]
    refine ⟨by omega, fun X2 => ⟨by omega, by omega, by omega, ?_⟩⟩
    refine evS_loopU (A := Nat) kp28_1 kl28_1 (fun i => [(40, .int .i64 i)]) (fun i => [(20, .mine, X1 4 20, .ints .i64 (fwd lineL kind W H xs i))]) (fun i => i ≤ n) (fun i => n - i) 0 (by omega) (Sub.pt ?_) ?_
    · simp -implicitDefEqProofs only [push_cast, false_implies, reduceCtorEq, Classical.not_not, Nat.reduceAdd, Nat.reduceSub, Nat.reduceMul, Nat.reduceLeDiff, Nat.reduceLT, Nat.reduceEqDiff, Nat.reduceBEq, Nat.reduceBNe, Int.reduceNeg, Int.reduceToNat, Bool.or_false, Bool.false_or, Bool.or_true, Bool.true_or, BEq.rfl, Bool.not_eq_true, Bool.not_eq_false, decide_eq_true_eq, not_true_eq_false, not_false_eq_true, ite_true, ite_false, List.append_nil, and_assoc, Nat.mul_zero, Nat.zero_mul, fwd]
    intro i (hi : i ≤ n) K hK
    have hL := fwd_length lineL kind W H xs i
    have b1 := hlf_le W i
    have b2 := hlf_le H i
    by_cases hi' : i < n
    · obtain ⟨f1, f2⟩ := fwd_bd6 (kind := kind) hl2 hg (i := i) (by omega)
      have f2 := f2 (hlf W i) (hlf H i) b1 b2
      have hR := rwL_length lineL kind W (hlf W i) (fwd lineL kind W H xs i) (hlf H i)
      have q : clL lineL kind W (hlf H i) (rwL lineL kind W (hlf W i) (fwd lineL kind W H xs i) (hlf H i)) (hlf W i) = fwd lineL kind W H xs (i + 1) := rfl
      have hm : hlf H i * W ≤ xs.length := by rw [hl2]; exact Nat.mul_le_mul_right _ b2
      have r1 := recAt_tabR hi' (sdR W H) []
      have r2 : esz 2 n = 2 := esz_pos (by omega)
      have e0 : rd [(hlf W i : Int), (hlf H i : Int)] 0 = hlf W i := rfl
      have e1 : rd [(hlf W i : Int), (hlf H i : Int)] 1 = hlf H i := rfl
      simp -implicitDefEqProofs only [push_cast, false_implies, reduceCtorEq, Classical.not_not, Nat.reduceAdd, Nat.reduceSub, Nat.reduceMul, Nat.reduceLeDiff, Nat.reduceLT, Nat.reduceEqDiff, Nat.reduceBEq, Nat.reduceBNe, Int.reduceNeg, Int.reduceToNat, Bool.or_false, Bool.false_or, Bool.or_true, Bool.true_or, BEq.rfl, Bool.not_eq_true, Bool.not_eq_false, decide_eq_true_eq, not_true_eq_false, not_false_eq_true, ite_true, ite_false, List.append_nil, and_assoc, Nat.mul_zero, Nat.zero_mul, b28_1, r28_2, e0, e1, fs53f, fs54f, r1, r2, sdR, tabR_length, hL, hR, hi', hk, f1, f2, q, Int.toNat_natCast]
      refine ⟨fun _ X3 => ?_, fun hl => by omega⟩
      repeat (refine And.intro (by first | omega | trivial | (intros; omega)) ?_)
      refine hK (i + 1) (by omega) (by omega) _ _ (Sub.pt ?_)
      simp -implicitDefEqProofs only [push_cast, false_implies, reduceCtorEq, Classical.not_not, Nat.reduceAdd, Nat.reduceSub, Nat.reduceMul, Nat.reduceLeDiff, Nat.reduceLT, Nat.reduceEqDiff, Nat.reduceBEq, Nat.reduceBNe, Int.reduceNeg, Int.reduceToNat, Bool.or_false, Bool.false_or, Bool.or_true, Bool.true_or, BEq.rfl, Bool.not_eq_true, Bool.not_eq_false, decide_eq_true_eq, not_true_eq_false, not_false_eq_true, ite_true, ite_false, List.append_nil, and_assoc, Nat.mul_zero, Nat.zero_mul, r2]
    · obtain rfl : i = n := by omega
      clear hK
      simp -implicitDefEqProofs only [push_cast, false_implies, reduceCtorEq, Classical.not_not, Nat.reduceAdd, Nat.reduceSub, Nat.reduceMul, Nat.reduceLeDiff, Nat.reduceLT, Nat.reduceEqDiff, Nat.reduceBEq, Nat.reduceBNe, Int.reduceNeg, Int.reduceToNat, Bool.or_false, Bool.false_or, Bool.or_true, Bool.true_or, BEq.rfl, Bool.not_eq_true, Bool.not_eq_false, decide_eq_true_eq, not_true_eq_false, not_false_eq_true, ite_true, ite_false, List.append_nil, and_assoc, Nat.mul_zero, Nat.zero_mul, b28_1, r28_2, hL, Int.lt_irrefl, true_implies, true_and]
      refine postF.mk' (locs [X1 4 20]) [some 0, some 20] ?_
      simp -implicitDefEqProofs only [push_cast, false_implies, reduceCtorEq, Classical.not_not, Nat.reduceAdd, Nat.reduceSub, Nat.reduceMul, Nat.reduceLeDiff, Nat.reduceLT, Nat.reduceEqDiff, Nat.reduceBEq, Nat.reduceBNe, Int.reduceNeg, Int.reduceToNat, Bool.or_false, Bool.false_or, Bool.or_true, Bool.true_or, BEq.rfl, Bool.not_eq_true, Bool.not_eq_false, decide_eq_true_eq, not_true_eq_false, not_false_eq_true, ite_true, ite_false, List.append_nil, and_assoc, Nat.mul_zero, Nat.zero_mul, fs28, fwP, fwE, e, hL, Int.toNat_natCast, if_true, lx]
  · have e : ¬ fwOk ⟨w, h, xs⟩ kind n := fun H => hO ⟨H.1, H.2.1⟩
    obtain ⟨c, hcc, hc0, hc1⟩ : ∃ c : Int, askE ⟨w, h, xs⟩ kind n = c ∧ ¬ c = 0 ∧ (if (⟨w, h, xs⟩ : Pl).Ok then (2 : Int) else 70) = c := by
      refine ⟨_, rfl, ?_, ?_⟩
      · unfold askE; split
        · rename_i hq; rw [if_neg (fun q => hO ⟨hq, q⟩)]; decide
        · decide
      · unfold askE; split
        · rename_i hq; rw [if_neg (fun q => hO ⟨hq, q⟩)]
        · rfl
    simp -implicitDefEqProofs only [push_cast, false_implies, reduceCtorEq, Classical.not_not, Nat.reduceAdd, Nat.reduceSub, Nat.reduceMul, Nat.reduceLeDiff, Nat.reduceLT, Nat.reduceEqDiff, Nat.reduceBEq, Nat.reduceBNe, Int.reduceNeg, Int.reduceToNat, Bool.or_false, Bool.false_or, Bool.or_true, Bool.true_or, BEq.rfl, Bool.not_eq_true, Bool.not_eq_false, decide_eq_true_eq, not_true_eq_false, not_false_eq_true, ite_true, ite_false, List.append_nil, and_assoc, Nat.mul_zero, Nat.zero_mul, hcc, hp, hc0]
    refine fun X => postF.mk' (fun _ => default) [some 0, none] ?_
    simp -implicitDefEqProofs only [push_cast, false_implies, reduceCtorEq, Classical.not_not, Nat.reduceAdd, Nat.reduceSub, Nat.reduceMul, Nat.reduceLeDiff, Nat.reduceLT, Nat.reduceEqDiff, Nat.reduceBEq, Nat.reduceBNe, Int.reduceNeg, Int.reduceToNat, Bool.or_false, Bool.false_or, Bool.or_true, Bool.true_or, BEq.rfl, Bool.not_eq_true, Bool.not_eq_false, decide_eq_true_eq, not_true_eq_false, not_false_eq_true, ite_true, ite_false, List.append_nil, and_assoc, Nat.mul_zero, Nat.zero_mul, fs28, fwP, fwE, e, hc1, if_false, lx, pl0]
def ent28 : Entry := spOf fs28 inv51
theorem e28 : EntryOk Try.prog 28 ent28 := entry_of ok28 inv51
@[push_cast] theorem ent28_app (us : List SV) (look : Look) (x : Nat → Xf.Loc) (k : Nat) : ent28 us look x k = spOf fs28 inv51 us look x k := rfl
structure TurnA where
  a : LineA
  b : Bool
structure RrA where
  L : Xf.Loc
  W : Nat
  H : Int
  ws : List Int
  w : Nat
  h : Nat
  kind : Int
  b : Bool
def ir57 : IR :=
  .seq (.reg false [⟨some 1, none, ⟨[], []⟩, .box 10 (.t 0)⟩,
    ⟨some 2, none, ⟨[], []⟩, .mov (.k (.val .nilFunc))⟩] [0, 2] []) (.seq (.reg false [⟨some 3, none, ⟨[], []⟩, .mkf 70 [.t 1]⟩,
    ⟨some 2, none, ⟨[], []⟩, .mov (.t 3)⟩] [1, 3] []) (.ret))
set_option maxRecDepth 4000 in
theorem comp57 : (Try.f57.body.bind fun c => compC tab isP chkAll ir57 c) = some ir57 := by kernel_rfl
def b70_1 : IRG :=
  .seq (.seq (.reg [⟨some 7, none, ⟨[], []⟩, .mov (.t 3)⟩,
    ⟨some 8, none, ⟨[], []⟩, .bin 0 .geq (.t 7) (.k (.int .i64 0))⟩] [7]) (.cond (.t 8) (.skip) (.exit 0))) (.seq (.block 1 (.seq (.yl [⟨some 11, none, ⟨[], []⟩, .mov (.t 0)⟩,
    ⟨some 12, none, ⟨[], []⟩, .mov (.t 3)⟩,
    ⟨some 13, none, ⟨[], []⟩, .ld false none 0 0 (.t 1)⟩,
    ⟨some 14, none, ⟨[], []⟩, .mov (.t 3)⟩,
    ⟨some 15, none, ⟨[], []⟩, .idxS (.t 13) (.t 14) 2⟩,
    ⟨some 16, none, ⟨[], []⟩, .ld true (some 2) 0 0 (.t 15)⟩] (some 17) (.t 11) [.t 12, .t 16] [⟨some 18, none, ⟨[], []⟩, .not (.t 17)⟩] [8, 11, 12, 13, 14, 15, 16, 17]) (.cond (.t 18) (.ret) (.skip)))) (.reg [⟨some 9, none, ⟨[], []⟩, .mov (.t 3)⟩,
    ⟨some 10, none, ⟨[], []⟩, .bin 0 .sub (.t 9) (.k (.int .i64 1))⟩,
    ⟨some 3, none, ⟨[], []⟩, .mov (.t 10)⟩] [9, 10, 18]))
def ir70 : IRG :=
  .seq (.reg [⟨some 4, none, ⟨[], []⟩, .ld false none 0 0 (.t 1)⟩,
    ⟨some 5, none, ⟨[], []⟩, .len (.t 4)⟩,
    ⟨some 6, none, ⟨[], []⟩, .bin 0 .sub (.t 5) (.k (.int .i64 1))⟩,
    ⟨some 3, none, ⟨[], []⟩, .mov (.t 6)⟩] [4, 5, 6]) (.block 0 (.loop b70_1))
def kp70_1 : List Nat := [0, 1, 3]
attribute [push_cast] kp70_1
set_option maxRecDepth 4000 in
theorem comp70 : (Try.f70.body.bind fun c => compGd tab isP ir70 c) = some ir70 := by kernel_rfl
structure BwA where
  L : Xf.Loc
  s : Nat
  l : List (List RC)
def fs57 : FS where
  A := BwA
  args := fun a => [.sl 0 a.L a.s 0 a.l.length]
  mem := fun a => [some (.ro, a.L, .recs 2 false [] a.l)]
  pre := fun a => True
  res := fun a x => .fn 70 [.ptr 1 (x 0) 0 0 0]
  out := fun _ _ => []
  new := fun a x => [(x 0, .cells [.sl 0 a.L a.s 0 a.l.length])]
def inv57 : List SV → Look → Option (BwA × List Nat)
  | [.sl c _ s 0 _], look => match rowR (look c) with
    | some (L, 2, _, l) => some (⟨L, s, l⟩, [c])
    | _ => none
  | _, _ => none
attribute [push_cast] inv57
theorem ok57 : FSOk Try.prog 57 fs57 := by
  refine ⟨⟨_, Try.func57, by kernel_rfl, by kernel_rfl⟩, fun a => ⟨by simp [fs57, push_cast, noMine, argOwn, Chunk.frArg], by simp [fs57, push_cast, outOk, Chunk.ext], fun x => .inl (by simp [fs57, push_cast, frNew, frOut, Chunk.fr])⟩, fun a hp => ?_⟩
  obtain ⟨L, s, l⟩ := a
  change Tri Try.prog 57 [.sl 0 L s 0 l.length] [some (.ro, L, .recs 2 false [] l)] (postF fs57 ⟨L, s, l⟩)
  refine tri_evS (hyp (l := []) (lp := []) trivial trivial) Try.func57 comp57 (rs := [.tmp 2]) (by rfl) Try.ntmps57 11 ?_
  simp -implicitDefEqProofs only [push_cast, false_implies, reduceCtorEq, Classical.not_not, Nat.reduceAdd, Nat.reduceSub, Nat.reduceMul, Nat.reduceLeDiff, Nat.reduceLT, Nat.reduceEqDiff, Nat.reduceBEq, Nat.reduceBNe, Int.reduceNeg, Int.reduceToNat, Bool.or_false, Bool.false_or, Bool.or_true, Bool.true_or, BEq.rfl, Bool.not_eq_true, Bool.not_eq_false, decide_eq_true_eq, not_true_eq_false, not_false_eq_true, ite_true, ite_false, List.append_nil, and_assoc, Nat.mul_zero, Nat.zero_mul, ir57]
  intro X
  refine postF.mk' (fun _ => X 0 10) [some 0, some 10] ?_
  simp -implicitDefEqProofs only [push_cast, false_implies, reduceCtorEq, Classical.not_not, Nat.reduceAdd, Nat.reduceSub, Nat.reduceMul, Nat.reduceLeDiff, Nat.reduceLT, Nat.reduceEqDiff, Nat.reduceBEq, Nat.reduceBNe, Int.reduceNeg, Int.reduceToNat, Bool.or_false, Bool.false_or, Bool.or_true, Bool.true_or, BEq.rfl, Bool.not_eq_true, Bool.not_eq_false, decide_eq_true_eq, not_true_eq_false, not_false_eq_true, ite_true, ite_false, List.append_nil, and_assoc, Nat.mul_zero, Nat.zero_mul, fs57]
def ent57 : Entry := spOf fs57 inv57
theorem e57 : EntryOk Try.prog 57 ent57 := entry_of ok57 inv57
@[push_cast] theorem ent57_app (us : List SV) (look : Look) (x : Nat → Xf.Loc) (k : Nat) : ent57 us look x k = spOf fs57 inv57 us look x k := rfl
structure BwI where
  F : Xf.Loc
  L : Xf.Loc
  s : Nat
  w : Nat
  h : Nat
  n : Nat
/-- What is yielded in the k-th round. -/
def bwX (w h n k : Nat) : List SV := [.int .i64 ((n - 1 - k : Nat) : Int), .agg [.int .i64 (hlf w (n - 1 - k)), .int .i64 (hlf h (n - 1 - k))]]
def its70 : ITS where
  A := BwI
  cs := fun a => [.ptr 0 a.F 0 0 0]
  mem := fun a => [some (.ro, a.F, .cells [.sl 1 a.L a.s 0 a.n]), some (.ro, a.L, .recs 2 false [] (tabR a.n (sdR a.w a.h)))]
  n := fun a => a.n
  xs := fun a => bwX a.w a.h a.n
  pre := fun a => a.n ≤ 7 ∧ (0 < a.n → a.s = 2)
theorem it70 : ItOk Try.prog 70 its70 := by
  refine ⟨⟨_, Try.func70, by kernel_rfl, by kernel_rfl⟩, fun a hp => ?_⟩
  obtain ⟨F, L, s, w, h, n⟩ := a
  obtain ⟨h1, h2⟩ : n ≤ 7 ∧ (0 < n → s = 2) := hp
  change IterOk Try.prog 70 [.ptr 0 F 0 0 0] [some (.ro, F, .cells [.sl 1 L s 0 n]), some (.ro, L, .recs 2 false [] (tabR n (sdR w h)))] n (bwX w h n)
  refine iter_of (hyp (l := []) (lp := []) trivial trivial) Try.func70 comp70 (by rfl) Try.ntmps70 fun l => ?_
  simp -implicitDefEqProofs only [push_cast, false_implies, reduceCtorEq, Classical.not_not, Nat.reduceAdd, Nat.reduceSub, Nat.reduceMul, Nat.reduceLeDiff, Nat.reduceLT, Nat.reduceEqDiff, Nat.reduceBEq, Nat.reduceBNe, Int.reduceNeg, Int.reduceToNat, Bool.or_false, Bool.false_or, Bool.or_true, Bool.true_or, BEq.rfl, Bool.not_eq_true, Bool.not_eq_false, decide_eq_true_eq, not_true_eq_false, not_false_eq_true, ite_true, ite_false, List.append_nil, and_assoc, Nat.mul_zero, Nat.zero_mul, ir70]
  repeat (refine And.intro (by first | omega | trivial | (intros; omega)) ?_)
  refine evY_loopU (A := Nat) _ _ _ _ _ _ _ kp70_1 (fun k => k) (fun k => [(3, .int .i64 ((n : Int) - 1 - k))]) (fun k => k ≤ n) (fun k => n - k) 0 (Nat.zero_le _) rfl ?_ ?_
  · have e0 : (n : Int) - 1 - 0 = n - 1 := by omega
    simp -implicitDefEqProofs only [push_cast, false_implies, reduceCtorEq, Classical.not_not, Nat.reduceAdd, Nat.reduceSub, Nat.reduceMul, Nat.reduceLeDiff, Nat.reduceLT, Nat.reduceEqDiff, Nat.reduceBEq, Nat.reduceBNe, Int.reduceNeg, Int.reduceToNat, Bool.or_false, Bool.false_or, Bool.or_true, Bool.true_or, BEq.rfl, Bool.not_eq_true, Bool.not_eq_false, decide_eq_true_eq, not_true_eq_false, not_false_eq_true, ite_true, ite_false, List.append_nil, and_assoc, Nat.mul_zero, Nat.zero_mul, e0]
  intro k (hk : k ≤ n) K hK
  by_cases hk' : k < n
  · obtain ⟨i, hi⟩ : ∃ i : Nat, i = n - 1 - k := ⟨_, rfl⟩
    have e1 : (n : Int) - 1 - k = (i : Int) := by omega
    obtain rfl := h2 (by omega)
    have r1 := recAt_tabR (n := n) (i := i) (by omega) (sdR w h) []
    simp only [e1]
    simp -implicitDefEqProofs only [push_cast, false_implies, reduceCtorEq, Classical.not_not, Nat.reduceAdd, Nat.reduceSub, Nat.reduceMul, Nat.reduceLeDiff, Nat.reduceLT, Nat.reduceEqDiff, Nat.reduceBEq, Nat.reduceBNe, Int.reduceNeg, Int.reduceToNat, Bool.or_false, Bool.false_or, Bool.or_true, Bool.true_or, BEq.rfl, Bool.not_eq_true, Bool.not_eq_false, decide_eq_true_eq, not_true_eq_false, not_false_eq_true, ite_true, ite_false, List.append_nil, and_assoc, Nat.mul_zero, Nat.zero_mul, b70_1, r1, sdR, bwX, tabR_length, ← hi, Option.some.injEq, exists_eq_left', hk']
    refine ⟨fun _ => ?_, fun h => by omega⟩
    repeat (refine And.intro (by first | omega | trivial | (intros; omega)) ?_)
    refine hK (k + 1) (by omega) (by omega) _ _ rfl ?_
    have e2 : (n : Int) - 1 - ((k + 1 : Nat) : Int) = i - 1 := by omega
    simp only [e2]
    simp -implicitDefEqProofs only [push_cast, false_implies, reduceCtorEq, Classical.not_not, Nat.reduceAdd, Nat.reduceSub, Nat.reduceMul, Nat.reduceLeDiff, Nat.reduceLT, Nat.reduceEqDiff, Nat.reduceBEq, Nat.reduceBNe, Int.reduceNeg, Int.reduceToNat, Bool.or_false, Bool.false_or, Bool.or_true, Bool.true_or, BEq.rfl, Bool.not_eq_true, Bool.not_eq_false, decide_eq_true_eq, not_true_eq_false, not_false_eq_true, ite_true, ite_false, List.append_nil, and_assoc, Nat.mul_zero, Nat.zero_mul]
  · obtain rfl : k = n := by omega
    have e1 : (k : Int) - 1 - k = -1 := by omega
    simp only [e1]
    simp -implicitDefEqProofs only [push_cast, false_implies, reduceCtorEq, Classical.not_not, Nat.reduceAdd, Nat.reduceSub, Nat.reduceMul, Nat.reduceLeDiff, Nat.reduceLT, Nat.reduceEqDiff, Nat.reduceBEq, Nat.reduceBNe, Int.reduceNeg, Int.reduceToNat, Bool.or_false, Bool.false_or, Bool.or_true, Bool.true_or, BEq.rfl, Bool.not_eq_true, Bool.not_eq_false, decide_eq_true_eq, not_true_eq_false, not_false_eq_true, ite_true, ite_false, List.append_nil, and_assoc, Nat.mul_zero, Nat.zero_mul, b70_1]
    intro h; omega
def b31_1 : IR :=
  .block 1 (.seq (.reg false [⟨some 37, none, ⟨[], []⟩, .ld false none 0 0 (.t 9)⟩,
    ⟨some 38, none, ⟨[], []⟩, .idxP (.t 11) (.k (.int .i64 0)) 2 1⟩,
    ⟨some 39, none, ⟨[], []⟩, .ld true none 0 0 (.t 38)⟩,
    ⟨some 40, none, ⟨[], []⟩, .idxP (.t 11) (.k (.int .i64 1)) 2 1⟩,
    ⟨some 41, none, ⟨[], []⟩, .ld true none 0 0 (.t 40)⟩,
    ⟨some 42, none, ⟨[], []⟩, .call none 31 54 [.t 37, .t 39, .t 41, .k (.fn 39 [])]⟩] [37, 38, 39, 40, 41, 42] []) (.reg false [⟨some 43, none, ⟨[], []⟩, .ld false none 0 0 (.t 9)⟩,
    ⟨some 44, none, ⟨[], []⟩, .idxP (.t 11) (.k (.int .i64 0)) 2 1⟩,
    ⟨some 45, none, ⟨[], []⟩, .ld true none 0 0 (.t 44)⟩,
    ⟨some 46, none, ⟨[], []⟩, .idxP (.t 11) (.k (.int .i64 1)) 2 1⟩,
    ⟨some 47, none, ⟨[], []⟩, .ld true none 0 0 (.t 46)⟩,
    ⟨some 48, none, ⟨[], []⟩, .call none 35 53 [.t 43, .t 45, .t 47, .k (.fn 39 [])]⟩] [9, 11, 43, 44, 45, 46, 47, 48] []))
def r31_2 : IR :=
  .seq (.seq (.reg false [⟨some 49, none, ⟨[], []⟩, .ld false none 0 0 (.t 9)⟩,
    ⟨some 50, none, ⟨[], []⟩, .nilc (.t 49)⟩,
    ⟨some 51, none, ⟨[], []⟩, .fld (.t 50) 1⟩,
    ⟨some 52, none, ⟨[], []⟩, .ld false none 0 0 (.t 51)⟩,
    ⟨some 53, none, ⟨[], []⟩, .call (some 4) 39 37 [.t 52, .k (.int .i64 16777216)]⟩,
    ⟨some 54, none, ⟨[], []⟩, .not (.t 53)⟩] [49, 50, 51, 52, 53] []) (.cond (.t 54) (.seq (.reg false [⟨some 55, none, ⟨[], []⟩, .build [.int .i64 0, .int .i64 0, nilSV] []⟩,
    ⟨none, none, ⟨[], []⟩, .sto false 3 .i64 (.t 6) (.t 55)⟩,
    ⟨some 7, none, ⟨[], []⟩, .mov (.k (.int .i64 4))⟩] [3, 9, 54, 55] []) (.ret)) (.skip))) (.seq (.reg true [⟨some 56, none, ⟨[], []⟩, .fld (.t 3) 0⟩,
    ⟨some 57, none, ⟨[], []⟩, .ld false none 0 0 (.t 56)⟩,
    ⟨some 58, none, ⟨[], []⟩, .fld (.t 3) 1⟩,
    ⟨some 59, none, ⟨[], []⟩, .ld false none 0 0 (.t 58)⟩,
    ⟨some 60, none, ⟨[], []⟩, .ld false none 0 0 (.t 9)⟩,
    ⟨some 61, none, ⟨[], []⟩, .nilc (.t 60)⟩,
    ⟨some 62, none, ⟨[], []⟩, .fld (.t 61) 1⟩,
    ⟨some 63, none, ⟨[], []⟩, .ld false none 0 0 (.t 62)⟩,
    ⟨some 64, none, ⟨[], []⟩, .build [.int .i64 0, .int .i64 0, nilSV] [(0, 1, .t 57), (1, 1, .t 59), (2, 1, .t 63)]⟩,
    ⟨none, none, ⟨[], []⟩, .sto false 3 .i64 (.t 6) (.t 64)⟩,
    ⟨some 7, none, ⟨[], []⟩, .mov (.k (.int .i64 0))⟩] [3, 9, 54, 56, 57, 58, 59, 60, 61, 62, 63, 64] []) (.ret))
def ir31 : IR :=
  .seq (.reg false [⟨some 3, none, ⟨[], []⟩, .box 10 (.t 0)⟩,
    ⟨some 6, none, ⟨[], []⟩, .alloc 11 [.int .i64 0, .int .i64 0, nilSV]⟩,
    ⟨some 7, none, ⟨[], []⟩, .mov (.k (.int .i64 0))⟩] [0, 7] []) (.seq (.seq (.reg false [⟨some 12, none, ⟨[], []⟩, .ld false (some 3) 0 0 (.t 3)⟩,
    ⟨some 13, none, ⟨[], []⟩, .mov (.t 1)⟩,
    ⟨some 14, none, ⟨[], []⟩, .mov (.t 2)⟩,
    ⟨some 15, none, ⟨[], []⟩, .call (some 4) 12 51 [.t 12, .t 13, .t 14]⟩,
    ⟨some 8, none, ⟨[], []⟩, .mov (.t 15)⟩] [12, 13, 14, 15] []) (.seq (.reg false [⟨some 16, none, ⟨[], []⟩, .mov (.t 8)⟩,
    ⟨some 17, none, ⟨[], []⟩, .bin 0 .neq (.t 16) (.k (.int .i64 0))⟩] [16] []) (.cond (.t 17) (.seq (.reg false [⟨some 18, none, ⟨[], []⟩, .build [.int .i64 0, .int .i64 0, nilSV] []⟩,
    ⟨some 19, none, ⟨[], []⟩, .mov (.t 8)⟩,
    ⟨none, none, ⟨[], []⟩, .sto false 3 .i64 (.t 6) (.t 18)⟩,
    ⟨some 7, none, ⟨[], []⟩, .mov (.t 19)⟩] [1, 2, 3, 8, 17, 18, 19] []) (.ret)) (.skip)))) (.seq (.reg true [⟨some 20, none, ⟨[], []⟩, .fld (.t 3) 0⟩,
    ⟨some 21, none, ⟨[16, 17, 18, 19, 21], []⟩, .ld false none 0 0 (.t 20)⟩,
    ⟨some 22, none, ⟨[], []⟩, .fld (.t 3) 2⟩,
    ⟨some 23, none, ⟨[21], []⟩, .ld false none 0 0 (.t 22)⟩,
    ⟨some 24, none, ⟨[21], []⟩, .call (some 4) 16 52 [.t 23]⟩,
    ⟨some 25, none, ⟨[], []⟩, .mov (.t 1)⟩,
    ⟨some 26, none, ⟨[], []⟩, .build [.int .i64 0, nilSV, .int .i64 0] [(0, 1, .t 21), (1, 1, .t 24), (2, 1, .t 25)]⟩,
    ⟨some 27, none, ⟨[], []⟩, .box 20 (.t 26)⟩,
    ⟨some 9, none, ⟨[], []⟩, .alloc 21 [.val (.pointer none)]⟩,
    ⟨none, none, ⟨[], []⟩, .sto false 1 .i64 (.t 9) (.t 27)⟩] [1, 7, 8, 17, 20, 21, 22, 23, 24, 25, 26, 27] []) (.seq (.seq (.reg false [⟨some 28, none, ⟨[], []⟩, .fld (.t 3) 0⟩,
    ⟨some 29, none, ⟨[], []⟩, .ld false none 0 0 (.t 28)⟩,
    ⟨some 30, none, ⟨[], []⟩, .fld (.t 3) 1⟩,
    ⟨some 31, none, ⟨[], []⟩, .ld false none 0 0 (.t 30)⟩,
    ⟨some 32, none, ⟨[], []⟩, .mov (.t 2)⟩,
    ⟨some 33, none, ⟨[], []⟩, .call (some 4) 22 47 [.t 29, .t 31, .t 32]⟩,
    ⟨some 34, none, ⟨[], []⟩, .call (some 4) 26 57 [.t 33]⟩] [2, 28, 29, 30, 31, 32, 33] []) (.block 0 (.rf (.t 34) [35, 36] (.reg false [⟨some 11, none, ⟨[], []⟩, .allocI 30 .i64 2⟩,
    ⟨none, none, ⟨[], []⟩, .sto true 2 .i64 (.t 11) (.t 36)⟩] [3, 6, 34, 35, 36] []) (b31_1) [34] []))) (r31_2))))
set_option maxRecDepth 4000 in
theorem comp31 : (Try.f31.body.bind fun c => compC tab isP chkAll ir31 c) = some ir31 := by kernel_rfl
/-- What Inverse comes to, before it is looked at. -/
def ivL (p : Pl) (kind n : Int) : List Int := bwd unL kind p.w.toNat p.h.toNat n.toNat p.xs n.toNat
def ivOk (p : Pl) (kind n : Int) : Prop := p.Ok ∧ stOk kind n ∧ AllIn (-16777216) 16777216 (ivL p kind n)
instance (p : Pl) (kind n : Int) : Decidable (ivOk p kind n) := by unfold ivOk; infer_instance
def ivP (p : Pl) (kind n : Int) : Pl := if ivOk p kind n then ⟨p.w, p.h, ivL p kind n⟩ else pl0
def ivE (p : Pl) (kind n : Int) : Int := if ivOk p kind n then 0 else if p.Ok then if stOk kind n then 4 else 2 else 70
theorem bwd_bd6 {kind : Int} {W H : Nat} {xs : List Int} (hl : xs.length = H * W) (h : AllIn (-16777216) 16777216 xs) {n i : Nat} (hi : i ≤ 5) : AllIn (-375299968947541) 375299968947541 (bwd unL kind W H n xs i) ∧
    ∀ (w h : Nat), w ≤ W → h ≤ H → AllIn (-375299968947541) 375299968947541 (clL unL kind W h (bwd unL kind W H n xs i) w) := by
  have hB := bwd_bd trn_unline (kind := kind) (W := W) (h := H) (n := n) (by omega) h (by omega) i
  have h0 : (0 : Int) ≤ bnd 16777216 i := bnd_pos (by omega) i
  have key : ∀ i : Nat, i ≤ 5 → 3 * bnd 16777216 i + 1 ≤ 375299968947541 := by
    intro i hi
    have : i = 0 ∨ i = 1 ∨ i = 2 ∨ i = 3 ∨ i = 4 ∨ i = 5 := by omega
    rcases this with rfl | rfl | rfl | rfl | rfl | rfl <;> decide
  have k := key i hi
  have up : ∀ (B : Int) (ys : List Int), B ≤ 375299968947541 → AllIn (-B) B ys → AllIn (-375299968947541) 375299968947541 ys := fun B ys hB h n hn => by have := h n hn; omega
  refine ⟨up _ _ (by omega) hB, fun w h hw hh => up _ _ k (clL_bd trn_unline (by rw [bwd_length, hl]; exact Nat.mul_le_mul_right _ hh) hw hB h0)⟩
def fs31 : FS where
  A := AskA
  args := fun a => [plV a.a.p a.a.L 0, .int .i64 a.kind, .int .i64 a.n]
  mem := fun a => [some (.ro, a.a.L, .ints .i64 a.a.p.xs)]
  pre := fun a => a.a.p.xs.length ≤ 140737488355328
  res := fun a x => .tup [plV (ivP a.a.p a.kind a.n) (lx (ivOk a.a.p a.kind a.n) x 0) 1, .int .i64 (ivE a.a.p a.kind a.n)]
  out := fun _ _ => []
  new := fun a x => [(lx (ivOk a.a.p a.kind a.n) x 0, .ints .i64 (ivP a.a.p a.kind a.n).xs)]
set_option maxHeartbeats 1000000 in
theorem ok31 : FSOk Try.prog 31 fs31 := by
  refine ⟨⟨_, Try.func31, by kernel_rfl, by kernel_rfl⟩, fun a => ⟨by simp [fs31, push_cast, noMine, argOwn, Chunk.frArg], by simp [fs31, push_cast, outOk, Chunk.ext], fun x => .inl (by simp [fs31, push_cast, frNew, frOut, Chunk.fr])⟩, fun a hp => ?_⟩
  obtain ⟨⟨⟨w, h, xs⟩, L⟩, kind, n⟩ := a
  change xs.length ≤ 140737488355328 at hp
  change Tri Try.prog 31 [plV ⟨w, h, xs⟩ L 0, .int .i64 kind, .int .i64 n] [some (.ro, L, .ints .i64 xs)] (postF fs31 ⟨⟨⟨w, h, xs⟩, L⟩, kind, n⟩)
  refine tri_evS (hypI (l := [(51, ent51), (37, ent37), (52, ent52), (47, ent47), (57, ent57), (53, ent53u), (54, ent54u)]) (li := [(70, its70)]) (lp := [])
    ⟨e51, e37, e52, e47, e57, e53u, e54u, trivial⟩ ⟨it70, trivial⟩ trivial) Try.func31 comp31 (rs := [.cell 6 (some 3), .tmp 7]) (by rfl) Try.ntmps31 43 ?_
  simp -implicitDefEqProofs only [push_cast, false_implies, reduceCtorEq, Classical.not_not, Nat.reduceAdd, Nat.reduceSub, Nat.reduceMul, Nat.reduceLeDiff, Nat.reduceLT, Nat.reduceEqDiff, Nat.reduceBEq, Nat.reduceBNe, Int.reduceNeg, Int.reduceToNat, Bool.or_false, Bool.false_or, Bool.or_true, Bool.true_or, BEq.rfl, Bool.not_eq_true, Bool.not_eq_false, decide_eq_true_eq, not_true_eq_false, not_false_eq_true, ite_true, ite_false, List.append_nil, and_assoc, Nat.mul_zero, Nat.zero_mul, ir31, fs51]
  by_cases hO : (⟨w, h, xs⟩ : Pl).Ok ∧ stOk kind n
  · obtain ⟨hO, hS⟩ := hO
    have hE : askE ⟨w, h, xs⟩ kind n = 0 := by unfold askE; rw [if_pos hO, if_pos hS]
    simp -implicitDefEqProofs only [push_cast, false_implies, reduceCtorEq, Classical.not_not, Nat.reduceAdd, Nat.reduceSub, Nat.reduceMul, Nat.reduceLeDiff, Nat.reduceLT, Nat.reduceEqDiff, Nat.reduceBEq, Nat.reduceBNe, Int.reduceNeg, Int.reduceToNat, Bool.or_false, Bool.false_or, Bool.or_true, Bool.true_or, BEq.rfl, Bool.not_eq_true, Bool.not_eq_false, decide_eq_true_eq, not_true_eq_false, not_false_eq_true, ite_true, ite_false, List.append_nil, and_assoc, Nat.mul_zero, Nat.zero_mul, hE, hp]
    obtain ⟨hs, hl, ha⟩ : SidesOk w h ∧ (xs.length : Int) = w * h ∧ AllIn (-16777216) 16777216 xs := id hO
    obtain ⟨W, H, rfl, rfl, hW, hH, hl2, hl3⟩ := Pl.nat hs hl
    obtain ⟨hk, hn0, hn6⟩ := id hS
    obtain ⟨n, rfl⟩ : ∃ m : Nat, n = (m : Int) := ⟨n.toNat, by omega⟩
    simp -implicitDefEqProofs only [push_cast, false_implies, reduceCtorEq, Classical.not_not, Nat.reduceAdd, Nat.reduceSub, Nat.reduceMul, Nat.reduceLeDiff, Nat.reduceLT, Nat.reduceEqDiff, Nat.reduceBEq, Nat.reduceBNe, Int.reduceNeg, Int.reduceToNat, Bool.or_false, Bool.false_or, Bool.or_true, Bool.true_or, BEq.rfl, Bool.not_eq_true, Bool.not_eq_false, decide_eq_true_eq, not_true_eq_false, not_false_eq_true, ite_true, ite_false, List.append_nil, and_assoc, Nat.mul_zero, Nat.zero_mul, fs52, fs47, fs57, tabR_length, Int.toNat_natCast]
    refine fun X X1 => ⟨by omega, fun X2 => ⟨hW, hH, by omega, ?_⟩⟩
    obtain ⟨LS, hLS⟩ : ∃ LS, lx (0 < n) (fun j => X2 5 (22 + j)) 0 = LS := ⟨_, rfl⟩
    rw [hLS]
    refine evS_rf its70 ⟨X2 6 26, LS, esz 2 n, W, H, n⟩ rfl ⟨show n ≤ 7 by omega, fun h => esz_pos h⟩ ⟨by kernel_rfl, by kernel_rfl⟩ rfl ?_ (fun _ _ => rfl) (A := Unit)
      (fun k _ => [(16, .mine, X1 4 16, .ints .i64 (bwd unL kind W H n xs k)), (22, .mine, LS, .recs 2 false [] (tabR n (sdR W H)))]) (fun k _ => k ≤ n) () (Nat.zero_le _) ?_ [some 26, some 22] ?_ ?_ ?_ ?_
    · simp -implicitDefEqProofs only [push_cast, false_implies, reduceCtorEq, Classical.not_not, Nat.reduceAdd, Nat.reduceSub, Nat.reduceMul, Nat.reduceLeDiff, Nat.reduceLT, Nat.reduceEqDiff, Nat.reduceBEq, Nat.reduceBNe, Int.reduceNeg, Int.reduceToNat, Bool.or_false, Bool.false_or, Bool.or_true, Bool.true_or, BEq.rfl, Bool.not_eq_true, Bool.not_eq_false, decide_eq_true_eq, not_true_eq_false, not_false_eq_true, ite_true, ite_false, List.append_nil, and_assoc, Nat.mul_zero, Nat.zero_mul, its70]
    · simp -implicitDefEqProofs only [push_cast, false_implies, reduceCtorEq, Classical.not_not, Nat.reduceAdd, Nat.reduceSub, Nat.reduceMul, Nat.reduceLeDiff, Nat.reduceLT, Nat.reduceEqDiff, Nat.reduceBEq, Nat.reduceBNe, Int.reduceNeg, Int.reduceToNat, Bool.or_false, Bool.false_or, Bool.or_true, Bool.true_or, BEq.rfl, Bool.not_eq_true, Bool.not_eq_false, decide_eq_true_eq, not_true_eq_false, not_false_eq_true, ite_true, ite_false, List.append_nil, and_assoc, Nat.mul_zero, Nat.zero_mul, bwd]
    · simp -implicitDefEqProofs only [push_cast, false_implies, reduceCtorEq, Classical.not_not, Nat.reduceAdd, Nat.reduceSub, Nat.reduceMul, Nat.reduceLeDiff, Nat.reduceLT, Nat.reduceEqDiff, Nat.reduceBEq, Nat.reduceBNe, Int.reduceNeg, Int.reduceToNat, Bool.or_false, Bool.false_or, Bool.or_true, Bool.true_or, BEq.rfl, Bool.not_eq_true, Bool.not_eq_false, decide_eq_true_eq, not_true_eq_false, not_false_eq_true, ite_true, ite_false, List.append_nil, and_assoc, Nat.mul_zero, Nat.zero_mul, its70]
    · intro k _ _
      simp -implicitDefEqProofs only [push_cast, false_implies, reduceCtorEq, Classical.not_not, Nat.reduceAdd, Nat.reduceSub, Nat.reduceMul, Nat.reduceLeDiff, Nat.reduceLT, Nat.reduceEqDiff, Nat.reduceBEq, Nat.reduceBNe, Int.reduceNeg, Int.reduceToNat, Bool.or_false, Bool.false_or, Bool.or_true, Bool.true_or, BEq.rfl, Bool.not_eq_true, Bool.not_eq_false, decide_eq_true_eq, not_true_eq_false, not_false_eq_true, ite_true, ite_false, List.append_nil, and_assoc, Nat.mul_zero, Nat.zero_mul, its70]
    · intro k _ (hk1 : k < n) _ K hK
      obtain ⟨i, hi⟩ : ∃ i : Nat, i = n - 1 - k := ⟨_, rfl⟩
      have b1 := hlf_le W i
      have b2 := hlf_le H i
      obtain ⟨f1, f2⟩ := bwd_bd6 (kind := kind) (n := n) hl2 ha (i := k) (by omega)
      have f2 := f2 (hlf W i) (hlf H i) b1 b2
      have hL := bwd_length unL kind W H n xs k
      have hR := clL_length unL kind W (hlf H i) (bwd unL kind W H n xs k) (hlf W i)
      have hm : hlf H i * W ≤ xs.length := by rw [hl2]; exact Nat.mul_le_mul_right _ b2
      have q : rwL unL kind W (hlf W i) (clL unL kind W (hlf H i) (bwd unL kind W H n xs k) (hlf W i)) (hlf H i) = bwd unL kind W H n xs (k + 1) := by rw [hi]; rfl
      have e0 : rd [(hlf W i : Int), (hlf H i : Int)] 0 = hlf W i := rfl
      have e1 : rd [(hlf W i : Int), (hlf H i : Int)] 1 = hlf H i := rfl
      change evS _ _ _ _ (putsE _ [35, 36] (bwX W H n k)) _
      simp -implicitDefEqProofs only [push_cast, false_implies, reduceCtorEq, Classical.not_not, Nat.reduceAdd, Nat.reduceSub, Nat.reduceMul, Nat.reduceLeDiff, Nat.reduceLT, Nat.reduceEqDiff, Nat.reduceBEq, Nat.reduceBNe, Int.reduceNeg, Int.reduceToNat, Bool.or_false, Bool.false_or, Bool.or_true, Bool.true_or, BEq.rfl, Bool.not_eq_true, Bool.not_eq_false, decide_eq_true_eq, not_true_eq_false, not_false_eq_true, ite_true, ite_false, List.append_nil, and_assoc, Nat.mul_zero, Nat.zero_mul, bwX, ← hi]
      intro X3
      simp -implicitDefEqProofs only [push_cast, false_implies, reduceCtorEq, Classical.not_not, Nat.reduceAdd, Nat.reduceSub, Nat.reduceMul, Nat.reduceLeDiff, Nat.reduceLT, Nat.reduceEqDiff, Nat.reduceBEq, Nat.reduceBNe, Int.reduceNeg, Int.reduceToNat, Bool.or_false, Bool.false_or, Bool.or_true, Bool.true_or, BEq.rfl, Bool.not_eq_true, Bool.not_eq_false, decide_eq_true_eq, not_true_eq_false, not_false_eq_true, ite_true, ite_false, List.append_nil, and_assoc, Nat.mul_zero, Nat.zero_mul, b31_1, e0, e1, fs53u, fs54u, hL, hR, hk, f1, f2, q, Int.toNat_natCast]
      repeat (refine And.intro (by first | omega | trivial | (intros; omega)) ?_)
      refine hK () (by omega) _ _ ?_
      simp -implicitDefEqProofs only [push_cast, false_implies, reduceCtorEq, Classical.not_not, Nat.reduceAdd, Nat.reduceSub, Nat.reduceMul, Nat.reduceLeDiff, Nat.reduceLT, Nat.reduceEqDiff, Nat.reduceBEq, Nat.reduceBNe, Int.reduceNeg, Int.reduceToNat, Bool.or_false, Bool.false_or, Bool.or_true, Bool.true_or, BEq.rfl, Bool.not_eq_true, Bool.not_eq_false, decide_eq_true_eq, not_true_eq_false, not_false_eq_true, ite_true, ite_false, List.append_nil, and_assoc, Nat.mul_zero, Nat.zero_mul]
    · intro _ _
      have hL := bwd_length unL kind W H n xs n
      have hI : ivL ⟨W, H, xs⟩ kind n = bwd unL kind W H n xs n := by unfold ivL; simp only [Int.toNat_natCast]
      simp -implicitDefEqProofs only [push_cast, false_implies, reduceCtorEq, Classical.not_not, Nat.reduceAdd, Nat.reduceSub, Nat.reduceMul, Nat.reduceLeDiff, Nat.reduceLT, Nat.reduceEqDiff, Nat.reduceBEq, Nat.reduceBNe, Int.reduceNeg, Int.reduceToNat, Bool.or_false, Bool.false_or, Bool.or_true, Bool.true_or, BEq.rfl, Bool.not_eq_true, Bool.not_eq_false, decide_eq_true_eq, not_true_eq_false, not_false_eq_true, ite_true, ite_false, List.append_nil, and_assoc, Nat.mul_zero, Nat.zero_mul, its70, r31_2, fs37, hL]
      refine ⟨by omega, by omega, by omega, fun hb => ?_, fun hg => ?_⟩
      · have e : ¬ ivOk ⟨W, H, xs⟩ kind n := fun H => hb (by rw [← hI]; exact H.2.2)
        refine postF.mk' (fun _ => default) [some 0, none] ?_
        simp -implicitDefEqProofs only [push_cast, false_implies, reduceCtorEq, Classical.not_not, Nat.reduceAdd, Nat.reduceSub, Nat.reduceMul, Nat.reduceLeDiff, Nat.reduceLT, Nat.reduceEqDiff, Nat.reduceBEq, Nat.reduceBNe, Int.reduceNeg, Int.reduceToNat, Bool.or_false, Bool.false_or, Bool.or_true, Bool.true_or, BEq.rfl, Bool.not_eq_true, Bool.not_eq_false, decide_eq_true_eq, not_true_eq_false, not_false_eq_true, ite_true, ite_false, List.append_nil, and_assoc, Nat.mul_zero, Nat.zero_mul, fs31, ivP, ivE, e, hO, hS, if_false, if_true, lx, pl0]
      · have e : ivOk ⟨W, H, xs⟩ kind n := ⟨hO, hS, by rw [hI]; exact hg⟩
        refine postF.mk' (locs [X1 4 16]) [some 0, some 16] ?_
        simp -implicitDefEqProofs only [push_cast, false_implies, reduceCtorEq, Classical.not_not, Nat.reduceAdd, Nat.reduceSub, Nat.reduceMul, Nat.reduceLeDiff, Nat.reduceLT, Nat.reduceEqDiff, Nat.reduceBEq, Nat.reduceBNe, Int.reduceNeg, Int.reduceToNat, Bool.or_false, Bool.false_or, Bool.or_true, Bool.true_or, BEq.rfl, Bool.not_eq_true, Bool.not_eq_false, decide_eq_true_eq, not_true_eq_false, not_false_eq_true, ite_true, ite_false, List.append_nil, and_assoc, Nat.mul_zero, Nat.zero_mul, fs31, ivP, ivE, e, hI, hL, if_true, lx]
  · have e : ¬ ivOk ⟨w, h, xs⟩ kind n := fun H => hO ⟨H.1, H.2.1⟩
    obtain ⟨c, hcc, hc0, hc1⟩ : ∃ c : Int, askE ⟨w, h, xs⟩ kind n = c ∧ ¬ c = 0 ∧ (if (⟨w, h, xs⟩ : Pl).Ok then if stOk kind n then 4 else 2 else 70) = c := by
      refine ⟨_, rfl, ?_, ?_⟩
      · unfold askE; split
        · rename_i hq; rw [if_neg (fun q => hO ⟨hq, q⟩)]; decide
        · decide
      · unfold askE; split
        · rename_i hq; rw [if_neg (fun q => hO ⟨hq, q⟩), if_neg (fun q => hO ⟨hq, q⟩)]
        · rfl
    simp -implicitDefEqProofs only [push_cast, false_implies, reduceCtorEq, Classical.not_not, Nat.reduceAdd, Nat.reduceSub, Nat.reduceMul, Nat.reduceLeDiff, Nat.reduceLT, Nat.reduceEqDiff, Nat.reduceBEq, Nat.reduceBNe, Int.reduceNeg, Int.reduceToNat, Bool.or_false, Bool.false_or, Bool.or_true, Bool.true_or, BEq.rfl, Bool.not_eq_true, Bool.not_eq_false, decide_eq_true_eq, not_true_eq_false, not_false_eq_true, ite_true, ite_false, List.append_nil, and_assoc, Nat.mul_zero, Nat.zero_mul, hcc, hp, hc0]
    refine fun X => postF.mk' (fun _ => default) [some 0, none] ?_
    simp -implicitDefEqProofs only [push_cast, false_implies, reduceCtorEq, Classical.not_not, Nat.reduceAdd, Nat.reduceSub, Nat.reduceMul, Nat.reduceLeDiff, Nat.reduceLT, Nat.reduceEqDiff, Nat.reduceBEq, Nat.reduceBNe, Int.reduceNeg, Int.reduceToNat, Bool.or_false, Bool.false_or, Bool.or_true, Bool.true_or, BEq.rfl, Bool.not_eq_true, Bool.not_eq_false, decide_eq_true_eq, not_true_eq_false, not_false_eq_true, ite_true, ite_false, List.append_nil, and_assoc, Nat.mul_zero, Nat.zero_mul, fs31, ivP, ivE, e, hc1, if_false, lx, pl0]
def ent31 : Entry := spOf fs31 inv51
theorem e31 : EntryOk Try.prog 31 ent31 := entry_of ok31 inv51
@[push_cast] theorem ent31_app (us : List SV) (look : Look) (x : Nat → Xf.Loc) (k : Nat) : ent31 us look x k = spOf fs31 inv51 us look x k := rfl
def ir11 : IR :=
  .seq (.reg false [⟨some 3, none, ⟨[], []⟩, .box 10 (.t 0)⟩,
    ⟨some 6, none, ⟨[], []⟩, .mov (.k (.bool false))⟩] [0, 6] []) (.seq (.reg false [⟨some 11, none, ⟨[], []⟩, .ld false (some 3) 0 0 (.t 3)⟩,
    ⟨some 12, none, ⟨[], []⟩, .mov (.t 1)⟩,
    ⟨some 13, none, ⟨[], []⟩, .mov (.t 2)⟩,
    ⟨some 14, none, ⟨[], []⟩, .call (some 4) 11 28 [.t 11, .t 12, .t 13]⟩,
    ⟨some 10, none, ⟨[], []⟩, .mov (.t 14)⟩,
    ⟨some 15, none, ⟨[], []⟩, .ext (.t 10) 0⟩,
    ⟨some 16, none, ⟨[], []⟩, .ext (.t 10) 1⟩,
    ⟨some 7, none, ⟨[], []⟩, .alloc 15 [.int .i64 0, .int .i64 0, nilSV]⟩,
    ⟨none, none, ⟨[], []⟩, .sto false 3 .i64 (.t 7) (.t 15)⟩,
    ⟨some 8, none, ⟨[], []⟩, .mov (.t 16)⟩] [10, 11, 12, 13, 14, 15, 16] []) (.seq (.seq (.reg false [⟨some 17, none, ⟨[], []⟩, .mov (.t 8)⟩,
    ⟨some 18, none, ⟨[], []⟩, .bin 0 .neq (.t 17) (.k (.int .i64 0))⟩] [8, 17] []) (.cond (.t 18) (.seq (.reg false [⟨some 19, none, ⟨[], []⟩, .fld (.t 7) 2⟩,
    ⟨some 20, none, ⟨[], []⟩, .ld false none 0 0 (.t 19)⟩,
    ⟨some 21, none, ⟨[], []⟩, .len (.t 20)⟩,
    ⟨some 22, none, ⟨[], []⟩, .bin 0 .eql (.t 21) (.k (.int .i64 0))⟩,
    ⟨some 23, none, ⟨[], []⟩, .mov (.t 22)⟩,
    ⟨some 24, some (23, true), ⟨[], []⟩, .call (some 4) 16 13 []⟩,
    ⟨some 25, none, ⟨[], []⟩, .pick (.t 23) (.t 24) (.k (.bool false))⟩,
    ⟨some 6, none, ⟨[], []⟩, .mov (.t 25)⟩] [1, 2, 3, 7, 18, 19, 20, 21, 22, 23, 24, 25] []) (.ret)) (.skip))) (.seq (.reg false [⟨some 27, none, ⟨[], []⟩, .ld false (some 3) 0 0 (.t 7)⟩,
    ⟨some 28, none, ⟨[], []⟩, .mov (.t 1)⟩,
    ⟨some 29, none, ⟨[], []⟩, .mov (.t 2)⟩,
    ⟨some 30, none, ⟨[], []⟩, .call (some 4) 20 31 [.t 27, .t 28, .t 29]⟩,
    ⟨some 26, none, ⟨[], []⟩, .mov (.t 30)⟩,
    ⟨some 31, none, ⟨[], []⟩, .ext (.t 26) 0⟩,
    ⟨some 32, none, ⟨[], []⟩, .ext (.t 26) 1⟩,
    ⟨some 9, none, ⟨[], []⟩, .alloc 24 [.int .i64 0, .int .i64 0, nilSV]⟩,
    ⟨none, none, ⟨[], []⟩, .sto false 3 .i64 (.t 9) (.t 31)⟩,
    ⟨some 8, none, ⟨[], []⟩, .mov (.t 32)⟩] [1, 2, 6, 7, 18, 26, 27, 28, 29, 30, 31, 32] []) (.seq (.reg false [⟨some 33, none, ⟨[], []⟩, .mov (.t 8)⟩,
    ⟨some 34, none, ⟨[], []⟩, .bin 0 .eql (.t 33) (.k (.int .i64 0))⟩,
    ⟨some 35, none, ⟨[], []⟩, .mov (.t 34)⟩,
    ⟨some 36, some (35, true), ⟨[], []⟩, .ld false (some 3) 0 0 (.t 9)⟩,
    ⟨some 37, some (35, true), ⟨[], []⟩, .ld false (some 3) 0 0 (.t 3)⟩,
    ⟨some 38, some (35, true), ⟨[], []⟩, .call (some 4) 25 24 [.t 36, .t 37]⟩,
    ⟨some 39, none, ⟨[], []⟩, .pick (.t 35) (.t 38) (.k (.bool false))⟩,
    ⟨some 40, none, ⟨[], []⟩, .mov (.t 39)⟩,
    ⟨some 41, some (40, true), ⟨[], []⟩, .call (some 4) 29 13 []⟩,
    ⟨some 42, none, ⟨[], []⟩, .pick (.t 40) (.t 41) (.k (.bool false))⟩,
    ⟨some 6, none, ⟨[], []⟩, .mov (.t 42)⟩] [3, 8, 9, 33, 34, 35, 36, 37, 38, 39, 40, 41, 42] []) (.ret)))))
set_option maxRecDepth 4000 in
theorem comp11 : (Try.f11.body.bind fun c => compC tab isP chkAll ir11 c) = some ir11 := by kernel_rfl
theorem rd_unL {kind : Int} {n k : Nat} (h : k < n) (f : Int → Int) : rd (unL kind n f) (k : Int) = unF2 kind n f (n / 2) k := by unfold unL; rw [rd_tabl h]
theorem rows_back {kind : Int} {W w h : Nat} (hw : w ≤ W) {ws : List Int} (hh : h * W ≤ ws.length) : rwL unL kind W w (rwL lineL kind W w ws h) h = ws := by
  refine eq_of_rd (by rw [rwL_length, rwL_length]) fun k hk => ?_
  rw [rwL_at trn_unline hw _ h (by rw [rwL_length]; exact hh)]
  split
  · rename_i hc
    obtain ⟨h1, h2⟩ := hc
    have e : ∀ j : Nat, j < w → rowF (rwL lineL kind W w ws h) ((k / W * W : Nat) : Int) 1 w j = (fun j => rd (lineL kind w (rowF ws ((k / W * W : Nat) : Int) 1 w)) j) j := fun j hj => by
      have hd : (k / W * W + j) / W = k / W := by rw [Nat.mul_comm, Nat.mul_add_div (by omega), Nat.div_eq_of_lt (show j < W by omega), Nat.add_zero]
      have hr : (k / W * W + j) % W = j := by rw [Nat.mul_comm, Nat.mul_add_mod, Nat.mod_eq_of_lt (by omega)]
      rw [rowF_at hj]
      have e1 : ((k / W * W : Nat) : Int) + j * 1 = ((k / W * W + j : Nat) : Int) := by omega
      rw [e1, rwL_at trn_line hw ws h hh, if_pos ⟨by rw [hd]; exact h1, by rw [hr]; exact hj⟩, hd, hr]
    rw [trn_unline.congr kind w _ _ e, rd_unL h2, un_line h2, rowF_at h2]
    congr 1
    have := place (W := W) (k := k)
    omega
  · rename_i hc
    rw [rwL_at trn_line hw ws h hh, if_neg hc]
theorem cols_back {kind : Int} {W w h : Nat} (hw : w ≤ W) {ws : List Int} (hh : h * W ≤ ws.length) : clL unL kind W h (clL lineL kind W h ws w) w = ws := by
  refine eq_of_rd (by rw [clL_length, clL_length]) fun k hk => ?_
  rw [clL_at trn_unline _ (by rw [clL_length]; exact hh) w hw]
  split
  · rename_i hc
    obtain ⟨h1, h2⟩ := hc
    have e : ∀ j : Nat, j < h → rowF (clL lineL kind W h ws w) ((k % W : Nat) : Int) W h j = (fun j => rd (lineL kind h (rowF ws ((k % W : Nat) : Int) W h)) j) j := fun j hj => by
      have hlt : k % W < W := by omega
      have hd : (k % W + j * W) / W = j := by rw [Nat.add_mul_div_right _ _ (by omega), Nat.div_eq_of_lt hlt, Nat.zero_add]
      have hr : (k % W + j * W) % W = k % W := by rw [Nat.add_mul_mod_self_right, Nat.mod_mod]
      rw [rowF_at hj]
      have e1 : ((k % W : Nat) : Int) + j * W = ((k % W + j * W : Nat) : Int) := by simp
      rw [e1, clL_at trn_line ws hh w hw, if_pos ⟨by rw [hr]; exact h1, by rw [hd]; exact hj⟩, hd, hr]
    rw [trn_unline.congr kind h _ _ e, rd_unL h2, un_line h2, rowF_at h2]
    congr 1
    have := place (W := W) (k := k)
    have e2 : ((k / W * W : Nat) : Int) = ((k / W : Nat) : Int) * W := by simp
    omega
  · rename_i hc
    rw [clL_at trn_line ws hh w hw, if_neg hc]
theorem st_back {kind : Int} {W w h : Nat} (hw : w ≤ W) {ws : List Int} (hh : h * W ≤ ws.length) : stI unL kind W (stF lineL kind W ws w h) w h = ws := by
  unfold stI stF
  rw [cols_back hw (by rw [rwL_length]; exact hh), rows_back hw hh]
theorem bwd_fwd {kind : Int} {W H n : Nat} {xs : List Int} (hl : xs.length = H * W) : ∀ i, i ≤ n → bwd unL kind W H n (fwd lineL kind W H xs n) i = fwd lineL kind W H xs (n - i)
  | 0, _ => rfl
  | i + 1, hi => by
    rw [bwd, bwd_fwd hl i (by omega)]
    have e : n - i = (n - 1 - i) + 1 := by omega
    rw [e, fwd, st_back (hlf_le W _) (by rw [fwd_length, hl]; exact Nat.mul_le_mul_right _ (hlf_le H _))]
    congr 1; omega
/-- A line is not far from what it is of. -/
theorem line_bd2 {kind : Int} {n : Nat} {f : Int → Int} {B : Int} (h : BdF B f) (h0 : 0 ≤ B) : AllIn (-(2 * B + 1)) (2 * B + 1) (lineL kind n f) := by
  intro v hv
  unfold lineL at hv
  rcases List.mem_append.1 hv with hv | hv
  · obtain ⟨j, hj, rfl⟩ := List.mem_map.1 hv
    have h1 := h (2 * j)
    have hb : BdF (2 * B) (fun j => rd (hiL kind n f) j) := BdF.rd0 (hiL_bd (kind := kind) (n := n) h) (by omega)
    have h2 := hb (j : Nat)
    have h3 := hb (max ((j : Nat) - 1) 0)
    have h4 := hb (min (j : Nat) (((n / 2 : Nat) : Int) - 1))
    simp only [] at h2 h3 h4
    simp only [loF, liftG]
    split
    · omega
    · split <;> omega
  · have := hiL_bd h v hv
    omega
theorem rwL_bd2 {kind : Int} {W w : Nat} (hw : w ≤ W) {ws : List Int} {m : Nat} (hm : m * W ≤ ws.length) {B : Int} (hB : AllIn (-B) B ws) (h0 : 0 ≤ B) : AllIn (-(2 * B + 1)) (2 * B + 1) (rwL lineL kind W w ws m) := by
  rw [allIn_rd]
  intro k hk
  rw [rwL_at trn_line hw ws m hm]
  split
  · exact rd_bd (line_bd2 (rowF_bd hB h0) h0) (by omega) (by omega) _
  · have := rd_bd hB (by omega) h0 (k : Int); omega
theorem clL_bd2 {kind : Int} {W h : Nat} {ws : List Int} (hh : h * W ≤ ws.length) {m : Nat} (hm : m ≤ W) {B : Int} (hB : AllIn (-B) B ws) (h0 : 0 ≤ B) : AllIn (-(2 * B + 1)) (2 * B + 1) (clL lineL kind W h ws m) := by
  rw [allIn_rd]
  intro k hk
  rw [clL_at trn_line ws hh m hm]
  split
  · exact rd_bd (line_bd2 (rowF_bd hB h0) h0) (by omega) (by omega) _
  · have := rd_bd hB (by omega) h0 (k : Int); omega
def bnd2 (B : Int) : Nat → Int
  | 0 => B
  | i + 1 => 4 * bnd2 B i + 3
theorem fwd_bd2 {kind : Int} {W H : Nat} {xs : List Int} (hl : xs.length = H * W) {B : Int} (h0 : 0 ≤ B) (h : AllIn (-B) B xs) : ∀ i, 0 ≤ bnd2 B i ∧ AllIn (-(bnd2 B i)) (bnd2 B i) (fwd lineL kind W H xs i)
  | 0 => ⟨h0, h⟩
  | i + 1 => by
    obtain ⟨p, q⟩ := fwd_bd2 (kind := kind) hl h0 h i
    have hm : hlf H i * W ≤ (fwd lineL kind W H xs i).length := by rw [fwd_length, hl]; exact Nat.mul_le_mul_right _ (hlf_le H i)
    have r1 := rwL_bd2 (kind := kind) (hlf_le W i) hm q p
    have r2 := clL_bd2 (kind := kind) (by rw [rwL_length]; exact hm) (hlf_le W i) r1 (by omega)
    refine ⟨by simp only [bnd2]; omega, ?_⟩
    simp only [bnd2]
    rw [show 4 * bnd2 B i + 3 = 2 * (2 * bnd2 B i + 1) + 1 by omega]
    exact r2
theorem fwd_small {kind : Int} {W H n : Nat} {xs : List Int} (hl : xs.length = H * W) (h : AllIn (-1024) 1024 xs) (hn : n ≤ 6) : AllIn (-16777216) 16777216 (fwd lineL kind W H xs n) := by
  obtain ⟨p, q⟩ := fwd_bd2 (kind := kind) hl (B := 1024) (by omega) h n
  have key : bnd2 1024 n ≤ 16777216 := by
    have : n = 0 ∨ n = 1 ∨ n = 2 ∨ n = 3 ∨ n = 4 ∨ n = 5 ∨ n = 6 := by omega
    rcases this with rfl | rfl | rfl | rfl | rfl | rfl | rfl <;> decide
  intro v hv
  have := q v hv
  omega
theorem fw_iv {p : Pl} {kind n : Int} (h : fwOk p kind n) : ivOk (fwP p kind n) kind n ∧ ivP (fwP p kind n) kind n = p := by
  obtain ⟨w, h', xs⟩ := p
  obtain ⟨hO, hS, hB⟩ := id h
  obtain ⟨hs, hl, ha⟩ : SidesOk w h' ∧ (xs.length : Int) = w * h' ∧ AllIn (-16777216) 16777216 xs := id hO
  obtain ⟨W, H, rfl, rfl, hW, hH, hl2, hl3⟩ := Pl.nat hs hl
  obtain ⟨hk, hn0, hn6⟩ := id hS
  obtain ⟨n, rfl⟩ : ∃ m : Nat, n = (m : Int) := ⟨n.toNat, by omega⟩
  have hB : AllIn (-1024) 1024 xs := hB
  have e : fwP ⟨W, H, xs⟩ kind n = ⟨W, H, fwd lineL kind W H xs n⟩ := by unfold fwP; rw [if_pos h]; simp only [Int.toNat_natCast]
  have e2 : ivL ⟨W, H, fwd lineL kind W H xs n⟩ kind n = xs := by
    unfold ivL
    simp only [Int.toNat_natCast]
    rw [bwd_fwd hl2 n (Nat.le_refl _), Nat.sub_self]; rfl
  have e3 : ivOk ⟨W, H, fwd lineL kind W H xs n⟩ kind n := ⟨⟨hs, by rw [fwd_length]; exact hl, fwd_small hl2 hB (by omega)⟩, hS, by rw [e2]; exact ha⟩
  rw [e]
  refine ⟨e3, ?_⟩
  unfold ivP
  rw [if_pos e3, e2]
theorem fwP_len' {p : Pl} {kind n : Int} (hp : p.xs.length ≤ 140737488355328) : (fwP p kind n).xs.length ≤ 140737488355328 := by
  unfold fwP
  split
  · simp only [fwd_length]; exact hp
  · exact Nat.zero_le _
theorem tri11 (p : Pl) (hp : p.xs.length ≤ 140737488355328) (kind n : Int) (L : Xf.Loc) : Tri Try.prog 11 [plV p L 0, .int .i64 kind, .int .i64 n]
    [some (.ro, L, .ints .i64 p.xs)] (fun v _ => v = .bool true) := by
  by_cases hO : fwOk p kind n
  · obtain ⟨b1, b2⟩ := fw_iv hO
    have b3 : ivE (fwP p kind n) kind n = 0 := by unfold ivE; rw [if_pos b1]
    have b4 : fwE p kind n = 0 := by unfold fwE; rw [if_pos hO]
    have l1 := fwP_len' (p := p) (kind := kind) (n := n) hp
    have r1 := Pl.Eq.refl p
    obtain ⟨w, h, xs⟩ := p
    change Tri Try.prog 11 [plV ⟨w, h, xs⟩ L 0, .int .i64 kind, .int .i64 n] [some (.ro, L, .ints .i64 xs)] _
    change xs.length ≤ 140737488355328 at hp
    generalize hU : fwP ⟨w, h, xs⟩ kind n = U at l1 b1 b2 b3
    obtain ⟨uw, uh, uxs⟩ := U
    change uxs.length ≤ 140737488355328 at l1
    refine tri_evS (hyp (l := [(13, ent13), (24, ent24), (28, ent28), (31, ent31)]) (lp := []) ⟨e13, e24, e28, e31, trivial⟩ trivial) Try.func11 comp11 (rs := [.tmp 6]) (by rfl) Try.ntmps11 33 ?_
    simp -implicitDefEqProofs only [push_cast, false_implies, reduceCtorEq, Classical.not_not, Nat.reduceAdd, Nat.reduceSub, Nat.reduceMul, Nat.reduceLeDiff, Nat.reduceLT, Nat.reduceEqDiff, Nat.reduceBEq, Nat.reduceBNe, Int.reduceNeg, Int.reduceToNat, Bool.or_false, Bool.false_or, Bool.or_true, Bool.true_or, BEq.rfl, Bool.not_eq_true, Bool.not_eq_false, decide_eq_true_eq, not_true_eq_false, not_false_eq_true, ite_true, ite_false, List.append_nil, and_assoc, Nat.mul_zero, Nat.zero_mul, ir11, fs13, fs24, fs28, fs31, hp, l1, r1, hU, b2, b3, b4]
  · have b4 : ¬ fwE p kind n = 0 := by unfold fwE; rw [if_neg hO]; split <;> decide
    have b5 : fwP p kind n = pl0 := by unfold fwP; rw [if_neg hO]
    obtain ⟨w, h, xs⟩ := p
    change Tri Try.prog 11 [plV ⟨w, h, xs⟩ L 0, .int .i64 kind, .int .i64 n] [some (.ro, L, .ints .i64 xs)] _
    change xs.length ≤ 140737488355328 at hp
    refine tri_evS (hyp (l := [(13, ent13), (24, ent24), (28, ent28), (31, ent31)]) (lp := []) ⟨e13, e24, e28, e31, trivial⟩ trivial) Try.func11 comp11 (rs := [.tmp 6]) (by rfl) Try.ntmps11 33 ?_
    simp -implicitDefEqProofs only [push_cast, false_implies, reduceCtorEq, Classical.not_not, Nat.reduceAdd, Nat.reduceSub, Nat.reduceMul, Nat.reduceLeDiff, Nat.reduceLT, Nat.reduceEqDiff, Nat.reduceBEq, Nat.reduceBNe, Int.reduceNeg, Int.reduceToNat, Bool.or_false, Bool.false_or, Bool.or_true, Bool.true_or, BEq.rfl, Bool.not_eq_true, Bool.not_eq_false, decide_eq_true_eq, not_true_eq_false, not_false_eq_true, ite_true, ite_false, List.append_nil, and_assoc, Nat.mul_zero, Nat.zero_mul, ir11, fs13, fs24, fs28, fs31, hp, b4, b5, pl0]
end Go.Proofs.Ytefggfjblhniaaa
