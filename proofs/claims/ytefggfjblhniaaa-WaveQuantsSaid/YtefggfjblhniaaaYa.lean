import Derived.Test.YtefggfjblhniaaaVz
set_option linter.unusedVariables false
set_option linter.unusedSimpArgs false
/-! Wave: small functions. -/
namespace Go.Proofs.Ytefggfjblhniaaa
open Xf
set_option maxRecDepth 4000
/- incunable/incunableref18.down : slots 17, labels 10..9 -/
def ir40 : IR :=
  .seq (.reg false [⟨some 4, none, ⟨[], []⟩, .mov (.k (.int .i64 0))⟩] [4] []) (.seq (.reg false [⟨some 6, none, ⟨[], []⟩, .mov (.t 0)⟩,
    ⟨some 7, none, ⟨[], []⟩, .mov (.t 1)⟩,
    ⟨some 8, none, ⟨[], []⟩, .bin 1 .quo (.t 6) (.t 7)⟩,
    ⟨some 5, none, ⟨[], []⟩, .mov (.t 8)⟩] [6, 7, 8] []) (.seq (.seq (.reg false [⟨some 9, none, ⟨[], []⟩, .mov (.t 5)⟩,
    ⟨some 10, none, ⟨[], []⟩, .mov (.t 1)⟩,
    ⟨some 11, none, ⟨[], []⟩, .bin 1 .mul (.t 9) (.t 10)⟩,
    ⟨some 12, none, ⟨[], []⟩, .mov (.t 0)⟩,
    ⟨some 13, none, ⟨[], []⟩, .bin 1 .gtr (.t 11) (.t 12)⟩] [0, 1, 9, 10, 11, 12] []) (.cond (.t 13) (.reg false [⟨some 14, none, ⟨[], []⟩, .mov (.t 5)⟩,
    ⟨some 15, none, ⟨[], []⟩, .bin 1 .sub (.t 14) (.k (.int .i64 1))⟩,
    ⟨some 5, none, ⟨[], []⟩, .mov (.t 15)⟩] [13, 14, 15] []) (.skip))) (.seq (.reg false [⟨some 16, none, ⟨[], []⟩, .mov (.t 5)⟩,
    ⟨some 4, none, ⟨[], []⟩, .mov (.t 16)⟩] [5, 13, 16] []) (.ret))))
theorem comp40 : (Try.f40.body.bind fun c => compC tab isP chkAll ir40 c) = some ir40 := by kernel_rfl
/- incunable/wave.isKind : slots 9, labels 10..9 -/
def ir36 : IR :=
  .seq (.reg false [⟨some 2, none, ⟨[], []⟩, .mov (.k (.bool false))⟩] [2] []) (.seq (.reg false [⟨some 3, none, ⟨[], []⟩, .mov (.t 0)⟩,
    ⟨some 4, none, ⟨[], []⟩, .bin 0 .eql (.t 3) (.k (.int .i64 0))⟩,
    ⟨some 5, none, ⟨[], []⟩, .mov (.t 4)⟩,
    ⟨some 6, some (5, false), ⟨[], []⟩, .mov (.t 0)⟩,
    ⟨some 7, some (5, false), ⟨[], []⟩, .bin 0 .eql (.t 6) (.k (.int .i64 1))⟩,
    ⟨some 8, none, ⟨[], []⟩, .pick (.t 5) (.k (.bool true)) (.t 7)⟩,
    ⟨some 2, none, ⟨[], []⟩, .mov (.t 8)⟩] [0, 3, 4, 5, 6, 7, 8] []) (.ret))
theorem comp36 : (Try.f36.body.bind fun c => compC tab isP chkAll ir36 c) = some ir36 := by kernel_rfl
/- incunable/incunableref18.SameInts : slots 26, labels 10..9; loop b17_1 keeps [0, 1, 12, 13] -/
def b17_1 : IR :=
  .seq (.reg false [⟨some 14, none, ⟨[], []⟩, .bin 0 .lss (.t 13) (.t 12)⟩] [] []) (.seq (.cond (.t 14) (.skip) (.exit 0)) (.seq (.block 1 (.seq (.reg false [⟨some 15, none, ⟨[], []⟩, .mov (.t 13)⟩,
    ⟨some 5, none, ⟨[], []⟩, .mov (.t 15)⟩] [14, 15] []) (.seq (.reg true [⟨some 16, none, ⟨[], []⟩, .mov (.t 0)⟩,
    ⟨some 17, none, ⟨[], []⟩, .mov (.t 5)⟩,
    ⟨some 18, none, ⟨[], []⟩, .idxS (.t 16) (.t 17) 1⟩,
    ⟨some 19, none, ⟨[], []⟩, .ld true none 0 0 (.t 18)⟩,
    ⟨some 20, none, ⟨[], []⟩, .mov (.t 1)⟩,
    ⟨some 21, none, ⟨[], []⟩, .mov (.t 5)⟩,
    ⟨some 22, none, ⟨[], []⟩, .idxS (.t 20) (.t 21) 1⟩,
    ⟨some 23, none, ⟨[], []⟩, .ld true none 0 0 (.t 22)⟩,
    ⟨some 24, none, ⟨[], []⟩, .bin 0 .neq (.t 19) (.t 23)⟩] [5, 16, 17, 18, 19, 20, 21, 22, 23] []) (.cond (.t 24) (.seq (.reg false [⟨some 4, none, ⟨[], []⟩, .mov (.k (.bool false))⟩] [0, 1, 12, 13, 24] []) (.ret)) (.skip))))) (.reg false [⟨some 25, none, ⟨[], []⟩, .bin 0 .add (.t 13) (.k (.int .i64 1))⟩,
    ⟨some 13, none, ⟨[], []⟩, .mov (.t 25)⟩] [4, 24, 25] [])))
def r17_2 : IR :=
  .seq (.reg false [⟨some 4, none, ⟨[], []⟩, .mov (.k (.bool true))⟩] [0, 1, 12, 13] []) (.ret)
def ir17 : IR :=
  .seq (.reg false [⟨some 4, none, ⟨[], []⟩, .mov (.k (.bool false))⟩] [4] []) (.seq (.seq (.reg false [⟨some 6, none, ⟨[], []⟩, .mov (.t 0)⟩,
    ⟨some 7, none, ⟨[], []⟩, .len (.t 6)⟩,
    ⟨some 8, none, ⟨[], []⟩, .mov (.t 1)⟩,
    ⟨some 9, none, ⟨[], []⟩, .len (.t 8)⟩,
    ⟨some 10, none, ⟨[], []⟩, .bin 0 .neq (.t 7) (.t 9)⟩] [6, 7, 8, 9] []) (.cond (.t 10) (.seq (.reg false [⟨some 4, none, ⟨[], []⟩, .mov (.k (.bool false))⟩] [0, 1, 10] []) (.ret)) (.skip))) (.seq (.seq (.reg false [⟨some 11, none, ⟨[], []⟩, .mov (.t 0)⟩,
    ⟨some 12, none, ⟨[], []⟩, .len (.t 11)⟩,
    ⟨some 13, none, ⟨[], []⟩, .mov (.k (.int .i64 0))⟩] [4, 10, 11] []) (.block 0 (.loop b17_1))) (r17_2)))
def kp17_1 : List Nat := [0, 1, 12, 13]
def kl17_1 : List Nat := []
attribute [push_cast] kp17_1 kl17_1
theorem comp17 : (Try.f17.body.bind fun c => compC tab isP chkAll ir17 c) = some ir17 := by kernel_rfl
/- incunable/wave.within$1 : slots 13, labels 10..9 -/
def ir65 : IR :=
  .seq (.reg false [⟨some 3, none, ⟨[], []⟩, .mov (.k (.bool false))⟩] [3] []) (.seq (.reg false [⟨some 4, none, ⟨[], []⟩, .mov (.t 0)⟩,
    ⟨some 5, none, ⟨[], []⟩, .ld false none 0 0 (.t 1)⟩,
    ⟨some 6, none, ⟨[], []⟩, .neg 0 (.t 5)⟩,
    ⟨some 7, none, ⟨[], []⟩, .bin 0 .lss (.t 4) (.t 6)⟩,
    ⟨some 8, none, ⟨[], []⟩, .mov (.t 7)⟩,
    ⟨some 9, some (8, false), ⟨[], []⟩, .mov (.t 0)⟩,
    ⟨some 10, some (8, false), ⟨[], []⟩, .ld false none 0 0 (.t 1)⟩,
    ⟨some 11, some (8, false), ⟨[], []⟩, .bin 0 .gtr (.t 9) (.t 10)⟩,
    ⟨some 12, none, ⟨[], []⟩, .pick (.t 8) (.k (.bool true)) (.t 11)⟩,
    ⟨some 3, none, ⟨[], []⟩, .mov (.t 12)⟩] [0, 1, 4, 5, 6, 7, 8, 9, 10, 11, 12] []) (.ret))
theorem comp65 : (Try.f65.body.bind fun c => compC tab isP chkAll ir65 c) = some ir65 := by kernel_rfl
/- incunable/wave.within : slots 9, labels 10..14 -/
def ir37 : IR :=
  .seq (.reg false [⟨some 3, none, ⟨[], []⟩, .box 10 (.t 1)⟩,
    ⟨some 4, none, ⟨[], []⟩, .mov (.k (.bool false))⟩] [1, 4] []) (.seq (.reg false [⟨some 5, none, ⟨[], []⟩, .mov (.t 0)⟩,
    ⟨some 6, none, ⟨[], []⟩, .mkf 65 [.t 3]⟩,
    ⟨some 7, none, ⟨[], []⟩, .call (some 4) 11 64 [.t 5, .t 6]⟩,
    ⟨some 8, none, ⟨[], []⟩, .not (.t 7)⟩,
    ⟨some 4, none, ⟨[], []⟩, .mov (.t 8)⟩] [0, 3, 5, 6, 7, 8] []) (.ret))
theorem comp37 : (Try.f37.body.bind fun c => compC tab isP chkAll ir37 c) = some ir37 := by kernel_rfl
set_option maxRecDepth 512

theorem p40 : EntryPOk Try.prog 40 downF := by
  refine ⟨⟨_, Try.func40, by kernel_rfl, by kernel_rfl⟩, fun us p v h hp => ?_⟩
  unfold downF at h
  split at h <;> cases h
  rename_i a b
  obtain ⟨h1, h2, h3, h4⟩ := hp
  have hd := tdiv_bd a b
  have he := down_eq (a := a) h3
  have hm := Int.tmod_add_mul_tdiv a b
  have hb1 := Int.lt_tmod_of_pos a h3
  have hb2 := Int.tmod_lt_of_pos a h3
  have hc : a.tdiv b * b = b * a.tdiv b := Int.mul_comm _ _
  have hw : IntKind.i64.wrap (a.tdiv b * b) = a.tdiv b * b := inR_wrap (k := .i64) ⟨by omega, by omega⟩
  refine tri_evS (hyp (l := []) (lp := []) trivial trivial) Try.func40 comp40 (rs := [.tmp 4]) (by rfl) Try.ntmps40 10 ?_
  simp -implicitDefEqProofs only [push_cast, false_implies, reduceCtorEq, Classical.not_not, Nat.reduceAdd, Nat.reduceSub, Nat.reduceMul, Nat.reduceLeDiff, Nat.reduceLT, Nat.reduceEqDiff, Nat.reduceBEq, Nat.reduceBNe, Int.reduceNeg, Int.reduceToNat, Bool.or_false, Bool.false_or, Bool.or_true, Bool.true_or, BEq.rfl, Bool.not_eq_true, Bool.not_eq_false, decide_eq_true_eq, not_true_eq_false, not_false_eq_true, ite_true, ite_false, List.append_nil, and_assoc, Nat.mul_zero, Nat.zero_mul, ir40, downF, hw]
  repeat (refine And.intro (by first | omega | trivial | (intros; omega)) ?_)
  refine ⟨fun h => ?_, fun h => ?_⟩
  · rw [inR_wrap (k := .i64) ⟨by omega, by omega⟩, he.1 (by omega)]
  · rw [he.2 (by omega)]
def kindF : EntryP
  | [.int .i64 k] => some (True, .bool (decide (k = 0 ∨ k = 1)))
  | _ => none
attribute [push_cast] kindF
theorem p36 : EntryPOk Try.prog 36 kindF := by
  refine ⟨⟨_, Try.func36, by kernel_rfl, by kernel_rfl⟩, fun us p v h hp => ?_⟩
  unfold kindF at h
  split at h <;> cases h
  refine tri_evS (hyp (l := []) (lp := []) trivial trivial) Try.func36 comp36 (rs := [.tmp 2]) (by rfl) Try.ntmps36 10 ?_
  simp -implicitDefEqProofs only [push_cast, false_implies, reduceCtorEq, Classical.not_not, Nat.reduceAdd, Nat.reduceSub, Nat.reduceMul, Nat.reduceLeDiff, Nat.reduceLT, Nat.reduceEqDiff, Nat.reduceBEq, Nat.reduceBNe, Int.reduceNeg, Int.reduceToNat, Bool.or_false, Bool.false_or, Bool.or_true, Bool.true_or, BEq.rfl, Bool.not_eq_true, Bool.not_eq_false, decide_eq_true_eq, not_true_eq_false, not_false_eq_true, ite_true, ite_false, List.append_nil, and_assoc, Nat.mul_zero, Nat.zero_mul, ir36, kindF]

structure Row2w where
  L : Xf.Loc
  xs : List Int
  M : Xf.Loc
  ys : List Int
def fs17 : FS where
  A := Row2w
  args := fun a => [.sl 0 a.L 1 0 a.xs.length, .sl 1 a.M 1 0 a.ys.length]
  mem := fun a => [some (.ro, a.L, .ints .i64 a.xs), some (.ro, a.M, .ints .i64 a.ys)]
  pre := fun a => a.xs.length ≤ 140737488355328 ∧ a.ys.length ≤ 140737488355328
  res := fun a _ => .bool (decide (a.xs = a.ys))
  out := fun _ _ => []
  new := fun _ _ => []
def inv17 : List SV → Look → Option (Row2w × List Nat)
  | [.sl c _ 1 0 _, .sl d _ 1 0 _], look => match rowI (lkZ look (.ints .i64 []) c), rowI (lkZ look (.ints .i64 []) d) with
    | some (L, .i64, xs), some (M, .i64, ys) => some (⟨L, xs, M, ys⟩, [c, d])
    | _, _ => none
  | _, _ => none
attribute [push_cast] inv17
theorem ok17 : FSOk Try.prog 17 fs17 := by
  refine ⟨⟨_, Try.func17, by kernel_rfl, by kernel_rfl⟩, fun a => ⟨by simp [fs17, push_cast, noMine, argOwn, Chunk.frArg], by simp [fs17, push_cast, outOk, Chunk.ext], fun x => .inl (by simp [fs17, push_cast, frNew, frOut, Chunk.fr])⟩, fun a hp => ?_⟩
  obtain ⟨L, xs, M, ys⟩ := a
  obtain ⟨hp1, hp2⟩ : xs.length ≤ 140737488355328 ∧ ys.length ≤ 140737488355328 := hp
  change Tri Try.prog 17 [.sl 0 L 1 0 xs.length, .sl 1 M 1 0 ys.length] [some (.ro, L, .ints .i64 xs), some (.ro, M, .ints .i64 ys)] (postF fs17 ⟨L, xs, M, ys⟩)
  refine tri_evS (hyp (l := []) (lp := []) trivial trivial) Try.func17 comp17 (rs := [.tmp 4]) (by rfl) Try.ntmps17 10 ?_
  simp -implicitDefEqProofs only [push_cast, false_implies, reduceCtorEq, Classical.not_not, Nat.reduceAdd, Nat.reduceSub, Nat.reduceMul, Nat.reduceLeDiff, Nat.reduceLT, Nat.reduceEqDiff, Nat.reduceBEq, Nat.reduceBNe, Int.reduceNeg, Int.reduceToNat, Bool.or_false, Bool.false_or, Bool.or_true, Bool.true_or, BEq.rfl, Bool.not_eq_true, Bool.not_eq_false, decide_eq_true_eq, not_true_eq_false, not_false_eq_true, ite_true, ite_false, List.append_nil, and_assoc, Nat.mul_zero, Nat.zero_mul, ir17]
  refine ⟨fun hn => ?_, fun hy => ?_⟩
  · have e : ¬ xs = ys := fun H => by subst H; exact hn rfl
    refine postF.mk' (fun _ => default) [some 0, some 1] ?_
    simp -implicitDefEqProofs only [push_cast, false_implies, reduceCtorEq, Classical.not_not, Nat.reduceAdd, Nat.reduceSub, Nat.reduceMul, Nat.reduceLeDiff, Nat.reduceLT, Nat.reduceEqDiff, Nat.reduceBEq, Nat.reduceBNe, Int.reduceNeg, Int.reduceToNat, Bool.or_false, Bool.false_or, Bool.or_true, Bool.true_or, BEq.rfl, Bool.not_eq_true, Bool.not_eq_false, decide_eq_true_eq, not_true_eq_false, not_false_eq_true, ite_true, ite_false, List.append_nil, and_assoc, Nat.mul_zero, Nat.zero_mul, fs17, e, decide_false]
  have hl : xs.length = ys.length := by omega
  refine evS_loopU (A := Nat) kp17_1 kl17_1 (fun i => [(13, .int .i64 i)]) (fun _ => [])
    (fun i => i ≤ xs.length ∧ ∀ j, j < i → rd xs (j : Nat) = rd ys (j : Nat)) (fun i => xs.length - i) 0 ⟨by omega, by omega⟩ (Sub.pt ?_) ?_
  · simp -implicitDefEqProofs only [push_cast, false_implies, reduceCtorEq, Classical.not_not, Nat.reduceAdd, Nat.reduceSub, Nat.reduceMul, Nat.reduceLeDiff, Nat.reduceLT, Nat.reduceEqDiff, Nat.reduceBEq, Nat.reduceBNe, Int.reduceNeg, Int.reduceToNat, Bool.or_false, Bool.false_or, Bool.or_true, Bool.true_or, BEq.rfl, Bool.not_eq_true, Bool.not_eq_false, decide_eq_true_eq, not_true_eq_false, not_false_eq_true, ite_true, ite_false, List.append_nil, and_assoc, Nat.mul_zero, Nat.zero_mul]
  intro i ⟨h1, h2⟩ K hK
  simp -implicitDefEqProofs only [push_cast, false_implies, reduceCtorEq, Classical.not_not, Nat.reduceAdd, Nat.reduceSub, Nat.reduceMul, Nat.reduceLeDiff, Nat.reduceLT, Nat.reduceEqDiff, Nat.reduceBEq, Nat.reduceBNe, Int.reduceNeg, Int.reduceToNat, Bool.or_false, Bool.false_or, Bool.or_true, Bool.true_or, BEq.rfl, Bool.not_eq_true, Bool.not_eq_false, decide_eq_true_eq, not_true_eq_false, not_false_eq_true, ite_true, ite_false, List.append_nil, and_assoc, Nat.mul_zero, Nat.zero_mul, b17_1, r17_2]
  refine ⟨fun h => ?_, fun h => ?_⟩
  · repeat (refine And.intro (by first | omega | trivial | (intros; omega)) ?_)
    refine ⟨fun hb => ?_, fun hg => ⟨by omega, by omega, ?_⟩⟩
    · have e : ¬ xs = ys := fun H => by subst H; exact hb rfl
      refine postF.mk' (fun _ => default) [some 0, some 1] ?_
      simp -implicitDefEqProofs only [push_cast, false_implies, reduceCtorEq, Classical.not_not, Nat.reduceAdd, Nat.reduceSub, Nat.reduceMul, Nat.reduceLeDiff, Nat.reduceLT, Nat.reduceEqDiff, Nat.reduceBEq, Nat.reduceBNe, Int.reduceNeg, Int.reduceToNat, Bool.or_false, Bool.false_or, Bool.or_true, Bool.true_or, BEq.rfl, Bool.not_eq_true, Bool.not_eq_false, decide_eq_true_eq, not_true_eq_false, not_false_eq_true, ite_true, ite_false, List.append_nil, and_assoc, Nat.mul_zero, Nat.zero_mul, fs17, e, decide_false]
    · refine hK (i + 1) ⟨by omega, fun j hj => ?_⟩ (show xs.length - (i + 1) < xs.length - i by omega) _ _ (Sub.pt ?_)
      · by_cases e : j = i
        · subst e; exact hg
        · exact h2 j (by omega)
      · simp -implicitDefEqProofs only [push_cast, false_implies, reduceCtorEq, Classical.not_not, Nat.reduceAdd, Nat.reduceSub, Nat.reduceMul, Nat.reduceLeDiff, Nat.reduceLT, Nat.reduceEqDiff, Nat.reduceBEq, Nat.reduceBNe, Int.reduceNeg, Int.reduceToNat, Bool.or_false, Bool.false_or, Bool.or_true, Bool.true_or, BEq.rfl, Bool.not_eq_true, Bool.not_eq_false, decide_eq_true_eq, not_true_eq_false, not_false_eq_true, ite_true, ite_false, List.append_nil, and_assoc, Nat.mul_zero, Nat.zero_mul]
  · have e : xs = ys := eq_of_rd hl fun j hj => h2 j (by omega)
    refine postF.mk' (fun _ => default) [some 0, some 1] ?_
    simp -implicitDefEqProofs only [push_cast, false_implies, reduceCtorEq, Classical.not_not, Nat.reduceAdd, Nat.reduceSub, Nat.reduceMul, Nat.reduceLeDiff, Nat.reduceLT, Nat.reduceEqDiff, Nat.reduceBEq, Nat.reduceBNe, Int.reduceNeg, Int.reduceToNat, Bool.or_false, Bool.false_or, Bool.or_true, Bool.true_or, BEq.rfl, Bool.not_eq_true, Bool.not_eq_false, decide_eq_true_eq, not_true_eq_false, not_false_eq_true, ite_true, ite_false, List.append_nil, and_assoc, Nat.mul_zero, Nat.zero_mul, fs17, e, decide_true]
def ent17 : Entry := spOf fs17 inv17
theorem e17 : EntryOk Try.prog 17 ent17 := entry_of ok17 inv17
@[push_cast] theorem ent17_app (us : List SV) (look : Look) (x : Nat → Xf.Loc) (k : Nat) : ent17 us look x k = spOf fs17 inv17 us look x k := rfl

/-! within -/
structure OutU where
  L1 : Xf.Loc
  n : Int
  m : Int
def fs65 : FS where
  A := OutU
  args := fun a => [.int .i64 a.n, .ptr 0 a.L1 0 0 0]
  mem := fun a => [some (.ro, a.L1, .cells [.int .i64 a.m])]
  pre := fun a => 0 ≤ a.m ∧ a.m ≤ 1099511627776
  res := fun a _ => .bool (outB (-a.m) a.m a.n)
  out := fun _ _ => []
  new := fun _ _ => []
def inv65 : List SV → Look → Option (OutU × List Nat)
  | [.int .i64 n, .ptr c1 _ 0 0 0], look => match rowC (look c1) with
    | some (L1, [.int .i64 m]) => some (⟨L1, n, m⟩, [c1])
    | _ => none
  | _, _ => none
attribute [push_cast] inv65
theorem ok65 : FSOk Try.prog 65 fs65 := by
  refine ⟨⟨_, Try.func65, by kernel_rfl, by kernel_rfl⟩, fun a => ⟨by simp [fs65, push_cast, noMine, argOwn, Chunk.frArg], by simp [fs65, push_cast, outOk, Chunk.ext], fun x => .inl (by simp [fs65, push_cast, frNew, frOut, Chunk.fr])⟩, fun a hp => ?_⟩
  obtain ⟨L1, n, m⟩ := a
  obtain ⟨h1, h2⟩ : 0 ≤ m ∧ m ≤ 1099511627776 := hp
  change Tri Try.prog 65 [.int .i64 n, .ptr 0 L1 0 0 0] [some (.ro, L1, .cells [.int .i64 m])] (postF fs65 ⟨L1, n, m⟩)
  refine tri_evS (hyp (l := []) (lp := []) trivial trivial) Try.func65 comp65 (rs := [.tmp 3]) (by rfl) Try.ntmps65 10 ?_
  simp -implicitDefEqProofs only [push_cast, false_implies, reduceCtorEq, Classical.not_not, Nat.reduceAdd, Nat.reduceSub, Nat.reduceMul, Nat.reduceLeDiff, Nat.reduceLT, Nat.reduceEqDiff, Nat.reduceBEq, Nat.reduceBNe, Int.reduceNeg, Int.reduceToNat, Bool.or_false, Bool.false_or, Bool.or_true, Bool.true_or, BEq.rfl, Bool.not_eq_true, Bool.not_eq_false, decide_eq_true_eq, not_true_eq_false, not_false_eq_true, ite_true, ite_false, List.append_nil, and_assoc, Nat.mul_zero, Nat.zero_mul, ir65]
  repeat (refine And.intro (by first | omega | trivial | (intros; omega)) ?_)
  refine postF.mk' (fun _ => default) [some 0] ?_
  simp -implicitDefEqProofs only [push_cast, false_implies, reduceCtorEq, Classical.not_not, Nat.reduceAdd, Nat.reduceSub, Nat.reduceMul, Nat.reduceLeDiff, Nat.reduceLT, Nat.reduceEqDiff, Nat.reduceBEq, Nat.reduceBNe, Int.reduceNeg, Int.reduceToNat, Bool.or_false, Bool.false_or, Bool.or_true, Bool.true_or, BEq.rfl, Bool.not_eq_true, Bool.not_eq_false, decide_eq_true_eq, not_true_eq_false, not_false_eq_true, ite_true, ite_false, List.append_nil, and_assoc, Nat.mul_zero, Nat.zero_mul, fs65, outB]
def ent65 : Entry := spOf fs65 inv65
theorem e65 : EntryOk Try.prog 65 ent65 := entry_of ok65 inv65
@[push_cast] theorem ent65_app (us : List SV) (look : Look) (x : Nat → Xf.Loc) (k : Nat) : ent65 us look x k = spOf fs65 inv65 us look x k := rfl
structure OutV where
  L : Xf.Loc
  xs : List Int
  L1 : Xf.Loc
  m : Int
def fs74u : FS where
  A := OutV
  args := fun a => [.sl 0 a.L 1 0 a.xs.length, .fn 65 [.ptr 1 a.L1 0 0 0]]
  mem := fun a => [some (.ro, a.L, .ints .i64 a.xs), some (.ro, a.L1, .cells [.int .i64 a.m])]
  pre := fun a => a.xs.length ≤ 140737488355328 ∧ 0 ≤ a.m ∧ a.m ≤ 1099511627776
  res := fun a _ => .int .i64 (firstB (outB (-a.m) a.m) a.xs)
  out := fun _ _ => []
  new := fun _ _ => []
def inv74u : List SV → Look → Option (OutV × List Nat)
  | [.sl c _ 1 0 _, .fn 65 [.ptr c1 _ 0 0 0]], look => match rowI (lkZ look (.ints .i64 []) c), rowC (look c1) with
    | some (L, .i64, xs), some (L1, [.int .i64 m]) => some (⟨L, xs, L1, m⟩, [c, c1])
    | _, _ => none
  | _, _ => none
attribute [push_cast] inv74u
theorem ok74u : FSOk Try.prog 74 fs74u := by
  refine ⟨⟨_, Try.func74, by kernel_rfl, by kernel_rfl⟩, fun a => ⟨by simp [fs74u, push_cast, noMine, argOwn, Chunk.frArg], by simp [fs74u, push_cast, outOk, Chunk.ext], fun x => .inl (by simp [fs74u, push_cast, frNew, frOut, Chunk.fr])⟩, fun a hp => ?_⟩
  obtain ⟨L, xs, L1, m⟩ := a
  obtain ⟨hp, hm1, hm2⟩ : xs.length ≤ 140737488355328 ∧ 0 ≤ m ∧ m ≤ 1099511627776 := hp
  change Tri Try.prog 74 [.sl 0 L 1 0 xs.length, .fn 65 [.ptr 1 L1 0 0 0]] [some (.ro, L, .ints .i64 xs), some (.ro, L1, .cells [.int .i64 m])] (postF fs74u ⟨L, xs, L1, m⟩)
  refine tri_evS (hyp (l := [(65, ent65)]) (lp := []) ⟨e65, trivial⟩ trivial) Try.func74 comp74 (rs := [.tmp 4]) (by rfl) Try.ntmps74 14 ?_
  simp -implicitDefEqProofs only [push_cast, false_implies, reduceCtorEq, Classical.not_not, Nat.reduceAdd, Nat.reduceSub, Nat.reduceMul, Nat.reduceLeDiff, Nat.reduceLT, Nat.reduceEqDiff, Nat.reduceBEq, Nat.reduceBNe, Int.reduceNeg, Int.reduceToNat, Bool.or_false, Bool.false_or, Bool.or_true, Bool.true_or, BEq.rfl, Bool.not_eq_true, Bool.not_eq_false, decide_eq_true_eq, not_true_eq_false, not_false_eq_true, ite_true, ite_false, List.append_nil, and_assoc, Nat.mul_zero, Nat.zero_mul, ir74]
  refine evS_loopU (A := Nat) kp74_1 kl74_1 (fun i => [(8, .int .i64 i)]) (fun _ => [])
    (fun i => i ≤ xs.length ∧ ∀ j, j < i → outB (-m) m (rd xs (j : Nat)) = false) (fun i => xs.length - i) 0 ⟨by omega, by omega⟩ (Sub.pt ?_) ?_
  · simp -implicitDefEqProofs only [push_cast, false_implies, reduceCtorEq, Classical.not_not, Nat.reduceAdd, Nat.reduceSub, Nat.reduceMul, Nat.reduceLeDiff, Nat.reduceLT, Nat.reduceEqDiff, Nat.reduceBEq, Nat.reduceBNe, Int.reduceNeg, Int.reduceToNat, Bool.or_false, Bool.false_or, Bool.or_true, Bool.true_or, BEq.rfl, Bool.not_eq_true, Bool.not_eq_false, decide_eq_true_eq, not_true_eq_false, not_false_eq_true, ite_true, ite_false, List.append_nil, and_assoc, Nat.mul_zero, Nat.zero_mul]
  intro i ⟨h1, h2⟩ K hK
  simp -implicitDefEqProofs only [push_cast, false_implies, reduceCtorEq, Classical.not_not, Nat.reduceAdd, Nat.reduceSub, Nat.reduceMul, Nat.reduceLeDiff, Nat.reduceLT, Nat.reduceEqDiff, Nat.reduceBEq, Nat.reduceBNe, Int.reduceNeg, Int.reduceToNat, Bool.or_false, Bool.false_or, Bool.or_true, Bool.true_or, BEq.rfl, Bool.not_eq_true, Bool.not_eq_false, decide_eq_true_eq, not_true_eq_false, not_false_eq_true, ite_true, ite_false, List.append_nil, and_assoc, Nat.mul_zero, Nat.zero_mul, b74_1, r74_2, fs65]
  refine ⟨fun h => ?_, fun h => ?_⟩
  · repeat (refine And.intro (by first | omega | trivial | (intros; omega)) ?_)
    refine ⟨fun hb => ?_, fun hb => ⟨by omega, by omega, ?_⟩⟩
    · have e := firstB_at (by omega) hb h2
      exact postF.mk' (fun _ => default) [some 0, some 1] (by simp -implicitDefEqProofs only [push_cast, false_implies, reduceCtorEq, Classical.not_not, Nat.reduceAdd, Nat.reduceSub, Nat.reduceMul, Nat.reduceLeDiff, Nat.reduceLT, Nat.reduceEqDiff, Nat.reduceBEq, Nat.reduceBNe, Int.reduceNeg, Int.reduceToNat, Bool.or_false, Bool.false_or, Bool.or_true, Bool.true_or, BEq.rfl, Bool.not_eq_true, Bool.not_eq_false, decide_eq_true_eq, not_true_eq_false, not_false_eq_true, ite_true, ite_false, List.append_nil, and_assoc, Nat.mul_zero, Nat.zero_mul, fs74u, e])
    · refine hK (i + 1) ⟨by omega, ?_⟩ (show xs.length - (i + 1) < xs.length - i by omega) _ _ (Sub.pt ?_)
      · intro j hj
        by_cases e : j = i
        · subst e; exact hb
        · exact h2 j (by omega)
      · simp -implicitDefEqProofs only [push_cast, false_implies, reduceCtorEq, Classical.not_not, Nat.reduceAdd, Nat.reduceSub, Nat.reduceMul, Nat.reduceLeDiff, Nat.reduceLT, Nat.reduceEqDiff, Nat.reduceBEq, Nat.reduceBNe, Int.reduceNeg, Int.reduceToNat, Bool.or_false, Bool.false_or, Bool.or_true, Bool.true_or, BEq.rfl, Bool.not_eq_true, Bool.not_eq_false, decide_eq_true_eq, not_true_eq_false, not_false_eq_true, ite_true, ite_false, List.append_nil, and_assoc, Nat.mul_zero, Nat.zero_mul]
  · have e := firstB_no (p := outB (-m) m) (xs := xs) (fun j hj => h2 j (by omega))
    exact postF.mk' (fun _ => default) [some 0, some 1] (by simp -implicitDefEqProofs only [push_cast, false_implies, reduceCtorEq, Classical.not_not, Nat.reduceAdd, Nat.reduceSub, Nat.reduceMul, Nat.reduceLeDiff, Nat.reduceLT, Nat.reduceEqDiff, Nat.reduceBEq, Nat.reduceBNe, Int.reduceNeg, Int.reduceToNat, Bool.or_false, Bool.false_or, Bool.or_true, Bool.true_or, BEq.rfl, Bool.not_eq_true, Bool.not_eq_false, decide_eq_true_eq, not_true_eq_false, not_false_eq_true, ite_true, ite_false, List.append_nil, and_assoc, Nat.mul_zero, Nat.zero_mul, fs74u, e])
def ent74u : Entry := spOf fs74u inv74u
theorem e74u : EntryOk Try.prog 74 ent74u := entry_of ok74u inv74u
@[push_cast] theorem ent74u_app (us : List SV) (look : Look) (x : Nat → Xf.Loc) (k : Nat) : ent74u us look x k = spOf fs74u inv74u us look x k := rfl
def fs64u : FS := { fs74u with res := fun a _ => .bool (decide (¬ AllIn (-a.m) a.m a.xs)) }
theorem ok64u : FSOk Try.prog 64 fs64u := by
  refine ⟨⟨_, Try.func64, by kernel_rfl, by kernel_rfl⟩, fun a => ⟨by simp [fs64u, fs74u, push_cast, noMine, argOwn, Chunk.frArg], by simp [fs64u, fs74u, push_cast, outOk, Chunk.ext], fun x => .inl (by simp [fs64u, fs74u, push_cast, frNew, frOut, Chunk.fr])⟩, fun a hp => ?_⟩
  obtain ⟨L, xs, L1, m⟩ := a
  change Tri Try.prog 64 [.sl 0 L 1 0 xs.length, .fn 65 [.ptr 1 L1 0 0 0]] [some (.ro, L, .ints .i64 xs), some (.ro, L1, .cells [.int .i64 m])] (postF fs64u ⟨L, xs, L1, m⟩)
  refine tri_evS (hyp (l := [(74, ent74u)]) (lp := []) ⟨e74u, trivial⟩ trivial) Try.func64 comp64 (rs := [.tmp 4]) (by rfl) Try.ntmps64 14 ?_
  obtain ⟨h1, h2, h3⟩ := hp
  simp -implicitDefEqProofs only [push_cast, false_implies, reduceCtorEq, Classical.not_not, Nat.reduceAdd, Nat.reduceSub, Nat.reduceMul, Nat.reduceLeDiff, Nat.reduceLT, Nat.reduceEqDiff, Nat.reduceBEq, Nat.reduceBNe, Int.reduceNeg, Int.reduceToNat, Bool.or_false, Bool.false_or, Bool.or_true, Bool.true_or, BEq.rfl, Bool.not_eq_true, Bool.not_eq_false, decide_eq_true_eq, not_true_eq_false, not_false_eq_true, ite_true, ite_false, List.append_nil, and_assoc, Nat.mul_zero, Nat.zero_mul, ir64, fs74u]
  exact ⟨h1, h2, h3, postF.mk' (fun _ => default) [some 0, some 1] (by simp -implicitDefEqProofs only [push_cast, false_implies, reduceCtorEq, Classical.not_not, Nat.reduceAdd, Nat.reduceSub, Nat.reduceMul, Nat.reduceLeDiff, Nat.reduceLT, Nat.reduceEqDiff, Nat.reduceBEq, Nat.reduceBNe, Int.reduceNeg, Int.reduceToNat, Bool.or_false, Bool.false_or, Bool.or_true, Bool.true_or, BEq.rfl, Bool.not_eq_true, Bool.not_eq_false, decide_eq_true_eq, not_true_eq_false, not_false_eq_true, ite_true, ite_false, List.append_nil, and_assoc, Nat.mul_zero, Nat.zero_mul, fs64u, fs74u, allIn_iff])⟩
def ent64u : Entry := spOf fs64u inv74u
theorem e64u : EntryOk Try.prog 64 ent64u := entry_of ok64u inv74u
@[push_cast] theorem ent64u_app (us : List SV) (look : Look) (x : Nat → Xf.Loc) (k : Nat) : ent64u us look x k = spOf fs64u inv74u us look x k := rfl
structure RowM where
  L : Xf.Loc
  xs : List Int
  m : Int
def fs37 : FS where
  A := RowM
  args := fun a => [.sl 0 a.L 1 0 a.xs.length, .int .i64 a.m]
  mem := fun a => [some (.ro, a.L, .ints .i64 a.xs)]
  pre := fun a => a.xs.length ≤ 140737488355328 ∧ 0 ≤ a.m ∧ a.m ≤ 1099511627776
  res := fun a _ => .bool (decide (AllIn (-a.m) a.m a.xs))
  out := fun _ _ => []
  new := fun _ _ => []
def inv37 : List SV → Look → Option (RowM × List Nat)
  | [.sl c _ 1 0 _, .int .i64 m], look => match rowI (lkZ look (.ints .i64 []) c) with
    | some (L, .i64, xs) => some (⟨L, xs, m⟩, [c])
    | _ => none
  | _, _ => none
attribute [push_cast] inv37
theorem ok37 : FSOk Try.prog 37 fs37 := by
  refine ⟨⟨_, Try.func37, by kernel_rfl, by kernel_rfl⟩, fun a => ⟨by simp [fs37, push_cast, noMine, argOwn, Chunk.frArg], by simp [fs37, push_cast, outOk, Chunk.ext], fun x => .inl (by simp [fs37, push_cast, frNew, frOut, Chunk.fr])⟩, fun a hp => ?_⟩
  obtain ⟨L, xs, m⟩ := a
  obtain ⟨h1, h2, h3⟩ : xs.length ≤ 140737488355328 ∧ 0 ≤ m ∧ m ≤ 1099511627776 := hp
  change Tri Try.prog 37 [.sl 0 L 1 0 xs.length, .int .i64 m] [some (.ro, L, .ints .i64 xs)] (postF fs37 ⟨L, xs, m⟩)
  refine tri_evS (hyp (l := [(64, ent64u)]) (lp := []) ⟨e64u, trivial⟩ trivial) Try.func37 comp37 (rs := [.tmp 4]) (by rfl) Try.ntmps37 14 ?_
  simp -implicitDefEqProofs only [push_cast, false_implies, reduceCtorEq, Classical.not_not, Nat.reduceAdd, Nat.reduceSub, Nat.reduceMul, Nat.reduceLeDiff, Nat.reduceLT, Nat.reduceEqDiff, Nat.reduceBEq, Nat.reduceBNe, Int.reduceNeg, Int.reduceToNat, Bool.or_false, Bool.false_or, Bool.or_true, Bool.true_or, BEq.rfl, Bool.not_eq_true, Bool.not_eq_false, decide_eq_true_eq, not_true_eq_false, not_false_eq_true, ite_true, ite_false, List.append_nil, and_assoc, Nat.mul_zero, Nat.zero_mul, ir37, fs64u, fs74u, h1, h2, h3]
  exact fun X => postF.mk' (fun _ => default) [some 0] (by simp -implicitDefEqProofs only [push_cast, false_implies, reduceCtorEq, Classical.not_not, Nat.reduceAdd, Nat.reduceSub, Nat.reduceMul, Nat.reduceLeDiff, Nat.reduceLT, Nat.reduceEqDiff, Nat.reduceBEq, Nat.reduceBNe, Int.reduceNeg, Int.reduceToNat, Bool.or_false, Bool.false_or, Bool.or_true, Bool.true_or, BEq.rfl, Bool.not_eq_true, Bool.not_eq_false, decide_eq_true_eq, not_true_eq_false, not_false_eq_true, ite_true, ite_false, List.append_nil, and_assoc, Nat.mul_zero, Nat.zero_mul, fs37])
def ent37 : Entry := spOf fs37 inv37
theorem e37 : EntryOk Try.prog 37 ent37 := entry_of ok37 inv37
@[push_cast] theorem ent37_app (us : List SV) (look : Look) (x : Nat → Xf.Loc) (k : Nat) : ent37 us look x k = spOf fs37 inv37 us look x k := rfl
end Go.Proofs.Ytefggfjblhniaaa
