import Derived.Test.YtefggfjblhniaaaYe
set_option linter.unusedVariables false
set_option linter.unusedSimpArgs false
/-! Wave: Line, Unline, isLine, Awake. -/
namespace Go.Proofs.Ytefggfjblhniaaa
open Xf
set_option maxRecDepth 4000
/- incunable/incunablelaw18.isLine : slots 31, labels 10..9; loop b16_1 keeps [18, 19, 20] -/
def b16_1 : IR :=
  .seq (.reg false [⟨some 21, none, ⟨[], []⟩, .bin 0 .lss (.t 20) (.t 19)⟩] [] []) (.seq (.cond (.t 21) (.skip) (.exit 0)) (.seq (.block 1 (.seq (.reg false [⟨some 22, none, ⟨[], []⟩, .idxS (.t 18) (.t 20) 1⟩,
    ⟨some 23, none, ⟨[], []⟩, .ld true none 0 0 (.t 22)⟩,
    ⟨some 6, none, ⟨[], []⟩, .mov (.t 23)⟩] [21, 22, 23] []) (.seq (.reg false [⟨some 24, none, ⟨[], []⟩, .mov (.t 6)⟩,
    ⟨some 25, none, ⟨[], []⟩, .bin 0 .lss (.t 24) (.k (.int .i64 (-16777216)))⟩,
    ⟨some 26, none, ⟨[], []⟩, .mov (.t 25)⟩,
    ⟨some 27, some (26, false), ⟨[], []⟩, .mov (.t 6)⟩,
    ⟨some 28, some (26, false), ⟨[], []⟩, .bin 0 .gtr (.t 27) (.k (.int .i64 16777216))⟩,
    ⟨some 29, none, ⟨[], []⟩, .pick (.t 26) (.k (.bool true)) (.t 28)⟩] [6, 24, 25, 26, 27, 28] []) (.cond (.t 29) (.seq (.reg false [⟨some 4, none, ⟨[], []⟩, .mov (.k (.bool false))⟩] [18, 19, 20, 29] []) (.ret)) (.skip))))) (.reg false [⟨some 30, none, ⟨[], []⟩, .bin 0 .add (.t 20) (.k (.int .i64 1))⟩,
    ⟨some 20, none, ⟨[], []⟩, .mov (.t 30)⟩] [4, 29, 30] [])))
def r16_2 : IR :=
  .seq (.reg false [⟨some 4, none, ⟨[], []⟩, .mov (.k (.bool true))⟩] [18, 19, 20] []) (.ret)
def ir16 : IR :=
  .seq (.reg false [⟨some 4, none, ⟨[], []⟩, .mov (.k (.bool false))⟩] [4] []) (.seq (.seq (.reg false [⟨some 7, none, ⟨[], []⟩, .mov (.t 0)⟩,
    ⟨some 8, none, ⟨[], []⟩, .bin 0 .neq (.t 7) (.k (.int .i64 0))⟩,
    ⟨some 9, none, ⟨[], []⟩, .mov (.t 8)⟩,
    ⟨some 10, some (9, true), ⟨[], []⟩, .mov (.t 0)⟩,
    ⟨some 11, some (9, true), ⟨[], []⟩, .bin 0 .neq (.t 10) (.k (.int .i64 1))⟩,
    ⟨some 12, none, ⟨[], []⟩, .pick (.t 9) (.t 11) (.k (.bool false))⟩,
    ⟨some 13, none, ⟨[], []⟩, .mov (.t 12)⟩,
    ⟨some 14, some (13, false), ⟨[], []⟩, .mov (.t 1)⟩,
    ⟨some 15, some (13, false), ⟨[], []⟩, .len (.t 14)⟩,
    ⟨some 16, some (13, false), ⟨[], []⟩, .bin 0 .gtr (.t 15) (.k (.int .i64 8192))⟩,
    ⟨some 17, none, ⟨[], []⟩, .pick (.t 13) (.k (.bool true)) (.t 16)⟩] [0, 7, 8, 9, 10, 11, 12, 13, 14, 15, 16] []) (.cond (.t 17) (.seq (.reg false [⟨some 4, none, ⟨[], []⟩, .mov (.k (.bool false))⟩] [1, 17] []) (.ret)) (.skip))) (.seq (.seq (.reg false [⟨some 18, none, ⟨[], []⟩, .mov (.t 1)⟩,
    ⟨some 19, none, ⟨[], []⟩, .len (.t 18)⟩,
    ⟨some 20, none, ⟨[], []⟩, .mov (.k (.int .i64 0))⟩] [1, 4, 17] []) (.block 0 (.loop b16_1))) (r16_2)))
def kp16_1 : List Nat := [18, 19, 20]
def kl16_1 : List Nat := []
attribute [push_cast] kp16_1 kl16_1
theorem comp16 : (Try.f16.body.bind fun c => compC tab isP chkAll ir16 c) = some ir16 := by kernel_rfl
/- incunable/wave.Line : slots 22, labels 10..17 -/
def ir14 : IR :=
  .seq (.reg false [⟨some 4, none, ⟨[], []⟩, .mov (.k nilSV)⟩,
    ⟨some 5, none, ⟨[], []⟩, .mov (.k (.int .i64 0))⟩] [4, 5] []) (.seq (.seq (.reg false [⟨some 6, none, ⟨[], []⟩, .mov (.t 0)⟩,
    ⟨some 7, none, ⟨[], []⟩, .callp 36 [.t 6]⟩,
    ⟨some 8, none, ⟨[], []⟩, .not (.t 7)⟩,
    ⟨some 9, none, ⟨[], []⟩, .mov (.t 8)⟩,
    ⟨some 10, some (9, false), ⟨[], []⟩, .mov (.t 1)⟩,
    ⟨some 11, some (9, false), ⟨[], []⟩, .len (.t 10)⟩,
    ⟨some 12, some (9, false), ⟨[], []⟩, .bin 0 .gtr (.t 11) (.k (.int .i64 8192))⟩,
    ⟨some 13, none, ⟨[], []⟩, .pick (.t 9) (.k (.bool true)) (.t 12)⟩,
    ⟨some 14, none, ⟨[], []⟩, .mov (.t 13)⟩,
    ⟨some 15, some (14, false), ⟨[], []⟩, .mov (.t 1)⟩,
    ⟨some 16, some (14, false), ⟨[], []⟩, .call (some 4) 10 37 [.t 15, .k (.int .i64 16777216)]⟩,
    ⟨some 17, some (14, false), ⟨[], []⟩, .not (.t 16)⟩,
    ⟨some 18, none, ⟨[], []⟩, .pick (.t 14) (.k (.bool true)) (.t 17)⟩] [6, 7, 8, 9, 10, 11, 12, 13, 14, 15, 16, 17] []) (.cond (.t 18) (.seq (.reg false [⟨some 4, none, ⟨[], []⟩, .mov (.k nilSV)⟩,
    ⟨some 5, none, ⟨[], []⟩, .mov (.k (.int .i64 2))⟩] [0, 1, 18] []) (.ret)) (.skip))) (.seq (.reg false [⟨some 19, none, ⟨[], []⟩, .mov (.t 0)⟩,
    ⟨some 20, none, ⟨[], []⟩, .mov (.t 1)⟩,
    ⟨some 21, none, ⟨[], []⟩, .call (some 4) 14 38 [.t 19, .t 20]⟩,
    ⟨some 4, none, ⟨[], []⟩, .mov (.t 21)⟩,
    ⟨some 5, none, ⟨[], []⟩, .mov (.k (.int .i64 0))⟩] [0, 1, 18, 19, 20, 21] []) (.ret)))
theorem comp14 : (Try.f14.body.bind fun c => compC tab isP chkAll ir14 c) = some ir14 := by kernel_rfl
/- incunable/wave.Unline : slots 22, labels 10..17 -/
def ir15 : IR :=
  .seq (.reg false [⟨some 4, none, ⟨[], []⟩, .mov (.k nilSV)⟩,
    ⟨some 5, none, ⟨[], []⟩, .mov (.k (.int .i64 0))⟩] [4, 5] []) (.seq (.seq (.reg false [⟨some 6, none, ⟨[], []⟩, .mov (.t 0)⟩,
    ⟨some 7, none, ⟨[], []⟩, .callp 36 [.t 6]⟩,
    ⟨some 8, none, ⟨[], []⟩, .not (.t 7)⟩,
    ⟨some 9, none, ⟨[], []⟩, .mov (.t 8)⟩,
    ⟨some 10, some (9, false), ⟨[], []⟩, .mov (.t 1)⟩,
    ⟨some 11, some (9, false), ⟨[], []⟩, .len (.t 10)⟩,
    ⟨some 12, some (9, false), ⟨[], []⟩, .bin 0 .gtr (.t 11) (.k (.int .i64 8192))⟩,
    ⟨some 13, none, ⟨[], []⟩, .pick (.t 9) (.k (.bool true)) (.t 12)⟩,
    ⟨some 14, none, ⟨[], []⟩, .mov (.t 13)⟩,
    ⟨some 15, some (14, false), ⟨[], []⟩, .mov (.t 1)⟩,
    ⟨some 16, some (14, false), ⟨[], []⟩, .call (some 4) 10 37 [.t 15, .k (.int .i64 16777216)]⟩,
    ⟨some 17, some (14, false), ⟨[], []⟩, .not (.t 16)⟩,
    ⟨some 18, none, ⟨[], []⟩, .pick (.t 14) (.k (.bool true)) (.t 17)⟩] [6, 7, 8, 9, 10, 11, 12, 13, 14, 15, 16, 17] []) (.cond (.t 18) (.seq (.reg false [⟨some 4, none, ⟨[], []⟩, .mov (.k nilSV)⟩,
    ⟨some 5, none, ⟨[], []⟩, .mov (.k (.int .i64 2))⟩] [0, 1, 18] []) (.ret)) (.skip))) (.seq (.reg false [⟨some 19, none, ⟨[], []⟩, .mov (.t 0)⟩,
    ⟨some 20, none, ⟨[], []⟩, .mov (.t 1)⟩,
    ⟨some 21, none, ⟨[], []⟩, .call (some 4) 14 39 [.t 19, .t 20]⟩,
    ⟨some 4, none, ⟨[], []⟩, .mov (.t 21)⟩,
    ⟨some 5, none, ⟨[], []⟩, .mov (.k (.int .i64 0))⟩] [0, 1, 18, 19, 20, 21] []) (.ret)))
theorem comp15 : (Try.f15.body.bind fun c => compC tab isP chkAll ir15 c) = some ir15 := by kernel_rfl
set_option maxRecDepth 512

structure LnA where
  kind : Int
  L : Xf.Loc
  xs : List Int
def lnOk (kind : Int) (xs : List Int) : Prop := (kind = 0 ∨ kind = 1) ∧ xs.length ≤ 8192 ∧ AllIn (-16777216) 16777216 xs
instance (kind : Int) (xs : List Int) : Decidable (lnOk kind xs) := by unfold lnOk; infer_instance
def inv16 : List SV → Look → Option (LnA × List Nat)
  | [.int .i64 k, .sl c _ 1 0 _], look => match rowI (lkZ look (.ints .i64 []) c) with
    | some (L, .i64, xs) => some (⟨k, L, xs⟩, [c])
    | _ => none
  | _, _ => none
attribute [push_cast] inv16
def fs16 : FS where
  A := LnA
  args := fun a => [.int .i64 a.kind, .sl 0 a.L 1 0 a.xs.length]
  mem := fun a => [some (.ro, a.L, .ints .i64 a.xs)]
  pre := fun a => a.xs.length ≤ 140737488355328
  res := fun a _ => .bool (decide (lnOk a.kind a.xs))
  out := fun _ _ => []
  new := fun _ _ => []
theorem ok16 : FSOk Try.prog 16 fs16 := by
  refine ⟨⟨_, Try.func16, by kernel_rfl, by kernel_rfl⟩, fun a => ⟨by simp [fs16, push_cast, noMine, argOwn, Chunk.frArg], by simp [fs16, push_cast, outOk, Chunk.ext], fun x => .inl (by simp [fs16, push_cast, frNew, frOut, Chunk.fr])⟩, fun a hp => ?_⟩
  obtain ⟨kind, L, xs⟩ := a
  change xs.length ≤ 140737488355328 at hp
  change Tri Try.prog 16 [.int .i64 kind, .sl 0 L 1 0 xs.length] [some (.ro, L, .ints .i64 xs)] (postF fs16 ⟨kind, L, xs⟩)
  refine tri_evS (hyp (l := []) (lp := []) trivial trivial) Try.func16 comp16 (rs := [.tmp 4]) (by rfl) Try.ntmps16 10 ?_
  simp -implicitDefEqProofs only [push_cast, false_implies, reduceCtorEq, Classical.not_not, Nat.reduceAdd, Nat.reduceSub, Nat.reduceMul, Nat.reduceLeDiff, Nat.reduceLT, Nat.reduceEqDiff, Nat.reduceBEq, Nat.reduceBNe, Int.reduceNeg, Int.reduceToNat, Bool.or_false, Bool.false_or, Bool.or_true, Bool.true_or, BEq.rfl, Bool.not_eq_true, Bool.not_eq_false, decide_eq_true_eq, not_true_eq_false, not_false_eq_true, ite_true, ite_false, List.append_nil, and_assoc, Nat.mul_zero, Nat.zero_mul, ir16]
  refine ⟨fun hn => ?_, fun hy => ?_⟩
  · have e : ¬ lnOk kind xs := fun H => by
      obtain ⟨q1, q2, _⟩ := H
      omega
    refine postF.mk' (fun _ => default) [some 0] ?_
    simp -implicitDefEqProofs only [push_cast, false_implies, reduceCtorEq, Classical.not_not, Nat.reduceAdd, Nat.reduceSub, Nat.reduceMul, Nat.reduceLeDiff, Nat.reduceLT, Nat.reduceEqDiff, Nat.reduceBEq, Nat.reduceBNe, Int.reduceNeg, Int.reduceToNat, Bool.or_false, Bool.false_or, Bool.or_true, Bool.true_or, BEq.rfl, Bool.not_eq_true, Bool.not_eq_false, decide_eq_true_eq, not_true_eq_false, not_false_eq_true, ite_true, ite_false, List.append_nil, and_assoc, Nat.mul_zero, Nat.zero_mul, fs16, e, decide_false]
  have hk : kind = 0 ∨ kind = 1 := by omega
  have hl : xs.length ≤ 8192 := by omega
  refine evS_loopU (A := Nat) kp16_1 kl16_1 (fun i => [(20, .int .i64 i)]) (fun _ => [])
    (fun i => i ≤ xs.length ∧ ∀ j, j < i → -16777216 ≤ rd xs (j : Nat) ∧ rd xs (j : Nat) ≤ 16777216) (fun i => xs.length - i) 0 ⟨by omega, by omega⟩ (Sub.pt ?_) ?_
  · simp -implicitDefEqProofs only [push_cast, false_implies, reduceCtorEq, Classical.not_not, Nat.reduceAdd, Nat.reduceSub, Nat.reduceMul, Nat.reduceLeDiff, Nat.reduceLT, Nat.reduceEqDiff, Nat.reduceBEq, Nat.reduceBNe, Int.reduceNeg, Int.reduceToNat, Bool.or_false, Bool.false_or, Bool.or_true, Bool.true_or, BEq.rfl, Bool.not_eq_true, Bool.not_eq_false, decide_eq_true_eq, not_true_eq_false, not_false_eq_true, ite_true, ite_false, List.append_nil, and_assoc, Nat.mul_zero, Nat.zero_mul]
  intro i ⟨h1, h2⟩ K hK
  simp -implicitDefEqProofs only [push_cast, false_implies, reduceCtorEq, Classical.not_not, Nat.reduceAdd, Nat.reduceSub, Nat.reduceMul, Nat.reduceLeDiff, Nat.reduceLT, Nat.reduceEqDiff, Nat.reduceBEq, Nat.reduceBNe, Int.reduceNeg, Int.reduceToNat, Bool.or_false, Bool.false_or, Bool.or_true, Bool.true_or, BEq.rfl, Bool.not_eq_true, Bool.not_eq_false, decide_eq_true_eq, not_true_eq_false, not_false_eq_true, ite_true, ite_false, List.append_nil, and_assoc, Nat.mul_zero, Nat.zero_mul, b16_1, r16_2]
  refine ⟨fun hl => ?_, fun hl => ?_⟩
  · repeat (refine And.intro (by first | omega | trivial | (intros; omega)) ?_)
    refine ⟨fun hb => ?_, fun hg => ⟨by omega, by omega, ?_⟩⟩
    · have e : ¬ lnOk kind xs := fun H => by
        have := allIn_rd.1 H.2.2 i (show i < xs.length by omega)
        omega
      refine postF.mk' (fun _ => default) [some 0] ?_
      simp -implicitDefEqProofs only [push_cast, false_implies, reduceCtorEq, Classical.not_not, Nat.reduceAdd, Nat.reduceSub, Nat.reduceMul, Nat.reduceLeDiff, Nat.reduceLT, Nat.reduceEqDiff, Nat.reduceBEq, Nat.reduceBNe, Int.reduceNeg, Int.reduceToNat, Bool.or_false, Bool.false_or, Bool.or_true, Bool.true_or, BEq.rfl, Bool.not_eq_true, Bool.not_eq_false, decide_eq_true_eq, not_true_eq_false, not_false_eq_true, ite_true, ite_false, List.append_nil, and_assoc, Nat.mul_zero, Nat.zero_mul, fs16, e, decide_false]
    · refine hK (i + 1) ⟨by omega, fun j hj => ?_⟩ (show xs.length - (i + 1) < xs.length - i by omega) _ _ (Sub.pt ?_)
      · by_cases e : j = i
        · subst e; omega
        · exact h2 j (by omega)
      · simp -implicitDefEqProofs only [push_cast, false_implies, reduceCtorEq, Classical.not_not, Nat.reduceAdd, Nat.reduceSub, Nat.reduceMul, Nat.reduceLeDiff, Nat.reduceLT, Nat.reduceEqDiff, Nat.reduceBEq, Nat.reduceBNe, Int.reduceNeg, Int.reduceToNat, Bool.or_false, Bool.false_or, Bool.or_true, Bool.true_or, BEq.rfl, Bool.not_eq_true, Bool.not_eq_false, decide_eq_true_eq, not_true_eq_false, not_false_eq_true, ite_true, ite_false, List.append_nil, and_assoc, Nat.mul_zero, Nat.zero_mul]
  · have e : lnOk kind xs := ⟨hk, ‹_›, allIn_rd.2 fun j (hj : j < xs.length) => h2 j (by omega)⟩
    refine postF.mk' (fun _ => default) [some 0] ?_
    simp -implicitDefEqProofs only [push_cast, false_implies, reduceCtorEq, Classical.not_not, Nat.reduceAdd, Nat.reduceSub, Nat.reduceMul, Nat.reduceLeDiff, Nat.reduceLT, Nat.reduceEqDiff, Nat.reduceBEq, Nat.reduceBNe, Int.reduceNeg, Int.reduceToNat, Bool.or_false, Bool.false_or, Bool.or_true, Bool.true_or, BEq.rfl, Bool.not_eq_true, Bool.not_eq_false, decide_eq_true_eq, not_true_eq_false, not_false_eq_true, ite_true, ite_false, List.append_nil, and_assoc, Nat.mul_zero, Nat.zero_mul, fs16, e, decide_true]
def ent16 : Entry := spOf fs16 inv16
theorem e16 : EntryOk Try.prog 16 ent16 := entry_of ok16 inv16
@[push_cast] theorem ent16_app (us : List SV) (look : Look) (x : Nat → Xf.Loc) (k : Nat) : ent16 us look x k = spOf fs16 inv16 us look x k := rfl
def lnR (kind : Int) (xs : List Int) : List Int := if lnOk kind xs then lineL kind xs.length (fun j => rd xs j) else []
def unR (kind : Int) (xs : List Int) : List Int := if lnOk kind xs then unL kind xs.length (fun j => rd xs j) else []
def fs14 : FS where
  A := LnA
  args := fun a => [.int .i64 a.kind, .sl 0 a.L 1 0 a.xs.length]
  mem := fun a => [some (.ro, a.L, .ints .i64 a.xs)]
  pre := fun a => a.xs.length ≤ 140737488355328
  res := fun a x => .tup [.sl 1 (lx (lnOk a.kind a.xs) x 0) 1 0 (lnR a.kind a.xs).length, .int .i64 (if lnOk a.kind a.xs then 0 else 2)]
  out := fun _ _ => []
  new := fun a x => [(lx (lnOk a.kind a.xs) x 0, .ints .i64 (lnR a.kind a.xs))]
theorem ok14 : FSOk Try.prog 14 fs14 := by
  refine ⟨⟨_, Try.func14, by kernel_rfl, by kernel_rfl⟩, fun a => ⟨by simp [fs14, push_cast, noMine, argOwn, Chunk.frArg], by simp [fs14, push_cast, outOk, Chunk.ext], fun x => .inl (by simp [fs14, push_cast, frNew, frOut, Chunk.fr])⟩, fun a hp => ?_⟩
  obtain ⟨kind, L, xs⟩ := a
  change xs.length ≤ 140737488355328 at hp
  change Tri Try.prog 14 [.int .i64 kind, .sl 0 L 1 0 xs.length] [some (.ro, L, .ints .i64 xs)] (postF fs14 ⟨kind, L, xs⟩)
  refine tri_evS (hyp (l := [(37, ent37), (38, ent38)]) (lp := [(36, kindF)]) ⟨e37, e38, trivial⟩ ⟨p36, trivial⟩) Try.func14 comp14 (rs := [.tmp 4, .tmp 5]) (by rfl) Try.ntmps14 18 ?_
  simp -implicitDefEqProofs only [push_cast, false_implies, reduceCtorEq, Classical.not_not, Nat.reduceAdd, Nat.reduceSub, Nat.reduceMul, Nat.reduceLeDiff, Nat.reduceLT, Nat.reduceEqDiff, Nat.reduceBEq, Nat.reduceBNe, Int.reduceNeg, Int.reduceToNat, Bool.or_false, Bool.false_or, Bool.or_true, Bool.true_or, BEq.rfl, Bool.not_eq_true, Bool.not_eq_false, decide_eq_true_eq, not_true_eq_false, not_false_eq_true, ite_true, ite_false, List.append_nil, and_assoc, Nat.mul_zero, Nat.zero_mul, ir14, fs37, fs38, hp]
  refine ⟨fun q => ⟨q, by omega, by omega⟩, fun hn => ?_, fun hy X => ?_⟩
  · have e : ¬ lnOk kind xs := fun H => by
      obtain ⟨q1, q2, q3⟩ := H
      simp only [q1, q3, not_true_eq_false, false_or, or_false] at hn
      omega
    refine postF.mk' (fun _ => default) [some 0, none] ?_
    simp -implicitDefEqProofs only [push_cast, false_implies, reduceCtorEq, Classical.not_not, Nat.reduceAdd, Nat.reduceSub, Nat.reduceMul, Nat.reduceLeDiff, Nat.reduceLT, Nat.reduceEqDiff, Nat.reduceBEq, Nat.reduceBNe, Int.reduceNeg, Int.reduceToNat, Bool.or_false, Bool.false_or, Bool.or_true, Bool.true_or, BEq.rfl, Bool.not_eq_true, Bool.not_eq_false, decide_eq_true_eq, not_true_eq_false, not_false_eq_true, ite_true, ite_false, List.append_nil, and_assoc, Nat.mul_zero, Nat.zero_mul, fs14, lnR, e, if_false, lx, List.length_nil]
  · have q3 : AllIn (-16777216) 16777216 xs := Classical.byContradiction fun q => hy (.inr q)
    have q1 : kind = 0 ∨ kind = 1 := Classical.byContradiction fun q => hy (.inl (.inl q))
    have q2 : xs.length ≤ 8192 := by
      have : ¬ 8192 < (xs.length : Int) := fun q => hy (.inl (.inr q))
      omega
    have e : lnOk kind xs := ⟨q1, q2, q3⟩
    have hA : AllIn (-1073741824) 1073741824 xs := fun n hn => by have := q3 n hn; omega
    simp only [Int.toNat_natCast]
    repeat (refine And.intro (by first | omega | trivial | (intros; omega)) ?_)
    refine postF.mk' (fun _ => X 2 14) [some 0, some 14] ?_
    simp -implicitDefEqProofs only [push_cast, false_implies, reduceCtorEq, Classical.not_not, Nat.reduceAdd, Nat.reduceSub, Nat.reduceMul, Nat.reduceLeDiff, Nat.reduceLT, Nat.reduceEqDiff, Nat.reduceBEq, Nat.reduceBNe, Int.reduceNeg, Int.reduceToNat, Bool.or_false, Bool.false_or, Bool.or_true, Bool.true_or, BEq.rfl, Bool.not_eq_true, Bool.not_eq_false, decide_eq_true_eq, not_true_eq_false, not_false_eq_true, ite_true, ite_false, List.append_nil, and_assoc, Nat.mul_zero, Nat.zero_mul, fs14, lnR, e, if_true, lx, lineL_length]
def ent14 : Entry := spOf fs14 inv16
theorem e14 : EntryOk Try.prog 14 ent14 := entry_of ok14 inv16
@[push_cast] theorem ent14_app (us : List SV) (look : Look) (x : Nat → Xf.Loc) (k : Nat) : ent14 us look x k = spOf fs14 inv16 us look x k := rfl
def fs15 : FS where
  A := LnA
  args := fun a => [.int .i64 a.kind, .sl 0 a.L 1 0 a.xs.length]
  mem := fun a => [some (.ro, a.L, .ints .i64 a.xs)]
  pre := fun a => a.xs.length ≤ 140737488355328
  res := fun a x => .tup [.sl 1 (lx (lnOk a.kind a.xs) x 0) 1 0 (unR a.kind a.xs).length, .int .i64 (if lnOk a.kind a.xs then 0 else 2)]
  out := fun _ _ => []
  new := fun a x => [(lx (lnOk a.kind a.xs) x 0, .ints .i64 (unR a.kind a.xs))]
theorem ok15 : FSOk Try.prog 15 fs15 := by
  refine ⟨⟨_, Try.func15, by kernel_rfl, by kernel_rfl⟩, fun a => ⟨by simp [fs15, push_cast, noMine, argOwn, Chunk.frArg], by simp [fs15, push_cast, outOk, Chunk.ext], fun x => .inl (by simp [fs15, push_cast, frNew, frOut, Chunk.fr])⟩, fun a hp => ?_⟩
  obtain ⟨kind, L, xs⟩ := a
  change xs.length ≤ 140737488355328 at hp
  change Tri Try.prog 15 [.int .i64 kind, .sl 0 L 1 0 xs.length] [some (.ro, L, .ints .i64 xs)] (postF fs15 ⟨kind, L, xs⟩)
  refine tri_evS (hyp (l := [(37, ent37), (39, ent39)]) (lp := [(36, kindF)]) ⟨e37, e39, trivial⟩ ⟨p36, trivial⟩) Try.func15 comp15 (rs := [.tmp 4, .tmp 5]) (by rfl) Try.ntmps15 18 ?_
  simp -implicitDefEqProofs only [push_cast, false_implies, reduceCtorEq, Classical.not_not, Nat.reduceAdd, Nat.reduceSub, Nat.reduceMul, Nat.reduceLeDiff, Nat.reduceLT, Nat.reduceEqDiff, Nat.reduceBEq, Nat.reduceBNe, Int.reduceNeg, Int.reduceToNat, Bool.or_false, Bool.false_or, Bool.or_true, Bool.true_or, BEq.rfl, Bool.not_eq_true, Bool.not_eq_false, decide_eq_true_eq, not_true_eq_false, not_false_eq_true, ite_true, ite_false, List.append_nil, and_assoc, Nat.mul_zero, Nat.zero_mul, ir15, fs37, fs39, hp]
  refine ⟨fun q => ⟨q, by omega, by omega⟩, fun hn => ?_, fun hy X => ?_⟩
  · have e : ¬ lnOk kind xs := fun H => by
      obtain ⟨q1, q2, q3⟩ := H
      simp only [q1, q3, not_true_eq_false, false_or, or_false] at hn
      omega
    refine postF.mk' (fun _ => default) [some 0, none] ?_
    simp -implicitDefEqProofs only [push_cast, false_implies, reduceCtorEq, Classical.not_not, Nat.reduceAdd, Nat.reduceSub, Nat.reduceMul, Nat.reduceLeDiff, Nat.reduceLT, Nat.reduceEqDiff, Nat.reduceBEq, Nat.reduceBNe, Int.reduceNeg, Int.reduceToNat, Bool.or_false, Bool.false_or, Bool.or_true, Bool.true_or, BEq.rfl, Bool.not_eq_true, Bool.not_eq_false, decide_eq_true_eq, not_true_eq_false, not_false_eq_true, ite_true, ite_false, List.append_nil, and_assoc, Nat.mul_zero, Nat.zero_mul, fs15, unR, e, if_false, lx, List.length_nil]
  · have q3 : AllIn (-16777216) 16777216 xs := Classical.byContradiction fun q => hy (.inr q)
    have q1 : kind = 0 ∨ kind = 1 := Classical.byContradiction fun q => hy (.inl (.inl q))
    have q2 : xs.length ≤ 8192 := by
      have : ¬ 8192 < (xs.length : Int) := fun q => hy (.inl (.inr q))
      omega
    have e : lnOk kind xs := ⟨q1, q2, q3⟩
    have hA : AllIn (-1099511627776) 1099511627776 xs := fun n hn => by have := q3 n hn; omega
    simp only [Int.toNat_natCast]
    repeat (refine And.intro (by first | omega | trivial | (intros; omega)) ?_)
    refine postF.mk' (fun _ => X 2 14) [some 0, some 14] ?_
    simp -implicitDefEqProofs only [push_cast, false_implies, reduceCtorEq, Classical.not_not, Nat.reduceAdd, Nat.reduceSub, Nat.reduceMul, Nat.reduceLeDiff, Nat.reduceLT, Nat.reduceEqDiff, Nat.reduceBEq, Nat.reduceBNe, Int.reduceNeg, Int.reduceToNat, Bool.or_false, Bool.false_or, Bool.or_true, Bool.true_or, BEq.rfl, Bool.not_eq_true, Bool.not_eq_false, decide_eq_true_eq, not_true_eq_false, not_false_eq_true, ite_true, ite_false, List.append_nil, and_assoc, Nat.mul_zero, Nat.zero_mul, fs15, unR, e, if_true, lx, unL_length]
def ent15 : Entry := spOf fs15 inv16
theorem e15 : EntryOk Try.prog 15 ent15 := entry_of ok15 inv16
@[push_cast] theorem ent15_app (us : List SV) (look : Look) (x : Nat → Xf.Loc) (k : Nat) : ent15 us look x k = spOf fs15 inv16 us look x k := rfl
end Go.Proofs.Ytefggfjblhniaaa
