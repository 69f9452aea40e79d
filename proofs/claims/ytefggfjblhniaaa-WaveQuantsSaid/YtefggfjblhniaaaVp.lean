import Derived.Test.YtefggfjblhniaaaVn
set_option linter.unusedVariables false
set_option linter.unusedSimpArgs false
/-! The reference's planes and Back; Grey. -/
namespace Go.Proofs.Ytefggfjblhniaaa
open Xf
set_option maxRecDepth 4000
/- incunable/incunableref17.IsPlane : slots 42, labels 10..10; loop b25_1 keeps [1, 3] -/
def b25_1 : IR :=
  .seq (.seq (.reg false [⟨some 21, none, ⟨[], []⟩, .mov (.t 3)⟩,
    ⟨some 22, none, ⟨[], []⟩, .fld (.t 1) 2⟩,
    ⟨some 23, none, ⟨[], []⟩, .ld false none 0 0 (.t 22)⟩,
    ⟨some 24, none, ⟨[], []⟩, .len (.t 23)⟩,
    ⟨some 25, none, ⟨[], []⟩, .bin 0 .lss (.t 21) (.t 24)⟩] [21, 22, 23, 24] []) (.cond (.t 25) (.skip) (.exit 0))) (.seq (.block 1 (.seq (.reg false [⟨some 28, none, ⟨[], []⟩, .fld (.t 1) 2⟩,
    ⟨some 29, none, ⟨[], []⟩, .ld false none 0 0 (.t 28)⟩,
    ⟨some 30, none, ⟨[], []⟩, .mov (.t 3)⟩,
    ⟨some 31, none, ⟨[], []⟩, .idxS (.t 29) (.t 30) 1⟩,
    ⟨some 32, none, ⟨[], []⟩, .ld true none 0 0 (.t 31)⟩,
    ⟨some 33, none, ⟨[], []⟩, .bin 0 .lss (.t 32) (.k (.int .i64 (-16777216)))⟩,
    ⟨some 34, none, ⟨[], []⟩, .mov (.t 33)⟩,
    ⟨some 35, some (34, false), ⟨[], []⟩, .fld (.t 1) 2⟩,
    ⟨some 36, some (34, false), ⟨[], []⟩, .ld false none 0 0 (.t 35)⟩,
    ⟨some 37, some (34, false), ⟨[], []⟩, .mov (.t 3)⟩,
    ⟨some 38, some (34, false), ⟨[], []⟩, .idxS (.t 36) (.t 37) 1⟩,
    ⟨some 39, some (34, false), ⟨[], []⟩, .ld true none 0 0 (.t 38)⟩,
    ⟨some 40, some (34, false), ⟨[], []⟩, .bin 0 .gtr (.t 39) (.k (.int .i64 16777216))⟩,
    ⟨some 41, none, ⟨[], []⟩, .pick (.t 34) (.k (.bool true)) (.t 40)⟩] [25, 28, 29, 30, 31, 32, 33, 34, 35, 36, 37, 38, 39, 40] []) (.cond (.t 41) (.seq (.reg false [⟨some 2, none, ⟨[], []⟩, .mov (.k (.bool false))⟩] [1, 3, 41] []) (.ret)) (.skip)))) (.reg false [⟨some 26, none, ⟨[], []⟩, .mov (.t 3)⟩,
    ⟨some 27, none, ⟨[], []⟩, .bin 0 .add (.t 26) (.k (.int .i64 1))⟩,
    ⟨some 3, none, ⟨[], []⟩, .mov (.t 27)⟩] [2, 26, 27, 41] []))
def r25_2 : IR :=
  .seq (.reg false [⟨some 2, none, ⟨[], []⟩, .mov (.k (.bool true))⟩] [1, 3] []) (.ret)
def ir25 : IR :=
  .seq (.reg false [⟨some 1, none, ⟨[], []⟩, .box 10 (.t 0)⟩,
    ⟨some 2, none, ⟨[], []⟩, .mov (.k (.bool false))⟩] [0, 2] []) (.seq (.seq (.reg false [⟨some 4, none, ⟨[], []⟩, .fld (.t 1) 0⟩,
    ⟨some 5, none, ⟨[], []⟩, .ld false none 0 0 (.t 4)⟩,
    ⟨some 6, none, ⟨[], []⟩, .fld (.t 1) 1⟩,
    ⟨some 7, none, ⟨[], []⟩, .ld false none 0 0 (.t 6)⟩,
    ⟨some 8, none, ⟨[], []⟩, .callp 46 [.t 5, .t 7]⟩,
    ⟨some 9, none, ⟨[], []⟩, .not (.t 8)⟩,
    ⟨some 10, none, ⟨[], []⟩, .mov (.t 9)⟩,
    ⟨some 11, some (10, false), ⟨[], []⟩, .fld (.t 1) 2⟩,
    ⟨some 12, some (10, false), ⟨[], []⟩, .ld false none 0 0 (.t 11)⟩,
    ⟨some 13, some (10, false), ⟨[], []⟩, .len (.t 12)⟩,
    ⟨some 14, some (10, false), ⟨[], []⟩, .fld (.t 1) 0⟩,
    ⟨some 15, some (10, false), ⟨[], []⟩, .ld false none 0 0 (.t 14)⟩,
    ⟨some 16, some (10, false), ⟨[], []⟩, .fld (.t 1) 1⟩,
    ⟨some 17, some (10, false), ⟨[], []⟩, .ld false none 0 0 (.t 16)⟩,
    ⟨some 18, some (10, false), ⟨[], []⟩, .bin 0 .mul (.t 15) (.t 17)⟩,
    ⟨some 19, some (10, false), ⟨[], []⟩, .bin 0 .neq (.t 13) (.t 18)⟩,
    ⟨some 20, none, ⟨[], []⟩, .pick (.t 10) (.k (.bool true)) (.t 19)⟩] [4, 5, 6, 7, 8, 9, 10, 11, 12, 13, 14, 15, 16, 17, 18, 19] []) (.cond (.t 20) (.seq (.reg false [⟨some 2, none, ⟨[], []⟩, .mov (.k (.bool false))⟩] [1, 20] []) (.ret)) (.skip))) (.seq (.seq (.reg false [⟨some 3, none, ⟨[], []⟩, .mov (.k (.int .i64 0))⟩] [2, 20] []) (.block 0 (.loop b25_1))) (r25_2)))
def kp25_1 : List Nat := [1, 3]
def kl25_1 : List Nat := []
attribute [push_cast] kp25_1 kl25_1
theorem comp25 : (Try.f25.body.bind fun c => compC tab isP chkAll ir25 c) = some ir25 := by kernel_rfl
set_option maxRecDepth 512

theorem ok25 : FSOk Try.prog 25 fs60 := by
  refine ⟨⟨_, Try.func25, by kernel_rfl, by kernel_rfl⟩, fun a => ⟨by simp [fs60, push_cast, noMine, argOwn, Chunk.frArg], by simp [fs60, push_cast, outOk, Chunk.ext], fun x => .inl (by simp [fs60, push_cast, frNew, frOut, Chunk.fr])⟩, fun a hp => ?_⟩
  obtain ⟨⟨w, h, xs⟩, L⟩ := a
  change xs.length ≤ 140737488355328 at hp
  change Tri Try.prog 25 [plV ⟨w, h, xs⟩ L 0] [some (.ro, L, .ints .i64 xs)] (postF fs60 ⟨⟨w, h, xs⟩, L⟩)
  refine tri_evS (hyp (l := []) (lp := [(46, sidesF)]) trivial ⟨p46, trivial⟩) Try.func25 comp25 (rs := [.tmp 2]) (by rfl) Try.ntmps25 11 ?_
  simp -implicitDefEqProofs only [push_cast, false_implies, reduceCtorEq, Classical.not_not, Nat.reduceAdd, Nat.reduceSub, Nat.reduceMul, Nat.reduceLeDiff, Nat.reduceLT, Nat.reduceEqDiff, Nat.reduceBEq, Nat.reduceBNe, Int.reduceNeg, Int.reduceToNat, Bool.or_false, Bool.false_or, Bool.or_true, Bool.true_or, BEq.rfl, Bool.not_eq_true, Bool.not_eq_false, decide_eq_true_eq, not_true_eq_false, not_false_eq_true, ite_true, ite_false, List.append_nil, and_assoc, Nat.mul_zero, Nat.zero_mul, ir25]
  refine fun X => ⟨fun H => ?_, fun hn => ?_, fun hy => ?_⟩
  · have := H.bd
    exact ⟨H, by omega, by omega⟩
  · have e : ¬ (⟨w, h, xs⟩ : Pl).Ok := fun H => by
      obtain ⟨a1, b, _⟩ := H
      simp only at a1 b
      simp [a1, b] at hn
    refine postF.mk' (fun _ => default) [some 0] ?_
    simp -implicitDefEqProofs only [push_cast, false_implies, reduceCtorEq, Classical.not_not, Nat.reduceAdd, Nat.reduceSub, Nat.reduceMul, Nat.reduceLeDiff, Nat.reduceLT, Nat.reduceEqDiff, Nat.reduceBEq, Nat.reduceBNe, Int.reduceNeg, Int.reduceToNat, Bool.or_false, Bool.false_or, Bool.or_true, Bool.true_or, BEq.rfl, Bool.not_eq_true, Bool.not_eq_false, decide_eq_true_eq, not_true_eq_false, not_false_eq_true, ite_true, ite_false, List.append_nil, and_assoc, Nat.mul_zero, Nat.zero_mul, fs60, e, decide_false]
  have hs : SidesOk w h := Classical.byContradiction fun H => hy (.inl H)
  have hl : (xs.length : Int) = w * h := Classical.byContradiction fun H => hy (.inr H)
  refine evS_loopU (A := Nat) kp25_1 kl25_1 (fun i => [(3, .int .i64 i)]) (fun _ => [])
    (fun i => i ≤ xs.length ∧ ∀ j, j < i → -16777216 ≤ rd xs (j : Nat) ∧ rd xs (j : Nat) ≤ 16777216) (fun i => xs.length - i) 0 ⟨by omega, by omega⟩ (Sub.pt ?_) ?_
  · simp -implicitDefEqProofs only [push_cast, false_implies, reduceCtorEq, Classical.not_not, Nat.reduceAdd, Nat.reduceSub, Nat.reduceMul, Nat.reduceLeDiff, Nat.reduceLT, Nat.reduceEqDiff, Nat.reduceBEq, Nat.reduceBNe, Int.reduceNeg, Int.reduceToNat, Bool.or_false, Bool.false_or, Bool.or_true, Bool.true_or, BEq.rfl, Bool.not_eq_true, Bool.not_eq_false, decide_eq_true_eq, not_true_eq_false, not_false_eq_true, ite_true, ite_false, List.append_nil, and_assoc, Nat.mul_zero, Nat.zero_mul]
  intro i ⟨h1, h2⟩ K hK
  simp -implicitDefEqProofs only [push_cast, false_implies, reduceCtorEq, Classical.not_not, Nat.reduceAdd, Nat.reduceSub, Nat.reduceMul, Nat.reduceLeDiff, Nat.reduceLT, Nat.reduceEqDiff, Nat.reduceBEq, Nat.reduceBNe, Int.reduceNeg, Int.reduceToNat, Bool.or_false, Bool.false_or, Bool.or_true, Bool.true_or, BEq.rfl, Bool.not_eq_true, Bool.not_eq_false, decide_eq_true_eq, not_true_eq_false, not_false_eq_true, ite_true, ite_false, List.append_nil, and_assoc, Nat.mul_zero, Nat.zero_mul, b25_1, r25_2]
  refine ⟨fun hl => ?_, fun hl => ?_⟩
  · repeat (refine And.intro (by first | omega | trivial | (intros; omega)) ?_)
    refine ⟨fun hb => ?_, fun hg => ⟨by omega, by omega, ?_⟩⟩
    · have e : ¬ (⟨w, h, xs⟩ : Pl).Ok := fun H => by
        have := allIn_rd.1 H.2.2 i (show i < xs.length by omega)
        simp only at this
        omega
      refine postF.mk' (fun _ => default) [some 0] ?_
      simp -implicitDefEqProofs only [push_cast, false_implies, reduceCtorEq, Classical.not_not, Nat.reduceAdd, Nat.reduceSub, Nat.reduceMul, Nat.reduceLeDiff, Nat.reduceLT, Nat.reduceEqDiff, Nat.reduceBEq, Nat.reduceBNe, Int.reduceNeg, Int.reduceToNat, Bool.or_false, Bool.false_or, Bool.or_true, Bool.true_or, BEq.rfl, Bool.not_eq_true, Bool.not_eq_false, decide_eq_true_eq, not_true_eq_false, not_false_eq_true, ite_true, ite_false, List.append_nil, and_assoc, Nat.mul_zero, Nat.zero_mul, fs60, e, decide_false]
    · refine hK (i + 1) ⟨by omega, fun j hj => ?_⟩ (show xs.length - (i + 1) < xs.length - i by omega) _ _ (Sub.pt ?_)
      · by_cases e : j = i
        · subst e; omega
        · exact h2 j (by omega)
      · simp -implicitDefEqProofs only [push_cast, false_implies, reduceCtorEq, Classical.not_not, Nat.reduceAdd, Nat.reduceSub, Nat.reduceMul, Nat.reduceLeDiff, Nat.reduceLT, Nat.reduceEqDiff, Nat.reduceBEq, Nat.reduceBNe, Int.reduceNeg, Int.reduceToNat, Bool.or_false, Bool.false_or, Bool.or_true, Bool.true_or, BEq.rfl, Bool.not_eq_true, Bool.not_eq_false, decide_eq_true_eq, not_true_eq_false, not_false_eq_true, ite_true, ite_false, List.append_nil, and_assoc, Nat.mul_zero, Nat.zero_mul]
  · have e : (⟨w, h, xs⟩ : Pl).Ok := ⟨hs, ‹_›, allIn_rd.2 fun j (hj : j < xs.length) => h2 j (by omega)⟩
    refine postF.mk' (fun _ => default) [some 0] ?_
    simp -implicitDefEqProofs only [push_cast, false_implies, reduceCtorEq, Classical.not_not, Nat.reduceAdd, Nat.reduceSub, Nat.reduceMul, Nat.reduceLeDiff, Nat.reduceLT, Nat.reduceEqDiff, Nat.reduceBEq, Nat.reduceBNe, Int.reduceNeg, Int.reduceToNat, Bool.or_false, Bool.false_or, Bool.or_true, Bool.true_or, BEq.rfl, Bool.not_eq_true, Bool.not_eq_false, decide_eq_true_eq, not_true_eq_false, not_false_eq_true, ite_true, ite_false, List.append_nil, and_assoc, Nat.mul_zero, Nat.zero_mul, fs60, e, decide_true]
def ent25 : Entry := spOf fs60 inv60
theorem e25 : EntryOk Try.prog 25 ent25 := entry_of ok25 inv60
@[push_cast] theorem ent25_app (us : List SV) (look : Look) (x : Nat → Xf.Loc) (k : Nat) : ent25 us look x k = spOf fs60 inv60 us look x k := rfl

end Go.Proofs.Ytefggfjblhniaaa
