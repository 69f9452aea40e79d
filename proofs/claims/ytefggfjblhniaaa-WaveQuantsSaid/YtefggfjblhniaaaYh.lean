import Derived.Test.YtefggfjblhniaaaYg
set_option linter.unusedVariables false
set_option linter.unusedSimpArgs false
/-! The laws WaveLines, WaveLineBack. -/
namespace Go.Proofs.Ytefggfjblhniaaa
open Xf
set_option maxRecDepth 4000
/- incunable/incunablelaw18.WaveLines : slots 71, labels 10..49 -/
def ir3 : IR :=
  .seq (.reg false [⟨some 4, none, ⟨[], []⟩, .mov (.k (.bool false))⟩] [4] []) (.seq (.seq (.reg false [⟨some 9, none, ⟨[], []⟩, .mov (.t 1)⟩,
    ⟨some 10, none, ⟨[], []⟩, .len (.t 9)⟩,
    ⟨some 11, none, ⟨[], []⟩, .bin 0 .gtr (.t 10) (.k (.int .i64 16384))⟩] [9, 10] []) (.cond (.t 11) (.seq (.reg false [⟨some 12, none, ⟨[], []⟩, .call (some 4) 10 13 []⟩,
    ⟨some 4, none, ⟨[], []⟩, .mov (.t 12)⟩] [0, 1, 11, 12] []) (.ret)) (.skip))) (.seq (.reg false [⟨some 14, none, ⟨[], []⟩, .mov (.t 0)⟩,
    ⟨some 15, none, ⟨[], []⟩, .mov (.t 1)⟩,
    ⟨some 16, none, ⟨[], []⟩, .call (some 4) 14 14 [.t 14, .t 15]⟩,
    ⟨some 13, none, ⟨[], []⟩, .mov (.t 16)⟩,
    ⟨some 17, none, ⟨[], []⟩, .ext (.t 13) 0⟩,
    ⟨some 18, none, ⟨[], []⟩, .ext (.t 13) 1⟩,
    ⟨some 5, none, ⟨[], []⟩, .mov (.t 17)⟩,
    ⟨some 6, none, ⟨[], []⟩, .mov (.t 18)⟩] [4, 11, 13, 14, 15, 16, 17, 18] []) (.seq (.reg false [⟨some 20, none, ⟨[], []⟩, .mov (.t 0)⟩,
    ⟨some 21, none, ⟨[], []⟩, .mov (.t 1)⟩,
    ⟨some 22, none, ⟨[], []⟩, .call (some 4) 18 15 [.t 20, .t 21]⟩,
    ⟨some 19, none, ⟨[], []⟩, .mov (.t 22)⟩,
    ⟨some 23, none, ⟨[], []⟩, .ext (.t 19) 0⟩,
    ⟨some 24, none, ⟨[], []⟩, .ext (.t 19) 1⟩,
    ⟨some 7, none, ⟨[], []⟩, .mov (.t 23)⟩,
    ⟨some 8, none, ⟨[], []⟩, .mov (.t 24)⟩] [19, 20, 21, 22, 23, 24] []) (.seq (.seq (.reg false [⟨some 25, none, ⟨[], []⟩, .mov (.t 0)⟩,
    ⟨some 26, none, ⟨[], []⟩, .mov (.t 1)⟩,
    ⟨some 27, none, ⟨[], []⟩, .call (some 4) 22 16 [.t 25, .t 26]⟩,
    ⟨some 28, none, ⟨[], []⟩, .not (.t 27)⟩] [25, 26, 27] []) (.cond (.t 28) (.seq (.reg false [⟨some 29, none, ⟨[], []⟩, .mov (.t 5)⟩,
    ⟨some 30, none, ⟨[], []⟩, .len (.t 29)⟩,
    ⟨some 31, none, ⟨[], []⟩, .bin 0 .eql (.t 30) (.k (.int .i64 0))⟩,
    ⟨some 32, none, ⟨[], []⟩, .mov (.t 31)⟩,
    ⟨some 33, some (32, true), ⟨[], []⟩, .mov (.t 7)⟩,
    ⟨some 34, some (32, true), ⟨[], []⟩, .len (.t 33)⟩,
    ⟨some 35, some (32, true), ⟨[], []⟩, .bin 0 .eql (.t 34) (.k (.int .i64 0))⟩,
    ⟨some 36, none, ⟨[], []⟩, .pick (.t 32) (.t 35) (.k (.bool false))⟩,
    ⟨some 37, none, ⟨[], []⟩, .mov (.t 36)⟩,
    ⟨some 38, some (37, true), ⟨[], []⟩, .mov (.t 6)⟩,
    ⟨some 39, some (37, true), ⟨[], []⟩, .bin 0 .eql (.t 38) (.k (.int .i64 2))⟩,
    ⟨some 40, none, ⟨[], []⟩, .pick (.t 37) (.t 39) (.k (.bool false))⟩,
    ⟨some 41, none, ⟨[], []⟩, .mov (.t 40)⟩,
    ⟨some 42, some (41, true), ⟨[], []⟩, .mov (.t 8)⟩,
    ⟨some 43, some (41, true), ⟨[], []⟩, .bin 0 .eql (.t 42) (.k (.int .i64 2))⟩,
    ⟨some 44, none, ⟨[], []⟩, .pick (.t 41) (.t 43) (.k (.bool false))⟩,
    ⟨some 45, none, ⟨[], []⟩, .mov (.t 44)⟩,
    ⟨some 46, some (45, true), ⟨[], []⟩, .call (some 4) 26 13 []⟩,
    ⟨some 47, none, ⟨[], []⟩, .pick (.t 45) (.t 46) (.k (.bool false))⟩,
    ⟨some 4, none, ⟨[], []⟩, .mov (.t 47)⟩] [0, 1, 5, 6, 7, 8, 28, 29, 30, 31, 32, 33, 34, 35, 36, 37, 38, 39, 40, 41, 42, 43, 44, 45, 46, 47] []) (.ret)) (.skip))) (.seq (.reg false [⟨some 48, none, ⟨[], []⟩, .mov (.t 6)⟩,
    ⟨some 49, none, ⟨[], []⟩, .bin 0 .eql (.t 48) (.k (.int .i64 0))⟩,
    ⟨some 50, none, ⟨[], []⟩, .mov (.t 49)⟩,
    ⟨some 51, some (50, true), ⟨[], []⟩, .mov (.t 8)⟩,
    ⟨some 52, some (50, true), ⟨[], []⟩, .bin 0 .eql (.t 51) (.k (.int .i64 0))⟩,
    ⟨some 53, none, ⟨[], []⟩, .pick (.t 50) (.t 52) (.k (.bool false))⟩,
    ⟨some 54, none, ⟨[], []⟩, .mov (.t 53)⟩,
    ⟨some 55, some (54, true), ⟨[], []⟩, .mov (.t 5)⟩,
    ⟨some 56, some (54, true), ⟨[], []⟩, .mov (.t 0)⟩,
    ⟨some 57, some (54, true), ⟨[], []⟩, .mov (.t 1)⟩,
    ⟨some 58, some (54, true), ⟨[], []⟩, .call (some 4) 30 18 [.t 56, .t 57]⟩,
    ⟨some 59, some (54, true), ⟨[], []⟩, .call (some 4) 34 17 [.t 55, .t 58]⟩,
    ⟨some 60, none, ⟨[], []⟩, .pick (.t 54) (.t 59) (.k (.bool false))⟩,
    ⟨some 61, none, ⟨[], []⟩, .mov (.t 60)⟩,
    ⟨some 62, some (61, true), ⟨[], []⟩, .mov (.t 7)⟩,
    ⟨some 63, some (61, true), ⟨[], []⟩, .mov (.t 0)⟩,
    ⟨some 64, some (61, true), ⟨[], []⟩, .mov (.t 1)⟩,
    ⟨some 65, some (61, true), ⟨[], []⟩, .call (some 4) 38 19 [.t 63, .t 64]⟩,
    ⟨some 66, some (61, true), ⟨[], []⟩, .call (some 4) 42 17 [.t 62, .t 65]⟩,
    ⟨some 67, none, ⟨[], []⟩, .pick (.t 61) (.t 66) (.k (.bool false))⟩,
    ⟨some 68, none, ⟨[], []⟩, .mov (.t 67)⟩,
    ⟨some 69, some (68, true), ⟨[], []⟩, .call (some 4) 46 13 []⟩,
    ⟨some 70, none, ⟨[], []⟩, .pick (.t 68) (.t 69) (.k (.bool false))⟩,
    ⟨some 4, none, ⟨[], []⟩, .mov (.t 70)⟩] [0, 1, 5, 6, 7, 8, 28, 48, 49, 50, 51, 52, 53, 54, 55, 56, 57, 58, 59, 60, 61, 62, 63, 64, 65, 66, 67, 68, 69, 70] []) (.ret))))))
theorem comp3 : (Try.f3.body.bind fun c => compC tab isP chkAll ir3 c) = some ir3 := by kernel_rfl
/- incunable/incunablelaw18.WaveLineBack : slots 56, labels 10..37; loop b4_1 keeps [0, 1, 16, 17, 18] -/
def b4_1 : IR :=
  .seq (.reg false [⟨some 19, none, ⟨[], []⟩, .bin 0 .lss (.t 18) (.t 17)⟩] [] []) (.seq (.cond (.t 19) (.skip) (.exit 0)) (.seq (.block 1 (.seq (.reg false [⟨some 20, none, ⟨[], []⟩, .idxS (.t 16) (.t 18) 1⟩,
    ⟨some 21, none, ⟨[], []⟩, .ld true none 0 0 (.t 20)⟩,
    ⟨some 6, none, ⟨[], []⟩, .mov (.t 21)⟩] [19, 20, 21] []) (.seq (.reg false [⟨some 22, none, ⟨[], []⟩, .mov (.t 6)⟩,
    ⟨some 23, none, ⟨[], []⟩, .bin 0 .lss (.t 22) (.k (.int .i64 (-4194304)))⟩,
    ⟨some 24, none, ⟨[], []⟩, .mov (.t 23)⟩,
    ⟨some 25, some (24, false), ⟨[], []⟩, .mov (.t 6)⟩,
    ⟨some 26, some (24, false), ⟨[], []⟩, .bin 0 .gtr (.t 25) (.k (.int .i64 4194304))⟩,
    ⟨some 27, none, ⟨[], []⟩, .pick (.t 24) (.k (.bool true)) (.t 26)⟩] [6, 22, 23, 24, 25, 26] []) (.cond (.t 27) (.seq (.reg false [⟨some 28, none, ⟨[], []⟩, .call (some 4) 18 13 []⟩,
    ⟨some 4, none, ⟨[], []⟩, .mov (.t 28)⟩] [0, 1, 16, 17, 18, 27, 28] []) (.ret)) (.skip))))) (.reg false [⟨some 29, none, ⟨[], []⟩, .bin 0 .add (.t 18) (.k (.int .i64 1))⟩,
    ⟨some 18, none, ⟨[], []⟩, .mov (.t 29)⟩] [4, 27, 29] [])))
def r4_2 : IR :=
  .seq (.reg false [⟨some 31, none, ⟨[], []⟩, .mov (.t 0)⟩,
    ⟨some 32, none, ⟨[], []⟩, .mov (.t 1)⟩,
    ⟨some 33, none, ⟨[], []⟩, .call (some 4) 22 14 [.t 31, .t 32]⟩,
    ⟨some 30, none, ⟨[], []⟩, .mov (.t 33)⟩,
    ⟨some 34, none, ⟨[], []⟩, .ext (.t 30) 0⟩,
    ⟨some 35, none, ⟨[], []⟩, .ext (.t 30) 1⟩,
    ⟨some 7, none, ⟨[], []⟩, .mov (.t 34)⟩,
    ⟨some 8, none, ⟨[], []⟩, .mov (.t 35)⟩] [16, 17, 18, 30, 31, 32, 33, 34, 35] []) (.seq (.reg false [⟨some 37, none, ⟨[], []⟩, .mov (.t 0)⟩,
    ⟨some 38, none, ⟨[], []⟩, .mov (.t 7)⟩,
    ⟨some 39, none, ⟨[], []⟩, .call (some 4) 26 15 [.t 37, .t 38]⟩,
    ⟨some 36, none, ⟨[], []⟩, .mov (.t 39)⟩,
    ⟨some 40, none, ⟨[], []⟩, .ext (.t 36) 0⟩,
    ⟨some 41, none, ⟨[], []⟩, .ext (.t 36) 1⟩,
    ⟨some 9, none, ⟨[], []⟩, .mov (.t 40)⟩,
    ⟨some 10, none, ⟨[], []⟩, .mov (.t 41)⟩] [0, 7, 36, 37, 38, 39, 40, 41] []) (.seq (.reg false [⟨some 42, none, ⟨[], []⟩, .mov (.t 8)⟩,
    ⟨some 43, none, ⟨[], []⟩, .bin 0 .eql (.t 42) (.k (.int .i64 0))⟩,
    ⟨some 44, none, ⟨[], []⟩, .mov (.t 43)⟩,
    ⟨some 45, some (44, true), ⟨[], []⟩, .mov (.t 10)⟩,
    ⟨some 46, some (44, true), ⟨[], []⟩, .bin 0 .eql (.t 45) (.k (.int .i64 0))⟩,
    ⟨some 47, none, ⟨[], []⟩, .pick (.t 44) (.t 46) (.k (.bool false))⟩,
    ⟨some 48, none, ⟨[], []⟩, .mov (.t 47)⟩,
    ⟨some 49, some (48, true), ⟨[], []⟩, .mov (.t 9)⟩,
    ⟨some 50, some (48, true), ⟨[], []⟩, .mov (.t 1)⟩,
    ⟨some 51, some (48, true), ⟨[], []⟩, .call (some 4) 30 17 [.t 49, .t 50]⟩,
    ⟨some 52, none, ⟨[], []⟩, .pick (.t 48) (.t 51) (.k (.bool false))⟩,
    ⟨some 53, none, ⟨[], []⟩, .mov (.t 52)⟩,
    ⟨some 54, some (53, true), ⟨[], []⟩, .call (some 4) 34 13 []⟩,
    ⟨some 55, none, ⟨[], []⟩, .pick (.t 53) (.t 54) (.k (.bool false))⟩,
    ⟨some 4, none, ⟨[], []⟩, .mov (.t 55)⟩] [1, 8, 9, 10, 42, 43, 44, 45, 46, 47, 48, 49, 50, 51, 52, 53, 54, 55] []) (.ret)))
def ir4 : IR :=
  .seq (.reg false [⟨some 4, none, ⟨[], []⟩, .mov (.k (.bool false))⟩] [4] []) (.seq (.seq (.reg false [⟨some 11, none, ⟨[], []⟩, .mov (.t 0)⟩,
    ⟨some 12, none, ⟨[], []⟩, .mov (.t 1)⟩,
    ⟨some 13, none, ⟨[], []⟩, .call (some 4) 10 16 [.t 11, .t 12]⟩,
    ⟨some 14, none, ⟨[], []⟩, .not (.t 13)⟩] [11, 12, 13] []) (.cond (.t 14) (.seq (.reg false [⟨some 15, none, ⟨[], []⟩, .call (some 4) 14 13 []⟩,
    ⟨some 4, none, ⟨[], []⟩, .mov (.t 15)⟩] [0, 1, 14, 15] []) (.ret)) (.skip))) (.seq (.seq (.reg false [⟨some 16, none, ⟨[], []⟩, .mov (.t 1)⟩,
    ⟨some 17, none, ⟨[], []⟩, .len (.t 16)⟩,
    ⟨some 18, none, ⟨[], []⟩, .mov (.k (.int .i64 0))⟩] [4, 14] []) (.block 0 (.loop b4_1))) (r4_2)))
def kp4_1 : List Nat := [0, 1, 16, 17, 18]
def kl4_1 : List Nat := [18, 19, 20, 21]
attribute [push_cast] kp4_1 kl4_1
theorem comp4 : (Try.f4.body.bind fun c => compC tab isP chkAll ir4 c) = some ir4 := by kernel_rfl
set_option maxRecDepth 512

theorem tri3 (kind : Int) (xs : List Int) (hp : xs.length ≤ 140737488355328) (L : Xf.Loc) : Tri Try.prog 3 [.int .i64 kind, .sl 0 L 1 0 xs.length] [some (.ro, L, .ints .i64 xs)] (fun v _ => v = .bool true) := by
  by_cases hc : lnOk kind xs
  · have hl1 : (lnR kind xs) = lineL kind xs.length (fun j => rd xs j) := if_pos hc
    have hl2 : (unR kind xs) = unL kind xs.length (fun j => rd xs j) := if_pos hc
    have hl := hc.2.1
    refine tri_evS (hyp (l := [(13, ent13), (16, ent16), (14, ent14), (15, ent15), (18, ent18), (19, ent19), (17, ent17)]) (lp := []) ⟨e13, e16, e14, e15, e18, e19, e17, trivial⟩ trivial) Try.func3 comp3 (rs := [.tmp 4]) (by rfl) Try.ntmps3 50 ?_
    simp -implicitDefEqProofs only [push_cast, false_implies, reduceCtorEq, Classical.not_not, Nat.reduceAdd, Nat.reduceSub, Nat.reduceMul, Nat.reduceLeDiff, Nat.reduceLT, Nat.reduceEqDiff, Nat.reduceBEq, Nat.reduceBNe, Int.reduceNeg, Int.reduceToNat, Bool.or_false, Bool.false_or, Bool.or_true, Bool.true_or, BEq.rfl, Bool.not_eq_true, Bool.not_eq_false, decide_eq_true_eq, not_true_eq_false, not_false_eq_true, ite_true, ite_false, List.append_nil, and_assoc, Nat.mul_zero, Nat.zero_mul, ir3, fs13, fs16, fs14, fs15, fs17, fs38, fs39, hp, hc, hl1, hl2, lineL_length, unL_length, if_true, lx]
    have hA1 : AllIn (-1073741824) 1073741824 xs := fun n hn => by have := hc.2.2 n hn; omega
    have hA2 : AllIn (-1099511627776) 1099511627776 xs := fun n hn => by have := hc.2.2 n hn; omega
    intro _ X X1 X2
    simp [Int.toNat_natCast, hc.1, hA1, hA2]
    omega
  · have hl1 : (lnR kind xs) = [] := if_neg hc
    have hl2 : (unR kind xs) = [] := if_neg hc
    refine tri_evS (hyp (l := [(13, ent13), (16, ent16), (14, ent14), (15, ent15), (18, ent18), (19, ent19), (17, ent17)]) (lp := []) ⟨e13, e16, e14, e15, e18, e19, e17, trivial⟩ trivial) Try.func3 comp3 (rs := [.tmp 4]) (by rfl) Try.ntmps3 50 ?_
    simp -implicitDefEqProofs only [push_cast, false_implies, reduceCtorEq, Classical.not_not, Nat.reduceAdd, Nat.reduceSub, Nat.reduceMul, Nat.reduceLeDiff, Nat.reduceLT, Nat.reduceEqDiff, Nat.reduceBEq, Nat.reduceBNe, Int.reduceNeg, Int.reduceToNat, Bool.or_false, Bool.false_or, Bool.or_true, Bool.true_or, BEq.rfl, Bool.not_eq_true, Bool.not_eq_false, decide_eq_true_eq, not_true_eq_false, not_false_eq_true, ite_true, ite_false, List.append_nil, and_assoc, Nat.mul_zero, Nat.zero_mul, ir3, fs13, fs16, fs14, fs15, fs17, fs38, fs39, hp, hc, hl1, hl2, if_false, lx]

theorem tri4 (kind : Int) (xs : List Int) (hp : xs.length ≤ 140737488355328) (L : Xf.Loc) : Tri Try.prog 4 [.int .i64 kind, .sl 0 L 1 0 xs.length] [some (.ro, L, .ints .i64 xs)] (fun v _ => v = .bool true) := by
  by_cases hc : lnOk kind xs
  · have hl := hc.2.1
    refine tri_evS (hyp (l := [(13, ent13), (16, ent16), (14, ent14), (15, ent15), (17, ent17)]) (lp := []) ⟨e13, e16, e14, e15, e17, trivial⟩ trivial) Try.func4 comp4 (rs := [.tmp 4]) (by rfl) Try.ntmps4 38 ?_
    simp -implicitDefEqProofs only [push_cast, false_implies, reduceCtorEq, Classical.not_not, Nat.reduceAdd, Nat.reduceSub, Nat.reduceMul, Nat.reduceLeDiff, Nat.reduceLT, Nat.reduceEqDiff, Nat.reduceBEq, Nat.reduceBNe, Int.reduceNeg, Int.reduceToNat, Bool.or_false, Bool.false_or, Bool.or_true, Bool.true_or, BEq.rfl, Bool.not_eq_true, Bool.not_eq_false, decide_eq_true_eq, not_true_eq_false, not_false_eq_true, ite_true, ite_false, List.append_nil, and_assoc, Nat.mul_zero, Nat.zero_mul, ir4, fs13, fs16, hp, hc]
    refine evS_loopU (A := Nat) kp4_1 kl4_1 (fun i => [(18, .int .i64 i)]) (fun _ => [])
      (fun i => i ≤ xs.length ∧ ∀ j, j < i → -4194304 ≤ rd xs (j : Nat) ∧ rd xs (j : Nat) ≤ 4194304) (fun i => xs.length - i) 0 ⟨by omega, by omega⟩ (Sub.pt ?_) ?_
    · simp -implicitDefEqProofs only [push_cast, false_implies, reduceCtorEq, Classical.not_not, Nat.reduceAdd, Nat.reduceSub, Nat.reduceMul, Nat.reduceLeDiff, Nat.reduceLT, Nat.reduceEqDiff, Nat.reduceBEq, Nat.reduceBNe, Int.reduceNeg, Int.reduceToNat, Bool.or_false, Bool.false_or, Bool.or_true, Bool.true_or, BEq.rfl, Bool.not_eq_true, Bool.not_eq_false, decide_eq_true_eq, not_true_eq_false, not_false_eq_true, ite_true, ite_false, List.append_nil, and_assoc, Nat.mul_zero, Nat.zero_mul]
    intro i ⟨h1, h2⟩ K hK
    by_cases hi : i = xs.length
    · subst hi
      obtain ⟨b1, b2⟩ := line_back hc (allIn_rd.2 fun j hj => h2 j hj)
      have hl1 : (lnR kind xs).length = xs.length := by unfold lnR; rw [if_pos hc, lineL_length]
      simp -implicitDefEqProofs only [push_cast, false_implies, reduceCtorEq, Classical.not_not, Nat.reduceAdd, Nat.reduceSub, Nat.reduceMul, Nat.reduceLeDiff, Nat.reduceLT, Nat.reduceEqDiff, Nat.reduceBEq, Nat.reduceBNe, Int.reduceNeg, Int.reduceToNat, Bool.or_false, Bool.false_or, Bool.or_true, Bool.true_or, BEq.rfl, Bool.not_eq_true, Bool.not_eq_false, decide_eq_true_eq, not_true_eq_false, not_false_eq_true, ite_true, ite_false, List.append_nil, and_assoc, Nat.mul_zero, Nat.zero_mul, b4_1, r4_2, fs13, fs14, fs15, fs17, hp, hc, hl1, b1, b2, if_true, lx]
      omega
    · simp -implicitDefEqProofs only [push_cast, false_implies, reduceCtorEq, Classical.not_not, Nat.reduceAdd, Nat.reduceSub, Nat.reduceMul, Nat.reduceLeDiff, Nat.reduceLT, Nat.reduceEqDiff, Nat.reduceBEq, Nat.reduceBNe, Int.reduceNeg, Int.reduceToNat, Bool.or_false, Bool.false_or, Bool.or_true, Bool.true_or, BEq.rfl, Bool.not_eq_true, Bool.not_eq_false, decide_eq_true_eq, not_true_eq_false, not_false_eq_true, ite_true, ite_false, List.append_nil, and_assoc, Nat.mul_zero, Nat.zero_mul, b4_1, fs13]
      refine ⟨fun hl => ?_, fun hl => by omega⟩
      repeat (refine And.intro (by first | omega | trivial | (intros; omega)) ?_)
      intro hg
      refine ⟨by omega, by omega, hK (i + 1) ⟨by omega, fun j hj => ?_⟩ (show xs.length - (i + 1) < xs.length - i by omega) _ _ (Sub.pt ?_)⟩
      · by_cases e : j = i
        · subst e; omega
        · exact h2 j (by omega)
      · simp -implicitDefEqProofs only [push_cast, false_implies, reduceCtorEq, Classical.not_not, Nat.reduceAdd, Nat.reduceSub, Nat.reduceMul, Nat.reduceLeDiff, Nat.reduceLT, Nat.reduceEqDiff, Nat.reduceBEq, Nat.reduceBNe, Int.reduceNeg, Int.reduceToNat, Bool.or_false, Bool.false_or, Bool.or_true, Bool.true_or, BEq.rfl, Bool.not_eq_true, Bool.not_eq_false, decide_eq_true_eq, not_true_eq_false, not_false_eq_true, ite_true, ite_false, List.append_nil, and_assoc, Nat.mul_zero, Nat.zero_mul]
  · refine tri_evS (hyp (l := [(13, ent13), (16, ent16), (14, ent14), (15, ent15), (17, ent17)]) (lp := []) ⟨e13, e16, e14, e15, e17, trivial⟩ trivial) Try.func4 comp4 (rs := [.tmp 4]) (by rfl) Try.ntmps4 38 ?_
    simp -implicitDefEqProofs only [push_cast, false_implies, reduceCtorEq, Classical.not_not, Nat.reduceAdd, Nat.reduceSub, Nat.reduceMul, Nat.reduceLeDiff, Nat.reduceLT, Nat.reduceEqDiff, Nat.reduceBEq, Nat.reduceBNe, Int.reduceNeg, Int.reduceToNat, Bool.or_false, Bool.false_or, Bool.or_true, Bool.true_or, BEq.rfl, Bool.not_eq_true, Bool.not_eq_false, decide_eq_true_eq, not_true_eq_false, not_false_eq_true, ite_true, ite_false, List.append_nil, and_assoc, Nat.mul_zero, Nat.zero_mul, ir4, fs13, fs16, hp, hc]
end Go.Proofs.Ytefggfjblhniaaa
