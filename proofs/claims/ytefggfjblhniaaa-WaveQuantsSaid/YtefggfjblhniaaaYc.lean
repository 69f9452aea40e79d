import Derived.Test.YtefggfjblhniaaaYb
set_option linter.unusedVariables false
set_option linter.unusedSimpArgs false
/-! Wave: the reference's line. -/
namespace Go.Proofs.Ytefggfjblhniaaa
open Xf
set_option maxRecDepth 4000
/- incunable/incunableref18.Line : slots 137, labels 10..28; loop b18_1 keeps [0, 1, 5, 6, 7, 8]; loop b18_2 keeps [0, 1, 5, 6, 7, 10] -/
def b18_1 : IR :=
  .seq (.seq (.reg false [⟨some 13, none, ⟨[], []⟩, .mov (.t 8)⟩,
    ⟨some 14, none, ⟨[], []⟩, .mov (.t 5)⟩,
    ⟨some 15, none, ⟨[], []⟩, .bin 0 .quo (.t 14) (.k (.int .i64 2))⟩,
    ⟨some 16, none, ⟨[], []⟩, .bin 0 .lss (.t 13) (.t 15)⟩] [13, 14, 15] []) (.cond (.t 16) (.skip) (.exit 0))) (.seq (.block 1 (.seq (.seq (.reg false [⟨some 19, none, ⟨[], []⟩, .mov (.t 0)⟩,
    ⟨some 20, none, ⟨[], []⟩, .bin 0 .eql (.t 19) (.k (.int .i64 1))⟩] [16, 19] []) (.cond (.t 20) (.seq (.reg true [⟨some 21, none, ⟨[], []⟩, .mov (.t 7)⟩,
    ⟨some 22, none, ⟨[], []⟩, .mov (.t 1)⟩,
    ⟨some 23, none, ⟨[], []⟩, .mov (.t 8)⟩,
    ⟨some 24, none, ⟨[], []⟩, .bin 0 .mul (.k (.int .i64 2)) (.t 23)⟩,
    ⟨some 25, none, ⟨[], []⟩, .bin 0 .add (.t 24) (.k (.int .i64 1))⟩,
    ⟨some 26, none, ⟨[], []⟩, .idxS (.t 22) (.t 25) 1⟩,
    ⟨some 27, none, ⟨[], []⟩, .ld true none 0 0 (.t 26)⟩,
    ⟨some 28, none, ⟨[], []⟩, .mov (.t 1)⟩,
    ⟨some 29, none, ⟨[], []⟩, .mov (.t 8)⟩,
    ⟨some 30, none, ⟨[], []⟩, .bin 0 .mul (.k (.int .i64 2)) (.t 29)⟩,
    ⟨some 31, none, ⟨[], []⟩, .idxS (.t 28) (.t 30) 1⟩,
    ⟨some 32, none, ⟨[], []⟩, .ld true none 0 0 (.t 31)⟩,
    ⟨some 33, none, ⟨[], []⟩, .bin 0 .sub (.t 27) (.t 32)⟩,
    ⟨some 34, none, ⟨[], []⟩, .bslice 10 [.t 33]⟩,
    ⟨some 35, none, ⟨[], []⟩, .app 11 1 8 (.t 21) (.t 34)⟩,
    ⟨some 7, none, ⟨[], []⟩, .mov (.t 35)⟩] [20, 21, 22, 23, 24, 25, 26, 27, 28, 29, 30, 31, 32, 33, 34, 35] []) (.exit 1)) (.skip))) (.seq (.reg false [⟨some 36, none, ⟨[], []⟩, .mov (.t 1)⟩,
    ⟨some 37, none, ⟨[], []⟩, .mov (.t 8)⟩,
    ⟨some 38, none, ⟨[], []⟩, .bin 0 .mul (.k (.int .i64 2)) (.t 37)⟩,
    ⟨some 39, none, ⟨[], []⟩, .idxS (.t 36) (.t 38) 1⟩,
    ⟨some 40, none, ⟨[], []⟩, .ld true none 0 0 (.t 39)⟩,
    ⟨some 9, none, ⟨[], []⟩, .mov (.t 40)⟩] [20, 36, 37, 38, 39, 40] []) (.seq (.seq (.reg false [⟨some 41, none, ⟨[], []⟩, .mov (.t 8)⟩,
    ⟨some 42, none, ⟨[], []⟩, .bin 0 .mul (.k (.int .i64 2)) (.t 41)⟩,
    ⟨some 43, none, ⟨[], []⟩, .bin 0 .add (.t 42) (.k (.int .i64 2))⟩,
    ⟨some 44, none, ⟨[], []⟩, .mov (.t 5)⟩,
    ⟨some 45, none, ⟨[], []⟩, .bin 0 .lss (.t 43) (.t 44)⟩] [41, 42, 43, 44] []) (.cond (.t 45) (.reg false [⟨some 46, none, ⟨[], []⟩, .mov (.t 1)⟩,
    ⟨some 47, none, ⟨[], []⟩, .mov (.t 8)⟩,
    ⟨some 48, none, ⟨[], []⟩, .bin 0 .mul (.k (.int .i64 2)) (.t 47)⟩,
    ⟨some 49, none, ⟨[], []⟩, .bin 0 .add (.t 48) (.k (.int .i64 2))⟩,
    ⟨some 50, none, ⟨[], []⟩, .idxS (.t 46) (.t 49) 1⟩,
    ⟨some 51, none, ⟨[], []⟩, .ld true none 0 0 (.t 50)⟩,
    ⟨some 9, none, ⟨[], []⟩, .mov (.t 51)⟩] [45, 46, 47, 48, 49, 50, 51] []) (.skip))) (.reg true [⟨some 52, none, ⟨[], []⟩, .mov (.t 7)⟩,
    ⟨some 53, none, ⟨[], []⟩, .mov (.t 1)⟩,
    ⟨some 54, none, ⟨[], []⟩, .mov (.t 8)⟩,
    ⟨some 55, none, ⟨[], []⟩, .bin 0 .mul (.k (.int .i64 2)) (.t 54)⟩,
    ⟨some 56, none, ⟨[], []⟩, .bin 0 .add (.t 55) (.k (.int .i64 1))⟩,
    ⟨some 57, none, ⟨[], []⟩, .idxS (.t 53) (.t 56) 1⟩,
    ⟨some 58, none, ⟨[], []⟩, .ld true none 0 0 (.t 57)⟩,
    ⟨some 59, none, ⟨[], []⟩, .mov (.t 1)⟩,
    ⟨some 60, none, ⟨[], []⟩, .mov (.t 8)⟩,
    ⟨some 61, none, ⟨[], []⟩, .bin 0 .mul (.k (.int .i64 2)) (.t 60)⟩,
    ⟨some 62, none, ⟨[], []⟩, .idxS (.t 59) (.t 61) 1⟩,
    ⟨some 63, none, ⟨[], []⟩, .ld true none 0 0 (.t 62)⟩,
    ⟨some 64, none, ⟨[], []⟩, .mov (.t 9)⟩,
    ⟨some 65, none, ⟨[], []⟩, .bin 0 .add (.t 63) (.t 64)⟩,
    ⟨some 66, none, ⟨[], []⟩, .callp 40 [.t 65, .k (.int .i64 2)]⟩,
    ⟨some 67, none, ⟨[], []⟩, .bin 0 .sub (.t 58) (.t 66)⟩,
    ⟨some 68, none, ⟨[], []⟩, .bslice 12 [.t 67]⟩,
    ⟨some 69, none, ⟨[], []⟩, .app 13 1 8 (.t 52) (.t 68)⟩,
    ⟨some 7, none, ⟨[], []⟩, .mov (.t 69)⟩] [9, 45, 52, 53, 54, 55, 56, 57, 58, 59, 60, 61, 62, 63, 64, 65, 66, 67, 68, 69] []))))) (.reg false [⟨some 17, none, ⟨[], []⟩, .mov (.t 8)⟩,
    ⟨some 18, none, ⟨[], []⟩, .bin 0 .add (.t 17) (.k (.int .i64 1))⟩,
    ⟨some 8, none, ⟨[], []⟩, .mov (.t 18)⟩] [17, 18] []))
def b18_2 : IR :=
  .seq (.seq (.reg false [⟨some 70, none, ⟨[], []⟩, .mov (.t 10)⟩,
    ⟨some 71, none, ⟨[], []⟩, .bin 0 .mul (.k (.int .i64 2)) (.t 70)⟩,
    ⟨some 72, none, ⟨[], []⟩, .mov (.t 5)⟩,
    ⟨some 73, none, ⟨[], []⟩, .bin 0 .lss (.t 71) (.t 72)⟩] [70, 71, 72] []) (.cond (.t 73) (.skip) (.exit 2))) (.seq (.block 3 (.block 4 (.seq (.reg false [⟨some 85, none, ⟨[], []⟩, .mov (.t 0)⟩,
    ⟨some 86, none, ⟨[], []⟩, .bin 0 .eql (.t 85) (.k (.int .i64 1))⟩,
    ⟨some 87, none, ⟨[], []⟩, .mov (.t 86)⟩,
    ⟨some 88, some (87, true), ⟨[], []⟩, .mov (.t 10)⟩,
    ⟨some 89, some (87, true), ⟨[], []⟩, .mov (.t 7)⟩,
    ⟨some 90, some (87, true), ⟨[], []⟩, .len (.t 89)⟩,
    ⟨some 91, some (87, true), ⟨[], []⟩, .bin 0 .lss (.t 88) (.t 90)⟩,
    ⟨some 92, none, ⟨[], []⟩, .pick (.t 87) (.t 91) (.k (.bool false))⟩,
    ⟨some 84, none, ⟨[], []⟩, .mov (.t 92)⟩] [73, 85, 86, 87, 88, 89, 90, 91, 92] []) (.cond (.t 84) (.reg true [⟨some 93, none, ⟨[], []⟩, .mov (.t 6)⟩,
    ⟨some 94, none, ⟨[], []⟩, .mov (.t 1)⟩,
    ⟨some 95, none, ⟨[], []⟩, .mov (.t 10)⟩,
    ⟨some 96, none, ⟨[], []⟩, .bin 0 .mul (.k (.int .i64 2)) (.t 95)⟩,
    ⟨some 97, none, ⟨[], []⟩, .idxS (.t 94) (.t 96) 1⟩,
    ⟨some 98, none, ⟨[], []⟩, .ld true none 0 0 (.t 97)⟩,
    ⟨some 99, none, ⟨[], []⟩, .mov (.t 7)⟩,
    ⟨some 100, none, ⟨[], []⟩, .mov (.t 10)⟩,
    ⟨some 101, none, ⟨[], []⟩, .idxS (.t 99) (.t 100) 1⟩,
    ⟨some 102, none, ⟨[], []⟩, .ld true none 0 0 (.t 101)⟩,
    ⟨some 103, none, ⟨[], []⟩, .callp 40 [.t 102, .k (.int .i64 2)]⟩,
    ⟨some 104, none, ⟨[], []⟩, .bin 0 .add (.t 98) (.t 103)⟩,
    ⟨some 105, none, ⟨[], []⟩, .bslice 14 [.t 104]⟩,
    ⟨some 106, none, ⟨[], []⟩, .app 15 1 8 (.t 93) (.t 105)⟩,
    ⟨some 6, none, ⟨[], []⟩, .mov (.t 106)⟩] [84, 93, 94, 95, 96, 97, 98, 99, 100, 101, 102, 103, 104, 105, 106] []) (.seq (.reg false [⟨some 108, none, ⟨[], []⟩, .mov (.t 0)⟩,
    ⟨some 109, none, ⟨[], []⟩, .bin 0 .eql (.t 108) (.k (.int .i64 0))⟩,
    ⟨some 110, none, ⟨[], []⟩, .mov (.t 109)⟩,
    ⟨some 111, some (110, true), ⟨[], []⟩, .mov (.t 7)⟩,
    ⟨some 112, some (110, true), ⟨[], []⟩, .len (.t 111)⟩,
    ⟨some 113, some (110, true), ⟨[], []⟩, .bin 0 .gtr (.t 112) (.k (.int .i64 0))⟩,
    ⟨some 114, none, ⟨[], []⟩, .pick (.t 110) (.t 113) (.k (.bool false))⟩,
    ⟨some 107, none, ⟨[], []⟩, .mov (.t 114)⟩] [84, 108, 109, 110, 111, 112, 113, 114] []) (.cond (.t 107) (.reg true [⟨some 115, none, ⟨[], []⟩, .mov (.t 6)⟩,
    ⟨some 116, none, ⟨[], []⟩, .mov (.t 1)⟩,
    ⟨some 117, none, ⟨[], []⟩, .mov (.t 10)⟩,
    ⟨some 118, none, ⟨[], []⟩, .bin 0 .mul (.k (.int .i64 2)) (.t 117)⟩,
    ⟨some 119, none, ⟨[], []⟩, .idxS (.t 116) (.t 118) 1⟩,
    ⟨some 120, none, ⟨[16, 17, 18, 19, 20, 21, 22, 23], []⟩, .ld true none 0 0 (.t 119)⟩,
    ⟨some 121, none, ⟨[], []⟩, .mov (.t 7)⟩,
    ⟨some 122, none, ⟨[], []⟩, .mov (.t 10)⟩,
    ⟨some 123, none, ⟨[], []⟩, .bin 0 .sub (.t 122) (.k (.int .i64 1))⟩,
    ⟨some 124, none, ⟨[], []⟩, .call (some 4) 16 41 [.t 121, .t 123]⟩,
    ⟨some 125, none, ⟨[], []⟩, .mov (.t 7)⟩,
    ⟨some 126, none, ⟨[], []⟩, .mov (.t 10)⟩,
    ⟨some 127, none, ⟨[], []⟩, .call (some 4) 20 41 [.t 125, .t 126]⟩,
    ⟨some 128, none, ⟨[], []⟩, .bin 0 .add (.t 124) (.t 127)⟩,
    ⟨some 129, none, ⟨[], []⟩, .bin 0 .add (.t 128) (.k (.int .i64 2))⟩,
    ⟨some 130, none, ⟨[], []⟩, .callp 40 [.t 129, .k (.int .i64 4)]⟩,
    ⟨some 131, none, ⟨[], []⟩, .bin 0 .add (.t 120) (.t 130)⟩,
    ⟨some 132, none, ⟨[], []⟩, .bslice 24 [.t 131]⟩,
    ⟨some 133, none, ⟨[], []⟩, .app 25 1 8 (.t 115) (.t 132)⟩,
    ⟨some 6, none, ⟨[], []⟩, .mov (.t 133)⟩] [107, 115, 116, 117, 118, 119, 120, 121, 122, 123, 124, 125, 126, 127, 128, 129, 130, 131, 132, 133] []) (.reg false [⟨some 76, none, ⟨[], []⟩, .mov (.t 6)⟩,
    ⟨some 77, none, ⟨[], []⟩, .mov (.t 1)⟩,
    ⟨some 78, none, ⟨[], []⟩, .mov (.t 10)⟩,
    ⟨some 79, none, ⟨[], []⟩, .bin 0 .mul (.k (.int .i64 2)) (.t 78)⟩,
    ⟨some 80, none, ⟨[], []⟩, .idxS (.t 77) (.t 79) 1⟩,
    ⟨some 81, none, ⟨[], []⟩, .ld true none 0 0 (.t 80)⟩,
    ⟨some 82, none, ⟨[], []⟩, .bslice 26 [.t 81]⟩,
    ⟨some 83, none, ⟨[], []⟩, .app 27 1 8 (.t 76) (.t 82)⟩,
    ⟨some 6, none, ⟨[], []⟩, .mov (.t 83)⟩] [76, 77, 78, 79, 80, 81, 82, 83, 107] []))))))) (.reg false [⟨some 74, none, ⟨[], []⟩, .mov (.t 10)⟩,
    ⟨some 75, none, ⟨[], []⟩, .bin 0 .add (.t 74) (.k (.int .i64 1))⟩,
    ⟨some 10, none, ⟨[], []⟩, .mov (.t 75)⟩] [74, 75] []))
def r18_3 : IR :=
  .seq (.reg false [⟨some 134, none, ⟨[], []⟩, .mov (.t 6)⟩,
    ⟨some 135, none, ⟨[], []⟩, .mov (.t 7)⟩,
    ⟨some 136, none, ⟨[], []⟩, .app 28 1 8 (.t 134) (.t 135)⟩,
    ⟨some 4, none, ⟨[], []⟩, .mov (.t 136)⟩] [0, 1, 5, 6, 7, 10, 134, 135, 136] []) (.ret)
def r18_4 : IR :=
  .seq (.seq (.reg false [⟨some 10, none, ⟨[], []⟩, .mov (.k (.int .i64 0))⟩] [8] []) (.block 2 (.loop b18_2))) (r18_3)
def ir18 : IR :=
  .seq (.reg false [⟨some 4, none, ⟨[], []⟩, .mov (.k nilSV)⟩] [4] []) (.seq (.reg false [⟨some 11, none, ⟨[], []⟩, .mov (.t 1)⟩,
    ⟨some 12, none, ⟨[], []⟩, .len (.t 11)⟩,
    ⟨some 5, none, ⟨[], []⟩, .mov (.t 12)⟩] [11, 12] []) (.seq (.reg false [⟨some 6, none, ⟨[], []⟩, .mov (.k nilSV)⟩,
    ⟨some 7, none, ⟨[], []⟩, .mov (.k nilSV)⟩] [] []) (.seq (.seq (.reg false [⟨some 8, none, ⟨[], []⟩, .mov (.k (.int .i64 0))⟩] [] []) (.block 0 (.loop b18_1))) (r18_4))))
def kp18_1 : List Nat := [0, 1, 5, 6, 7, 8]
def kl18_1 : List Nat := [10, 11, 12, 13]
attribute [push_cast] kp18_1 kl18_1
def kp18_2 : List Nat := [0, 1, 5, 6, 7, 10]
def kl18_2 : List Nat := [14, 15, 16, 17, 18, 19, 20, 21, 22, 23, 24, 25, 26, 27]
attribute [push_cast] kp18_2 kl18_2
theorem comp18 : (Try.f18.body.bind fun c => compC tab isP chkAll ir18 c) = some ir18 := by kernel_rfl
set_option maxRecDepth 512

set_option maxRecDepth 3000 in
theorem ok18 : FSOk Try.prog 18 fs38 := by
  refine ⟨⟨_, Try.func18, by kernel_rfl, by kernel_rfl⟩, fun a => ⟨by simp [fs38, push_cast, noMine, argOwn, Chunk.frArg], by simp [fs38, push_cast, outOk, Chunk.ext], fun x => .inl (by simp [fs38, push_cast, frNew, frOut, Chunk.fr])⟩, fun a hp => ?_⟩
  obtain ⟨kind, L, xs, lo, n⟩ := a
  obtain ⟨hk, h1, h2, h3, h4, h5⟩ : (kind = 0 ∨ kind = 1) ∧ xs.length ≤ 140737488355328 ∧ 0 ≤ lo ∧ lo + n ≤ xs.length ∧ n ≤ 1000000 ∧ AllIn (-1073741824) 1073741824 xs := hp
  change Tri Try.prog 18 [.int .i64 kind, .sl 0 L 1 lo n] [some (.ro, L, .ints .i64 xs)] (postF fs38 ⟨kind, L, xs, lo, n⟩)
  obtain ⟨f, hf⟩ : ∃ f : Int → Int, (fun j => rd xs (lo + j)) = f := ⟨_, rfl⟩
  have hfj : ∀ j, rd xs (lo + j) = f j := fun j => by rw [← hf]
  have hB : BdF 1073741824 f := by rw [← hf]; exact BdF.rd h5 (by omega) lo
  obtain ⟨m, hm⟩ : ∃ m, n / 2 = m := ⟨_, rfl⟩
  have en : ((n : Int) / 2) = (m : Int) := by omega
  refine tri_evS (hyp (l := [(41, ent41)]) (lp := [(40, downF)]) ⟨e41, trivial⟩ ⟨p40, trivial⟩) Try.func18 comp18 (rs := [.tmp 4]) (by rfl) Try.ntmps18 29 ?_
  simp -implicitDefEqProofs only [push_cast, false_implies, reduceCtorEq, Classical.not_not, Nat.reduceAdd, Nat.reduceSub, Nat.reduceMul, Nat.reduceLeDiff, Nat.reduceLT, Nat.reduceEqDiff, Nat.reduceBEq, Nat.reduceBNe, Int.reduceNeg, Int.reduceToNat, Bool.or_false, Bool.false_or, Bool.or_true, Bool.true_or, BEq.rfl, Bool.not_eq_true, Bool.not_eq_false, decide_eq_true_eq, not_true_eq_false, not_false_eq_true, ite_true, ite_false, List.append_nil, and_assoc, Nat.mul_zero, Nat.zero_mul, ir18]
  refine evS_loopU (A := Nat × Xf.Loc) kp18_1 kl18_1 (fun y => [(7, .sl 13 y.2 1 0 y.1), (8, .int .i64 y.1)]) (fun y => [(13, .mine, y.2, .ints .i64 (tabl y.1 (hiF kind n f)))]) (fun y => y.1 ≤ m) (fun y => m - y.1) (0, nilLoc) (Nat.zero_le _) (Sub.pt ?_) ?_
  · simp -implicitDefEqProofs only [push_cast, false_implies, reduceCtorEq, Classical.not_not, Nat.reduceAdd, Nat.reduceSub, Nat.reduceMul, Nat.reduceLeDiff, Nat.reduceLT, Nat.reduceEqDiff, Nat.reduceBEq, Nat.reduceBNe, Int.reduceNeg, Int.reduceToNat, Bool.or_false, Bool.false_or, Bool.or_true, Bool.true_or, BEq.rfl, Bool.not_eq_true, Bool.not_eq_false, decide_eq_true_eq, not_true_eq_false, not_false_eq_true, ite_true, ite_false, List.append_nil, and_assoc, Nat.mul_zero, Nat.zero_mul, tabl_zero]
  intro ⟨i, N⟩ (hi : i ≤ m) K hK
  simp -implicitDefEqProofs only [push_cast, false_implies, reduceCtorEq, Classical.not_not, Nat.reduceAdd, Nat.reduceSub, Nat.reduceMul, Nat.reduceLeDiff, Nat.reduceLT, Nat.reduceEqDiff, Nat.reduceBEq, Nat.reduceBNe, Int.reduceNeg, Int.reduceToNat, Bool.or_false, Bool.false_or, Bool.or_true, Bool.true_or, BEq.rfl, Bool.not_eq_true, Bool.not_eq_false, decide_eq_true_eq, not_true_eq_false, not_false_eq_true, ite_true, ite_false, List.append_nil, and_assoc, Nat.mul_zero, Nat.zero_mul, b18_1, r18_4]
  rw [en]
  repeat (refine And.intro (by first | omega | trivial | (intros; omega)) ?_)
  refine ⟨fun hl => ?_, fun hl => ?_⟩
  · have hi' : i < m := by omega
    have b0 := hB (2 * i)
    have b1 := hB (2 * i + 1)
    have b2 := hB (2 * i + 2)
    simp only [hfj, tabl_length]
    refine ⟨fun hk0 => ?_, fun hk0 => ?_⟩
    · intro X
      repeat (refine And.intro (by first | omega | trivial | (intros; omega)) ?_)
      refine hK (i + 1, X 14 11) (show i + 1 ≤ m by omega) (show m - (i + 1) < m - i by omega) _ _ (Sub.of (mkG 30 [(0, 0), (13, 11)]) ?_)
      have e : f (2 * i + 1) - f (2 * i) = hiF kind n f i := by simp [hiF, hk0]
      simp -implicitDefEqProofs only [push_cast, false_implies, reduceCtorEq, Classical.not_not, Nat.reduceAdd, Nat.reduceSub, Nat.reduceMul, Nat.reduceLeDiff, Nat.reduceLT, Nat.reduceEqDiff, Nat.reduceBEq, Nat.reduceBNe, Int.reduceNeg, Int.reduceToNat, Bool.or_false, Bool.false_or, Bool.or_true, Bool.true_or, BEq.rfl, Bool.not_eq_true, Bool.not_eq_false, decide_eq_true_eq, not_true_eq_false, not_false_eq_true, ite_true, ite_false, List.append_nil, and_assoc, Nat.mul_zero, Nat.zero_mul, e, tabl_snoc]
    · repeat (refine And.intro (by first | omega | trivial | (intros; omega)) ?_)
      refine ⟨fun hr => ?_, fun hr => ?_⟩
      · repeat (refine And.intro (by first | omega | trivial | (intros; omega)) ?_)
        intro X
        repeat (refine And.intro (by first | omega | trivial | (intros; omega)) ?_)
        refine hK (i + 1, X 17 13) (show i + 1 ≤ m by omega) (show m - (i + 1) < m - i by omega) _ _ (Sub.pt ?_)
        have e : f (2 * i + 1) - (f (2 * i) + f (2 * i + 2)) / 2 = hiF kind n f i := by simp [hiF, nxt, hk0, hr]
        simp -implicitDefEqProofs only [push_cast, false_implies, reduceCtorEq, Classical.not_not, Nat.reduceAdd, Nat.reduceSub, Nat.reduceMul, Nat.reduceLeDiff, Nat.reduceLT, Nat.reduceEqDiff, Nat.reduceBEq, Nat.reduceBNe, Int.reduceNeg, Int.reduceToNat, Bool.or_false, Bool.false_or, Bool.or_true, Bool.true_or, BEq.rfl, Bool.not_eq_true, Bool.not_eq_false, decide_eq_true_eq, not_true_eq_false, not_false_eq_true, ite_true, ite_false, List.append_nil, and_assoc, Nat.mul_zero, Nat.zero_mul, e, tabl_snoc]
      · repeat (refine And.intro (by first | omega | trivial | (intros; omega)) ?_)
        intro X
        repeat (refine And.intro (by first | omega | trivial | (intros; omega)) ?_)
        refine hK (i + 1, X 17 13) (show i + 1 ≤ m by omega) (show m - (i + 1) < m - i by omega) _ _ (Sub.pt ?_)
        have e : f (2 * i + 1) - (f (2 * i) + f (2 * i)) / 2 = hiF kind n f i := by simp [hiF, nxt, hk0, hr]
        simp -implicitDefEqProofs only [push_cast, false_implies, reduceCtorEq, Classical.not_not, Nat.reduceAdd, Nat.reduceSub, Nat.reduceMul, Nat.reduceLeDiff, Nat.reduceLT, Nat.reduceEqDiff, Nat.reduceBEq, Nat.reduceBNe, Int.reduceNeg, Int.reduceToNat, Bool.or_false, Bool.false_or, Bool.or_true, Bool.true_or, BEq.rfl, Bool.not_eq_true, Bool.not_eq_false, decide_eq_true_eq, not_true_eq_false, not_false_eq_true, ite_true, ite_false, List.append_nil, and_assoc, Nat.mul_zero, Nat.zero_mul, e, tabl_snoc]
  · obtain rfl : i = m := by omega
    clear hK
    have hh : tabl i (hiF kind n f) = hiL kind n f := by unfold hiL; rw [hm]
    rw [hh]
    have hHB := hiL_bd (kind := kind) (n := n) hB
    have hHl : (hiL kind n f).length = i := by unfold hiL; rw [tabl_length, hm]
    have hG := BdF.rd0 (B := 2147483648) (fun q hq => by have := hHB q hq; omega : AllIn (-2147483648) 2147483648 (hiL kind n f)) (by omega)
    refine evS_loopU (A := Nat × Xf.Loc) kp18_2 kl18_2 (fun y => [(6, .sl 25 y.2 1 0 y.1), (10, .int .i64 y.1)]) (fun y => [(25, .mine, y.2, .ints .i64 (tabl y.1 (loF kind n f)))]) (fun y => y.1 ≤ n - i) (fun y => n - i - y.1) (0, nilLoc) (Nat.zero_le _) (Sub.pt ?_) ?_
    · simp -implicitDefEqProofs only [push_cast, false_implies, reduceCtorEq, Classical.not_not, Nat.reduceAdd, Nat.reduceSub, Nat.reduceMul, Nat.reduceLeDiff, Nat.reduceLT, Nat.reduceEqDiff, Nat.reduceBEq, Nat.reduceBNe, Int.reduceNeg, Int.reduceToNat, Bool.or_false, Bool.false_or, Bool.or_true, Bool.true_or, BEq.rfl, Bool.not_eq_true, Bool.not_eq_false, decide_eq_true_eq, not_true_eq_false, not_false_eq_true, ite_true, ite_false, List.append_nil, and_assoc, Nat.mul_zero, Nat.zero_mul, tabl_zero]
    intro ⟨j, N2⟩ (hj : j ≤ n - i) K2 hK2
    simp -implicitDefEqProofs only [push_cast, false_implies, reduceCtorEq, Classical.not_not, Nat.reduceAdd, Nat.reduceSub, Nat.reduceMul, Nat.reduceLeDiff, Nat.reduceLT, Nat.reduceEqDiff, Nat.reduceBEq, Nat.reduceBNe, Int.reduceNeg, Int.reduceToNat, Bool.or_false, Bool.false_or, Bool.or_true, Bool.true_or, BEq.rfl, Bool.not_eq_true, Bool.not_eq_false, decide_eq_true_eq, not_true_eq_false, not_false_eq_true, ite_true, ite_false, List.append_nil, and_assoc, Nat.mul_zero, Nat.zero_mul, b18_2, r18_3, fs41]
    repeat (refine And.intro (by first | omega | trivial | (intros; omega)) ?_)
    refine ⟨fun hl => ?_, fun hl => ?_⟩
    · have b0 := hB (2 * j)
      simp only [hfj, tabl_length, hHl]
      have g0 := hG j
      have g1 := hG (max ((j : Int) - 1) 0)
      have g2 := hG (min (j : Int) (i - 1))
      simp only at g0 g1 g2
      have hsn : ∀ v, loF kind n f j = v → tabl j (loF kind n f) ++ [v] = tabl (j + 1) (loF kind n f) := fun v hv => by rw [← hv, tabl_snoc]
      refine ⟨fun hc => ?_, fun hc => ⟨fun hc2 => ?_, fun hc2 => ?_⟩⟩
      · intro X
        repeat (refine And.intro (by first | omega | trivial | (intros; omega)) ?_)
        refine hK2 (j + 1, X 13 15) (show j + 1 ≤ n - i by omega) (show n - i - (j + 1) < n - i - j by omega) _ _ (Sub.of (mkG 30 [(0, 0), (13, 13), (25, 15)]) ?_)
        have e := hsn (f (2 * j) + rd (hiL kind n f) j / 2) (by unfold loF liftG; rw [hm, if_neg (by omega), if_pos hc.1])
        simp -implicitDefEqProofs only [push_cast, false_implies, reduceCtorEq, Classical.not_not, Nat.reduceAdd, Nat.reduceSub, Nat.reduceMul, Nat.reduceLeDiff, Nat.reduceLT, Nat.reduceEqDiff, Nat.reduceBEq, Nat.reduceBNe, Int.reduceNeg, Int.reduceToNat, Bool.or_false, Bool.false_or, Bool.or_true, Bool.true_or, BEq.rfl, Bool.not_eq_true, Bool.not_eq_false, decide_eq_true_eq, not_true_eq_false, not_false_eq_true, ite_true, ite_false, List.append_nil, and_assoc, Nat.mul_zero, Nat.zero_mul, e]
      · intro X
        have ea : nearV (hiL kind n f) 0 i ((j : Int) - 1) = rd (hiL kind n f) (max ((j : Int) - 1) 0) := by unfold nearV; congr 1; omega
        have eb : nearV (hiL kind n f) 0 i (j : Int) = rd (hiL kind n f) (min (j : Int) (i - 1)) := by unfold nearV; congr 1; omega
        simp only [ea, eb]
        repeat (refine And.intro (by first | omega | trivial | (intros; omega)) ?_)
        refine hK2 (j + 1, X 18 25) (show j + 1 ≤ n - i by omega) (show n - i - (j + 1) < n - i - j by omega) _ _ (Sub.pt ?_)
        have e := hsn (f (2 * j) + (rd (hiL kind n f) (max ((j : Int) - 1) 0) + rd (hiL kind n f) (min (j : Int) (i - 1)) + 2) / 4) (by unfold loF liftG; rw [hm, if_neg (by omega), if_neg (by omega)])
        simp -implicitDefEqProofs only [push_cast, false_implies, reduceCtorEq, Classical.not_not, Nat.reduceAdd, Nat.reduceSub, Nat.reduceMul, Nat.reduceLeDiff, Nat.reduceLT, Nat.reduceEqDiff, Nat.reduceBEq, Nat.reduceBNe, Int.reduceNeg, Int.reduceToNat, Bool.or_false, Bool.false_or, Bool.or_true, Bool.true_or, BEq.rfl, Bool.not_eq_true, Bool.not_eq_false, decide_eq_true_eq, not_true_eq_false, not_false_eq_true, ite_true, ite_false, List.append_nil, and_assoc, Nat.mul_zero, Nat.zero_mul, e]
      · intro X
        repeat (refine And.intro (by first | omega | trivial | (intros; omega)) ?_)
        refine hK2 (j + 1, X 7 27) (show j + 1 ≤ n - i by omega) (show n - i - (j + 1) < n - i - j by omega) _ _ (Sub.of (mkG 30 [(0, 0), (13, 13), (25, 27)]) ?_)
        have e := hsn (f (2 * j)) (by unfold loF liftG; rw [hm, if_pos (by omega), Int.add_zero])
        simp -implicitDefEqProofs only [push_cast, false_implies, reduceCtorEq, Classical.not_not, Nat.reduceAdd, Nat.reduceSub, Nat.reduceMul, Nat.reduceLeDiff, Nat.reduceLT, Nat.reduceEqDiff, Nat.reduceBEq, Nat.reduceBNe, Int.reduceNeg, Int.reduceToNat, Bool.or_false, Bool.false_or, Bool.or_true, Bool.true_or, BEq.rfl, Bool.not_eq_true, Bool.not_eq_false, decide_eq_true_eq, not_true_eq_false, not_false_eq_true, ite_true, ite_false, List.append_nil, and_assoc, Nat.mul_zero, Nat.zero_mul, e]
    · have hj2 : j = n - i := by omega
      simp only [tabl_length, hHl]
      intro X2
      repeat (refine And.intro (by first | omega | trivial | (intros; omega)) ?_)
      refine postF.mk' (fun _ => X2 2 28) [some 0, some 28] ?_
      have q : tabl j (loF kind n f) ++ hiL kind n f = lineL kind n (fun j => rd xs (lo + j)) := by
        rw [hf, hj2]; unfold lineL; rw [hm]
      simp -implicitDefEqProofs only [push_cast, false_implies, reduceCtorEq, Classical.not_not, Nat.reduceAdd, Nat.reduceSub, Nat.reduceMul, Nat.reduceLeDiff, Nat.reduceLT, Nat.reduceEqDiff, Nat.reduceBEq, Nat.reduceBNe, Int.reduceNeg, Int.reduceToNat, Bool.or_false, Bool.false_or, Bool.or_true, Bool.true_or, BEq.rfl, Bool.not_eq_true, Bool.not_eq_false, decide_eq_true_eq, not_true_eq_false, not_false_eq_true, ite_true, ite_false, List.append_nil, and_assoc, Nat.mul_zero, Nat.zero_mul, fs38, q]
      omega
def ent18 : Entry := spOf fs38 inv38
theorem e18 : EntryOk Try.prog 18 ent18 := entry_of ok18 inv38
@[push_cast] theorem ent18_app (us : List SV) (look : Look) (x : Nat → Xf.Loc) (k : Nat) : ent18 us look x k = spOf fs38 inv38 us look x k := rfl
end Go.Proofs.Ytefggfjblhniaaa
