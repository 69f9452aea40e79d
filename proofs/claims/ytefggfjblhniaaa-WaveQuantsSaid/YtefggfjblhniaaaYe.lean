import Derived.Test.YtefggfjblhniaaaYd
set_option linter.unusedVariables false
set_option linter.unusedSimpArgs false
/-! Wave: the reference's numbers of a line. -/
namespace Go.Proofs.Ytefggfjblhniaaa
open Xf
set_option maxRecDepth 4000
/- incunable/incunableref18.Unline : slots 148, labels 10..18; loop b19_1 keeps [0, 5, 6, 7, 8, 9]; loop b19_2 keeps [0, 5, 7, 8, 91, 92] -/
def b19_1 : IR :=
  .seq (.seq (.reg false [⟨some 26, none, ⟨[], []⟩, .mov (.t 9)⟩,
    ⟨some 27, none, ⟨[], []⟩, .bin 0 .mul (.k (.int .i64 2)) (.t 26)⟩,
    ⟨some 28, none, ⟨[], []⟩, .mov (.t 5)⟩,
    ⟨some 29, none, ⟨[], []⟩, .bin 0 .lss (.t 27) (.t 28)⟩] [26, 27, 28] []) (.cond (.t 29) (.skip) (.exit 0))) (.seq (.block 1 (.block 2 (.seq (.reg false [⟨some 41, none, ⟨[], []⟩, .mov (.t 0)⟩,
    ⟨some 42, none, ⟨[], []⟩, .bin 0 .eql (.t 41) (.k (.int .i64 1))⟩,
    ⟨some 43, none, ⟨[], []⟩, .mov (.t 42)⟩,
    ⟨some 44, some (43, true), ⟨[], []⟩, .mov (.t 9)⟩,
    ⟨some 45, some (43, true), ⟨[], []⟩, .mov (.t 7)⟩,
    ⟨some 46, some (43, true), ⟨[], []⟩, .len (.t 45)⟩,
    ⟨some 47, some (43, true), ⟨[], []⟩, .bin 0 .lss (.t 44) (.t 46)⟩,
    ⟨some 48, none, ⟨[], []⟩, .pick (.t 43) (.t 47) (.k (.bool false))⟩,
    ⟨some 40, none, ⟨[], []⟩, .mov (.t 48)⟩] [29, 41, 42, 43, 44, 45, 46, 47, 48] []) (.cond (.t 40) (.reg true [⟨some 49, none, ⟨[], []⟩, .mov (.t 8)⟩,
    ⟨some 50, none, ⟨[], []⟩, .mov (.t 9)⟩,
    ⟨some 51, none, ⟨[], []⟩, .bin 0 .mul (.k (.int .i64 2)) (.t 50)⟩,
    ⟨some 52, none, ⟨[], []⟩, .mov (.t 6)⟩,
    ⟨some 53, none, ⟨[], []⟩, .mov (.t 9)⟩,
    ⟨some 54, none, ⟨[], []⟩, .idxS (.t 52) (.t 53) 1⟩,
    ⟨some 55, none, ⟨[], []⟩, .ld true none 0 0 (.t 54)⟩,
    ⟨some 56, none, ⟨[], []⟩, .mov (.t 7)⟩,
    ⟨some 57, none, ⟨[], []⟩, .mov (.t 9)⟩,
    ⟨some 58, none, ⟨[], []⟩, .idxS (.t 56) (.t 57) 1⟩,
    ⟨some 59, none, ⟨[], []⟩, .ld true none 0 0 (.t 58)⟩,
    ⟨some 60, none, ⟨[], []⟩, .callp 40 [.t 59, .k (.int .i64 2)]⟩,
    ⟨some 61, none, ⟨[], []⟩, .bin 0 .sub (.t 55) (.t 60)⟩,
    ⟨some 62, none, ⟨[], []⟩, .idxS (.t 49) (.t 51) 1⟩,
    ⟨none, none, ⟨[], []⟩, .sto true 1 .i64 (.t 62) (.t 61)⟩] [40, 49, 50, 51, 52, 53, 54, 55, 56, 57, 58, 59, 60, 61, 62] []) (.seq (.reg false [⟨some 64, none, ⟨[], []⟩, .mov (.t 0)⟩,
    ⟨some 65, none, ⟨[], []⟩, .bin 0 .eql (.t 64) (.k (.int .i64 0))⟩,
    ⟨some 66, none, ⟨[], []⟩, .mov (.t 65)⟩,
    ⟨some 67, some (66, true), ⟨[], []⟩, .mov (.t 7)⟩,
    ⟨some 68, some (66, true), ⟨[], []⟩, .len (.t 67)⟩,
    ⟨some 69, some (66, true), ⟨[], []⟩, .bin 0 .gtr (.t 68) (.k (.int .i64 0))⟩,
    ⟨some 70, none, ⟨[], []⟩, .pick (.t 66) (.t 69) (.k (.bool false))⟩,
    ⟨some 63, none, ⟨[], []⟩, .mov (.t 70)⟩] [40, 64, 65, 66, 67, 68, 69, 70] []) (.cond (.t 63) (.reg true [⟨some 71, none, ⟨[], []⟩, .mov (.t 8)⟩,
    ⟨some 72, none, ⟨[], []⟩, .mov (.t 9)⟩,
    ⟨some 73, none, ⟨[], []⟩, .bin 0 .mul (.k (.int .i64 2)) (.t 72)⟩,
    ⟨some 74, none, ⟨[], []⟩, .mov (.t 6)⟩,
    ⟨some 75, none, ⟨[], []⟩, .mov (.t 9)⟩,
    ⟨some 76, none, ⟨[], []⟩, .idxS (.t 74) (.t 75) 1⟩,
    ⟨some 77, none, ⟨[11, 12, 13, 14, 15, 16, 17, 18], []⟩, .ld true none 0 0 (.t 76)⟩,
    ⟨some 78, none, ⟨[], []⟩, .mov (.t 7)⟩,
    ⟨some 79, none, ⟨[], []⟩, .mov (.t 9)⟩,
    ⟨some 80, none, ⟨[], []⟩, .bin 0 .sub (.t 79) (.k (.int .i64 1))⟩,
    ⟨some 81, none, ⟨[], []⟩, .call (some 4) 11 41 [.t 78, .t 80]⟩,
    ⟨some 82, none, ⟨[], []⟩, .mov (.t 7)⟩,
    ⟨some 83, none, ⟨[], []⟩, .mov (.t 9)⟩,
    ⟨some 84, none, ⟨[], []⟩, .call (some 4) 15 41 [.t 82, .t 83]⟩,
    ⟨some 85, none, ⟨[], []⟩, .bin 0 .add (.t 81) (.t 84)⟩,
    ⟨some 86, none, ⟨[], []⟩, .bin 0 .add (.t 85) (.k (.int .i64 2))⟩,
    ⟨some 87, none, ⟨[], []⟩, .callp 40 [.t 86, .k (.int .i64 4)]⟩,
    ⟨some 88, none, ⟨[], []⟩, .bin 0 .sub (.t 77) (.t 87)⟩,
    ⟨some 89, none, ⟨[], []⟩, .idxS (.t 71) (.t 73) 1⟩,
    ⟨none, none, ⟨[], []⟩, .sto true 1 .i64 (.t 89) (.t 88)⟩] [63, 71, 72, 73, 74, 75, 76, 77, 78, 79, 80, 81, 82, 83, 84, 85, 86, 87, 88, 89] []) (.reg false [⟨some 32, none, ⟨[], []⟩, .mov (.t 8)⟩,
    ⟨some 33, none, ⟨[], []⟩, .mov (.t 9)⟩,
    ⟨some 34, none, ⟨[], []⟩, .bin 0 .mul (.k (.int .i64 2)) (.t 33)⟩,
    ⟨some 35, none, ⟨[], []⟩, .mov (.t 6)⟩,
    ⟨some 36, none, ⟨[], []⟩, .mov (.t 9)⟩,
    ⟨some 37, none, ⟨[], []⟩, .idxS (.t 35) (.t 36) 1⟩,
    ⟨some 38, none, ⟨[], []⟩, .ld true none 0 0 (.t 37)⟩,
    ⟨some 39, none, ⟨[], []⟩, .idxS (.t 32) (.t 34) 1⟩,
    ⟨none, none, ⟨[], []⟩, .sto true 1 .i64 (.t 39) (.t 38)⟩] [32, 33, 34, 35, 36, 37, 38, 39, 63] []))))))) (.reg false [⟨some 30, none, ⟨[], []⟩, .mov (.t 9)⟩,
    ⟨some 31, none, ⟨[], []⟩, .bin 0 .add (.t 30) (.k (.int .i64 1))⟩,
    ⟨some 9, none, ⟨[], []⟩, .mov (.t 31)⟩] [30, 31] []))
def b19_2 : IR :=
  .seq (.reg false [⟨some 93, none, ⟨[], []⟩, .bin 0 .lss (.t 92) (.t 91)⟩] [] []) (.seq (.cond (.t 93) (.skip) (.exit 3)) (.seq (.block 4 (.seq (.reg false [⟨some 94, none, ⟨[], []⟩, .mov (.t 92)⟩,
    ⟨some 10, none, ⟨[], []⟩, .mov (.t 94)⟩] [93, 94] []) (.seq (.seq (.reg false [⟨some 95, none, ⟨[], []⟩, .mov (.t 0)⟩,
    ⟨some 96, none, ⟨[], []⟩, .bin 0 .eql (.t 95) (.k (.int .i64 1))⟩] [95] []) (.cond (.t 96) (.seq (.reg true [⟨some 97, none, ⟨[], []⟩, .mov (.t 8)⟩,
    ⟨some 98, none, ⟨[], []⟩, .mov (.t 10)⟩,
    ⟨some 99, none, ⟨[], []⟩, .bin 0 .mul (.k (.int .i64 2)) (.t 98)⟩,
    ⟨some 100, none, ⟨[], []⟩, .bin 0 .add (.t 99) (.k (.int .i64 1))⟩,
    ⟨some 101, none, ⟨[], []⟩, .mov (.t 7)⟩,
    ⟨some 102, none, ⟨[], []⟩, .mov (.t 10)⟩,
    ⟨some 103, none, ⟨[], []⟩, .idxS (.t 101) (.t 102) 1⟩,
    ⟨some 104, none, ⟨[], []⟩, .ld true none 0 0 (.t 103)⟩,
    ⟨some 105, none, ⟨[], []⟩, .mov (.t 8)⟩,
    ⟨some 106, none, ⟨[], []⟩, .mov (.t 10)⟩,
    ⟨some 107, none, ⟨[], []⟩, .bin 0 .mul (.k (.int .i64 2)) (.t 106)⟩,
    ⟨some 108, none, ⟨[], []⟩, .idxS (.t 105) (.t 107) 1⟩,
    ⟨some 109, none, ⟨[], []⟩, .ld true none 0 0 (.t 108)⟩,
    ⟨some 110, none, ⟨[], []⟩, .bin 0 .add (.t 104) (.t 109)⟩,
    ⟨some 111, none, ⟨[], []⟩, .idxS (.t 97) (.t 100) 1⟩,
    ⟨none, none, ⟨[], []⟩, .sto true 1 .i64 (.t 111) (.t 110)⟩] [10, 96, 97, 98, 99, 100, 101, 102, 103, 104, 105, 106, 107, 108, 109, 110, 111] []) (.exit 4)) (.skip))) (.seq (.reg false [⟨some 112, none, ⟨[], []⟩, .mov (.t 8)⟩,
    ⟨some 113, none, ⟨[], []⟩, .mov (.t 10)⟩,
    ⟨some 114, none, ⟨[], []⟩, .bin 0 .mul (.k (.int .i64 2)) (.t 113)⟩,
    ⟨some 115, none, ⟨[], []⟩, .idxS (.t 112) (.t 114) 1⟩,
    ⟨some 116, none, ⟨[], []⟩, .ld true none 0 0 (.t 115)⟩,
    ⟨some 11, none, ⟨[], []⟩, .mov (.t 116)⟩] [96, 112, 113, 114, 115, 116] []) (.seq (.seq (.reg false [⟨some 117, none, ⟨[], []⟩, .mov (.t 10)⟩,
    ⟨some 118, none, ⟨[], []⟩, .bin 0 .mul (.k (.int .i64 2)) (.t 117)⟩,
    ⟨some 119, none, ⟨[], []⟩, .bin 0 .add (.t 118) (.k (.int .i64 2))⟩,
    ⟨some 120, none, ⟨[], []⟩, .mov (.t 5)⟩,
    ⟨some 121, none, ⟨[], []⟩, .bin 0 .lss (.t 119) (.t 120)⟩] [117, 118, 119, 120] []) (.cond (.t 121) (.reg false [⟨some 122, none, ⟨[], []⟩, .mov (.t 8)⟩,
    ⟨some 123, none, ⟨[], []⟩, .mov (.t 10)⟩,
    ⟨some 124, none, ⟨[], []⟩, .bin 0 .mul (.k (.int .i64 2)) (.t 123)⟩,
    ⟨some 125, none, ⟨[], []⟩, .bin 0 .add (.t 124) (.k (.int .i64 2))⟩,
    ⟨some 126, none, ⟨[], []⟩, .idxS (.t 122) (.t 125) 1⟩,
    ⟨some 127, none, ⟨[], []⟩, .ld true none 0 0 (.t 126)⟩,
    ⟨some 11, none, ⟨[], []⟩, .mov (.t 127)⟩] [121, 122, 123, 124, 125, 126, 127] []) (.skip))) (.reg true [⟨some 128, none, ⟨[], []⟩, .mov (.t 8)⟩,
    ⟨some 129, none, ⟨[], []⟩, .mov (.t 10)⟩,
    ⟨some 130, none, ⟨[], []⟩, .bin 0 .mul (.k (.int .i64 2)) (.t 129)⟩,
    ⟨some 131, none, ⟨[], []⟩, .bin 0 .add (.t 130) (.k (.int .i64 1))⟩,
    ⟨some 132, none, ⟨[], []⟩, .mov (.t 7)⟩,
    ⟨some 133, none, ⟨[], []⟩, .mov (.t 10)⟩,
    ⟨some 134, none, ⟨[], []⟩, .idxS (.t 132) (.t 133) 1⟩,
    ⟨some 135, none, ⟨[], []⟩, .ld true none 0 0 (.t 134)⟩,
    ⟨some 136, none, ⟨[], []⟩, .mov (.t 8)⟩,
    ⟨some 137, none, ⟨[], []⟩, .mov (.t 10)⟩,
    ⟨some 138, none, ⟨[], []⟩, .bin 0 .mul (.k (.int .i64 2)) (.t 137)⟩,
    ⟨some 139, none, ⟨[], []⟩, .idxS (.t 136) (.t 138) 1⟩,
    ⟨some 140, none, ⟨[], []⟩, .ld true none 0 0 (.t 139)⟩,
    ⟨some 141, none, ⟨[], []⟩, .mov (.t 11)⟩,
    ⟨some 142, none, ⟨[], []⟩, .bin 0 .add (.t 140) (.t 141)⟩,
    ⟨some 143, none, ⟨[], []⟩, .callp 40 [.t 142, .k (.int .i64 2)]⟩,
    ⟨some 144, none, ⟨[], []⟩, .bin 0 .add (.t 135) (.t 143)⟩,
    ⟨some 145, none, ⟨[], []⟩, .idxS (.t 128) (.t 131) 1⟩,
    ⟨none, none, ⟨[], []⟩, .sto true 1 .i64 (.t 145) (.t 144)⟩] [10, 11, 121, 128, 129, 130, 131, 132, 133, 134, 135, 136, 137, 138, 139, 140, 141, 142, 143, 144, 145] [])))))) (.reg false [⟨some 146, none, ⟨[], []⟩, .bin 0 .add (.t 92) (.k (.int .i64 1))⟩,
    ⟨some 92, none, ⟨[], []⟩, .mov (.t 146)⟩] [146] [])))
def r19_3 : IR :=
  .seq (.reg false [⟨some 147, none, ⟨[], []⟩, .mov (.t 8)⟩,
    ⟨some 4, none, ⟨[], []⟩, .mov (.t 147)⟩] [0, 5, 7, 8, 91, 92, 147] []) (.ret)
def r19_4 : IR :=
  .seq (.seq (.reg false [⟨some 90, none, ⟨[], []⟩, .mov (.t 7)⟩,
    ⟨some 91, none, ⟨[], []⟩, .len (.t 90)⟩,
    ⟨some 92, none, ⟨[], []⟩, .mov (.k (.int .i64 0))⟩] [6, 9, 90] []) (.block 3 (.loop b19_2))) (r19_3)
def ir19 : IR :=
  .seq (.reg false [⟨some 4, none, ⟨[], []⟩, .mov (.k nilSV)⟩] [4] []) (.seq (.reg false [⟨some 12, none, ⟨[], []⟩, .mov (.t 1)⟩,
    ⟨some 13, none, ⟨[], []⟩, .len (.t 12)⟩,
    ⟨some 5, none, ⟨[], []⟩, .mov (.t 13)⟩] [12, 13] []) (.seq (.reg true [⟨some 14, none, ⟨[], []⟩, .mov (.t 1)⟩,
    ⟨some 15, none, ⟨[], []⟩, .mov (.t 5)⟩,
    ⟨some 16, none, ⟨[], []⟩, .bin 0 .add (.t 15) (.k (.int .i64 1))⟩,
    ⟨some 17, none, ⟨[], []⟩, .bin 0 .quo (.t 16) (.k (.int .i64 2))⟩,
    ⟨some 18, none, ⟨[], []⟩, .slc (.t 14) 1 none (some (.t 17))⟩,
    ⟨some 19, none, ⟨[], []⟩, .mov (.t 1)⟩,
    ⟨some 20, none, ⟨[], []⟩, .mov (.t 5)⟩,
    ⟨some 21, none, ⟨[], []⟩, .bin 0 .add (.t 20) (.k (.int .i64 1))⟩,
    ⟨some 22, none, ⟨[], []⟩, .bin 0 .quo (.t 21) (.k (.int .i64 2))⟩,
    ⟨some 23, none, ⟨[], []⟩, .slc (.t 19) 1 (some (.t 22)) none⟩,
    ⟨some 6, none, ⟨[], []⟩, .mov (.t 18)⟩,
    ⟨some 7, none, ⟨[], []⟩, .mov (.t 23)⟩] [1, 14, 15, 16, 17, 18, 19, 20, 21, 22, 23] []) (.seq (.reg false [⟨some 24, none, ⟨[], []⟩, .mov (.t 5)⟩,
    ⟨some 25, none, ⟨[], []⟩, .mks 10 (.int .i64 0) 8 (.t 24) (.t 24)⟩,
    ⟨some 8, none, ⟨[], []⟩, .mov (.t 25)⟩] [24, 25] []) (.seq (.seq (.reg false [⟨some 9, none, ⟨[], []⟩, .mov (.k (.int .i64 0))⟩] [] []) (.block 0 (.loop b19_1))) (r19_4)))))
def kp19_1 : List Nat := [0, 5, 6, 7, 8, 9]
def kl19_1 : List Nat := [11, 12, 13, 14, 15, 16, 17, 18]
attribute [push_cast] kp19_1 kl19_1
def kp19_2 : List Nat := [0, 5, 7, 8, 91, 92]
def kl19_2 : List Nat := []
attribute [push_cast] kp19_2 kl19_2
theorem comp19 : (Try.f19.body.bind fun c => compC tab isP chkAll ir19 c) = some ir19 := by kernel_rfl
set_option maxRecDepth 512

set_option maxRecDepth 3000 in
theorem ok19 : FSOk Try.prog 19 fs39 := by
  refine ⟨⟨_, Try.func19, by kernel_rfl, by kernel_rfl⟩, fun a => ⟨by simp [fs39, push_cast, noMine, argOwn, Chunk.frArg], by simp [fs39, push_cast, outOk, Chunk.ext], fun x => .inl (by simp [fs39, push_cast, frNew, frOut, Chunk.fr])⟩, fun a hp => ?_⟩
  obtain ⟨kind, L, xs, lo, n⟩ := a
  obtain ⟨hk, h1, h2, h3, h4, h5⟩ : (kind = 0 ∨ kind = 1) ∧ xs.length ≤ 140737488355328 ∧ 0 ≤ lo ∧ lo + n ≤ xs.length ∧ n ≤ 1000000 ∧ AllIn (-1099511627776) 1099511627776 xs := hp
  change Tri Try.prog 19 [.int .i64 kind, .sl 0 L 1 lo n] [some (.ro, L, .ints .i64 xs)] (postF fs39 ⟨kind, L, xs, lo, n⟩)
  obtain ⟨f, hf⟩ : ∃ f : Int → Int, (fun j => rd xs (lo + j)) = f := ⟨_, rfl⟩
  have hfj : ∀ j, rd xs (lo + j) = f j := fun j => by rw [← hf]
  have hB : BdF 1099511627776 f := by rw [← hf]; exact BdF.rd h5 (by omega) lo
  obtain ⟨m, hm⟩ : ∃ m, n / 2 = m := ⟨_, rfl⟩
  have en : (((n : Int) + 1) / 2) = (n : Int) - m := by omega
  refine tri_evS (hyp (l := [(41, ent41)]) (lp := [(40, downF)]) ⟨e41, trivial⟩ ⟨p40, trivial⟩) Try.func19 comp19 (rs := [.tmp 4]) (by rfl) Try.ntmps19 19 ?_
  simp -implicitDefEqProofs only [push_cast, false_implies, reduceCtorEq, Classical.not_not, Nat.reduceAdd, Nat.reduceSub, Nat.reduceMul, Nat.reduceLeDiff, Nat.reduceLT, Nat.reduceEqDiff, Nat.reduceBEq, Nat.reduceBNe, Int.reduceNeg, Int.reduceToNat, Bool.or_false, Bool.false_or, Bool.or_true, Bool.true_or, BEq.rfl, Bool.not_eq_true, Bool.not_eq_false, decide_eq_true_eq, not_true_eq_false, not_false_eq_true, ite_true, ite_false, List.append_nil, and_assoc, Nat.mul_zero, Nat.zero_mul, ir19]
  rw [en]
  repeat (refine And.intro (by first | omega | trivial | (intros; omega)) ?_)
  have ed : (n : Int) - (n - m) = m := by omega
  have hgj : ∀ j, rd xs (lo + ((n : Int) - m) + j) = f ((n : Int) - m + j) := fun j => by rw [← hf]; simp only [Int.add_assoc]
  simp only [ed, Int.sub_zero]
  intro X
  repeat (refine And.intro (by first | omega | trivial | (intros; omega)) ?_)
  have hbe := fun i => evF_bd (kind := kind) (n := n) hB (by omega) i
  refine evS_loopU (A := Nat) kp19_1 kl19_1 (fun i => [(9, .int .i64 i)]) (fun i => [(10, .mine, X 1 10, .ints .i64 (tabl n (unF1 kind n f i)))]) (fun i => i ≤ n - m) (fun i => n - m - i) 0 (by omega) (Sub.pt ?_) ?_
  · simp -implicitDefEqProofs only [push_cast, false_implies, reduceCtorEq, Classical.not_not, Nat.reduceAdd, Nat.reduceSub, Nat.reduceMul, Nat.reduceLeDiff, Nat.reduceLT, Nat.reduceEqDiff, Nat.reduceBEq, Nat.reduceBNe, Int.reduceNeg, Int.reduceToNat, Bool.or_false, Bool.false_or, Bool.or_true, Bool.true_or, BEq.rfl, Bool.not_eq_true, Bool.not_eq_false, decide_eq_true_eq, not_true_eq_false, not_false_eq_true, ite_true, ite_false, List.append_nil, and_assoc, Nat.mul_zero, Nat.zero_mul, unF1_zero, Int.toNat_natCast]
  intro i (hi : i ≤ n - m) K hK
  simp -implicitDefEqProofs only [push_cast, false_implies, reduceCtorEq, Classical.not_not, Nat.reduceAdd, Nat.reduceSub, Nat.reduceMul, Nat.reduceLeDiff, Nat.reduceLT, Nat.reduceEqDiff, Nat.reduceBEq, Nat.reduceBNe, Int.reduceNeg, Int.reduceToNat, Bool.or_false, Bool.false_or, Bool.or_true, Bool.true_or, BEq.rfl, Bool.not_eq_true, Bool.not_eq_false, decide_eq_true_eq, not_true_eq_false, not_false_eq_true, ite_true, ite_false, List.append_nil, and_assoc, Nat.mul_zero, Nat.zero_mul, b19_1, r19_4, fs41]
  repeat (refine And.intro (by first | omega | trivial | (intros; omega)) ?_)
  refine ⟨fun hl => ?_, fun hl => ?_⟩
  · have hi' : 2 * i < n := by omega
    have b0 := hB i
    have b1 := hbe i
    have b2 := hB ((n : Int) - m + i)
    have b3 := hB ((n : Int) - m + max ((i : Int) - 1) 0)
    have b4 := hB ((n : Int) - m + min (i : Int) (m - 1))
    have et : (2 * (i : Int)).toNat = 2 * i := by omega
    have q := unF1_set (kind := kind) (f := f) hi'
    simp only [hfj, hgj, tabl_length]
    refine ⟨fun hc => ?_, fun hc => ⟨fun hc2 => ?_, fun hc2 => ?_⟩⟩
    · repeat (refine And.intro (by first | omega | trivial | (intros; omega)) ?_)
      refine hK (i + 1) (by omega) (by omega) _ _ (Sub.pt ?_)
      have e : evF kind n f i = f i - f ((n : Int) - m + i) / 2 := by unfold evF liftG; rw [hm, if_neg (by omega), if_pos hc.1]
      rw [e] at q
      simp -implicitDefEqProofs only [push_cast, false_implies, reduceCtorEq, Classical.not_not, Nat.reduceAdd, Nat.reduceSub, Nat.reduceMul, Nat.reduceLeDiff, Nat.reduceLT, Nat.reduceEqDiff, Nat.reduceBEq, Nat.reduceBNe, Int.reduceNeg, Int.reduceToNat, Bool.or_false, Bool.false_or, Bool.or_true, Bool.true_or, BEq.rfl, Bool.not_eq_true, Bool.not_eq_false, decide_eq_true_eq, not_true_eq_false, not_false_eq_true, ite_true, ite_false, List.append_nil, and_assoc, Nat.mul_zero, Nat.zero_mul, et, q]
    · have ea : nearV xs (lo + ((n : Int) - m)) m ((i : Int) - 1) = f ((n : Int) - m + max ((i : Int) - 1) 0) := by
        rw [← hgj]; unfold nearV; congr 1; omega
      have eb : nearV xs (lo + ((n : Int) - m)) m (i : Int) = f ((n : Int) - m + min (i : Int) (m - 1)) := by
        rw [← hgj]; unfold nearV; congr 1; omega
      simp only [ea, eb]
      try intro X2
      repeat (refine And.intro (by first | omega | trivial | (intros; omega)) ?_)
      refine hK (i + 1) (by omega) (by omega) _ _ (Sub.pt ?_)
      have e : evF kind n f i = f i - (f ((n : Int) - m + max ((i : Int) - 1) 0) + f ((n : Int) - m + min (i : Int) (m - 1)) + 2) / 4 := by unfold evF liftG; rw [hm, if_neg (by omega), if_neg (by omega)]
      rw [e] at q
      simp -implicitDefEqProofs only [push_cast, false_implies, reduceCtorEq, Classical.not_not, Nat.reduceAdd, Nat.reduceSub, Nat.reduceMul, Nat.reduceLeDiff, Nat.reduceLT, Nat.reduceEqDiff, Nat.reduceBEq, Nat.reduceBNe, Int.reduceNeg, Int.reduceToNat, Bool.or_false, Bool.false_or, Bool.or_true, Bool.true_or, BEq.rfl, Bool.not_eq_true, Bool.not_eq_false, decide_eq_true_eq, not_true_eq_false, not_false_eq_true, ite_true, ite_false, List.append_nil, and_assoc, Nat.mul_zero, Nat.zero_mul, et, q]
    · repeat (refine And.intro (by first | omega | trivial | (intros; omega)) ?_)
      refine hK (i + 1) (by omega) (by omega) _ _ (Sub.pt ?_)
      have e : evF kind n f i = f i := by unfold evF liftG; rw [hm, if_pos (by omega), Int.sub_zero]
      rw [e] at q
      simp -implicitDefEqProofs only [push_cast, false_implies, reduceCtorEq, Classical.not_not, Nat.reduceAdd, Nat.reduceSub, Nat.reduceMul, Nat.reduceLeDiff, Nat.reduceLT, Nat.reduceEqDiff, Nat.reduceBEq, Nat.reduceBNe, Int.reduceNeg, Int.reduceToNat, Bool.or_false, Bool.false_or, Bool.or_true, Bool.true_or, BEq.rfl, Bool.not_eq_true, Bool.not_eq_false, decide_eq_true_eq, not_true_eq_false, not_false_eq_true, ite_true, ite_false, List.append_nil, and_assoc, Nat.mul_zero, Nat.zero_mul, et, q]
  · obtain rfl : i = n - m := by omega
    clear hK
    have q := unF1_all kind n f
    rw [hm] at q
    rw [q]
    repeat (refine And.intro (by first | omega | trivial | (intros; omega)) ?_)
    refine evS_loopU (A := Nat) kp19_2 kl19_2 (fun i => [(92, .int .i64 i)]) (fun i => [(10, .mine, X 1 10, .ints .i64 (tabl n (unF2 kind n f i)))]) (fun i => i ≤ m) (fun i => m - i) 0 (by omega) (Sub.pt ?_) ?_
    · simp -implicitDefEqProofs only [push_cast, false_implies, reduceCtorEq, Classical.not_not, Nat.reduceAdd, Nat.reduceSub, Nat.reduceMul, Nat.reduceLeDiff, Nat.reduceLT, Nat.reduceEqDiff, Nat.reduceBEq, Nat.reduceBNe, Int.reduceNeg, Int.reduceToNat, Bool.or_false, Bool.false_or, Bool.or_true, Bool.true_or, BEq.rfl, Bool.not_eq_true, Bool.not_eq_false, decide_eq_true_eq, not_true_eq_false, not_false_eq_true, ite_true, ite_false, List.append_nil, and_assoc, Nat.mul_zero, Nat.zero_mul]
    intro i (hi : i ≤ m) K hK
    simp -implicitDefEqProofs only [push_cast, false_implies, reduceCtorEq, Classical.not_not, Nat.reduceAdd, Nat.reduceSub, Nat.reduceMul, Nat.reduceLeDiff, Nat.reduceLT, Nat.reduceEqDiff, Nat.reduceBEq, Nat.reduceBNe, Int.reduceNeg, Int.reduceToNat, Bool.or_false, Bool.false_or, Bool.or_true, Bool.true_or, BEq.rfl, Bool.not_eq_true, Bool.not_eq_false, decide_eq_true_eq, not_true_eq_false, not_false_eq_true, ite_true, ite_false, List.append_nil, and_assoc, Nat.mul_zero, Nat.zero_mul, b19_2, r19_3]
    refine ⟨fun hl => ?_, fun hl => ?_⟩
    · have hi' : 2 * i + 1 < n := by omega
      have b0 := hB ((n : Int) - m + i)
      have b1 := hbe i
      have b2 := hbe (i + 1)
      have et : (2 * (i : Int) + 1).toNat = 2 * i + 1 := by omega
      have q := unF2_set (kind := kind) (f := f) hi'
      have r0 := unF2_rd (kind := kind) (f := f) (i := i) (k := i) (n := n) (by omega)
      have r1 : 2 * (i : Int) + 2 < n → rd (tabl n (unF2 kind n f i)) (2 * (i : Int) + 2) = evF kind n f (i + 1) := fun hh => by
        have := unF2_rd (kind := kind) (f := f) (i := i) (k := i + 1) (n := n) (by omega)
        rwa [show 2 * ((i + 1 : Nat) : Int) = 2 * (i : Int) + 2 by omega] at this
      simp only [hgj, tabl_length, et, r0, List.length_set, List.set_set]
      repeat (refine And.intro (by first | omega | trivial | (intros; omega)) ?_)
      refine ⟨fun hk0 => ?_, fun hk0 => ?_⟩
      · repeat (refine And.intro (by first | omega | trivial | (intros; omega)) ?_)
        refine hK (i + 1) (by omega) (by omega) _ _ (Sub.pt ?_)
        have e : odF kind n f i = f ((n : Int) - m + i) + evF kind n f i := by
          unfold odF; rw [hm, if_pos (by omega)]
        rw [e] at q
        simp -implicitDefEqProofs only [push_cast, false_implies, reduceCtorEq, Classical.not_not, Nat.reduceAdd, Nat.reduceSub, Nat.reduceMul, Nat.reduceLeDiff, Nat.reduceLT, Nat.reduceEqDiff, Nat.reduceBEq, Nat.reduceBNe, Int.reduceNeg, Int.reduceToNat, Bool.or_false, Bool.false_or, Bool.or_true, Bool.true_or, BEq.rfl, Bool.not_eq_true, Bool.not_eq_false, decide_eq_true_eq, not_true_eq_false, not_false_eq_true, ite_true, ite_false, List.append_nil, and_assoc, Nat.mul_zero, Nat.zero_mul, q]
      · repeat (refine And.intro (by first | omega | trivial | (intros; omega)) ?_)
        refine ⟨fun hr => ?_, fun hr => ?_⟩
        · simp only [r1 hr]
          repeat (refine And.intro (by first | omega | trivial | (intros; omega)) ?_)
          refine hK (i + 1) (by omega) (by omega) _ _ (Sub.pt ?_)
          have e : odF kind n f i = f ((n : Int) - m + i) + (evF kind n f i + evF kind n f (i + 1)) / 2 := by
            unfold odF; rw [hm, if_neg (by omega), if_pos (by omega)]
          rw [e] at q
          simp -implicitDefEqProofs only [push_cast, false_implies, reduceCtorEq, Classical.not_not, Nat.reduceAdd, Nat.reduceSub, Nat.reduceMul, Nat.reduceLeDiff, Nat.reduceLT, Nat.reduceEqDiff, Nat.reduceBEq, Nat.reduceBNe, Int.reduceNeg, Int.reduceToNat, Bool.or_false, Bool.false_or, Bool.or_true, Bool.true_or, BEq.rfl, Bool.not_eq_true, Bool.not_eq_false, decide_eq_true_eq, not_true_eq_false, not_false_eq_true, ite_true, ite_false, List.append_nil, and_assoc, Nat.mul_zero, Nat.zero_mul, q]
        · repeat (refine And.intro (by first | omega | trivial | (intros; omega)) ?_)
          refine hK (i + 1) (by omega) (by omega) _ _ (Sub.pt ?_)
          have e : odF kind n f i = f ((n : Int) - m + i) + (evF kind n f i + evF kind n f i) / 2 := by
            unfold odF; rw [hm, if_neg (by omega), if_neg (by omega)]
          rw [e] at q
          simp -implicitDefEqProofs only [push_cast, false_implies, reduceCtorEq, Classical.not_not, Nat.reduceAdd, Nat.reduceSub, Nat.reduceMul, Nat.reduceLeDiff, Nat.reduceLT, Nat.reduceEqDiff, Nat.reduceBEq, Nat.reduceBNe, Int.reduceNeg, Int.reduceToNat, Bool.or_false, Bool.false_or, Bool.or_true, Bool.true_or, BEq.rfl, Bool.not_eq_true, Bool.not_eq_false, decide_eq_true_eq, not_true_eq_false, not_false_eq_true, ite_true, ite_false, List.append_nil, and_assoc, Nat.mul_zero, Nat.zero_mul, q]
    · obtain rfl : i = m := by omega
      refine postF.mk' (fun _ => X 1 10) [some 0, some 10] ?_
      have q2 : tabl n (unF2 kind n f i) = unL kind n (fun j => rd xs (lo + j)) := by rw [hf]; unfold unL; rw [hm]
      simp -implicitDefEqProofs only [push_cast, false_implies, reduceCtorEq, Classical.not_not, Nat.reduceAdd, Nat.reduceSub, Nat.reduceMul, Nat.reduceLeDiff, Nat.reduceLT, Nat.reduceEqDiff, Nat.reduceBEq, Nat.reduceBNe, Int.reduceNeg, Int.reduceToNat, Bool.or_false, Bool.false_or, Bool.or_true, Bool.true_or, BEq.rfl, Bool.not_eq_true, Bool.not_eq_false, decide_eq_true_eq, not_true_eq_false, not_false_eq_true, ite_true, ite_false, List.append_nil, and_assoc, Nat.mul_zero, Nat.zero_mul, fs39, q2]
def ent19 : Entry := spOf fs39 inv38
theorem e19 : EntryOk Try.prog 19 ent19 := entry_of ok19 inv38
@[push_cast] theorem ent19_app (us : List SV) (look : Look) (x : Nat → Xf.Loc) (k : Nat) : ent19 us look x k = spOf fs39 inv38 us look x k := rfl
end Go.Proofs.Ytefggfjblhniaaa
