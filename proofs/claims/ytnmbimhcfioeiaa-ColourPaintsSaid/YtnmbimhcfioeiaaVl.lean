import Derived.Test.YtnmbimhcfioeiaaVj
set_option linter.unusedVariables false
set_option linter.unusedSimpArgs false
/-! The reference's Turn. -/
namespace Go.Proofs.Ytnmbimhcfioeiaa
open Xf
set_option maxRecDepth 4000
/- incunable/incunableref19.Down : slots 16, labels 10..9 -/
def ir48 : IR :=
  .seq (.reg false [⟨some 4, none, ⟨[], []⟩, .mov (.k (.int .i64 0))⟩] [4] []) (.seq (.reg false [⟨some 6, none, ⟨[], []⟩, .mov (.t 0)⟩,
    ⟨some 7, none, ⟨[], []⟩, .mov (.t 1)⟩,
    ⟨some 8, none, ⟨[], []⟩, .bin 1 .quo (.t 6) (.t 7)⟩,
    ⟨some 5, none, ⟨[], []⟩, .mov (.t 8)⟩] [6, 7, 8] []) (.seq (.seq (.reg false [⟨some 9, none, ⟨[], []⟩, .mov (.t 0)⟩,
    ⟨some 10, none, ⟨[], []⟩, .mov (.t 1)⟩,
    ⟨some 11, none, ⟨[], []⟩, .bin 1 .rem (.t 9) (.t 10)⟩,
    ⟨some 12, none, ⟨[], []⟩, .bin 1 .lss (.t 11) (.k (.int .i64 0))⟩] [0, 1, 9, 10, 11] []) (.cond (.t 12) (.reg false [⟨some 13, none, ⟨[], []⟩, .mov (.t 5)⟩,
    ⟨some 14, none, ⟨[], []⟩, .bin 1 .sub (.t 13) (.k (.int .i64 1))⟩,
    ⟨some 5, none, ⟨[], []⟩, .mov (.t 14)⟩] [12, 13, 14] []) (.skip))) (.seq (.reg false [⟨some 15, none, ⟨[], []⟩, .mov (.t 5)⟩,
    ⟨some 4, none, ⟨[], []⟩, .mov (.t 15)⟩] [5, 12, 15] []) (.ret))))
theorem comp48 : (Try.f48.body.bind fun c => compC tab isP chkAll ir48 c) = some ir48 := by kernel_rfl
/- incunable/incunableref19.Turn : slots 97, labels 10..26; loop b21_1 keeps [1, 2, 3, 4, 6, 7, 8, 9] -/
def b21_1 : IR :=
  .seq (.seq (.reg false [⟨some 31, none, ⟨[], []⟩, .mov (.t 9)⟩,
    ⟨some 32, none, ⟨[], []⟩, .fld (.t 1) 2⟩,
    ⟨some 33, none, ⟨[], []⟩, .ld false none 0 0 (.t 32)⟩,
    ⟨some 34, none, ⟨[], []⟩, .len (.t 33)⟩,
    ⟨some 35, none, ⟨[], []⟩, .bin 0 .lss (.t 31) (.t 34)⟩] [31, 32, 33, 34] []) (.cond (.t 35) (.skip) (.exit 0))) (.seq (.block 1 (.seq (.reg true [⟨some 38, none, ⟨[], []⟩, .fld (.t 6) 2⟩,
    ⟨some 39, none, ⟨[21], []⟩, .ld false none 0 0 (.t 38)⟩,
    ⟨some 40, none, ⟨[], []⟩, .fld (.t 1) 2⟩,
    ⟨some 41, none, ⟨[], []⟩, .ld false none 0 0 (.t 40)⟩,
    ⟨some 42, none, ⟨[], []⟩, .mov (.t 9)⟩,
    ⟨some 43, none, ⟨[], []⟩, .idxS (.t 41) (.t 42) 1⟩,
    ⟨some 44, none, ⟨[], []⟩, .ld true none 0 0 (.t 43)⟩,
    ⟨some 45, none, ⟨[], []⟩, .fld (.t 1) 3⟩,
    ⟨some 46, none, ⟨[], []⟩, .ld false none 0 0 (.t 45)⟩,
    ⟨some 47, none, ⟨[], []⟩, .mov (.t 9)⟩,
    ⟨some 48, none, ⟨[], []⟩, .idxS (.t 46) (.t 47) 1⟩,
    ⟨some 49, none, ⟨[], []⟩, .ld true none 0 0 (.t 48)⟩,
    ⟨some 50, none, ⟨[], []⟩, .bin 0 .mul (.k (.int .i64 2)) (.t 49)⟩,
    ⟨some 51, none, ⟨[], []⟩, .bin 0 .add (.t 44) (.t 50)⟩,
    ⟨some 52, none, ⟨[], []⟩, .fld (.t 1) 4⟩,
    ⟨some 53, none, ⟨[], []⟩, .ld false none 0 0 (.t 52)⟩,
    ⟨some 54, none, ⟨[], []⟩, .mov (.t 9)⟩,
    ⟨some 55, none, ⟨[], []⟩, .idxS (.t 53) (.t 54) 1⟩,
    ⟨some 56, none, ⟨[], []⟩, .ld true none 0 0 (.t 55)⟩,
    ⟨some 57, none, ⟨[], []⟩, .bin 0 .add (.t 51) (.t 56)⟩,
    ⟨some 58, none, ⟨[], []⟩, .callp 48 [.t 57, .k (.int .i64 4)]⟩,
    ⟨some 59, none, ⟨[], []⟩, .bslice 21 [.t 58]⟩,
    ⟨some 60, none, ⟨[], []⟩, .app 22 1 8 (.t 39) (.t 59)⟩,
    ⟨some 61, none, ⟨[], []⟩, .fld (.t 6) 2⟩,
    ⟨none, none, ⟨[], []⟩, .sto false 1 .i64 (.t 61) (.t 60)⟩] [35, 38, 39, 40, 41, 42, 43, 44, 45, 46, 47, 48, 49, 50, 51, 52, 53, 54, 55, 56, 57, 58, 59, 60, 61] []) (.seq (.reg true [⟨some 62, none, ⟨[], []⟩, .fld (.t 7) 2⟩,
    ⟨some 63, none, ⟨[23], []⟩, .ld false none 0 0 (.t 62)⟩,
    ⟨some 64, none, ⟨[], []⟩, .fld (.t 1) 4⟩,
    ⟨some 65, none, ⟨[], []⟩, .ld false none 0 0 (.t 64)⟩,
    ⟨some 66, none, ⟨[], []⟩, .mov (.t 9)⟩,
    ⟨some 67, none, ⟨[], []⟩, .idxS (.t 65) (.t 66) 1⟩,
    ⟨some 68, none, ⟨[], []⟩, .ld true none 0 0 (.t 67)⟩,
    ⟨some 69, none, ⟨[], []⟩, .fld (.t 1) 3⟩,
    ⟨some 70, none, ⟨[], []⟩, .ld false none 0 0 (.t 69)⟩,
    ⟨some 71, none, ⟨[], []⟩, .mov (.t 9)⟩,
    ⟨some 72, none, ⟨[], []⟩, .idxS (.t 70) (.t 71) 1⟩,
    ⟨some 73, none, ⟨[], []⟩, .ld true none 0 0 (.t 72)⟩,
    ⟨some 74, none, ⟨[], []⟩, .bin 0 .sub (.t 68) (.t 73)⟩,
    ⟨some 75, none, ⟨[], []⟩, .bslice 23 [.t 74]⟩,
    ⟨some 76, none, ⟨[], []⟩, .app 24 1 8 (.t 63) (.t 75)⟩,
    ⟨some 77, none, ⟨[], []⟩, .fld (.t 7) 2⟩,
    ⟨none, none, ⟨[], []⟩, .sto false 1 .i64 (.t 77) (.t 76)⟩] [62, 63, 64, 65, 66, 67, 68, 69, 70, 71, 72, 73, 74, 75, 76, 77] []) (.reg true [⟨some 78, none, ⟨[], []⟩, .fld (.t 8) 2⟩,
    ⟨some 79, none, ⟨[25], []⟩, .ld false none 0 0 (.t 78)⟩,
    ⟨some 80, none, ⟨[], []⟩, .fld (.t 1) 2⟩,
    ⟨some 81, none, ⟨[], []⟩, .ld false none 0 0 (.t 80)⟩,
    ⟨some 82, none, ⟨[], []⟩, .mov (.t 9)⟩,
    ⟨some 83, none, ⟨[], []⟩, .idxS (.t 81) (.t 82) 1⟩,
    ⟨some 84, none, ⟨[], []⟩, .ld true none 0 0 (.t 83)⟩,
    ⟨some 85, none, ⟨[], []⟩, .fld (.t 1) 3⟩,
    ⟨some 86, none, ⟨[], []⟩, .ld false none 0 0 (.t 85)⟩,
    ⟨some 87, none, ⟨[], []⟩, .mov (.t 9)⟩,
    ⟨some 88, none, ⟨[], []⟩, .idxS (.t 86) (.t 87) 1⟩,
    ⟨some 89, none, ⟨[], []⟩, .ld true none 0 0 (.t 88)⟩,
    ⟨some 90, none, ⟨[], []⟩, .bin 0 .sub (.t 84) (.t 89)⟩,
    ⟨some 91, none, ⟨[], []⟩, .bslice 25 [.t 90]⟩,
    ⟨some 92, none, ⟨[], []⟩, .app 26 1 8 (.t 79) (.t 91)⟩,
    ⟨some 93, none, ⟨[], []⟩, .fld (.t 8) 2⟩,
    ⟨none, none, ⟨[], []⟩, .sto false 1 .i64 (.t 93) (.t 92)⟩] [78, 79, 80, 81, 82, 83, 84, 85, 86, 87, 88, 89, 90, 91, 92, 93] [])))) (.reg false [⟨some 36, none, ⟨[], []⟩, .mov (.t 9)⟩,
    ⟨some 37, none, ⟨[], []⟩, .bin 0 .add (.t 36) (.k (.int .i64 1))⟩,
    ⟨some 9, none, ⟨[], []⟩, .mov (.t 37)⟩] [36, 37] []))
def r21_2 : IR :=
  .seq (.reg true [⟨some 94, none, ⟨[], []⟩, .ld false (some 3) 0 0 (.t 6)⟩,
    ⟨some 95, none, ⟨[11], []⟩, .ld false (some 3) 0 0 (.t 7)⟩,
    ⟨some 96, none, ⟨[11, 12], []⟩, .ld false (some 3) 0 0 (.t 8)⟩,
    ⟨none, none, ⟨[], [11]⟩, .sto false 3 .i64 (.t 2) (.t 94)⟩,
    ⟨none, none, ⟨[], [12]⟩, .sto false 3 .i64 (.t 3) (.t 95)⟩,
    ⟨none, none, ⟨[], []⟩, .sto false 3 .i64 (.t 4) (.t 96)⟩,
    ⟨some 5, none, ⟨[], []⟩, .mov (.k (.int .i64 0))⟩] [1, 6, 7, 8, 9, 94, 95, 96] []) (.ret)
def ir21 : IR :=
  .seq (.reg false [⟨some 1, none, ⟨[], []⟩, .box 10 (.t 0)⟩,
    ⟨some 2, none, ⟨[], []⟩, .alloc 11 [.int .i64 0, .int .i64 0, nilSV]⟩,
    ⟨some 3, none, ⟨[], []⟩, .alloc 12 [.int .i64 0, .int .i64 0, nilSV]⟩,
    ⟨some 4, none, ⟨[], []⟩, .alloc 13 [.int .i64 0, .int .i64 0, nilSV]⟩,
    ⟨some 5, none, ⟨[], []⟩, .mov (.k (.int .i64 0))⟩] [0, 5] []) (.seq (.seq (.reg false [⟨some 10, none, ⟨[], []⟩, .ld false (some 5) 0 0 (.t 1)⟩,
    ⟨some 11, none, ⟨[], []⟩, .call (some 4) 14 16 [.t 10]⟩,
    ⟨some 12, none, ⟨[], []⟩, .not (.t 11)⟩] [10, 11] []) (.cond (.t 12) (.seq (.reg false [⟨some 13, none, ⟨[], []⟩, .build [.int .i64 0, .int .i64 0, nilSV] []⟩,
    ⟨some 14, none, ⟨[], []⟩, .build [.int .i64 0, .int .i64 0, nilSV] []⟩,
    ⟨some 15, none, ⟨[], []⟩, .build [.int .i64 0, .int .i64 0, nilSV] []⟩,
    ⟨none, none, ⟨[], []⟩, .sto false 3 .i64 (.t 2) (.t 13)⟩,
    ⟨none, none, ⟨[], []⟩, .sto false 3 .i64 (.t 3) (.t 14)⟩,
    ⟨none, none, ⟨[], []⟩, .sto false 3 .i64 (.t 4) (.t 15)⟩,
    ⟨some 5, none, ⟨[], []⟩, .mov (.k (.int .i64 75))⟩] [1, 12, 13, 14, 15] []) (.ret)) (.skip))) (.seq (.reg true [⟨some 16, none, ⟨[], []⟩, .fld (.t 1) 0⟩,
    ⟨some 17, none, ⟨[18, 19, 20], []⟩, .ld false none 0 0 (.t 16)⟩,
    ⟨some 18, none, ⟨[], []⟩, .fld (.t 1) 1⟩,
    ⟨some 19, none, ⟨[18, 19, 20], []⟩, .ld false none 0 0 (.t 18)⟩,
    ⟨some 20, none, ⟨[], []⟩, .build [.int .i64 0, .int .i64 0, nilSV] [(0, 1, .t 17), (1, 1, .t 19)]⟩,
    ⟨some 21, none, ⟨[], []⟩, .fld (.t 1) 0⟩,
    ⟨some 22, none, ⟨[18, 19, 20], []⟩, .ld false none 0 0 (.t 21)⟩,
    ⟨some 23, none, ⟨[], []⟩, .fld (.t 1) 1⟩,
    ⟨some 24, none, ⟨[18, 19, 20], []⟩, .ld false none 0 0 (.t 23)⟩,
    ⟨some 25, none, ⟨[], []⟩, .build [.int .i64 0, .int .i64 0, nilSV] [(0, 1, .t 22), (1, 1, .t 24)]⟩,
    ⟨some 26, none, ⟨[], []⟩, .fld (.t 1) 0⟩,
    ⟨some 27, none, ⟨[18, 19, 20], []⟩, .ld false none 0 0 (.t 26)⟩,
    ⟨some 28, none, ⟨[], []⟩, .fld (.t 1) 1⟩,
    ⟨some 29, none, ⟨[18, 19, 20], []⟩, .ld false none 0 0 (.t 28)⟩,
    ⟨some 30, none, ⟨[], []⟩, .build [.int .i64 0, .int .i64 0, nilSV] [(0, 1, .t 27), (1, 1, .t 29)]⟩,
    ⟨some 6, none, ⟨[], []⟩, .alloc 18 [.int .i64 0, .int .i64 0, nilSV]⟩,
    ⟨some 7, none, ⟨[], []⟩, .alloc 19 [.int .i64 0, .int .i64 0, nilSV]⟩,
    ⟨some 8, none, ⟨[], []⟩, .alloc 20 [.int .i64 0, .int .i64 0, nilSV]⟩,
    ⟨none, none, ⟨[], [18]⟩, .sto false 3 .i64 (.t 6) (.t 20)⟩,
    ⟨none, none, ⟨[], [19]⟩, .sto false 3 .i64 (.t 7) (.t 25)⟩,
    ⟨none, none, ⟨[], []⟩, .sto false 3 .i64 (.t 8) (.t 30)⟩] [5, 12, 16, 17, 18, 19, 20, 21, 22, 23, 24, 25, 26, 27, 28, 29, 30] []) (.seq (.seq (.reg false [⟨some 9, none, ⟨[], []⟩, .mov (.k (.int .i64 0))⟩] [] []) (.block 0 (.loop b21_1))) (r21_2))))
def kp21_1 : List Nat := [1, 2, 3, 4, 6, 7, 8, 9]
def kl21_1 : List Nat := [21, 22, 23, 24, 25, 26]
attribute [push_cast] kp21_1 kl21_1
theorem comp21 : (Try.f21.body.bind fun c => compC tab isP chkAll ir21 c) = some ir21 := by kernel_rfl
set_option maxRecDepth 512

def Far (n : Int) : Prop := -(2 ^ 60) ≤ n ∧ n ≤ 2 ^ 60
def downF : EntryP
  | [.int .i64 a, .int .i64 b] => some (-1152921504606846976 ≤ a ∧ a ≤ 1152921504606846976 ∧ 0 < b ∧ b ≤ 1152921504606846976, .int .i64 (a / b))
  | _ => none
attribute [push_cast] downF
theorem down_eq {a b : Int} (hb : 0 < b) : (a.tmod b < 0 → a.tdiv b - 1 = a / b) ∧ (¬ a.tmod b < 0 → a.tdiv b = a / b) := by
  rw [Int.tdiv_eq_ediv, Int.tmod_eq_emod]
  have h1 := Int.emod_nonneg a (show b ≠ 0 by omega)
  have h2 := Int.emod_lt_of_pos a hb
  by_cases h : 0 ≤ a ∨ b ∣ a
  · simp only [h, if_true]; omega
  · simp only [h, if_false, Int.sign_eq_one_of_pos hb]; omega
theorem tdiv_bd (a b : Int) : -(a.natAbs : Int) ≤ a.tdiv b ∧ a.tdiv b ≤ a.natAbs := by
  have h : (a.tdiv b).natAbs ≤ a.natAbs := by
    rw [Int.natAbs_tdiv]; exact Nat.div_le_self _ _
  omega
theorem p48 : EntryPOk Try.prog 48 downF := by
  refine ⟨⟨_, Try.func48, by kernel_rfl, by kernel_rfl⟩, fun us p v h hp => ?_⟩
  unfold downF at h
  split at h <;> cases h
  rename_i a b
  obtain ⟨h1, h2, h3, h4⟩ := hp
  refine tri_evS (hyp (l := []) (lp := []) trivial trivial) Try.func48 comp48 (rs := [.tmp 4]) (by rfl) Try.ntmps48 10 ?_
  simp -implicitDefEqProofs only [push_cast, false_implies, reduceCtorEq, Classical.not_not, Nat.reduceAdd, Nat.reduceSub, Nat.reduceMul, Nat.reduceLeDiff, Nat.reduceLT, Nat.reduceEqDiff, Nat.reduceBEq, Nat.reduceBNe, Int.reduceNeg, Int.reduceToNat, Bool.or_false, Bool.false_or, Bool.or_true, Bool.true_or, BEq.rfl, Bool.not_eq_true, Bool.not_eq_false, decide_eq_true_eq, not_true_eq_false, not_false_eq_true, ite_true, ite_false, List.append_nil, and_assoc, Nat.mul_zero, Nat.zero_mul, ir48, downF]
  have hd := tdiv_bd a b
  have he := down_eq (a := a) h3
  repeat (refine And.intro (by first | omega | trivial | (intros; omega)) ?_)
  refine ⟨fun h => ?_, fun h => ?_⟩
  · rw [inR_wrap (k := .i64) ⟨by omega, by omega⟩, he.1 h]
  · rw [he.2 h]

theorem ok21 : FSOk Try.prog 21 fs20 := by
  refine ⟨⟨_, Try.func21, by kernel_rfl, by kernel_rfl⟩, fun a => ⟨by simp [fs20, imM, push_cast, noMine, argOwn, Chunk.frArg], by simp [fs20, imM, push_cast, outOk, Chunk.ext], fun x => .inl (by simp [fs20, imM, push_cast, frNew, frOut, Chunk.fr])⟩, fun a hp => ?_⟩
  obtain ⟨⟨w, h, R, G, B⟩, L1, L2, L3⟩ := a
  change (⟨w, h, R, G, B⟩ : Im).small at hp
  change Tri Try.prog 21 [imV ⟨w, h, R, G, B⟩ L1 L2 L3 0] (imM ⟨w, h, R, G, B⟩ L1 L2 L3) (postF fs20 ⟨⟨w, h, R, G, B⟩, L1, L2, L3⟩)
  refine tri_evS (hyp (l := [(16, ent16)]) (lp := [(48, downF)]) ⟨e16, trivial⟩ ⟨p48, trivial⟩) Try.func21 comp21 (rs := [.cell 2 (some 3), .cell 3 (some 3), .cell 4 (some 3), .tmp 5]) (by rfl) Try.ntmps21 27 ?_
  simp -implicitDefEqProofs only [push_cast, false_implies, reduceCtorEq, Classical.not_not, Nat.reduceAdd, Nat.reduceSub, Nat.reduceMul, Nat.reduceLeDiff, Nat.reduceLT, Nat.reduceEqDiff, Nat.reduceBEq, Nat.reduceBNe, Int.reduceNeg, Int.reduceToNat, Bool.or_false, Bool.false_or, Bool.or_true, Bool.true_or, BEq.rfl, Bool.not_eq_true, Bool.not_eq_false, decide_eq_true_eq, not_true_eq_false, not_false_eq_true, ite_true, ite_false, List.append_nil, and_assoc, Nat.mul_zero, Nat.zero_mul, ir21, fs15]
  intro X
  refine ⟨hp, fun hn => ?_, fun hy X1 => ?_⟩
  · refine postF.mk' (fun _ => default) [some 0, some 1, some 2, none, none, none] ?_
    simp -implicitDefEqProofs only [push_cast, false_implies, reduceCtorEq, Classical.not_not, Nat.reduceAdd, Nat.reduceSub, Nat.reduceMul, Nat.reduceLeDiff, Nat.reduceLT, Nat.reduceEqDiff, Nat.reduceBEq, Nat.reduceBNe, Int.reduceNeg, Int.reduceToNat, Bool.or_false, Bool.false_or, Bool.or_true, Bool.true_or, BEq.rfl, Bool.not_eq_true, Bool.not_eq_false, decide_eq_true_eq, not_true_eq_false, not_false_eq_true, ite_true, ite_false, List.append_nil, and_assoc, Nat.mul_zero, Nat.zero_mul, fs20, turn, hn, if_false, lx, pl0]
  have hs : SidesOk w h := hy.1
  have hm := hs.bd
  have hl : (R.length : Int) = w * h := hy.2.1.1
  obtain ⟨e1, e2, hv⟩ := hy.val
  simp only at e1 e2 hv
  refine evS_loopU (A := L3T) kp21_1 kl21_1 (fun y => [(9, .int .i64 y.1)])
    (fun y => [(18, .mine, X1 15 18, .cells [.int .i64 w, .int .i64 h, .sl 22 y.2.1 1 0 y.1]), (19, .mine, X1 16 19, .cells [.int .i64 w, .int .i64 h, .sl 24 y.2.2.1 1 0 y.1]), (20, .mine, X1 17 20, .cells [.int .i64 w, .int .i64 h, .sl 26 y.2.2.2 1 0 y.1]),
      (22, .mine, y.2.1, .ints .i64 (tabl y.1 (tY ⟨w, h, R, G, B⟩))), (24, .mine, y.2.2.1, .ints .i64 (tabl y.1 (tU ⟨w, h, R, G, B⟩))), (26, .mine, y.2.2.2, .ints .i64 (tabl y.1 (tV ⟨w, h, R, G, B⟩)))])
    (fun y => y.1 ≤ R.length) (fun y => R.length - y.1) (0, nilLoc, nilLoc, nilLoc) (Nat.zero_le _) (Sub.pt ?_) ?_
  · simp -implicitDefEqProofs only [push_cast, false_implies, reduceCtorEq, Classical.not_not, Nat.reduceAdd, Nat.reduceSub, Nat.reduceMul, Nat.reduceLeDiff, Nat.reduceLT, Nat.reduceEqDiff, Nat.reduceBEq, Nat.reduceBNe, Int.reduceNeg, Int.reduceToNat, Bool.or_false, Bool.false_or, Bool.or_true, Bool.true_or, BEq.rfl, Bool.not_eq_true, Bool.not_eq_false, decide_eq_true_eq, not_true_eq_false, not_false_eq_true, ite_true, ite_false, List.append_nil, and_assoc, Nat.mul_zero, Nat.zero_mul, tabl_zero]
  intro ⟨k, N1, N2, N3⟩ (hk : k ≤ R.length) K hK
  simp -implicitDefEqProofs only [push_cast, false_implies, reduceCtorEq, Classical.not_not, Nat.reduceAdd, Nat.reduceSub, Nat.reduceMul, Nat.reduceLeDiff, Nat.reduceLT, Nat.reduceEqDiff, Nat.reduceBEq, Nat.reduceBNe, Int.reduceNeg, Int.reduceToNat, Bool.or_false, Bool.false_or, Bool.or_true, Bool.true_or, BEq.rfl, Bool.not_eq_true, Bool.not_eq_false, decide_eq_true_eq, not_true_eq_false, not_false_eq_true, ite_true, ite_false, List.append_nil, and_assoc, Nat.mul_zero, Nat.zero_mul, b21_1, r21_2]
  refine ⟨fun hk1 X2 => ?_, fun hk1 => ?_⟩
  · have hk' : k < R.length := by omega
    obtain ⟨v1, v2, v3⟩ := hv k hk'
    simp only [tabl_length]
    repeat (refine And.intro (by first | omega | trivial | (intros; omega)) ?_)
    intro X3
    repeat (refine And.intro (by first | omega | trivial | (intros; omega)) ?_)
    intro X4
    repeat (refine And.intro (by first | omega | trivial | (intros; omega)) ?_)
    refine hK (k + 1, X2 22 22, X3 14 24, X4 14 26) hk' (show R.length - (k + 1) < R.length - k by omega) _ _ (Sub.pt ?_)
    have q1 : tabl k (tY ⟨w, h, R, G, B⟩) ++ [(rd R k + 2 * rd G k + rd B k) / 4] = tabl (k + 1) (tY ⟨w, h, R, G, B⟩) := tabl_snoc k _
    have q2 : tabl k (tU ⟨w, h, R, G, B⟩) ++ [rd B k - rd G k] = tabl (k + 1) (tU ⟨w, h, R, G, B⟩) := tabl_snoc k _
    have q3 : tabl k (tV ⟨w, h, R, G, B⟩) ++ [rd R k - rd G k] = tabl (k + 1) (tV ⟨w, h, R, G, B⟩) := tabl_snoc k _
    simp -implicitDefEqProofs only [push_cast, false_implies, reduceCtorEq, Classical.not_not, Nat.reduceAdd, Nat.reduceSub, Nat.reduceMul, Nat.reduceLeDiff, Nat.reduceLT, Nat.reduceEqDiff, Nat.reduceBEq, Nat.reduceBNe, Int.reduceNeg, Int.reduceToNat, Bool.or_false, Bool.false_or, Bool.or_true, Bool.true_or, BEq.rfl, Bool.not_eq_true, Bool.not_eq_false, decide_eq_true_eq, not_true_eq_false, not_false_eq_true, ite_true, ite_false, List.append_nil, and_assoc, Nat.mul_zero, Nat.zero_mul, q1, q2, q3]
  · obtain rfl : k = R.length := by omega
    refine postF.mk' (locs [N1, N2, N3]) [some 0, some 1, some 2, some 22, some 24, some 26] ?_
    simp -implicitDefEqProofs only [push_cast, false_implies, reduceCtorEq, Classical.not_not, Nat.reduceAdd, Nat.reduceSub, Nat.reduceMul, Nat.reduceLeDiff, Nat.reduceLT, Nat.reduceEqDiff, Nat.reduceBEq, Nat.reduceBNe, Int.reduceNeg, Int.reduceToNat, Bool.or_false, Bool.false_or, Bool.or_true, Bool.true_or, BEq.rfl, Bool.not_eq_true, Bool.not_eq_false, decide_eq_true_eq, not_true_eq_false, not_false_eq_true, ite_true, ite_false, List.append_nil, and_assoc, Nat.mul_zero, Nat.zero_mul, fs20, turn, hy, if_true, lx, tabl_length, hl]
def ent21 : Entry := spOf fs20 inv15
theorem e21 : EntryOk Try.prog 21 ent21 := entry_of ok21 inv15
@[push_cast] theorem ent21_app (us : List SV) (look : Look) (x : Nat → Xf.Loc) (k : Nat) : ent21 us look x k = spOf fs20 inv15 us look x k := rfl
end Go.Proofs.Ytnmbimhcfioeiaa
