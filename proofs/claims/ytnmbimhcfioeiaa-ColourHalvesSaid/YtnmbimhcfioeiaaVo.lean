import Derived.Test.YtnmbimhcfioeiaaVn
set_option linter.unusedVariables false
set_option linter.unusedSimpArgs false
/-! The law ColourTurns. -/
namespace Go.Proofs.Ytnmbimhcfioeiaa
open Xf
set_option maxRecDepth 4000
/- incunable/incunablelaw19.ColourTurns : slots 70, labels 10..61 -/
def ir5 : IR :=
  .seq (.reg false [⟨some 1, none, ⟨[], []⟩, .box 10 (.t 0)⟩,
    ⟨some 2, none, ⟨[], []⟩, .mov (.k (.bool false))⟩] [0, 2] []) (.seq (.seq (.reg false [⟨some 12, none, ⟨[], []⟩, .ld false (some 5) 0 0 (.t 1)⟩,
    ⟨some 13, none, ⟨[], []⟩, .call (some 4) 11 11 [.t 12]⟩] [12] []) (.cond (.t 13) (.seq (.reg false [⟨some 14, none, ⟨[], []⟩, .call (some 4) 15 12 []⟩,
    ⟨some 2, none, ⟨[], []⟩, .mov (.t 14)⟩] [1, 13, 14] []) (.ret)) (.skip))) (.seq (.reg false [⟨some 16, none, ⟨[], []⟩, .ld false (some 5) 0 0 (.t 1)⟩,
    ⟨some 17, none, ⟨[], []⟩, .call (some 4) 19 20 [.t 16]⟩,
    ⟨some 15, none, ⟨[], []⟩, .mov (.t 17)⟩,
    ⟨some 18, none, ⟨[], []⟩, .ext (.t 15) 0⟩,
    ⟨some 19, none, ⟨[], []⟩, .ext (.t 15) 1⟩,
    ⟨some 20, none, ⟨[], []⟩, .ext (.t 15) 2⟩,
    ⟨some 21, none, ⟨[], []⟩, .ext (.t 15) 3⟩,
    ⟨some 3, none, ⟨[], []⟩, .alloc 23 [.int .i64 0, .int .i64 0, nilSV]⟩,
    ⟨some 4, none, ⟨[], []⟩, .alloc 24 [.int .i64 0, .int .i64 0, nilSV]⟩,
    ⟨some 5, none, ⟨[], []⟩, .alloc 25 [.int .i64 0, .int .i64 0, nilSV]⟩,
    ⟨none, none, ⟨[], []⟩, .sto false 3 .i64 (.t 3) (.t 18)⟩,
    ⟨none, none, ⟨[], []⟩, .sto false 3 .i64 (.t 4) (.t 19)⟩,
    ⟨none, none, ⟨[], []⟩, .sto false 3 .i64 (.t 5) (.t 20)⟩,
    ⟨some 6, none, ⟨[], []⟩, .mov (.t 21)⟩] [2, 13, 15, 16, 17, 18, 19, 20, 21] []) (.seq (.reg false [⟨some 23, none, ⟨[], []⟩, .ld false (some 5) 0 0 (.t 1)⟩,
    ⟨some 24, none, ⟨[], []⟩, .call (some 4) 26 21 [.t 23]⟩,
    ⟨some 22, none, ⟨[], []⟩, .mov (.t 24)⟩,
    ⟨some 25, none, ⟨[], []⟩, .ext (.t 22) 0⟩,
    ⟨some 26, none, ⟨[], []⟩, .ext (.t 22) 1⟩,
    ⟨some 27, none, ⟨[], []⟩, .ext (.t 22) 2⟩,
    ⟨some 28, none, ⟨[], []⟩, .ext (.t 22) 3⟩,
    ⟨some 7, none, ⟨[], []⟩, .alloc 30 [.int .i64 0, .int .i64 0, nilSV]⟩,
    ⟨some 8, none, ⟨[], []⟩, .alloc 31 [.int .i64 0, .int .i64 0, nilSV]⟩,
    ⟨some 9, none, ⟨[], []⟩, .alloc 32 [.int .i64 0, .int .i64 0, nilSV]⟩,
    ⟨none, none, ⟨[], []⟩, .sto false 3 .i64 (.t 7) (.t 25)⟩,
    ⟨none, none, ⟨[], []⟩, .sto false 3 .i64 (.t 8) (.t 26)⟩,
    ⟨none, none, ⟨[], []⟩, .sto false 3 .i64 (.t 9) (.t 27)⟩,
    ⟨some 10, none, ⟨[], []⟩, .mov (.t 28)⟩] [22, 23, 24, 25, 26, 27, 28] []) (.seq (.seq (.reg false [⟨some 29, none, ⟨[], []⟩, .mov (.t 6)⟩,
    ⟨some 30, none, ⟨[], []⟩, .mov (.t 10)⟩,
    ⟨some 31, none, ⟨[], []⟩, .bin 0 .neq (.t 29) (.t 30)⟩,
    ⟨some 32, none, ⟨[], []⟩, .mov (.t 31)⟩,
    ⟨some 33, some (32, false), ⟨[], []⟩, .ld false (some 3) 0 0 (.t 3)⟩,
    ⟨some 34, some (32, false), ⟨[], []⟩, .ld false (some 3) 0 0 (.t 7)⟩,
    ⟨some 35, some (32, false), ⟨[], []⟩, .call (some 4) 33 22 [.t 33, .t 34]⟩,
    ⟨some 36, some (32, false), ⟨[], []⟩, .not (.t 35)⟩,
    ⟨some 37, none, ⟨[], []⟩, .pick (.t 32) (.k (.bool true)) (.t 36)⟩,
    ⟨some 38, none, ⟨[], []⟩, .mov (.t 37)⟩,
    ⟨some 39, some (38, false), ⟨[], []⟩, .ld false (some 3) 0 0 (.t 4)⟩,
    ⟨some 40, some (38, false), ⟨[], []⟩, .ld false (some 3) 0 0 (.t 8)⟩,
    ⟨some 41, some (38, false), ⟨[], []⟩, .call (some 4) 37 22 [.t 39, .t 40]⟩,
    ⟨some 42, some (38, false), ⟨[], []⟩, .not (.t 41)⟩,
    ⟨some 43, none, ⟨[], []⟩, .pick (.t 38) (.k (.bool true)) (.t 42)⟩,
    ⟨some 44, none, ⟨[], []⟩, .mov (.t 43)⟩,
    ⟨some 45, some (44, false), ⟨[], []⟩, .ld false (some 3) 0 0 (.t 5)⟩,
    ⟨some 46, some (44, false), ⟨[], []⟩, .ld false (some 3) 0 0 (.t 9)⟩,
    ⟨some 47, some (44, false), ⟨[], []⟩, .call (some 4) 41 22 [.t 45, .t 46]⟩,
    ⟨some 48, some (44, false), ⟨[], []⟩, .not (.t 47)⟩,
    ⟨some 49, none, ⟨[], []⟩, .pick (.t 44) (.k (.bool true)) (.t 48)⟩] [7, 8, 9, 10, 29, 30, 31, 32, 33, 34, 35, 36, 37, 38, 39, 40, 41, 42, 43, 44, 45, 46, 47, 48] []) (.cond (.t 49) (.seq (.reg false [⟨some 2, none, ⟨[], []⟩, .mov (.k (.bool false))⟩] [1, 3, 4, 5, 6, 49] []) (.ret)) (.skip))) (.seq (.seq (.reg false [⟨some 50, none, ⟨[], []⟩, .mov (.t 6)⟩,
    ⟨some 51, none, ⟨[], []⟩, .bin 0 .neq (.t 50) (.k (.int .i64 0))⟩] [2, 6, 49, 50] []) (.cond (.t 51) (.seq (.reg false [⟨some 52, none, ⟨[], []⟩, .call (some 4) 45 12 []⟩,
    ⟨some 2, none, ⟨[], []⟩, .mov (.t 52)⟩] [1, 3, 4, 5, 51, 52] []) (.ret)) (.skip))) (.seq (.reg false [⟨some 54, none, ⟨[], []⟩, .ld false (some 3) 0 0 (.t 3)⟩,
    ⟨some 55, none, ⟨[], []⟩, .ld false (some 3) 0 0 (.t 4)⟩,
    ⟨some 56, none, ⟨[], []⟩, .ld false (some 3) 0 0 (.t 5)⟩,
    ⟨some 57, none, ⟨[], []⟩, .call (some 4) 49 23 [.t 54, .t 55, .t 56]⟩,
    ⟨some 53, none, ⟨[], []⟩, .mov (.t 57)⟩,
    ⟨some 58, none, ⟨[], []⟩, .ext (.t 53) 0⟩,
    ⟨some 59, none, ⟨[], []⟩, .ext (.t 53) 1⟩,
    ⟨some 11, none, ⟨[], []⟩, .alloc 53 [.int .i64 0, .int .i64 0, nilSV, nilSV, nilSV]⟩,
    ⟨none, none, ⟨[], []⟩, .sto false 5 .i64 (.t 11) (.t 58)⟩,
    ⟨some 6, none, ⟨[], []⟩, .mov (.t 59)⟩] [2, 3, 4, 5, 51, 53, 54, 55, 56, 57, 58, 59] []) (.seq (.reg false [⟨some 60, none, ⟨[], []⟩, .mov (.t 6)⟩,
    ⟨some 61, none, ⟨[], []⟩, .bin 0 .eql (.t 60) (.k (.int .i64 0))⟩,
    ⟨some 62, none, ⟨[], []⟩, .mov (.t 61)⟩,
    ⟨some 63, some (62, true), ⟨[], []⟩, .ld false (some 5) 0 0 (.t 11)⟩,
    ⟨some 64, some (62, true), ⟨[], []⟩, .ld false (some 5) 0 0 (.t 1)⟩,
    ⟨some 65, some (62, true), ⟨[], []⟩, .call (some 4) 54 17 [.t 63, .t 64]⟩,
    ⟨some 66, none, ⟨[], []⟩, .pick (.t 62) (.t 65) (.k (.bool false))⟩,
    ⟨some 67, none, ⟨[], []⟩, .mov (.t 66)⟩,
    ⟨some 68, some (67, true), ⟨[], []⟩, .call (some 4) 58 12 []⟩,
    ⟨some 69, none, ⟨[], []⟩, .pick (.t 67) (.t 68) (.k (.bool false))⟩,
    ⟨some 2, none, ⟨[], []⟩, .mov (.t 69)⟩] [1, 6, 11, 60, 61, 62, 63, 64, 65, 66, 67, 68, 69] []) (.ret))))))))
theorem comp5 : (Try.f5.body.bind fun c => compC tab isP chkAll ir5 c) = some ir5 := by kernel_rfl
set_option maxRecDepth 512

theorem turn_back {i : Im} (h : i.Ok) : ((turn tY i).xs.length = i.R.length ∧ (turn tU i).xs.length = i.R.length ∧ (turn tV i).xs.length = i.R.length) ∧
    ∀ L1 L2 L3, (⟨⟨turn tY i, L1⟩, ⟨turn tU i, L2⟩, ⟨turn tV i, L3⟩⟩ : Bk).Ok ∧ backI ⟨⟨turn tY i, L1⟩, ⟨turn tU i, L2⟩, ⟨turn tV i, L3⟩⟩ = i := by
  have hs := h.1
  have hl := h.2.1.1
  obtain ⟨e1, e2, hv⟩ := h.val
  have eY : turn tY i = ⟨i.w, i.h, tabl i.R.length (tY i)⟩ := if_pos h
  have eU : turn tU i = ⟨i.w, i.h, tabl i.R.length (tU i)⟩ := if_pos h
  have eV : turn tV i = ⟨i.w, i.h, tabl i.R.length (tV i)⟩ := if_pos h
  rw [eY, eU, eV]
  refine ⟨⟨tabl_length _ _, tabl_length _ _, tabl_length _ _⟩, fun L1 L2 L3 => ?_⟩
  have key : ∀ f : Nat → Int, (∀ k : Nat, k < i.R.length → -16777216 ≤ f k ∧ f k ≤ 16777216) → (⟨i.w, i.h, tabl i.R.length f⟩ : Pl).Ok := by
    intro f hf
    refine ⟨hs, by simp only [tabl_length]; exact hl, ?_⟩
    rw [allIn_rd]
    intro j hj
    simp only [tabl_length] at hj ⊢
    rw [rd_tabl hj]; exact hf j hj
  have hO : (⟨⟨⟨i.w, i.h, tabl i.R.length (tY i)⟩, L1⟩, ⟨⟨i.w, i.h, tabl i.R.length (tU i)⟩, L2⟩, ⟨⟨i.w, i.h, tabl i.R.length (tV i)⟩, L3⟩⟩ : Bk).Ok := by
    refine ⟨⟨key _ ?_, key _ ?_, key _ ?_⟩, rfl, rfl, rfl, rfl⟩ <;> intro k hk <;> have := hv k hk <;> simp only [tY, tU, tV] <;> omega
  refine ⟨hO, ?_⟩
  unfold backI
  rw [if_pos hO]
  simp only [tabl_length]
  obtain ⟨w, hh, R, G, B⟩ := i
  simp only at e1 e2 hv
  have qR : tabl R.length (bkR (tabl R.length (tY ⟨w, hh, R, G, B⟩)) (tabl R.length (tU ⟨w, hh, R, G, B⟩)) (tabl R.length (tV ⟨w, hh, R, G, B⟩))) = R := by
    refine eq_of_rd (tabl_length _ _) fun j hj => ?_
    rw [tabl_length] at hj
    rw [rd_tabl hj]; unfold bkR bG; rw [rd_tabl hj, rd_tabl hj, rd_tabl hj]
    have := hv j hj
    simp only [tY, tU, tV, clampI]; omega
  have qG : tabl R.length (bkG (tabl R.length (tY ⟨w, hh, R, G, B⟩)) (tabl R.length (tU ⟨w, hh, R, G, B⟩)) (tabl R.length (tV ⟨w, hh, R, G, B⟩))) = G := by
    refine eq_of_rd (by rw [tabl_length, e1]) fun j hj => ?_
    rw [tabl_length] at hj
    rw [rd_tabl hj]; unfold bkG bG; rw [rd_tabl hj, rd_tabl hj, rd_tabl hj]
    have := hv j hj
    simp only [tY, tU, tV, clampI]; omega
  have qB : tabl R.length (bkB (tabl R.length (tY ⟨w, hh, R, G, B⟩)) (tabl R.length (tU ⟨w, hh, R, G, B⟩)) (tabl R.length (tV ⟨w, hh, R, G, B⟩))) = B := by
    refine eq_of_rd (by rw [tabl_length, e2]) fun j hj => ?_
    rw [tabl_length] at hj
    rw [rd_tabl hj]; unfold bkB bG; rw [rd_tabl hj, rd_tabl hj, rd_tabl hj]
    have := hv j hj
    simp only [tY, tU, tV, clampI]; omega
  rw [qR, qG, qB]

theorem tri5 (i : Im) (hi : i.small) (L1 L2 L3 : Xf.Loc) : Tri Try.prog 5 [.agg [.int .i64 i.w, .int .i64 i.h, .sl 0 L1 1 0 i.R.length, .sl 1 L2 1 0 i.G.length, .sl 2 L3 1 0 i.B.length]]
    (imM i L1 L2 L3) (fun v _ => v = .bool true) := by
  have hi2 := hi
  have hR := hi.1
  by_cases hc : i.Ok
  · obtain ⟨⟨l1, l2, l3⟩, hb⟩ := turn_back hc
    have hr := Im.Eq.refl i
    have k1 : ∀ L1 L2 L3, (⟨⟨turn tY i, L1⟩, ⟨turn tU i, L2⟩, ⟨turn tV i, L3⟩⟩ : Bk).Ok := fun L1 L2 L3 => (hb L1 L2 L3).1
    have k2 : ∀ L1 L2 L3, backI ⟨⟨turn tY i, L1⟩, ⟨turn tU i, L2⟩, ⟨turn tV i, L3⟩⟩ = i := fun L1 L2 L3 => (hb L1 L2 L3).2
    obtain ⟨A, hA⟩ : ∃ A, turn tY i = A := ⟨_, rfl⟩
    obtain ⟨B, hB⟩ : ∃ A, turn tU i = A := ⟨_, rfl⟩
    obtain ⟨C, hC⟩ : ∃ A, turn tV i = A := ⟨_, rfl⟩
    rw [hA] at l1 k1 k2
    rw [hB] at l2 k1 k2
    rw [hC] at l3 k1 k2
    have hAr := Pl.Eq.refl A
    have hBr := Pl.Eq.refl B
    have hCr := Pl.Eq.refl C
    obtain ⟨W, H, R, G, E⟩ := i
    obtain ⟨aw, ah, axs⟩ := A
    obtain ⟨bw, bh, bxs⟩ := B
    obtain ⟨cw, ch, cxs⟩ := C
    refine tri_evS (hyp (l := [(11, ent11), (12, ent12), (17, ent17), (20, ent20), (21, ent21), (22, ent22), (23, ent23)]) (lp := []) ⟨e11, e12, e17, e20, e21, e22, e23, trivial⟩ trivial) Try.func5 comp5 (rs := [.tmp 2]) (by rfl) Try.ntmps5 62 ?_
    simp -implicitDefEqProofs only [push_cast, false_implies, reduceCtorEq, Classical.not_not, Nat.reduceAdd, Nat.reduceSub, Nat.reduceMul, Nat.reduceLeDiff, Nat.reduceLT, Nat.reduceEqDiff, Nat.reduceBEq, Nat.reduceBNe, Int.reduceNeg, Int.reduceToNat, Bool.or_false, Bool.false_or, Bool.or_true, Bool.true_or, BEq.rfl, Bool.not_eq_true, Bool.not_eq_false, decide_eq_true_eq, not_true_eq_false, not_false_eq_true, ite_true, ite_false, List.append_nil, and_assoc, Nat.mul_zero, Nat.zero_mul, ir5, fs11, fs15, fs12, fs17, fs20, fs22, fs23, hi2, hc, hr, hA, hB, hC, hAr, hBr, hCr, k1, k2, if_true]
    intro _ X
    simp only at hR l1 l2 l3
    exact ⟨by omega, by omega, by omega, show axs.length ≤ 140737488355328 by omega, show bxs.length ≤ 140737488355328 by omega, show cxs.length ≤ 140737488355328 by omega⟩
  · have hA : turn tY i = pl0 := if_neg hc
    have hB : turn tU i = pl0 := if_neg hc
    have hC : turn tV i = pl0 := if_neg hc
    have hr := Pl.Eq.refl pl0
    obtain ⟨W, H, R, G, E⟩ := i
    refine tri_evS (hyp (l := [(11, ent11), (12, ent12), (17, ent17), (20, ent20), (21, ent21), (22, ent22), (23, ent23)]) (lp := []) ⟨e11, e12, e17, e20, e21, e22, e23, trivial⟩ trivial) Try.func5 comp5 (rs := [.tmp 2]) (by rfl) Try.ntmps5 62 ?_
    simp -implicitDefEqProofs only [push_cast, false_implies, reduceCtorEq, Classical.not_not, Nat.reduceAdd, Nat.reduceSub, Nat.reduceMul, Nat.reduceLeDiff, Nat.reduceLT, Nat.reduceEqDiff, Nat.reduceBEq, Nat.reduceBNe, Int.reduceNeg, Int.reduceToNat, Bool.or_false, Bool.false_or, Bool.or_true, Bool.true_or, BEq.rfl, Bool.not_eq_true, Bool.not_eq_false, decide_eq_true_eq, not_true_eq_false, not_false_eq_true, ite_true, ite_false, List.append_nil, and_assoc, Nat.mul_zero, Nat.zero_mul, ir5, fs11, fs15, fs12, fs17, fs20, fs22, fs23, hi2, hc, hA, hB, hC, hr, if_false]
    intro _ X
    exact ⟨Nat.zero_le _, fun h => absurd h (by decide)⟩
end Go.Proofs.Ytnmbimhcfioeiaa
