import Derived.Test.YtnmbimhcfioeiaaVr
set_option linter.unusedVariables false
set_option linter.unusedSimpArgs false
/-! The law ColourGreys. -/
namespace Go.Proofs.Ytnmbimhcfioeiaa
open Xf
set_option maxRecDepth 4000
/- incunable/incunablelaw19.ColourGreys : slots 90, labels 10..72 -/
def ir7 : IR :=
  .seq (.reg false [⟨some 2, none, ⟨[], []⟩, .box 10 (.t 0)⟩,
    ⟨some 3, none, ⟨[], []⟩, .box 11 (.t 1)⟩,
    ⟨some 4, none, ⟨[], []⟩, .mov (.k (.bool false))⟩] [0, 1, 4] []) (.seq (.seq (.reg false [⟨some 14, none, ⟨[], []⟩, .ld false (some 5) 0 0 (.t 2)⟩,
    ⟨some 15, none, ⟨[], []⟩, .call (some 4) 12 11 [.t 14]⟩,
    ⟨some 16, none, ⟨[], []⟩, .mov (.t 15)⟩,
    ⟨some 17, some (16, false), ⟨[], []⟩, .fld (.t 3) 2⟩,
    ⟨some 18, some (16, false), ⟨[], []⟩, .ld false none 0 0 (.t 17)⟩,
    ⟨some 19, some (16, false), ⟨[], []⟩, .len (.t 18)⟩,
    ⟨some 20, some (16, false), ⟨[], []⟩, .bin 0 .gtr (.t 19) (.k (.int .i64 4000))⟩,
    ⟨some 21, none, ⟨[], []⟩, .pick (.t 16) (.k (.bool true)) (.t 20)⟩] [14, 15, 16, 17, 18, 19, 20] []) (.cond (.t 21) (.seq (.reg false [⟨some 22, none, ⟨[], []⟩, .call (some 4) 16 12 []⟩,
    ⟨some 4, none, ⟨[], []⟩, .mov (.t 22)⟩] [2, 3, 21, 22] []) (.ret)) (.skip))) (.seq (.reg false [⟨some 24, none, ⟨[], []⟩, .ld false (some 5) 0 0 (.t 2)⟩,
    ⟨some 25, none, ⟨[], []⟩, .call (some 4) 20 25 [.t 24]⟩,
    ⟨some 23, none, ⟨[], []⟩, .mov (.t 25)⟩,
    ⟨some 26, none, ⟨[], []⟩, .ext (.t 23) 0⟩,
    ⟨some 27, none, ⟨[], []⟩, .ext (.t 23) 1⟩,
    ⟨some 5, none, ⟨[], []⟩, .alloc 24 [.int .i64 0, .int .i64 0, nilSV]⟩,
    ⟨none, none, ⟨[], []⟩, .sto false 3 .i64 (.t 5) (.t 26)⟩,
    ⟨some 6, none, ⟨[], []⟩, .mov (.t 27)⟩] [4, 21, 23, 24, 25, 26, 27] []) (.seq (.reg false [⟨some 29, none, ⟨[], []⟩, .ld false (some 5) 0 0 (.t 2)⟩,
    ⟨some 30, none, ⟨[], []⟩, .call (some 4) 25 26 [.t 29]⟩,
    ⟨some 28, none, ⟨[], []⟩, .mov (.t 30)⟩,
    ⟨some 31, none, ⟨[], []⟩, .ext (.t 28) 0⟩,
    ⟨some 32, none, ⟨[], []⟩, .ext (.t 28) 1⟩,
    ⟨some 7, none, ⟨[], []⟩, .alloc 29 [.int .i64 0, .int .i64 0, nilSV]⟩,
    ⟨none, none, ⟨[], []⟩, .sto false 3 .i64 (.t 7) (.t 31)⟩,
    ⟨some 8, none, ⟨[], []⟩, .mov (.t 32)⟩] [28, 29, 30, 31, 32] []) (.seq (.reg false [⟨some 34, none, ⟨[], []⟩, .ld false (some 3) 0 0 (.t 3)⟩,
    ⟨some 35, none, ⟨[], []⟩, .call (some 4) 30 27 [.t 34]⟩,
    ⟨some 33, none, ⟨[], []⟩, .mov (.t 35)⟩,
    ⟨some 36, none, ⟨[], []⟩, .ext (.t 33) 0⟩,
    ⟨some 37, none, ⟨[], []⟩, .ext (.t 33) 1⟩,
    ⟨some 9, none, ⟨[], []⟩, .alloc 34 [.int .i64 0, .int .i64 0, nilSV, nilSV, nilSV]⟩,
    ⟨none, none, ⟨[], []⟩, .sto false 5 .i64 (.t 9) (.t 36)⟩,
    ⟨some 10, none, ⟨[], []⟩, .mov (.t 37)⟩] [33, 34, 35, 36, 37] []) (.seq (.reg false [⟨some 39, none, ⟨[], []⟩, .ld false (some 3) 0 0 (.t 3)⟩,
    ⟨some 40, none, ⟨[], []⟩, .call (some 4) 35 28 [.t 39]⟩,
    ⟨some 38, none, ⟨[], []⟩, .mov (.t 40)⟩,
    ⟨some 41, none, ⟨[], []⟩, .ext (.t 38) 0⟩,
    ⟨some 42, none, ⟨[], []⟩, .ext (.t 38) 1⟩,
    ⟨some 11, none, ⟨[], []⟩, .alloc 39 [.int .i64 0, .int .i64 0, nilSV, nilSV, nilSV]⟩,
    ⟨none, none, ⟨[], []⟩, .sto false 5 .i64 (.t 11) (.t 41)⟩,
    ⟨some 12, none, ⟨[], []⟩, .mov (.t 42)⟩] [38, 39, 40, 41, 42] []) (.seq (.seq (.reg true [⟨some 43, none, ⟨[], []⟩, .mov (.t 6)⟩,
    ⟨some 44, none, ⟨[], []⟩, .mov (.t 8)⟩,
    ⟨some 45, none, ⟨[], []⟩, .bin 0 .neq (.t 43) (.t 44)⟩,
    ⟨some 46, none, ⟨[], []⟩, .mov (.t 45)⟩,
    ⟨some 47, some (46, false), ⟨[], []⟩, .mov (.t 10)⟩,
    ⟨some 48, some (46, false), ⟨[], []⟩, .mov (.t 12)⟩,
    ⟨some 49, some (46, false), ⟨[], []⟩, .bin 0 .neq (.t 47) (.t 48)⟩,
    ⟨some 50, none, ⟨[], []⟩, .pick (.t 46) (.k (.bool true)) (.t 49)⟩,
    ⟨some 51, none, ⟨[], []⟩, .mov (.t 50)⟩,
    ⟨some 52, some (51, false), ⟨[], []⟩, .ld false (some 3) 0 0 (.t 5)⟩,
    ⟨some 53, some (51, false), ⟨[], []⟩, .ld false (some 3) 0 0 (.t 7)⟩,
    ⟨some 54, some (51, false), ⟨[], []⟩, .call (some 4) 40 22 [.t 52, .t 53]⟩,
    ⟨some 55, some (51, false), ⟨[], []⟩, .not (.t 54)⟩,
    ⟨some 56, none, ⟨[], []⟩, .pick (.t 51) (.k (.bool true)) (.t 55)⟩,
    ⟨some 57, none, ⟨[], []⟩, .mov (.t 56)⟩,
    ⟨some 58, some (57, false), ⟨[], []⟩, .ld false (some 5) 0 0 (.t 9)⟩,
    ⟨some 59, some (57, false), ⟨[], []⟩, .ld false (some 5) 0 0 (.t 11)⟩,
    ⟨some 60, some (57, false), ⟨[], []⟩, .call (some 4) 44 17 [.t 58, .t 59]⟩,
    ⟨some 61, some (57, false), ⟨[], []⟩, .not (.t 60)⟩,
    ⟨some 62, none, ⟨[], []⟩, .pick (.t 57) (.k (.bool true)) (.t 61)⟩,
    ⟨some 63, none, ⟨[], []⟩, .mov (.t 62)⟩,
    ⟨some 64, some (63, false), ⟨[], []⟩, .ld false (some 5) 0 0 (.t 2)⟩,
    ⟨some 65, some (63, false), ⟨[], []⟩, .ld false (some 5) 0 0 (.t 9)⟩,
    ⟨some 66, some (63, false), ⟨[], []⟩, .call (some 4) 48 29 [.t 64, .t 65]⟩,
    ⟨some 67, some (63, false), ⟨[48, 49, 50, 51], []⟩, .ld false (some 5) 0 0 (.t 2)⟩,
    ⟨some 68, some (63, false), ⟨[48, 49, 50, 51], []⟩, .ld false (some 5) 0 0 (.t 9)⟩,
    ⟨some 69, some (63, false), ⟨[], []⟩, .call (some 4) 52 17 [.t 67, .t 68]⟩,
    ⟨some 70, some (63, false), ⟨[], []⟩, .binB .neq (.t 66) (.t 69)⟩,
    ⟨some 71, none, ⟨[], []⟩, .pick (.t 63) (.k (.bool true)) (.t 70)⟩] [2, 5, 6, 7, 8, 11, 12, 43, 44, 45, 46, 47, 48, 49, 50, 51, 52, 53, 54, 55, 56, 57, 58, 59, 60, 61, 62, 63, 64, 65, 66, 67, 68, 69, 70] []) (.cond (.t 71) (.seq (.reg false [⟨some 4, none, ⟨[], []⟩, .mov (.k (.bool false))⟩] [3, 9, 10, 71] []) (.ret)) (.skip))) (.seq (.seq (.reg false [⟨some 72, none, ⟨[], []⟩, .mov (.t 10)⟩,
    ⟨some 73, none, ⟨[], []⟩, .bin 0 .neq (.t 72) (.k (.int .i64 0))⟩] [4, 10, 71, 72] []) (.cond (.t 73) (.seq (.reg false [⟨some 74, none, ⟨[], []⟩, .call (some 4) 56 12 []⟩,
    ⟨some 4, none, ⟨[], []⟩, .mov (.t 74)⟩] [3, 9, 73, 74] []) (.ret)) (.skip))) (.seq (.reg false [⟨some 76, none, ⟨[], []⟩, .ld false (some 5) 0 0 (.t 9)⟩,
    ⟨some 77, none, ⟨[], []⟩, .call (some 4) 60 25 [.t 76]⟩,
    ⟨some 75, none, ⟨[], []⟩, .mov (.t 77)⟩,
    ⟨some 78, none, ⟨[], []⟩, .ext (.t 75) 0⟩,
    ⟨some 79, none, ⟨[], []⟩, .ext (.t 75) 1⟩,
    ⟨some 13, none, ⟨[], []⟩, .alloc 64 [.int .i64 0, .int .i64 0, nilSV]⟩,
    ⟨none, none, ⟨[], []⟩, .sto false 3 .i64 (.t 13) (.t 78)⟩,
    ⟨some 6, none, ⟨[], []⟩, .mov (.t 79)⟩] [4, 9, 73, 75, 76, 77, 78, 79] []) (.seq (.reg false [⟨some 80, none, ⟨[], []⟩, .mov (.t 6)⟩,
    ⟨some 81, none, ⟨[], []⟩, .bin 0 .eql (.t 80) (.k (.int .i64 0))⟩,
    ⟨some 82, none, ⟨[], []⟩, .mov (.t 81)⟩,
    ⟨some 83, some (82, true), ⟨[], []⟩, .ld false (some 3) 0 0 (.t 13)⟩,
    ⟨some 84, some (82, true), ⟨[], []⟩, .ld false (some 3) 0 0 (.t 3)⟩,
    ⟨some 85, some (82, true), ⟨[], []⟩, .call (some 4) 65 22 [.t 83, .t 84]⟩,
    ⟨some 86, none, ⟨[], []⟩, .pick (.t 82) (.t 85) (.k (.bool false))⟩,
    ⟨some 87, none, ⟨[], []⟩, .mov (.t 86)⟩,
    ⟨some 88, some (87, true), ⟨[], []⟩, .call (some 4) 69 12 []⟩,
    ⟨some 89, none, ⟨[], []⟩, .pick (.t 87) (.t 88) (.k (.bool false))⟩,
    ⟨some 4, none, ⟨[], []⟩, .mov (.t 89)⟩] [3, 6, 13, 80, 81, 82, 83, 84, 85, 86, 87, 88, 89] []) (.ret))))))))))
theorem comp7 : (Try.f7.body.bind fun c => compC tab isP chkAll ir7 c) = some ir7 := by kernel_rfl
set_option maxRecDepth 512

theorem grey_back {w h : Int} {xs : List Int} (H : (⟨w, h, xs⟩ : Pl).Gr) : (⟨w, h, xs, xs, xs⟩ : Im).Ok ∧ turn tY ⟨w, h, xs, xs, xs⟩ = ⟨w, h, xs⟩ := by
  obtain ⟨hs, hl, ha⟩ := H
  simp only at hs hl ha
  have hO : (⟨w, h, xs, xs, xs⟩ : Im).Ok := ⟨hs, ⟨hl, ha⟩, ⟨hl, ha⟩, ⟨hl, ha⟩⟩
  refine ⟨hO, ?_⟩
  unfold turn
  rw [if_pos hO]
  simp only
  congr 1
  refine eq_of_rd (tabl_length _ _) fun j hj => ?_
  rw [tabl_length] at hj
  rw [rd_tabl hj]
  simp only [tY]
  omega

theorem tri7 (i : Im) (hi : i.small) (p : Pl) (hp : p.xs.length ≤ 140737488355328) (L1 L2 L3 M : Xf.Loc) : Tri Try.prog 7 [.agg [.int .i64 i.w, .int .i64 i.h, .sl 0 L1 1 0 i.R.length, .sl 1 L2 1 0 i.G.length, .sl 2 L3 1 0 i.B.length], plV p M 3]
    [some (.ro, L1, .ints .i64 i.R), some (.ro, L2, .ints .i64 i.G), some (.ro, L3, .ints .i64 i.B), some (.ro, M, .ints .i64 p.xs)] (fun v _ => v = .bool true) := by
  obtain ⟨w, h, R, G, B⟩ := i
  obtain ⟨w1, h1, xs⟩ := p
  have hi2 := hi
  obtain ⟨s1, s2, s3⟩ : R.length ≤ 140737488355328 ∧ G.length ≤ 140737488355328 ∧ B.length ≤ 140737488355328 := hi
  change xs.length ≤ 140737488355328 at hp
  have hT : (turn tY ⟨w, h, R, G, B⟩).xs.length ≤ 140737488355328 := by
    unfold turn; split
    · simp only [tabl_length]; exact s1
    · exact Nat.zero_le _
  have rT := Pl.Eq.refl (turn tY ⟨w, h, R, G, B⟩)
  generalize hA : turn tY ⟨w, h, R, G, B⟩ = A at hT rT
  obtain ⟨aw, ah, axs⟩ := A
  change axs.length ≤ 140737488355328 at hT
  by_cases hc : (⟨w1, h1, xs⟩ : Pl).Gr
  · obtain ⟨hO, hk⟩ := grey_back hc
    have hr := Im.Eq.refl ⟨w1, h1, xs, xs, xs⟩
    have hq := Pl.Eq.refl ⟨w1, h1, xs⟩
    have hsm : (⟨w1, h1, xs, xs, xs⟩ : Im).small := ⟨hp, hp, hp⟩
    have hg : greyI ⟨w1, h1, xs⟩ = ⟨w1, h1, xs, xs, xs⟩ := if_pos hc
    refine tri_evS (hyp (l := [(12, ent12), (11, ent11), (17, ent17), (22, ent22), (29, ent29), (25, ent25), (26, ent26), (27, ent27), (28, ent28)]) (lp := []) ⟨e12, e11, e17, e22, e29, e25, e26, e27, e28, trivial⟩ trivial) Try.func7 comp7 (rs := [.tmp 4]) (by rfl) Try.ntmps7 73 ?_
    simp -implicitDefEqProofs only [push_cast, false_implies, reduceCtorEq, Classical.not_not, Nat.reduceAdd, Nat.reduceSub, Nat.reduceMul, Nat.reduceLeDiff, Nat.reduceLT, Nat.reduceEqDiff, Nat.reduceBEq, Nat.reduceBNe, Int.reduceNeg, Int.reduceToNat, Bool.or_false, Bool.false_or, Bool.or_true, Bool.true_or, BEq.rfl, Bool.not_eq_true, Bool.not_eq_false, decide_eq_true_eq, not_true_eq_false, not_false_eq_true, ite_true, ite_false, List.append_nil, and_assoc, Nat.mul_zero, Nat.zero_mul, ir7, fs11, fs15, fs12, fs17, fs22, fs25, fs27, hi2, hp, hA, hT, rT, hO, hk, hr, hq, hsm, hg, hc, if_true, bne_self_eq_false]
  · have hr := Im.Eq.refl im0
    have hsm : im0.small := ⟨by decide, by decide, by decide⟩
    have hg : greyI ⟨w1, h1, xs⟩ = im0 := if_neg hc
    refine tri_evS (hyp (l := [(12, ent12), (11, ent11), (17, ent17), (22, ent22), (29, ent29), (25, ent25), (26, ent26), (27, ent27), (28, ent28)]) (lp := []) ⟨e12, e11, e17, e22, e29, e25, e26, e27, e28, trivial⟩ trivial) Try.func7 comp7 (rs := [.tmp 4]) (by rfl) Try.ntmps7 73 ?_
    simp -implicitDefEqProofs only [push_cast, false_implies, reduceCtorEq, Classical.not_not, Nat.reduceAdd, Nat.reduceSub, Nat.reduceMul, Nat.reduceLeDiff, Nat.reduceLT, Nat.reduceEqDiff, Nat.reduceBEq, Nat.reduceBNe, Int.reduceNeg, Int.reduceToNat, Bool.or_false, Bool.false_or, Bool.or_true, Bool.true_or, BEq.rfl, Bool.not_eq_true, Bool.not_eq_false, decide_eq_true_eq, not_true_eq_false, not_false_eq_true, ite_true, ite_false, List.append_nil, and_assoc, Nat.mul_zero, Nat.zero_mul, ir7, fs11, fs15, fs12, fs17, fs22, fs25, fs27, hi2, hp, hA, hT, rT, hr, hsm, hg, hc, if_false, bne_self_eq_false]
    exact fun _ _ h => absurd h (by decide)
end Go.Proofs.Ytnmbimhcfioeiaa
