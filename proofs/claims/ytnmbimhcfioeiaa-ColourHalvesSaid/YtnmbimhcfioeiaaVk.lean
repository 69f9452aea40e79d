import Derived.Test.YtnmbimhcfioeiaaVj
set_option linter.unusedVariables false
set_option linter.unusedSimpArgs false
/-! The law ColourCuts. -/
namespace Go.Proofs.Ytnmbimhcfioeiaa
open Xf
set_option maxRecDepth 4000
/- incunable/incunablelaw19.ColourCuts : slots 92, labels 10..59 -/
def ir4 : IR :=
  .seq (.reg false [⟨some 1, none, ⟨[], []⟩, .box 10 (.t 0)⟩,
    ⟨some 2, none, ⟨[], []⟩, .mov (.k (.bool false))⟩] [0, 2] []) (.seq (.reg true [⟨some 14, none, ⟨[], []⟩, .fld (.t 1) 0⟩,
    ⟨some 15, none, ⟨[11], []⟩, .ld false (some 5) 0 0 (.t 14)⟩,
    ⟨some 16, none, ⟨[], []⟩, .fld (.t 1) 5⟩,
    ⟨some 17, none, ⟨[11], []⟩, .ld false none 0 0 (.t 16)⟩,
    ⟨some 18, none, ⟨[], []⟩, .fld (.t 1) 6⟩,
    ⟨some 19, none, ⟨[11], []⟩, .ld false none 0 0 (.t 18)⟩,
    ⟨some 20, none, ⟨[], []⟩, .fld (.t 1) 7⟩,
    ⟨some 21, none, ⟨[11], []⟩, .ld false none 0 0 (.t 20)⟩,
    ⟨some 22, none, ⟨[], []⟩, .fld (.t 1) 8⟩,
    ⟨some 23, none, ⟨[11], []⟩, .ld false none 0 0 (.t 22)⟩,
    ⟨some 3, none, ⟨[], []⟩, .alloc 11 [.int .i64 0, .int .i64 0, nilSV, nilSV, nilSV]⟩,
    ⟨none, none, ⟨[], [11]⟩, .sto false 5 .i64 (.t 3) (.t 15)⟩,
    ⟨some 4, none, ⟨[], []⟩, .mov (.t 17)⟩,
    ⟨some 5, none, ⟨[], []⟩, .mov (.t 19)⟩,
    ⟨some 6, none, ⟨[], []⟩, .mov (.t 21)⟩,
    ⟨some 7, none, ⟨[], []⟩, .mov (.t 23)⟩] [1, 14, 15, 16, 17, 18, 19, 20, 21, 22, 23] []) (.seq (.seq (.reg false [⟨some 24, none, ⟨[], []⟩, .ld false (some 5) 0 0 (.t 3)⟩,
    ⟨some 25, none, ⟨[], []⟩, .call (some 4) 12 11 [.t 24]⟩] [24] []) (.cond (.t 25) (.seq (.reg false [⟨some 26, none, ⟨[], []⟩, .call (some 4) 16 12 []⟩,
    ⟨some 2, none, ⟨[], []⟩, .mov (.t 26)⟩] [3, 4, 5, 6, 7, 25, 26] []) (.ret)) (.skip))) (.seq (.reg false [⟨some 28, none, ⟨[], []⟩, .ld false (some 5) 0 0 (.t 3)⟩,
    ⟨some 29, none, ⟨[], []⟩, .mov (.t 4)⟩,
    ⟨some 30, none, ⟨[], []⟩, .mov (.t 5)⟩,
    ⟨some 31, none, ⟨[], []⟩, .mov (.t 6)⟩,
    ⟨some 32, none, ⟨[], []⟩, .mov (.t 7)⟩,
    ⟨some 33, none, ⟨[], []⟩, .call (some 4) 20 18 [.t 28, .t 29, .t 30, .t 31, .t 32]⟩,
    ⟨some 27, none, ⟨[], []⟩, .mov (.t 33)⟩,
    ⟨some 34, none, ⟨[], []⟩, .ext (.t 27) 0⟩,
    ⟨some 35, none, ⟨[], []⟩, .ext (.t 27) 1⟩,
    ⟨some 8, none, ⟨[], []⟩, .alloc 24 [.int .i64 0, .int .i64 0, nilSV, nilSV, nilSV]⟩,
    ⟨none, none, ⟨[], []⟩, .sto false 5 .i64 (.t 8) (.t 34)⟩,
    ⟨some 9, none, ⟨[], []⟩, .mov (.t 35)⟩] [2, 25, 27, 28, 29, 30, 31, 32, 33, 34, 35] []) (.seq (.reg false [⟨some 37, none, ⟨[], []⟩, .ld false (some 5) 0 0 (.t 3)⟩,
    ⟨some 38, none, ⟨[], []⟩, .mov (.t 4)⟩,
    ⟨some 39, none, ⟨[], []⟩, .mov (.t 5)⟩,
    ⟨some 40, none, ⟨[], []⟩, .mov (.t 6)⟩,
    ⟨some 41, none, ⟨[], []⟩, .mov (.t 7)⟩,
    ⟨some 42, none, ⟨[], []⟩, .call (some 4) 25 19 [.t 37, .t 38, .t 39, .t 40, .t 41]⟩,
    ⟨some 36, none, ⟨[], []⟩, .mov (.t 42)⟩,
    ⟨some 43, none, ⟨[], []⟩, .ext (.t 36) 0⟩,
    ⟨some 44, none, ⟨[], []⟩, .ext (.t 36) 1⟩,
    ⟨some 10, none, ⟨[], []⟩, .alloc 29 [.int .i64 0, .int .i64 0, nilSV, nilSV, nilSV]⟩,
    ⟨none, none, ⟨[], []⟩, .sto false 5 .i64 (.t 10) (.t 43)⟩,
    ⟨some 11, none, ⟨[], []⟩, .mov (.t 44)⟩] [4, 5, 36, 37, 38, 39, 40, 41, 42, 43, 44] []) (.seq (.seq (.reg false [⟨some 45, none, ⟨[], []⟩, .mov (.t 9)⟩,
    ⟨some 46, none, ⟨[], []⟩, .mov (.t 11)⟩,
    ⟨some 47, none, ⟨[], []⟩, .bin 0 .neq (.t 45) (.t 46)⟩,
    ⟨some 48, none, ⟨[], []⟩, .mov (.t 47)⟩,
    ⟨some 49, some (48, false), ⟨[], []⟩, .ld false (some 5) 0 0 (.t 8)⟩,
    ⟨some 50, some (48, false), ⟨[], []⟩, .ld false (some 5) 0 0 (.t 10)⟩,
    ⟨some 51, some (48, false), ⟨[], []⟩, .call (some 4) 30 17 [.t 49, .t 50]⟩,
    ⟨some 52, some (48, false), ⟨[], []⟩, .not (.t 51)⟩,
    ⟨some 53, none, ⟨[], []⟩, .pick (.t 48) (.k (.bool true)) (.t 52)⟩] [10, 11, 45, 46, 47, 48, 49, 50, 51, 52] []) (.cond (.t 53) (.seq (.reg false [⟨some 2, none, ⟨[], []⟩, .mov (.k (.bool false))⟩] [3, 6, 7, 8, 9, 53] []) (.ret)) (.skip))) (.seq (.seq (.reg false [⟨some 54, none, ⟨[], []⟩, .mov (.t 9)⟩,
    ⟨some 55, none, ⟨[], []⟩, .bin 0 .neq (.t 54) (.k (.int .i64 0))⟩] [2, 9, 53, 54] []) (.cond (.t 55) (.seq (.reg false [⟨some 56, none, ⟨[], []⟩, .call (some 4) 34 12 []⟩,
    ⟨some 2, none, ⟨[], []⟩, .mov (.t 56)⟩] [3, 6, 7, 8, 55, 56] []) (.ret)) (.skip))) (.seq (.reg false [⟨some 58, none, ⟨[], []⟩, .ld false (some 5) 0 0 (.t 8)⟩,
    ⟨some 59, none, ⟨[], []⟩, .mov (.t 6)⟩,
    ⟨some 60, none, ⟨[], []⟩, .mov (.t 7)⟩,
    ⟨some 61, none, ⟨[], []⟩, .call (some 4) 38 18 [.t 58, .k (.int .i64 0), .k (.int .i64 0), .t 59, .t 60]⟩,
    ⟨some 57, none, ⟨[], []⟩, .mov (.t 61)⟩,
    ⟨some 62, none, ⟨[], []⟩, .ext (.t 57) 0⟩,
    ⟨some 63, none, ⟨[], []⟩, .ext (.t 57) 1⟩,
    ⟨some 12, none, ⟨[], []⟩, .alloc 42 [.int .i64 0, .int .i64 0, nilSV, nilSV, nilSV]⟩,
    ⟨none, none, ⟨[], []⟩, .sto false 5 .i64 (.t 12) (.t 62)⟩,
    ⟨some 9, none, ⟨[], []⟩, .mov (.t 63)⟩] [2, 6, 7, 55, 57, 58, 59, 60, 61, 62, 63] []) (.seq (.reg false [⟨some 65, none, ⟨[], []⟩, .ld false (some 5) 0 0 (.t 3)⟩,
    ⟨some 66, none, ⟨[], []⟩, .fld (.t 3) 0⟩,
    ⟨some 67, none, ⟨[], []⟩, .ld false none 0 0 (.t 66)⟩,
    ⟨some 68, none, ⟨[], []⟩, .fld (.t 3) 1⟩,
    ⟨some 69, none, ⟨[], []⟩, .ld false none 0 0 (.t 68)⟩,
    ⟨some 70, none, ⟨[], []⟩, .call (some 4) 43 18 [.t 65, .k (.int .i64 0), .k (.int .i64 0), .t 67, .t 69]⟩,
    ⟨some 64, none, ⟨[], []⟩, .mov (.t 70)⟩,
    ⟨some 71, none, ⟨[], []⟩, .ext (.t 64) 0⟩,
    ⟨some 72, none, ⟨[], []⟩, .ext (.t 64) 1⟩,
    ⟨some 13, none, ⟨[], []⟩, .alloc 47 [.int .i64 0, .int .i64 0, nilSV, nilSV, nilSV]⟩,
    ⟨none, none, ⟨[], []⟩, .sto false 5 .i64 (.t 13) (.t 71)⟩,
    ⟨some 11, none, ⟨[], []⟩, .mov (.t 72)⟩] [64, 65, 66, 67, 68, 69, 70, 71, 72] []) (.seq (.reg false [⟨some 73, none, ⟨[], []⟩, .mov (.t 9)⟩,
    ⟨some 74, none, ⟨[], []⟩, .bin 0 .eql (.t 73) (.k (.int .i64 0))⟩,
    ⟨some 75, none, ⟨[], []⟩, .mov (.t 74)⟩,
    ⟨some 76, some (75, true), ⟨[], []⟩, .mov (.t 11)⟩,
    ⟨some 77, some (75, true), ⟨[], []⟩, .bin 0 .eql (.t 76) (.k (.int .i64 0))⟩,
    ⟨some 78, none, ⟨[], []⟩, .pick (.t 75) (.t 77) (.k (.bool false))⟩,
    ⟨some 79, none, ⟨[], []⟩, .mov (.t 78)⟩,
    ⟨some 80, some (79, true), ⟨[], []⟩, .ld false (some 5) 0 0 (.t 12)⟩,
    ⟨some 81, some (79, true), ⟨[], []⟩, .ld false (some 5) 0 0 (.t 8)⟩,
    ⟨some 82, some (79, true), ⟨[], []⟩, .call (some 4) 48 17 [.t 80, .t 81]⟩,
    ⟨some 83, none, ⟨[], []⟩, .pick (.t 79) (.t 82) (.k (.bool false))⟩,
    ⟨some 84, none, ⟨[], []⟩, .mov (.t 83)⟩,
    ⟨some 85, some (84, true), ⟨[], []⟩, .ld false (some 5) 0 0 (.t 13)⟩,
    ⟨some 86, some (84, true), ⟨[], []⟩, .ld false (some 5) 0 0 (.t 3)⟩,
    ⟨some 87, some (84, true), ⟨[], []⟩, .call (some 4) 52 17 [.t 85, .t 86]⟩,
    ⟨some 88, none, ⟨[], []⟩, .pick (.t 84) (.t 87) (.k (.bool false))⟩,
    ⟨some 89, none, ⟨[], []⟩, .mov (.t 88)⟩,
    ⟨some 90, some (89, true), ⟨[], []⟩, .call (some 4) 56 12 []⟩,
    ⟨some 91, none, ⟨[], []⟩, .pick (.t 89) (.t 90) (.k (.bool false))⟩,
    ⟨some 2, none, ⟨[], []⟩, .mov (.t 91)⟩] [3, 8, 9, 11, 12, 13, 73, 74, 75, 76, 77, 78, 79, 80, 81, 82, 83, 84, 85, 86, 87, 88, 89, 90, 91] []) (.ret))))))))))
theorem comp4 : (Try.f4.body.bind fun c => compC tab isP chkAll ir4 c) = some ir4 := by kernel_rfl
set_option maxRecDepth 512

theorem Im.eta (i : Im) : (⟨i.w, i.h, i.R, i.G, i.B⟩ : Im) = i := rfl
theorem cutI_Ok {c : CutA} (h : c.Ok) : (cutI c).Ok ∧ (cutI c).w = c.w ∧ (cutI c).h = c.h := by
  obtain ⟨⟨⟨W, H, R, G, B⟩, L1, L2, L3⟩, x, y, w, hh⟩ := c
  unfold cutI
  rw [if_pos h]
  obtain ⟨hy, g1, g2, g3, g4, g5, g6⟩ := h
  simp only at hy g1 g2 g3 g4 g5 g6
  obtain ⟨e1, e2, hv⟩ := hy.val
  simp only at e1 e2 hv
  obtain ⟨a1, a2, a3, a4, a5⟩ : SidesOk W H := hy.1
  have hm2 := mul_bd g3 (show w ≤ W by omega) g4 (show hh ≤ H by omega)
  have hl : (R.length : Int) = W * H := hy.2.1.1
  have key : ∀ xs : List Int, xs.length = R.length → AllVal xs → ((cutL ⟨⟨⟨W, H, R, G, B⟩, L1, L2, L3⟩, x, y, w, hh⟩ xs).length : Int) = w * hh ∧ AllVal (cutL ⟨⟨⟨W, H, R, G, B⟩, L1, L2, L3⟩, x, y, w, hh⟩ xs) := by
    intro xs hx ha
    refine ⟨by rw [cutL, tabl_length]; simp only; omega, ?_⟩
    rw [allVal_rd]
    intro j hj
    rw [cutL, tabl_length] at hj
    simp only at hj
    rw [cutL, rd_tabl hj]
    unfold cutF
    obtain ⟨b1, b2, b3, b4, b5⟩ := dm_bd (k := j) (w := w) (h := hh) (by omega) (by omega) g3
    have hi := idx_bd (a := y + (j : Int) / w) (b := x + (j : Int) % w) (W := W) (H := H) (by omega) (by omega) (by omega) (by omega)
    rw [← Int.add_assoc] at hi
    have := allVal_rd.1 ha ((y + (j : Int) / w) * W + x + (j : Int) % w).toNat (by omega)
    rwa [Int.toNat_of_nonneg hi.1] at this
  have hso : SidesOk w hh := ⟨g3, g4, by omega, by omega, by omega⟩
  refine ⟨⟨hso, key R rfl hy.2.1.2, key G e1 hy.2.2.1.2, key B e2 hy.2.2.2.2⟩, rfl, rfl⟩

theorem cut_all {i : Im} (h : i.Ok) {L1 L2 L3 : Xf.Loc} {w hh : Int} (ew : w = i.w) (eh : hh = i.h) : (⟨⟨i, L1, L2, L3⟩, 0, 0, w, hh⟩ : CutA).Ok ∧ (cutI ⟨⟨i, L1, L2, L3⟩, 0, 0, w, hh⟩).Eq i := by
  subst ew eh
  obtain ⟨W, H, R, G, B⟩ := i
  have e : (⟨⟨⟨W, H, R, G, B⟩, L1, L2, L3⟩, 0, 0, W, H⟩ : CutA).Ok := by
    refine ⟨h, ?_⟩
    obtain ⟨a1, a2, a3, a4, a5⟩ := h.1
    unfold CutA.In; simp only at a1 a2 ⊢; omega
  refine ⟨e, ?_⟩
  unfold cutI
  rw [if_pos e]
  obtain ⟨a1, a2, a3, a4, a5⟩ : SidesOk W H := h.1
  have hm := (show SidesOk W H from h.1).bd
  have key : ∀ xs : List Int, (xs.length : Int) = W * H → cutL ⟨⟨⟨W, H, R, G, B⟩, L1, L2, L3⟩, 0, 0, W, H⟩ xs = xs := by
    intro xs hx
    refine eq_of_rd (by rw [cutL, tabl_length]; simp only; omega) fun j hj => ?_
    rw [cutL, tabl_length] at hj
    rw [cutL, rd_tabl hj]
    unfold cutF
    simp only
    congr 1
    rw [Int.zero_add, Int.add_zero, Int.mul_comm, Int.mul_ediv_add_emod]
  exact ⟨rfl, rfl, key R h.2.1.1, key G h.2.2.1.1, key B h.2.2.2.1⟩
theorem cutI_small (c : CutA) : (cutI c).small := by
  by_cases h : c.Ok
  · have := (cutI_Ok h).1
    obtain ⟨hs, ⟨a, _⟩, ⟨b, _⟩, ⟨d, _⟩⟩ := this
    have := hs.bd
    exact ⟨by omega, by omega, by omega⟩
  · unfold cutI; rw [if_neg h]; exact ⟨by decide, by decide, by decide⟩

theorem tri4 (i : Im) (hi : i.small) (x y w h : Int) (L1 L2 L3 : Xf.Loc) : Tri Try.prog 4 [.agg [.int .i64 i.w, .int .i64 i.h, .sl 0 L1 1 0 i.R.length, .sl 1 L2 1 0 i.G.length, .sl 2 L3 1 0 i.B.length, .int .i64 x, .int .i64 y, .int .i64 w, .int .i64 h]]
    (imM i L1 L2 L3) (fun v _ => v = .bool true) := by
  obtain ⟨W, H, R, G, B⟩ := i
  have hi2 := hi
  by_cases hc : (⟨⟨⟨W, H, R, G, B⟩, L1, L2, L3⟩, x, y, w, h⟩ : CutA).Ok
  · obtain ⟨c1, c2, c3⟩ := cutI_Ok hc
    have hsm := cutI_small ⟨⟨⟨W, H, R, G, B⟩, L1, L2, L3⟩, x, y, w, h⟩
    have hr := Im.Eq.refl (cutI ⟨⟨⟨W, H, R, G, B⟩, L1, L2, L3⟩, x, y, w, h⟩)
    have hiO : (⟨W, H, R, G, B⟩ : Im).Ok := hc.1
    obtain ⟨C, hC⟩ : ∃ C, cutI ⟨⟨⟨W, H, R, G, B⟩, L1, L2, L3⟩, x, y, w, h⟩ = C := ⟨_, rfl⟩
    rw [hC] at c1 c2 c3 hsm hr
    have k1 : ∀ L1 L2 L3, (⟨⟨C, L1, L2, L3⟩, 0, 0, w, h⟩ : CutA).Ok := fun _ _ _ => (cut_all c1 c2.symm c3.symm).1
    have k2 : ∀ L1 L2 L3, (cutI ⟨⟨C, L1, L2, L3⟩, 0, 0, w, h⟩).Eq C := fun _ _ _ => (cut_all c1 c2.symm c3.symm).2
    have k3 : ∀ L1 L2 L3, (⟨⟨⟨W, H, R, G, B⟩, L1, L2, L3⟩, 0, 0, W, H⟩ : CutA).Ok := fun _ _ _ => (cut_all hiO rfl rfl).1
    have k4 : ∀ L1 L2 L3, (cutI ⟨⟨⟨W, H, R, G, B⟩, L1, L2, L3⟩, 0, 0, W, H⟩).Eq ⟨W, H, R, G, B⟩ := fun _ _ _ => (cut_all hiO rfl rfl).2
    refine tri_evS (hyp (l := [(11, ent11), (12, ent12), (17, ent17), (18, ent18), (19, ent19)]) (lp := []) ⟨e11, e12, e17, e18, e19, trivial⟩ trivial) Try.func4 comp4 (rs := [.tmp 2]) (by rfl) Try.ntmps4 64 ?_
    simp -implicitDefEqProofs only [push_cast, false_implies, reduceCtorEq, Classical.not_not, Nat.reduceAdd, Nat.reduceSub, Nat.reduceMul, Nat.reduceLeDiff, Nat.reduceLT, Nat.reduceEqDiff, Nat.reduceBEq, Nat.reduceBNe, Int.reduceNeg, Int.reduceToNat, Bool.or_false, Bool.false_or, Bool.or_true, Bool.true_or, BEq.rfl, Bool.not_eq_true, Bool.not_eq_false, decide_eq_true_eq, not_true_eq_false, not_false_eq_true, ite_true, ite_false, List.append_nil, and_assoc, Nat.mul_zero, Nat.zero_mul, ir4, fs11, fs15, fs12, fs17, fs18, hi2, cutI_small, hC, hc, Im.eta, hsm, hr, k1, k2, k3, k4, if_true]
  · have hC : cutI ⟨⟨⟨W, H, R, G, B⟩, L1, L2, L3⟩, x, y, w, h⟩ = im0 := by unfold cutI; rw [if_neg hc]
    have hsm : im0.small := ⟨by decide, by decide, by decide⟩
    have hr := Im.Eq.refl im0
    refine tri_evS (hyp (l := [(11, ent11), (12, ent12), (17, ent17), (18, ent18), (19, ent19)]) (lp := []) ⟨e11, e12, e17, e18, e19, trivial⟩ trivial) Try.func4 comp4 (rs := [.tmp 2]) (by rfl) Try.ntmps4 64 ?_
    simp -implicitDefEqProofs only [push_cast, false_implies, reduceCtorEq, Classical.not_not, Nat.reduceAdd, Nat.reduceSub, Nat.reduceMul, Nat.reduceLeDiff, Nat.reduceLT, Nat.reduceEqDiff, Nat.reduceBEq, Nat.reduceBNe, Int.reduceNeg, Int.reduceToNat, Bool.or_false, Bool.false_or, Bool.or_true, Bool.true_or, BEq.rfl, Bool.not_eq_true, Bool.not_eq_false, decide_eq_true_eq, not_true_eq_false, not_false_eq_true, ite_true, ite_false, List.append_nil, and_assoc, Nat.mul_zero, Nat.zero_mul, ir4, fs11, fs15, fs12, fs17, fs18, hi2, cutI_small, hC, hc, Im.eta, hsm, hr, if_false]
    by_cases hiO : (⟨W, H, R, G, B⟩ : Im).Ok
    · simp [hiO]
    · simp [hiO]
end Go.Proofs.Ytnmbimhcfioeiaa
