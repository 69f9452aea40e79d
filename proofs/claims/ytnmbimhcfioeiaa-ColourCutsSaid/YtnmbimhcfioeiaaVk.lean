import Derived.Test.YtnmbimhcfioeiaaVj
set_option linter.unusedVariables false
set_option linter.unusedSimpArgs false
/-! The law ColourCuts. -/
namespace Go.Proofs.Ytnmbimhcfioeiaa
open Xf

theorem Im.eta (i : Im) : (⟨i.w, i.h, i.R, i.G, i.B⟩ : Im) = i := rfl
theorem cutI_Ok {c : CutA} (h : c.Ok) : (cutI c).Ok ∧ (cutI c).w = c.w ∧ (cutI c).h = c.h := by
  obtain ⟨⟨⟨W, H, R, G, B⟩, L1, L2, L3⟩, x, y, w, hh⟩ := c
  unfold cutI
  rw [if_pos h]
  obtain ⟨hy, g1, g2, g3, g4, g5, g6⟩ := h
  simp only at hy g1 g2 g3 g4 g5 g6
  obtain ⟨e1, e2, hv⟩ := hy.val
  simp only at e1 e2 hv
  obtain ⟨a1, a2, a3, a4, a5⟩ : SidesOk W H := hy.1
  have hm2 := mul_bd g3 (show w ≤ W by omega) g4 (show hh ≤ H by omega)
  have hl : (R.length : Int) = W * H := hy.2.1.1
  have key : ∀ xs : List Int, xs.length = R.length → AllVal xs → ((cutL ⟨⟨⟨W, H, R, G, B⟩, L1, L2, L3⟩, x, y, w, hh⟩ xs).length : Int) = w * hh ∧ AllVal (cutL ⟨⟨⟨W, H, R, G, B⟩, L1, L2, L3⟩, x, y, w, hh⟩ xs) := by
    intro xs hx ha
    refine ⟨by rw [cutL, tabl_length]; simp only; omega, ?_⟩
    rw [allVal_rd]
    intro j hj
    rw [cutL, tabl_length] at hj
    simp only at hj
    rw [cutL, rd_tabl hj]
    unfold cutF
    obtain ⟨b1, b2, b3, b4, b5⟩ := dm_bd (k := j) (w := w) (h := hh) (by omega) (by omega) g3
    have hi := idx_bd (a := y + (j : Int) / w) (b := x + (j : Int) % w) (W := W) (H := H) (by omega) (by omega) (by omega) (by omega)
    rw [← Int.add_assoc] at hi
    have := allVal_rd.1 ha ((y + (j : Int) / w) * W + x + (j : Int) % w).toNat (by omega)
    rwa [Int.toNat_of_nonneg hi.1] at this
  have hso : SidesOk w hh := ⟨g3, g4, by omega, by omega, by omega⟩
  refine ⟨⟨hso, key R rfl hy.2.1.2, key G e1 hy.2.2.1.2, key B e2 hy.2.2.2.2⟩, rfl, rfl⟩

theorem cut_all {i : Im} (h : i.Ok) {L1 L2 L3 : Xf.Loc} {w hh : Int} (ew : w = i.w) (eh : hh = i.h) : (⟨⟨i, L1, L2, L3⟩, 0, 0, w, hh⟩ : CutA).Ok ∧ (cutI ⟨⟨i, L1, L2, L3⟩, 0, 0, w, hh⟩).Eq i := by
  subst ew eh
  obtain ⟨W, H, R, G, B⟩ := i
  have e : (⟨⟨⟨W, H, R, G, B⟩, L1, L2, L3⟩, 0, 0, W, H⟩ : CutA).Ok := by
    refine ⟨h, ?_⟩
    obtain ⟨a1, a2, a3, a4, a5⟩ := h.1
    unfold CutA.In; simp only at a1 a2 ⊢; omega
  refine ⟨e, ?_⟩
  unfold cutI
  rw [if_pos e]
  obtain ⟨a1, a2, a3, a4, a5⟩ : SidesOk W H := h.1
  have hm := (show SidesOk W H from h.1).bd
  have key : ∀ xs : List Int, (xs.length : Int) = W * H → cutL ⟨⟨⟨W, H, R, G, B⟩, L1, L2, L3⟩, 0, 0, W, H⟩ xs = xs := by
    intro xs hx
    refine eq_of_rd (by rw [cutL, tabl_length]; simp only; omega) fun j hj => ?_
    rw [cutL, tabl_length] at hj
    rw [cutL, rd_tabl hj]
    unfold cutF
    simp only
    congr 1
    rw [Int.zero_add, Int.add_zero, Int.mul_comm, Int.mul_ediv_add_emod]
  exact ⟨rfl, rfl, key R h.2.1.1, key G h.2.2.1.1, key B h.2.2.2.1⟩
theorem cutI_small (c : CutA) : (cutI c).small := by
  by_cases h : c.Ok
  · have := (cutI_Ok h).1
    obtain ⟨hs, ⟨a, _⟩, ⟨b, _⟩, ⟨d, _⟩⟩ := this
    have := hs.bd
    exact ⟨by omega, by omega, by omega⟩
  · unfold cutI; rw [if_neg h]; exact ⟨by decide, by decide, by decide⟩

theorem tri4 (i : Im) (hi : i.small) (x y w h : Int) (L1 L2 L3 : Xf.Loc) : Tri Try.prog 4 [.agg [.int .i64 i.w, .int .i64 i.h, .sl 0 L1 1 0 i.R.length, .sl 1 L2 1 0 i.G.length, .sl 2 L3 1 0 i.B.length, .int .i64 x, .int .i64 y, .int .i64 w, .int .i64 h]]
    (imM i L1 L2 L3) (fun v _ => v = .bool true) := by
  obtain ⟨W, H, R, G, B⟩ := i
  have hi2 := hi
  by_cases hc : (⟨⟨⟨W, H, R, G, B⟩, L1, L2, L3⟩, x, y, w, h⟩ : CutA).Ok
  · obtain ⟨c1, c2, c3⟩ := cutI_Ok hc
    have hsm := cutI_small ⟨⟨⟨W, H, R, G, B⟩, L1, L2, L3⟩, x, y, w, h⟩
    have hr := Im.Eq.refl (cutI ⟨⟨⟨W, H, R, G, B⟩, L1, L2, L3⟩, x, y, w, h⟩)
    have hiO : (⟨W, H, R, G, B⟩ : Im).Ok := hc.1
    obtain ⟨C, hC⟩ : ∃ C, cutI ⟨⟨⟨W, H, R, G, B⟩, L1, L2, L3⟩, x, y, w, h⟩ = C := ⟨_, rfl⟩
    rw [hC] at c1 c2 c3 hsm hr
    have k1 : ∀ L1 L2 L3, (⟨⟨C, L1, L2, L3⟩, 0, 0, w, h⟩ : CutA).Ok := fun _ _ _ => (cut_all c1 c2.symm c3.symm).1
    have k2 : ∀ L1 L2 L3, (cutI ⟨⟨C, L1, L2, L3⟩, 0, 0, w, h⟩).Eq C := fun _ _ _ => (cut_all c1 c2.symm c3.symm).2
    have k3 : ∀ L1 L2 L3, (⟨⟨⟨W, H, R, G, B⟩, L1, L2, L3⟩, 0, 0, W, H⟩ : CutA).Ok := fun _ _ _ => (cut_all hiO rfl rfl).1
    have k4 : ∀ L1 L2 L3, (cutI ⟨⟨⟨W, H, R, G, B⟩, L1, L2, L3⟩, 0, 0, W, H⟩).Eq ⟨W, H, R, G, B⟩ := fun _ _ _ => (cut_all hiO rfl rfl).2
    refine tri_evS (hyp (l := [(11, ent11), (12, ent12), (17, ent17), (18, ent18), (19, ent19)]) (lp := []) ⟨e11, e12, e17, e18, e19, trivial⟩ trivial) Try.func4 comp4 (rs := [.tmp 2]) (by rfl) Try.ntmps4 64 ?_
    simp -implicitDefEqProofs only [push_cast, false_implies, reduceCtorEq, Classical.not_not, Nat.reduceAdd, Nat.reduceSub, Nat.reduceMul, Nat.reduceLeDiff, Nat.reduceLT, Nat.reduceEqDiff, Nat.reduceBEq, Nat.reduceBNe, Int.reduceNeg, Int.reduceToNat, Bool.or_false, Bool.false_or, Bool.or_true, Bool.true_or, BEq.rfl, Bool.not_eq_true, Bool.not_eq_false, decide_eq_true_eq, not_true_eq_false, not_false_eq_true, ite_true, ite_false, List.append_nil, and_assoc, Nat.mul_zero, Nat.zero_mul, ir4, fs11, fs15, fs12, fs17, fs18, hi2, cutI_small, hC, hc, Im.eta, hsm, hr, k1, k2, k3, k4, if_true]
  · have hC : cutI ⟨⟨⟨W, H, R, G, B⟩, L1, L2, L3⟩, x, y, w, h⟩ = im0 := by unfold cutI; rw [if_neg hc]
    have hsm : im0.small := ⟨by decide, by decide, by decide⟩
    have hr := Im.Eq.refl im0
    refine tri_evS (hyp (l := [(11, ent11), (12, ent12), (17, ent17), (18, ent18), (19, ent19)]) (lp := []) ⟨e11, e12, e17, e18, e19, trivial⟩ trivial) Try.func4 comp4 (rs := [.tmp 2]) (by rfl) Try.ntmps4 64 ?_
    simp -implicitDefEqProofs only [push_cast, false_implies, reduceCtorEq, Classical.not_not, Nat.reduceAdd, Nat.reduceSub, Nat.reduceMul, Nat.reduceLeDiff, Nat.reduceLT, Nat.reduceEqDiff, Nat.reduceBEq, Nat.reduceBNe, Int.reduceNeg, Int.reduceToNat, Bool.or_false, Bool.false_or, Bool.or_true, Bool.true_or, BEq.rfl, Bool.not_eq_true, Bool.not_eq_false, decide_eq_true_eq, not_true_eq_false, not_false_eq_true, ite_true, ite_false, List.append_nil, and_assoc, Nat.mul_zero, Nat.zero_mul, ir4, fs11, fs15, fs12, fs17, fs18, hi2, cutI_small, hC, hc, Im.eta, hsm, hr, if_false]
    by_cases hiO : (⟨W, H, R, G, B⟩ : Im).Ok
    · simp [hiO]
    · simp [hiO]
end Go.Proofs.Ytnmbimhcfioeiaa
