import Derived.Test.YtbndfifoakmdnaaPLeast1
set_option linter.unusedVariables false
set_option linter.unusedSimpArgs false
set_option maxRecDepth 1000
namespace Go.Proofs.Ytbndfifoakmdnaa
open Xf
def ir7 : IR :=
  .seq (.reg false [⟨some 3, none, ⟨[], []⟩, .box 10 (.t 0)⟩,
    ⟨some 4, none, ⟨[], []⟩, .box 11 (.t 1)⟩,
    ⟨some 6, none, ⟨[], []⟩, .mov (.k (.bool false))⟩] [0, 1, 6] []) (.seq (.seq (.reg false [⟨some 15, none, ⟨[], []⟩, .ld false (some 3) 0 0 (.t 3)⟩,
    ⟨some 16, none, ⟨[], []⟩, .call (some 4) 12 9 [.t 15]⟩,
    ⟨some 17, none, ⟨[], []⟩, .mov (.t 16)⟩,
    ⟨some 18, some (17, false), ⟨[], []⟩, .mov (.t 2)⟩,
    ⟨some 19, some (17, false), ⟨[], []⟩, .len (.t 18)⟩,
    ⟨some 20, some (17, false), ⟨[], []⟩, .bin 0 .gtr (.t 19) (.k (.int .i64 3000))⟩,
    ⟨some 21, none, ⟨[], []⟩, .pick (.t 17) (.k (.bool true)) (.t 20)⟩] [15, 16, 17, 18, 19, 20] []) (.cond (.t 21) (.seq (.reg false [⟨some 22, none, ⟨[], []⟩, .call (some 4) 16 10 []⟩,
    ⟨some 6, none, ⟨[], []⟩, .mov (.t 22)⟩] [2, 3, 4, 21, 22] []) (.ret)) (.skip))) (.seq (.reg false [⟨some 24, none, ⟨[], []⟩, .ld false (some 3) 0 0 (.t 3)⟩,
    ⟨some 25, none, ⟨[], []⟩, .ld false (some 4) 0 0 (.t 4)⟩,
    ⟨some 26, none, ⟨[], []⟩, .call (some 4) 20 11 [.t 24, .t 25]⟩,
    ⟨some 23, none, ⟨[], []⟩, .mov (.t 26)⟩,
    ⟨some 27, none, ⟨[], []⟩, .ext (.t 23) 0⟩,
    ⟨some 28, none, ⟨[], []⟩, .ext (.t 23) 1⟩,
    ⟨some 29, none, ⟨[], []⟩, .ext (.t 23) 2⟩,
    ⟨some 7, none, ⟨[], []⟩, .mov (.t 27)⟩,
    ⟨some 8, none, ⟨[], []⟩, .mov (.t 28)⟩,
    ⟨some 9, none, ⟨[], []⟩, .mov (.t 29)⟩] [6, 21, 23, 24, 25, 26, 27, 28, 29] []) (.seq (.reg false [⟨some 31, none, ⟨[], []⟩, .ld false (some 3) 0 0 (.t 3)⟩,
    ⟨some 32, none, ⟨[], []⟩, .ld false (some 4) 0 0 (.t 4)⟩,
    ⟨some 33, none, ⟨[], []⟩, .call (some 4) 24 21 [.t 31, .t 32]⟩,
    ⟨some 30, none, ⟨[], []⟩, .mov (.t 33)⟩,
    ⟨some 34, none, ⟨[], []⟩, .ext (.t 30) 0⟩,
    ⟨some 35, none, ⟨[], []⟩, .ext (.t 30) 1⟩,
    ⟨some 36, none, ⟨[], []⟩, .ext (.t 30) 2⟩,
    ⟨some 10, none, ⟨[], []⟩, .mov (.t 34)⟩,
    ⟨some 11, none, ⟨[], []⟩, .mov (.t 35)⟩,
    ⟨some 12, none, ⟨[], []⟩, .mov (.t 36)⟩] [30, 31, 32, 33, 34, 35, 36] []) (.seq (.seq (.reg false [⟨some 37, none, ⟨[], []⟩, .mov (.t 9)⟩,
    ⟨some 38, none, ⟨[], []⟩, .mov (.t 12)⟩,
    ⟨some 39, none, ⟨[], []⟩, .bin 0 .neq (.t 37) (.t 38)⟩,
    ⟨some 40, none, ⟨[], []⟩, .mov (.t 39)⟩,
    ⟨some 41, some (40, false), ⟨[], []⟩, .mov (.t 8)⟩,
    ⟨some 42, some (40, false), ⟨[], []⟩, .mov (.t 11)⟩,
    ⟨some 43, some (40, false), ⟨[], []⟩, .bin 0 .neq (.t 41) (.t 42)⟩,
    ⟨some 44, none, ⟨[], []⟩, .pick (.t 40) (.k (.bool true)) (.t 43)⟩,
    ⟨some 45, none, ⟨[], []⟩, .mov (.t 44)⟩,
    ⟨some 46, some (45, false), ⟨[], []⟩, .mov (.t 7)⟩,
    ⟨some 47, some (45, false), ⟨[], []⟩, .mov (.t 10)⟩,
    ⟨some 48, some (45, false), ⟨[], []⟩, .call (some 4) 28 22 [.t 46, .t 47]⟩,
    ⟨some 49, some (45, false), ⟨[], []⟩, .not (.t 48)⟩,
    ⟨some 50, none, ⟨[], []⟩, .pick (.t 45) (.k (.bool true)) (.t 49)⟩] [10, 11, 12, 37, 38, 39, 40, 41, 42, 43, 44, 45, 46, 47, 48, 49] []) (.cond (.t 50) (.seq (.reg false [⟨some 6, none, ⟨[], []⟩, .mov (.k (.bool false))⟩] [2, 3, 4, 7, 8, 9, 50] []) (.ret)) (.skip))) (.seq (.seq (.reg false [⟨some 51, none, ⟨[], []⟩, .mov (.t 9)⟩,
    ⟨some 52, none, ⟨[], []⟩, .bin 0 .neq (.t 51) (.k (.int .i64 0))⟩] [6, 9, 50, 51] []) (.cond (.t 52) (.seq (.reg false [⟨some 53, none, ⟨[], []⟩, .call (some 4) 32 10 []⟩,
    ⟨some 6, none, ⟨[], []⟩, .mov (.t 53)⟩] [2, 3, 4, 7, 8, 52, 53] []) (.ret)) (.skip))) (.seq (.reg false [⟨some 55, none, ⟨[], []⟩, .ld false (some 3) 0 0 (.t 3)⟩,
    ⟨some 56, none, ⟨[], []⟩, .ld false (some 4) 0 0 (.t 4)⟩,
    ⟨some 57, none, ⟨[], []⟩, .mov (.t 7)⟩,
    ⟨some 58, none, ⟨[], []⟩, .call (some 4) 36 17 [.t 55, .t 56, .t 57]⟩,
    ⟨some 54, none, ⟨[], []⟩, .mov (.t 58)⟩,
    ⟨some 59, none, ⟨[], []⟩, .ext (.t 54) 0⟩,
    ⟨some 60, none, ⟨[], []⟩, .ext (.t 54) 1⟩,
    ⟨some 13, none, ⟨[], []⟩, .mov (.t 59)⟩,
    ⟨some 9, none, ⟨[], []⟩, .mov (.t 60)⟩] [6, 52, 54, 55, 56, 57, 58, 59, 60] []) (.seq (.seq (.reg false [⟨some 61, none, ⟨[], []⟩, .mov (.t 9)⟩,
    ⟨some 62, none, ⟨[], []⟩, .bin 0 .neq (.t 61) (.k (.int .i64 0))⟩,
    ⟨some 63, none, ⟨[], []⟩, .mov (.t 62)⟩,
    ⟨some 64, some (63, false), ⟨[], []⟩, .mov (.t 13)⟩,
    ⟨some 65, some (63, false), ⟨[], []⟩, .mov (.t 8)⟩,
    ⟨some 66, some (63, false), ⟨[], []⟩, .bin 0 .neq (.t 64) (.t 65)⟩,
    ⟨some 67, none, ⟨[], []⟩, .pick (.t 63) (.k (.bool true)) (.t 66)⟩,
    ⟨some 68, none, ⟨[], []⟩, .mov (.t 67)⟩,
    ⟨some 69, some (68, false), ⟨[], []⟩, .fld (.t 3) 0⟩,
    ⟨some 70, some (68, false), ⟨[], []⟩, .ld false none 0 0 (.t 69)⟩,
    ⟨some 71, some (68, false), ⟨[], []⟩, .fld (.t 3) 1⟩,
    ⟨some 72, some (68, false), ⟨[], []⟩, .ld false none 0 0 (.t 71)⟩,
    ⟨some 73, some (68, false), ⟨[], []⟩, .mov (.t 7)⟩,
    ⟨some 74, some (68, false), ⟨[], []⟩, .call (some 4) 40 23 [.t 70, .t 72, .t 73]⟩,
    ⟨some 75, some (68, false), ⟨[], []⟩, .not (.t 74)⟩,
    ⟨some 76, none, ⟨[], []⟩, .pick (.t 68) (.k (.bool true)) (.t 75)⟩] [7, 9, 13, 61, 62, 63, 64, 65, 66, 67, 68, 69, 70, 71, 72, 73, 74, 75] []) (.cond (.t 76) (.seq (.reg false [⟨some 6, none, ⟨[], []⟩, .mov (.k (.bool false))⟩] [2, 3, 4, 8, 76] []) (.ret)) (.skip))) (.seq (.reg false [⟨some 78, none, ⟨[], []⟩, .ld false (some 3) 0 0 (.t 3)⟩,
    ⟨some 79, none, ⟨[], []⟩, .ld false (some 4) 0 0 (.t 4)⟩,
    ⟨some 80, none, ⟨[], []⟩, .mov (.t 2)⟩,
    ⟨some 81, none, ⟨[], []⟩, .call (some 4) 44 17 [.t 78, .t 79, .t 80]⟩,
    ⟨some 77, none, ⟨[], []⟩, .mov (.t 81)⟩,
    ⟨some 82, none, ⟨[], []⟩, .ext (.t 77) 0⟩,
    ⟨some 83, none, ⟨[], []⟩, .ext (.t 77) 1⟩,
    ⟨some 14, none, ⟨[], []⟩, .mov (.t 82)⟩,
    ⟨some 9, none, ⟨[], []⟩, .mov (.t 83)⟩] [2, 3, 4, 6, 76, 77, 78, 79, 80, 81, 82, 83] []) (.seq (.reg false [⟨some 84, none, ⟨[], []⟩, .mov (.t 9)⟩,
    ⟨some 85, none, ⟨[], []⟩, .bin 0 .neq (.t 84) (.k (.int .i64 0))⟩,
    ⟨some 86, none, ⟨[], []⟩, .mov (.t 85)⟩,
    ⟨some 87, some (86, false), ⟨[], []⟩, .mov (.t 14)⟩,
    ⟨some 88, some (86, false), ⟨[], []⟩, .mov (.t 8)⟩,
    ⟨some 89, some (86, false), ⟨[], []⟩, .bin 0 .geq (.t 87) (.t 88)⟩,
    ⟨some 90, none, ⟨[], []⟩, .pick (.t 86) (.k (.bool true)) (.t 89)⟩,
    ⟨some 91, none, ⟨[], []⟩, .mov (.t 90)⟩,
    ⟨some 92, some (91, true), ⟨[], []⟩, .call (some 4) 48 10 []⟩,
    ⟨some 93, none, ⟨[], []⟩, .pick (.t 91) (.t 92) (.k (.bool false))⟩,
    ⟨some 6, none, ⟨[], []⟩, .mov (.t 93)⟩] [8, 9, 14, 84, 85, 86, 87, 88, 89, 90, 91, 92, 93] []) (.ret))))))))))
set_option maxRecDepth 4000 in
theorem comp7 : (Try.f7.body.bind fun c => compC tab isP chkAll ir7 c) = some ir7 := by kernel_rfl
theorem paS_sumE {p : Pl} {e : En} (hG : p.Gr) (hE : e.Ok) : ∀ {l : List Pt}, ptsIn p.w p.h l → paS p e l = sumE p.pn e l
  | [], _ => rfl
  | x :: l, h => by
    have h1 : paN p e x = ptE p.pn e x := by unfold paN; rw [if_pos ⟨hG, hE, h x (by simp)⟩]; rfl
    have h2 := paS_sumE hG hE (l := l) fun y hy => h y (by simp [hy])
    unfold paS at h2 ⊢
    unfold sumE at h2 ⊢
    rw [List.map_cons, List.map_cons, sumL, sumL, h1, h2]
theorem eyE_zero {p : Pl} {e : En} {l : List Pt} (h : eyE p e l = 0) : p.Gr ∧ e.Ok ∧ ptsIn p.w p.h l ∧ (cuS p.w p.h l).1 = true ∧ eyN p e l = (cuS p.w p.h l).2 * e.cut + paS p e l := by
  unfold eyE at h
  split at h
  case isFalse => exact absurd h (by decide)
  rename_i hG
  split at h
  case isFalse => exact absurd h (by decide)
  rename_i hE
  have hc := h
  unfold cuE at hc
  split at hc
  case isFalse => exact absurd hc (by decide)
  rename_i hP
  split at hc
  case isFalse => exact absurd hc (by decide)
  rename_i hb
  refine ⟨hG, hE, hP, hb, ?_⟩
  unfold eyN
  rw [if_pos ⟨hG, hE, h⟩]
  unfold cuN
  rw [if_pos ⟨hP, hb⟩]
theorem eyE_of {p : Pl} {e : En} {l : List Pt} (hG : p.Gr) (hE : e.Ok) (hP : ptsIn p.w p.h l) (hb : (cuS p.w p.h l).1 = true) : eyE p e l = 0 := by
  unfold eyE cuE
  rw [if_pos hG, if_pos hE, if_pos hP, if_pos hb]
/-- The least tree is one, of its energy, and no tree has less. -/
theorem sp_least {p : Pl} {e : En} (hG : p.Gr) (hE : e.Ok) : (spS p e).1.length ≤ 40000 ∧ ptsIn p.w p.h (spS p e).1 ∧ (cuS p.w p.h (spS p e).1).1 = true ∧ eyE p e (spS p e).1 = 0 ∧ eyN p e (spS p e).1 = (spS p e).2 ∧ ∀ l, eyE p e l = 0 → (spS p e).2 ≤ eyN p e l := by
  by_cases h0 : 0 < p.xs.length
  · have hS : spOk p e := ⟨hG, hE, h0⟩
    obtain ⟨g1, g2, g3, g4, g5⟩ := hG.pn h0
    have hsp : spS p e = least p.pn e fuelN p.rt := by unfold spS; rw [if_pos hS]
    have ho := least_ok g1 hE fuelN _ g2 g3
    have hlf := least_leaf (e := e) fuelN _ g2 g3
    obtain ⟨k, t, s⟩ := least_tree (e := e) fuelN _ g2 g3 [] [] 0
    have hmin := fun {l : List Pt} (hk : ∀ x ∈ l, 0 ≤ x.kind ∧ x.kind ≤ 2) => least_min (p := p.pn) (e := e) hk fuelN p.rt (0, 0)
    have har : area p.rt ≤ 40000 := g3
    have hsd : SidesOk p.w p.h := hG.1
    obtain ⟨s1, s2, s3, s4, s5⟩ := hsd
    have hwl : (p.xs.length : Int) = p.w * p.h := hG.2.1
    have hn : ¬ p.w * p.h = 0 := by omega
    rw [hsp]
    generalize least p.pn e fuelN p.rt = R at *
    obtain ⟨lp, n⟩ := R
    simp only [List.nil_append, List.append_nil, List.length_nil, Nat.zero_add, Int.zero_add] at t s ho hlf ⊢
    have hP : ptsIn p.w p.h lp := fun x hx => by
      obtain ⟨e1, e2, _⟩ := hlf x hx
      obtain ⟨k0, k1, _⟩ := best_en (p := p.pn) (e := e) (r := x.rt)
      obtain ⟨j1, j2, j3, j4, j5, j6⟩ := e2
      have hk : x.kind = kindI p.pn e x.rt := congrArg Pt.kind e1
      have j5' : x.x + x.w ≤ (p.w.toNat : Int) := j5
      have j6' : x.y + x.h ≤ (p.h.toNat : Int) := j6
      have j1' : 0 ≤ x.x := j1
      have j2' : 0 ≤ x.y := j2
      have j3' : 1 ≤ x.w := j3
      have j4' : 1 ≤ x.h := j4
      unfold Pt.In
      omega
    have hcu : cuS p.w p.h lp = (true, k) := by
      unfold cuS
      rw [if_neg hn, show cuT p.w p.h lp = (true, lp.length, k) from t]
      simp
    have hb : (cuS p.w p.h lp).1 = true := by rw [hcu]
    have hz := eyE_of hG hE hP hb
    refine ⟨by omega, hP, hb, hz, ?_, fun l hl => ?_⟩
    · rw [(eyE_zero hz).2.2.2.2, hcu, paS_sumE hG hE hP]
      exact s
    · obtain ⟨_, _, q1, q2, q3⟩ := eyE_zero hl
      rw [q3, paS_sumE hG hE q1]
      unfold cuS at q2 ⊢
      rw [if_neg hn] at q2 ⊢
      simp only [Bool.and_eq_true, decide_eq_true_eq] at q2
      have := hmin (l := l) (fun x hx => ⟨(q1 x hx).1, (q1 x hx).2.1⟩) q2.1
      have e1 : tk l fuelN p.rt (0, 0) = cuT p.w p.h l := rfl
      rw [e1, q2.2, List.take_length] at this
      simp only [List.take_zero, Int.zero_mul] at this
      have e2 : sumE p.pn e [] = 0 := rfl
      rw [e2] at this
      simp only at this ⊢
      omega
  · have hS : ¬ spOk p e := fun h => h0 h.2.2
    have hsp : spS p e = ([], 0) := by unfold spS; rw [if_neg hS]
    have hwl : (p.xs.length : Int) = p.w * p.h := hG.2.1
    have hn : p.w * p.h = 0 := by omega
    rw [hsp]
    have hcu : ∀ l, cuS p.w p.h l = (decide (l.length = 0), 0) := fun l => by unfold cuS; rw [if_pos hn]
    have hP : ptsIn p.w p.h [] := fun x hx => by simp at hx
    have hb : (cuS p.w p.h []).1 = true := by rw [hcu]; rfl
    have hz := eyE_of hG hE hP hb
    refine ⟨by simp, hP, hb, hz, ?_, fun l hl => ?_⟩
    · rw [(eyE_zero hz).2.2.2.2, hcu]
      simp [paS, sumL]
    · obtain ⟨_, _, q1, q2, q3⟩ := eyE_zero hl
      rw [hcu] at q2 q3
      simp only [decide_eq_true_eq] at q2
      rw [q3, List.eq_nil_of_length_eq_zero q2]
      simp [paS, sumL]
set_option maxRecDepth 4000 in
set_option maxHeartbeats 2000000 in
theorem tri7a (p : Pl) (hp : p.xs.length ≤ 140737488355328) (e : En) (l : List Pt) (hl : l.length ≤ 140737488355328) (L LP : Xf.Loc) : Tri Try.prog 7 [plV p L 0, .agg [.int .i64 e.cut, .int .i64 e.paper, .int .i64 e.text, .int .i64 e.pic], .sl 1 LP 5 0 l.length]
    [some (.ro, L, .ints .i64 p.xs), some (.ro, LP, .recs 5 false [] (l.map Pt.rc))] (fun v _ => v = .bool true) := by
  have hget := getPt_map l
  have hlm : (l.map Pt.rc).length = l.length := List.length_map _
  by_cases hbig : (1200 : Int) < p.xs.length ∨ (3000 : Int) < l.length
  · obtain ⟨w, h, xs⟩ := p
    obtain ⟨c, q, t, i⟩ := e
    change xs.length ≤ 140737488355328 at hp
    simp only at hbig
    change Tri Try.prog 7 [plV ⟨w, h, xs⟩ L 0, .agg [.int .i64 c, .int .i64 q, .int .i64 t, .int .i64 i], .sl 1 LP 5 0 l.length] [some (.ro, L, .ints .i64 xs), some (.ro, LP, .recs 5 false [] (l.map Pt.rc))] _
    refine tri_evS (hyp (l := [(9, ent9), (10, ent10)]) (lp := []) ⟨e9, e10, trivial⟩ trivial) Try.func7 comp7 (rs := [.tmp 6]) (by rfl) Try.ntmps7 52 ?_
    rcases hbig with hbig | hbig
    · simp -implicitDefEqProofs only [push_cast, false_implies, reduceCtorEq, Classical.not_not, Nat.reduceAdd, Nat.reduceSub, Nat.reduceMul, Nat.reduceLeDiff, Nat.reduceLT, Nat.reduceEqDiff, Nat.reduceBEq, Nat.reduceBNe, Int.reduceNeg, Int.reduceToNat, Bool.or_false, Bool.false_or, Bool.or_true, Bool.true_or, BEq.rfl, Bool.not_eq_true, Bool.not_eq_false, decide_eq_true_eq, not_true_eq_false, not_false_eq_true, ite_true, ite_false, List.append_nil, and_assoc, Nat.mul_zero, Nat.zero_mul, ir7, fs9, fs12, fs10, hp, hbig, plV, enV]
    · by_cases hb : (1200 : Int) < xs.length
      · simp -implicitDefEqProofs only [push_cast, false_implies, reduceCtorEq, Classical.not_not, Nat.reduceAdd, Nat.reduceSub, Nat.reduceMul, Nat.reduceLeDiff, Nat.reduceLT, Nat.reduceEqDiff, Nat.reduceBEq, Nat.reduceBNe, Int.reduceNeg, Int.reduceToNat, Bool.or_false, Bool.false_or, Bool.or_true, Bool.true_or, BEq.rfl, Bool.not_eq_true, Bool.not_eq_false, decide_eq_true_eq, not_true_eq_false, not_false_eq_true, ite_true, ite_false, List.append_nil, and_assoc, Nat.mul_zero, Nat.zero_mul, ir7, fs9, fs12, fs10, hp, hb, plV, enV]
      · simp -implicitDefEqProofs only [push_cast, false_implies, reduceCtorEq, Classical.not_not, Nat.reduceAdd, Nat.reduceSub, Nat.reduceMul, Nat.reduceLeDiff, Nat.reduceLT, Nat.reduceEqDiff, Nat.reduceBEq, Nat.reduceBNe, Int.reduceNeg, Int.reduceToNat, Bool.or_false, Bool.false_or, Bool.or_true, Bool.true_or, BEq.rfl, Bool.not_eq_true, Bool.not_eq_false, decide_eq_true_eq, not_true_eq_false, not_false_eq_true, ite_true, ite_false, List.append_nil, and_assoc, Nat.mul_zero, Nat.zero_mul, ir7, fs9, fs12, fs10, hp, hb, hbig, plV, enV]
  have hb1 : ¬ (1200 : Int) < p.xs.length := fun h => hbig (.inl h)
  have hb2 : ¬ (3000 : Int) < l.length := fun h => hbig (.inr h)
  clear hbig
  have hl6 : l.length ≤ 1000000 := by omega
  by_cases hok : p.Gr ∧ e.Ok
  case neg =>
    have h1 : spS p e = ([], 0) := by unfold spS; rw [if_neg fun H => hok ⟨H.1, H.2.1⟩]
    have h2 : ¬ spE p e = 0 := by
      unfold spE
      split
      · rename_i hG; rw [if_neg fun hE => hok ⟨hG, hE⟩]; decide
      · decide
    obtain ⟨w, h, xs⟩ := p
    obtain ⟨c, q, t, i⟩ := e
    change xs.length ≤ 140737488355328 at hp
    simp only at hb1
    change Tri Try.prog 7 [plV ⟨w, h, xs⟩ L 0, .agg [.int .i64 c, .int .i64 q, .int .i64 t, .int .i64 i], .sl 1 LP 5 0 l.length] [some (.ro, L, .ints .i64 xs), some (.ro, LP, .recs 5 false [] (l.map Pt.rc))] _
    refine tri_evS (hyp (l := [(9, ent9), (10, ent10), (11, ent11), (21, ent21), (22, ent22)]) (lp := []) ⟨e9, e10, e11, e21, e22, trivial⟩ trivial) Try.func7 comp7 (rs := [.tmp 6]) (by rfl) Try.ntmps7 52 ?_
    have hgn : getPt [] = some [] := rfl
    simp -implicitDefEqProofs only [push_cast, false_implies, reduceCtorEq, Classical.not_not, Nat.reduceAdd, Nat.reduceSub, Nat.reduceMul, Nat.reduceLeDiff, Nat.reduceLT, Nat.reduceEqDiff, Nat.reduceBEq, Nat.reduceBNe, Int.reduceNeg, Int.reduceToNat, Bool.or_false, Bool.false_or, Bool.or_true, Bool.true_or, BEq.rfl, Bool.not_eq_true, Bool.not_eq_false, decide_eq_true_eq, not_true_eq_false, not_false_eq_true, ite_true, ite_false, List.append_nil, and_assoc, Nat.mul_zero, Nat.zero_mul, ir7, fs9, fs12, fs10, fs11, fs22, hp, hb1, hb2, h1, h2, hgn, plV, enV, esz, List.length_nil, List.map_nil]
  obtain ⟨hG, hE⟩ := hok
  have hsE : spE p e = 0 := by unfold spE; rw [if_pos hG, if_pos hE]
  obtain ⟨hll, hP, hcb, hz, hzn, hmin⟩ := sp_least hG hE
  obtain ⟨⟨lp, n⟩, hsp⟩ : ∃ l, spS p e = l := ⟨_, rfl⟩
  rw [hsp] at hll hP hcb hz hzn hmin
  simp only at hll hP hcb hz hzn hmin
  have hl6' : lp.length ≤ 1000000 := by omega
  have hes : 0 < lp.length → esz 5 lp.length = 5 := esz_pos
  have hget' := getPt_map lp
  have hlm' : (lp.map Pt.rc).length = lp.length := List.length_map _
  replace hmin := hmin l
  obtain ⟨N, hN⟩ : ∃ N, eyN p e l = N := ⟨_, rfl⟩
  obtain ⟨E, hE'⟩ : ∃ E, eyE p e l = E := ⟨_, rfl⟩
  rw [hN, hE'] at hmin
  have hsd : SidesOk p.w p.h := hG.1
  obtain ⟨s1, s2, s3, s4, s5⟩ := hsd
  obtain ⟨w, h, xs⟩ := p
  obtain ⟨c, q, t, i⟩ := e
  change xs.length ≤ 140737488355328 at hp
  simp only at hb1 s1 s2 s3 s4 hP hcb
  change Tri Try.prog 7 [plV ⟨w, h, xs⟩ L 0, .agg [.int .i64 c, .int .i64 q, .int .i64 t, .int .i64 i], .sl 1 LP 5 0 l.length] [some (.ro, L, .ints .i64 xs), some (.ro, LP, .recs 5 false [] (l.map Pt.rc))] _
  refine tri_evS (hyp (l := [(9, ent9), (10, ent10), (11, ent11), (21, ent21), (22, ent22), (17, ent17), (23, ent23)]) (lp := []) ⟨e9, e10, e11, e21, e22, e17, e23, trivial⟩ trivial) Try.func7 comp7 (rs := [.tmp 6]) (by rfl) Try.ntmps7 52 ?_
  by_cases hE0 : E = 0
  · have hnN : n ≤ N := hmin hE0
    simp -implicitDefEqProofs only [push_cast, false_implies, reduceCtorEq, Classical.not_not, Nat.reduceAdd, Nat.reduceSub, Nat.reduceMul, Nat.reduceLeDiff, Nat.reduceLT, Nat.reduceEqDiff, Nat.reduceBEq, Nat.reduceBNe, Int.reduceNeg, Int.reduceToNat, Bool.or_false, Bool.false_or, Bool.or_true, Bool.true_or, BEq.rfl, Bool.not_eq_true, Bool.not_eq_false, decide_eq_true_eq, not_true_eq_false, not_false_eq_true, ite_true, ite_false, List.append_nil, and_assoc, Nat.mul_zero, Nat.zero_mul, ir7, fs9, fs12, fs10, fs11, fs22, fs17, fs23, fs41, hp, hb1, hb2, hsE, hsp, hget, hlm, hget', hlm', hl6, hl6', hes, hz, hzn, hN, hE', hE0, hP, hcb, s1, s2, s3, s4, hnN, plV, enV]
    exact hes
  · simp -implicitDefEqProofs only [push_cast, false_implies, reduceCtorEq, Classical.not_not, Nat.reduceAdd, Nat.reduceSub, Nat.reduceMul, Nat.reduceLeDiff, Nat.reduceLT, Nat.reduceEqDiff, Nat.reduceBEq, Nat.reduceBNe, Int.reduceNeg, Int.reduceToNat, Bool.or_false, Bool.false_or, Bool.or_true, Bool.true_or, BEq.rfl, Bool.not_eq_true, Bool.not_eq_false, decide_eq_true_eq, not_true_eq_false, not_false_eq_true, ite_true, ite_false, List.append_nil, and_assoc, Nat.mul_zero, Nat.zero_mul, ir7, fs9, fs12, fs10, fs11, fs22, fs17, fs23, fs41, hp, hb1, hb2, hsE, hsp, hget, hlm, hget', hlm', hl6, hl6', hes, hz, hzn, hN, hE', hE0, hP, hcb, s1, s2, s3, s4, plV, enV]
    exact hes
theorem tri7 (p : Pl) (hp : p.xs.length ≤ 140737488355328) (e : En) (x : List (List Int)) (hx : x.length ≤ 140737488355328) (hr : ∀ r ∈ x, r.length = 5 ∧ wfAll .i64 r) (L LP : Xf.Loc) : Tri Try.prog 7 [plV p L 0, .agg [.int .i64 e.cut, .int .i64 e.paper, .int .i64 e.text, .int .i64 e.pic], .sl 1 LP 5 0 x.length]
    [some (.ro, L, .ints .i64 p.xs), some (.ro, LP, .recs 5 false [] (x.map rcI))] (fun v _ => v = .bool true) := by
  obtain ⟨m, h1, h2⟩ := toPt x hr
  rw [h2, h1]
  exact tri7a p hp e m (by omega) L LP
end Go.Proofs.Ytbndfifoakmdnaa
