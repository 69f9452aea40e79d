import Derived.Test.YtbndfifoakmdnaaPMasks0
set_option linter.unusedVariables false
set_option linter.unusedSimpArgs false
set_option maxRecDepth 1000
namespace Go.Proofs.Ytbndfifoakmdnaa
open Xf
def ir10 : IR :=
  .seq (.reg false [⟨some 0, none, ⟨[], []⟩, .mov (.k (.bool false))⟩] [0] []) (.seq (.reg false [⟨some 5, none, ⟨[], []⟩, .bslice 10 [.k (.int .i64 255)]⟩,
    ⟨some 6, none, ⟨[], []⟩, .build [.int .i64 0, .int .i64 0, nilSV] [(0, 1, .k (.int .i64 1)), (1, 1, .k (.int .i64 1)), (2, 1, .t 5)]⟩,
    ⟨some 7, none, ⟨[], []⟩, .build [.int .i64 0, .int .i64 0, .int .i64 0, .int .i64 0] [(1, 1, .k (.int .i64 1)), (2, 1, .k (.int .i64 2)), (3, 1, .k (.int .i64 3))]⟩,
    ⟨some 8, none, ⟨[], []⟩, .call (some 4) 11 11 [.t 6, .t 7]⟩,
    ⟨some 4, none, ⟨[], []⟩, .mov (.t 8)⟩,
    ⟨some 9, none, ⟨[], []⟩, .ext (.t 4) 0⟩,
    ⟨some 10, none, ⟨[], []⟩, .ext (.t 4) 1⟩,
    ⟨some 11, none, ⟨[], []⟩, .ext (.t 4) 2⟩,
    ⟨some 1, none, ⟨[], []⟩, .mov (.t 9)⟩,
    ⟨some 2, none, ⟨[], []⟩, .mov (.t 10)⟩,
    ⟨some 3, none, ⟨[], []⟩, .mov (.t 11)⟩] [4, 5, 6, 7, 8, 9, 10, 11] []) (.seq (.reg false [⟨some 12, none, ⟨[], []⟩, .mov (.t 3)⟩,
    ⟨some 13, none, ⟨[], []⟩, .bin 0 .eql (.t 12) (.k (.int .i64 0))⟩,
    ⟨some 14, none, ⟨[], []⟩, .mov (.t 13)⟩,
    ⟨some 15, some (14, true), ⟨[], []⟩, .mov (.t 2)⟩,
    ⟨some 16, some (14, true), ⟨[], []⟩, .bin 0 .eql (.t 15) (.k (.int .i64 1))⟩,
    ⟨some 17, none, ⟨[], []⟩, .pick (.t 14) (.t 16) (.k (.bool false))⟩,
    ⟨some 18, none, ⟨[], []⟩, .mov (.t 17)⟩,
    ⟨some 19, some (18, true), ⟨[], []⟩, .mov (.t 1)⟩,
    ⟨some 20, some (18, true), ⟨[], []⟩, .len (.t 19)⟩,
    ⟨some 21, some (18, true), ⟨[], []⟩, .bin 0 .eql (.t 20) (.k (.int .i64 1))⟩,
    ⟨some 22, none, ⟨[], []⟩, .pick (.t 18) (.t 21) (.k (.bool false))⟩,
    ⟨some 23, none, ⟨[], []⟩, .mov (.t 22)⟩,
    ⟨some 24, some (23, true), ⟨[], []⟩, .mov (.t 1)⟩,
    ⟨some 25, some (23, true), ⟨[], []⟩, .idxS (.t 24) (.k (.int .i64 0)) 5⟩,
    ⟨some 26, some (23, true), ⟨[], []⟩, .ld true (some 5) 0 0 (.t 25)⟩,
    ⟨some 27, some (23, true), ⟨[], []⟩, .build [.int .i64 0, .int .i64 0, .int .i64 0, .int .i64 0, .int .i64 0] [(3, 1, .k (.int .i64 1)), (4, 1, .k (.int .i64 1))]⟩,
    ⟨some 28, some (23, true), ⟨[], []⟩, .binA .eql [true, true, true, true, true] (.t 26) (.t 27)⟩,
    ⟨some 29, none, ⟨[], []⟩, .pick (.t 23) (.t 28) (.k (.bool false))⟩,
    ⟨some 0, none, ⟨[], []⟩, .mov (.t 29)⟩] [1, 2, 3, 12, 13, 14, 15, 16, 17, 18, 19, 20, 21, 22, 23, 24, 25, 26, 27, 28, 29] []) (.ret)))
set_option maxRecDepth 4000 in
theorem comp10 : (Try.f10.body.bind fun c => compC tab isP chkAll ir10 c) = some ir10 := by kernel_rfl
/-- The example of the chapter. -/
theorem sane_sp : spS ⟨1, 1, [255]⟩ ⟨0, 1, 2, 3⟩ = ([⟨0, 0, 0, 1, 1⟩], 1) ∧ spE ⟨1, 1, [255]⟩ ⟨0, 1, 2, 3⟩ = 0 ∧ spOk ⟨1, 1, [255]⟩ ⟨0, 1, 2, 3⟩ := by
  have hG : (⟨1, 1, [255]⟩ : Pl).Gr := ⟨by decide, rfl, fun n hn => by simp at hn; omega⟩
  have hE : (⟨0, 1, 2, 3⟩ : En).Ok := by decide
  have hO : spOk ⟨1, 1, [255]⟩ ⟨0, 1, 2, 3⟩ := ⟨hG, hE, by decide⟩
  refine ⟨?_, by unfold spE; rw [if_pos hG, if_pos hE], hO⟩
  unfold spS
  rw [if_pos hO]
  show least _ _ (39999 + 1) _ = _
  rw [least, if_pos (by decide)]
  have e1 : best (⟨1, 1, [255]⟩ : Pl).pn ⟨0, 1, 2, 3⟩ (⟨1, 1, [255]⟩ : Pl).rt = 1 := by decide
  have e2 : kindI (⟨1, 1, [255]⟩ : Pl).pn ⟨0, 1, 2, 3⟩ (⟨1, 1, [255]⟩ : Pl).rt = 0 := by decide
  unfold onePt
  rw [e1, e2]; rfl
def fs10 : FS where
  A := Unit
  args := fun _ => []
  mem := fun _ => []
  pre := fun _ => True
  res := fun _ _ => .bool true
  out := fun _ _ => []
  new := fun _ _ => []
def inv10 : List SV → Look → Option (Unit × List Nat)
  | [], look => some ((), [])
  | _, _ => none
attribute [push_cast] inv10
theorem ok10 : FSOk Try.prog 10 fs10 := by
  refine ⟨⟨_, Try.func10, by kernel_rfl, by kernel_rfl⟩, fun a => ⟨by simp [fs10, push_cast, noMine, argOwn, Chunk.frArg], by simp [fs10, push_cast, outOk, Chunk.ext], fun x => .inl (by simp [fs10, push_cast, frNew, frOut, Chunk.fr])⟩, fun a hp => ?_⟩
  change Tri Try.prog 10 [] [] (postF fs10 a)
  obtain ⟨s1, s2, s3⟩ := sane_sp
  have r1 : ∀ z a, recAt 0 z [a] = a := fun _ _ => rfl
  have hp : (⟨0, 0, 0, 1, 1⟩ : Pt).rc = [.int .i64 0, .int .i64 0, .int .i64 0, .int .i64 1, .int .i64 1] := rfl
  refine tri_evS (hyp (l := [(11, ent11)]) (lp := []) ⟨e11, trivial⟩ trivial) Try.func10 comp10 (rs := [.tmp 0]) (by rfl) Try.ntmps10 15 ?_
  simp -implicitDefEqProofs only [push_cast, false_implies, reduceCtorEq, Classical.not_not, Nat.reduceAdd, Nat.reduceSub, Nat.reduceMul, Nat.reduceLeDiff, Nat.reduceLT, Nat.reduceEqDiff, Nat.reduceBEq, Nat.reduceBNe, Int.reduceNeg, Int.reduceToNat, Bool.or_false, Bool.false_or, Bool.or_true, Bool.true_or, BEq.rfl, Bool.not_eq_true, Bool.not_eq_false, decide_eq_true_eq, not_true_eq_false, not_false_eq_true, ite_true, ite_false, List.append_nil, and_assoc, Nat.mul_zero, Nat.zero_mul, ir10, fs11, s1, s2, esz, r1, hp, enV, List.map_cons, List.map_nil]
  intro X
  repeat (refine And.intro (by first | omega | trivial | (intros; omega)) ?_)
  refine postF.mk' (fun _ => default) [] ?_
  simp -implicitDefEqProofs only [push_cast, false_implies, reduceCtorEq, Classical.not_not, Nat.reduceAdd, Nat.reduceSub, Nat.reduceMul, Nat.reduceLeDiff, Nat.reduceLT, Nat.reduceEqDiff, Nat.reduceBEq, Nat.reduceBNe, Int.reduceNeg, Int.reduceToNat, Bool.or_false, Bool.false_or, Bool.or_true, Bool.true_or, BEq.rfl, Bool.not_eq_true, Bool.not_eq_false, decide_eq_true_eq, not_true_eq_false, not_false_eq_true, ite_true, ite_false, List.append_nil, and_assoc, Nat.mul_zero, Nat.zero_mul, fs10]
def ent10 : Entry := spOf fs10 inv10
theorem e10 : EntryOk Try.prog 10 ent10 := entry_of ok10 inv10
@[push_cast] theorem ent10_app (us : List SV) (look : Look) (x : Nat → Xf.Loc) (k : Nat) : ent10 us look x k = spOf fs10 inv10 us look x k := rfl
def ind (q : Rt) (r c : Int) : Int := if q.x ≤ c ∧ c < q.x + q.w ∧ q.y ≤ r ∧ r < q.y + q.h then 1 else 0
def Pt.rt (p : Pt) : Rt := ⟨p.x, p.y, p.w, p.h⟩
def covN (r c : Int) : List Pt → Int
  | [] => 0
  | p :: l => ind p.rt r c + covN r c l
theorem covN_app (r c : Int) (l m : List Pt) : covN r c (l ++ m) = covN r c l + covN r c m := by
  induction l with
  | nil => simp [covN]
  | cons p l ih => simp only [List.cons_append, covN, ih]; omega
theorem ind_gone {q : Rt} (h : q.gone = true) (hq : q.ok) (r c : Int) : ind q r c = 0 := by
  obtain ⟨h1, h2, h3, h4⟩ := hq
  have : q.w * q.h = 0 := by simpa [Rt.gone] using h
  unfold ind
  rcases Int.mul_eq_zero.1 this with e | e <;> (rw [if_neg]; omega)
theorem qs_ind {p : Pn} {r : Rt} (hp : p.grey) (h : inR p r) (i j : Int) : sumL ((qs r).map fun q => ind q i j) = ind r i j := by
  have hok := qd_ok (h.ok2 hp)
  have key : ∀ l : List Rt, (∀ q ∈ l, q.ok) → sumL ((keptRt l).map fun q => ind q i j) = sumL (l.map fun q => ind q i j) := by
    intro l
    induction l with
    | nil => intro _; rfl
    | cons a l ih =>
      intro hl
      have ih := ih fun q hq => hl q (by simp [hq])
      unfold keptRt at ih ⊢
      rw [List.filter_cons]
      cases hg : a.gone with
      | true =>
        have := ind_gone hg (hl a (by simp)) i j
        simp only [Bool.not_true, Bool.false_eq_true, if_false, List.map_cons, sumL, ih, this]; omega
      | false => simp only [Bool.not_false, if_true, List.map_cons, sumL, ih]
  unfold qs
  rw [key _ hok]
  obtain ⟨h1, h2, h3, h4, h5, h6⟩ := h
  simp only [qd, List.map_cons, List.map_nil, sumL, ind]
  have a1 : r.w - (r.w + 1) / 2 = r.w / 2 := by omega
  have a2 : r.h - (r.h + 1) / 2 = r.h / 2 := by omega
  rw [a1, a2]
  by_cases c1 : j < r.x + (r.w + 1) / 2
  · by_cases c2 : i < r.y + (r.h + 1) / 2
    · rw [if_neg (show ¬ (r.x + (r.w + 1) / 2 ≤ j ∧ _) by omega), if_neg (show ¬ (r.x ≤ j ∧ j < _ ∧ r.y + (r.h + 1) / 2 ≤ i ∧ _) by omega), if_neg (show ¬ (r.x + (r.w + 1) / 2 ≤ j ∧ _) by omega)]
      by_cases c3 : r.x ≤ j ∧ r.y ≤ i
      · rw [if_pos (by omega), if_pos (by omega)]; rfl
      · rw [if_neg (by omega), if_neg (by omega)]; rfl
    · rw [if_neg (show ¬ (r.x ≤ j ∧ j < _ ∧ r.y ≤ i ∧ i < r.y + (r.h + 1) / 2) by omega), if_neg (show ¬ (r.x + (r.w + 1) / 2 ≤ j ∧ _) by omega), if_neg (show ¬ (r.x + (r.w + 1) / 2 ≤ j ∧ _) by omega)]
      by_cases c3 : r.x ≤ j ∧ i < r.y + r.h
      · rw [if_pos (by omega), if_pos (by omega)]; rfl
      · rw [if_neg (by omega), if_neg (by omega)]; rfl
  · by_cases c2 : i < r.y + (r.h + 1) / 2
    · rw [if_neg (show ¬ (r.x ≤ j ∧ j < r.x + (r.w + 1) / 2 ∧ r.y ≤ i ∧ _) by omega), if_neg (show ¬ (r.x ≤ j ∧ j < r.x + (r.w + 1) / 2 ∧ r.y + (r.h + 1) / 2 ≤ i ∧ _) by omega), if_neg (show ¬ (r.x + (r.w + 1) / 2 ≤ j ∧ j < r.x + (r.w + 1) / 2 + r.w / 2 ∧ r.y + (r.h + 1) / 2 ≤ i ∧ _) by omega)]
      by_cases c3 : j < r.x + r.w ∧ r.y ≤ i
      · rw [if_pos (by omega), if_pos (by omega)]; rfl
      · rw [if_neg (by omega), if_neg (by omega)]; rfl
    · rw [if_neg (show ¬ (r.x ≤ j ∧ j < r.x + (r.w + 1) / 2 ∧ r.y ≤ i ∧ _) by omega), if_neg (show ¬ (r.x + (r.w + 1) / 2 ≤ j ∧ j < r.x + (r.w + 1) / 2 + r.w / 2 ∧ r.y ≤ i ∧ i < r.y + (r.h + 1) / 2) by omega), if_neg (show ¬ (r.x ≤ j ∧ j < r.x + (r.w + 1) / 2 ∧ r.y + (r.h + 1) / 2 ≤ i ∧ _) by omega)]
      by_cases c3 : j < r.x + r.w ∧ i < r.y + r.h
      · rw [if_pos (by omega), if_pos (by omega)]; rfl
      · rw [if_neg (by omega), if_neg (by omega)]; rfl
/-- How often each pixel has been marked: by the first i parts, and by part i up to row v, place u. -/
def rdPt (l : List Pt) (i : Nat) : Pt := l.getD i default
theorem ite1 {p q : Prop} [Decidable p] [Decidable q] (h : p ↔ q) : (if p then (1 : Int) else 0) = if q then 1 else 0 := by
  by_cases hp : p
  · rw [if_pos hp, if_pos (h.1 hp)]
  · rw [if_neg hp, if_neg fun hq => hp (h.2 hq)]
def ir9 : IR :=
  .seq (.reg false [⟨some 1, none, ⟨[], []⟩, .box 10 (.t 0)⟩,
    ⟨some 2, none, ⟨[], []⟩, .mov (.k (.bool false))⟩] [0, 2] []) (.seq (.reg false [⟨some 3, none, ⟨[], []⟩, .fld (.t 1) 2⟩,
    ⟨some 4, none, ⟨[], []⟩, .ld false none 0 0 (.t 3)⟩,
    ⟨some 5, none, ⟨[], []⟩, .len (.t 4)⟩,
    ⟨some 6, none, ⟨[], []⟩, .bin 0 .gtr (.t 5) (.k (.int .i64 1200))⟩,
    ⟨some 2, none, ⟨[], []⟩, .mov (.t 6)⟩] [1, 3, 4, 5, 6] []) (.ret))
set_option maxRecDepth 4000 in
theorem comp9 : (Try.f9.body.bind fun c => compC tab isP chkAll ir9 c) = some ir9 := by kernel_rfl
def fs9 : FS := { fs12 with res := fun a _ => .bool (decide ((1200 : Int) < a.p.xs.length)) }
theorem ok9 : FSOk Try.prog 9 fs9 := by
  refine ⟨⟨_, Try.func9, by kernel_rfl, by kernel_rfl⟩, fun a => ⟨by simp [fs9, fs12, push_cast, noMine, argOwn, Chunk.frArg], by simp [fs9, fs12, push_cast, outOk, Chunk.ext], fun x => .inl (by simp [fs9, fs12, push_cast, frNew, frOut, Chunk.fr])⟩, fun a hp => ?_⟩
  obtain ⟨⟨w, h, xs⟩, L⟩ := a
  change xs.length ≤ 140737488355328 at hp
  change Tri Try.prog 9 [plV ⟨w, h, xs⟩ L 0] [some (.ro, L, .ints .i64 xs)] (postF fs9 ⟨⟨w, h, xs⟩, L⟩)
  refine tri_evS (hyp (l := []) (lp := []) trivial trivial) Try.func9 comp9 (rs := [.tmp 2]) (by rfl) Try.ntmps9 11 ?_
  simp -implicitDefEqProofs only [push_cast, false_implies, reduceCtorEq, Classical.not_not, Nat.reduceAdd, Nat.reduceSub, Nat.reduceMul, Nat.reduceLeDiff, Nat.reduceLT, Nat.reduceEqDiff, Nat.reduceBEq, Nat.reduceBNe, Int.reduceNeg, Int.reduceToNat, Bool.or_false, Bool.false_or, Bool.or_true, Bool.true_or, BEq.rfl, Bool.not_eq_true, Bool.not_eq_false, decide_eq_true_eq, not_true_eq_false, not_false_eq_true, ite_true, ite_false, List.append_nil, and_assoc, Nat.mul_zero, Nat.zero_mul, ir9, plV]
  refine fun X => postF.mk' (fun _ => default) [some 0] ?_
  simp -implicitDefEqProofs only [push_cast, false_implies, reduceCtorEq, Classical.not_not, Nat.reduceAdd, Nat.reduceSub, Nat.reduceMul, Nat.reduceLeDiff, Nat.reduceLT, Nat.reduceEqDiff, Nat.reduceBEq, Nat.reduceBNe, Int.reduceNeg, Int.reduceToNat, Bool.or_false, Bool.false_or, Bool.or_true, Bool.true_or, BEq.rfl, Bool.not_eq_true, Bool.not_eq_false, decide_eq_true_eq, not_true_eq_false, not_false_eq_true, ite_true, ite_false, List.append_nil, and_assoc, Nat.mul_zero, Nat.zero_mul, fs9, fs12]
def ent9 : Entry := spOf fs9 inv12
theorem e9 : EntryOk Try.prog 9 ent9 := entry_of ok9 inv12
@[push_cast] theorem ent9_app (us : List SV) (look : Look) (x : Nat → Xf.Loc) (k : Nat) : ent9 us look x k = spOf fs9 inv12 us look x k := rfl
theorem recAt_Pt {l : List Pt} {i : Nat} (h : i < l.length) (z : List RC) : recAt (i : Int) z (l.map Pt.rc) = (rdPt l i).rc := by
  simp [recAt, rdPt, h]
theorem rdPt_mem {l : List Pt} {i : Nat} (h : i < l.length) : rdPt l i ∈ l := by simp [rdPt, h]
theorem tabl_zero' {n : Nat} {f : Nat → Int} (h : ∀ k, k < n → f k = 0) : tabl n f = List.replicate n 0 := by
  refine eq_of_rd (by simp [tabl_length]) fun j hj => ?_
  rw [tabl_length] at hj
  rw [rd_tabl hj, h j hj, rd_lt _ _ (by simpa using hj)]; simp
def ir33 : IR :=
  .seq (.reg false [⟨some 3, none, ⟨[], []⟩, .box 10 (.t 0)⟩,
    ⟨some 6, none, ⟨[], []⟩, .mov (.k (.bool false))⟩] [0, 6] []) (.seq (.reg false [⟨some 7, none, ⟨[], []⟩, .fld (.t 3) 0⟩,
    ⟨some 8, none, ⟨[], []⟩, .ld false none 0 0 (.t 7)⟩,
    ⟨some 9, none, ⟨[], []⟩, .bin 0 .geq (.t 8) (.k (.int .i64 0))⟩,
    ⟨some 10, none, ⟨[], []⟩, .mov (.t 9)⟩,
    ⟨some 11, some (10, true), ⟨[], []⟩, .fld (.t 3) 0⟩,
    ⟨some 12, some (10, true), ⟨[], []⟩, .ld false none 0 0 (.t 11)⟩,
    ⟨some 13, some (10, true), ⟨[], []⟩, .bin 0 .leq (.t 12) (.k (.int .i64 2))⟩,
    ⟨some 14, none, ⟨[], []⟩, .pick (.t 10) (.t 13) (.k (.bool false))⟩,
    ⟨some 15, none, ⟨[], []⟩, .mov (.t 14)⟩,
    ⟨some 16, some (15, true), ⟨[], []⟩, .fld (.t 3) 1⟩,
    ⟨some 17, some (15, true), ⟨[], []⟩, .ld false none 0 0 (.t 16)⟩,
    ⟨some 18, some (15, true), ⟨[], []⟩, .bin 0 .geq (.t 17) (.k (.int .i64 0))⟩,
    ⟨some 19, none, ⟨[], []⟩, .pick (.t 15) (.t 18) (.k (.bool false))⟩,
    ⟨some 20, none, ⟨[], []⟩, .mov (.t 19)⟩,
    ⟨some 21, some (20, true), ⟨[], []⟩, .fld (.t 3) 2⟩,
    ⟨some 22, some (20, true), ⟨[], []⟩, .ld false none 0 0 (.t 21)⟩,
    ⟨some 23, some (20, true), ⟨[], []⟩, .bin 0 .geq (.t 22) (.k (.int .i64 0))⟩,
    ⟨some 24, none, ⟨[], []⟩, .pick (.t 20) (.t 23) (.k (.bool false))⟩,
    ⟨some 25, none, ⟨[], []⟩, .mov (.t 24)⟩,
    ⟨some 26, some (25, true), ⟨[], []⟩, .fld (.t 3) 3⟩,
    ⟨some 27, some (25, true), ⟨[], []⟩, .ld false none 0 0 (.t 26)⟩,
    ⟨some 28, some (25, true), ⟨[], []⟩, .bin 0 .geq (.t 27) (.k (.int .i64 1))⟩,
    ⟨some 29, none, ⟨[], []⟩, .pick (.t 25) (.t 28) (.k (.bool false))⟩,
    ⟨some 30, none, ⟨[], []⟩, .mov (.t 29)⟩,
    ⟨some 31, some (30, true), ⟨[], []⟩, .fld (.t 3) 4⟩,
    ⟨some 32, some (30, true), ⟨[], []⟩, .ld false none 0 0 (.t 31)⟩,
    ⟨some 33, some (30, true), ⟨[], []⟩, .bin 0 .geq (.t 32) (.k (.int .i64 1))⟩,
    ⟨some 34, none, ⟨[], []⟩, .pick (.t 30) (.t 33) (.k (.bool false))⟩,
    ⟨some 35, none, ⟨[], []⟩, .mov (.t 34)⟩,
    ⟨some 36, some (35, true), ⟨[], []⟩, .fld (.t 3) 3⟩,
    ⟨some 37, some (35, true), ⟨[], []⟩, .ld false none 0 0 (.t 36)⟩,
    ⟨some 38, some (35, true), ⟨[], []⟩, .mov (.t 1)⟩,
    ⟨some 39, some (35, true), ⟨[], []⟩, .bin 0 .leq (.t 37) (.t 38)⟩,
    ⟨some 40, none, ⟨[], []⟩, .pick (.t 35) (.t 39) (.k (.bool false))⟩,
    ⟨some 41, none, ⟨[], []⟩, .mov (.t 40)⟩,
    ⟨some 42, some (41, true), ⟨[], []⟩, .fld (.t 3) 4⟩,
    ⟨some 43, some (41, true), ⟨[], []⟩, .ld false none 0 0 (.t 42)⟩,
    ⟨some 44, some (41, true), ⟨[], []⟩, .mov (.t 2)⟩,
    ⟨some 45, some (41, true), ⟨[], []⟩, .bin 0 .leq (.t 43) (.t 44)⟩,
    ⟨some 46, none, ⟨[], []⟩, .pick (.t 41) (.t 45) (.k (.bool false))⟩,
    ⟨some 47, none, ⟨[], []⟩, .mov (.t 46)⟩,
    ⟨some 48, some (47, true), ⟨[], []⟩, .fld (.t 3) 1⟩,
    ⟨some 49, some (47, true), ⟨[], []⟩, .ld false none 0 0 (.t 48)⟩,
    ⟨some 50, some (47, true), ⟨[], []⟩, .mov (.t 1)⟩,
    ⟨some 51, some (47, true), ⟨[], []⟩, .fld (.t 3) 3⟩,
    ⟨some 52, some (47, true), ⟨[], []⟩, .ld false none 0 0 (.t 51)⟩,
    ⟨some 53, some (47, true), ⟨[], []⟩, .bin 0 .sub (.t 50) (.t 52)⟩,
    ⟨some 54, some (47, true), ⟨[], []⟩, .bin 0 .leq (.t 49) (.t 53)⟩,
    ⟨some 55, none, ⟨[], []⟩, .pick (.t 47) (.t 54) (.k (.bool false))⟩,
    ⟨some 56, none, ⟨[], []⟩, .mov (.t 55)⟩,
    ⟨some 57, some (56, true), ⟨[], []⟩, .fld (.t 3) 2⟩,
    ⟨some 58, some (56, true), ⟨[], []⟩, .ld false none 0 0 (.t 57)⟩,
    ⟨some 59, some (56, true), ⟨[], []⟩, .mov (.t 2)⟩,
    ⟨some 60, some (56, true), ⟨[], []⟩, .fld (.t 3) 4⟩,
    ⟨some 61, some (56, true), ⟨[], []⟩, .ld false none 0 0 (.t 60)⟩,
    ⟨some 62, some (56, true), ⟨[], []⟩, .bin 0 .sub (.t 59) (.t 61)⟩,
    ⟨some 63, some (56, true), ⟨[], []⟩, .bin 0 .leq (.t 58) (.t 62)⟩,
    ⟨some 64, none, ⟨[], []⟩, .pick (.t 56) (.t 63) (.k (.bool false))⟩,
    ⟨some 6, none, ⟨[], []⟩, .mov (.t 64)⟩] [1, 2, 3, 7, 8, 9, 10, 11, 12, 13, 14, 15, 16, 17, 18, 19, 20, 21, 22, 23, 24, 25, 26, 27, 28, 29, 30, 31, 32, 33, 34, 35, 36, 37, 38, 39, 40, 41, 42, 43, 44, 45, 46, 47, 48, 49, 50, 51, 52, 53, 54, 55, 56, 57, 58, 59, 60, 61, 62, 63, 64] []) (.ret))
set_option maxRecDepth 4000 in
theorem comp33 : (Try.f33.body.bind fun c => compC tab isP chkAll ir33 c) = some ir33 := by kernel_rfl
/-- A part that lies within a plane of W by H. -/
def Pt.In (x : Pt) (W H : Int) : Prop := 0 ≤ x.kind ∧ x.kind ≤ 2 ∧ 0 ≤ x.x ∧ 0 ≤ x.y ∧ 1 ≤ x.w ∧ 1 ≤ x.h ∧ x.w ≤ W ∧ x.h ≤ H ∧ x.x ≤ W - x.w ∧ x.y ≤ H - x.h
instance (x : Pt) (W H : Int) : Decidable (x.In W H) := by unfold Pt.In; infer_instance
def ptV (x : Pt) : SV := .agg [.int .i64 x.kind, .int .i64 x.x, .int .i64 x.y, .int .i64 x.w, .int .i64 x.h]
structure IpA where
  x : Pt
  w : Int
  h : Int
def fs33 : FS where
  A := IpA
  args := fun a => [ptV a.x, .int .i64 a.w, .int .i64 a.h]
  mem := fun _ => []
  pre := fun a => 0 ≤ a.w ∧ a.w ≤ 200 ∧ 0 ≤ a.h ∧ a.h ≤ 200
  res := fun a _ => .bool (decide (a.x.In a.w a.h))
  out := fun _ _ => []
  new := fun _ _ => []
def inv33 : List SV → Look → Option (IpA × List Nat)
  | [.agg [.int .i64 k, .int .i64 x, .int .i64 y, .int .i64 w, .int .i64 h], .int .i64 W, .int .i64 H], look => some (⟨⟨k, x, y, w, h⟩, W, H⟩, [])
  | _, _ => none
attribute [push_cast] inv33
theorem ok33 : FSOk Try.prog 33 fs33 := by
  refine ⟨⟨_, Try.func33, by kernel_rfl, by kernel_rfl⟩, fun a => ⟨by simp [fs33, push_cast, noMine, argOwn, Chunk.frArg], by simp [fs33, push_cast, outOk, Chunk.ext], fun x => .inl (by simp [fs33, push_cast, frNew, frOut, Chunk.fr])⟩, fun a hp => ?_⟩
  obtain ⟨⟨k, x, y, w, h⟩, W, H⟩ := a
  obtain ⟨h1, h2, h3, h4⟩ : 0 ≤ W ∧ W ≤ 200 ∧ 0 ≤ H ∧ H ≤ 200 := hp
  change Tri Try.prog 33 [.agg [.int .i64 k, .int .i64 x, .int .i64 y, .int .i64 w, .int .i64 h], .int .i64 W, .int .i64 H] [] (postF fs33 ⟨⟨k, x, y, w, h⟩, W, H⟩)
  refine tri_evS (hyp (l := []) (lp := []) trivial trivial) Try.func33 comp33 (rs := [.tmp 6]) (by rfl) Try.ntmps33 11 ?_
  simp -implicitDefEqProofs only [push_cast, false_implies, reduceCtorEq, Classical.not_not, Nat.reduceAdd, Nat.reduceSub, Nat.reduceMul, Nat.reduceLeDiff, Nat.reduceLT, Nat.reduceEqDiff, Nat.reduceBEq, Nat.reduceBNe, Int.reduceNeg, Int.reduceToNat, Bool.or_false, Bool.false_or, Bool.or_true, Bool.true_or, BEq.rfl, Bool.not_eq_true, Bool.not_eq_false, decide_eq_true_eq, not_true_eq_false, not_false_eq_true, ite_true, ite_false, List.append_nil, and_assoc, Nat.mul_zero, Nat.zero_mul, ir33]
  refine fun X => ?_
  repeat (refine And.intro (by first | omega | trivial | (intros; omega)) ?_)
  refine postF.mk' (fun _ => default) [] ?_
  simp -implicitDefEqProofs only [push_cast, false_implies, reduceCtorEq, Classical.not_not, Nat.reduceAdd, Nat.reduceSub, Nat.reduceMul, Nat.reduceLeDiff, Nat.reduceLT, Nat.reduceEqDiff, Nat.reduceBEq, Nat.reduceBNe, Int.reduceNeg, Int.reduceToNat, Bool.or_false, Bool.false_or, Bool.or_true, Bool.true_or, BEq.rfl, Bool.not_eq_true, Bool.not_eq_false, decide_eq_true_eq, not_true_eq_false, not_false_eq_true, ite_true, ite_false, List.append_nil, and_assoc, Nat.mul_zero, Nat.zero_mul, fs33, Pt.In]
def ent33 : Entry := spOf fs33 inv33
theorem e33 : EntryOk Try.prog 33 ent33 := entry_of ok33 inv33
@[push_cast] theorem ent33_app (us : List SV) (look : Look) (x : Nat → Xf.Loc) (k : Nat) : ent33 us look x k = spOf fs33 inv33 us look x k := rfl
/-- The energy of a part. -/
def paN (p : Pl) (e : En) (x : Pt) : Int := if p.Gr ∧ e.Ok ∧ x.In p.w p.h then (rpOf p.pn x.rt).en e x.kind.toNat else 0
structure PeA where
  a : PlA
  e : En
  x : Pt
/-- A plane that is a part of another, from (dx, dy) on. -/
def Pn.sub (q p : Pn) (dx dy : Nat) : Prop := dx + q.W ≤ p.W ∧ dy + q.H ≤ p.H ∧ ∀ i j, i < q.H → j < q.W → rd q.xs ((i * q.W + j : Nat) : Int) = rd p.xs (((dy + i) * p.W + (dx + j) : Nat) : Int)
def ir36 : IR :=
  .seq (.reg false [⟨some 5, none, ⟨[], []⟩, .box 10 (.t 2)⟩,
    ⟨some 6, none, ⟨[], []⟩, .mov (.k (.bool false))⟩] [2, 6] []) (.seq (.seq (.reg false [⟨some 7, none, ⟨[], []⟩, .fld (.t 5) 0⟩,
    ⟨some 8, none, ⟨[], []⟩, .ld false none 0 0 (.t 7)⟩,
    ⟨some 9, none, ⟨[], []⟩, .bin 0 .lss (.t 8) (.k (.int .i64 0))⟩,
    ⟨some 10, none, ⟨[], []⟩, .mov (.t 9)⟩,
    ⟨some 11, some (10, false), ⟨[], []⟩, .fld (.t 5) 0⟩,
    ⟨some 12, some (10, false), ⟨[], []⟩, .ld false none 0 0 (.t 11)⟩,
    ⟨some 13, some (10, false), ⟨[], []⟩, .bin 0 .gtr (.t 12) (.k (.int .i64 2))⟩,
    ⟨some 14, none, ⟨[], []⟩, .pick (.t 10) (.k (.bool true)) (.t 13)⟩,
    ⟨some 15, none, ⟨[], []⟩, .mov (.t 14)⟩,
    ⟨some 16, some (15, false), ⟨[], []⟩, .fld (.t 5) 3⟩,
    ⟨some 17, some (15, false), ⟨[], []⟩, .ld false none 0 0 (.t 16)⟩,
    ⟨some 18, some (15, false), ⟨[], []⟩, .bin 0 .lss (.t 17) (.k (.int .i64 1))⟩,
    ⟨some 19, none, ⟨[], []⟩, .pick (.t 15) (.k (.bool true)) (.t 18)⟩,
    ⟨some 20, none, ⟨[], []⟩, .mov (.t 19)⟩,
    ⟨some 21, some (20, false), ⟨[], []⟩, .fld (.t 5) 4⟩,
    ⟨some 22, some (20, false), ⟨[], []⟩, .ld false none 0 0 (.t 21)⟩,
    ⟨some 23, some (20, false), ⟨[], []⟩, .bin 0 .lss (.t 22) (.k (.int .i64 1))⟩,
    ⟨some 24, none, ⟨[], []⟩, .pick (.t 20) (.k (.bool true)) (.t 23)⟩,
    ⟨some 25, none, ⟨[], []⟩, .mov (.t 24)⟩,
    ⟨some 26, some (25, false), ⟨[], []⟩, .fld (.t 5) 1⟩,
    ⟨some 27, some (25, false), ⟨[], []⟩, .ld false none 0 0 (.t 26)⟩,
    ⟨some 28, some (25, false), ⟨[], []⟩, .bin 0 .lss (.t 27) (.k (.int .i64 0))⟩,
    ⟨some 29, none, ⟨[], []⟩, .pick (.t 25) (.k (.bool true)) (.t 28)⟩,
    ⟨some 30, none, ⟨[], []⟩, .mov (.t 29)⟩,
    ⟨some 31, some (30, false), ⟨[], []⟩, .fld (.t 5) 2⟩,
    ⟨some 32, some (30, false), ⟨[], []⟩, .ld false none 0 0 (.t 31)⟩,
    ⟨some 33, some (30, false), ⟨[], []⟩, .bin 0 .lss (.t 32) (.k (.int .i64 0))⟩,
    ⟨some 34, none, ⟨[], []⟩, .pick (.t 30) (.k (.bool true)) (.t 33)⟩] [7, 8, 9, 10, 11, 12, 13, 14, 15, 16, 17, 18, 19, 20, 21, 22, 23, 24, 25, 26, 27, 28, 29, 30, 31, 32, 33] []) (.cond (.t 34) (.seq (.reg false [⟨some 6, none, ⟨[], []⟩, .mov (.k (.bool false))⟩] [0, 1, 5, 34] []) (.ret)) (.skip))) (.seq (.reg false [⟨some 35, none, ⟨[], []⟩, .fld (.t 5) 3⟩,
    ⟨some 36, none, ⟨[], []⟩, .ld false none 0 0 (.t 35)⟩,
    ⟨some 37, none, ⟨[], []⟩, .mov (.t 0)⟩,
    ⟨some 38, none, ⟨[], []⟩, .bin 0 .leq (.t 36) (.t 37)⟩,
    ⟨some 39, none, ⟨[], []⟩, .mov (.t 38)⟩,
    ⟨some 40, some (39, true), ⟨[], []⟩, .fld (.t 5) 4⟩,
    ⟨some 41, some (39, true), ⟨[], []⟩, .ld false none 0 0 (.t 40)⟩,
    ⟨some 42, some (39, true), ⟨[], []⟩, .mov (.t 1)⟩,
    ⟨some 43, some (39, true), ⟨[], []⟩, .bin 0 .leq (.t 41) (.t 42)⟩,
    ⟨some 44, none, ⟨[], []⟩, .pick (.t 39) (.t 43) (.k (.bool false))⟩,
    ⟨some 45, none, ⟨[], []⟩, .mov (.t 44)⟩,
    ⟨some 46, some (45, true), ⟨[], []⟩, .fld (.t 5) 1⟩,
    ⟨some 47, some (45, true), ⟨[], []⟩, .ld false none 0 0 (.t 46)⟩,
    ⟨some 48, some (45, true), ⟨[], []⟩, .mov (.t 0)⟩,
    ⟨some 49, some (45, true), ⟨[], []⟩, .fld (.t 5) 3⟩,
    ⟨some 50, some (45, true), ⟨[], []⟩, .ld false none 0 0 (.t 49)⟩,
    ⟨some 51, some (45, true), ⟨[], []⟩, .bin 0 .sub (.t 48) (.t 50)⟩,
    ⟨some 52, some (45, true), ⟨[], []⟩, .bin 0 .leq (.t 47) (.t 51)⟩,
    ⟨some 53, none, ⟨[], []⟩, .pick (.t 45) (.t 52) (.k (.bool false))⟩,
    ⟨some 54, none, ⟨[], []⟩, .mov (.t 53)⟩,
    ⟨some 55, some (54, true), ⟨[], []⟩, .fld (.t 5) 2⟩,
    ⟨some 56, some (54, true), ⟨[], []⟩, .ld false none 0 0 (.t 55)⟩,
    ⟨some 57, some (54, true), ⟨[], []⟩, .mov (.t 1)⟩,
    ⟨some 58, some (54, true), ⟨[], []⟩, .fld (.t 5) 4⟩,
    ⟨some 59, some (54, true), ⟨[], []⟩, .ld false none 0 0 (.t 58)⟩,
    ⟨some 60, some (54, true), ⟨[], []⟩, .bin 0 .sub (.t 57) (.t 59)⟩,
    ⟨some 61, some (54, true), ⟨[], []⟩, .bin 0 .leq (.t 56) (.t 60)⟩,
    ⟨some 62, none, ⟨[], []⟩, .pick (.t 54) (.t 61) (.k (.bool false))⟩,
    ⟨some 6, none, ⟨[], []⟩, .mov (.t 62)⟩] [0, 1, 5, 34, 35, 36, 37, 38, 39, 40, 41, 42, 43, 44, 45, 46, 47, 48, 49, 50, 51, 52, 53, 54, 55, 56, 57, 58, 59, 60, 61, 62] []) (.ret)))
set_option maxRecDepth 4000 in
theorem comp36 : (Try.f36.body.bind fun c => compC tab isP chkAll ir36 c) = some ir36 := by kernel_rfl
def b47_2 : IR :=
  .seq (.seq (.reg false [⟨some 23, none, ⟨[], []⟩, .mov (.t 9)⟩,
    ⟨some 24, none, ⟨[], []⟩, .fld (.t 3) 1⟩,
    ⟨some 25, none, ⟨[], []⟩, .ld false none 0 0 (.t 24)⟩,
    ⟨some 26, none, ⟨[], []⟩, .fld (.t 3) 3⟩,
    ⟨some 27, none, ⟨[], []⟩, .ld false none 0 0 (.t 26)⟩,
    ⟨some 28, none, ⟨[], []⟩, .bin 0 .add (.t 25) (.t 27)⟩,
    ⟨some 29, none, ⟨[], []⟩, .bin 0 .lss (.t 23) (.t 28)⟩] [23, 24, 25, 26, 27, 28] []) (.cond (.t 29) (.skip) (.exit 2))) (.seq (.block 3 (.reg true [⟨some 32, none, ⟨[], []⟩, .mov (.t 6)⟩,
    ⟨some 33, none, ⟨[], []⟩, .fld (.t 2) 2⟩,
    ⟨some 34, none, ⟨[], []⟩, .ld false none 0 0 (.t 33)⟩,
    ⟨some 35, none, ⟨[], []⟩, .mov (.t 8)⟩,
    ⟨some 36, none, ⟨[], []⟩, .fld (.t 2) 0⟩,
    ⟨some 37, none, ⟨[], []⟩, .ld false none 0 0 (.t 36)⟩,
    ⟨some 38, none, ⟨[], []⟩, .bin 0 .mul (.t 35) (.t 37)⟩,
    ⟨some 39, none, ⟨[], []⟩, .mov (.t 9)⟩,
    ⟨some 40, none, ⟨[], []⟩, .bin 0 .add (.t 38) (.t 39)⟩,
    ⟨some 41, none, ⟨[], []⟩, .idxS (.t 34) (.t 40) 1⟩,
    ⟨some 42, none, ⟨[], []⟩, .ld true none 0 0 (.t 41)⟩,
    ⟨some 43, none, ⟨[], []⟩, .mn (.t 32) (.t 42)⟩,
    ⟨some 44, none, ⟨[], []⟩, .mov (.t 7)⟩,
    ⟨some 45, none, ⟨[], []⟩, .fld (.t 2) 2⟩,
    ⟨some 46, none, ⟨[], []⟩, .ld false none 0 0 (.t 45)⟩,
    ⟨some 47, none, ⟨[], []⟩, .mov (.t 8)⟩,
    ⟨some 48, none, ⟨[], []⟩, .fld (.t 2) 0⟩,
    ⟨some 49, none, ⟨[], []⟩, .ld false none 0 0 (.t 48)⟩,
    ⟨some 50, none, ⟨[], []⟩, .bin 0 .mul (.t 47) (.t 49)⟩,
    ⟨some 51, none, ⟨[], []⟩, .mov (.t 9)⟩,
    ⟨some 52, none, ⟨[], []⟩, .bin 0 .add (.t 50) (.t 51)⟩,
    ⟨some 53, none, ⟨[], []⟩, .idxS (.t 46) (.t 52) 1⟩,
    ⟨some 54, none, ⟨[], []⟩, .ld true none 0 0 (.t 53)⟩,
    ⟨some 55, none, ⟨[], []⟩, .mx (.t 44) (.t 54)⟩,
    ⟨some 6, none, ⟨[], []⟩, .mov (.t 43)⟩,
    ⟨some 7, none, ⟨[], []⟩, .mov (.t 55)⟩] [29, 32, 33, 34, 35, 36, 37, 38, 39, 40, 41, 42, 43, 44, 45, 46, 47, 48, 49, 50, 51, 52, 53, 54, 55] [])) (.reg false [⟨some 30, none, ⟨[], []⟩, .mov (.t 9)⟩,
    ⟨some 31, none, ⟨[], []⟩, .bin 0 .add (.t 30) (.k (.int .i64 1))⟩,
    ⟨some 9, none, ⟨[], []⟩, .mov (.t 31)⟩] [30, 31] []))
def r47_3 : IR :=
  .reg false [⟨some 19, none, ⟨[], []⟩, .mov (.t 8)⟩,
    ⟨some 20, none, ⟨[], []⟩, .bin 0 .add (.t 19) (.k (.int .i64 1))⟩,
    ⟨some 8, none, ⟨[], []⟩, .mov (.t 20)⟩] [9, 19, 20] []
def b47_1 : IR :=
  .seq (.seq (.reg false [⟨some 12, none, ⟨[], []⟩, .mov (.t 8)⟩,
    ⟨some 13, none, ⟨[], []⟩, .fld (.t 3) 2⟩,
    ⟨some 14, none, ⟨[], []⟩, .ld false none 0 0 (.t 13)⟩,
    ⟨some 15, none, ⟨[], []⟩, .fld (.t 3) 4⟩,
    ⟨some 16, none, ⟨[], []⟩, .ld false none 0 0 (.t 15)⟩,
    ⟨some 17, none, ⟨[], []⟩, .bin 0 .add (.t 14) (.t 16)⟩,
    ⟨some 18, none, ⟨[], []⟩, .bin 0 .lss (.t 12) (.t 17)⟩] [12, 13, 14, 15, 16, 17] []) (.cond (.t 18) (.skip) (.exit 0))) (.seq (.block 1 (.seq (.reg false [⟨some 21, none, ⟨[], []⟩, .fld (.t 3) 1⟩,
    ⟨some 22, none, ⟨[], []⟩, .ld false none 0 0 (.t 21)⟩,
    ⟨some 9, none, ⟨[], []⟩, .mov (.t 22)⟩] [18, 21, 22] []) (.block 2 (.loop b47_2)))) (r47_3))
def r47_4 : IR :=
  .seq (.reg false [⟨some 56, none, ⟨[], []⟩, .mov (.t 6)⟩,
    ⟨some 57, none, ⟨[], []⟩, .mov (.t 7)⟩,
    ⟨some 4, none, ⟨[], []⟩, .mov (.t 56)⟩,
    ⟨some 5, none, ⟨[], []⟩, .mov (.t 57)⟩] [2, 3, 6, 7, 8, 56, 57] []) (.ret)
def ir47 : IR :=
  .seq (.reg false [⟨some 2, none, ⟨[], []⟩, .box 10 (.t 0)⟩,
    ⟨some 3, none, ⟨[], []⟩, .box 11 (.t 1)⟩,
    ⟨some 4, none, ⟨[], []⟩, .mov (.k (.int .i64 0))⟩,
    ⟨some 5, none, ⟨[], []⟩, .mov (.k (.int .i64 0))⟩] [0, 1, 4, 5] []) (.seq (.reg false [⟨some 6, none, ⟨[], []⟩, .mov (.k (.int .i64 255))⟩,
    ⟨some 7, none, ⟨[], []⟩, .mov (.k (.int .i64 0))⟩] [] []) (.seq (.seq (.reg false [⟨some 10, none, ⟨[], []⟩, .fld (.t 3) 2⟩,
    ⟨some 11, none, ⟨[], []⟩, .ld false none 0 0 (.t 10)⟩,
    ⟨some 8, none, ⟨[], []⟩, .mov (.t 11)⟩] [10, 11] []) (.block 0 (.loop b47_1))) (r47_4)))
def kp47_2 : List Nat := [2, 3, 6, 7, 8, 9]
def kl47_2 : List Nat := []
attribute [push_cast] kp47_2 kl47_2
def kp47_1 : List Nat := [2, 3, 6, 7, 8]
def kl47_1 : List Nat := []
attribute [push_cast] kp47_1 kl47_1
set_option maxRecDepth 4000 in
theorem comp47 : (Try.f47.body.bind fun c => compC tab isP chkAll ir47 c) = some ir47 := by kernel_rfl
def fs36 : FS where
  A := IpA
  args := fun a => [.int .i64 a.w, .int .i64 a.h, ptV a.x]
  mem := fun _ => []
  pre := fun a => 0 ≤ a.w ∧ a.w ≤ 200 ∧ 0 ≤ a.h ∧ a.h ≤ 200
  res := fun a _ => .bool (decide (a.x.In a.w a.h))
  out := fun _ _ => []
  new := fun _ _ => []
def inv36 : List SV → Look → Option (IpA × List Nat)
  | [.int .i64 W, .int .i64 H, .agg [.int .i64 k, .int .i64 x, .int .i64 y, .int .i64 w, .int .i64 h]], look => some (⟨⟨k, x, y, w, h⟩, W, H⟩, [])
  | _, _ => none
attribute [push_cast] inv36
theorem ok36 : FSOk Try.prog 36 fs36 := by
  refine ⟨⟨_, Try.func36, by kernel_rfl, by kernel_rfl⟩, fun a => ⟨by simp [fs36, push_cast, noMine, argOwn, Chunk.frArg], by simp [fs36, push_cast, outOk, Chunk.ext], fun x => .inl (by simp [fs36, push_cast, frNew, frOut, Chunk.fr])⟩, fun a hp => ?_⟩
  obtain ⟨⟨k, x, y, w, h⟩, W, H⟩ := a
  obtain ⟨h1, h2, h3, h4⟩ : 0 ≤ W ∧ W ≤ 200 ∧ 0 ≤ H ∧ H ≤ 200 := hp
  change Tri Try.prog 36 [.int .i64 W, .int .i64 H, .agg [.int .i64 k, .int .i64 x, .int .i64 y, .int .i64 w, .int .i64 h]] [] (postF fs36 ⟨⟨k, x, y, w, h⟩, W, H⟩)
  refine tri_evS (hyp (l := []) (lp := []) trivial trivial) Try.func36 comp36 (rs := [.tmp 6]) (by rfl) Try.ntmps36 11 ?_
  simp -implicitDefEqProofs only [push_cast, false_implies, reduceCtorEq, Classical.not_not, Nat.reduceAdd, Nat.reduceSub, Nat.reduceMul, Nat.reduceLeDiff, Nat.reduceLT, Nat.reduceEqDiff, Nat.reduceBEq, Nat.reduceBNe, Int.reduceNeg, Int.reduceToNat, Bool.or_false, Bool.false_or, Bool.or_true, Bool.true_or, BEq.rfl, Bool.not_eq_true, Bool.not_eq_false, decide_eq_true_eq, not_true_eq_false, not_false_eq_true, ite_true, ite_false, List.append_nil, and_assoc, Nat.mul_zero, Nat.zero_mul, ir36]
  intro X
  refine ⟨fun hn => ?_, fun hy => ?_⟩
  · have e : ¬ (⟨k, x, y, w, h⟩ : Pt).In W H := fun H' => by unfold Pt.In at H'; simp only at H'; omega
    refine postF.mk' (fun _ => default) [] ?_
    simp -implicitDefEqProofs only [push_cast, false_implies, reduceCtorEq, Classical.not_not, Nat.reduceAdd, Nat.reduceSub, Nat.reduceMul, Nat.reduceLeDiff, Nat.reduceLT, Nat.reduceEqDiff, Nat.reduceBEq, Nat.reduceBNe, Int.reduceNeg, Int.reduceToNat, Bool.or_false, Bool.false_or, Bool.or_true, Bool.true_or, BEq.rfl, Bool.not_eq_true, Bool.not_eq_false, decide_eq_true_eq, not_true_eq_false, not_false_eq_true, ite_true, ite_false, List.append_nil, and_assoc, Nat.mul_zero, Nat.zero_mul, fs36, e]
  · repeat (refine And.intro (by first | omega | trivial | (intros; omega)) ?_)
    refine postF.mk' (fun _ => default) [] ?_
    have e : (⟨k, x, y, w, h⟩ : Pt).In W H ↔ (w ≤ W ∧ h ≤ H ∧ x ≤ W - w ∧ y ≤ H - h) := by unfold Pt.In; simp only; omega
    simp -implicitDefEqProofs only [push_cast, false_implies, reduceCtorEq, Classical.not_not, Nat.reduceAdd, Nat.reduceSub, Nat.reduceMul, Nat.reduceLeDiff, Nat.reduceLT, Nat.reduceEqDiff, Nat.reduceBEq, Nat.reduceBNe, Int.reduceNeg, Int.reduceToNat, Bool.or_false, Bool.false_or, Bool.or_true, Bool.true_or, BEq.rfl, Bool.not_eq_true, Bool.not_eq_false, decide_eq_true_eq, not_true_eq_false, not_false_eq_true, ite_true, ite_false, List.append_nil, and_assoc, Nat.mul_zero, Nat.zero_mul, fs36, e]
def ent36 : Entry := spOf fs36 inv36
theorem e36 : EntryOk Try.prog 36 ent36 := entry_of ok36 inv36
@[push_cast] theorem ent36_app (us : List SV) (look : Look) (x : Nat → Xf.Loc) (k : Nat) : ent36 us look x k = spOf fs36 inv36 us look x k := rfl
/-- Ends, as the specification begins. -/
structure RkA where
  a : RpA
  k : Int
theorem val_at {x y w h W H : Nat} {xs : List Int} {i j : Nat} (hj : j < w) : (⟨x, y, w, h, W, H, xs⟩ : Rp).val (i * w + j) = rd xs (((y + i) * W + (x + j) : Nat) : Int) := by
  show rd xs ((atN x y w W (i * w + j) : Nat) : Int) = _
  unfold atN
  rw [(dm_at hj).1, (dm_at hj).2, Nat.add_assoc]
def fs47 : FS where
  A := RkA
  args := fun a => [plV ⟨a.a.r.W, a.a.r.H, a.a.r.xs⟩ a.a.L 0, .agg [.int .i64 a.k, .int .i64 a.a.r.x, .int .i64 a.a.r.y, .int .i64 a.a.r.w, .int .i64 a.a.r.h]]
  mem := fun a => [some (.ro, a.a.L, .ints .i64 a.a.r.xs)]
  pre := fun a => a.a.r.Ok ∧ a.a.r.grey ∧ 0 < a.a.r.n
  res := fun a x => .tup [.int .i64 a.a.r.lo, .int .i64 a.a.r.hi]
  out := fun _ _ => []
  new := fun _ _ => []
def inv47 : List SV → Look → Option (RkA × List Nat)
  | [p, .agg [.int .i64 k, .int .i64 x, .int .i64 y, .int .i64 w, .int .i64 h]], look => match getR look (.agg [.int .i64 x, .int .i64 y, .int .i64 w, .int .i64 h]) p with
    | some (a, g) => some (⟨a, k⟩, g)
    | _ => none
  | _, _ => none
attribute [push_cast] inv47
theorem ok47 : FSOk Try.prog 47 fs47 := by
  refine ⟨⟨_, Try.func47, by kernel_rfl, by kernel_rfl⟩, fun a => ⟨by simp [fs47, push_cast, noMine, argOwn, Chunk.frArg], by simp [fs47, push_cast, outOk, Chunk.ext], fun x => .inl (by simp [fs47, push_cast, frNew, frOut, Chunk.fr])⟩, fun a hp => ?_⟩
  obtain ⟨⟨r, L⟩, kd⟩ := a
  obtain ⟨hp, hG, h0⟩ : r.Ok ∧ r.grey ∧ 0 < r.n := hp
  have e1 : r.lo = minN 255 r.val r.n := minN_any (c := 255) (by omega) (by omega) h0 fun k hk => (hG k hk).2
  have e2 : r.hi = maxN 0 r.val r.n := maxN_any (c := 0) (by omega) (by omega) h0 fun k hk => (hG k hk).1
  have e3 := rp_len hp
  obtain ⟨x, y, w, h, W, H, xs⟩ := r
  have hat := fun {i j : Nat} (hj : j < w) => val_at (x := x) (y := y) (h := h) (W := W) (H := H) (xs := xs) (i := i) hj
  obtain ⟨v, hv⟩ : ∃ v, (⟨x, y, w, h, W, H, xs⟩ : Rp).val = v := ⟨_, rfl⟩
  obtain ⟨o1, o2, o3, o4, o5⟩ := hp
  simp only at o1 o2 o3 o4 o5 e3
  rw [hv] at e1 e2 hat
  change _ = minN 255 v (w * h) at e1
  change _ = maxN 0 v (w * h) at e2
  change Tri Try.prog 47 [plV ⟨W, H, xs⟩ L 0, .agg [.int .i64 kd, .int .i64 x, .int .i64 y, .int .i64 w, .int .i64 h]] [some (.ro, L, .ints .i64 xs)] (postF fs47 ⟨⟨⟨x, y, w, h, W, H, xs⟩, L⟩, kd⟩)
  refine tri_evS (hyp (l := []) (lp := []) trivial trivial) Try.func47 comp47 (rs := [.tmp 4, .tmp 5]) (by rfl) Try.ntmps47 12 ?_
  simp -implicitDefEqProofs only [push_cast, false_implies, reduceCtorEq, Classical.not_not, Nat.reduceAdd, Nat.reduceSub, Nat.reduceMul, Nat.reduceLeDiff, Nat.reduceLT, Nat.reduceEqDiff, Nat.reduceBEq, Nat.reduceBNe, Int.reduceNeg, Int.reduceToNat, Bool.or_false, Bool.false_or, Bool.or_true, Bool.true_or, BEq.rfl, Bool.not_eq_true, Bool.not_eq_false, decide_eq_true_eq, not_true_eq_false, not_false_eq_true, ite_true, ite_false, List.append_nil, and_assoc, Nat.mul_zero, Nat.zero_mul, ir47, plV]
  intro X
  refine evS_loopU (A := Nat) kp47_1 kl47_1 (fun i => [(6, .int .i64 (minN 255 v (i * w))), (7, .int .i64 (maxN 0 v (i * w))), (8, .int .i64 ((y + i : Nat) : Int))]) (fun _ => []) (fun i => i ≤ h) (fun i => h - i) 0 (Nat.zero_le _) (Sub.pt ?_) ?_
  · simp -implicitDefEqProofs only [push_cast, false_implies, reduceCtorEq, Classical.not_not, Nat.reduceAdd, Nat.reduceSub, Nat.reduceMul, Nat.reduceLeDiff, Nat.reduceLT, Nat.reduceEqDiff, Nat.reduceBEq, Nat.reduceBNe, Int.reduceNeg, Int.reduceToNat, Bool.or_false, Bool.false_or, Bool.or_true, Bool.true_or, BEq.rfl, Bool.not_eq_true, Bool.not_eq_false, decide_eq_true_eq, not_true_eq_false, not_false_eq_true, ite_true, ite_false, List.append_nil, and_assoc, Nat.mul_zero, Nat.zero_mul, Nat.zero_mul, minN, maxN]
  intro i (hi : i ≤ h) K hK
  by_cases hi' : i < h
  · simp -implicitDefEqProofs only [push_cast, false_implies, reduceCtorEq, Classical.not_not, Nat.reduceAdd, Nat.reduceSub, Nat.reduceMul, Nat.reduceLeDiff, Nat.reduceLT, Nat.reduceEqDiff, Nat.reduceBEq, Nat.reduceBNe, Int.reduceNeg, Int.reduceToNat, Bool.or_false, Bool.false_or, Bool.or_true, Bool.true_or, BEq.rfl, Bool.not_eq_true, Bool.not_eq_false, decide_eq_true_eq, not_true_eq_false, not_false_eq_true, ite_true, ite_false, List.append_nil, and_assoc, Nat.mul_zero, Nat.zero_mul, b47_1, r47_3]
    repeat (refine And.intro (by first | omega | trivial | (intros; omega)) ?_)
    refine ⟨fun _ => ?_, fun h => by omega⟩
    refine evS_loopU (A := Nat) kp47_2 kl47_2 (fun j => [(6, .int .i64 (minN 255 v (i * w + j))), (7, .int .i64 (maxN 0 v (i * w + j))), (9, .int .i64 ((x + j : Nat) : Int))]) (fun _ => []) (fun j => j ≤ w) (fun j => w - j) 0 (Nat.zero_le _) (Sub.pt ?_) ?_
    · simp -implicitDefEqProofs only [push_cast, false_implies, reduceCtorEq, Classical.not_not, Nat.reduceAdd, Nat.reduceSub, Nat.reduceMul, Nat.reduceLeDiff, Nat.reduceLT, Nat.reduceEqDiff, Nat.reduceBEq, Nat.reduceBNe, Int.reduceNeg, Int.reduceToNat, Bool.or_false, Bool.false_or, Bool.or_true, Bool.true_or, BEq.rfl, Bool.not_eq_true, Bool.not_eq_false, decide_eq_true_eq, not_true_eq_false, not_false_eq_true, ite_true, ite_false, List.append_nil, and_assoc, Nat.mul_zero, Nat.zero_mul, Nat.add_zero]
    intro j (hj : j ≤ w) K2 hK2
    by_cases hj' : j < w
    · have hlt : (y + i + 1) * W ≤ H * W := Nat.mul_le_mul_right W (by omega)
      rw [Nat.add_mul (y + i) 1] at hlt
      have hix : (y + i) * W + (x + j) < xs.length := by omega
      have hm := mul_bd (a := ((y + i : Nat) : Int)) (b := (W : Int)) (A := 200) (B := 200) (by omega) (by omega) (by omega) (by omega)
      have eidx : ((y : Int) + i) * W + (x + j) = (((y + i) * W + (x + j) : Nat) : Int) := by simp
      have hr := (hat (i := i) hj').symm
      push_cast at hm
      obtain ⟨ix, hixx⟩ : ∃ ix, (y + i) * W + (x + j) = ix := ⟨_, rfl⟩
      rw [hixx] at hix eidx hr
      obtain ⟨kk, hkk⟩ : ∃ kk, i * w + j = kk := ⟨_, rfl⟩
      have hkk1 : i * w + (j + 1) = kk + 1 := by omega
      rw [hkk] at hr
      have m1 : minN 255 v (kk + 1) = min (minN 255 v kk) (v kk) := rfl
      have m2 : maxN 0 v (kk + 1) = max (maxN 0 v kk) (v kk) := rfl
      simp only [hkk]
      simp -implicitDefEqProofs only [push_cast, false_implies, reduceCtorEq, Classical.not_not, Nat.reduceAdd, Nat.reduceSub, Nat.reduceMul, Nat.reduceLeDiff, Nat.reduceLT, Nat.reduceEqDiff, Nat.reduceBEq, Nat.reduceBNe, Int.reduceNeg, Int.reduceToNat, Bool.or_false, Bool.false_or, Bool.or_true, Bool.true_or, BEq.rfl, Bool.not_eq_true, Bool.not_eq_false, decide_eq_true_eq, not_true_eq_false, not_false_eq_true, ite_true, ite_false, List.append_nil, and_assoc, Nat.mul_zero, Nat.zero_mul, b47_2, eidx, hr]
      refine And.intro (by omega) (And.intro (by omega) ?_)
      refine ⟨fun _ => ?_, fun h => by omega⟩
      repeat (refine And.intro (by first | omega | trivial | (intros; omega)) ?_)
      refine hK2 (j + 1) (show j + 1 ≤ w from hj') (show w - (j + 1) < w - j by omega) _ _ (Sub.pt ?_)
      simp only [hkk1]
      simp -implicitDefEqProofs only [push_cast, false_implies, reduceCtorEq, Classical.not_not, Nat.reduceAdd, Nat.reduceSub, Nat.reduceMul, Nat.reduceLeDiff, Nat.reduceLT, Nat.reduceEqDiff, Nat.reduceBEq, Nat.reduceBNe, Int.reduceNeg, Int.reduceToNat, Bool.or_false, Bool.false_or, Bool.or_true, Bool.true_or, BEq.rfl, Bool.not_eq_true, Bool.not_eq_false, decide_eq_true_eq, not_true_eq_false, not_false_eq_true, ite_true, ite_false, List.append_nil, and_assoc, Nat.mul_zero, Nat.zero_mul, m1, m2, Int.add_assoc]
    · obtain rfl : j = w := by omega
      clear hK2
      simp -implicitDefEqProofs only [push_cast, false_implies, reduceCtorEq, Classical.not_not, Nat.reduceAdd, Nat.reduceSub, Nat.reduceMul, Nat.reduceLeDiff, Nat.reduceLT, Nat.reduceEqDiff, Nat.reduceBEq, Nat.reduceBNe, Int.reduceNeg, Int.reduceToNat, Bool.or_false, Bool.false_or, Bool.or_true, Bool.true_or, BEq.rfl, Bool.not_eq_true, Bool.not_eq_false, decide_eq_true_eq, not_true_eq_false, not_false_eq_true, ite_true, ite_false, List.append_nil, and_assoc, Nat.mul_zero, Nat.zero_mul, b47_2, Int.lt_irrefl, true_implies, true_and]
      repeat (refine And.intro (by first | omega | trivial | (intros; omega)) ?_)
      refine hK (i + 1) (show i + 1 ≤ h from hi') (show h - (i + 1) < h - i by omega) _ _ (Sub.pt ?_)
      simp -implicitDefEqProofs only [push_cast, false_implies, reduceCtorEq, Classical.not_not, Nat.reduceAdd, Nat.reduceSub, Nat.reduceMul, Nat.reduceLeDiff, Nat.reduceLT, Nat.reduceEqDiff, Nat.reduceBEq, Nat.reduceBNe, Int.reduceNeg, Int.reduceToNat, Bool.or_false, Bool.false_or, Bool.or_true, Bool.true_or, BEq.rfl, Bool.not_eq_true, Bool.not_eq_false, decide_eq_true_eq, not_true_eq_false, not_false_eq_true, ite_true, ite_false, List.append_nil, and_assoc, Nat.mul_zero, Nat.zero_mul, Nat.add_mul, Nat.one_mul, Int.add_assoc]
  · obtain rfl : i = h := by omega
    clear hK
    have ec : i * w = w * i := Nat.mul_comm _ _
    simp -implicitDefEqProofs only [push_cast, false_implies, reduceCtorEq, Classical.not_not, Nat.reduceAdd, Nat.reduceSub, Nat.reduceMul, Nat.reduceLeDiff, Nat.reduceLT, Nat.reduceEqDiff, Nat.reduceBEq, Nat.reduceBNe, Int.reduceNeg, Int.reduceToNat, Bool.or_false, Bool.false_or, Bool.or_true, Bool.true_or, BEq.rfl, Bool.not_eq_true, Bool.not_eq_false, decide_eq_true_eq, not_true_eq_false, not_false_eq_true, ite_true, ite_false, List.append_nil, and_assoc, Nat.mul_zero, Nat.zero_mul, b47_1, r47_4, Int.lt_irrefl, true_implies, true_and]
    repeat (refine And.intro (by first | omega | trivial | (intros; omega)) ?_)
    refine postF.mk' (fun _ => default) [some 0] ?_
    simp -implicitDefEqProofs only [push_cast, false_implies, reduceCtorEq, Classical.not_not, Nat.reduceAdd, Nat.reduceSub, Nat.reduceMul, Nat.reduceLeDiff, Nat.reduceLT, Nat.reduceEqDiff, Nat.reduceBEq, Nat.reduceBNe, Int.reduceNeg, Int.reduceToNat, Bool.or_false, Bool.false_or, Bool.or_true, Bool.true_or, BEq.rfl, Bool.not_eq_true, Bool.not_eq_false, decide_eq_true_eq, not_true_eq_false, not_false_eq_true, ite_true, ite_false, List.append_nil, and_assoc, Nat.mul_zero, Nat.zero_mul, fs47, e1, e2, ec]
def ent47 : Entry := spOf fs47 inv47
theorem e47 : EntryOk Try.prog 47 ent47 := entry_of ok47 inv47
@[push_cast] theorem ent47_app (us : List SV) (look : Look) (x : Nat → Xf.Loc) (k : Nat) : ent47 us look x k = spOf fs47 inv47 us look x k := rfl
structure ReA where
  a : RpA
  e : En
  k : Int
def b62_1 : IR :=
  .seq (.seq (.reg false [⟨some 65, none, ⟨[], []⟩, .mov (.t 7)⟩,
    ⟨some 66, none, ⟨[], []⟩, .mov (.t 5)⟩,
    ⟨some 67, none, ⟨[], []⟩, .len (.t 66)⟩,
    ⟨some 68, none, ⟨[], []⟩, .bin 0 .lss (.t 65) (.t 67)⟩] [65, 66, 67] []) (.cond (.t 68) (.skip) (.exit 0))) (.seq (.block 1 (.seq (.reg false [⟨some 71, none, ⟨[], []⟩, .mov (.t 5)⟩,
    ⟨some 72, none, ⟨[], []⟩, .mov (.t 7)⟩,
    ⟨some 73, none, ⟨[], []⟩, .idxS (.t 71) (.t 72) 5⟩,
    ⟨some 74, none, ⟨[], []⟩, .fld (.t 73) 3⟩,
    ⟨some 75, none, ⟨[], []⟩, .ld true none 0 0 (.t 74)⟩,
    ⟨some 76, none, ⟨[], []⟩, .bin 0 .gtr (.t 75) (.k (.int .i64 0))⟩,
    ⟨some 77, none, ⟨[], []⟩, .mov (.t 76)⟩,
    ⟨some 78, some (77, true), ⟨[], []⟩, .mov (.t 5)⟩,
    ⟨some 79, some (77, true), ⟨[], []⟩, .mov (.t 7)⟩,
    ⟨some 80, some (77, true), ⟨[], []⟩, .idxS (.t 78) (.t 79) 5⟩,
    ⟨some 81, some (77, true), ⟨[], []⟩, .fld (.t 80) 4⟩,
    ⟨some 82, some (77, true), ⟨[], []⟩, .ld true none 0 0 (.t 81)⟩,
    ⟨some 83, some (77, true), ⟨[], []⟩, .bin 0 .gtr (.t 82) (.k (.int .i64 0))⟩,
    ⟨some 84, none, ⟨[], []⟩, .pick (.t 77) (.t 83) (.k (.bool false))⟩] [68, 71, 72, 73, 74, 75, 76, 77, 78, 79, 80, 81, 82, 83] []) (.cond (.t 84) (.reg false [⟨some 85, none, ⟨[], []⟩, .mov (.t 6)⟩,
    ⟨some 86, none, ⟨[], []⟩, .mov (.t 5)⟩,
    ⟨some 87, none, ⟨[], []⟩, .mov (.t 7)⟩,
    ⟨some 88, none, ⟨[], []⟩, .idxS (.t 86) (.t 87) 5⟩,
    ⟨some 89, none, ⟨[], []⟩, .ld true (some 5) 0 0 (.t 88)⟩,
    ⟨some 90, none, ⟨[], []⟩, .brecs 12 5 .i64 [.t 89]⟩,
    ⟨some 91, none, ⟨[], []⟩, .app 13 5 40 (.t 85) (.t 90)⟩,
    ⟨some 6, none, ⟨[], []⟩, .mov (.t 91)⟩] [84, 85, 86, 87, 88, 89, 90, 91] []) (.skip)))) (.reg false [⟨some 69, none, ⟨[], []⟩, .mov (.t 7)⟩,
    ⟨some 70, none, ⟨[], []⟩, .bin 0 .add (.t 69) (.k (.int .i64 1))⟩,
    ⟨some 7, none, ⟨[], []⟩, .mov (.t 70)⟩] [69, 70, 84] []))
def r62_2 : IR :=
  .seq (.reg false [⟨some 92, none, ⟨[], []⟩, .mov (.t 6)⟩,
    ⟨some 2, none, ⟨[], []⟩, .mov (.t 92)⟩] [5, 6, 7, 92] []) (.ret)
def ir62 : IR :=
  .seq (.reg false [⟨some 1, none, ⟨[], []⟩, .box 10 (.t 0)⟩,
    ⟨some 2, none, ⟨[], []⟩, .mov (.k nilSV)⟩] [0, 2] []) (.seq (.reg true [⟨some 8, none, ⟨[], []⟩, .fld (.t 1) 3⟩,
    ⟨some 9, none, ⟨[], []⟩, .ld false none 0 0 (.t 8)⟩,
    ⟨some 10, none, ⟨[], []⟩, .bin 0 .add (.t 9) (.k (.int .i64 1))⟩,
    ⟨some 11, none, ⟨[], []⟩, .bin 0 .quo (.t 10) (.k (.int .i64 2))⟩,
    ⟨some 12, none, ⟨[], []⟩, .fld (.t 1) 4⟩,
    ⟨some 13, none, ⟨[], []⟩, .ld false none 0 0 (.t 12)⟩,
    ⟨some 14, none, ⟨[], []⟩, .bin 0 .add (.t 13) (.k (.int .i64 1))⟩,
    ⟨some 15, none, ⟨[], []⟩, .bin 0 .quo (.t 14) (.k (.int .i64 2))⟩,
    ⟨some 3, none, ⟨[], []⟩, .mov (.t 11)⟩,
    ⟨some 4, none, ⟨[], []⟩, .mov (.t 15)⟩] [8, 9, 10, 11, 12, 13, 14, 15] []) (.seq (.reg false [⟨some 16, none, ⟨[], []⟩, .fld (.t 1) 1⟩,
    ⟨some 17, none, ⟨[], []⟩, .ld false none 0 0 (.t 16)⟩,
    ⟨some 18, none, ⟨[], []⟩, .fld (.t 1) 2⟩,
    ⟨some 19, none, ⟨[], []⟩, .ld false none 0 0 (.t 18)⟩,
    ⟨some 20, none, ⟨[], []⟩, .mov (.t 3)⟩,
    ⟨some 21, none, ⟨[], []⟩, .mov (.t 4)⟩,
    ⟨some 22, none, ⟨[], []⟩, .build [.int .i64 0, .int .i64 0, .int .i64 0, .int .i64 0, .int .i64 0] [(1, 1, .t 17), (2, 1, .t 19), (3, 1, .t 20), (4, 1, .t 21)]⟩,
    ⟨some 23, none, ⟨[], []⟩, .fld (.t 1) 1⟩,
    ⟨some 24, none, ⟨[], []⟩, .ld false none 0 0 (.t 23)⟩,
    ⟨some 25, none, ⟨[], []⟩, .mov (.t 3)⟩,
    ⟨some 26, none, ⟨[], []⟩, .bin 0 .add (.t 24) (.t 25)⟩,
    ⟨some 27, none, ⟨[], []⟩, .fld (.t 1) 2⟩,
    ⟨some 28, none, ⟨[], []⟩, .ld false none 0 0 (.t 27)⟩,
    ⟨some 29, none, ⟨[], []⟩, .fld (.t 1) 3⟩,
    ⟨some 30, none, ⟨[], []⟩, .ld false none 0 0 (.t 29)⟩,
    ⟨some 31, none, ⟨[], []⟩, .mov (.t 3)⟩,
    ⟨some 32, none, ⟨[], []⟩, .bin 0 .sub (.t 30) (.t 31)⟩,
    ⟨some 33, none, ⟨[], []⟩, .mov (.t 4)⟩,
    ⟨some 34, none, ⟨[], []⟩, .build [.int .i64 0, .int .i64 0, .int .i64 0, .int .i64 0, .int .i64 0] [(1, 1, .t 26), (2, 1, .t 28), (3, 1, .t 32), (4, 1, .t 33)]⟩,
    ⟨some 35, none, ⟨[], []⟩, .fld (.t 1) 1⟩,
    ⟨some 36, none, ⟨[], []⟩, .ld false none 0 0 (.t 35)⟩,
    ⟨some 37, none, ⟨[], []⟩, .fld (.t 1) 2⟩,
    ⟨some 38, none, ⟨[], []⟩, .ld false none 0 0 (.t 37)⟩,
    ⟨some 39, none, ⟨[], []⟩, .mov (.t 4)⟩,
    ⟨some 40, none, ⟨[], []⟩, .bin 0 .add (.t 38) (.t 39)⟩,
    ⟨some 41, none, ⟨[], []⟩, .mov (.t 3)⟩,
    ⟨some 42, none, ⟨[], []⟩, .fld (.t 1) 4⟩,
    ⟨some 43, none, ⟨[], []⟩, .ld false none 0 0 (.t 42)⟩,
    ⟨some 44, none, ⟨[], []⟩, .mov (.t 4)⟩,
    ⟨some 45, none, ⟨[], []⟩, .bin 0 .sub (.t 43) (.t 44)⟩,
    ⟨some 46, none, ⟨[], []⟩, .build [.int .i64 0, .int .i64 0, .int .i64 0, .int .i64 0, .int .i64 0] [(1, 1, .t 36), (2, 1, .t 40), (3, 1, .t 41), (4, 1, .t 45)]⟩,
    ⟨some 47, none, ⟨[], []⟩, .fld (.t 1) 1⟩,
    ⟨some 48, none, ⟨[], []⟩, .ld false none 0 0 (.t 47)⟩,
    ⟨some 49, none, ⟨[], []⟩, .mov (.t 3)⟩,
    ⟨some 50, none, ⟨[], []⟩, .bin 0 .add (.t 48) (.t 49)⟩,
    ⟨some 51, none, ⟨[], []⟩, .fld (.t 1) 2⟩,
    ⟨some 52, none, ⟨[], []⟩, .ld false none 0 0 (.t 51)⟩,
    ⟨some 53, none, ⟨[], []⟩, .mov (.t 4)⟩,
    ⟨some 54, none, ⟨[], []⟩, .bin 0 .add (.t 52) (.t 53)⟩,
    ⟨some 55, none, ⟨[], []⟩, .fld (.t 1) 3⟩,
    ⟨some 56, none, ⟨[], []⟩, .ld false none 0 0 (.t 55)⟩,
    ⟨some 57, none, ⟨[], []⟩, .mov (.t 3)⟩,
    ⟨some 58, none, ⟨[], []⟩, .bin 0 .sub (.t 56) (.t 57)⟩,
    ⟨some 59, none, ⟨[], []⟩, .fld (.t 1) 4⟩,
    ⟨some 60, none, ⟨[], []⟩, .ld false none 0 0 (.t 59)⟩,
    ⟨some 61, none, ⟨[], []⟩, .mov (.t 4)⟩,
    ⟨some 62, none, ⟨[], []⟩, .bin 0 .sub (.t 60) (.t 61)⟩,
    ⟨some 63, none, ⟨[], []⟩, .build [.int .i64 0, .int .i64 0, .int .i64 0, .int .i64 0, .int .i64 0] [(1, 1, .t 50), (2, 1, .t 54), (3, 1, .t 58), (4, 1, .t 62)]⟩,
    ⟨some 64, none, ⟨[], []⟩, .brecs 11 5 .i64 [.t 22, .t 34, .t 46, .t 63]⟩,
    ⟨some 5, none, ⟨[], []⟩, .mov (.t 64)⟩] [1, 3, 4, 16, 17, 18, 19, 20, 21, 22, 23, 24, 25, 26, 27, 28, 29, 30, 31, 32, 33, 34, 35, 36, 37, 38, 39, 40, 41, 42, 43, 44, 45, 46, 47, 48, 49, 50, 51, 52, 53, 54, 55, 56, 57, 58, 59, 60, 61, 62, 63, 64] []) (.seq (.reg false [⟨some 6, none, ⟨[], []⟩, .mov (.k nilSV)⟩] [] []) (.seq (.seq (.reg false [⟨some 7, none, ⟨[], []⟩, .mov (.k (.int .i64 0))⟩] [] []) (.block 0 (.loop b62_1))) (r62_2)))))
def kp62_1 : List Nat := [5, 6, 7]
def kl62_1 : List Nat := [12, 13]
attribute [push_cast] kp62_1 kl62_1
set_option maxRecDepth 4000 in
theorem comp62 : (Try.f62.body.bind fun c => compC tab isP chkAll ir62 c) = some ir62 := by kernel_rfl
def pt0 (q : Rt) : Pt := ⟨0, q.x, q.y, q.w, q.h⟩
structure RqA where
  k : Int
  x : Rt
def fs62 : FS where
  A := RqA
  args := fun a => [.agg [.int .i64 a.k, .int .i64 a.x.x, .int .i64 a.x.y, .int .i64 a.x.w, .int .i64 a.x.h]]
  mem := fun _ => []
  pre := fun a => a.x.ok2
  res := fun a x => .sl 0 (x 0) (esz 5 (qs a.x).length) 0 (qs a.x).length
  out := fun _ _ => []
  new := fun a x => [(x 0, .recs 5 true [] (((qs a.x).map pt0).map Pt.rc))]
def inv62 : List SV → Look → Option (RqA × List Nat)
  | [.agg [.int .i64 k, .int .i64 x, .int .i64 y, .int .i64 w, .int .i64 h]], look => some (⟨k, ⟨x, y, w, h⟩⟩, [])
  | _, _ => none
attribute [push_cast] inv62
theorem rdPt_map {Q : List Rt} {k : Nat} (h : k < Q.length) : rdPt (Q.map pt0) k = pt0 (rdRt Q (k : Int)) := by
  simp [rdPt, rdRt, h]
theorem kept_step {Q : List Rt} {k : Nat} (h : k < Q.length) : keptRt (Q.take (k + 1)) = keptRt (Q.take k) ++ (if (rdRt Q (k : Int)).gone then [] else [rdRt Q (k : Int)]) := by
  rw [List.take_add_one, rdRt_nat h, List.getElem?_eq_getElem h]
  unfold keptRt
  rw [List.filter_append]
  congr 1
  simp only [Option.toList_some, List.filter_cons, List.filter_nil]
  cases (Q[k]).gone <;> rfl
set_option maxHeartbeats 1000000 in
theorem ok62 : FSOk Try.prog 62 fs62 := by
  refine ⟨⟨_, Try.func62, by kernel_rfl, by kernel_rfl⟩, fun a => ⟨by simp [fs62, push_cast, noMine, argOwn, Chunk.frArg], by simp [fs62, push_cast, outOk, Chunk.ext], fun x => .inl (by simp [fs62, push_cast, frNew, frOut, Chunk.fr])⟩, fun a hp => ?_⟩
  obtain ⟨kd, r⟩ := a
  change r.ok2 at hp
  have hok := qd_ok hp
  obtain ⟨Q, hQ⟩ : ∃ Q, qd r = Q := ⟨_, rfl⟩
  have hQ4 : Q.length = 4 := by rw [← hQ]; rfl
  have hqs : qs r = keptRt Q := by unfold qs; rw [hQ]
  rw [hQ] at hok
  obtain ⟨x, y, w, h⟩ := r
  obtain ⟨h1, h2, h3, h4, h5, h6, h7, h8⟩ := id hp
  simp only at h1 h2 h3 h4 h5 h6 h7 h8
  change Tri Try.prog 62 [.agg [.int .i64 kd, .int .i64 x, .int .i64 y, .int .i64 w, .int .i64 h]] [] (postF fs62 ⟨kd, ⟨x, y, w, h⟩⟩)
  refine tri_evS (hyp (l := []) (lp := []) trivial trivial) Try.func62 comp62 (rs := [.tmp 2]) (by rfl) Try.ntmps62 14 ?_
  have hrec : ([[.int .i64 0, .int .i64 x, .int .i64 y, .int .i64 ((w + 1) / 2), .int .i64 ((h + 1) / 2)], [.int .i64 0, .int .i64 (x + (w + 1) / 2), .int .i64 y, .int .i64 (w - (w + 1) / 2), .int .i64 ((h + 1) / 2)], [.int .i64 0, .int .i64 x, .int .i64 (y + (h + 1) / 2), .int .i64 ((w + 1) / 2), .int .i64 (h - (h + 1) / 2)],
    [.int .i64 0, .int .i64 (x + (w + 1) / 2), .int .i64 (y + (h + 1) / 2), .int .i64 (w - (w + 1) / 2), .int .i64 (h - (h + 1) / 2)]] : List (List RC)) = (Q.map pt0).map Pt.rc := by rw [← hQ]; rfl
  simp -implicitDefEqProofs only [push_cast, false_implies, reduceCtorEq, Classical.not_not, Nat.reduceAdd, Nat.reduceSub, Nat.reduceMul, Nat.reduceLeDiff, Nat.reduceLT, Nat.reduceEqDiff, Nat.reduceBEq, Nat.reduceBNe, Int.reduceNeg, Int.reduceToNat, Bool.or_false, Bool.false_or, Bool.or_true, Bool.true_or, BEq.rfl, Bool.not_eq_true, Bool.not_eq_false, decide_eq_true_eq, not_true_eq_false, not_false_eq_true, ite_true, ite_false, List.append_nil, and_assoc, Nat.mul_zero, Nat.zero_mul, ir62, hrec]
  intro X
  repeat (refine And.intro (by first | omega | trivial | (intros; omega)) ?_)
  intro X1
  repeat (refine And.intro (by first | omega | trivial | (intros; omega)) ?_)
  obtain ⟨n, hn⟩ : ∃ n : Nat, 4 = n := ⟨_, rfl⟩
  have n4 : (1 + 1 + 1 + 1 : Int) = (n : Int) := by omega
  have n4' : (4 : Int) = (n : Int) := by omega
  simp only [n4, n4']
  rw [hn] at hQ4
  have hlm : ((Q.map pt0).map Pt.rc).length = n := by rw [List.length_map, List.length_map, hQ4]
  refine evS_loopU (A := Nat × Xf.Loc) kp62_1 kl62_1 (fun y => [(6, .sl 13 y.2 (esz 5 (keptRt (Q.take y.1)).length) 0 (keptRt (Q.take y.1)).length), (7, .int .i64 y.1)])
    (fun y => [(13, .mine, y.2, .recs 5 true [] (((keptRt (Q.take y.1)).map pt0).map Pt.rc))]) (fun y => y.1 ≤ n ∧ (keptRt (Q.take y.1) = [] → y.2 = nilLoc)) (fun y => n - y.1) (0, nilLoc) ⟨Nat.zero_le _, fun _ => rfl⟩ (Sub.pt ?_) ?_
  · have z1 : keptRt (Q.take 0) = [] := rfl
    simp -implicitDefEqProofs only [push_cast, false_implies, reduceCtorEq, Classical.not_not, Nat.reduceAdd, Nat.reduceSub, Nat.reduceMul, Nat.reduceLeDiff, Nat.reduceLT, Nat.reduceEqDiff, Nat.reduceBEq, Nat.reduceBNe, Int.reduceNeg, Int.reduceToNat, Bool.or_false, Bool.false_or, Bool.or_true, Bool.true_or, BEq.rfl, Bool.not_eq_true, Bool.not_eq_false, decide_eq_true_eq, not_true_eq_false, not_false_eq_true, ite_true, ite_false, List.append_nil, and_assoc, Nat.mul_zero, Nat.zero_mul, z1, esz, List.map_nil, List.length_nil]
  intro ⟨k, M⟩ ⟨(hk : k ≤ n), hM⟩ K hK
  by_cases hk' : k < n
  · have hkQ : k < Q.length := by omega
    have r1 := recAt_Pt (l := Q.map pt0) (i := k) (by rw [List.length_map]; exact hkQ) []
    rw [rdPt_map hkQ] at r1
    have hst := kept_step hkQ
    have hqk := hok _ (rdRt_mem hkQ)
    obtain ⟨q, hq⟩ : ∃ q, rdRt Q (k : Int) = q := ⟨_, rfl⟩
    rw [hq] at r1 hst hqk
    obtain ⟨lk, hlk⟩ : ∃ l, keptRt (Q.take k) = l := ⟨_, rfl⟩
    simp only [hlk] at hM ⊢
    rw [hlk] at hst
    have hlk4 : lk.length ≤ 4 := by rw [← hlk]; exact Nat.le_trans (keptRt_le _) (by rw [List.length_take]; omega)
    have lkl : ((lk.map pt0).map Pt.rc).length = lk.length := by rw [List.length_map, List.length_map]
    obtain ⟨qx, qy, qw, qh⟩ := q
    obtain ⟨g1, g2, g3, g4⟩ := hqk
    simp only at g1 g2 g3 g4
    simp -implicitDefEqProofs only [push_cast, false_implies, reduceCtorEq, Classical.not_not, Nat.reduceAdd, Nat.reduceSub, Nat.reduceMul, Nat.reduceLeDiff, Nat.reduceLT, Nat.reduceEqDiff, Nat.reduceBEq, Nat.reduceBNe, Int.reduceNeg, Int.reduceToNat, Bool.or_false, Bool.false_or, Bool.or_true, Bool.true_or, BEq.rfl, Bool.not_eq_true, Bool.not_eq_false, decide_eq_true_eq, not_true_eq_false, not_false_eq_true, ite_true, ite_false, List.append_nil, and_assoc, Nat.mul_zero, Nat.zero_mul, b62_1, r1, Pt.rc, pt0, hlm, lkl]
    refine ⟨fun _ => ?_, fun h => by omega⟩
    repeat (refine And.intro (by first | omega | trivial | (intros; omega)) ?_)
    refine ⟨fun ⟨p1, p2⟩ X2 => ?_, fun hno => ?_⟩
    · have hg : (⟨qx, qy, qw, qh⟩ : Rt).gone = false := by
        have : qw * qh ≠ 0 := Int.ne_of_gt (Int.mul_pos p1 p2)
        unfold Rt.gone; simp only [decide_eq_false_iff_not]; exact this
      rw [hg] at hst
      simp only [Bool.false_eq_true, if_false] at hst
      repeat (refine And.intro (by first | omega | trivial | (intros; omega)) ?_)
      have hne : ¬ (lk ++ [(⟨qx, qy, qw, qh⟩ : Rt)] = []) := by simp
      refine hK (k + 1, X2 6 13) ⟨by show k + 1 ≤ n; omega, fun h => absurd (hst ▸ h) hne⟩ (show n - (k + 1) < n - k by omega) _ _ (Sub.pt ?_)
      have es : ∀ m : Nat, esz 5 (m + 1) = 5 := fun _ => rfl
      have hap : (lk ++ [(⟨qx, qy, qw, qh⟩ : Rt)]).length = lk.length + 1 := by simp
      simp only [hst, hap]
      simp -implicitDefEqProofs only [push_cast, false_implies, reduceCtorEq, Classical.not_not, Nat.reduceAdd, Nat.reduceSub, Nat.reduceMul, Nat.reduceLeDiff, Nat.reduceLT, Nat.reduceEqDiff, Nat.reduceBEq, Nat.reduceBNe, Int.reduceNeg, Int.reduceToNat, Bool.or_false, Bool.false_or, Bool.or_true, Bool.true_or, BEq.rfl, Bool.not_eq_true, Bool.not_eq_false, decide_eq_true_eq, not_true_eq_false, not_false_eq_true, ite_true, ite_false, List.append_nil, and_assoc, Nat.mul_zero, Nat.zero_mul, es, List.map_append, List.map_cons, List.map_nil, Pt.rc, pt0]
    · have hg : (⟨qx, qy, qw, qh⟩ : Rt).gone = true := by
        unfold Rt.gone; simp only [decide_eq_true_eq]
        by_cases hw : 0 < qw
        · have : qh = 0 := by omega
          rw [this, Int.mul_zero]
        · have : qw = 0 := by omega
          rw [this, Int.zero_mul]
      rw [hg] at hst
      simp only [if_true, List.append_nil] at hst
      repeat (refine And.intro (by first | omega | trivial | (intros; omega)) ?_)
      refine hK (k + 1, M) ⟨by show k + 1 ≤ n; omega, fun h => hM (hst ▸ h)⟩ (show n - (k + 1) < n - k by omega) _ _ (Sub.pt ?_)
      simp only [hst]
      simp -implicitDefEqProofs only [push_cast, false_implies, reduceCtorEq, Classical.not_not, Nat.reduceAdd, Nat.reduceSub, Nat.reduceMul, Nat.reduceLeDiff, Nat.reduceLT, Nat.reduceEqDiff, Nat.reduceBEq, Nat.reduceBNe, Int.reduceNeg, Int.reduceToNat, Bool.or_false, Bool.false_or, Bool.or_true, Bool.true_or, BEq.rfl, Bool.not_eq_true, Bool.not_eq_false, decide_eq_true_eq, not_true_eq_false, not_false_eq_true, ite_true, ite_false, List.append_nil, and_assoc, Nat.mul_zero, Nat.zero_mul, Pt.rc, pt0]
  · obtain rfl : k = n := by omega
    clear hK
    have hT : Q.take k = Q := by rw [← hQ4, List.take_length]
    simp only [hT] at hM ⊢
    simp -implicitDefEqProofs only [push_cast, false_implies, reduceCtorEq, Classical.not_not, Nat.reduceAdd, Nat.reduceSub, Nat.reduceMul, Nat.reduceLeDiff, Nat.reduceLT, Nat.reduceEqDiff, Nat.reduceBEq, Nat.reduceBNe, Int.reduceNeg, Int.reduceToNat, Bool.or_false, Bool.false_or, Bool.or_true, Bool.true_or, BEq.rfl, Bool.not_eq_true, Bool.not_eq_false, decide_eq_true_eq, not_true_eq_false, not_false_eq_true, ite_true, ite_false, List.append_nil, and_assoc, Nat.mul_zero, Nat.zero_mul, b62_1, r62_2, hlm, Int.lt_irrefl, true_implies, true_and]
    refine postF.mk' (locs [M]) [some 13] ?_
    simp -implicitDefEqProofs only [push_cast, false_implies, reduceCtorEq, Classical.not_not, Nat.reduceAdd, Nat.reduceSub, Nat.reduceMul, Nat.reduceLeDiff, Nat.reduceLT, Nat.reduceEqDiff, Nat.reduceBEq, Nat.reduceBNe, Int.reduceNeg, Int.reduceToNat, Bool.or_false, Bool.false_or, Bool.or_true, Bool.true_or, BEq.rfl, Bool.not_eq_true, Bool.not_eq_false, decide_eq_true_eq, not_true_eq_false, not_false_eq_true, ite_true, ite_false, List.append_nil, and_assoc, Nat.mul_zero, Nat.zero_mul, fs62, hqs]
def ent62 : Entry := spOf fs62 inv62
theorem e62 : EntryOk Try.prog 62 ent62 := entry_of ok62 inv62
@[push_cast] theorem ent62_app (us : List SV) (look : Look) (x : Nat → Xf.Loc) (k : Nat) : ent62 us look x k = spOf fs62 inv62 us look x k := rfl
structure LqA where
  p : Pn
  L : Xf.Loc
  e : En
  k : Int
  r : Rt
def getPt : List (List RC) → Option (List Pt)
  | [] => some []
  | [.int .i64 k, .int .i64 x, .int .i64 y, .int .i64 w, .int .i64 h] :: l => match getPt l with | some r => some (⟨k, x, y, w, h⟩ :: r) | none => none
  | _ => none
theorem getPt_map : ∀ l : List Pt, getPt (l.map Pt.rc) = some l
  | [] => rfl
  | x :: l => by simp only [List.map_cons, Pt.rc, getPt, getPt_map l]
structure Sp2 where
  L1 : Xf.Loc
  L2 : Xf.Loc
  l : List Pt
attribute [push_cast] getPt_map
def ir60 : IR :=
  .seq (.reg false [⟨some 3, none, ⟨[], []⟩, .box 10 (.t 0)⟩,
    ⟨some 4, none, ⟨[], []⟩, .mov (.k (.bool false))⟩] [0, 4] []) (.seq (.reg false [⟨some 5, none, ⟨[], []⟩, .ld false (some 5) 0 0 (.t 3)⟩,
    ⟨some 6, none, ⟨[], []⟩, .ld false none 0 0 (.t 1)⟩,
    ⟨some 7, none, ⟨[], []⟩, .ld false none 0 0 (.t 2)⟩,
    ⟨some 8, none, ⟨[], []⟩, .call (some 4) 11 33 [.t 5, .t 6, .t 7]⟩,
    ⟨some 9, none, ⟨[], []⟩, .not (.t 8)⟩,
    ⟨some 4, none, ⟨[], []⟩, .mov (.t 9)⟩] [1, 2, 3, 5, 6, 7, 8, 9] []) (.ret))
set_option maxRecDepth 4000 in
theorem comp60 : (Try.f60.body.bind fun c => compC tab isP chkAll ir60 c) = some ir60 := by kernel_rfl
def b69_1 : IR :=
  .seq (.reg false [⟨some 9, none, ⟨[], []⟩, .bin 0 .lss (.t 8) (.t 7)⟩] [] []) (.seq (.cond (.t 9) (.skip) (.exit 0)) (.seq (.block 1 (.seq (.reg false [⟨some 10, none, ⟨[], []⟩, .mov (.t 8)⟩,
    ⟨some 5, none, ⟨[], []⟩, .mov (.t 10)⟩] [9, 10] []) (.seq (.reg false [⟨some 11, none, ⟨[], []⟩, .mov (.t 1)⟩,
    ⟨some 12, none, ⟨[], []⟩, .mov (.t 0)⟩,
    ⟨some 13, none, ⟨[], []⟩, .mov (.t 5)⟩,
    ⟨some 14, none, ⟨[], []⟩, .idxS (.t 12) (.t 13) 5⟩,
    ⟨some 15, none, ⟨[], []⟩, .ld true (some 5) 0 0 (.t 14)⟩,
    ⟨some 16, none, ⟨[], []⟩, .callv (some 4) 10 (.t 11) [.t 15]⟩] [11, 12, 13, 14, 15] []) (.cond (.t 16) (.seq (.reg false [⟨some 17, none, ⟨[], []⟩, .mov (.t 5)⟩,
    ⟨some 4, none, ⟨[], []⟩, .mov (.t 17)⟩] [0, 1, 5, 7, 8, 16, 17] []) (.ret)) (.skip))))) (.reg false [⟨some 18, none, ⟨[], []⟩, .bin 0 .add (.t 8) (.k (.int .i64 1))⟩,
    ⟨some 8, none, ⟨[], []⟩, .mov (.t 18)⟩] [4, 5, 16, 18] [])))
def r69_2 : IR :=
  .seq (.reg false [⟨some 4, none, ⟨[], []⟩, .mov (.k (.int .i64 (-1)))⟩] [0, 1, 7, 8] []) (.ret)
def ir69 : IR :=
  .seq (.reg false [⟨some 4, none, ⟨[], []⟩, .mov (.k (.int .i64 0))⟩] [4] []) (.seq (.seq (.reg false [⟨some 6, none, ⟨[], []⟩, .mov (.t 0)⟩,
    ⟨some 7, none, ⟨[], []⟩, .len (.t 6)⟩,
    ⟨some 8, none, ⟨[], []⟩, .mov (.k (.int .i64 0))⟩] [6] []) (.block 0 (.loop b69_1))) (r69_2))
def kp69_1 : List Nat := [0, 1, 7, 8]
def kl69_1 : List Nat := [10, 11, 12, 13]
attribute [push_cast] kp69_1 kl69_1
set_option maxRecDepth 4000 in
theorem comp69 : (Try.f69.body.bind fun c => compC tab isP chkAll ir69 c) = some ir69 := by kernel_rfl
def ir59 : IR :=
  .seq (.reg false [⟨some 4, none, ⟨[], []⟩, .mov (.k (.bool false))⟩] [4] []) (.seq (.reg false [⟨some 5, none, ⟨[], []⟩, .mov (.t 0)⟩,
    ⟨some 6, none, ⟨[], []⟩, .mov (.t 1)⟩,
    ⟨some 7, none, ⟨[], []⟩, .call (some 4) 10 69 [.t 5, .t 6]⟩,
    ⟨some 8, none, ⟨[], []⟩, .bin 0 .geq (.t 7) (.k (.int .i64 0))⟩,
    ⟨some 4, none, ⟨[], []⟩, .mov (.t 8)⟩] [0, 1, 5, 6, 7, 8] []) (.ret))
set_option maxRecDepth 4000 in
theorem comp59 : (Try.f59.body.bind fun c => compC tab isP chkAll ir59 c) = some ir59 := by kernel_rfl
def ir40 : IR :=
  .seq (.reg false [⟨some 4, none, ⟨[], []⟩, .box 10 (.t 1)⟩,
    ⟨some 5, none, ⟨[], []⟩, .box 11 (.t 2)⟩,
    ⟨some 6, none, ⟨[], []⟩, .mov (.k (.bool false))⟩] [1, 2, 6] []) (.seq (.reg false [⟨some 7, none, ⟨[], []⟩, .mov (.t 0)⟩,
    ⟨some 8, none, ⟨[], []⟩, .mkf 60 [.t 4, .t 5]⟩,
    ⟨some 9, none, ⟨[], []⟩, .call (some 4) 12 59 [.t 7, .t 8]⟩,
    ⟨some 10, none, ⟨[], []⟩, .not (.t 9)⟩,
    ⟨some 6, none, ⟨[], []⟩, .mov (.t 10)⟩] [0, 4, 5, 7, 8, 9, 10] []) (.ret))
set_option maxRecDepth 4000 in
theorem comp40 : (Try.f40.body.bind fun c => compC tab isP chkAll ir40 c) = some ir40 := by kernel_rfl
def ptBad (w h : Int) (x : Pt) : Bool := decide (¬ x.In w h)
structure ApA where
  L1 : Xf.Loc
  L2 : Xf.Loc
  x : Pt
  w : Int
  h : Int
def fs60 : FS where
  A := ApA
  args := fun a => [ptV a.x, .ptr 0 a.L1 0 0 0, .ptr 1 a.L2 0 0 0]
  mem := fun a => [some (.ro, a.L1, .cells [.int .i64 a.w]), some (.ro, a.L2, .cells [.int .i64 a.h])]
  pre := fun a => 0 ≤ a.w ∧ a.w ≤ 200 ∧ 0 ≤ a.h ∧ a.h ≤ 200
  res := fun a _ => .bool (ptBad a.w a.h a.x)
  out := fun _ _ => []
  new := fun _ _ => []
def inv60 : List SV → Look → Option (ApA × List Nat)
  | [.agg [.int .i64 k, .int .i64 x, .int .i64 y, .int .i64 w, .int .i64 h], .ptr c1 _ 0 0 0, .ptr c2 _ 0 0 0], look => match rowC (look c1), rowC (look c2) with
    | some (L1, [.int .i64 W]), some (L2, [.int .i64 H]) => some (⟨L1, L2, ⟨k, x, y, w, h⟩, W, H⟩, [c1, c2])
    | _, _ => none
  | _, _ => none
attribute [push_cast] inv60
theorem ok60 : FSOk Try.prog 60 fs60 := by
  refine ⟨⟨_, Try.func60, by kernel_rfl, by kernel_rfl⟩, fun a => ⟨by simp [fs60, push_cast, noMine, argOwn, Chunk.frArg], by simp [fs60, push_cast, outOk, Chunk.ext], fun x => .inl (by simp [fs60, push_cast, frNew, frOut, Chunk.fr])⟩, fun a hp => ?_⟩
  obtain ⟨L1, L2, ⟨k, x, y, w, h⟩, W, H⟩ := a
  obtain ⟨h1, h2, h3, h4⟩ : 0 ≤ W ∧ W ≤ 200 ∧ 0 ≤ H ∧ H ≤ 200 := hp
  change Tri Try.prog 60 [.agg [.int .i64 k, .int .i64 x, .int .i64 y, .int .i64 w, .int .i64 h], .ptr 0 L1 0 0 0, .ptr 1 L2 0 0 0] [some (.ro, L1, .cells [.int .i64 W]), some (.ro, L2, .cells [.int .i64 H])] (postF fs60 ⟨L1, L2, ⟨k, x, y, w, h⟩, W, H⟩)
  refine tri_evS (hyp (l := [(33, ent33)]) (lp := []) ⟨e33, trivial⟩ trivial) Try.func60 comp60 (rs := [.tmp 4]) (by rfl) Try.ntmps60 15 ?_
  simp -implicitDefEqProofs only [push_cast, false_implies, reduceCtorEq, Classical.not_not, Nat.reduceAdd, Nat.reduceSub, Nat.reduceMul, Nat.reduceLeDiff, Nat.reduceLT, Nat.reduceEqDiff, Nat.reduceBEq, Nat.reduceBNe, Int.reduceNeg, Int.reduceToNat, Bool.or_false, Bool.false_or, Bool.or_true, Bool.true_or, BEq.rfl, Bool.not_eq_true, Bool.not_eq_false, decide_eq_true_eq, not_true_eq_false, not_false_eq_true, ite_true, ite_false, List.append_nil, and_assoc, Nat.mul_zero, Nat.zero_mul, ir60, fs33, ptV]
  intro X
  repeat (refine And.intro (by first | omega | trivial | (intros; omega)) ?_)
  refine postF.mk' (fun _ => default) [some 0, some 1] ?_
  simp -implicitDefEqProofs only [push_cast, false_implies, reduceCtorEq, Classical.not_not, Nat.reduceAdd, Nat.reduceSub, Nat.reduceMul, Nat.reduceLeDiff, Nat.reduceLT, Nat.reduceEqDiff, Nat.reduceBEq, Nat.reduceBNe, Int.reduceNeg, Int.reduceToNat, Bool.or_false, Bool.false_or, Bool.or_true, Bool.true_or, BEq.rfl, Bool.not_eq_true, Bool.not_eq_false, decide_eq_true_eq, not_true_eq_false, not_false_eq_true, ite_true, ite_false, List.append_nil, and_assoc, Nat.mul_zero, Nat.zero_mul, fs60, ptBad]
def ent60 : Entry := spOf fs60 inv60
theorem e60 : EntryOk Try.prog 60 ent60 := entry_of ok60 inv60
@[push_cast] theorem ent60_app (us : List SV) (look : Look) (x : Nat → Xf.Loc) (k : Nat) : ent60 us look x k = spOf fs60 inv60 us look x k := rfl
structure ApR where
  L : Xf.Loc
  s : Nat
  l : List Pt
  L1 : Xf.Loc
  L2 : Xf.Loc
  w : Int
  h : Int
def fs69 : FS where
  A := ApR
  args := fun a => [.sl 0 a.L a.s 0 a.l.length, .fn 60 [.ptr 1 a.L1 0 0 0, .ptr 2 a.L2 0 0 0]]
  mem := fun a => [some (.ro, a.L, .recs 5 false [] (a.l.map Pt.rc)), some (.ro, a.L1, .cells [.int .i64 a.w]), some (.ro, a.L2, .cells [.int .i64 a.h])]
  pre := fun a => a.l.length ≤ 1000000 ∧ (0 < a.l.length → a.s = 5) ∧ 0 ≤ a.w ∧ a.w ≤ 200 ∧ 0 ≤ a.h ∧ a.h ≤ 200
  res := fun a _ => .int .i64 (if a.l.findIdx (ptBad a.w a.h) < a.l.length then (a.l.findIdx (ptBad a.w a.h) : Nat) else -1)
  out := fun _ _ => []
  new := fun _ _ => []
def inv69 : List SV → Look → Option (ApR × List Nat)
  | [.sl c _ s 0 _, .fn 60 [.ptr c1 _ 0 0 0, .ptr c2 _ 0 0 0]], look => match rowR (look c), rowC (look c1), rowC (look c2) with
    | some (L, 5, _, r), some (L1, [.int .i64 W]), some (L2, [.int .i64 H]) => match getPt r with | some l => some (⟨L, s, l, L1, L2, W, H⟩, [c, c1, c2]) | none => none
    | _, _, _ => none
  | _, _ => none
attribute [push_cast] inv69
theorem ok69 : FSOk Try.prog 69 fs69 := by
  refine ⟨⟨_, Try.func69, by kernel_rfl, by kernel_rfl⟩, fun a => ⟨by simp [fs69, push_cast, noMine, argOwn, Chunk.frArg], by simp [fs69, push_cast, outOk, Chunk.ext], fun x => .inl (by simp [fs69, push_cast, frNew, frOut, Chunk.fr])⟩, fun a hp => ?_⟩
  obtain ⟨L, s, l, L1, L2, W, H⟩ := a
  obtain ⟨hl, hs, h1, h2, h3, h4⟩ : l.length ≤ 1000000 ∧ (0 < l.length → s = 5) ∧ 0 ≤ W ∧ W ≤ 200 ∧ 0 ≤ H ∧ H ≤ 200 := hp
  change Tri Try.prog 69 [.sl 0 L s 0 l.length, .fn 60 [.ptr 1 L1 0 0 0, .ptr 2 L2 0 0 0]] [some (.ro, L, .recs 5 false [] (l.map Pt.rc)), some (.ro, L1, .cells [.int .i64 W]), some (.ro, L2, .cells [.int .i64 H])] (postF fs69 ⟨L, s, l, L1, L2, W, H⟩)
  refine tri_evS (hyp (l := [(60, ent60)]) (lp := []) ⟨e60, trivial⟩ trivial) Try.func69 comp69 (rs := [.tmp 4]) (by rfl) Try.ntmps69 14 ?_
  simp -implicitDefEqProofs only [push_cast, false_implies, reduceCtorEq, Classical.not_not, Nat.reduceAdd, Nat.reduceSub, Nat.reduceMul, Nat.reduceLeDiff, Nat.reduceLT, Nat.reduceEqDiff, Nat.reduceBEq, Nat.reduceBNe, Int.reduceNeg, Int.reduceToNat, Bool.or_false, Bool.false_or, Bool.or_true, Bool.true_or, BEq.rfl, Bool.not_eq_true, Bool.not_eq_false, decide_eq_true_eq, not_true_eq_false, not_false_eq_true, ite_true, ite_false, List.append_nil, and_assoc, Nat.mul_zero, Nat.zero_mul, ir69]
  refine evS_loopU (A := Nat) kp69_1 kl69_1 (fun i => [(8, .int .i64 i)]) (fun _ => []) (fun i => i ≤ l.length ∧ ∀ j : Nat, j < i → ptBad W H (rdPt l j) = false) (fun i => l.length - i) 0 ⟨Nat.zero_le _, fun j hj => absurd hj (Nat.not_lt_zero j)⟩ (Sub.pt ?_) ?_
  · simp -implicitDefEqProofs only [push_cast, false_implies, reduceCtorEq, Classical.not_not, Nat.reduceAdd, Nat.reduceSub, Nat.reduceMul, Nat.reduceLeDiff, Nat.reduceLT, Nat.reduceEqDiff, Nat.reduceBEq, Nat.reduceBNe, Int.reduceNeg, Int.reduceToNat, Bool.or_false, Bool.false_or, Bool.or_true, Bool.true_or, BEq.rfl, Bool.not_eq_true, Bool.not_eq_false, decide_eq_true_eq, not_true_eq_false, not_false_eq_true, ite_true, ite_false, List.append_nil, and_assoc, Nat.mul_zero, Nat.zero_mul]
  intro i ⟨hi, hj⟩ K hK
  have hnat : ∀ {j : Nat} (h : j < l.length), rdPt l j = l[j] := fun h => by simp [rdPt, h]
  by_cases hi' : i < l.length
  · have r1 := recAt_Pt (l := l) (i := i) hi' []
    have hlm : (l.map Pt.rc).length = l.length := by rw [List.length_map]
    obtain rfl := hs (by omega)
    obtain ⟨x, hx⟩ : ∃ x, rdPt l i = x := ⟨_, rfl⟩
    have hx' : l[i] = x := by rw [← hnat hi', hx]
    rw [hx] at r1
    obtain ⟨k, x, y, w, h⟩ := x
    obtain ⟨g, hg⟩ : ∃ g, ptBad W H ⟨k, x, y, w, h⟩ = g := ⟨_, rfl⟩
    simp -implicitDefEqProofs only [push_cast, false_implies, reduceCtorEq, Classical.not_not, Nat.reduceAdd, Nat.reduceSub, Nat.reduceMul, Nat.reduceLeDiff, Nat.reduceLT, Nat.reduceEqDiff, Nat.reduceBEq, Nat.reduceBNe, Int.reduceNeg, Int.reduceToNat, Bool.or_false, Bool.false_or, Bool.or_true, Bool.true_or, BEq.rfl, Bool.not_eq_true, Bool.not_eq_false, decide_eq_true_eq, not_true_eq_false, not_false_eq_true, ite_true, ite_false, List.append_nil, and_assoc, Nat.mul_zero, Nat.zero_mul, b69_1, r69_2, r1, Pt.rc, hlm, fs60, ptV, hg]
    refine ⟨fun _ => ?_, fun hl => by omega⟩
    repeat (refine And.intro (by first | omega | trivial | (intros; omega)) ?_)
    refine ⟨fun hb => ?_, fun hb => ⟨by omega, by omega, hK (i + 1) ⟨by omega, fun j h => ?_⟩ (by omega) _ _ (Sub.pt ?_)⟩⟩
    · have e : l.findIdx (ptBad W H) = i := by
        rw [List.findIdx_eq hi']
        refine ⟨by rw [hx', hg]; exact hb, fun j h => ?_⟩
        have := hj j h
        rwa [hnat (by omega)] at this
      refine postF.mk' (fun _ => default) [some 0, some 1, some 2] ?_
      simp -implicitDefEqProofs only [push_cast, false_implies, reduceCtorEq, Classical.not_not, Nat.reduceAdd, Nat.reduceSub, Nat.reduceMul, Nat.reduceLeDiff, Nat.reduceLT, Nat.reduceEqDiff, Nat.reduceBEq, Nat.reduceBNe, Int.reduceNeg, Int.reduceToNat, Bool.or_false, Bool.false_or, Bool.or_true, Bool.true_or, BEq.rfl, Bool.not_eq_true, Bool.not_eq_false, decide_eq_true_eq, not_true_eq_false, not_false_eq_true, ite_true, ite_false, List.append_nil, and_assoc, Nat.mul_zero, Nat.zero_mul, fs69, e, hi', if_true]
    · by_cases e : j = i
      · subst e; rw [hx, hg]; exact hb
      · exact hj j (by omega)
    · simp -implicitDefEqProofs only [push_cast, false_implies, reduceCtorEq, Classical.not_not, Nat.reduceAdd, Nat.reduceSub, Nat.reduceMul, Nat.reduceLeDiff, Nat.reduceLT, Nat.reduceEqDiff, Nat.reduceBEq, Nat.reduceBNe, Int.reduceNeg, Int.reduceToNat, Bool.or_false, Bool.false_or, Bool.or_true, Bool.true_or, BEq.rfl, Bool.not_eq_true, Bool.not_eq_false, decide_eq_true_eq, not_true_eq_false, not_false_eq_true, ite_true, ite_false, List.append_nil, and_assoc, Nat.mul_zero, Nat.zero_mul]
  · obtain rfl : i = l.length := by omega
    clear hK
    have e : ¬ l.findIdx (ptBad W H) < l.length := fun h => by
      have h1 := List.findIdx_getElem (w := h)
      have h2 := hj _ h
      rw [hnat h, h1] at h2
      cases h2
    simp -implicitDefEqProofs only [push_cast, false_implies, reduceCtorEq, Classical.not_not, Nat.reduceAdd, Nat.reduceSub, Nat.reduceMul, Nat.reduceLeDiff, Nat.reduceLT, Nat.reduceEqDiff, Nat.reduceBEq, Nat.reduceBNe, Int.reduceNeg, Int.reduceToNat, Bool.or_false, Bool.false_or, Bool.or_true, Bool.true_or, BEq.rfl, Bool.not_eq_true, Bool.not_eq_false, decide_eq_true_eq, not_true_eq_false, not_false_eq_true, ite_true, ite_false, List.append_nil, and_assoc, Nat.mul_zero, Nat.zero_mul, b69_1, r69_2, Int.lt_irrefl, true_implies, true_and]
    refine postF.mk' (fun _ => default) [some 0, some 1, some 2] ?_
    simp -implicitDefEqProofs only [push_cast, false_implies, reduceCtorEq, Classical.not_not, Nat.reduceAdd, Nat.reduceSub, Nat.reduceMul, Nat.reduceLeDiff, Nat.reduceLT, Nat.reduceEqDiff, Nat.reduceBEq, Nat.reduceBNe, Int.reduceNeg, Int.reduceToNat, Bool.or_false, Bool.false_or, Bool.or_true, Bool.true_or, BEq.rfl, Bool.not_eq_true, Bool.not_eq_false, decide_eq_true_eq, not_true_eq_false, not_false_eq_true, ite_true, ite_false, List.append_nil, and_assoc, Nat.mul_zero, Nat.zero_mul, fs69, e, if_false]
def ent69 : Entry := spOf fs69 inv69
theorem e69 : EntryOk Try.prog 69 ent69 := entry_of ok69 inv69
@[push_cast] theorem ent69_app (us : List SV) (look : Look) (x : Nat → Xf.Loc) (k : Nat) : ent69 us look x k = spOf fs69 inv69 us look x k := rfl
/-- All are parts within a plane of w by h. -/
def ptsIn (w h : Int) (l : List Pt) : Prop := ∀ x ∈ l, x.In w h
instance (w h : Int) (l : List Pt) : Decidable (ptsIn w h l) := by unfold ptsIn; infer_instance
theorem ptsIn_iff (w h : Int) (l : List Pt) : (0 ≤ (if l.findIdx (ptBad w h) < l.length then ((l.findIdx (ptBad w h) : Nat) : Int) else -1)) ↔ ¬ ptsIn w h l := by
  have hh := List.findIdx_lt_length (xs := l) (p := ptBad w h)
  unfold ptsIn
  by_cases c : l.findIdx (ptBad w h) < l.length
  · rw [if_pos c]
    obtain ⟨x, hx, hb⟩ := hh.1 c
    refine ⟨fun _ H => ?_, fun _ => by omega⟩
    have := H x hx
    unfold ptBad at hb; simp [this] at hb
  · rw [if_neg c]
    refine ⟨fun h => by omega, fun H => absurd (hh.2 ?_) c⟩
    simp only [Classical.not_forall] at H
    obtain ⟨x, hx, hb⟩ := H
    exact ⟨x, hx, by unfold ptBad; simp [hb]⟩
def fs59 : FS := { fs69 with res := fun a _ => .bool (decide (¬ ptsIn a.w a.h a.l)) }
theorem ok59 : FSOk Try.prog 59 fs59 := by
  refine ⟨⟨_, Try.func59, by kernel_rfl, by kernel_rfl⟩, fun a => ⟨by simp [fs59, fs69, push_cast, noMine, argOwn, Chunk.frArg], by simp [fs59, fs69, push_cast, outOk, Chunk.ext], fun x => .inl (by simp [fs59, fs69, push_cast, frNew, frOut, Chunk.fr])⟩, fun a hp => ?_⟩
  obtain ⟨L, s, l, L1, L2, W, H⟩ := a
  obtain ⟨hl, hs, h1, h2, h3, h4⟩ : l.length ≤ 1000000 ∧ (0 < l.length → s = 5) ∧ 0 ≤ W ∧ W ≤ 200 ∧ 0 ≤ H ∧ H ≤ 200 := hp
  change Tri Try.prog 59 [.sl 0 L s 0 l.length, .fn 60 [.ptr 1 L1 0 0 0, .ptr 2 L2 0 0 0]] [some (.ro, L, .recs 5 false [] (l.map Pt.rc)), some (.ro, L1, .cells [.int .i64 W]), some (.ro, L2, .cells [.int .i64 H])] (postF fs59 ⟨L, s, l, L1, L2, W, H⟩)
  refine tri_evS (hyp (l := [(69, ent69)]) (lp := []) ⟨e69, trivial⟩ trivial) Try.func59 comp59 (rs := [.tmp 4]) (by rfl) Try.ntmps59 14 ?_
  have hi := ptsIn_iff W H l
  obtain ⟨v, hv⟩ : ∃ v : Int, (if l.findIdx (ptBad W H) < l.length then ((l.findIdx (ptBad W H) : Nat) : Int) else -1) = v := ⟨_, rfl⟩
  rw [hv] at hi
  simp -implicitDefEqProofs only [push_cast, false_implies, reduceCtorEq, Classical.not_not, Nat.reduceAdd, Nat.reduceSub, Nat.reduceMul, Nat.reduceLeDiff, Nat.reduceLT, Nat.reduceEqDiff, Nat.reduceBEq, Nat.reduceBNe, Int.reduceNeg, Int.reduceToNat, Bool.or_false, Bool.false_or, Bool.or_true, Bool.true_or, BEq.rfl, Bool.not_eq_true, Bool.not_eq_false, decide_eq_true_eq, not_true_eq_false, not_false_eq_true, ite_true, ite_false, List.append_nil, and_assoc, Nat.mul_zero, Nat.zero_mul, ir59, fs69, hv, hi]
  repeat (refine And.intro (by first | omega | trivial | (intros; omega)) ?_)
  refine postF.mk' (fun _ => default) [some 0, some 1, some 2] ?_
  simp -implicitDefEqProofs only [push_cast, false_implies, reduceCtorEq, Classical.not_not, Nat.reduceAdd, Nat.reduceSub, Nat.reduceMul, Nat.reduceLeDiff, Nat.reduceLT, Nat.reduceEqDiff, Nat.reduceBEq, Nat.reduceBNe, Int.reduceNeg, Int.reduceToNat, Bool.or_false, Bool.false_or, Bool.or_true, Bool.true_or, BEq.rfl, Bool.not_eq_true, Bool.not_eq_false, decide_eq_true_eq, not_true_eq_false, not_false_eq_true, ite_true, ite_false, List.append_nil, and_assoc, Nat.mul_zero, Nat.zero_mul, fs59, fs69, hi]
def ent59 : Entry := spOf fs59 inv69
theorem e59 : EntryOk Try.prog 59 ent59 := entry_of ok59 inv69
@[push_cast] theorem ent59_app (us : List SV) (look : Look) (x : Nat → Xf.Loc) (k : Nat) : ent59 us look x k = spOf fs59 inv69 us look x k := rfl
structure ArA where
  L : Xf.Loc
  s : Nat
  l : List Pt
  w : Int
  h : Int
def fs40 : FS where
  A := ArA
  args := fun a => [.sl 0 a.L a.s 0 a.l.length, .int .i64 a.w, .int .i64 a.h]
  mem := fun a => [some (.ro, a.L, .recs 5 false [] (a.l.map Pt.rc))]
  pre := fun a => a.l.length ≤ 1000000 ∧ (0 < a.l.length → a.s = 5) ∧ 0 ≤ a.w ∧ a.w ≤ 200 ∧ 0 ≤ a.h ∧ a.h ≤ 200
  res := fun a _ => .bool (decide (ptsIn a.w a.h a.l))
  out := fun _ _ => []
  new := fun _ _ => []
def inv40 : List SV → Look → Option (ArA × List Nat)
  | [.sl c _ s 0 _, .int .i64 W, .int .i64 H], look => match rowR (look c) with
    | some (L, 5, _, r) => match getPt r with | some l => some (⟨L, s, l, W, H⟩, [c]) | none => none
    | _ => none
  | _, _ => none
attribute [push_cast] inv40
theorem ok40 : FSOk Try.prog 40 fs40 := by
  refine ⟨⟨_, Try.func40, by kernel_rfl, by kernel_rfl⟩, fun a => ⟨by simp [fs40, push_cast, noMine, argOwn, Chunk.frArg], by simp [fs40, push_cast, outOk, Chunk.ext], fun x => .inl (by simp [fs40, push_cast, frNew, frOut, Chunk.fr])⟩, fun a hp => ?_⟩
  obtain ⟨L, s, l, W, H⟩ := a
  have hp' := hp
  obtain ⟨hl, hs, h1, h2, h3, h4⟩ : l.length ≤ 1000000 ∧ (0 < l.length → s = 5) ∧ 0 ≤ W ∧ W ≤ 200 ∧ 0 ≤ H ∧ H ≤ 200 := hp
  change Tri Try.prog 40 [.sl 0 L s 0 l.length, .int .i64 W, .int .i64 H] [some (.ro, L, .recs 5 false [] (l.map Pt.rc))] (postF fs40 ⟨L, s, l, W, H⟩)
  refine tri_evS (hyp (l := [(59, ent59)]) (lp := []) ⟨e59, trivial⟩ trivial) Try.func40 comp40 (rs := [.tmp 6]) (by rfl) Try.ntmps40 16 ?_
  simp -implicitDefEqProofs only [push_cast, false_implies, reduceCtorEq, Classical.not_not, Nat.reduceAdd, Nat.reduceSub, Nat.reduceMul, Nat.reduceLeDiff, Nat.reduceLT, Nat.reduceEqDiff, Nat.reduceBEq, Nat.reduceBNe, Int.reduceNeg, Int.reduceToNat, Bool.or_false, Bool.false_or, Bool.or_true, Bool.true_or, BEq.rfl, Bool.not_eq_true, Bool.not_eq_false, decide_eq_true_eq, not_true_eq_false, not_false_eq_true, ite_true, ite_false, List.append_nil, and_assoc, Nat.mul_zero, Nat.zero_mul, ir40, fs59, fs69]
  intro X
  repeat (refine And.intro (by first | omega | trivial | (intros; omega)) ?_)
  refine postF.mk' (fun _ => default) [some 0] ?_
  simp -implicitDefEqProofs only [push_cast, false_implies, reduceCtorEq, Classical.not_not, Nat.reduceAdd, Nat.reduceSub, Nat.reduceMul, Nat.reduceLeDiff, Nat.reduceLT, Nat.reduceEqDiff, Nat.reduceBEq, Nat.reduceBNe, Int.reduceNeg, Int.reduceToNat, Bool.or_false, Bool.false_or, Bool.or_true, Bool.true_or, BEq.rfl, Bool.not_eq_true, Bool.not_eq_false, decide_eq_true_eq, not_true_eq_false, not_false_eq_true, ite_true, ite_false, List.append_nil, and_assoc, Nat.mul_zero, Nat.zero_mul, fs40]
def ent40 : Entry := spOf fs40 inv40
theorem e40 : EntryOk Try.prog 40 ent40 := entry_of ok40 inv40
@[push_cast] theorem ent40_app (us : List SV) (look : Look) (x : Nat → Xf.Loc) (k : Nat) : ent40 us look x k = spOf fs40 inv40 us look x k := rfl
def tks (f : Rt → Nat × Int → Bool × Nat × Int) : List Rt → Nat × Int → Bool × Nat × Int
  | [], s => (true, s)
  | q :: Q, s => if (f q s).1 then tks f Q (f q s).2 else (false, (f q s).2)
/-- Takes the parts of a tree of r from place o on: whether there is one, the place after it, and the count of cuts. -/
def tk (l : List Pt) : Nat → Rt → Nat × Int → Bool × Nat × Int
  | 0, _, s => (false, s)
  | N + 1, r, s => if s.1 < l.length then if (rdPt l s.1).rt = r then (true, s.1 + 1, s.2) else if r.w * r.h = 1 then (false, s) else tks (tk l N) (qs r) (s.1, s.2 + 1) else (false, s)
theorem qs_two {p : Pn} {r : Rt} (h : inR p r) (h1 : ¬ r.w * r.h = 1) : 2 ≤ (qs r).length := by
  have hs := qs_sum r
  have ha := area_pos h
  match hq : qs r with
  | [] => rw [hq] at hs; simp only [List.map_nil, sumL] at hs; omega
  | [a] =>
    rw [hq] at hs; simp only [List.map_cons, List.map_nil, sumL] at hs
    have := (qs_in h a (by rw [hq]; simp)).2 h1
    omega
  | a :: b :: l => simp
theorem tks_bd {n : Nat} {f : Rt → Nat × Int → Bool × Nat × Int} : ∀ (Q : List Rt) (s : Nat × Int), s.1 ≤ n →
    (∀ q ∈ Q, 1 ≤ area q ∧ ∀ s : Nat × Int, s.1 ≤ n → s.1 ≤ (f q s).2.1 ∧ (f q s).2.1 ≤ n ∧ s.2 ≤ (f q s).2.2 ∧ (f q s).2.2 + 1 ≤ s.2 + area q) →
    s.1 ≤ (tks f Q s).2.1 ∧ (tks f Q s).2.1 ≤ n ∧ s.2 ≤ (tks f Q s).2.2 ∧ (tks f Q s).2.2 + Q.length ≤ s.2 + sumL (Q.map area) ∧ (Q.length : Int) ≤ sumL (Q.map area)
  | [], s, hs, _ => ⟨Nat.le_refl _, hs, Int.le_refl _, by simp [tks, sumL], by simp [sumL]⟩
  | q :: Q, s, hs, h => by
    obtain ⟨a1, h1⟩ := h q (by simp)
    obtain ⟨b1, b2, b3, b4⟩ := h1 s hs
    obtain ⟨c1, c2, c3, c4, c5⟩ := tks_bd Q (f q s).2 b2 fun x hx => h x (by simp [hx])
    rw [tks]
    simp only [List.map_cons, sumL, List.length_cons]
    split
    · exact ⟨by omega, c2, by omega, by push_cast; omega, by push_cast; omega⟩
    · exact ⟨b1, b2, b3, by push_cast; omega, by push_cast; omega⟩
theorem tk_bd {p : Pn} {l : List Pt} : ∀ (N : Nat) (r : Rt) (s : Nat × Int), inR p r → r.w * r.h ≤ N → s.1 ≤ l.length →
    s.1 ≤ (tk l N r s).2.1 ∧ (tk l N r s).2.1 ≤ l.length ∧ s.2 ≤ (tk l N r s).2.2 ∧ (tk l N r s).2.2 + 1 ≤ s.2 + area r
  | 0, r, s, h, hN, _ => by have := area_pos h; unfold area at this; omega
  | N + 1, r, s, h, hN, hs => by
    have ha := area_pos h
    have hself : s.1 ≤ s.1 ∧ s.1 ≤ l.length ∧ s.2 ≤ s.2 ∧ s.2 + 1 ≤ s.2 + area r := ⟨Nat.le_refl _, hs, Int.le_refl _, by omega⟩
    rw [tk]
    split
    · split
      · exact ⟨Nat.le_succ _, by assumption, Int.le_refl _, by simp only; omega⟩
      · split
        · exact hself
        · rename_i h1
          have := tks_bd (n := l.length) (f := tk l N) (qs r) (s.1, s.2 + 1) hs fun q hq => by
            obtain ⟨k1, k2⟩ := qs_in h q hq
            have k3 := k2 h1
            refine ⟨area_pos k1, fun s hs => tk_bd N q s k1 ?_ hs⟩
            unfold area at k3; omega
          have h2 := qs_two h h1
          rw [qs_sum] at this
          obtain ⟨d1, d2, d3, d4, _⟩ := this
          simp only at d1 d3 d4
          exact ⟨d1, d2, by omega, by omega⟩
    · exact hself
def b61_1 : IR :=
  .seq (.reg false [⟨some 51, none, ⟨[], []⟩, .bin 0 .lss (.t 50) (.t 49)⟩] [] []) (.seq (.cond (.t 51) (.skip) (.exit 0)) (.seq (.block 1 (.seq (.reg false [⟨some 52, none, ⟨[], []⟩, .idxS (.t 48) (.t 50) 4⟩,
    ⟨some 53, none, ⟨[], []⟩, .ld true (some 4) 0 0 (.t 52)⟩,
    ⟨some 7, none, ⟨[], []⟩, .alloc 20 [.int .i64 0, .int .i64 0, .int .i64 0, .int .i64 0]⟩,
    ⟨none, none, ⟨[], []⟩, .sto false 4 .i64 (.t 7) (.t 53)⟩] [51, 52, 53] []) (.seq (.reg false [⟨some 54, none, ⟨[], []⟩, .mov (.t 0)⟩,
    ⟨some 55, none, ⟨[], []⟩, .ld false (some 4) 0 0 (.t 7)⟩,
    ⟨some 56, none, ⟨[], []⟩, .call none 21 61 [.t 54, .t 55]⟩,
    ⟨some 57, none, ⟨[], []⟩, .not (.t 56)⟩] [7, 54, 55, 56] []) (.cond (.t 57) (.seq (.reg false [⟨some 4, none, ⟨[], []⟩, .mov (.k (.bool false))⟩] [0, 48, 49, 50, 57] []) (.ret)) (.skip))))) (.reg false [⟨some 58, none, ⟨[], []⟩, .bin 0 .add (.t 50) (.k (.int .i64 1))⟩,
    ⟨some 50, none, ⟨[], []⟩, .mov (.t 58)⟩] [4, 57, 58] [])))
def r61_2 : IR :=
  .seq (.reg false [⟨some 4, none, ⟨[], []⟩, .mov (.k (.bool true))⟩] [0, 48, 49, 50] []) (.ret)
def ir61 : IR :=
  .seq (.reg false [⟨some 3, none, ⟨[], []⟩, .box 10 (.t 1)⟩,
    ⟨some 4, none, ⟨[], []⟩, .mov (.k (.bool false))⟩] [1, 4] []) (.seq (.seq (.reg false [⟨some 8, none, ⟨[], []⟩, .mov (.t 0)⟩,
    ⟨some 9, none, ⟨[], []⟩, .nilc (.t 8)⟩,
    ⟨some 10, none, ⟨[], []⟩, .fld (.t 9) 0⟩,
    ⟨some 11, none, ⟨[], []⟩, .ld false none 0 0 (.t 10)⟩,
    ⟨some 12, none, ⟨[], []⟩, .len (.t 11)⟩,
    ⟨some 13, none, ⟨[], []⟩, .bin 0 .eql (.t 12) (.k (.int .i64 0))⟩] [8, 9, 10, 11, 12] []) (.cond (.t 13) (.seq (.reg false [⟨some 4, none, ⟨[], []⟩, .mov (.k (.bool false))⟩] [0, 3, 13] []) (.ret)) (.skip))) (.seq (.seq (.reg false [⟨some 14, none, ⟨[], []⟩, .mov (.t 0)⟩,
    ⟨some 15, none, ⟨[], []⟩, .nilc (.t 14)⟩,
    ⟨some 16, none, ⟨[], []⟩, .fld (.t 15) 0⟩,
    ⟨some 17, none, ⟨[], []⟩, .ld false none 0 0 (.t 16)⟩,
    ⟨some 18, none, ⟨[], []⟩, .idxS (.t 17) (.k (.int .i64 0)) 5⟩,
    ⟨some 19, none, ⟨[], []⟩, .ld true (some 5) 0 0 (.t 18)⟩,
    ⟨some 5, none, ⟨[], []⟩, .alloc 11 [.int .i64 0, .int .i64 0, .int .i64 0, .int .i64 0, .int .i64 0]⟩,
    ⟨none, none, ⟨[], []⟩, .sto false 5 .i64 (.t 5) (.t 19)⟩] [4, 13, 14, 15, 16, 17, 18, 19] []) (.seq (.reg true [⟨some 20, none, ⟨[12, 13, 14, 15], []⟩, .ld false (some 5) 0 0 (.t 5)⟩,
    ⟨some 21, none, ⟨[], []⟩, .ld false (some 4) 0 0 (.t 3)⟩,
    ⟨some 22, none, ⟨[], []⟩, .fld (.t 5) 0⟩,
    ⟨some 23, none, ⟨[], []⟩, .ld false none 0 0 (.t 22)⟩,
    ⟨some 24, none, ⟨[], []⟩, .call (some 4) 12 54 [.t 21, .t 23]⟩,
    ⟨some 25, none, ⟨[], []⟩, .binA .eql [true, true, true, true, true] (.t 20) (.t 24)⟩] [5, 20, 21, 22, 23, 24] []) (.cond (.t 25) (.seq (.reg false [⟨some 26, none, ⟨[], []⟩, .mov (.t 0)⟩,
    ⟨some 27, none, ⟨[], []⟩, .mov (.t 0)⟩,
    ⟨some 28, none, ⟨[], []⟩, .nilc (.t 27)⟩,
    ⟨some 29, none, ⟨[], []⟩, .fld (.t 28) 0⟩,
    ⟨some 30, none, ⟨[], []⟩, .ld false none 0 0 (.t 29)⟩,
    ⟨some 31, none, ⟨[], []⟩, .slc (.t 30) 5 (some (.k (.int .i64 1))) none⟩,
    ⟨some 32, none, ⟨[], []⟩, .nilc (.t 26)⟩,
    ⟨some 33, none, ⟨[], []⟩, .fld (.t 32) 0⟩,
    ⟨none, none, ⟨[], []⟩, .sto false 1 .i64 (.t 33) (.t 31)⟩] [0, 3, 25, 26, 27, 28, 29, 30, 31, 32, 33] []) (.seq (.reg false [⟨some 4, none, ⟨[], []⟩, .mov (.k (.bool true))⟩] [] []) (.ret))) (.skip)))) (.seq (.seq (.reg false [⟨some 34, none, ⟨[], []⟩, .fld (.t 3) 2⟩,
    ⟨some 35, none, ⟨[], []⟩, .ld false none 0 0 (.t 34)⟩,
    ⟨some 36, none, ⟨[], []⟩, .fld (.t 3) 3⟩,
    ⟨some 37, none, ⟨[], []⟩, .ld false none 0 0 (.t 36)⟩,
    ⟨some 38, none, ⟨[], []⟩, .bin 0 .mul (.t 35) (.t 37)⟩,
    ⟨some 39, none, ⟨[], []⟩, .bin 0 .eql (.t 38) (.k (.int .i64 1))⟩] [4, 25, 34, 35, 36, 37, 38] []) (.cond (.t 39) (.seq (.reg false [⟨some 4, none, ⟨[], []⟩, .mov (.k (.bool false))⟩] [0, 3, 39] []) (.ret)) (.skip))) (.seq (.reg false [⟨some 40, none, ⟨[], []⟩, .mov (.t 0)⟩,
    ⟨some 41, none, ⟨[], []⟩, .nilc (.t 40)⟩,
    ⟨some 42, none, ⟨[], []⟩, .fld (.t 41) 1⟩,
    ⟨some 43, none, ⟨[], []⟩, .ld false none 0 0 (.t 42)⟩,
    ⟨some 44, none, ⟨[], []⟩, .bin 0 .add (.t 43) (.k (.int .i64 1))⟩,
    ⟨some 45, none, ⟨[], []⟩, .nilc (.t 40)⟩,
    ⟨some 46, none, ⟨[], []⟩, .fld (.t 45) 1⟩,
    ⟨none, none, ⟨[], []⟩, .sto false 1 .i64 (.t 46) (.t 44)⟩] [4, 39, 40, 41, 42, 43, 44, 45, 46] []) (.seq (.seq (.reg false [⟨some 47, none, ⟨[], []⟩, .ld false (some 4) 0 0 (.t 3)⟩,
    ⟨some 48, none, ⟨[], []⟩, .call (some 4) 16 55 [.t 47]⟩,
    ⟨some 49, none, ⟨[], []⟩, .len (.t 48)⟩,
    ⟨some 50, none, ⟨[], []⟩, .mov (.k (.int .i64 0))⟩] [3, 47] []) (.block 0 (.loop b61_1))) (r61_2))))))
def kp61_1 : List Nat := [0, 48, 49, 50]
def kl61_1 : List Nat := [20, 21, 22, 23, 24]
attribute [push_cast] kp61_1 kl61_1
set_option maxRecDepth 4000 in
theorem comp61 : (Try.f61.body.bind fun c => compC tab isP chkAll ir61 c) = some ir61 := by kernel_rfl
theorem tks_drop {f : Rt → Nat × Int → Bool × Nat × Int} {Q : List Rt} {i : Nat} (hi : i < Q.length) (s : Nat × Int) :
    tks f (Q.drop i) s = (if (f (rdRt Q (i : Int)) s).1 then tks f (Q.drop (i + 1)) (f (rdRt Q (i : Int)) s).2 else (false, (f (rdRt Q (i : Int)) s).2)) ∧ sumL ((Q.drop i).map area) = area (rdRt Q (i : Int)) + sumL ((Q.drop (i + 1)).map area) := by
  rw [List.drop_eq_getElem_cons hi, rdRt_nat hi]
  exact ⟨rfl, by simp only [List.map_cons, sumL]⟩
theorem len_sum : ∀ (Q : List Rt), (∀ q ∈ Q, 1 ≤ area q) → (Q.length : Int) ≤ sumL (Q.map area)
  | [], _ => by simp [sumL]
  | q :: Q, h => by
    have := len_sum Q fun x hx => h x (by simp [hx])
    have h1 := h q (by simp)
    simp only [List.length_cons, List.map_cons, sumL]; push_cast; omega
structure WkA where
  Lw : Xf.Loc
  L : Xf.Loc
  sz : Nat
  l : List Pt
  o : Nat
  c : Int
  r : Rt
def wkV (L : Xf.Loc) (sz : Nat) (l : List Pt) (s : Nat × Int) : List SV := [.sl 1 L sz s.1 ((l.length - s.1 : Nat) : Int), .int .i64 s.2]
def fs61 (p : Pn) (N : Nat) : FS where
  A := WkA
  args := fun a => [.ptr 0 a.Lw 0 0 0, a.r.sv]
  mem := fun a => [some (.lent, a.Lw, .cells (wkV a.L a.sz a.l (a.o, a.c))), some (.ro, a.L, .recs 5 false [] (a.l.map Pt.rc))]
  pre := fun a => p.grey ∧ inR p a.r ∧ a.r.w * a.r.h ≤ N ∧ a.l.length ≤ 1000000 ∧ (0 < a.l.length → a.sz = 5) ∧ a.o ≤ a.l.length ∧ 0 ≤ a.c ∧ a.c + area a.r ≤ 1000000
  res := fun a _ => .bool (tk a.l N a.r (a.o, a.c)).1
  out := fun a _ => [some (some (.cells (wkV a.L a.sz a.l (tk a.l N a.r (a.o, a.c)).2)))]
  new := fun _ _ => []
def inv61 : List SV → Look → Option (WkA × List Nat)
  | [.ptr c0 _ 0 0 0, .agg [.int .i64 x, .int .i64 y, .int .i64 w, .int .i64 h]], look => match rowC (look c0) with
    | some (Lw, [.sl d _ s o _, .int .i64 c]) => match rowR (look d) with
      | some (L, 5, _, r) => match getPt r with | some l => some (⟨Lw, L, s, l, o.toNat, c, ⟨x, y, w, h⟩⟩, [c0, d]) | none => none
      | _ => none
    | _ => none
  | _, _ => none
attribute [push_cast] inv61
set_option maxRecDepth 4000 in
set_option maxHeartbeats 2000000 in
theorem ok61 (p : Pn) : ∀ N, FSOk Try.prog 61 (fs61 p N)
  | 0 => by
    refine ⟨⟨_, Try.func61, by kernel_rfl, by kernel_rfl⟩, fun a => ⟨by simp [fs61, wkV, push_cast, noMine, argOwn, Chunk.frArg], by simp [fs61, wkV, push_cast, outOk, Chunk.ext], fun x => .inl (by simp [fs61, wkV, push_cast, frNew, frOut, Chunk.fr])⟩, fun a hp => ?_⟩
    obtain ⟨h1, h2, h3, h4⟩ := hp
    have := area_pos h2
    unfold area at this
    omega
  | N + 1 => by
    have ih := ok61 p N
    refine ⟨⟨_, Try.func61, by kernel_rfl, by kernel_rfl⟩, fun a => ⟨by simp [fs61, wkV, push_cast, noMine, argOwn, Chunk.frArg], by simp [fs61, wkV, push_cast, outOk, Chunk.ext], fun x => .inl (by simp [fs61, wkV, push_cast, frNew, frOut, Chunk.fr])⟩, fun a hp => ?_⟩
    obtain ⟨Lw, L, sz, l, o, c, r⟩ := a
    obtain ⟨hg, hin, hN, hl, hsz, ho, hc0, hc1⟩ : p.grey ∧ inR p r ∧ r.w * r.h ≤ ((N + 1 : Nat) : Int) ∧ l.length ≤ 1000000 ∧ (0 < l.length → sz = 5) ∧ o ≤ l.length ∧ 0 ≤ c ∧ c + area r ≤ 1000000 := hp
    have hok2 := hin.ok2 hg
    have har := area_pos hin
    have hne := qs_ne hin
    have hrec := fun {q : Rt} (hq : q ∈ qs r) (h1 : ¬ r.w * r.h = 1) => (show inR p q ∧ q.w * q.h ≤ N from ⟨(qs_in hin q hq).1, by have := (qs_in hin q hq).2 h1; unfold area at this; omega⟩)
    have hT0 : ¬ o < l.length → tk l (N + 1) r (o, c) = (false, o, c) := fun h => by rw [tk, if_neg h]
    have hT1 : o < l.length → (rdPt l o).rt = r → tk l (N + 1) r (o, c) = (true, o + 1, c) := fun h h' => by rw [tk, if_pos h, if_pos h']
    have hT2 : o < l.length → ¬ (rdPt l o).rt = r → r.w * r.h = 1 → tk l (N + 1) r (o, c) = (false, o, c) := fun h h' h1 => by rw [tk, if_pos h, if_neg h', if_pos h1]
    have hT3 : o < l.length → ¬ (rdPt l o).rt = r → ¬ r.w * r.h = 1 → tk l (N + 1) r (o, c) = tks (tk l N) (qs r) (o, c + 1) := fun h h' h1 => by rw [tk, if_pos h, if_neg h', if_neg h1]
    have hq2 := fun h1 => qs_two (r := r) hin h1
    have hqsum := qs_sum r
    obtain ⟨Q, hQ⟩ : ∃ Q, qs r = Q := ⟨_, rfl⟩
    obtain ⟨A, hA⟩ : ∃ A, area r = A := ⟨_, rfl⟩
    rw [hQ, hA] at hqsum
    rw [hQ] at hq2 hne
    rw [hA] at hc1
    obtain ⟨f, hf⟩ : ∃ f, tk l N = f := ⟨_, rfl⟩
    simp only [hQ, hf] at hT3 hrec
    obtain ⟨x, y, w, h⟩ := r
    obtain ⟨i1, i2, i3, i4, i5, i6⟩ := id hin
    obtain ⟨g1, g2, g3, g4⟩ := id hg
    simp only at i1 i2 i3 i4 i5 i6 hN hT1 hT2 hT3 hq2 hrec
    have hm := mul_bd (a := w) (b := h) (A := 200) (B := 200) (by omega) (by omega) (by omega) (by omega)
    have hget := getPt_map l
    change Tri Try.prog 61 [.ptr 0 Lw 0 0 0, .agg [.int .i64 x, .int .i64 y, .int .i64 w, .int .i64 h]] [some (.lent, Lw, .cells [.sl 1 L sz o ((l.length - o : Nat) : Int), .int .i64 c]), some (.ro, L, .recs 5 false [] (l.map Pt.rc))] (postF (fs61 p (N + 1)) ⟨Lw, L, sz, l, o, c, ⟨x, y, w, h⟩⟩)
    refine tri_evS (hyp (l := [(61, spOf (fs61 p N) inv61), (54, ent54), (55, ent55)]) (lp := [])
      ⟨entry_of ih inv61, e54, e55, trivial⟩ trivial) Try.func61 comp61 (rs := [.tmp 4]) (by rfl) Try.ntmps61 25 ?_
    by_cases hol : o < l.length
    case neg =>
      have hm0 : ((l.length - o : Nat) : Int) = 0 := by omega
      simp -implicitDefEqProofs only [push_cast, false_implies, reduceCtorEq, Classical.not_not, Nat.reduceAdd, Nat.reduceSub, Nat.reduceMul, Nat.reduceLeDiff, Nat.reduceLT, Nat.reduceEqDiff, Nat.reduceBEq, Nat.reduceBNe, Int.reduceNeg, Int.reduceToNat, Bool.or_false, Bool.false_or, Bool.or_true, Bool.true_or, BEq.rfl, Bool.not_eq_true, Bool.not_eq_false, decide_eq_true_eq, not_true_eq_false, not_false_eq_true, ite_true, ite_false, List.append_nil, and_assoc, Nat.mul_zero, Nat.zero_mul, ir61, hm0]
      intro X
      refine postF.mk' (fun _ => default) [some 0, some 1] ?_
      simp -implicitDefEqProofs only [push_cast, false_implies, reduceCtorEq, Classical.not_not, Nat.reduceAdd, Nat.reduceSub, Nat.reduceMul, Nat.reduceLeDiff, Nat.reduceLT, Nat.reduceEqDiff, Nat.reduceBEq, Nat.reduceBNe, Int.reduceNeg, Int.reduceToNat, Bool.or_false, Bool.false_or, Bool.or_true, Bool.true_or, BEq.rfl, Bool.not_eq_true, Bool.not_eq_false, decide_eq_true_eq, not_true_eq_false, not_false_eq_true, ite_true, ite_false, List.append_nil, and_assoc, Nat.mul_zero, Nat.zero_mul, fs61, wkV, hT0 hol, hm0]
    obtain rfl := hsz (by omega)
    have r1 := recAt_Pt hol []
    obtain ⟨q, hq⟩ : ∃ q, rdPt l o = q := ⟨_, rfl⟩
    rw [hq] at r1 hT1 hT2 hT3
    obtain ⟨kd, qx, qy, qw, qh⟩ := q
    obtain ⟨m, hm0⟩ : ∃ m, l.length - o = m + 1 := ⟨l.length - o - 1, by omega⟩
    have hm1 : ¬ (m : Int) + 1 = 0 := by omega
    have hm2 : l.length - (o + 1) = m := by omega
    have hlm : (l.map Pt.rc).length = l.length := List.length_map _
    have hrt : (Pt.rt ⟨kd, qx, qy, qw, qh⟩ = ⟨x, y, w, h⟩) ↔ (qx = x ∧ qy = y ∧ qw = w ∧ qh = h) := by simp [Pt.rt]
    rw [hrt] at hT1 hT2 hT3
    replace hT1 := hT1 hol
    replace hT2 := hT2 hol
    replace hT3 := hT3 hol
    simp only [hm0]
    simp -implicitDefEqProofs only [push_cast, false_implies, reduceCtorEq, Classical.not_not, Nat.reduceAdd, Nat.reduceSub, Nat.reduceMul, Nat.reduceLeDiff, Nat.reduceLT, Nat.reduceEqDiff, Nat.reduceBEq, Nat.reduceBNe, Int.reduceNeg, Int.reduceToNat, Bool.or_false, Bool.false_or, Bool.or_true, Bool.true_or, BEq.rfl, Bool.not_eq_true, Bool.not_eq_false, decide_eq_true_eq, not_true_eq_false, not_false_eq_true, ite_true, ite_false, List.append_nil, and_assoc, Nat.mul_zero, Nat.zero_mul, ir61, r1, Pt.rc, hm1, fs54, hlm, fs55, Rt.sv, hok2, hQ, hf]
    intro X X1
    repeat (refine And.intro (by first | omega | trivial | (intros; omega)) ?_)
    refine ⟨fun heq => ?_, fun heq => ⟨by omega, by omega, fun h1 => ?_, fun h1 => ?_⟩⟩
    · refine ⟨by omega, by omega, by omega, ?_⟩
      have e1 : (m : Int) + 1 - 1 = m := by omega
      refine postF.mk' (fun _ => default) [some 0, some 1] ?_
      simp -implicitDefEqProofs only [push_cast, false_implies, reduceCtorEq, Classical.not_not, Nat.reduceAdd, Nat.reduceSub, Nat.reduceMul, Nat.reduceLeDiff, Nat.reduceLT, Nat.reduceEqDiff, Nat.reduceBEq, Nat.reduceBNe, Int.reduceNeg, Int.reduceToNat, Bool.or_false, Bool.false_or, Bool.or_true, Bool.true_or, BEq.rfl, Bool.not_eq_true, Bool.not_eq_false, decide_eq_true_eq, not_true_eq_false, not_false_eq_true, ite_true, ite_false, List.append_nil, and_assoc, Nat.mul_zero, Nat.zero_mul, fs61, wkV, hT1 heq, hm2, e1]
    · refine postF.mk' (fun _ => default) [some 0, some 1] ?_
      simp -implicitDefEqProofs only [push_cast, false_implies, reduceCtorEq, Classical.not_not, Nat.reduceAdd, Nat.reduceSub, Nat.reduceMul, Nat.reduceLeDiff, Nat.reduceLT, Nat.reduceEqDiff, Nat.reduceBEq, Nat.reduceBNe, Int.reduceNeg, Int.reduceToNat, Bool.or_false, Bool.false_or, Bool.or_true, Bool.true_or, BEq.rfl, Bool.not_eq_true, Bool.not_eq_false, decide_eq_true_eq, not_true_eq_false, not_false_eq_true, ite_true, ite_false, List.append_nil, and_assoc, Nat.mul_zero, Nat.zero_mul, fs61, wkV, hT2 heq h1, hm0]
    · refine ⟨by omega, by omega, fun X2 => ?_⟩
      replace hT3 := hT3 heq h1
      replace hq2 := hq2 h1
      have hra := fun {q : Rt} (hq : q ∈ Q) => hrec hq h1
      have hareas : ∀ q ∈ Q, 1 ≤ area q := fun q hq => area_pos (hra hq).1
      have hQ4 : Q.length ≤ 4 := by rw [← hQ]; exact Nat.le_trans (List.length_filter_le _ _) (by simp [qd])
      have hlr : (Q.map Rt.rc ++ List.replicate (4 - Q.length) zR).length = 4 := by rw [List.length_append, List.length_map, List.length_replicate]; omega
      refine evS_loopU (A := Nat × Nat × Int) kp61_1 kl61_1 (fun y => [(50, .int .i64 y.1)]) (fun y => [(0, .lent, Lw, .cells (wkV L 5 l y.2))])
        (fun y => y.1 ≤ Q.length ∧ y.2.1 ≤ l.length ∧ 0 ≤ y.2.2 ∧ y.2.2 + sumL ((Q.drop y.1).map area) + y.1 ≤ c + 1 + A ∧ tks f Q (o, c + 1) = tks f (Q.drop y.1) y.2) (fun y => Q.length - y.1) (0, o, c + 1) ⟨Nat.zero_le _, ho, by simp only; omega, by rw [List.drop_zero]; simp only; omega, by rw [List.drop_zero]⟩ (Sub.pt ?_) ?_
      · simp -implicitDefEqProofs only [push_cast, false_implies, reduceCtorEq, Classical.not_not, Nat.reduceAdd, Nat.reduceSub, Nat.reduceMul, Nat.reduceLeDiff, Nat.reduceLT, Nat.reduceEqDiff, Nat.reduceBEq, Nat.reduceBNe, Int.reduceNeg, Int.reduceToNat, Bool.or_false, Bool.false_or, Bool.or_true, Bool.true_or, BEq.rfl, Bool.not_eq_true, Bool.not_eq_false, decide_eq_true_eq, not_true_eq_false, not_false_eq_true, ite_true, ite_false, List.append_nil, and_assoc, Nat.mul_zero, Nat.zero_mul, wkV, hm0]
      intro ⟨k, o', c'⟩ ⟨(hk : k ≤ Q.length), (ho' : o' ≤ l.length), (hc' : 0 ≤ c'), (hsum : c' + sumL ((Q.drop k).map area) + k ≤ c + 1 + A), (htk : tks f Q (o, c + 1) = tks f (Q.drop k) (o', c'))⟩ K hK
      by_cases hk' : k < Q.length
      · obtain ⟨d1, d2⟩ := tks_drop (f := f) hk' (o', c')
        have hmem := rdRt_mem hk'
        have r2 := recAt_Rt (l := Q) (i := (k : Int)) (by omega) (by omega) [] (List.replicate (4 - Q.length) zR)
        have hls := len_sum (Q.drop (k + 1)) fun q hq => hareas q (List.mem_of_mem_drop hq)
        rw [List.length_drop] at hls
        obtain ⟨q, hqq⟩ : ∃ q, rdRt Q (k : Int) = q := ⟨_, rfl⟩
        rw [hqq] at d1 d2 hmem r2
        obtain ⟨p1, p2⟩ := hra hmem
        have hbd := tk_bd N q (o', c') p1 p2 ho'
        rw [hf] at hbd
        have hfq : tk l N q (o', c') = f q (o', c') := by rw [hf]
        obtain ⟨b, o2, c2, hfr⟩ : ∃ b o2 c2, f q (o', c') = (b, o2, c2) := ⟨_, _, _, rfl⟩
        rw [hfr] at hbd hfq d1
        obtain ⟨n1, n2, n3, n4⟩ := hbd
        obtain ⟨a, hqa⟩ : ∃ a, area q = a := ⟨_, rfl⟩
        rw [hqa] at d2 n4
        have hpa : c' + a ≤ 1000000 := by omega
        rw [d1] at htk
        obtain ⟨qx', qy', qw', qh'⟩ := q
        simp only at n1 n2 n3 n4 p2 htk
        simp -implicitDefEqProofs only [push_cast, false_implies, reduceCtorEq, Classical.not_not, Nat.reduceAdd, Nat.reduceSub, Nat.reduceMul, Nat.reduceLeDiff, Nat.reduceLT, Nat.reduceEqDiff, Nat.reduceBEq, Nat.reduceBNe, Int.reduceNeg, Int.reduceToNat, Bool.or_false, Bool.false_or, Bool.or_true, Bool.true_or, BEq.rfl, Bool.not_eq_true, Bool.not_eq_false, decide_eq_true_eq, not_true_eq_false, not_false_eq_true, ite_true, ite_false, List.append_nil, and_assoc, Nat.mul_zero, Nat.zero_mul, b61_1, r2, Rt.rc, hlr, fs61, wkV, hfq, hqa, hget, hlm, Int.toNat_natCast]
        refine ⟨fun _ X3 => ?_, fun h => by omega⟩
        repeat (refine And.intro (by first | omega | trivial | (intros; omega)) ?_)
        refine ⟨fun hb => ?_, fun hb => ?_⟩
        · have hb' : b = false := by simpa using hb
          subst hb'
          rw [if_neg (by decide)] at htk
          clear hK
          refine postF.mk' (fun _ => default) [some 0, some 1] ?_
          simp -implicitDefEqProofs only [push_cast, false_implies, reduceCtorEq, Classical.not_not, Nat.reduceAdd, Nat.reduceSub, Nat.reduceMul, Nat.reduceLeDiff, Nat.reduceLT, Nat.reduceEqDiff, Nat.reduceBEq, Nat.reduceBNe, Int.reduceNeg, Int.reduceToNat, Bool.or_false, Bool.false_or, Bool.or_true, Bool.true_or, BEq.rfl, Bool.not_eq_true, Bool.not_eq_false, decide_eq_true_eq, not_true_eq_false, not_false_eq_true, ite_true, ite_false, List.append_nil, and_assoc, Nat.mul_zero, Nat.zero_mul, hT3, htk]
        · have hb' : b = true := by simpa using hb
          subst hb'
          rw [if_pos rfl] at htk
          repeat (refine And.intro (by first | omega | trivial | (intros; omega)) ?_)
          refine hK (k + 1, o2, c2) ⟨show k + 1 ≤ Q.length by omega, n2, by simp only; omega, by simp only; push_cast; omega, htk⟩ (show Q.length - (k + 1) < Q.length - k by omega) _ _ (Sub.pt ?_)
          simp -implicitDefEqProofs only [push_cast, false_implies, reduceCtorEq, Classical.not_not, Nat.reduceAdd, Nat.reduceSub, Nat.reduceMul, Nat.reduceLeDiff, Nat.reduceLT, Nat.reduceEqDiff, Nat.reduceBEq, Nat.reduceBNe, Int.reduceNeg, Int.reduceToNat, Bool.or_false, Bool.false_or, Bool.or_true, Bool.true_or, BEq.rfl, Bool.not_eq_true, Bool.not_eq_false, decide_eq_true_eq, not_true_eq_false, not_false_eq_true, ite_true, ite_false, List.append_nil, and_assoc, Nat.mul_zero, Nat.zero_mul, wkV]
      · obtain rfl : k = Q.length := by omega
        clear hK
        rw [List.drop_length] at htk
        have e1 : tks f [] (o', c') = (true, o', c') := rfl
        rw [e1] at htk
        simp -implicitDefEqProofs only [push_cast, false_implies, reduceCtorEq, Classical.not_not, Nat.reduceAdd, Nat.reduceSub, Nat.reduceMul, Nat.reduceLeDiff, Nat.reduceLT, Nat.reduceEqDiff, Nat.reduceBEq, Nat.reduceBNe, Int.reduceNeg, Int.reduceToNat, Bool.or_false, Bool.false_or, Bool.or_true, Bool.true_or, BEq.rfl, Bool.not_eq_true, Bool.not_eq_false, decide_eq_true_eq, not_true_eq_false, not_false_eq_true, ite_true, ite_false, List.append_nil, and_assoc, Nat.mul_zero, Nat.zero_mul, b61_1, r61_2, Int.lt_irrefl, true_implies, true_and, wkV]
        refine postF.mk' (fun _ => default) [some 0, some 1] ?_
        simp -implicitDefEqProofs only [push_cast, false_implies, reduceCtorEq, Classical.not_not, Nat.reduceAdd, Nat.reduceSub, Nat.reduceMul, Nat.reduceLeDiff, Nat.reduceLT, Nat.reduceEqDiff, Nat.reduceBEq, Nat.reduceBNe, Int.reduceNeg, Int.reduceToNat, Bool.or_false, Bool.false_or, Bool.or_true, Bool.true_or, BEq.rfl, Bool.not_eq_true, Bool.not_eq_false, decide_eq_true_eq, not_true_eq_false, not_false_eq_true, ite_true, ite_false, List.append_nil, and_assoc, Nat.mul_zero, Nat.zero_mul, fs61, hT3, htk, wkV]
def ir41 : IR :=
  .seq (.reg false [⟨some 6, none, ⟨[], []⟩, .mov (.k (.int .i64 0))⟩,
    ⟨some 7, none, ⟨[], []⟩, .mov (.k (.bool false))⟩] [6, 7] []) (.seq (.seq (.reg false [⟨some 10, none, ⟨[], []⟩, .mov (.t 0)⟩,
    ⟨some 11, none, ⟨[], []⟩, .mov (.t 1)⟩,
    ⟨some 12, none, ⟨[], []⟩, .bin 0 .mul (.t 10) (.t 11)⟩,
    ⟨some 13, none, ⟨[], []⟩, .bin 0 .eql (.t 12) (.k (.int .i64 0))⟩] [10, 11, 12] []) (.cond (.t 13) (.seq (.reg false [⟨some 14, none, ⟨[], []⟩, .mov (.t 2)⟩,
    ⟨some 15, none, ⟨[], []⟩, .len (.t 14)⟩,
    ⟨some 16, none, ⟨[], []⟩, .bin 0 .eql (.t 15) (.k (.int .i64 0))⟩,
    ⟨some 6, none, ⟨[], []⟩, .mov (.k (.int .i64 0))⟩,
    ⟨some 7, none, ⟨[], []⟩, .mov (.t 16)⟩] [0, 1, 2, 13, 14, 15, 16] []) (.ret)) (.skip))) (.seq (.reg false [⟨some 17, none, ⟨[], []⟩, .mov (.t 2)⟩,
    ⟨some 18, none, ⟨[], []⟩, .build [nilSV, .int .i64 0] [(0, 1, .t 17)]⟩,
    ⟨some 19, none, ⟨[], []⟩, .box 10 (.t 18)⟩,
    ⟨some 8, none, ⟨[], []⟩, .mov (.t 19)⟩] [2, 6, 7, 13, 17, 18, 19] []) (.seq (.reg false [⟨some 20, none, ⟨[], []⟩, .mov (.t 8)⟩,
    ⟨some 21, none, ⟨[], []⟩, .mov (.t 0)⟩,
    ⟨some 22, none, ⟨[], []⟩, .mov (.t 1)⟩,
    ⟨some 23, none, ⟨[], []⟩, .build [.int .i64 0, .int .i64 0, .int .i64 0, .int .i64 0] [(0, 1, .k (.int .i64 0)), (1, 1, .k (.int .i64 0)), (2, 1, .t 21), (3, 1, .t 22)]⟩,
    ⟨some 24, none, ⟨[], []⟩, .call none 11 61 [.t 20, .t 23]⟩,
    ⟨some 9, none, ⟨[], []⟩, .mov (.t 24)⟩] [0, 1, 20, 21, 22, 23, 24] []) (.seq (.reg true [⟨some 25, none, ⟨[], []⟩, .mov (.t 8)⟩,
    ⟨some 26, none, ⟨[], []⟩, .nilc (.t 25)⟩,
    ⟨some 27, none, ⟨[], []⟩, .fld (.t 26) 1⟩,
    ⟨some 28, none, ⟨[], []⟩, .ld false none 0 0 (.t 27)⟩,
    ⟨some 29, none, ⟨[], []⟩, .mov (.t 9)⟩,
    ⟨some 30, none, ⟨[], []⟩, .mov (.t 29)⟩,
    ⟨some 31, some (30, true), ⟨[], []⟩, .mov (.t 8)⟩,
    ⟨some 32, some (30, true), ⟨[], []⟩, .nilc (.t 31)⟩,
    ⟨some 33, some (30, true), ⟨[], []⟩, .fld (.t 32) 0⟩,
    ⟨some 34, some (30, true), ⟨[], []⟩, .ld false none 0 0 (.t 33)⟩,
    ⟨some 35, some (30, true), ⟨[], []⟩, .len (.t 34)⟩,
    ⟨some 36, some (30, true), ⟨[], []⟩, .bin 0 .eql (.t 35) (.k (.int .i64 0))⟩,
    ⟨some 37, none, ⟨[], []⟩, .pick (.t 30) (.t 36) (.k (.bool false))⟩,
    ⟨some 6, none, ⟨[], []⟩, .mov (.t 28)⟩,
    ⟨some 7, none, ⟨[], []⟩, .mov (.t 37)⟩] [8, 9, 25, 26, 27, 28, 29, 30, 31, 32, 33, 34, 35, 36, 37] []) (.ret)))))
set_option maxRecDepth 4000 in
theorem comp41 : (Try.f41.body.bind fun c => compC tab isP chkAll ir41 c) = some ir41 := by kernel_rfl
def ir20 : IR :=
  .seq (.reg false [⟨some 6, none, ⟨[], []⟩, .mov (.k (.int .i64 0))⟩,
    ⟨some 7, none, ⟨[], []⟩, .mov (.k (.int .i64 0))⟩] [6, 7] []) (.seq (.seq (.reg false [⟨some 10, none, ⟨[], []⟩, .mov (.t 0)⟩,
    ⟨some 11, none, ⟨[], []⟩, .mov (.t 1)⟩,
    ⟨some 12, none, ⟨[], []⟩, .callp 39 [.t 10, .t 11]⟩,
    ⟨some 13, none, ⟨[], []⟩, .not (.t 12)⟩,
    ⟨some 14, none, ⟨[], []⟩, .mov (.t 13)⟩,
    ⟨some 15, some (14, false), ⟨[], []⟩, .mov (.t 2)⟩,
    ⟨some 16, some (14, false), ⟨[], []⟩, .mov (.t 0)⟩,
    ⟨some 17, some (14, false), ⟨[], []⟩, .mov (.t 1)⟩,
    ⟨some 18, some (14, false), ⟨[], []⟩, .call (some 4) 10 40 [.t 15, .t 16, .t 17]⟩,
    ⟨some 19, some (14, false), ⟨[], []⟩, .not (.t 18)⟩,
    ⟨some 20, none, ⟨[], []⟩, .pick (.t 14) (.k (.bool true)) (.t 19)⟩] [10, 11, 12, 13, 14, 15, 16, 17, 18, 19] []) (.cond (.t 20) (.seq (.reg false [⟨some 6, none, ⟨[], []⟩, .mov (.k (.int .i64 0))⟩,
    ⟨some 7, none, ⟨[], []⟩, .mov (.k (.int .i64 2))⟩] [0, 1, 2, 20] []) (.ret)) (.skip))) (.seq (.reg false [⟨some 22, none, ⟨[], []⟩, .mov (.t 0)⟩,
    ⟨some 23, none, ⟨[], []⟩, .mov (.t 1)⟩,
    ⟨some 24, none, ⟨[], []⟩, .mov (.t 2)⟩,
    ⟨some 25, none, ⟨[], []⟩, .call (some 4) 14 41 [.t 22, .t 23, .t 24]⟩,
    ⟨some 21, none, ⟨[], []⟩, .mov (.t 25)⟩,
    ⟨some 26, none, ⟨[], []⟩, .ext (.t 21) 0⟩,
    ⟨some 27, none, ⟨[], []⟩, .ext (.t 21) 1⟩,
    ⟨some 8, none, ⟨[], []⟩, .mov (.t 26)⟩,
    ⟨some 9, none, ⟨[], []⟩, .mov (.t 27)⟩] [0, 1, 2, 6, 7, 20, 21, 22, 23, 24, 25, 26, 27] []) (.seq (.seq (.reg false [⟨some 28, none, ⟨[], []⟩, .mov (.t 9)⟩,
    ⟨some 29, none, ⟨[], []⟩, .not (.t 28)⟩] [9, 28] []) (.cond (.t 29) (.seq (.reg false [⟨some 6, none, ⟨[], []⟩, .mov (.k (.int .i64 0))⟩,
    ⟨some 7, none, ⟨[], []⟩, .mov (.k (.int .i64 71))⟩] [8, 29] []) (.ret)) (.skip))) (.seq (.reg false [⟨some 30, none, ⟨[], []⟩, .mov (.t 8)⟩,
    ⟨some 6, none, ⟨[], []⟩, .mov (.t 30)⟩,
    ⟨some 7, none, ⟨[], []⟩, .mov (.k (.int .i64 0))⟩] [8, 29, 30] []) (.ret)))))
set_option maxRecDepth 4000 in
theorem comp20 : (Try.f20.body.bind fun c => compC tab isP chkAll ir20 c) = some ir20 := by kernel_rfl
/-- A plane of w by h, of zeros. -/
def zP (w h : Int) : Pn := ⟨w.toNat, h.toNat, List.replicate (h.toNat * w.toNat) 0⟩
theorem zP_ok {w h : Int} (w0 : 0 ≤ w) (w1 : w ≤ 200) (h0 : 0 ≤ h) (h1 : h ≤ 200) (hn : ¬ w * h = 0) : (zP w h).grey ∧ inR (zP w h) ⟨0, 0, w, h⟩ ∧ w * h ≤ (fuelN : Int) ∧ 1 ≤ w ∧ 1 ≤ h := by
  have hw : w ≠ 0 := fun e => hn (by rw [e, Int.zero_mul])
  have hh : h ≠ 0 := fun e => hn (by rw [e, Int.mul_zero])
  have := mul_bd w0 w1 h0 h1
  refine ⟨⟨show w.toNat ≤ 200 by omega, show h.toNat ≤ 200 by omega, by simp [zP], allIn_rd.2 fun i hi => ?_⟩, ⟨Int.le_refl _, Int.le_refl _, show 1 ≤ w by omega, show 1 ≤ h by omega, show 0 + w ≤ (w.toNat : Int) by omega, show 0 + h ≤ (h.toNat : Int) by omega⟩, show w * h ≤ ((40000 : Nat) : Int) by omega, by omega, by omega⟩
  simp [zP] at hi ⊢
  simp [rd, hi]
def cuT (w h : Int) (l : List Pt) : Bool × Nat × Int := tk l fuelN ⟨0, 0, w, h⟩ (0, 0)
/-- Whether a list is a tree, and its cuts. -/
def cuS (w h : Int) (l : List Pt) : Bool × Int := if w * h = 0 then (decide (l.length = 0), 0) else ((cuT w h l).1 && decide ((cuT w h l).2.1 = l.length), (cuT w h l).2.2)
def fs41 : FS where
  A := ArA
  args := fun a => [.int .i64 a.w, .int .i64 a.h, .sl 0 a.L a.s 0 a.l.length]
  mem := fun a => [some (.ro, a.L, .recs 5 false [] (a.l.map Pt.rc))]
  pre := fun a => a.l.length ≤ 1000000 ∧ (0 < a.l.length → a.s = 5) ∧ 0 ≤ a.w ∧ a.w ≤ 200 ∧ 0 ≤ a.h ∧ a.h ≤ 200
  res := fun a _ => .tup [.int .i64 (cuS a.w a.h a.l).2, .bool (cuS a.w a.h a.l).1]
  out := fun _ _ => []
  new := fun _ _ => []
def inv41 : List SV → Look → Option (ArA × List Nat)
  | [.int .i64 W, .int .i64 H, .sl c _ s 0 _], look => match rowR (look c) with
    | some (L, 5, _, r) => match getPt r with | some l => some (⟨L, s, l, W, H⟩, [c]) | none => none
    | _ => none
  | _, _ => none
attribute [push_cast] inv41
theorem ok41 : FSOk Try.prog 41 fs41 := by
  refine ⟨⟨_, Try.func41, by kernel_rfl, by kernel_rfl⟩, fun a => ⟨by simp [fs41, push_cast, noMine, argOwn, Chunk.frArg], by simp [fs41, push_cast, outOk, Chunk.ext], fun x => .inl (by simp [fs41, push_cast, frNew, frOut, Chunk.fr])⟩, fun a hp => ?_⟩
  obtain ⟨L, s, l, W, H⟩ := a
  obtain ⟨hl, hs, h1, h2, h3, h4⟩ : l.length ≤ 1000000 ∧ (0 < l.length → s = 5) ∧ 0 ≤ W ∧ W ≤ 200 ∧ 0 ≤ H ∧ H ≤ 200 := hp
  have hm := mul_bd h1 h2 h3 h4
  have hget := getPt_map l
  have hlm : (l.map Pt.rc).length = l.length := List.length_map _
  change Tri Try.prog 41 [.int .i64 W, .int .i64 H, .sl 0 L s 0 l.length] [some (.ro, L, .recs 5 false [] (l.map Pt.rc))] (postF fs41 ⟨L, s, l, W, H⟩)
  refine tri_evS (hyp (l := [(61, spOf (fs61 (zP W H) fuelN) inv61)]) (lp := [])
      ⟨entry_of (ok61 (zP W H) fuelN) inv61, trivial⟩ trivial) Try.func41 comp41 (rs := [.tmp 6, .tmp 7]) (by rfl) Try.ntmps41 15 ?_
  by_cases hn : W * H = 0
  · have e1 : cuS W H l = (decide (l.length = 0), 0) := by unfold cuS; rw [if_pos hn]
    have hi : ((l.length : Int) = 0) = (l.length = 0) := by simp
    simp -implicitDefEqProofs only [push_cast, false_implies, reduceCtorEq, Classical.not_not, Nat.reduceAdd, Nat.reduceSub, Nat.reduceMul, Nat.reduceLeDiff, Nat.reduceLT, Nat.reduceEqDiff, Nat.reduceBEq, Nat.reduceBNe, Int.reduceNeg, Int.reduceToNat, Bool.or_false, Bool.false_or, Bool.or_true, Bool.true_or, BEq.rfl, Bool.not_eq_true, Bool.not_eq_false, decide_eq_true_eq, not_true_eq_false, not_false_eq_true, ite_true, ite_false, List.append_nil, and_assoc, Nat.mul_zero, Nat.zero_mul, ir41, hn]
    refine ⟨by decide, by decide, postF.mk' (fun _ => default) [some 0] ?_⟩
    simp -implicitDefEqProofs only [push_cast, false_implies, reduceCtorEq, Classical.not_not, Nat.reduceAdd, Nat.reduceSub, Nat.reduceMul, Nat.reduceLeDiff, Nat.reduceLT, Nat.reduceEqDiff, Nat.reduceBEq, Nat.reduceBNe, Int.reduceNeg, Int.reduceToNat, Bool.or_false, Bool.false_or, Bool.or_true, Bool.true_or, BEq.rfl, Bool.not_eq_true, Bool.not_eq_false, decide_eq_true_eq, not_true_eq_false, not_false_eq_true, ite_true, ite_false, List.append_nil, and_assoc, Nat.mul_zero, Nat.zero_mul, fs41, e1, hi]
  · obtain ⟨z1, z2, z3, z4, z5⟩ := zP_ok h1 h2 h3 h4 hn
    have e1 : cuS W H l = ((cuT W H l).1 && decide ((cuT W H l).2.1 = l.length), (cuT W H l).2.2) := by unfold cuS; rw [if_neg hn]
    have hl0 : l.length - 0 = l.length := rfl
    have hbd := tk_bd fuelN ⟨0, 0, W, H⟩ (0, 0) (l := l) z2 z3 (Nat.zero_le _)
    have har : area ⟨0, 0, W, H⟩ = W * H := rfl
    obtain ⟨b, o, c, ht⟩ : ∃ b o c, cuT W H l = (b, o, c) := ⟨_, _, _, rfl⟩
    rw [ht] at e1
    unfold cuT at ht
    rw [ht, har] at hbd
    simp -implicitDefEqProofs only [push_cast, false_implies, reduceCtorEq, Classical.not_not, Nat.reduceAdd, Nat.reduceSub, Nat.reduceMul, Nat.reduceLeDiff, Nat.reduceLT, Nat.reduceEqDiff, Nat.reduceBEq, Nat.reduceBNe, Int.reduceNeg, Int.reduceToNat, Bool.or_false, Bool.false_or, Bool.or_true, Bool.true_or, BEq.rfl, Bool.not_eq_true, Bool.not_eq_false, decide_eq_true_eq, not_true_eq_false, not_false_eq_true, ite_true, ite_false, List.append_nil, and_assoc, Nat.mul_zero, Nat.zero_mul, ir41, hn, fs61, wkV, hget, hlm, Int.toNat_natCast, ht, har, hl0, z1, z2, z3]
    obtain ⟨-, b1, b2, b3⟩ := hbd
    simp only at b1 b2 b3
    have hi : (((l.length - o : Nat) : Int) = 0) = (o = l.length) := by
      apply propext; constructor <;> intro h <;> omega
    refine ⟨by omega, by omega, fun X => ⟨hl, hs, Nat.zero_le _, by decide, by omega, ?_⟩⟩
    refine postF.mk' (fun _ => default) [some 0] ?_
    simp -implicitDefEqProofs only [push_cast, false_implies, reduceCtorEq, Classical.not_not, Nat.reduceAdd, Nat.reduceSub, Nat.reduceMul, Nat.reduceLeDiff, Nat.reduceLT, Nat.reduceEqDiff, Nat.reduceBEq, Nat.reduceBNe, Int.reduceNeg, Int.reduceToNat, Bool.or_false, Bool.false_or, Bool.or_true, Bool.true_or, BEq.rfl, Bool.not_eq_true, Bool.not_eq_false, decide_eq_true_eq, not_true_eq_false, not_false_eq_true, ite_true, ite_false, List.append_nil, and_assoc, Nat.mul_zero, Nat.zero_mul, fs41, e1, hi]
def ent41 : Entry := spOf fs41 inv41
theorem e41 : EntryOk Try.prog 41 ent41 := entry_of ok41 inv41
@[push_cast] theorem ent41_app (us : List SV) (look : Look) (x : Nat → Xf.Loc) (k : Nat) : ent41 us look x k = spOf fs41 inv41 us look x k := rfl
def cuN (w h : Int) (l : List Pt) : Int := if ptsIn w h l ∧ (cuS w h l).1 = true then (cuS w h l).2 else 0
def cuE (w h : Int) (l : List Pt) : Int := if ptsIn w h l then if (cuS w h l).1 = true then 0 else 71 else 2
def fs20 : FS := { fs41 with res := fun a _ => .tup [.int .i64 (cuN a.w a.h a.l), .int .i64 (cuE a.w a.h a.l)] }
theorem ok20 : FSOk Try.prog 20 fs20 := by
  refine ⟨⟨_, Try.func20, by kernel_rfl, by kernel_rfl⟩, fun a => ⟨by simp [fs20, fs41, push_cast, noMine, argOwn, Chunk.frArg], by simp [fs20, fs41, push_cast, outOk, Chunk.ext], fun x => .inl (by simp [fs20, fs41, push_cast, frNew, frOut, Chunk.fr])⟩, fun a hp => ?_⟩
  obtain ⟨L, s, l, W, H⟩ := a
  obtain ⟨hl, hs, h1, h2, h3, h4⟩ : l.length ≤ 1000000 ∧ (0 < l.length → s = 5) ∧ 0 ≤ W ∧ W ≤ 200 ∧ 0 ≤ H ∧ H ≤ 200 := hp
  have hget := getPt_map l
  have hlm : (l.map Pt.rc).length = l.length := List.length_map _
  change Tri Try.prog 20 [.int .i64 W, .int .i64 H, .sl 0 L s 0 l.length] [some (.ro, L, .recs 5 false [] (l.map Pt.rc))] (postF fs20 ⟨L, s, l, W, H⟩)
  refine tri_evS (hyp (l := [(40, ent40), (41, ent41)]) (lp := [(39, sides4F)]) ⟨e40, e41, trivial⟩ ⟨p39, trivial⟩) Try.func20 comp20 (rs := [.tmp 6, .tmp 7]) (by rfl) Try.ntmps20 18 ?_
  obtain ⟨⟨b, n⟩, hc⟩ : ∃ c, cuS W H l = c := ⟨_, rfl⟩
  have hw : 0 ≤ W ∧ 0 ≤ H ∧ W ≤ 200 ∧ H ≤ 200 := ⟨h1, h3, h2, h4⟩
  by_cases hP : ptsIn W H l
  · cases b
    all_goals
      simp -implicitDefEqProofs only [push_cast, false_implies, reduceCtorEq, Classical.not_not, Nat.reduceAdd, Nat.reduceSub, Nat.reduceMul, Nat.reduceLeDiff, Nat.reduceLT, Nat.reduceEqDiff, Nat.reduceBEq, Nat.reduceBNe, Int.reduceNeg, Int.reduceToNat, Bool.or_false, Bool.false_or, Bool.or_true, Bool.true_or, BEq.rfl, Bool.not_eq_true, Bool.not_eq_false, decide_eq_true_eq, not_true_eq_false, not_false_eq_true, ite_true, ite_false, List.append_nil, and_assoc, Nat.mul_zero, Nat.zero_mul, ir20, fs40, fs41, hget, hlm, hc, h1, h2, h3, h4, hl, hs, hP]
      refine ⟨hs, hs, ?_⟩
      refine postF.mk' (fun _ => default) [some 0] ?_
      simp -implicitDefEqProofs only [push_cast, false_implies, reduceCtorEq, Classical.not_not, Nat.reduceAdd, Nat.reduceSub, Nat.reduceMul, Nat.reduceLeDiff, Nat.reduceLT, Nat.reduceEqDiff, Nat.reduceBEq, Nat.reduceBNe, Int.reduceNeg, Int.reduceToNat, Bool.or_false, Bool.false_or, Bool.or_true, Bool.true_or, BEq.rfl, Bool.not_eq_true, Bool.not_eq_false, decide_eq_true_eq, not_true_eq_false, not_false_eq_true, ite_true, ite_false, List.append_nil, and_assoc, Nat.mul_zero, Nat.zero_mul, fs20, fs41, cuN, cuE, hc, hP, if_true, if_false, false_and, true_and]
  · simp -implicitDefEqProofs only [push_cast, false_implies, reduceCtorEq, Classical.not_not, Nat.reduceAdd, Nat.reduceSub, Nat.reduceMul, Nat.reduceLeDiff, Nat.reduceLT, Nat.reduceEqDiff, Nat.reduceBEq, Nat.reduceBNe, Int.reduceNeg, Int.reduceToNat, Bool.or_false, Bool.false_or, Bool.or_true, Bool.true_or, BEq.rfl, Bool.not_eq_true, Bool.not_eq_false, decide_eq_true_eq, not_true_eq_false, not_false_eq_true, ite_true, ite_false, List.append_nil, and_assoc, Nat.mul_zero, Nat.zero_mul, ir20, fs40, fs41, hget, hlm, hc, h1, h2, h3, h4, hl, hs, hP]
    refine ⟨hs, ?_⟩
    refine postF.mk' (fun _ => default) [some 0] ?_
    simp -implicitDefEqProofs only [push_cast, false_implies, reduceCtorEq, Classical.not_not, Nat.reduceAdd, Nat.reduceSub, Nat.reduceMul, Nat.reduceLeDiff, Nat.reduceLT, Nat.reduceEqDiff, Nat.reduceBEq, Nat.reduceBNe, Int.reduceNeg, Int.reduceToNat, Bool.or_false, Bool.false_or, Bool.or_true, Bool.true_or, BEq.rfl, Bool.not_eq_true, Bool.not_eq_false, decide_eq_true_eq, not_true_eq_false, not_false_eq_true, ite_true, ite_false, List.append_nil, and_assoc, Nat.mul_zero, Nat.zero_mul, fs20, fs41, cuN, cuE, hc, hP, if_true, if_false, false_and, true_and]
def ent20 : Entry := spOf fs20 inv41
theorem e20 : EntryOk Try.prog 20 ent20 := entry_of ok20 inv41
@[push_cast] theorem ent20_app (us : List SV) (look : Look) (x : Nat → Xf.Loc) (k : Nat) : ent20 us look x k = spOf fs20 inv41 us look x k := rfl
structure EyA where
  a : PlA
  e : En
  LP : Xf.Loc
  s : Nat
  l : List Pt
theorem tks_shift {f : Rt → Nat × Int → Bool × Nat × Int} {d : Int} (h : ∀ q s, f q (s.1, s.2 + d) = ((f q s).1, (f q s).2.1, (f q s).2.2 + d)) : ∀ Q s, tks f Q (s.1, s.2 + d) = ((tks f Q s).1, (tks f Q s).2.1, (tks f Q s).2.2 + d)
  | [], s => rfl
  | q :: Q, s => by
    rw [tks, tks, h]
    simp only
    split
    · exact tks_shift h Q (f q s).2
    · rfl
theorem tk_shift (l : List Pt) (d : Int) : ∀ (N : Nat) (r : Rt) (s : Nat × Int), tk l N r (s.1, s.2 + d) = ((tk l N r s).1, (tk l N r s).2.1, (tk l N r s).2.2 + d)
  | 0, r, s => rfl
  | N + 1, r, s => by
    rw [tk, tk]
    simp only
    split
    · split
      · rfl
      · split
        · rfl
        · have := tks_shift (tk_shift l d N) (qs r) (s.1, s.2 + 1)
          simp only at this
          rw [← this]
          congr 2
          omega
    · rfl
def b58_1 : IR :=
  .seq (.seq (.reg false [⟨some 43, none, ⟨[], []⟩, .mov (.t 11)⟩,
    ⟨some 44, none, ⟨[], []⟩, .mov (.t 10)⟩,
    ⟨some 45, none, ⟨[], []⟩, .len (.t 44)⟩,
    ⟨some 46, none, ⟨[], []⟩, .bin 0 .lss (.t 43) (.t 45)⟩] [43, 44, 45] []) (.cond (.t 46) (.skip) (.exit 0))) (.seq (.block 1 (.seq (.reg false [⟨some 50, none, ⟨[], []⟩, .mov (.t 10)⟩,
    ⟨some 51, none, ⟨[], []⟩, .mov (.t 11)⟩,
    ⟨some 52, none, ⟨[], []⟩, .idxS (.t 50) (.t 51) 5⟩,
    ⟨some 53, none, ⟨[], []⟩, .ld true (some 5) 0 0 (.t 52)⟩,
    ⟨some 54, none, ⟨[], []⟩, .mov (.t 1)⟩,
    ⟨some 55, none, ⟨[], []⟩, .call (some 4) 16 58 [.t 53, .t 54]⟩,
    ⟨some 49, none, ⟨[], []⟩, .mov (.t 55)⟩,
    ⟨some 56, none, ⟨[], []⟩, .ext (.t 49) 0⟩,
    ⟨some 57, none, ⟨[], []⟩, .ext (.t 49) 1⟩,
    ⟨some 58, none, ⟨[], []⟩, .ext (.t 49) 2⟩,
    ⟨some 12, none, ⟨[], []⟩, .mov (.t 56)⟩,
    ⟨some 13, none, ⟨[], []⟩, .mov (.t 57)⟩,
    ⟨some 14, none, ⟨[], []⟩, .mov (.t 58)⟩] [1, 46, 49, 50, 51, 52, 53, 54, 55, 56, 57, 58] []) (.seq (.seq (.reg false [⟨some 59, none, ⟨[], []⟩, .mov (.t 14)⟩,
    ⟨some 60, none, ⟨[], []⟩, .not (.t 59)⟩] [14, 59] []) (.cond (.t 60) (.seq (.reg false [⟨some 4, none, ⟨[], []⟩, .mov (.k (.int .i64 0))⟩,
    ⟨some 5, none, ⟨[], []⟩, .mov (.k nilSV)⟩,
    ⟨some 6, none, ⟨[], []⟩, .mov (.k (.bool false))⟩] [9, 10, 11, 12, 13, 60] []) (.ret)) (.skip))) (.seq (.reg false [⟨some 61, none, ⟨[], []⟩, .mov (.t 9)⟩,
    ⟨some 62, none, ⟨[], []⟩, .mov (.t 12)⟩,
    ⟨some 63, none, ⟨[], []⟩, .bin 0 .add (.t 61) (.t 62)⟩,
    ⟨some 9, none, ⟨[], []⟩, .mov (.t 63)⟩] [4, 5, 6, 12, 60, 61, 62, 63] []) (.reg false [⟨some 64, none, ⟨[], []⟩, .mov (.t 13)⟩,
    ⟨some 1, none, ⟨[], []⟩, .mov (.t 64)⟩] [13, 64] []))))) (.reg false [⟨some 47, none, ⟨[], []⟩, .mov (.t 11)⟩,
    ⟨some 48, none, ⟨[], []⟩, .bin 0 .add (.t 47) (.k (.int .i64 1))⟩,
    ⟨some 11, none, ⟨[], []⟩, .mov (.t 48)⟩] [47, 48] []))
def r58_2 : IR :=
  .seq (.reg false [⟨some 65, none, ⟨[], []⟩, .mov (.t 9)⟩,
    ⟨some 66, none, ⟨[], []⟩, .mov (.t 1)⟩,
    ⟨some 4, none, ⟨[], []⟩, .mov (.t 65)⟩,
    ⟨some 5, none, ⟨[], []⟩, .mov (.t 66)⟩,
    ⟨some 6, none, ⟨[], []⟩, .mov (.k (.bool true))⟩] [1, 9, 10, 11, 65, 66] []) (.ret)
def ir58 : IR :=
  .seq (.reg false [⟨some 2, none, ⟨[], []⟩, .box 10 (.t 0)⟩,
    ⟨some 4, none, ⟨[], []⟩, .mov (.k (.int .i64 0))⟩,
    ⟨some 5, none, ⟨[], []⟩, .mov (.k nilSV)⟩,
    ⟨some 6, none, ⟨[], []⟩, .mov (.k (.bool false))⟩] [0, 4, 5, 6] []) (.seq (.seq (.reg false [⟨some 15, none, ⟨[], []⟩, .mov (.t 1)⟩,
    ⟨some 16, none, ⟨[], []⟩, .len (.t 15)⟩,
    ⟨some 17, none, ⟨[], []⟩, .bin 0 .eql (.t 16) (.k (.int .i64 0))⟩] [15, 16] []) (.cond (.t 17) (.seq (.reg false [⟨some 4, none, ⟨[], []⟩, .mov (.k (.int .i64 0))⟩,
    ⟨some 5, none, ⟨[], []⟩, .mov (.k nilSV)⟩,
    ⟨some 6, none, ⟨[], []⟩, .mov (.k (.bool false))⟩] [1, 2, 17] []) (.ret)) (.skip))) (.seq (.reg false [⟨some 18, none, ⟨[], []⟩, .mov (.t 1)⟩,
    ⟨some 19, none, ⟨[], []⟩, .idxS (.t 18) (.k (.int .i64 0)) 5⟩,
    ⟨some 20, none, ⟨[], []⟩, .ld true (some 5) 0 0 (.t 19)⟩,
    ⟨some 7, none, ⟨[], []⟩, .alloc 11 [.int .i64 0, .int .i64 0, .int .i64 0, .int .i64 0, .int .i64 0]⟩,
    ⟨none, none, ⟨[], []⟩, .sto false 5 .i64 (.t 7) (.t 20)⟩] [4, 5, 6, 17, 18, 19, 20] []) (.seq (.reg false [⟨some 21, none, ⟨[], []⟩, .fld (.t 7) 0⟩,
    ⟨some 22, none, ⟨[], []⟩, .ld false none 0 0 (.t 21)⟩,
    ⟨some 8, none, ⟨[], []⟩, .mov (.t 22)⟩] [21, 22] []) (.seq (.reg false [⟨some 23, none, ⟨[], []⟩, .fld (.t 7) 0⟩,
    ⟨none, none, ⟨[], []⟩, .sto false 1 .i64 (.t 23) (.k (.int .i64 0))⟩] [23] []) (.seq (.seq (.reg false [⟨some 24, none, ⟨[], []⟩, .ld false (some 5) 0 0 (.t 7)⟩,
    ⟨some 25, none, ⟨[], []⟩, .ld false (some 5) 0 0 (.t 2)⟩,
    ⟨some 26, none, ⟨[], []⟩, .binA .eql [true, true, true, true, true] (.t 24) (.t 25)⟩] [7, 24, 25] []) (.cond (.t 26) (.seq (.reg true [⟨some 27, none, ⟨[], []⟩, .mov (.t 1)⟩,
    ⟨some 28, none, ⟨[], []⟩, .slc (.t 27) 5 (some (.k (.int .i64 1))) none⟩,
    ⟨some 29, none, ⟨[], []⟩, .mov (.t 8)⟩,
    ⟨some 30, none, ⟨[], []⟩, .bin 0 .geq (.t 29) (.k (.int .i64 0))⟩,
    ⟨some 31, none, ⟨[], []⟩, .mov (.t 30)⟩,
    ⟨some 32, some (31, true), ⟨[], []⟩, .mov (.t 8)⟩,
    ⟨some 33, some (31, true), ⟨[], []⟩, .bin 0 .leq (.t 32) (.k (.int .i64 2))⟩,
    ⟨some 34, none, ⟨[], []⟩, .pick (.t 31) (.t 33) (.k (.bool false))⟩,
    ⟨some 4, none, ⟨[], []⟩, .mov (.k (.int .i64 0))⟩,
    ⟨some 5, none, ⟨[], []⟩, .mov (.t 28)⟩,
    ⟨some 6, none, ⟨[], []⟩, .mov (.t 34)⟩] [1, 2, 8, 26, 27, 28, 29, 30, 31, 32, 33, 34] []) (.ret)) (.skip))) (.seq (.seq (.reg false [⟨some 35, none, ⟨[], []⟩, .fld (.t 2) 3⟩,
    ⟨some 36, none, ⟨[], []⟩, .ld false none 0 0 (.t 35)⟩,
    ⟨some 37, none, ⟨[], []⟩, .fld (.t 2) 4⟩,
    ⟨some 38, none, ⟨[], []⟩, .ld false none 0 0 (.t 37)⟩,
    ⟨some 39, none, ⟨[], []⟩, .bin 0 .mul (.t 36) (.t 38)⟩,
    ⟨some 40, none, ⟨[], []⟩, .bin 0 .lss (.t 39) (.k (.int .i64 2))⟩] [4, 5, 6, 8, 26, 35, 36, 37, 38, 39] []) (.cond (.t 40) (.seq (.reg false [⟨some 4, none, ⟨[], []⟩, .mov (.k (.int .i64 0))⟩,
    ⟨some 5, none, ⟨[], []⟩, .mov (.k nilSV)⟩,
    ⟨some 6, none, ⟨[], []⟩, .mov (.k (.bool false))⟩] [1, 2, 40] []) (.ret)) (.skip))) (.seq (.reg false [⟨some 9, none, ⟨[], []⟩, .mov (.k (.int .i64 1))⟩] [4, 5, 6, 40] []) (.seq (.reg false [⟨some 41, none, ⟨[], []⟩, .ld false (some 5) 0 0 (.t 2)⟩,
    ⟨some 42, none, ⟨[], []⟩, .call (some 4) 12 62 [.t 41]⟩,
    ⟨some 10, none, ⟨[], []⟩, .mov (.t 42)⟩] [2, 41, 42] []) (.seq (.seq (.reg false [⟨some 11, none, ⟨[], []⟩, .mov (.k (.int .i64 0))⟩] [] []) (.block 0 (.loop b58_1))) (r58_2))))))))))
def kp58_1 : List Nat := [1, 9, 10, 11]
def kl58_1 : List Nat := [16, 17, 18, 19]
attribute [push_cast] kp58_1 kl58_1
set_option maxRecDepth 4000 in
theorem comp58 : (Try.f58.body.bind fun c => compC tab isP chkAll ir58 c) = some ir58 := by kernel_rfl
structure TkA where
  L : Xf.Loc
  sz : Nat
  l : List Pt
  o : Nat
  r : Rt
def tkV (L : Xf.Loc) (l : List Pt) : Bool × Nat × Int → SV
  | (true, o, c) => .tup [.int .i64 c, .sl 0 L 5 o ((l.length - o : Nat) : Int), .bool true]
  | (false, _, _) => .tup [.int .i64 0, nilSV, .bool false]
def kdOk (l : List Pt) : Prop := ∀ x ∈ l, 0 ≤ x.kind ∧ x.kind ≤ 2
def fs58 (p : Pn) (N : Nat) : FS where
  A := TkA
  args := fun a => [.agg [.int .i64 0, .int .i64 a.r.x, .int .i64 a.r.y, .int .i64 a.r.w, .int .i64 a.r.h], .sl 0 a.L a.sz a.o ((a.l.length - a.o : Nat) : Int)]
  mem := fun a => [some (.ro, a.L, .recs 5 false [] (a.l.map Pt.rc))]
  pre := fun a => p.grey ∧ inR p a.r ∧ a.r.w * a.r.h ≤ N ∧ a.l.length ≤ 1000000 ∧ (0 < a.l.length → a.sz = 5) ∧ a.o ≤ a.l.length ∧ kdOk a.l
  res := fun a _ => tkV a.L a.l (tk a.l N a.r (a.o, 0))
  out := fun _ _ => []
  new := fun _ _ => []
def inv58 : List SV → Look → Option (TkA × List Nat)
  | [.agg [.int .i64 _, .int .i64 x, .int .i64 y, .int .i64 w, .int .i64 h], .sl d _ s o _], look => match rowR (look d) with
      | some (L, 5, _, r) => match getPt r with | some l => some (⟨L, s, l, o.toNat, ⟨x, y, w, h⟩⟩, [d]) | none => none
      | _ => none
  | _, _ => none
attribute [push_cast] inv58
set_option maxRecDepth 4000 in
set_option maxHeartbeats 2000000 in
theorem ok58 (p : Pn) : ∀ N, FSOk Try.prog 58 (fs58 p N)
  | 0 => by
    refine ⟨⟨_, Try.func58, by kernel_rfl, by kernel_rfl⟩, fun a => ⟨by simp [fs58, push_cast, noMine, argOwn, Chunk.frArg], by simp [fs58, push_cast, outOk, Chunk.ext], fun x => .inl (by simp [fs58, push_cast, frNew, frOut, Chunk.fr])⟩, fun a hp => ?_⟩
    obtain ⟨h1, h2, h3, h4⟩ := hp
    have := area_pos h2
    unfold area at this
    omega
  | N + 1 => by
    have ih := ok58 p N
    refine ⟨⟨_, Try.func58, by kernel_rfl, by kernel_rfl⟩, fun a => ⟨by simp [fs58, push_cast, noMine, argOwn, Chunk.frArg], by simp [fs58, push_cast, outOk, Chunk.ext], fun x => .inl (by simp [fs58, push_cast, frNew, frOut, Chunk.fr])⟩, fun a hp => ?_⟩
    obtain ⟨L, sz, l, o, r⟩ := a
    obtain ⟨hg, hin, hN, hl, hsz, ho, hkd⟩ : p.grey ∧ inR p r ∧ r.w * r.h ≤ ((N + 1 : Nat) : Int) ∧ l.length ≤ 1000000 ∧ (0 < l.length → sz = 5) ∧ o ≤ l.length ∧ kdOk l := hp
    have hok2 := hin.ok2 hg
    have har := area_pos hin
    have hne := qs_ne hin
    have hrec := fun {q : Rt} (hq : q ∈ qs r) (h1 : ¬ r.w * r.h = 1) => (show inR p q ∧ q.w * q.h ≤ N from ⟨(qs_in hin q hq).1, by have := (qs_in hin q hq).2 h1; unfold area at this; omega⟩)
    have hT0 : ¬ o < l.length → tk l (N + 1) r (o, 0) = (false, o, 0) := fun h => by rw [tk, if_neg h]
    have hT1 : o < l.length → (rdPt l o).rt = r → tk l (N + 1) r (o, 0) = (true, o + 1, 0) := fun h h' => by rw [tk, if_pos h, if_pos h']
    have hT2 : o < l.length → ¬ (rdPt l o).rt = r → r.w * r.h = 1 → tk l (N + 1) r (o, 0) = (false, o, 0) := fun h h' h1 => by rw [tk, if_pos h, if_neg h', if_pos h1]
    have hT3 : o < l.length → ¬ (rdPt l o).rt = r → ¬ r.w * r.h = 1 → tk l (N + 1) r (o, 0) = tks (tk l N) (qs r) (o, 1) := fun h h' h1 => by rw [tk, if_pos h, if_neg h', if_neg h1]; rfl
    have hq2 := fun h1 => qs_two (r := r) hin h1
    have hqsum := qs_sum r
    obtain ⟨Q, hQ⟩ : ∃ Q, qs r = Q := ⟨_, rfl⟩
    obtain ⟨A, hA⟩ : ∃ A, area r = A := ⟨_, rfl⟩
    rw [hQ, hA] at hqsum
    rw [hQ] at hq2 hne
    have hAr : r.w * r.h = A := hA
    rw [hA] at har
    obtain ⟨f, hf⟩ : ∃ f, tk l N = f := ⟨_, rfl⟩
    simp only [hQ, hf] at hT3 hrec
    obtain ⟨x, y, w, h⟩ := r
    obtain ⟨i1, i2, i3, i4, i5, i6⟩ := id hin
    obtain ⟨g1, g2, g3, g4⟩ := id hg
    simp only at i1 i2 i3 i4 i5 i6 hN hT1 hT2 hT3 hq2 hrec hAr
    have hm := mul_bd (a := w) (b := h) (A := 200) (B := 200) (by omega) (by omega) (by omega) (by omega)
    have hget := getPt_map l
    change Tri Try.prog 58 [.agg [.int .i64 0, .int .i64 x, .int .i64 y, .int .i64 w, .int .i64 h], .sl 0 L sz o ((l.length - o : Nat) : Int)] [some (.ro, L, .recs 5 false [] (l.map Pt.rc))] (postF (fs58 p (N + 1)) ⟨L, sz, l, o, ⟨x, y, w, h⟩⟩)
    refine tri_evS (hyp (l := [(58, spOf (fs58 p N) inv58), (62, ent62)]) (lp := [])
      ⟨entry_of ih inv58, e62, trivial⟩ trivial) Try.func58 comp58 (rs := [.tmp 4, .tmp 5, .tmp 6]) (by rfl) Try.ntmps58 20 ?_
    by_cases hol : o < l.length
    case neg =>
      have hm0 : ((l.length - o : Nat) : Int) = 0 := by omega
      simp -implicitDefEqProofs only [push_cast, false_implies, reduceCtorEq, Classical.not_not, Nat.reduceAdd, Nat.reduceSub, Nat.reduceMul, Nat.reduceLeDiff, Nat.reduceLT, Nat.reduceEqDiff, Nat.reduceBEq, Nat.reduceBNe, Int.reduceNeg, Int.reduceToNat, Bool.or_false, Bool.false_or, Bool.or_true, Bool.true_or, BEq.rfl, Bool.not_eq_true, Bool.not_eq_false, decide_eq_true_eq, not_true_eq_false, not_false_eq_true, ite_true, ite_false, List.append_nil, and_assoc, Nat.mul_zero, Nat.zero_mul, ir58, hm0]
      intro X
      refine postF.mk' (fun _ => default) [some 0] ?_
      simp -implicitDefEqProofs only [push_cast, false_implies, reduceCtorEq, Classical.not_not, Nat.reduceAdd, Nat.reduceSub, Nat.reduceMul, Nat.reduceLeDiff, Nat.reduceLT, Nat.reduceEqDiff, Nat.reduceBEq, Nat.reduceBNe, Int.reduceNeg, Int.reduceToNat, Bool.or_false, Bool.false_or, Bool.or_true, Bool.true_or, BEq.rfl, Bool.not_eq_true, Bool.not_eq_false, decide_eq_true_eq, not_true_eq_false, not_false_eq_true, ite_true, ite_false, List.append_nil, and_assoc, Nat.mul_zero, Nat.zero_mul, fs58, hT0 hol, hm0, tkV]
    obtain rfl := hsz (by omega)
    have r1 := recAt_Pt hol []
    have hkx := hkd _ (rdPt_mem hol)
    obtain ⟨q, hq⟩ : ∃ q, rdPt l o = q := ⟨_, rfl⟩
    rw [hq] at r1 hT1 hT2 hT3 hkx
    obtain ⟨kd, qx, qy, qw, qh⟩ := q
    obtain ⟨m, hm0⟩ : ∃ m, l.length - o = m + 1 := ⟨l.length - o - 1, by omega⟩
    have hm1 : ¬ (m : Int) + 1 = 0 := by omega
    have hm2 : l.length - (o + 1) = m := by omega
    have hlm : (l.map Pt.rc).length = l.length := List.length_map _
    have hrt : (Pt.rt ⟨kd, qx, qy, qw, qh⟩ = ⟨x, y, w, h⟩) ↔ (qx = x ∧ qy = y ∧ qw = w ∧ qh = h) := by simp [Pt.rt]
    rw [hrt] at hT1 hT2 hT3
    replace hT1 := hT1 hol
    replace hT2 := hT2 hol
    replace hT3 := hT3 hol
    obtain ⟨k0, k1⟩ := hkx
    simp only at k0 k1
    simp only [hm0]
    simp -implicitDefEqProofs only [push_cast, false_implies, reduceCtorEq, Classical.not_not, Nat.reduceAdd, Nat.reduceSub, Nat.reduceMul, Nat.reduceLeDiff, Nat.reduceLT, Nat.reduceEqDiff, Nat.reduceBEq, Nat.reduceBNe, Int.reduceNeg, Int.reduceToNat, Bool.or_false, Bool.false_or, Bool.or_true, Bool.true_or, BEq.rfl, Bool.not_eq_true, Bool.not_eq_false, decide_eq_true_eq, not_true_eq_false, not_false_eq_true, ite_true, ite_false, List.append_nil, and_assoc, Nat.mul_zero, Nat.zero_mul, ir58, r1, Pt.rc, hm1, hlm, fs62, hok2, hQ, hf, k0, k1]
    intro X X1
    repeat (refine And.intro (by first | omega | trivial | (intros; omega)) ?_)
    refine ⟨fun heq => ?_, fun heq => ⟨by omega, by omega, fun h1 => ?_, fun h1 => ?_⟩⟩
    · refine ⟨by omega, by omega, by omega, ?_⟩
      have e1 : (m : Int) + 1 - 1 = m := by omega
      refine postF.mk' (fun _ => default) [some 0] ?_
      simp -implicitDefEqProofs only [push_cast, false_implies, reduceCtorEq, Classical.not_not, Nat.reduceAdd, Nat.reduceSub, Nat.reduceMul, Nat.reduceLeDiff, Nat.reduceLT, Nat.reduceEqDiff, Nat.reduceBEq, Nat.reduceBNe, Int.reduceNeg, Int.reduceToNat, Bool.or_false, Bool.false_or, Bool.or_true, Bool.true_or, BEq.rfl, Bool.not_eq_true, Bool.not_eq_false, decide_eq_true_eq, not_true_eq_false, not_false_eq_true, ite_true, ite_false, List.append_nil, and_assoc, Nat.mul_zero, Nat.zero_mul, fs58, tkV, hT1 heq, hm2, e1]
    · refine postF.mk' (fun _ => default) [some 0] ?_
      simp -implicitDefEqProofs only [push_cast, false_implies, reduceCtorEq, Classical.not_not, Nat.reduceAdd, Nat.reduceSub, Nat.reduceMul, Nat.reduceLeDiff, Nat.reduceLT, Nat.reduceEqDiff, Nat.reduceBEq, Nat.reduceBNe, Int.reduceNeg, Int.reduceToNat, Bool.or_false, Bool.false_or, Bool.or_true, Bool.true_or, BEq.rfl, Bool.not_eq_true, Bool.not_eq_false, decide_eq_true_eq, not_true_eq_false, not_false_eq_true, ite_true, ite_false, List.append_nil, and_assoc, Nat.mul_zero, Nat.zero_mul, fs58, tkV, hT2 heq (by omega)]
    · intro X2
      replace h1 : ¬ w * h = 1 := by omega
      replace hT3 := hT3 heq h1
      replace hq2 := hq2 h1
      have hra := fun {q : Rt} (hq : q ∈ Q) => hrec hq h1
      have hareas : ∀ q ∈ Q, 1 ≤ area q := fun q hq => area_pos (hra hq).1
      have hQ4 : Q.length ≤ 4 := by rw [← hQ]; exact Nat.le_trans (List.length_filter_le _ _) (by simp [qd])
      have he5 := esz_pos (s := 5) (n := Q.length) (by omega)
      have hlr : ((Q.map pt0).map Pt.rc).length = Q.length := by rw [List.length_map, List.length_map]
      refine evS_loopU (A := Nat × Nat × Int) kp58_1 kl58_1 (fun y => [(11, .int .i64 y.1), (9, .int .i64 y.2.2), (1, .sl 0 L 5 y.2.1 ((l.length - y.2.1 : Nat) : Int))]) (fun _ => [])
        (fun y => y.1 ≤ Q.length ∧ y.2.1 ≤ l.length ∧ 0 ≤ y.2.2 ∧ y.2.2 + sumL ((Q.drop y.1).map area) + y.1 ≤ 1 + A ∧ tks f Q (o, 1) = tks f (Q.drop y.1) y.2) (fun y => Q.length - y.1) (0, o, 1) ⟨Nat.zero_le _, ho, show (0 : Int) ≤ 1 by decide, by rw [List.drop_zero]; simp only; omega, by rw [List.drop_zero]⟩ (Sub.pt ?_) ?_
      · simp -implicitDefEqProofs only [push_cast, false_implies, reduceCtorEq, Classical.not_not, Nat.reduceAdd, Nat.reduceSub, Nat.reduceMul, Nat.reduceLeDiff, Nat.reduceLT, Nat.reduceEqDiff, Nat.reduceBEq, Nat.reduceBNe, Int.reduceNeg, Int.reduceToNat, Bool.or_false, Bool.false_or, Bool.or_true, Bool.true_or, BEq.rfl, Bool.not_eq_true, Bool.not_eq_false, decide_eq_true_eq, not_true_eq_false, not_false_eq_true, ite_true, ite_false, List.append_nil, and_assoc, Nat.mul_zero, Nat.zero_mul, hm0]
      intro ⟨k, o', c'⟩ ⟨(hk : k ≤ Q.length), (ho' : o' ≤ l.length), (hc' : 0 ≤ c'), (hsum : c' + sumL ((Q.drop k).map area) + k ≤ 1 + A), (htk : tks f Q (o, 1) = tks f (Q.drop k) (o', c'))⟩ K hK
      by_cases hk' : k < Q.length
      · obtain ⟨d1, d2⟩ := tks_drop (f := f) hk' (o', c')
        have hmem := rdRt_mem hk'
        have r2 := recAt_Pt (l := Q.map pt0) (i := k) (by rw [List.length_map]; exact hk') []
        rw [rdPt_map hk'] at r2
        have hls := len_sum (Q.drop (k + 1)) fun q hq => hareas q (List.mem_of_mem_drop hq)
        rw [List.length_drop] at hls
        obtain ⟨q, hqq⟩ : ∃ q, rdRt Q (k : Int) = q := ⟨_, rfl⟩
        rw [hqq] at d1 d2 hmem r2
        obtain ⟨p1, p2⟩ := hra hmem
        have hbd := tk_bd N q (o', 0) p1 p2 ho'
        have hsh := tk_shift l c' N q (o', 0)
        have e0 : ((o', (0 : Int)).1, (o', (0 : Int)).2 + c') = (o', c') := by simp only [Int.zero_add]
        rw [e0, hf] at hsh
        obtain ⟨b, o2, c2, hfq⟩ : ∃ b o2 c2, tk l N q (o', 0) = (b, o2, c2) := ⟨_, _, _, rfl⟩
        rw [hfq] at hbd
        rw [← hf, hfq] at hsh
        rw [hf] at hsh
        rw [hsh] at d1
        obtain ⟨n1, n2, n3, n4⟩ := hbd
        obtain ⟨a, hqa⟩ : ∃ a, area q = a := ⟨_, rfl⟩
        rw [hqa] at d2 n4
        rw [d1] at htk
        obtain ⟨qx', qy', qw', qh'⟩ := q
        simp only at n1 n2 n3 n4 p2 htk
        cases b
        · rw [if_neg (by decide)] at htk
          clear hK
          simp -implicitDefEqProofs only [push_cast, false_implies, reduceCtorEq, Classical.not_not, Nat.reduceAdd, Nat.reduceSub, Nat.reduceMul, Nat.reduceLeDiff, Nat.reduceLT, Nat.reduceEqDiff, Nat.reduceBEq, Nat.reduceBNe, Int.reduceNeg, Int.reduceToNat, Bool.or_false, Bool.false_or, Bool.or_true, Bool.true_or, BEq.rfl, Bool.not_eq_true, Bool.not_eq_false, decide_eq_true_eq, not_true_eq_false, not_false_eq_true, ite_true, ite_false, List.append_nil, and_assoc, Nat.mul_zero, Nat.zero_mul, b58_1, r2, pt0, Pt.rc, hlr, he5, fs58, hfq, tkV, hget, hlm, Int.toNat_natCast]
          refine ⟨fun _ => ?_, fun h => by omega⟩
          repeat (refine And.intro (by first | omega | trivial | (intros; omega)) ?_)
          refine postF.mk' (fun _ => default) [some 0] ?_
          simp -implicitDefEqProofs only [push_cast, false_implies, reduceCtorEq, Classical.not_not, Nat.reduceAdd, Nat.reduceSub, Nat.reduceMul, Nat.reduceLeDiff, Nat.reduceLT, Nat.reduceEqDiff, Nat.reduceBEq, Nat.reduceBNe, Int.reduceNeg, Int.reduceToNat, Bool.or_false, Bool.false_or, Bool.or_true, Bool.true_or, BEq.rfl, Bool.not_eq_true, Bool.not_eq_false, decide_eq_true_eq, not_true_eq_false, not_false_eq_true, ite_true, ite_false, List.append_nil, and_assoc, Nat.mul_zero, Nat.zero_mul, hT3, htk, tkV]
        · rw [if_pos rfl] at htk
          simp -implicitDefEqProofs only [push_cast, false_implies, reduceCtorEq, Classical.not_not, Nat.reduceAdd, Nat.reduceSub, Nat.reduceMul, Nat.reduceLeDiff, Nat.reduceLT, Nat.reduceEqDiff, Nat.reduceBEq, Nat.reduceBNe, Int.reduceNeg, Int.reduceToNat, Bool.or_false, Bool.false_or, Bool.or_true, Bool.true_or, BEq.rfl, Bool.not_eq_true, Bool.not_eq_false, decide_eq_true_eq, not_true_eq_false, not_false_eq_true, ite_true, ite_false, List.append_nil, and_assoc, Nat.mul_zero, Nat.zero_mul, b58_1, r2, pt0, Pt.rc, hlr, he5, fs58, hfq, tkV, hget, hlm, Int.toNat_natCast]
          refine ⟨fun _ => ?_, fun h => by omega⟩
          repeat (refine And.intro (by first | omega | trivial | (intros; omega)) ?_)
          refine hK (k + 1, o2, c' + c2) ⟨show k + 1 ≤ Q.length by omega, n2, by simp only; omega, by simp only; push_cast; omega, by rw [htk]; simp only [Int.add_comm]⟩ (show Q.length - (k + 1) < Q.length - k by omega) _ _ (Sub.pt ?_)
          simp -implicitDefEqProofs only [push_cast, false_implies, reduceCtorEq, Classical.not_not, Nat.reduceAdd, Nat.reduceSub, Nat.reduceMul, Nat.reduceLeDiff, Nat.reduceLT, Nat.reduceEqDiff, Nat.reduceBEq, Nat.reduceBNe, Int.reduceNeg, Int.reduceToNat, Bool.or_false, Bool.false_or, Bool.or_true, Bool.true_or, BEq.rfl, Bool.not_eq_true, Bool.not_eq_false, decide_eq_true_eq, not_true_eq_false, not_false_eq_true, ite_true, ite_false, List.append_nil, and_assoc, Nat.mul_zero, Nat.zero_mul, he5]
      · obtain rfl : k = Q.length := by omega
        clear hK
        rw [List.drop_length] at htk
        have e1 : tks f [] (o', c') = (true, o', c') := rfl
        rw [e1] at htk
        simp -implicitDefEqProofs only [push_cast, false_implies, reduceCtorEq, Classical.not_not, Nat.reduceAdd, Nat.reduceSub, Nat.reduceMul, Nat.reduceLeDiff, Nat.reduceLT, Nat.reduceEqDiff, Nat.reduceBEq, Nat.reduceBNe, Int.reduceNeg, Int.reduceToNat, Bool.or_false, Bool.false_or, Bool.or_true, Bool.true_or, BEq.rfl, Bool.not_eq_true, Bool.not_eq_false, decide_eq_true_eq, not_true_eq_false, not_false_eq_true, ite_true, ite_false, List.append_nil, and_assoc, Nat.mul_zero, Nat.zero_mul, b58_1, r58_2, Int.lt_irrefl, true_implies, true_and]
        refine postF.mk' (fun _ => default) [some 0] ?_
        simp -implicitDefEqProofs only [push_cast, false_implies, reduceCtorEq, Classical.not_not, Nat.reduceAdd, Nat.reduceSub, Nat.reduceMul, Nat.reduceLeDiff, Nat.reduceLT, Nat.reduceEqDiff, Nat.reduceBEq, Nat.reduceBNe, Int.reduceNeg, Int.reduceToNat, Bool.or_false, Bool.false_or, Bool.or_true, Bool.true_or, BEq.rfl, Bool.not_eq_true, Bool.not_eq_false, decide_eq_true_eq, not_true_eq_false, not_false_eq_true, ite_true, ite_false, List.append_nil, and_assoc, Nat.mul_zero, Nat.zero_mul, fs58, hT3, htk, tkV]
def ir37 : IR :=
  .seq (.reg false [⟨some 6, none, ⟨[], []⟩, .mov (.k (.int .i64 0))⟩,
    ⟨some 7, none, ⟨[], []⟩, .mov (.k (.bool false))⟩] [6, 7] []) (.seq (.seq (.reg false [⟨some 11, none, ⟨[], []⟩, .mov (.t 0)⟩,
    ⟨some 12, none, ⟨[], []⟩, .bin 0 .eql (.t 11) (.k (.int .i64 0))⟩,
    ⟨some 13, none, ⟨[], []⟩, .mov (.t 12)⟩,
    ⟨some 14, some (13, false), ⟨[], []⟩, .mov (.t 1)⟩,
    ⟨some 15, some (13, false), ⟨[], []⟩, .bin 0 .eql (.t 14) (.k (.int .i64 0))⟩,
    ⟨some 16, none, ⟨[], []⟩, .pick (.t 13) (.k (.bool true)) (.t 15)⟩] [11, 12, 13, 14, 15] []) (.cond (.t 16) (.seq (.reg false [⟨some 17, none, ⟨[], []⟩, .mov (.t 2)⟩,
    ⟨some 18, none, ⟨[], []⟩, .len (.t 17)⟩,
    ⟨some 19, none, ⟨[], []⟩, .bin 0 .eql (.t 18) (.k (.int .i64 0))⟩,
    ⟨some 6, none, ⟨[], []⟩, .mov (.k (.int .i64 0))⟩,
    ⟨some 7, none, ⟨[], []⟩, .mov (.t 19)⟩] [0, 1, 2, 16, 17, 18, 19] []) (.ret)) (.skip))) (.seq (.reg false [⟨some 21, none, ⟨[], []⟩, .mov (.t 0)⟩,
    ⟨some 22, none, ⟨[], []⟩, .mov (.t 1)⟩,
    ⟨some 23, none, ⟨[], []⟩, .build [.int .i64 0, .int .i64 0, .int .i64 0, .int .i64 0, .int .i64 0] [(3, 1, .t 21), (4, 1, .t 22)]⟩,
    ⟨some 24, none, ⟨[], []⟩, .mov (.t 2)⟩,
    ⟨some 25, none, ⟨[], []⟩, .call (some 4) 10 58 [.t 23, .t 24]⟩,
    ⟨some 20, none, ⟨[], []⟩, .mov (.t 25)⟩,
    ⟨some 26, none, ⟨[], []⟩, .ext (.t 20) 0⟩,
    ⟨some 27, none, ⟨[], []⟩, .ext (.t 20) 1⟩,
    ⟨some 28, none, ⟨[], []⟩, .ext (.t 20) 2⟩,
    ⟨some 8, none, ⟨[], []⟩, .mov (.t 26)⟩,
    ⟨some 9, none, ⟨[], []⟩, .mov (.t 27)⟩,
    ⟨some 10, none, ⟨[], []⟩, .mov (.t 28)⟩] [0, 1, 2, 6, 7, 16, 20, 21, 22, 23, 24, 25, 26, 27, 28] []) (.seq (.reg false [⟨some 29, none, ⟨[], []⟩, .mov (.t 8)⟩,
    ⟨some 30, none, ⟨[], []⟩, .mov (.t 10)⟩,
    ⟨some 31, none, ⟨[], []⟩, .mov (.t 30)⟩,
    ⟨some 32, some (31, true), ⟨[], []⟩, .mov (.t 9)⟩,
    ⟨some 33, some (31, true), ⟨[], []⟩, .len (.t 32)⟩,
    ⟨some 34, some (31, true), ⟨[], []⟩, .bin 0 .eql (.t 33) (.k (.int .i64 0))⟩,
    ⟨some 35, none, ⟨[], []⟩, .pick (.t 31) (.t 34) (.k (.bool false))⟩,
    ⟨some 6, none, ⟨[], []⟩, .mov (.t 29)⟩,
    ⟨some 7, none, ⟨[], []⟩, .mov (.t 35)⟩] [8, 9, 10, 29, 30, 31, 32, 33, 34, 35] []) (.ret))))
set_option maxRecDepth 4000 in
theorem comp37 : (Try.f37.body.bind fun c => compC tab isP chkAll ir37 c) = some ir37 := by kernel_rfl
def cuR (w h : Int) (l : List Pt) : Int := if w * h = 0 then 0 else if (cuT w h l).1 = true then (cuT w h l).2.2 else 0
theorem cuR_of {w h : Int} {l : List Pt} (hb : (cuS w h l).1 = true) : cuR w h l = (cuS w h l).2 := by
  unfold cuS at hb ⊢
  unfold cuR
  split
  · rfl
  · rename_i h
    rw [if_neg h] at hb
    simp only [Bool.and_eq_true] at hb
    rw [if_pos hb.1]
def fs37 : FS := { fs41 with pre := fun a => a.l.length ≤ 1000000 ∧ (0 < a.l.length → a.s = 5) ∧ 0 ≤ a.w ∧ a.w ≤ 200 ∧ 0 ≤ a.h ∧ a.h ≤ 200 ∧ kdOk a.l, res := fun a _ => .tup [.int .i64 (cuR a.w a.h a.l), .bool (cuS a.w a.h a.l).1] }
set_option maxRecDepth 4000 in
theorem ok37 : FSOk Try.prog 37 fs37 := by
  refine ⟨⟨_, Try.func37, by kernel_rfl, by kernel_rfl⟩, fun a => ⟨by simp [fs37, fs41, push_cast, noMine, argOwn, Chunk.frArg], by simp [fs37, fs41, push_cast, outOk, Chunk.ext], fun x => .inl (by simp [fs37, fs41, push_cast, frNew, frOut, Chunk.fr])⟩, fun a hp => ?_⟩
  obtain ⟨L, s, l, W, H⟩ := a
  obtain ⟨hl, hs, h1, h2, h3, h4, hkd⟩ : l.length ≤ 1000000 ∧ (0 < l.length → s = 5) ∧ 0 ≤ W ∧ W ≤ 200 ∧ 0 ≤ H ∧ H ≤ 200 ∧ kdOk l := hp
  have hm := mul_bd h1 h2 h3 h4
  have hget := getPt_map l
  have hlm : (l.map Pt.rc).length = l.length := List.length_map _
  change Tri Try.prog 37 [.int .i64 W, .int .i64 H, .sl 0 L s 0 l.length] [some (.ro, L, .recs 5 false [] (l.map Pt.rc))] (postF fs37 ⟨L, s, l, W, H⟩)
  have z3 := fun hn => (zP_ok h1 h2 h3 h4 hn).2.2.1
  have ec : cuT W H l = tk l fuelN ⟨0, 0, W, H⟩ (0, 0) := rfl
  have hbd := fun hn => tk_bd fuelN ⟨0, 0, W, H⟩ (0, 0) (l := l) (zP_ok h1 h2 h3 h4 hn).2.1 (z3 hn) (Nat.zero_le _)
  generalize fuelN = N at z3 ec hbd
  refine tri_evS (hyp (l := [(58, spOf (fs58 (zP W H) N) inv58)]) (lp := [])
      ⟨entry_of (ok58 (zP W H) N) inv58, trivial⟩ trivial) Try.func37 comp37 (rs := [.tmp 6, .tmp 7]) (by rfl) Try.ntmps37 14 ?_
  have hWH : (W = 0 ∨ H = 0) ↔ W * H = 0 := Int.mul_eq_zero.symm
  by_cases hn : W * H = 0
  · have e1 : cuS W H l = (decide (l.length = 0), 0) := by unfold cuS; rw [if_pos hn]
    have e2 : cuR W H l = 0 := by unfold cuR; rw [if_pos hn]
    have hi : ((l.length : Int) = 0) = (l.length = 0) := by simp
    simp -implicitDefEqProofs only [push_cast, false_implies, reduceCtorEq, Classical.not_not, Nat.reduceAdd, Nat.reduceSub, Nat.reduceMul, Nat.reduceLeDiff, Nat.reduceLT, Nat.reduceEqDiff, Nat.reduceBEq, Nat.reduceBNe, Int.reduceNeg, Int.reduceToNat, Bool.or_false, Bool.false_or, Bool.or_true, Bool.true_or, BEq.rfl, Bool.not_eq_true, Bool.not_eq_false, decide_eq_true_eq, not_true_eq_false, not_false_eq_true, ite_true, ite_false, List.append_nil, and_assoc, Nat.mul_zero, Nat.zero_mul, ir37, hWH, hn]
    refine postF.mk' (fun _ => default) [some 0] ?_
    simp -implicitDefEqProofs only [push_cast, false_implies, reduceCtorEq, Classical.not_not, Nat.reduceAdd, Nat.reduceSub, Nat.reduceMul, Nat.reduceLeDiff, Nat.reduceLT, Nat.reduceEqDiff, Nat.reduceBEq, Nat.reduceBNe, Int.reduceNeg, Int.reduceToNat, Bool.or_false, Bool.false_or, Bool.or_true, Bool.true_or, BEq.rfl, Bool.not_eq_true, Bool.not_eq_false, decide_eq_true_eq, not_true_eq_false, not_false_eq_true, ite_true, ite_false, List.append_nil, and_assoc, Nat.mul_zero, Nat.zero_mul, fs37, fs41, e1, e2, hi]
  · obtain ⟨z1, z2, -, z4, z5⟩ := zP_ok h1 h2 h3 h4 hn
    have hW0 : ¬ W = 0 := by omega
    have hH0 : ¬ H = 0 := by omega
    have e1 : cuS W H l = ((cuT W H l).1 && decide ((cuT W H l).2.1 = l.length), (cuT W H l).2.2) := by unfold cuS; rw [if_neg hn]
    have e2 : cuR W H l = if (cuT W H l).1 = true then (cuT W H l).2.2 else 0 := by unfold cuR; rw [if_neg hn]
    have hl0 : l.length - 0 = l.length := rfl
    replace hbd := hbd hn
    replace z3 := z3 hn
    obtain ⟨b, o, c, ht⟩ : ∃ b o c, cuT W H l = (b, o, c) := ⟨_, _, _, rfl⟩
    rw [ht] at e1 e2
    rw [ec] at ht
    rw [ht] at hbd
    obtain ⟨-, b1, b2, b3⟩ := hbd
    simp only at b1 b2 b3
    have hi : (((l.length - o : Nat) : Int) = 0) = (o = l.length) := by
      apply propext; constructor <;> intro h <;> omega
    cases b
    all_goals
      have hv := congrArg (tkV L l) ht
      rw [tkV] at hv
      clear ht ec
      simp -implicitDefEqProofs only [push_cast, false_implies, reduceCtorEq, Classical.not_not, Nat.reduceAdd, Nat.reduceSub, Nat.reduceMul, Nat.reduceLeDiff, Nat.reduceLT, Nat.reduceEqDiff, Nat.reduceBEq, Nat.reduceBNe, Int.reduceNeg, Int.reduceToNat, Bool.or_false, Bool.false_or, Bool.or_true, Bool.true_or, BEq.rfl, Bool.not_eq_true, Bool.not_eq_false, decide_eq_true_eq, not_true_eq_false, not_false_eq_true, ite_true, ite_false, List.append_nil, and_assoc, Nat.mul_zero, Nat.zero_mul, ir37, hW0, hH0, fs58, hget, hlm, Int.toNat_natCast, hv, hl0, z1, z2, z3, hl, hs, hkd]
      refine ⟨hs, Nat.zero_le _, ?_⟩
      refine postF.mk' (fun _ => default) [some 0] ?_
      simp -implicitDefEqProofs only [push_cast, false_implies, reduceCtorEq, Classical.not_not, Nat.reduceAdd, Nat.reduceSub, Nat.reduceMul, Nat.reduceLeDiff, Nat.reduceLT, Nat.reduceEqDiff, Nat.reduceBEq, Nat.reduceBNe, Int.reduceNeg, Int.reduceToNat, Bool.or_false, Bool.false_or, Bool.or_true, Bool.true_or, BEq.rfl, Bool.not_eq_true, Bool.not_eq_false, decide_eq_true_eq, not_true_eq_false, not_false_eq_true, ite_true, ite_false, List.append_nil, and_assoc, Nat.mul_zero, Nat.zero_mul, fs37, fs41, e1, e2, hi, if_true, if_false]
def ent37 : Entry := spOf fs37 inv41
theorem e37 : EntryOk Try.prog 37 ent37 := entry_of ok37 inv41
@[push_cast] theorem ent37_app (us : List SV) (look : Look) (x : Nat → Xf.Loc) (k : Nat) : ent37 us look x k = spOf fs37 inv41 us look x k := rfl
theorem pa_facts {w h : Int} {xs : List Int} {e : En} {kd qx qy qw qh : Int} (hG : (⟨w, h, xs⟩ : Pl).Gr) (hE : e.Ok) (hI : (⟨kd, qx, qy, qw, qh⟩ : Pt).In w h) :
    paN ⟨w, h, xs⟩ e ⟨kd, qx, qy, qw, qh⟩ = (⟨qx.toNat, qy.toNat, qw.toNat, qh.toNat, w.toNat, h.toNat, xs⟩ : Rp).en e kd.toNat ∧
    (⟨qx.toNat, qy.toNat, qw.toNat, qh.toNat, w.toNat, h.toNat, xs⟩ : Rp).Ok ∧ (⟨qx.toNat, qy.toNat, qw.toNat, qh.toNat, w.toNat, h.toNat, xs⟩ : Rp).grey ∧ 0 < (⟨qx.toNat, qy.toNat, qw.toNat, qh.toNat, w.toNat, h.toNat, xs⟩ : Rp).n ∧
    (qx.toNat : Int) = qx ∧ (qy.toNat : Int) = qy ∧ (qw.toNat : Int) = qw ∧ (qh.toNat : Int) = qh ∧ (w.toNat : Int) = w ∧ (h.toNat : Int) = h ∧ 0 ≤ kd ∧ kd ≤ 2 := by
  have hsd : SidesOk w h := hG.1
  obtain ⟨s1, s2, s3, s4, s5⟩ := hsd
  have e1 : paN ⟨w, h, xs⟩ e ⟨kd, qx, qy, qw, qh⟩ = (rpOf (⟨w, h, xs⟩ : Pl).pn ⟨qx, qy, qw, qh⟩).en e kd.toNat := by unfold paN; rw [if_pos ⟨hG, hE, hI⟩]; rfl
  obtain ⟨j1, j2, j3, j4, j5, j6, j7, j8, j9, j10⟩ := id hI
  simp only at j1 j2 j3 j4 j5 j6 j7 j8 j9 j10 s1 s2 s3 s4
  have hl0 : 0 < xs.length := by
    have hl : (xs.length : Int) = w * h := hG.2.1
    have := Int.mul_pos (show 0 < w by omega) (show 0 < h by omega)
    omega
  obtain ⟨g1, g2, g3, g4, g5⟩ := hG.pn hl0
  have hin : inR (⟨w, h, xs⟩ : Pl).pn ⟨qx, qy, qw, qh⟩ := ⟨j3, j4, j5, j6, show qx + qw ≤ (w.toNat : Int) by omega, show qy + qh ≤ (h.toNat : Int) by omega⟩
  obtain ⟨hRp, hGr⟩ := hin.rp g1
  exact ⟨e1, hRp, hGr, Nat.mul_pos (show 0 < qw.toNat by omega) (show 0 < qh.toNat by omega), by omega, by omega, by omega, by omega, by omega, by omega, j1, j2⟩
def rcI (ns : List Int) : List RC := ns.map (RC.int .i64)
def flatIs (P : Program) (tot : Nat) : Nat → List Field → Bool
  | off, [] => decide (off = tot)
  | off, f :: fs => decide (f.offset = off) && (match P.underlying f.type with | some (.int .i64) => true | _ => false) && decide (P.cellsOf f.type = 1) && flatIs P tot (off + 1) fs
/-- A slice of structs of n numbers each. -/
def flatI (P : Program) (t : TypeId) (n : Nat) : Bool :=
  match P.underlying t with
  | some (.slice e) => match P.underlying e with
    | some (.struct fs) => decide (P.cellsOf e = n) && decide (0 < n) && decide (0 < P.bytesOf e) && flatIs P n 0 fs.toList
    | _ => false
  | _ => false
section
variable {H : Type} {enc : TypeId × Value → H} {P : Program} {w : World} {held : Bool}
theorem flatIs_open {tot m : Nat} : ∀ (l : List Field) (off : Nat) (cs : List Value), flatIs P tot off l = true → cs.length = tot →
    (∀ f ∈ l, ∃ y, DataW.trod enc P w 0 (fun _ => true) held m f.type ((cs.drop f.offset).take (P.cellsOf f.type)) = some y) →
    ∃ ns : List Int, off + ns.length = tot ∧ wfAll .i64 ns ∧ cs.drop off = ns.map (Value.int .i64)
  | [], off, cs, h, hl, _ => by
    simp only [flatIs, decide_eq_true_eq] at h
    exact ⟨[], by simp [h], by simp [wfAll], by simp; omega⟩
  | f :: l, off, cs, h, hl, hf => by
    simp only [flatIs, Bool.and_eq_true, decide_eq_true_eq] at h
    obtain ⟨⟨⟨h1, h2⟩, h3⟩, h4⟩ := h
    obtain ⟨ns, e1, e2, e3⟩ := flatIs_open l (off + 1) cs h4 hl fun g hg => hf g (by simp [hg])
    obtain ⟨y, hy⟩ := hf f (by simp)
    split at h2
    case h_2 => cases h2
    rename_i hu
    obtain ⟨a, hc, _, wf⟩ := DataW.trod_int hu hy
    rw [h1, h3] at hc
    have hd : cs.drop off = (cs.drop off).take 1 ++ cs.drop (off + 1) := by rw [← List.drop_drop, List.take_append_drop]
    refine ⟨a :: ns, by simp only [List.length_cons]; omega, fun n hn => ?_, by rw [hd, hc, e3]; rfl⟩
    rcases List.mem_cons.1 hn with rfl | hn
    · exact wf
    · exact e2 n hn
theorem rcAt_map {l : List (List Int)} {n o : Nat} (hn : 0 < n) (ho : o < l.length * n) (hl : ∀ r ∈ l, r.length = n) : rcAt (l.map rcI) n o = .int .i64 ((l.getD (o / n) []).getD (o % n) 0) := by
  have h1 : o / n < l.length := (Nat.div_lt_iff_lt_mul hn).2 ho
  have h2 : o % n < n := Nat.mod_lt _ hn
  have h3 := hl _ (List.getElem_mem h1)
  unfold rcAt rcI
  simp [h1]
theorem recs_open {r : Reach} {b0 : Nat} {t : TypeId} {v : Value} {d : DataW H} {p : List MemPlace} {n : Nat} (hf : flatI P t n = true) (hv : Value.okWide P w r b0 t v) (h : DataW.Trod enc P w 0 (fun _ => true) held t v d p) (hw : ∀ n ∈ d.weights P t, n ≤ reachBytes) :
    ∃ (L : Xf.Loc) (l : List (List Int)), (∀ c, Den (.sl c L n 0 (l.length : Nat)) v) ∧ (∀ W, ChunkSat w W (.ro, L, .recs n false [] (l.map rcI)) w) ∧ l.length ≤ 140737488355328 ∧ (∀ r ∈ l, r.length = n ∧ wfAll .i64 r) := by
  unfold flatI at hf
  split at hf
  case h_2 => cases hf
  rename_i e ht
  split at hf
  case h_2 => cases hf
  rename_i fs he
  simp only [Bool.and_eq_true, decide_eq_true_eq] at hf
  obtain ⟨⟨⟨hc, hn⟩, hb⟩, hfs⟩ := hf
  obtain ⟨fuel, hx⟩ := h
  have hvc : v.cells.toList = [v] := by obtain ⟨a, n, c, rfl⟩ := WideShapes.okWide_slice ht hv; rfl
  rw [hvc] at hx
  rcases DataW.trod_slice ht hx with ⟨hcs, hxe⟩ | ⟨a, len, cap, elems, rest, m, _, hcs, hxe, hbs, hl, hm, hlen, hel, hsp, hns⟩
  · obtain rfl : v = .slice none 0 0 := by simpa using hcs
    refine ⟨Xf.nilLoc, [], fun c => ?_, fun W => ?_, by simp, by simp⟩
    · simp only [Den, nilLoc0]
      refine ⟨by omega, by simp, by simp, by simp, none, by simp, by simp, by simp⟩
    · refine ⟨fun o ho => (by simp [Chunk.len] at ho), fun _ _ _ h => (by obtain ⟨r, hr, _⟩ := h; simp at hr), fun a ha => (by have h0 := ha.1; cases h0), fun h => (by cases h), ⟨by simp, by simp [nilLoc0], hn, by simp⟩, fun _ _ => trivial⟩
  · obtain rfl : v = .slice (some a) len cap := by simpa using hcs
    obtain ⟨hrl, hsp'⟩ := hsp rfl
    have hcap : cap ≤ 140737488355328 := by
      have hx1 : d = .slice (elems.map (·.1)) (rest.map (·.1)) := (Prod.ext_iff.1 hxe).1
      rw [hx1] at hw
      unfold DataW.weights at hw
      rw [ht] at hw
      have h1 := hw _ (List.mem_cons_self ..)
      simp only [List.length_map] at h1
      rw [show elems.length + rest.length = cap by omega] at h1
      have h3 : cap ≤ cap * P.bytesOf e := Nat.le_mul_of_pos_right _ hb
      have h4 : reachBytes ≤ 140737488355328 := by decide
      omega
    have hall : ∀ i, ∃ ns : List Int, i < len → ns.length = n ∧ wfAll .i64 ns ∧ ∀ j, j < n → w.cell? ((a.add (i * n)).add j) = some (.int .i64 (ns.getD j 0)) := fun i => by
      by_cases hi : i < len
      · have hk := hel i hi
        rw [List.getElem?_eq_getElem (by omega), Option.bind_eq_some_iff] at hk
        obtain ⟨cs', hcs', hy⟩ := hk
        obtain ⟨_, hcl, hcell⟩ := World.cells?_some hcs'
        obtain ⟨xs, m', _, hxe', hlen', hxl, hff⟩ := DataW.trod_struct he hy
        obtain ⟨ns, n1, n2, n3⟩ := flatIs_open (enc := enc) (P := P) (w := w) (held := held) (m := m') fs.toList 0 cs' hfs (by omega) fun f hf' => by
          obtain ⟨i, hi, he⟩ := List.getElem_of_mem hf'
          have hi' : i < fs.size := by simpa using hi
          have := hff i f (by rw [Array.getElem?_eq_getElem hi']; congr 1)
          rw [List.getElem?_eq_getElem (by omega)] at this
          exact ⟨_, this⟩
        rw [List.drop_zero] at n3
        refine ⟨ns, fun _ => ⟨by omega, n2, fun j hj => ?_⟩⟩
        have := hcell j (by omega)
        rw [hc] at this
        rw [this, n3, List.getElem?_map, List.getElem?_eq_getElem (by omega)]
        simp [show j < ns.length by omega]
      · exact ⟨[], fun h => absurd h hi⟩
    obtain ⟨f, hf⟩ := Classical.axiomOfChoice hall
    obtain ⟨b, o, spot⟩ := a
    have hspot : cap ≠ 0 → spot = none := by
      intro hc0
      by_cases h0 : 0 < len
      · have := (hf 0 h0).2.2 0 hn
        simpa [Addr.add] using World.cell?_spot this
      · have hk := hsp' 0 (by omega)
        rw [List.getElem?_eq_getElem (by omega), Option.bind_eq_some_iff] at hk
        obtain ⟨cs', hcs', hy⟩ := hk
        obtain ⟨_, hcl, hcell⟩ := World.cells?_some hcs'
        have := hcell 0 (by omega)
        rw [List.getElem?_eq_getElem (by omega), show len + 0 = 0 by omega] at this
        simpa [Addr.add] using World.cell?_spot this
    have hrl' : ∀ r ∈ (List.range len).map f, r.length = n ∧ wfAll .i64 r := fun r hr => by
      obtain ⟨i, hi, rfl⟩ := List.mem_map.1 hr
      have := hf i (by simpa using hi)
      exact ⟨this.1, this.2.1⟩
    refine ⟨(⟨b, o, false, cap⟩ : Xf.Loc), (List.range len).map f, fun c => ?_, fun W => ?_, by simp; omega, hrl'⟩
    · simp only [Den, List.length_map, List.length_range]
      refine ⟨by omega, by omega, by omega, by simp, some ⟨b, o, spot⟩, by simp, by simp, fun h => ?_⟩
      have : spot = none := hspot (by simpa using h)
      subst this
      simp [Xf.Loc.ad]
    · refine ⟨fun o' ho => ?_, fun _ _ _ h => ?_, fun a ha => (by have h0 := ha.1; cases h0), fun h => (by cases h), ⟨by simp; omega, by simp, hn, fun r hr => ?_⟩, fun _ _ => trivial⟩
      · simp only [Chunk.len, List.length_map, List.length_range] at ho
        have hlt : o' / n < len := (Nat.div_lt_iff_lt_mul hn).2 ho
        have hmod : o' % n < n := Nat.mod_lt _ hn
        have hs : spot = none := hspot (by have : 0 < len := Nat.lt_of_le_of_lt (Nat.zero_le _) hlt; omega)
        subst hs
        have := (hf (o' / n) hlt).2.2 (o' % n) hmod
        have e2 : ((⟨b, o, none⟩ : Addr).add (o' / n * n)).add (o' % n) = ⟨b, o + o', none⟩ := by
          have h3 : o' / n * n + o' % n = o' := Nat.div_add_mod' o' n
          unfold Addr.add
          by_cases h0 : o' / n * n = 0 <;> by_cases h1 : o' % n = 0 <;> simp [h0, h1] <;> omega
        rw [e2] at this
        refine ⟨_, this, ?_⟩
        simp only [Chunk.cell]
        rw [rcAt_map hn (by simpa using ho) fun r hr => (hrl' r hr).1]
        simp [RC.sv, Den, hlt]
      · obtain ⟨r, hr, hm⟩ := h
        obtain ⟨ns, _, rfl⟩ := List.mem_map.1 hr
        obtain ⟨x, _, hx⟩ := List.mem_map.1 hm
        cases hx
      · obtain ⟨ns, h1, rfl⟩ := List.mem_map.1 hr
        unfold rcI
        rw [List.length_map]
        exact (hrl' ns h1).1
end
theorem toPt : ∀ (l : List (List Int)), (∀ r ∈ l, r.length = 5 ∧ wfAll .i64 r) → ∃ m : List Pt, l.length = m.length ∧ l.map rcI = m.map Pt.rc
  | [], _ => ⟨[], rfl, rfl⟩
  | r :: l, h => by
    obtain ⟨m, h1, h2⟩ := toPt l fun x hx => h x (by simp [hx])
    have hr := (h r (by simp)).1
    match r, hr with
    | [a, b, c, d, e], _ => exact ⟨⟨a, b, c, d, e⟩ :: m, by simp [h1], by rw [List.map_cons, List.map_cons, h2]; rfl⟩
def sumF (f : Nat → Int) : Nat → Int
  | 0 => 0
  | n + 1 => sumF f n + f n
theorem sumF_congr {f g : Nat → Int} : ∀ {n : Nat}, (∀ k, k < n → f k = g k) → sumF f n = sumF g n
  | 0, _ => rfl
  | n + 1, h => by rw [sumF, sumF, sumF_congr fun k hk => h k (by omega), h n (by omega)]
theorem sumF_add (f : Nat → Int) (a : Nat) : ∀ b, sumF f (a + b) = sumF f a + sumF (fun i => f (a + i)) b
  | 0 => by simp [sumF]
  | b + 1 => by rw [← Nat.add_assoc, sumF, sumF, sumF_add f a b]; omega
theorem sumF_zero : ∀ n, sumF (fun _ => 0) n = 0
  | 0 => rfl
  | n + 1 => by rw [sumF, sumF_zero n]; rfl
theorem sumF_plus (f g : Nat → Int) : ∀ n, sumF (fun k => f k + g k) n = sumF f n + sumF g n
  | 0 => rfl
  | n + 1 => by rw [sumF, sumF, sumF, sumF_plus f g n]; omega
theorem sumF_rows (f : Nat → Int) (W : Nat) : ∀ H, sumF f (H * W) = sumF (fun v => sumF (fun u => f (v * W + u)) W) H
  | 0 => by rw [Nat.zero_mul]; rfl
  | H + 1 => by rw [Nat.succ_mul, sumF_add, sumF_rows f W H, sumF]
theorem sumF_bd {f : Nat → Int} {B : Int} : ∀ {n : Nat}, (∀ k, k < n → 0 ≤ f k ∧ f k ≤ B) → 0 ≤ sumF f n ∧ sumF f n ≤ n * B
  | 0, _ => by simp [sumF]
  | n + 1, h => by
    have h1 := sumF_bd (n := n) fun k hk => h k (by omega)
    have h2 := h n (by omega)
    rw [sumF, Int.natCast_add, Int.add_mul]
    simp only [Int.natCast_one, Int.one_mul]
    omega
theorem sumF_win (g : Nat → Int) {X c W : Nat} (h : X + c ≤ W) : sumF (fun u => if X ≤ u ∧ u < X + c then g u else 0) W = sumF (fun i => g (X + i)) c := by
  obtain ⟨d, rfl⟩ : ∃ d, W = X + c + d := ⟨W - (X + c), by omega⟩
  rw [sumF_add, sumF_add]
  have e1 : sumF (fun u => if X ≤ u ∧ u < X + c then g u else 0) X = 0 := by
    rw [sumF_congr (g := fun _ => 0) fun k hk => if_neg (by omega), sumF_zero]
  have e2 : sumF (fun i => (fun u => if X ≤ u ∧ u < X + c then g u else 0) (X + c + i)) d = 0 := by
    rw [sumF_congr (g := fun _ => 0) fun k hk => if_neg (by omega), sumF_zero]
  have e3 : sumF (fun i => (fun u => if X ≤ u ∧ u < X + c then g u else 0) (X + i)) c = sumF (fun i => g (X + i)) c := sumF_congr fun k hk => if_pos (by omega)
  rw [e1, e2, e3]
  omega
theorem dmN {w v u : Nat} (hu : u < w) : (v * w + u) / w = v ∧ (v * w + u) % w = u := by
  have hw : 0 < w := by omega
  constructor
  · rw [Nat.mul_comm, Nat.mul_add_div hw, Nat.div_eq_of_lt hu, Nat.add_zero]
  · rw [Nat.mul_comm, Nat.mul_add_mod, Nat.mod_eq_of_lt hu]
/-- The sum over a rectangle is that over all places with a test. -/
theorem sumF_rect (g : Nat → Int) {X Y c r W H : Nat} (hx : X + c ≤ W) (hy : Y + r ≤ H) :
    sumF (fun k => if (Y ≤ k / W ∧ k / W < Y + r) ∧ (X ≤ k % W ∧ k % W < X + c) then g k else 0) (H * W) = sumF (fun a => sumF (fun i => g ((Y + a) * W + (X + i))) c) r := by
  rw [sumF_rows, ← sumF_win (fun v => sumF (fun i => g (v * W + (X + i))) c) hy]
  refine sumF_congr fun v hv => ?_
  by_cases hv2 : Y ≤ v ∧ v < Y + r
  · rw [if_pos hv2, ← sumF_win (fun u => g (v * W + u)) hx]
    refine sumF_congr fun u hu => ?_
    rw [(dmN hu).1, (dmN hu).2]
    by_cases hu2 : X ≤ u ∧ u < X + c
    · rw [if_pos ⟨hv2, hu2⟩, if_pos hu2]
    · rw [if_neg fun h => hu2 h.2, if_neg hu2]
  · rw [if_neg hv2, sumF_congr (g := fun _ => 0) fun u hu => if_neg (by rw [(dmN hu).1]; exact fun h => hv2 h.1), sumF_zero]
def ir63 : IR :=
  .seq (.reg false [⟨some 4, none, ⟨[], []⟩, .alloc 10 [.int .i64 0, .int .i64 0, nilSV]⟩,
    ⟨some 5, none, ⟨[], []⟩, .mov (.k (.int .i64 0))⟩] [5] []) (.seq (.seq (.reg false [⟨some 6, none, ⟨[], []⟩, .mov (.t 0)⟩,
    ⟨some 7, none, ⟨[], []⟩, .mov (.t 1)⟩,
    ⟨some 8, none, ⟨[], []⟩, .callp 70 [.t 6, .t 7]⟩,
    ⟨some 9, none, ⟨[], []⟩, .not (.t 8)⟩] [6, 7, 8] []) (.cond (.t 9) (.seq (.reg false [⟨some 10, none, ⟨[], []⟩, .build [.int .i64 0, .int .i64 0, nilSV] []⟩,
    ⟨none, none, ⟨[], []⟩, .sto false 3 .u8 (.t 4) (.t 10)⟩,
    ⟨some 5, none, ⟨[], []⟩, .mov (.k (.int .i64 4))⟩] [0, 1, 9, 10] []) (.ret)) (.skip))) (.seq (.reg false [⟨some 11, none, ⟨[], []⟩, .mov (.t 0)⟩,
    ⟨some 12, none, ⟨[], []⟩, .mov (.t 1)⟩,
    ⟨some 13, none, ⟨[], []⟩, .mov (.t 0)⟩,
    ⟨some 14, none, ⟨[], []⟩, .mov (.t 1)⟩,
    ⟨some 15, none, ⟨[], []⟩, .bin 0 .mul (.t 13) (.t 14)⟩,
    ⟨some 16, none, ⟨[], []⟩, .mks 11 (.int .u8 0) 1 (.t 15) (.t 15)⟩,
    ⟨some 17, none, ⟨[], []⟩, .build [.int .i64 0, .int .i64 0, nilSV] [(0, 1, .t 11), (1, 1, .t 12), (2, 1, .t 16)]⟩,
    ⟨none, none, ⟨[], []⟩, .sto false 3 .u8 (.t 4) (.t 17)⟩,
    ⟨some 5, none, ⟨[], []⟩, .mov (.k (.int .i64 0))⟩] [0, 1, 9, 11, 12, 13, 14, 15, 16, 17] []) (.ret)))
set_option maxRecDepth 4000 in
theorem comp63 : (Try.f63.body.bind fun c => compC tab isP chkAll ir63 c) = some ir63 := by kernel_rfl
def b43_1 : IR :=
  .seq (.reg false [⟨some 36, none, ⟨[], []⟩, .bin 0 .lss (.t 35) (.t 34)⟩] [] []) (.seq (.cond (.t 36) (.skip) (.exit 0)) (.seq (.block 1 (.seq (.reg false [⟨some 37, none, ⟨[], []⟩, .mov (.t 35)⟩,
    ⟨some 10, none, ⟨[], []⟩, .mov (.t 37)⟩] [36, 37] []) (.reg false [⟨some 38, none, ⟨[], []⟩, .fld (.t 8) 2⟩,
    ⟨some 39, none, ⟨[], []⟩, .ld false none 0 0 (.t 38)⟩,
    ⟨some 40, none, ⟨[], []⟩, .mov (.t 10)⟩,
    ⟨some 41, none, ⟨[], []⟩, .mov (.t 2)⟩,
    ⟨some 42, none, ⟨[], []⟩, .cvt 0 .u8 (.t 41)⟩,
    ⟨some 43, none, ⟨[], []⟩, .idxS (.t 39) (.t 40) 1⟩,
    ⟨none, none, ⟨[], []⟩, .sto true 1 .i64 (.t 43) (.t 42)⟩] [10, 38, 39, 40, 41, 42, 43] []))) (.reg false [⟨some 44, none, ⟨[], []⟩, .bin 0 .add (.t 35) (.k (.int .i64 1))⟩,
    ⟨some 35, none, ⟨[], []⟩, .mov (.t 44)⟩] [44] [])))
def r43_2 : IR :=
  .seq (.reg false [⟨some 45, none, ⟨[], []⟩, .ld false (some 3) 0 0 (.t 8)⟩,
    ⟨some 46, none, ⟨[], []⟩, .mov (.t 9)⟩,
    ⟨none, none, ⟨[], []⟩, .sto false 3 .u8 (.t 6) (.t 45)⟩,
    ⟨some 7, none, ⟨[], []⟩, .mov (.t 46)⟩] [2, 8, 9, 34, 35, 45, 46] []) (.ret)
def ir43 : IR :=
  .seq (.reg false [⟨some 6, none, ⟨[], []⟩, .alloc 10 [.int .i64 0, .int .i64 0, nilSV]⟩,
    ⟨some 7, none, ⟨[], []⟩, .mov (.k (.int .i64 0))⟩] [7] []) (.seq (.seq (.reg false [⟨some 11, none, ⟨[], []⟩, .mov (.t 0)⟩,
    ⟨some 12, none, ⟨[], []⟩, .bin 0 .lss (.t 11) (.k (.int .i64 0))⟩,
    ⟨some 13, none, ⟨[], []⟩, .mov (.t 12)⟩,
    ⟨some 14, some (13, false), ⟨[], []⟩, .mov (.t 1)⟩,
    ⟨some 15, some (13, false), ⟨[], []⟩, .bin 0 .lss (.t 14) (.k (.int .i64 0))⟩,
    ⟨some 16, none, ⟨[], []⟩, .pick (.t 13) (.k (.bool true)) (.t 15)⟩,
    ⟨some 17, none, ⟨[], []⟩, .mov (.t 16)⟩,
    ⟨some 18, some (17, false), ⟨[], []⟩, .mov (.t 2)⟩,
    ⟨some 19, some (17, false), ⟨[], []⟩, .bin 0 .neq (.t 18) (.k (.int .i64 0))⟩,
    ⟨some 20, some (17, false), ⟨[], []⟩, .mov (.t 19)⟩,
    ⟨some 21, some (20, true), ⟨[], []⟩, .mov (.t 2)⟩,
    ⟨some 22, some (20, true), ⟨[], []⟩, .bin 0 .neq (.t 21) (.k (.int .i64 1))⟩,
    ⟨some 23, some (17, false), ⟨[], []⟩, .pick (.t 20) (.t 22) (.k (.bool false))⟩,
    ⟨some 24, none, ⟨[], []⟩, .pick (.t 17) (.k (.bool true)) (.t 23)⟩] [11, 12, 13, 14, 15, 16, 17, 18, 19, 20, 21, 22, 23] []) (.cond (.t 24) (.seq (.reg false [⟨some 25, none, ⟨[], []⟩, .build [.int .i64 0, .int .i64 0, nilSV] []⟩,
    ⟨none, none, ⟨[], []⟩, .sto false 3 .u8 (.t 6) (.t 25)⟩,
    ⟨some 7, none, ⟨[], []⟩, .mov (.k (.int .i64 2))⟩] [0, 1, 2, 24, 25] []) (.ret)) (.skip))) (.seq (.reg false [⟨some 27, none, ⟨[], []⟩, .mov (.t 0)⟩,
    ⟨some 28, none, ⟨[], []⟩, .mov (.t 1)⟩,
    ⟨some 29, none, ⟨[], []⟩, .call (some 4) 11 63 [.t 27, .t 28]⟩,
    ⟨some 26, none, ⟨[], []⟩, .mov (.t 29)⟩,
    ⟨some 30, none, ⟨[], []⟩, .ext (.t 26) 0⟩,
    ⟨some 31, none, ⟨[], []⟩, .ext (.t 26) 1⟩,
    ⟨some 8, none, ⟨[], []⟩, .alloc 15 [.int .i64 0, .int .i64 0, nilSV]⟩,
    ⟨none, none, ⟨[], []⟩, .sto false 3 .u8 (.t 8) (.t 30)⟩,
    ⟨some 9, none, ⟨[], []⟩, .mov (.t 31)⟩] [0, 1, 7, 24, 26, 27, 28, 29, 30, 31] []) (.seq (.seq (.reg false [⟨some 32, none, ⟨[], []⟩, .fld (.t 8) 2⟩,
    ⟨some 33, none, ⟨[], []⟩, .ld false none 0 0 (.t 32)⟩,
    ⟨some 34, none, ⟨[], []⟩, .len (.t 33)⟩,
    ⟨some 35, none, ⟨[], []⟩, .mov (.k (.int .i64 0))⟩] [32, 33] []) (.block 0 (.loop b43_1))) (r43_2))))
def kp43_1 : List Nat := [2, 6, 8, 9, 34, 35]
def kl43_1 : List Nat := []
attribute [push_cast] kp43_1 kl43_1
set_option maxRecDepth 4000 in
theorem comp43 : (Try.f43.body.bind fun c => compC tab isP chkAll ir43 c) = some ir43 := by kernel_rfl
def b49_1 : IR :=
  .seq (.seq (.reg false [⟨some 12, none, ⟨[], []⟩, .mov (.t 8)⟩,
    ⟨some 13, none, ⟨[], []⟩, .mov (.t 0)⟩,
    ⟨some 14, none, ⟨[], []⟩, .mov (.t 1)⟩,
    ⟨some 15, none, ⟨[], []⟩, .bin 0 .mul (.t 13) (.t 14)⟩,
    ⟨some 16, none, ⟨[], []⟩, .bin 0 .lss (.t 12) (.t 15)⟩] [12, 13, 14, 15] []) (.cond (.t 16) (.skip) (.exit 0))) (.seq (.block 1 (.reg false [⟨some 19, none, ⟨[], []⟩, .fld (.t 7) 2⟩,
    ⟨some 20, none, ⟨[], []⟩, .ld false none 0 0 (.t 19)⟩,
    ⟨some 21, none, ⟨[], []⟩, .mov (.t 2)⟩,
    ⟨some 22, none, ⟨[], []⟩, .cvt 0 .u8 (.t 21)⟩,
    ⟨some 23, none, ⟨[], []⟩, .bslice 12 [.t 22]⟩,
    ⟨some 24, none, ⟨[], []⟩, .app 13 1 1 (.t 20) (.t 23)⟩,
    ⟨some 25, none, ⟨[], []⟩, .fld (.t 7) 2⟩,
    ⟨none, none, ⟨[], []⟩, .sto false 1 .u8 (.t 25) (.t 24)⟩] [16, 19, 20, 21, 22, 23, 24, 25] [])) (.reg false [⟨some 17, none, ⟨[], []⟩, .mov (.t 8)⟩,
    ⟨some 18, none, ⟨[], []⟩, .bin 0 .add (.t 17) (.k (.int .i64 1))⟩,
    ⟨some 8, none, ⟨[], []⟩, .mov (.t 18)⟩] [17, 18] []))
def r49_2 : IR :=
  .seq (.reg false [⟨some 26, none, ⟨[], []⟩, .ld false (some 3) 0 0 (.t 7)⟩,
    ⟨none, none, ⟨[], []⟩, .sto false 3 .u8 (.t 6) (.t 26)⟩] [0, 1, 2, 7, 8, 26] []) (.ret)
def ir49 : IR :=
  .seq (.reg false [⟨some 6, none, ⟨[], []⟩, .alloc 10 [.int .i64 0, .int .i64 0, nilSV]⟩] [] []) (.seq (.reg false [⟨some 9, none, ⟨[], []⟩, .mov (.t 0)⟩,
    ⟨some 10, none, ⟨[], []⟩, .mov (.t 1)⟩,
    ⟨some 11, none, ⟨[], []⟩, .build [.int .i64 0, .int .i64 0, nilSV] [(0, 1, .t 9), (1, 1, .t 10)]⟩,
    ⟨some 7, none, ⟨[], []⟩, .alloc 11 [.int .i64 0, .int .i64 0, nilSV]⟩,
    ⟨none, none, ⟨[], []⟩, .sto false 3 .u8 (.t 7) (.t 11)⟩] [9, 10, 11] []) (.seq (.seq (.reg false [⟨some 8, none, ⟨[], []⟩, .mov (.k (.int .i64 0))⟩] [] []) (.block 0 (.loop b49_1))) (r49_2)))
def kp49_1 : List Nat := [0, 1, 2, 6, 7, 8]
def kl49_1 : List Nat := [12, 13]
attribute [push_cast] kp49_1 kl49_1
set_option maxRecDepth 4000 in
theorem comp49 : (Try.f49.body.bind fun c => compC tab isP chkAll ir49 c) = some ir49 := by kernel_rfl
def ir46 : IR :=
  .seq (.reg false [⟨some 6, none, ⟨[], []⟩, .alloc 10 [.int .i64 0, .int .i64 0, nilSV]⟩,
    ⟨some 7, none, ⟨[], []⟩, .mov (.k (.int .i64 0))⟩] [7] []) (.seq (.seq (.reg false [⟨some 8, none, ⟨[], []⟩, .mov (.t 0)⟩,
    ⟨some 9, none, ⟨[], []⟩, .bin 0 .lss (.t 8) (.k (.int .i64 0))⟩,
    ⟨some 10, none, ⟨[], []⟩, .mov (.t 9)⟩,
    ⟨some 11, some (10, false), ⟨[], []⟩, .mov (.t 1)⟩,
    ⟨some 12, some (10, false), ⟨[], []⟩, .bin 0 .lss (.t 11) (.k (.int .i64 0))⟩,
    ⟨some 13, none, ⟨[], []⟩, .pick (.t 10) (.k (.bool true)) (.t 12)⟩,
    ⟨some 14, none, ⟨[], []⟩, .mov (.t 13)⟩,
    ⟨some 15, some (14, false), ⟨[], []⟩, .mov (.t 2)⟩,
    ⟨some 16, some (14, false), ⟨[], []⟩, .bin 0 .lss (.t 15) (.k (.int .i64 0))⟩,
    ⟨some 17, none, ⟨[], []⟩, .pick (.t 14) (.k (.bool true)) (.t 16)⟩,
    ⟨some 18, none, ⟨[], []⟩, .mov (.t 17)⟩,
    ⟨some 19, some (18, false), ⟨[], []⟩, .mov (.t 2)⟩,
    ⟨some 20, some (18, false), ⟨[], []⟩, .bin 0 .gtr (.t 19) (.k (.int .i64 1))⟩,
    ⟨some 21, none, ⟨[], []⟩, .pick (.t 18) (.k (.bool true)) (.t 20)⟩] [8, 9, 10, 11, 12, 13, 14, 15, 16, 17, 18, 19, 20] []) (.cond (.t 21) (.seq (.reg false [⟨some 22, none, ⟨[], []⟩, .build [.int .i64 0, .int .i64 0, nilSV] []⟩,
    ⟨none, none, ⟨[], []⟩, .sto false 3 .u8 (.t 6) (.t 22)⟩,
    ⟨some 7, none, ⟨[], []⟩, .mov (.k (.int .i64 2))⟩] [0, 1, 2, 21, 22] []) (.ret)) (.skip))) (.seq (.seq (.reg false [⟨some 23, none, ⟨[], []⟩, .mov (.t 0)⟩,
    ⟨some 24, none, ⟨[], []⟩, .mov (.t 1)⟩,
    ⟨some 25, none, ⟨[], []⟩, .callp 32 [.t 23, .t 24]⟩,
    ⟨some 26, none, ⟨[], []⟩, .not (.t 25)⟩] [7, 21, 23, 24, 25] []) (.cond (.t 26) (.seq (.reg false [⟨some 27, none, ⟨[], []⟩, .build [.int .i64 0, .int .i64 0, nilSV] []⟩,
    ⟨none, none, ⟨[], []⟩, .sto false 3 .u8 (.t 6) (.t 27)⟩,
    ⟨some 7, none, ⟨[], []⟩, .mov (.k (.int .i64 4))⟩] [0, 1, 2, 26, 27] []) (.ret)) (.skip))) (.seq (.reg false [⟨some 28, none, ⟨[], []⟩, .mov (.t 0)⟩,
    ⟨some 29, none, ⟨[], []⟩, .mov (.t 1)⟩,
    ⟨some 30, none, ⟨[], []⟩, .mov (.t 2)⟩,
    ⟨some 31, none, ⟨[], []⟩, .call (some 4) 11 49 [.t 28, .t 29, .t 30]⟩,
    ⟨none, none, ⟨[], []⟩, .sto false 3 .u8 (.t 6) (.t 31)⟩,
    ⟨some 7, none, ⟨[], []⟩, .mov (.k (.int .i64 0))⟩] [0, 1, 2, 26, 28, 29, 30, 31] []) (.ret))))
set_option maxRecDepth 4000 in
theorem comp46 : (Try.f46.body.bind fun c => compC tab isP chkAll ir46 c) = some ir46 := by kernel_rfl
structure BwA where
  w : Int
  h : Int
def zb (n : Int) : List Int := List.replicate n.toNat 0
def bmN (a : BwA) (x : Nat → Xf.Loc) : SV := .agg [.int .i64 a.w, .int .i64 a.h, .sl 0 (x 0) 1 0 (a.w * a.h)]
attribute [push_cast] bmN
def fs63 : FS where
  A := BwA
  args := fun a => [.int .i64 a.w, .int .i64 a.h]
  mem := fun _ => []
  pre := fun a => SidesOk a.w a.h
  res := fun a x => .tup [bmN a x, .int .i64 0]
  out := fun _ _ => []
  new := fun a x => [(x 0, .ints .u8 (zb (a.w * a.h)))]
def inv63 : List SV → Look → Option (BwA × List Nat)
  | [.int .i64 w, .int .i64 h], _ => some (⟨w, h⟩, [])
  | _, _ => none
attribute [push_cast] inv63
theorem ok63 : FSOk Try.prog 63 fs63 := by
  refine ⟨⟨_, Try.func63, by kernel_rfl, by kernel_rfl⟩, fun a => ⟨by simp [fs63, push_cast, noMine, argOwn, Chunk.frArg], by simp [fs63, push_cast, outOk, Chunk.ext], fun x => .inl (by simp [fs63, push_cast, frNew, frOut, Chunk.fr])⟩, fun a hp => ?_⟩
  obtain ⟨w, h⟩ := a
  change SidesOk w h at hp
  have hb := hp.bd
  change Tri Try.prog 63 [.int .i64 w, .int .i64 h] [] (postF fs63 ⟨w, h⟩)
  refine tri_evS (hyp (l := []) (lp := [(70, sidesF)]) trivial ⟨p70, trivial⟩) Try.func63 comp63 (rs := [.cell 4 (some 3), .tmp 5]) (by rfl) Try.ntmps63 12 ?_
  simp -implicitDefEqProofs only [push_cast, false_implies, reduceCtorEq, Classical.not_not, Nat.reduceAdd, Nat.reduceSub, Nat.reduceMul, Nat.reduceLeDiff, Nat.reduceLT, Nat.reduceEqDiff, Nat.reduceBEq, Nat.reduceBNe, Int.reduceNeg, Int.reduceToNat, Bool.or_false, Bool.false_or, Bool.or_true, Bool.true_or, BEq.rfl, Bool.not_eq_true, Bool.not_eq_false, decide_eq_true_eq, not_true_eq_false, not_false_eq_true, ite_true, ite_false, List.append_nil, and_assoc, Nat.mul_zero, Nat.zero_mul, ir63, hp]
  intro X X1
  repeat (refine And.intro (by first | omega | trivial | (intros; omega)) ?_)
  refine postF.mk' (locs [X1 5 11]) [some 11] ?_
  simp -implicitDefEqProofs only [push_cast, false_implies, reduceCtorEq, Classical.not_not, Nat.reduceAdd, Nat.reduceSub, Nat.reduceMul, Nat.reduceLeDiff, Nat.reduceLT, Nat.reduceEqDiff, Nat.reduceBEq, Nat.reduceBNe, Int.reduceNeg, Int.reduceToNat, Bool.or_false, Bool.false_or, Bool.or_true, Bool.true_or, BEq.rfl, Bool.not_eq_true, Bool.not_eq_false, decide_eq_true_eq, not_true_eq_false, not_false_eq_true, ite_true, ite_false, List.append_nil, and_assoc, Nat.mul_zero, Nat.zero_mul, fs63, zb]
def ent63 : Entry := spOf fs63 inv63
theorem e63 : EntryOk Try.prog 63 ent63 := entry_of ok63 inv63
@[push_cast] theorem ent63_app (us : List SV) (look : Look) (x : Nat → Xf.Loc) (k : Nat) : ent63 us look x k = spOf fs63 inv63 us look x k := rfl
def fs43 : FS := { fs63 with args := fun a => [.int .i64 a.w, .int .i64 a.h, .int .i64 0] }
def inv43 : List SV → Look → Option (BwA × List Nat)
  | [.int .i64 w, .int .i64 h, .int .i64 0], _ => some (⟨w, h⟩, [])
  | _, _ => none
attribute [push_cast] inv43
theorem zb_set (n : Int) (i : Nat) : (zb n).set i 0 = zb n := by
  unfold zb; exact List.ext_getElem (by simp) fun j h1 h2 => by simp
theorem ok43 : FSOk Try.prog 43 fs43 := by
  refine ⟨⟨_, Try.func43, by kernel_rfl, by kernel_rfl⟩, fun a => ⟨by simp [fs43, fs63, push_cast, noMine, argOwn, Chunk.frArg], by simp [fs43, fs63, push_cast, outOk, Chunk.ext], fun x => .inl (by simp [fs43, fs63, push_cast, frNew, frOut, Chunk.fr])⟩, fun a hp => ?_⟩
  obtain ⟨w, h⟩ := a
  change SidesOk w h at hp
  have hb := hp.bd
  obtain ⟨s1, s2, s3, s4, s5⟩ := id hp
  have n1 : ¬ w < 0 := by omega
  have n2 : ¬ h < 0 := by omega
  change Tri Try.prog 43 [.int .i64 w, .int .i64 h, .int .i64 0] [] (postF fs43 ⟨w, h⟩)
  refine tri_evS (hyp (l := [(63, ent63)]) (lp := []) ⟨e63, trivial⟩ trivial) Try.func43 comp43 (rs := [.cell 6 (some 3), .tmp 7]) (by rfl) Try.ntmps43 16 ?_
  simp -implicitDefEqProofs only [push_cast, false_implies, reduceCtorEq, Classical.not_not, Nat.reduceAdd, Nat.reduceSub, Nat.reduceMul, Nat.reduceLeDiff, Nat.reduceLT, Nat.reduceEqDiff, Nat.reduceBEq, Nat.reduceBNe, Int.reduceNeg, Int.reduceToNat, Bool.or_false, Bool.false_or, Bool.or_true, Bool.true_or, BEq.rfl, Bool.not_eq_true, Bool.not_eq_false, decide_eq_true_eq, not_true_eq_false, not_false_eq_true, ite_true, ite_false, List.append_nil, and_assoc, Nat.mul_zero, Nat.zero_mul, ir43, fs63, hp, n1, n2]
  intro X X1
  obtain ⟨n, hn⟩ : ∃ n : Nat, w * h = n := ⟨(w * h).toNat, by omega⟩
  have hzl : ((zb (w * h)).length : Int) = w * h := by unfold zb; rw [List.length_replicate]; omega
  refine evS_loopU (A := Nat) kp43_1 kl43_1 (fun i => [(35, .int .i64 i)]) (fun _ => [(11, .mine, X1 2 11, .ints .u8 (zb (w * h)))]) (fun i => (i : Int) ≤ w * h) (fun i => n - i) 0 hb.1 (Sub.pt ?_) ?_
  · simp -implicitDefEqProofs only [push_cast, false_implies, reduceCtorEq, Classical.not_not, Nat.reduceAdd, Nat.reduceSub, Nat.reduceMul, Nat.reduceLeDiff, Nat.reduceLT, Nat.reduceEqDiff, Nat.reduceBEq, Nat.reduceBNe, Int.reduceNeg, Int.reduceToNat, Bool.or_false, Bool.false_or, Bool.or_true, Bool.true_or, BEq.rfl, Bool.not_eq_true, Bool.not_eq_false, decide_eq_true_eq, not_true_eq_false, not_false_eq_true, ite_true, ite_false, List.append_nil, and_assoc, Nat.mul_zero, Nat.zero_mul]
  intro i (hi : (i : Int) ≤ w * h) K hK
  by_cases hi' : (i : Int) < w * h
  · have hz := zb_set (w * h) i
    simp -implicitDefEqProofs only [push_cast, false_implies, reduceCtorEq, Classical.not_not, Nat.reduceAdd, Nat.reduceSub, Nat.reduceMul, Nat.reduceLeDiff, Nat.reduceLT, Nat.reduceEqDiff, Nat.reduceBEq, Nat.reduceBNe, Int.reduceNeg, Int.reduceToNat, Bool.or_false, Bool.false_or, Bool.or_true, Bool.true_or, BEq.rfl, Bool.not_eq_true, Bool.not_eq_false, decide_eq_true_eq, not_true_eq_false, not_false_eq_true, ite_true, ite_false, List.append_nil, and_assoc, Nat.mul_zero, Nat.zero_mul, b43_1, hzl, hz, Int.toNat_natCast]
    refine ⟨fun _ => ?_, fun h => by omega⟩
    repeat (refine And.intro (by first | omega | trivial | (intros; omega)) ?_)
    refine hK (i + 1) (by push_cast; omega) (show n - (i + 1) < n - i by omega) _ _ (Sub.pt ?_)
    simp -implicitDefEqProofs only [push_cast, false_implies, reduceCtorEq, Classical.not_not, Nat.reduceAdd, Nat.reduceSub, Nat.reduceMul, Nat.reduceLeDiff, Nat.reduceLT, Nat.reduceEqDiff, Nat.reduceBEq, Nat.reduceBNe, Int.reduceNeg, Int.reduceToNat, Bool.or_false, Bool.false_or, Bool.or_true, Bool.true_or, BEq.rfl, Bool.not_eq_true, Bool.not_eq_false, decide_eq_true_eq, not_true_eq_false, not_false_eq_true, ite_true, ite_false, List.append_nil, and_assoc, Nat.mul_zero, Nat.zero_mul]
  · clear hK
    simp -implicitDefEqProofs only [push_cast, false_implies, reduceCtorEq, Classical.not_not, Nat.reduceAdd, Nat.reduceSub, Nat.reduceMul, Nat.reduceLeDiff, Nat.reduceLT, Nat.reduceEqDiff, Nat.reduceBEq, Nat.reduceBNe, Int.reduceNeg, Int.reduceToNat, Bool.or_false, Bool.false_or, Bool.or_true, Bool.true_or, BEq.rfl, Bool.not_eq_true, Bool.not_eq_false, decide_eq_true_eq, not_true_eq_false, not_false_eq_true, ite_true, ite_false, List.append_nil, and_assoc, Nat.mul_zero, Nat.zero_mul, b43_1, r43_2, hi', true_implies, true_and]
    refine postF.mk' (locs [X1 2 11]) [some 11] ?_
    simp -implicitDefEqProofs only [push_cast, false_implies, reduceCtorEq, Classical.not_not, Nat.reduceAdd, Nat.reduceSub, Nat.reduceMul, Nat.reduceLeDiff, Nat.reduceLT, Nat.reduceEqDiff, Nat.reduceBEq, Nat.reduceBNe, Int.reduceNeg, Int.reduceToNat, Bool.or_false, Bool.false_or, Bool.or_true, Bool.true_or, BEq.rfl, Bool.not_eq_true, Bool.not_eq_false, decide_eq_true_eq, not_true_eq_false, not_false_eq_true, ite_true, ite_false, List.append_nil, and_assoc, Nat.mul_zero, Nat.zero_mul, fs43, fs63]
def ent43 : Entry := spOf fs43 inv43
theorem e43 : EntryOk Try.prog 43 ent43 := entry_of ok43 inv43
@[push_cast] theorem ent43_app (us : List SV) (look : Look) (x : Nat → Xf.Loc) (k : Nat) : ent43 us look x k = spOf fs43 inv43 us look x k := rfl
def fs49 : FS := { fs43 with res := fun a x => bmN a x }
theorem ok49 : FSOk Try.prog 49 fs49 := by
  refine ⟨⟨_, Try.func49, by kernel_rfl, by kernel_rfl⟩, fun a => ⟨by simp [fs49, fs43, fs63, push_cast, noMine, argOwn, Chunk.frArg], by simp [fs49, fs43, fs63, push_cast, outOk, Chunk.ext], fun x => .inl (by simp [fs49, fs43, fs63, push_cast, frNew, frOut, Chunk.fr])⟩, fun a hp => ?_⟩
  obtain ⟨w, h⟩ := a
  change SidesOk w h at hp
  have hb := hp.bd
  change Tri Try.prog 49 [.int .i64 w, .int .i64 h, .int .i64 0] [] (postF fs49 ⟨w, h⟩)
  refine tri_evS (hyp (l := []) (lp := []) trivial trivial) Try.func49 comp49 (rs := [.cell 6 (some 3)]) (by rfl) Try.ntmps49 14 ?_
  simp -implicitDefEqProofs only [push_cast, false_implies, reduceCtorEq, Classical.not_not, Nat.reduceAdd, Nat.reduceSub, Nat.reduceMul, Nat.reduceLeDiff, Nat.reduceLT, Nat.reduceEqDiff, Nat.reduceBEq, Nat.reduceBNe, Int.reduceNeg, Int.reduceToNat, Bool.or_false, Bool.false_or, Bool.or_true, Bool.true_or, BEq.rfl, Bool.not_eq_true, Bool.not_eq_false, decide_eq_true_eq, not_true_eq_false, not_false_eq_true, ite_true, ite_false, List.append_nil, and_assoc, Nat.mul_zero, Nat.zero_mul, ir49]
  intro X X1
  obtain ⟨n, hn⟩ : ∃ n : Nat, w * h = n := ⟨(w * h).toNat, by omega⟩
  simp only [hn] at hb
  refine evS_loopU (A := Nat × Xf.Loc) kp49_1 kl49_1 (fun y => [(8, .int .i64 y.1)]) (fun y => [(11, .mine, X1 3 11, .cells [.int .i64 w, .int .i64 h, .sl 13 y.2 1 0 y.1]), (13, .mine, y.2, .ints .u8 (List.replicate y.1 0))]) (fun y => y.1 ≤ n) (fun y => n - y.1) (0, nilLoc) (Nat.zero_le _) (Sub.pt ?_) ?_
  · simp -implicitDefEqProofs only [push_cast, false_implies, reduceCtorEq, Classical.not_not, Nat.reduceAdd, Nat.reduceSub, Nat.reduceMul, Nat.reduceLeDiff, Nat.reduceLT, Nat.reduceEqDiff, Nat.reduceBEq, Nat.reduceBNe, Int.reduceNeg, Int.reduceToNat, Bool.or_false, Bool.false_or, Bool.or_true, Bool.true_or, BEq.rfl, Bool.not_eq_true, Bool.not_eq_false, decide_eq_true_eq, not_true_eq_false, not_false_eq_true, ite_true, ite_false, List.append_nil, and_assoc, Nat.mul_zero, Nat.zero_mul, List.replicate_zero]
  intro ⟨i, M⟩ (hi : i ≤ n) K hK
  by_cases hi' : i < n
  · have hr : List.replicate i (0 : Int) ++ [0] = List.replicate (i + 1) 0 := List.replicate_succ'.symm
    have hlr : (List.replicate i (0 : Int)).length = i := List.length_replicate
    simp -implicitDefEqProofs only [push_cast, false_implies, reduceCtorEq, Classical.not_not, Nat.reduceAdd, Nat.reduceSub, Nat.reduceMul, Nat.reduceLeDiff, Nat.reduceLT, Nat.reduceEqDiff, Nat.reduceBEq, Nat.reduceBNe, Int.reduceNeg, Int.reduceToNat, Bool.or_false, Bool.false_or, Bool.or_true, Bool.true_or, BEq.rfl, Bool.not_eq_true, Bool.not_eq_false, decide_eq_true_eq, not_true_eq_false, not_false_eq_true, ite_true, ite_false, List.append_nil, and_assoc, Nat.mul_zero, Nat.zero_mul, b49_1, hn, hlr]
    refine ⟨by omega, by omega, fun _ X2 => ?_, fun h => by omega⟩
    repeat (refine And.intro (by first | omega | trivial | (intros; omega)) ?_)
    refine hK (i + 1, X2 5 13) (show i + 1 ≤ n by omega) (show n - (i + 1) < n - i by omega) _ _ (Sub.pt ?_)
    simp -implicitDefEqProofs only [push_cast, false_implies, reduceCtorEq, Classical.not_not, Nat.reduceAdd, Nat.reduceSub, Nat.reduceMul, Nat.reduceLeDiff, Nat.reduceLT, Nat.reduceEqDiff, Nat.reduceBEq, Nat.reduceBNe, Int.reduceNeg, Int.reduceToNat, Bool.or_false, Bool.false_or, Bool.or_true, Bool.true_or, BEq.rfl, Bool.not_eq_true, Bool.not_eq_false, decide_eq_true_eq, not_true_eq_false, not_false_eq_true, ite_true, ite_false, List.append_nil, and_assoc, Nat.mul_zero, Nat.zero_mul, hr]
  · obtain rfl : i = n := by omega
    clear hK
    have hz : zb (i : Int) = List.replicate i 0 := by unfold zb; rfl
    simp -implicitDefEqProofs only [push_cast, false_implies, reduceCtorEq, Classical.not_not, Nat.reduceAdd, Nat.reduceSub, Nat.reduceMul, Nat.reduceLeDiff, Nat.reduceLT, Nat.reduceEqDiff, Nat.reduceBEq, Nat.reduceBNe, Int.reduceNeg, Int.reduceToNat, Bool.or_false, Bool.false_or, Bool.or_true, Bool.true_or, BEq.rfl, Bool.not_eq_true, Bool.not_eq_false, decide_eq_true_eq, not_true_eq_false, not_false_eq_true, ite_true, ite_false, List.append_nil, and_assoc, Nat.mul_zero, Nat.zero_mul, b49_1, r49_2, hn, Int.lt_irrefl, true_implies, true_and]
    refine ⟨by omega, by omega, ?_⟩
    refine postF.mk' (locs [M]) [some 13] ?_
    simp -implicitDefEqProofs only [push_cast, false_implies, reduceCtorEq, Classical.not_not, Nat.reduceAdd, Nat.reduceSub, Nat.reduceMul, Nat.reduceLeDiff, Nat.reduceLT, Nat.reduceEqDiff, Nat.reduceBEq, Nat.reduceBNe, Int.reduceNeg, Int.reduceToNat, Bool.or_false, Bool.false_or, Bool.or_true, Bool.true_or, BEq.rfl, Bool.not_eq_true, Bool.not_eq_false, decide_eq_true_eq, not_true_eq_false, not_false_eq_true, ite_true, ite_false, List.append_nil, and_assoc, Nat.mul_zero, Nat.zero_mul, fs49, fs43, fs63, hz, hn]
def ent49 : Entry := spOf fs49 inv43
theorem e49 : EntryOk Try.prog 49 ent49 := entry_of ok49 inv43
@[push_cast] theorem ent49_app (us : List SV) (look : Look) (x : Nat → Xf.Loc) (k : Nat) : ent49 us look x k = spOf fs49 inv43 us look x k := rfl
theorem ok46 : FSOk Try.prog 46 fs43 := by
  refine ⟨⟨_, Try.func46, by kernel_rfl, by kernel_rfl⟩, fun a => ⟨by simp [fs43, fs63, push_cast, noMine, argOwn, Chunk.frArg], by simp [fs43, fs63, push_cast, outOk, Chunk.ext], fun x => .inl (by simp [fs43, fs63, push_cast, frNew, frOut, Chunk.fr])⟩, fun a hp => ?_⟩
  obtain ⟨w, h⟩ := a
  change SidesOk w h at hp
  have hb := hp.bd
  obtain ⟨s1, s2, s3, s4, s5⟩ := id hp
  have n1 : ¬ w < 0 := by omega
  have n2 : ¬ h < 0 := by omega
  change Tri Try.prog 46 [.int .i64 w, .int .i64 h, .int .i64 0] [] (postF fs43 ⟨w, h⟩)
  refine tri_evS (hyp (l := [(49, ent49)]) (lp := [(32, sidesF)]) ⟨e49, trivial⟩ ⟨p32, trivial⟩) Try.func46 comp46 (rs := [.cell 6 (some 3), .tmp 7]) (by rfl) Try.ntmps46 15 ?_
  simp -implicitDefEqProofs only [push_cast, false_implies, reduceCtorEq, Classical.not_not, Nat.reduceAdd, Nat.reduceSub, Nat.reduceMul, Nat.reduceLeDiff, Nat.reduceLT, Nat.reduceEqDiff, Nat.reduceBEq, Nat.reduceBNe, Int.reduceNeg, Int.reduceToNat, Bool.or_false, Bool.false_or, Bool.or_true, Bool.true_or, BEq.rfl, Bool.not_eq_true, Bool.not_eq_false, decide_eq_true_eq, not_true_eq_false, not_false_eq_true, ite_true, ite_false, List.append_nil, and_assoc, Nat.mul_zero, Nat.zero_mul, ir46, fs49, fs43, fs63, hp, n1, n2]
  refine fun X => ⟨fun h => by omega, fun _ X1 => ?_⟩
  refine postF.mk' (locs [X1 3 11]) [some 11] ?_
  simp -implicitDefEqProofs only [push_cast, false_implies, reduceCtorEq, Classical.not_not, Nat.reduceAdd, Nat.reduceSub, Nat.reduceMul, Nat.reduceLeDiff, Nat.reduceLT, Nat.reduceEqDiff, Nat.reduceBEq, Nat.reduceBNe, Int.reduceNeg, Int.reduceToNat, Bool.or_false, Bool.false_or, Bool.or_true, Bool.true_or, BEq.rfl, Bool.not_eq_true, Bool.not_eq_false, decide_eq_true_eq, not_true_eq_false, not_false_eq_true, ite_true, ite_false, List.append_nil, and_assoc, Nat.mul_zero, Nat.zero_mul, fs43, fs63]
def ent46 : Entry := spOf fs43 inv43
theorem e46 : EntryOk Try.prog 46 ent46 := entry_of ok46 inv43
@[push_cast] theorem ent46_app (us : List SV) (look : Look) (x : Nat → Xf.Loc) (k : Nat) : ent46 us look x k = spOf fs43 inv43 us look x k := rfl
def ir48 : IR :=
  .seq (.reg false [⟨some 4, none, ⟨[], []⟩, .box 10 (.t 0)⟩] [0] []) (.reg false [⟨some 8, none, ⟨[], []⟩, .fld (.t 4) 2⟩,
    ⟨some 9, none, ⟨[], []⟩, .ld false none 0 0 (.t 8)⟩,
    ⟨some 10, none, ⟨[], []⟩, .mov (.t 2)⟩,
    ⟨some 11, none, ⟨[], []⟩, .fld (.t 4) 0⟩,
    ⟨some 12, none, ⟨[], []⟩, .ld false none 0 0 (.t 11)⟩,
    ⟨some 13, none, ⟨[], []⟩, .bin 0 .mul (.t 10) (.t 12)⟩,
    ⟨some 14, none, ⟨[], []⟩, .mov (.t 1)⟩,
    ⟨some 15, none, ⟨[], []⟩, .bin 0 .add (.t 13) (.t 14)⟩,
    ⟨some 16, none, ⟨[], []⟩, .mov (.t 3)⟩,
    ⟨some 17, none, ⟨[], []⟩, .cvt 0 .u8 (.t 16)⟩,
    ⟨some 18, none, ⟨[], []⟩, .idxS (.t 9) (.t 15) 1⟩,
    ⟨none, none, ⟨[], []⟩, .sto true 1 .i64 (.t 18) (.t 17)⟩] [1, 2, 3, 4, 8, 9, 10, 11, 12, 13, 14, 15, 16, 17, 18] [])
set_option maxRecDepth 4000 in
theorem comp48 : (Try.f48.body.bind fun c => compC tab isP chkAll ir48 c) = some ir48 := by kernel_rfl
def ir26 : IR :=
  .seq (.reg false [⟨some 2, none, ⟨[], []⟩, .box 10 (.t 0)⟩,
    ⟨some 3, none, ⟨[], []⟩, .box 11 (.t 1)⟩,
    ⟨some 4, none, ⟨[], []⟩, .mov (.k (.bool false))⟩] [0, 1, 4] []) (.seq (.reg false [⟨some 5, none, ⟨[], []⟩, .fld (.t 2) 0⟩,
    ⟨some 6, none, ⟨[], []⟩, .ld false none 0 0 (.t 5)⟩,
    ⟨some 7, none, ⟨[], []⟩, .fld (.t 3) 0⟩,
    ⟨some 8, none, ⟨[], []⟩, .ld false none 0 0 (.t 7)⟩,
    ⟨some 9, none, ⟨[], []⟩, .bin 0 .eql (.t 6) (.t 8)⟩,
    ⟨some 10, none, ⟨[], []⟩, .mov (.t 9)⟩,
    ⟨some 11, some (10, true), ⟨[], []⟩, .fld (.t 2) 1⟩,
    ⟨some 12, some (10, true), ⟨[], []⟩, .ld false none 0 0 (.t 11)⟩,
    ⟨some 13, some (10, true), ⟨[], []⟩, .fld (.t 3) 1⟩,
    ⟨some 14, some (10, true), ⟨[], []⟩, .ld false none 0 0 (.t 13)⟩,
    ⟨some 15, some (10, true), ⟨[], []⟩, .bin 0 .eql (.t 12) (.t 14)⟩,
    ⟨some 16, none, ⟨[], []⟩, .pick (.t 10) (.t 15) (.k (.bool false))⟩,
    ⟨some 17, none, ⟨[], []⟩, .mov (.t 16)⟩,
    ⟨some 18, some (17, true), ⟨[], []⟩, .fld (.t 2) 2⟩,
    ⟨some 19, some (17, true), ⟨[], []⟩, .ld false none 0 0 (.t 18)⟩,
    ⟨some 20, some (17, true), ⟨[], []⟩, .str (.t 19)⟩,
    ⟨some 21, some (17, true), ⟨[], []⟩, .fld (.t 3) 2⟩,
    ⟨some 22, some (17, true), ⟨[], []⟩, .ld false none 0 0 (.t 21)⟩,
    ⟨some 23, some (17, true), ⟨[], []⟩, .str (.t 22)⟩,
    ⟨some 24, some (17, true), ⟨[], []⟩, .binT .eql (.t 20) (.t 23)⟩,
    ⟨some 25, none, ⟨[], []⟩, .pick (.t 17) (.t 24) (.k (.bool false))⟩,
    ⟨some 4, none, ⟨[], []⟩, .mov (.t 25)⟩] [2, 3, 5, 6, 7, 8, 9, 10, 11, 12, 13, 14, 15, 16, 17, 18, 19, 20, 21, 22, 23, 24, 25] []) (.ret))
set_option maxRecDepth 4000 in
theorem comp26 : (Try.f26.body.bind fun c => compC tab isP chkAll ir26 c) = some ir26 := by kernel_rfl
def b27_1 : IR :=
  .seq (.seq (.reg false [⟨some 5, none, ⟨[], []⟩, .mov (.t 4)⟩,
    ⟨some 6, none, ⟨[], []⟩, .fld (.t 1) 2⟩,
    ⟨some 7, none, ⟨[], []⟩, .ld false none 0 0 (.t 6)⟩,
    ⟨some 8, none, ⟨[], []⟩, .len (.t 7)⟩,
    ⟨some 9, none, ⟨[], []⟩, .bin 0 .lss (.t 5) (.t 8)⟩] [5, 6, 7, 8] []) (.cond (.t 9) (.skip) (.exit 0))) (.seq (.block 1 (.reg false [⟨some 12, none, ⟨[], []⟩, .mov (.t 3)⟩,
    ⟨some 13, none, ⟨[], []⟩, .fld (.t 1) 2⟩,
    ⟨some 14, none, ⟨[], []⟩, .ld false none 0 0 (.t 13)⟩,
    ⟨some 15, none, ⟨[], []⟩, .mov (.t 4)⟩,
    ⟨some 16, none, ⟨[], []⟩, .idxS (.t 14) (.t 15) 1⟩,
    ⟨some 17, none, ⟨[], []⟩, .ld true none 0 0 (.t 16)⟩,
    ⟨some 18, none, ⟨[], []⟩, .cvt 0 .i64 (.t 17)⟩,
    ⟨some 19, none, ⟨[], []⟩, .bin 0 .add (.t 12) (.t 18)⟩,
    ⟨some 3, none, ⟨[], []⟩, .mov (.t 19)⟩] [9, 12, 13, 14, 15, 16, 17, 18, 19] [])) (.reg false [⟨some 10, none, ⟨[], []⟩, .mov (.t 4)⟩,
    ⟨some 11, none, ⟨[], []⟩, .bin 0 .add (.t 10) (.k (.int .i64 1))⟩,
    ⟨some 4, none, ⟨[], []⟩, .mov (.t 11)⟩] [10, 11] []))
def r27_2 : IR :=
  .seq (.reg false [⟨some 20, none, ⟨[], []⟩, .mov (.t 3)⟩,
    ⟨some 2, none, ⟨[], []⟩, .mov (.t 20)⟩] [1, 3, 4, 20] []) (.ret)
def ir27 : IR :=
  .seq (.reg false [⟨some 1, none, ⟨[], []⟩, .box 10 (.t 0)⟩,
    ⟨some 2, none, ⟨[], []⟩, .mov (.k (.int .i64 0))⟩] [0, 2] []) (.seq (.reg false [⟨some 3, none, ⟨[], []⟩, .mov (.k (.int .i64 0))⟩] [] []) (.seq (.seq (.reg false [⟨some 4, none, ⟨[], []⟩, .mov (.k (.int .i64 0))⟩] [] []) (.block 0 (.loop b27_1))) (r27_2)))
def kp27_1 : List Nat := [1, 3, 4]
def kl27_1 : List Nat := []
attribute [push_cast] kp27_1 kl27_1
set_option maxRecDepth 4000 in
theorem comp27 : (Try.f27.body.bind fun c => compC tab isP chkAll ir27 c) = some ir27 := by kernel_rfl
def b28_2 : IR :=
  .seq (.seq (.reg false [⟨some 22, none, ⟨[], []⟩, .mov (.t 13)⟩,
    ⟨some 23, none, ⟨[], []⟩, .mov (.t 3)⟩,
    ⟨some 24, none, ⟨[], []⟩, .bin 0 .lss (.t 22) (.t 23)⟩] [22, 23] []) (.cond (.t 24) (.skip) (.exit 2))) (.seq (.block 3 (.reg true [⟨some 27, none, ⟨[17, 18, 19, 20], []⟩, .ld false (some 3) 0 0 (.t 11)⟩,
    ⟨some 28, none, ⟨[], []⟩, .mov (.t 13)⟩,
    ⟨some 29, none, ⟨[], []⟩, .mov (.t 12)⟩,
    ⟨some 30, none, ⟨[], []⟩, .ld false (some 3) 0 0 (.t 5)⟩,
    ⟨some 31, none, ⟨[], []⟩, .mov (.t 1)⟩,
    ⟨some 32, none, ⟨[], []⟩, .mov (.t 13)⟩,
    ⟨some 33, none, ⟨[], []⟩, .bin 0 .add (.t 31) (.t 32)⟩,
    ⟨some 34, none, ⟨[], []⟩, .mov (.t 2)⟩,
    ⟨some 35, none, ⟨[], []⟩, .mov (.t 12)⟩,
    ⟨some 36, none, ⟨[], []⟩, .bin 0 .add (.t 34) (.t 35)⟩,
    ⟨some 37, none, ⟨[], []⟩, .call (some 4) 17 50 [.t 30, .t 33, .t 36]⟩,
    ⟨some 38, none, ⟨[], []⟩, .call none 21 48 [.t 27, .t 28, .t 29, .t 37]⟩] [24, 27, 28, 29, 30, 31, 32, 33, 34, 35, 36, 37, 38] [])) (.reg false [⟨some 25, none, ⟨[], []⟩, .mov (.t 13)⟩,
    ⟨some 26, none, ⟨[], []⟩, .bin 0 .add (.t 25) (.k (.int .i64 1))⟩,
    ⟨some 13, none, ⟨[], []⟩, .mov (.t 26)⟩] [25, 26] []))
def r28_3 : IR :=
  .reg false [⟨some 20, none, ⟨[], []⟩, .mov (.t 12)⟩,
    ⟨some 21, none, ⟨[], []⟩, .bin 0 .add (.t 20) (.k (.int .i64 1))⟩,
    ⟨some 12, none, ⟨[], []⟩, .mov (.t 21)⟩] [13, 20, 21] []
def b28_1 : IR :=
  .seq (.seq (.reg false [⟨some 17, none, ⟨[], []⟩, .mov (.t 12)⟩,
    ⟨some 18, none, ⟨[], []⟩, .mov (.t 4)⟩,
    ⟨some 19, none, ⟨[], []⟩, .bin 0 .lss (.t 17) (.t 18)⟩] [17, 18] []) (.cond (.t 19) (.skip) (.exit 0))) (.seq (.block 1 (.seq (.reg false [⟨some 13, none, ⟨[], []⟩, .mov (.k (.int .i64 0))⟩] [19] []) (.block 2 (.loop b28_2)))) (r28_3))
def r28_4 : IR :=
  .seq (.reg false [⟨some 39, none, ⟨[], []⟩, .ld false (some 3) 0 0 (.t 11)⟩,
    ⟨none, none, ⟨[], []⟩, .sto false 3 .u8 (.t 10) (.t 39)⟩] [1, 2, 3, 4, 5, 11, 12, 39] []) (.ret)
def ir28 : IR :=
  .seq (.reg false [⟨some 5, none, ⟨[], []⟩, .box 10 (.t 0)⟩,
    ⟨some 10, none, ⟨[], []⟩, .alloc 11 [.int .i64 0, .int .i64 0, nilSV]⟩] [0] []) (.seq (.reg false [⟨some 14, none, ⟨[], []⟩, .mov (.t 3)⟩,
    ⟨some 15, none, ⟨[], []⟩, .mov (.t 4)⟩,
    ⟨some 16, none, ⟨[], []⟩, .call (some 4) 12 49 [.t 14, .t 15, .k (.int .i64 0)]⟩,
    ⟨some 11, none, ⟨[], []⟩, .alloc 16 [.int .i64 0, .int .i64 0, nilSV]⟩,
    ⟨none, none, ⟨[], []⟩, .sto false 3 .u8 (.t 11) (.t 16)⟩] [14, 15, 16] []) (.seq (.seq (.reg false [⟨some 12, none, ⟨[], []⟩, .mov (.k (.int .i64 0))⟩] [] []) (.block 0 (.loop b28_1))) (r28_4)))
def kp28_2 : List Nat := [1, 2, 3, 4, 5, 10, 11, 12, 13]
def kl28_2 : List Nat := [17, 18, 19, 20, 21, 22, 23, 24]
attribute [push_cast] kp28_2 kl28_2
def kp28_1 : List Nat := [1, 2, 3, 4, 5, 10, 11, 12]
def kl28_1 : List Nat := [17, 18, 19, 20, 21, 22, 23, 24]
attribute [push_cast] kp28_1 kl28_1
set_option maxRecDepth 4000 in
theorem comp28 : (Try.f28.body.bind fun c => compC tab isP chkAll ir28 c) = some ir28 := by kernel_rfl
structure PuA where
  b : Bm
  L : Xf.Loc
  x : Nat
  y : Nat
  v : Int
def fs48 : FS where
  A := PuA
  args := fun a => [bmV a.b a.L 0, .int .i64 a.x, .int .i64 a.y, .int .i64 a.v]
  mem := fun a => [some (.lent, a.L, .ints .u8 a.b.xs)]
  pre := fun a => SidesOk a.b.w a.b.h ∧ a.b.xs.length = a.b.w * a.b.h ∧ (a.x : Int) < a.b.w ∧ (a.y : Int) < a.b.h ∧ 0 ≤ a.v ∧ a.v ≤ 1
  res := fun _ _ => .tup []
  out := fun a _ => [some (some (.ints .u8 (a.b.xs.set (a.y * a.b.w.toNat + a.x) a.v)))]
  new := fun _ _ => []
def inv48 : List SV → Look → Option (PuA × List Nat)
  | [v, .int .i64 x, .int .i64 y, .int .i64 p], look => match getB look v with
    | some (a, g) => some (⟨a.b, a.L, x.toNat, y.toNat, p⟩, g)
    | _ => none
  | _, _ => none
attribute [push_cast] inv48
theorem ok48 : FSOk Try.prog 48 fs48 := by
  refine ⟨⟨_, Try.func48, by kernel_rfl, by kernel_rfl⟩, fun a => ⟨by simp [fs48, push_cast, noMine, argOwn, Chunk.frArg], by simp [fs48, push_cast, outOk, Chunk.ext], fun x => .inl (by simp [fs48, push_cast, frNew, frOut, Chunk.fr])⟩, fun a hp => ?_⟩
  obtain ⟨⟨w, h, xs⟩, L, x, y, v⟩ := a
  obtain ⟨⟨s1, s2, s3, s4, s5⟩, hl, hx, hy, h0, h1⟩ : SidesOk w h ∧ (xs.length : Int) = w * h ∧ (x : Int) < w ∧ (y : Int) < h ∧ 0 ≤ v ∧ v ≤ 1 := hp
  obtain ⟨w, rfl⟩ : ∃ n : Nat, w = n := ⟨w.toNat, by omega⟩
  have hi := idx_bd (a := (y : Int)) (b := (x : Int)) (W := w) (H := h) (by omega) hy (by omega) hx
  have hm := mul_bd (a := (y : Int)) (b := (w : Int)) (A := 200) (B := 200) (by omega) (by omega) (by omega) (by omega)
  obtain ⟨j, hj⟩ : ∃ j, y * w + x = j := ⟨_, rfl⟩
  have hjI : (y : Int) * w + x = j := by rw [← hj]; push_cast
  rw [hjI] at hi
  change Tri Try.prog 48 [bmV ⟨w, h, xs⟩ L 0, .int .i64 x, .int .i64 y, .int .i64 v] [some (.lent, L, .ints .u8 xs)] (postF fs48 ⟨⟨w, h, xs⟩, L, x, y, v⟩)
  refine tri_evS (hyp (l := []) (lp := []) trivial trivial) Try.func48 comp48 (rs := []) (by rfl) Try.ntmps48 11 ?_
  simp -implicitDefEqProofs only [push_cast, false_implies, reduceCtorEq, Classical.not_not, Nat.reduceAdd, Nat.reduceSub, Nat.reduceMul, Nat.reduceLeDiff, Nat.reduceLT, Nat.reduceEqDiff, Nat.reduceBEq, Nat.reduceBNe, Int.reduceNeg, Int.reduceToNat, Bool.or_false, Bool.false_or, Bool.or_true, Bool.true_or, BEq.rfl, Bool.not_eq_true, Bool.not_eq_false, decide_eq_true_eq, not_true_eq_false, not_false_eq_true, ite_true, ite_false, List.append_nil, and_assoc, Nat.mul_zero, Nat.zero_mul, ir48, bmV, hjI, Int.toNat_natCast]
  intro X
  repeat (refine And.intro (by first | omega | trivial | (intros; omega)) ?_)
  refine postF.mk' (fun _ => default) [some 0] ?_
  simp -implicitDefEqProofs only [push_cast, false_implies, reduceCtorEq, Classical.not_not, Nat.reduceAdd, Nat.reduceSub, Nat.reduceMul, Nat.reduceLeDiff, Nat.reduceLT, Nat.reduceEqDiff, Nat.reduceBEq, Nat.reduceBNe, Int.reduceNeg, Int.reduceToNat, Bool.or_false, Bool.false_or, Bool.or_true, Bool.true_or, BEq.rfl, Bool.not_eq_true, Bool.not_eq_false, decide_eq_true_eq, not_true_eq_false, not_false_eq_true, ite_true, ite_false, List.append_nil, and_assoc, Nat.mul_zero, Nat.zero_mul, fs48, Int.toNat_natCast, hj]
def ent48 : Entry := spOf fs48 inv48
theorem e48 : EntryOk Try.prog 48 ent48 := entry_of ok48 inv48
@[push_cast] theorem ent48_app (us : List SV) (look : Look) (x : Nat → Xf.Loc) (k : Nat) : ent48 us look x k = spOf fs48 inv48 us look x k := rfl
structure Bm2 where
  b : Bm
  L1 : Xf.Loc
  L2 : Xf.Loc
/-- Of bitmaps that are the same. -/
def fs26 : FS where
  A := Bm2
  args := fun a => [bmV a.b a.L1 0, bmV a.b a.L2 1]
  mem := fun a => [some (.ro, a.L1, .ints .u8 a.b.xs), some (.ro, a.L2, .ints .u8 a.b.xs)]
  pre := fun a => a.b.xs.length ≤ 1000000
  res := fun _ _ => .bool true
  out := fun _ _ => []
  new := fun _ _ => []
def inv26 : List SV → Look → Option (Bm2 × List Nat)
  | [u, v], look => match getB look u, getB look v with
    | some (a, g), some (b, g') => some (⟨a.b, a.L, b.L⟩, g ++ g')
    | _, _ => none
  | _, _ => none
attribute [push_cast] inv26
theorem ok26 : FSOk Try.prog 26 fs26 := by
  refine ⟨⟨_, Try.func26, by kernel_rfl, by kernel_rfl⟩, fun a => ⟨by simp [fs26, push_cast, noMine, argOwn, Chunk.frArg], by simp [fs26, push_cast, outOk, Chunk.ext], fun x => .inl (by simp [fs26, push_cast, frNew, frOut, Chunk.fr])⟩, fun a hp => ?_⟩
  obtain ⟨⟨w, h, xs⟩, L1, L2⟩ := a
  change xs.length ≤ 1000000 at hp
  change Tri Try.prog 26 [bmV ⟨w, h, xs⟩ L1 0, bmV ⟨w, h, xs⟩ L2 1] [some (.ro, L1, .ints .u8 xs), some (.ro, L2, .ints .u8 xs)] (postF fs26 ⟨⟨w, h, xs⟩, L1, L2⟩)
  have hss : (((strB (sub xs 0 (xs.length : Nat))).toList) == ((strB (sub xs 0 (xs.length : Nat))).toList)) = true := beq_self_eq_true _
  refine tri_evS (hyp (l := []) (lp := []) trivial trivial) Try.func26 comp26 (rs := [.tmp 4]) (by rfl) Try.ntmps26 12 ?_
  simp -implicitDefEqProofs only [push_cast, false_implies, reduceCtorEq, Classical.not_not, Nat.reduceAdd, Nat.reduceSub, Nat.reduceMul, Nat.reduceLeDiff, Nat.reduceLT, Nat.reduceEqDiff, Nat.reduceBEq, Nat.reduceBNe, Int.reduceNeg, Int.reduceToNat, Bool.or_false, Bool.false_or, Bool.or_true, Bool.true_or, BEq.rfl, Bool.not_eq_true, Bool.not_eq_false, decide_eq_true_eq, not_true_eq_false, not_false_eq_true, ite_true, ite_false, List.append_nil, and_assoc, Nat.mul_zero, Nat.zero_mul, ir26, bmV, hss]
  intro X
  repeat (refine And.intro (by first | omega | trivial | (intros; omega)) ?_)
  refine postF.mk' (fun _ => default) [some 0, some 1] ?_
  simp -implicitDefEqProofs only [push_cast, false_implies, reduceCtorEq, Classical.not_not, Nat.reduceAdd, Nat.reduceSub, Nat.reduceMul, Nat.reduceLeDiff, Nat.reduceLT, Nat.reduceEqDiff, Nat.reduceBEq, Nat.reduceBNe, Int.reduceNeg, Int.reduceToNat, Bool.or_false, Bool.false_or, Bool.or_true, Bool.true_or, BEq.rfl, Bool.not_eq_true, Bool.not_eq_false, decide_eq_true_eq, not_true_eq_false, not_false_eq_true, ite_true, ite_false, List.append_nil, and_assoc, Nat.mul_zero, Nat.zero_mul, fs26]
def ent26 : Entry := spOf fs26 inv26
theorem e26 : EntryOk Try.prog 26 ent26 := entry_of ok26 inv26
@[push_cast] theorem ent26_app (us : List SV) (look : Look) (x : Nat → Xf.Loc) (k : Nat) : ent26 us look x k = spOf fs26 inv26 us look x k := rfl
def Bw (xs : List Int) : Prop := ∀ n ∈ xs, 0 ≤ n ∧ n ≤ 1
def fs27 : FS where
  A := BmA
  args := fun a => [bmV a.b a.L 0]
  mem := fun a => [some (.ro, a.L, .ints .u8 a.b.xs)]
  pre := fun a => Bw a.b.xs ∧ a.b.xs.length ≤ 1000000
  res := fun a _ => .int .i64 (sumF (fun k => rd a.b.xs (k : Nat)) a.b.xs.length)
  out := fun _ _ => []
  new := fun _ _ => []
def inv27 : List SV → Look → Option (BmA × List Nat)
  | [v], look => getB look v
  | _, _ => none
attribute [push_cast] inv27
theorem bw_rd {xs : List Int} (h : Bw xs) (k : Nat) (hk : k < xs.length) : 0 ≤ rd xs (k : Nat) ∧ rd xs (k : Nat) ≤ 1 := by
  have := h _ (List.getElem_mem hk)
  rwa [rd_lt xs k hk]
theorem ok27 : FSOk Try.prog 27 fs27 := by
  refine ⟨⟨_, Try.func27, by kernel_rfl, by kernel_rfl⟩, fun a => ⟨by simp [fs27, push_cast, noMine, argOwn, Chunk.frArg], by simp [fs27, push_cast, outOk, Chunk.ext], fun x => .inl (by simp [fs27, push_cast, frNew, frOut, Chunk.fr])⟩, fun a hp => ?_⟩
  obtain ⟨⟨w, h, xs⟩, L⟩ := a
  obtain ⟨hb, hl⟩ : Bw xs ∧ xs.length ≤ 1000000 := hp
  have hr := bw_rd hb
  have hs : ∀ i, i ≤ xs.length → 0 ≤ sumF (fun k => rd xs (k : Nat)) i ∧ sumF (fun k => rd xs (k : Nat)) i ≤ i * 1 := fun i hi => sumF_bd fun k hk => hr k (by omega)
  have hst : ∀ i, sumF (fun k => rd xs (k : Nat)) (i + 1) = sumF (fun k => rd xs (k : Nat)) i + rd xs (i : Nat) := fun _ => rfl
  change Tri Try.prog 27 [bmV ⟨w, h, xs⟩ L 0] [some (.ro, L, .ints .u8 xs)] (postF fs27 ⟨⟨w, h, xs⟩, L⟩)
  obtain ⟨S, hS⟩ : ∃ S, sumF (fun k => rd xs (k : Nat)) = S := ⟨_, rfl⟩
  rw [hS] at hs
  simp only [hS] at hst
  have h0 : S 0 = 0 := by rw [← hS]; rfl
  refine tri_evS (hyp (l := []) (lp := []) trivial trivial) Try.func27 comp27 (rs := [.tmp 2]) (by rfl) Try.ntmps27 11 ?_
  simp -implicitDefEqProofs only [push_cast, false_implies, reduceCtorEq, Classical.not_not, Nat.reduceAdd, Nat.reduceSub, Nat.reduceMul, Nat.reduceLeDiff, Nat.reduceLT, Nat.reduceEqDiff, Nat.reduceBEq, Nat.reduceBNe, Int.reduceNeg, Int.reduceToNat, Bool.or_false, Bool.false_or, Bool.or_true, Bool.true_or, BEq.rfl, Bool.not_eq_true, Bool.not_eq_false, decide_eq_true_eq, not_true_eq_false, not_false_eq_true, ite_true, ite_false, List.append_nil, and_assoc, Nat.mul_zero, Nat.zero_mul, ir27, bmV]
  intro X
  refine evS_loopU (A := Nat) kp27_1 kl27_1 (fun i => [(3, .int .i64 (S i)), (4, .int .i64 i)]) (fun _ => []) (fun i => i ≤ xs.length) (fun i => xs.length - i) 0 (Nat.zero_le _) (Sub.pt ?_) ?_
  · simp -implicitDefEqProofs only [push_cast, false_implies, reduceCtorEq, Classical.not_not, Nat.reduceAdd, Nat.reduceSub, Nat.reduceMul, Nat.reduceLeDiff, Nat.reduceLT, Nat.reduceEqDiff, Nat.reduceBEq, Nat.reduceBNe, Int.reduceNeg, Int.reduceToNat, Bool.or_false, Bool.false_or, Bool.or_true, Bool.true_or, BEq.rfl, Bool.not_eq_true, Bool.not_eq_false, decide_eq_true_eq, not_true_eq_false, not_false_eq_true, ite_true, ite_false, List.append_nil, and_assoc, Nat.mul_zero, Nat.zero_mul, h0]
  intro i (hi : i ≤ xs.length) K hK
  obtain ⟨b1, b2⟩ := hs i hi
  by_cases hi' : i < xs.length
  · obtain ⟨r1, r2⟩ := hr i hi'
    have hst := hst i
    simp -implicitDefEqProofs only [push_cast, false_implies, reduceCtorEq, Classical.not_not, Nat.reduceAdd, Nat.reduceSub, Nat.reduceMul, Nat.reduceLeDiff, Nat.reduceLT, Nat.reduceEqDiff, Nat.reduceBEq, Nat.reduceBNe, Int.reduceNeg, Int.reduceToNat, Bool.or_false, Bool.false_or, Bool.or_true, Bool.true_or, BEq.rfl, Bool.not_eq_true, Bool.not_eq_false, decide_eq_true_eq, not_true_eq_false, not_false_eq_true, ite_true, ite_false, List.append_nil, and_assoc, Nat.mul_zero, Nat.zero_mul, b27_1]
    refine ⟨fun _ => ?_, fun h => by omega⟩
    repeat (refine And.intro (by first | omega | trivial | (intros; omega)) ?_)
    refine hK (i + 1) (show i + 1 ≤ xs.length by omega) (show xs.length - (i + 1) < xs.length - i by omega) _ _ (Sub.pt ?_)
    simp -implicitDefEqProofs only [push_cast, false_implies, reduceCtorEq, Classical.not_not, Nat.reduceAdd, Nat.reduceSub, Nat.reduceMul, Nat.reduceLeDiff, Nat.reduceLT, Nat.reduceEqDiff, Nat.reduceBEq, Nat.reduceBNe, Int.reduceNeg, Int.reduceToNat, Bool.or_false, Bool.false_or, Bool.or_true, Bool.true_or, BEq.rfl, Bool.not_eq_true, Bool.not_eq_false, decide_eq_true_eq, not_true_eq_false, not_false_eq_true, ite_true, ite_false, List.append_nil, and_assoc, Nat.mul_zero, Nat.zero_mul, hst]
  · obtain rfl : i = xs.length := by omega
    clear hK
    simp -implicitDefEqProofs only [push_cast, false_implies, reduceCtorEq, Classical.not_not, Nat.reduceAdd, Nat.reduceSub, Nat.reduceMul, Nat.reduceLeDiff, Nat.reduceLT, Nat.reduceEqDiff, Nat.reduceBEq, Nat.reduceBNe, Int.reduceNeg, Int.reduceToNat, Bool.or_false, Bool.false_or, Bool.or_true, Bool.true_or, BEq.rfl, Bool.not_eq_true, Bool.not_eq_false, decide_eq_true_eq, not_true_eq_false, not_false_eq_true, ite_true, ite_false, List.append_nil, and_assoc, Nat.mul_zero, Nat.zero_mul, b27_1, r27_2, Int.lt_irrefl, true_implies, true_and]
    refine postF.mk' (fun _ => default) [some 0] ?_
    simp -implicitDefEqProofs only [push_cast, false_implies, reduceCtorEq, Classical.not_not, Nat.reduceAdd, Nat.reduceSub, Nat.reduceMul, Nat.reduceLeDiff, Nat.reduceLT, Nat.reduceEqDiff, Nat.reduceBEq, Nat.reduceBNe, Int.reduceNeg, Int.reduceToNat, Bool.or_false, Bool.false_or, Bool.or_true, Bool.true_or, BEq.rfl, Bool.not_eq_true, Bool.not_eq_false, decide_eq_true_eq, not_true_eq_false, not_false_eq_true, ite_true, ite_false, List.append_nil, and_assoc, Nat.mul_zero, Nat.zero_mul, fs27, hS]
def ent27 : Entry := spOf fs27 inv27
theorem e27 : EntryOk Try.prog 27 ent27 := entry_of ok27 inv27
@[push_cast] theorem ent27_app (us : List SV) (look : Look) (x : Nat → Xf.Loc) (k : Nat) : ent27 us look x k = spOf fs27 inv27 us look x k := rfl
structure PtA where
  b : Bm
  L : Xf.Loc
  x : Nat
  y : Nat
  w : Nat
  h : Nat
def ptF (xs : List Int) (W x y w : Nat) (k : Nat) : Int := rd xs (((y + k / w) * W + (x + k % w) : Nat) : Int)
def fs28 : FS where
  A := PtA
  args := fun a => [bmV a.b a.L 0, .int .i64 a.x, .int .i64 a.y, .int .i64 a.w, .int .i64 a.h]
  mem := fun a => [some (.ro, a.L, .ints .u8 a.b.xs)]
  pre := fun a => SidesOk a.b.w a.b.h ∧ (a.b.xs.length : Int) = a.b.w * a.b.h ∧ Bw a.b.xs ∧ (a.x : Int) + a.w ≤ a.b.w ∧ (a.y : Int) + a.h ≤ a.b.h
  res := fun a x => .agg [.int .i64 a.w, .int .i64 a.h, .sl 1 (x 0) 1 0 ((a.w * a.h : Nat) : Int)]
  out := fun _ _ => []
  new := fun a x => [(x 0, .ints .u8 (tabl (a.w * a.h) (ptF a.b.xs a.b.w.toNat a.x a.y a.w)))]
def inv28 : List SV → Look → Option (PtA × List Nat)
  | [v, .int .i64 x, .int .i64 y, .int .i64 w, .int .i64 h], look => match getB look v with
    | some (a, g) => some (⟨a.b, a.L, x.toNat, y.toNat, w.toNat, h.toNat⟩, g)
    | _ => none
  | _, _ => none
attribute [push_cast] inv28
set_option maxRecDepth 4000 in
theorem ok28 : FSOk Try.prog 28 fs28 := by
  refine ⟨⟨_, Try.func28, by kernel_rfl, by kernel_rfl⟩, fun a => ⟨by simp [fs28, push_cast, noMine, argOwn, Chunk.frArg], by simp [fs28, push_cast, outOk, Chunk.ext], fun x => .inl (by simp [fs28, push_cast, frNew, frOut, Chunk.fr])⟩, fun a hp => ?_⟩
  obtain ⟨⟨W, H, xs⟩, L, x, y, w, h⟩ := a
  obtain ⟨hs, hl, hb, hx, hy⟩ : SidesOk W H ∧ (xs.length : Int) = W * H ∧ Bw xs ∧ (x : Int) + w ≤ W ∧ (y : Int) + h ≤ H := hp
  obtain ⟨s1, s2, s3, s4, s5⟩ := id hs
  obtain ⟨W, rfl⟩ : ∃ n : Nat, W = n := ⟨W.toNat, by omega⟩
  obtain ⟨H, rfl⟩ : ∃ n : Nat, H = n := ⟨H.toNat, by omega⟩
  have hbO : (⟨W, H, xs⟩ : Bm).Ok := ⟨hs, hl, fun n hn => (hb n hn).2⟩
  have hb0 : ∀ n, n ∈ xs → 0 ≤ n := fun n hn => (hb n hn).1
  have hlB : xs.length = H * W := by rw [← Int.ofNat_inj, hl, Int.natCast_mul, Int.mul_comm]
  have hwh := mul_bd (a := (w : Int)) (b := (h : Int)) (A := W) (B := H) (by omega) (by omega) (by omega) (by omega)
  have hS : SidesOk (w : Int) (h : Int) := ⟨by omega, by omega, by omega, by omega, by omega⟩
  obtain ⟨f, hf⟩ : ∃ f, ptF xs W x y w = f := ⟨_, rfl⟩
  have hz : zb ((w : Int) * h) = prt (w * h) 0 f := by rw [prt_zero]; unfold zb; rw [← Int.natCast_mul]; rfl
  have hwhI : ((w * h : Nat) : Int) = (w : Int) * h := Int.natCast_mul ..
  change Tri Try.prog 28 [bmV ⟨W, H, xs⟩ L 0, .int .i64 x, .int .i64 y, .int .i64 w, .int .i64 h] [some (.ro, L, .ints .u8 xs)] (postF fs28 ⟨⟨W, H, xs⟩, L, x, y, w, h⟩)
  refine tri_evS (hyp (l := [(49, ent49), (50, ent50), (48, ent48)]) (lp := []) ⟨e49, e50, e48, trivial⟩ trivial) Try.func28 comp28 (rs := [.cell 10 (some 3)]) (by rfl) Try.ntmps28 25 ?_
  simp -implicitDefEqProofs only [push_cast, false_implies, reduceCtorEq, Classical.not_not, Nat.reduceAdd, Nat.reduceSub, Nat.reduceMul, Nat.reduceLeDiff, Nat.reduceLT, Nat.reduceEqDiff, Nat.reduceBEq, Nat.reduceBNe, Int.reduceNeg, Int.reduceToNat, Bool.or_false, Bool.false_or, Bool.or_true, Bool.true_or, BEq.rfl, Bool.not_eq_true, Bool.not_eq_false, decide_eq_true_eq, not_true_eq_false, not_false_eq_true, ite_true, ite_false, List.append_nil, and_assoc, Nat.mul_zero, Nat.zero_mul, ir28, bmV, fs49, fs43, fs63, hS, hz]
  intro X X1
  refine evS_loopU (A := Nat) kp28_1 kl28_1 (fun v => [(12, .int .i64 v)]) (fun v => [(12, .mine, X1 2 12, .ints .u8 (prt (w * h) (v * w) f))]) (fun v => v ≤ h) (fun v => h - v) 0 (Nat.zero_le _) (Sub.pt ?_) ?_
  · simp -implicitDefEqProofs only [push_cast, false_implies, reduceCtorEq, Classical.not_not, Nat.reduceAdd, Nat.reduceSub, Nat.reduceMul, Nat.reduceLeDiff, Nat.reduceLT, Nat.reduceEqDiff, Nat.reduceBEq, Nat.reduceBNe, Int.reduceNeg, Int.reduceToNat, Bool.or_false, Bool.false_or, Bool.or_true, Bool.true_or, BEq.rfl, Bool.not_eq_true, Bool.not_eq_false, decide_eq_true_eq, not_true_eq_false, not_false_eq_true, ite_true, ite_false, List.append_nil, and_assoc, Nat.mul_zero, Nat.zero_mul, Nat.zero_mul]
  intro v (hv : v ≤ h) K hK
  by_cases hv' : v < h
  · have hvI : (v : Int) < h := by omega
    simp -implicitDefEqProofs only [push_cast, false_implies, reduceCtorEq, Classical.not_not, Nat.reduceAdd, Nat.reduceSub, Nat.reduceMul, Nat.reduceLeDiff, Nat.reduceLT, Nat.reduceEqDiff, Nat.reduceBEq, Nat.reduceBNe, Int.reduceNeg, Int.reduceToNat, Bool.or_false, Bool.false_or, Bool.or_true, Bool.true_or, BEq.rfl, Bool.not_eq_true, Bool.not_eq_false, decide_eq_true_eq, not_true_eq_false, not_false_eq_true, ite_true, ite_false, List.append_nil, and_assoc, Nat.mul_zero, Nat.zero_mul, b28_1, hvI]
    refine evS_loopU (A := Nat) kp28_2 kl28_2 (fun u => [(13, .int .i64 u)]) (fun u => [(12, .mine, X1 2 12, .ints .u8 (prt (w * h) (v * w + u) f))]) (fun u => u ≤ w) (fun u => w - u) 0 (Nat.zero_le _) (Sub.pt ?_) ?_
    · simp -implicitDefEqProofs only [push_cast, false_implies, reduceCtorEq, Classical.not_not, Nat.reduceAdd, Nat.reduceSub, Nat.reduceMul, Nat.reduceLeDiff, Nat.reduceLT, Nat.reduceEqDiff, Nat.reduceBEq, Nat.reduceBNe, Int.reduceNeg, Int.reduceToNat, Bool.or_false, Bool.false_or, Bool.or_true, Bool.true_or, BEq.rfl, Bool.not_eq_true, Bool.not_eq_false, decide_eq_true_eq, not_true_eq_false, not_false_eq_true, ite_true, ite_false, List.append_nil, and_assoc, Nat.mul_zero, Nat.zero_mul, Nat.add_zero]
    intro u (hu : u ≤ w) Ki hKi
    by_cases hu' : u < w
    · have huI : (u : Int) < w := by omega
      have hlt : (v + 1) * w ≤ h * w := Nat.mul_le_mul_right _ hv'
      rw [Nat.succ_mul, Nat.mul_comm h w] at hlt
      have hn : v * w + u < w * h := by omega
      have hfa : f (v * w + u) = rd xs (((y + v) * W + (x + u) : Nat) : Int) := by rw [← hf]; unfold ptF; rw [(dmN hu').1, (dmN hu').2]
      have hset := prt_set hn f
      rw [hfa] at hset
      have hpl := prt_length (Nat.le_of_lt hn) f
      have hjl : (y + v) * W + (x + u) < xs.length := by
        rw [hlB]
        have : (y + v + 1) * W ≤ H * W := Nat.mul_le_mul_right _ (by omega)
        rw [Nat.succ_mul] at this
        omega
      obtain ⟨r1, r2⟩ := bw_rd hb _ hjl
      have hat : atV ⟨⟨⟨W, H, xs⟩, L⟩, (x : Int) + u, (y : Int) + v⟩ = rd xs (((y + v) * W + (x + u) : Nat) : Int) := by
        unfold atV
        rw [if_pos (by unfold AtA.inside; simp only; omega)]
        simp only
        push_cast
      obtain ⟨j, hj⟩ : ∃ j, (y + v) * W + (x + u) = j := ⟨_, rfl⟩
      rw [hj] at hset hat r1 r2
      obtain ⟨P0, hP0⟩ : ∃ P, prt (w * h) (v * w + u) f = P := ⟨_, rfl⟩
      rw [hP0] at hset hpl
      have hplI : (P0.length : Int) = (w : Int) * h := by rw [hpl]; exact hwhI
      have hnx : v * w + (u + 1) = v * w + u + 1 := by omega
      simp only [hP0]
      simp -implicitDefEqProofs only [push_cast, false_implies, reduceCtorEq, Classical.not_not, Nat.reduceAdd, Nat.reduceSub, Nat.reduceMul, Nat.reduceLeDiff, Nat.reduceLT, Nat.reduceEqDiff, Nat.reduceBEq, Nat.reduceBNe, Int.reduceNeg, Int.reduceToNat, Bool.or_false, Bool.false_or, Bool.or_true, Bool.true_or, BEq.rfl, Bool.not_eq_true, Bool.not_eq_false, decide_eq_true_eq, not_true_eq_false, not_false_eq_true, ite_true, ite_false, List.append_nil, and_assoc, Nat.mul_zero, Nat.zero_mul, b28_2, huI, fs50, fs65, fs48, hat, hbO, hb0, hS, hplI, bmV, Int.toNat_natCast]
      refine ⟨by omega, by omega, by omega, by omega, hb0, by omega, r1, r2, by omega, by omega, ?_⟩
      refine hKi (u + 1) (show u + 1 ≤ w by omega) (show w - (u + 1) < w - u by omega) _ _ (Sub.pt ?_)
      simp -implicitDefEqProofs only [push_cast, false_implies, reduceCtorEq, Classical.not_not, Nat.reduceAdd, Nat.reduceSub, Nat.reduceMul, Nat.reduceLeDiff, Nat.reduceLT, Nat.reduceEqDiff, Nat.reduceBEq, Nat.reduceBNe, Int.reduceNeg, Int.reduceToNat, Bool.or_false, Bool.false_or, Bool.or_true, Bool.true_or, BEq.rfl, Bool.not_eq_true, Bool.not_eq_false, decide_eq_true_eq, not_true_eq_false, not_false_eq_true, ite_true, ite_false, List.append_nil, and_assoc, Nat.mul_zero, Nat.zero_mul, hset, hnx]
    · obtain rfl : u = w := by omega
      clear hKi
      simp -implicitDefEqProofs only [push_cast, false_implies, reduceCtorEq, Classical.not_not, Nat.reduceAdd, Nat.reduceSub, Nat.reduceMul, Nat.reduceLeDiff, Nat.reduceLT, Nat.reduceEqDiff, Nat.reduceBEq, Nat.reduceBNe, Int.reduceNeg, Int.reduceToNat, Bool.or_false, Bool.false_or, Bool.or_true, Bool.true_or, BEq.rfl, Bool.not_eq_true, Bool.not_eq_false, decide_eq_true_eq, not_true_eq_false, not_false_eq_true, ite_true, ite_false, List.append_nil, and_assoc, Nat.mul_zero, Nat.zero_mul, b28_2, r28_3, Int.lt_irrefl, true_implies, true_and]
      repeat (refine And.intro (by first | omega | trivial | (intros; omega)) ?_)
      refine hK (v + 1) (show v + 1 ≤ h by omega) (show h - (v + 1) < h - v by omega) _ _ (Sub.pt ?_)
      simp -implicitDefEqProofs only [push_cast, false_implies, reduceCtorEq, Classical.not_not, Nat.reduceAdd, Nat.reduceSub, Nat.reduceMul, Nat.reduceLeDiff, Nat.reduceLT, Nat.reduceEqDiff, Nat.reduceBEq, Nat.reduceBNe, Int.reduceNeg, Int.reduceToNat, Bool.or_false, Bool.false_or, Bool.or_true, Bool.true_or, BEq.rfl, Bool.not_eq_true, Bool.not_eq_false, decide_eq_true_eq, not_true_eq_false, not_false_eq_true, ite_true, ite_false, List.append_nil, and_assoc, Nat.mul_zero, Nat.zero_mul, Nat.add_mul, Nat.one_mul]
  · obtain rfl : v = h := by omega
    clear hK
    have e1 : v * w = w * v := Nat.mul_comm _ _
    simp -implicitDefEqProofs only [push_cast, false_implies, reduceCtorEq, Classical.not_not, Nat.reduceAdd, Nat.reduceSub, Nat.reduceMul, Nat.reduceLeDiff, Nat.reduceLT, Nat.reduceEqDiff, Nat.reduceBEq, Nat.reduceBNe, Int.reduceNeg, Int.reduceToNat, Bool.or_false, Bool.false_or, Bool.or_true, Bool.true_or, BEq.rfl, Bool.not_eq_true, Bool.not_eq_false, decide_eq_true_eq, not_true_eq_false, not_false_eq_true, ite_true, ite_false, List.append_nil, and_assoc, Nat.mul_zero, Nat.zero_mul, b28_1, r28_4, e1, prt_all, Int.lt_irrefl, true_implies, true_and]
    refine postF.mk' (locs [X1 2 12]) [some 0, some 12] ?_
    simp -implicitDefEqProofs only [push_cast, false_implies, reduceCtorEq, Classical.not_not, Nat.reduceAdd, Nat.reduceSub, Nat.reduceMul, Nat.reduceLeDiff, Nat.reduceLT, Nat.reduceEqDiff, Nat.reduceBEq, Nat.reduceBNe, Int.reduceNeg, Int.reduceToNat, Bool.or_false, Bool.false_or, Bool.or_true, Bool.true_or, BEq.rfl, Bool.not_eq_true, Bool.not_eq_false, decide_eq_true_eq, not_true_eq_false, not_false_eq_true, ite_true, ite_false, List.append_nil, and_assoc, Nat.mul_zero, Nat.zero_mul, fs28, Int.toNat_natCast, hf]
def ent28 : Entry := spOf fs28 inv28
theorem e28 : EntryOk Try.prog 28 ent28 := entry_of ok28 inv28
@[push_cast] theorem ent28_app (us : List SV) (look : Look) (x : Nat → Xf.Loc) (k : Nat) : ent28 us look x k = spOf fs28 inv28 us look x k := rfl
def inN (x y w h W k : Nat) : Prop := (y ≤ k / W ∧ k / W < y + h) ∧ (x ≤ k % W ∧ k % W < x + w)
instance (x y w h W k : Nat) : Decidable (inN x y w h W k) := by unfold inN; infer_instance
def ixN (x y w W k : Nat) : Nat := (k / W - y) * w + (k % W - x)
theorem ix_at {x y w h W j : Nat} (hx : x + w ≤ W) (hj : j < w * h) : inN x y w h W (atN x y w W j) ∧ ixN x y w W (atN x y w W j) = j := by
  have hw : 0 < w := by
    rcases Nat.eq_zero_or_pos w with e | e
    · rw [e, Nat.zero_mul] at hj; omega
    · exact e
  have h1 := Nat.mod_lt j hw
  have h2 : j / w < h := by rw [Nat.div_lt_iff_lt_mul hw, Nat.mul_comm]; exact hj
  have h4 := Nat.div_add_mod' j w
  have e : atN x y w W j = (y + j / w) * W + (x + j % w) := by unfold atN; rw [Nat.add_assoc]
  rw [e]
  generalize j / w = a at *
  generalize j % w = b at *
  have h3 := dmN (w := W) (v := y + a) (u := x + b) (by omega)
  unfold inN ixN
  rw [h3.1, h3.2]
  refine ⟨⟨⟨by omega, by omega⟩, by omega, by omega⟩, ?_⟩
  rw [show y + a - y = a by omega, show x + b - x = b by omega]
  exact h4
theorem at_ix {x y w h W k : Nat} (hk : inN x y w h W k) : atN x y w W (ixN x y w W k) = k ∧ ixN x y w W k < w * h := by
  obtain ⟨⟨h1, h2⟩, h3, h4⟩ := hk
  have h6 := Nat.div_add_mod' k W
  unfold ixN atN
  generalize k / W = a at *
  generalize k % W = b at *
  have h5 := dmN (w := w) (v := a - y) (u := b - x) (by omega)
  rw [h5.1, h5.2]
  refine ⟨?_, ?_⟩
  · rw [show y + (a - y) = a by omega]
    omega
  · have : (a - y + 1) * w ≤ h * w := Nat.mul_le_mul_right _ (by omega)
    rw [Nat.succ_mul, Nat.mul_comm h w] at this
    omega
/-- The dark pixels of a part of text. -/
def dark (p : Pn) (q : Pt) (k : Nat) : Prop := q.kind = 1 ∧ 2 * rd p.xs (k : Nat) < (rpOf p q.rt).lo + (rpOf p q.rt).hi
instance (p : Pn) (q : Pt) (k : Nat) : Decidable (dark p q k) := by unfold dark; infer_instance
def inQ (W : Nat) (q : Pt) (k : Nat) : Prop := inN q.x.toNat q.y.toNat q.w.toNat q.h.toNat W k
instance (W : Nat) (q : Pt) (k : Nat) : Decidable (inQ W q k) := by unfold inQ; infer_instance
def msN (p : Pn) (l : List Pt) : Nat → Nat → Int
  | 0, _ => 0
  | i + 1, k => if inQ p.W (rdPt l i) k ∧ dark p (rdPt l i) k then 1 else msN p l i k
def msP (p : Pn) (l : List Pt) (i j k : Nat) : Int :=
  if (inQ p.W (rdPt l i) k ∧ ixN (rdPt l i).x.toNat (rdPt l i).y.toNat (rdPt l i).w.toNat p.W k < j) ∧ dark p (rdPt l i) k then 1 else msN p l i k
theorem msP_zero (p : Pn) (l : List Pt) (i : Nat) : msP p l i 0 = msN p l i := by
  funext k; unfold msP; rw [if_neg fun h => absurd h.1.2 (Nat.not_lt_zero _)]
theorem msP_all (p : Pn) (l : List Pt) (i : Nat) : msP p l i ((rdPt l i).w.toNat * (rdPt l i).h.toNat) = msN p l (i + 1) := by
  funext k
  unfold msP
  rw [msN]
  by_cases h : inQ p.W (rdPt l i) k
  · have := (at_ix h).2
    simp only [h, this, true_and]
  · simp only [h, false_and]
theorem msN_bw (p : Pn) (l : List Pt) : ∀ i k, msN p l i k = 0 ∨ msN p l i k = 1
  | 0, k => .inl rfl
  | i + 1, k => by
    rw [msN]; split
    · exact .inr rfl
    · exact msN_bw p l i k
theorem ms_step {p : Pn} {l : List Pt} {i j n : Nat} (hx : (rdPt l i).x.toNat + (rdPt l i).w.toNat ≤ p.W) (hj : j < (rdPt l i).w.toNat * (rdPt l i).h.toNat)
    (hn : atN (rdPt l i).x.toNat (rdPt l i).y.toNat (rdPt l i).w.toNat p.W j < n) :
    (dark p (rdPt l i) (atN (rdPt l i).x.toNat (rdPt l i).y.toNat (rdPt l i).w.toNat p.W j) → (tabl n (msP p l i j)).set (atN (rdPt l i).x.toNat (rdPt l i).y.toNat (rdPt l i).w.toNat p.W j) 1 = tabl n (msP p l i (j + 1))) ∧
    (¬ dark p (rdPt l i) (atN (rdPt l i).x.toNat (rdPt l i).y.toNat (rdPt l i).w.toNat p.W j) → tabl n (msP p l i j) = tabl n (msP p l i (j + 1))) := by
  obtain ⟨i1, i2⟩ := ix_at (y := (rdPt l i).y.toNat) hx hj
  generalize hk0 : atN (rdPt l i).x.toNat (rdPt l i).y.toNat (rdPt l i).w.toNat p.W j = k0 at *
  have hne : ∀ k, k ≠ k0 → msP p l i (j + 1) k = msP p l i j k := fun k hk => by
    unfold msP
    have : inQ p.W (rdPt l i) k → (ixN (rdPt l i).x.toNat (rdPt l i).y.toNat (rdPt l i).w.toNat p.W k < j + 1 ↔ ixN (rdPt l i).x.toNat (rdPt l i).y.toNat (rdPt l i).w.toNat p.W k < j) := fun hin => by
      have e := (at_ix hin).1
      constructor
      · intro h
        rcases Nat.lt_or_eq_of_le (Nat.le_of_lt_succ h) with h | h
        · exact h
        · rw [h, hk0] at e; exact absurd e.symm hk
      · intro h; omega
    by_cases hin : inQ p.W (rdPt l i) k
    · simp only [hin, true_and, this hin]
    · simp only [hin, false_and]
  constructor
  · intro hd
    refine List.ext_getElem (by simp [tabl_length]) fun k h1 h2 => ?_
    have hk : k < n := by simpa [tabl_length] using h2
    rw [List.getElem_set]
    have e1 : ∀ f : Nat → Int, ∀ h : k < (tabl n f).length, (tabl n f)[k] = f k := fun f h => by simp [tabl]
    rw [e1, e1]
    split
    · rename_i e
      subst e
      unfold msP
      rw [if_pos ⟨⟨i1, by omega⟩, hd⟩]
    · rename_i e
      exact (hne k fun h => e h.symm).symm
  · intro hd
    refine tabl_congr fun k hk => ?_
    by_cases e : k = k0
    · subst e
      unfold msP
      rw [if_neg fun h => hd h.2, if_neg fun h => hd h.2]
    · exact (hne k e).symm
theorem ms_zero (p : Pn) (l : List Pt) (n : Nat) : tabl n (msN p l 0) = List.replicate n 0 := tabl_zero' fun _ _ => rfl
theorem tks_cov {p : Pn} {l : List Pt} {N : Nat} {a b : Int} : ∀ (Q : List Rt) (s : Nat × Int),
    (∀ q ∈ Q, ∀ s : Nat × Int, (tk l N q s).1 = true → covN a b (l.take (tk l N q s).2.1) = covN a b (l.take s.1) + ind q a b) →
    (tks (tk l N) Q s).1 = true → covN a b (l.take (tks (tk l N) Q s).2.1) = covN a b (l.take s.1) + sumL (Q.map fun q => ind q a b)
  | [], s, _, _ => by simp only [List.map_nil, sumL, tks]; omega
  | q :: Q, s, h, ht => by
    rw [tks] at ht ⊢
    split at ht
    · rename_i h1
      have a1 := h q (by simp) s h1
      have a2 := tks_cov (p := p) Q (tk l N q s).2 (fun x hx => h x (by simp [hx])) ht
      rw [if_pos h1, List.map_cons, sumL, a2, a1]
      omega
    · cases ht
theorem tk_cov {p : Pn} {l : List Pt} (hp : p.grey) (a b : Int) : ∀ (N : Nat) (r : Rt) (s : Nat × Int), inR p r → (tk l N r s).1 = true →
    covN a b (l.take (tk l N r s).2.1) = covN a b (l.take s.1) + ind r a b
  | 0, r, s, _, ht => by cases ht
  | N + 1, r, s, hr, ht => by
    rw [tk] at ht ⊢
    split at ht
    case isFalse => cases ht
    rename_i h0
    rw [if_pos h0]
    split at ht
    · rename_i h1
      rw [if_pos h1]
      simp only
      rw [List.take_succ_eq_append_getElem h0, covN_app]
      have e : l[s.1] = rdPt l s.1 := by simp [rdPt, h0]
      rw [e]
      have : covN a b [rdPt l s.1] = ind (rdPt l s.1).rt a b := by simp [covN]
      rw [this, h1]
    · rename_i h1
      split at ht
      · cases ht
      · rename_i h2
        rw [if_neg h1, if_neg h2]
        have := tks_cov (p := p) (l := l) (N := N) (a := a) (b := b) (qs r) (s.1, s.2 + 1) (fun q hq s hs => tk_cov hp a b N q s (qs_in hr q hq).1 hs) ht
        rw [this, qs_ind hp hr]
/-- In how many parts of text a place is. -/
def covT (W : Nat) (l : List Pt) : Nat → Nat → Int
  | 0, _ => 0
  | i + 1, k => covT W l i k + (if (rdPt l i).kind = 1 ∧ inQ W (rdPt l i) k then 1 else 0)
theorem ind_inQ {q : Pt} {W k : Nat} (h0 : 0 ≤ q.x) (h1 : 0 ≤ q.y) (h2 : 0 ≤ q.w) (h3 : 0 ≤ q.h) : ind q.rt ((k / W : Nat) : Int) ((k % W : Nat) : Int) = if inQ W q k then 1 else 0 := by
  have key : ∀ a b : Nat, (q.x ≤ b ∧ (b : Int) < q.x + q.w ∧ q.y ≤ a ∧ (a : Int) < q.y + q.h) ↔ ((q.y.toNat ≤ a ∧ a < q.y.toNat + q.h.toNat) ∧ (q.x.toNat ≤ b ∧ b < q.x.toNat + q.w.toNat)) := fun a b => by omega
  have h4 : _ ↔ inQ W q k := key (k / W) (k % W)
  unfold ind
  exact ite1 h4
theorem covT_le {W : Nat} {l : List Pt} {k : Nat} (hl : ∀ q ∈ l, 0 ≤ q.x ∧ 0 ≤ q.y ∧ 0 ≤ q.w ∧ 0 ≤ q.h) : ∀ i, i ≤ l.length → 0 ≤ covT W l i k ∧ covT W l i k ≤ covN ((k / W : Nat) : Int) ((k % W : Nat) : Int) (l.take i)
  | 0, _ => by simp [covT, covN]
  | i + 1, hi => by
    have ih := covT_le (W := W) (k := k) hl i (by omega)
    rw [List.take_succ_eq_append_getElem (by omega), covN_app]
    have e : l[i] = rdPt l i := by simp [rdPt, show i < l.length by omega]
    obtain ⟨h0, h1, h2, h3⟩ := hl _ (rdPt_mem (show i < l.length by omega))
    rw [e, show covN ((k / W : Nat) : Int) ((k % W : Nat) : Int) [rdPt l i] = ind (rdPt l i).rt ((k / W : Nat) : Int) ((k % W : Nat) : Int) from by simp [covN], ind_inQ h0 h1 h2 h3]
    unfold covT
    by_cases hq : inQ W (rdPt l i) k
    · rw [if_pos hq]
      split <;> omega
    · rw [if_neg hq, if_neg fun h => hq h.2]
      omega
theorem ms_cov {p : Pn} {l : List Pt} {k : Nat} : ∀ i, msN p l i k = 1 → 1 ≤ covT p.W l i k
  | 0, h => by cases h
  | i + 1, h => by
    rw [msN] at h
    unfold covT
    split at h
    · rename_i hd
      rw [if_pos ⟨hd.2.1, hd.1⟩]
      have : 0 ≤ covT p.W l i k := by
        clear h hd
        induction i with
        | zero => exact Int.le_refl _
        | succ i ih => unfold covT; split <;> omega
      omega
    · have := ms_cov i h
      split <;> omega
/-- The black pixels of the parts of text, added. -/
def bkS (W : Nat) (M : List Int) (l : List Pt) : Nat → Int
  | 0 => 0
  | i + 1 => bkS W M l i + (if (rdPt l i).kind = 1 then sumF (fun k => rd (tabl ((rdPt l i).w.toNat * (rdPt l i).h.toNat) (ptF M W (rdPt l i).x.toNat (rdPt l i).y.toNat (rdPt l i).w.toNat)) (k : Nat)) ((rdPt l i).w.toNat * (rdPt l i).h.toNat) else 0)
theorem part_sum {M : List Int} {x y w h W H : Nat} (hx : x + w ≤ W) (hy : y + h ≤ H) :
    sumF (fun k => rd (tabl (w * h) (ptF M W x y w)) (k : Nat)) (w * h) = sumF (fun k => if inN x y w h W k then rd M (k : Nat) else 0) (H * W) := by
  have h1 : sumF (fun k => rd (tabl (w * h) (ptF M W x y w)) (k : Nat)) (w * h) = sumF (ptF M W x y w) (h * w) := by
    rw [Nat.mul_comm h w]
    exact sumF_congr fun k hk => rd_tabl hk _
  rw [h1, sumF_rows]
  unfold inN
  rw [sumF_rect (fun k => rd M (k : Nat)) hx hy]
  refine sumF_congr fun a ha => sumF_congr fun i hi => ?_
  unfold ptF
  rw [(dmN hi).1, (dmN hi).2]
theorem bk_cov {W H : Nat} {M : List Int} {l : List Pt} (hl : ∀ q ∈ l, q.x.toNat + q.w.toNat ≤ W ∧ q.y.toNat + q.h.toNat ≤ H) : ∀ i, i ≤ l.length →
    bkS W M l i = sumF (fun k => rd M (k : Nat) * covT W l i k) (H * W)
  | 0, _ => by
    rw [bkS, sumF_congr (g := fun _ => 0) fun k hk => by simp [covT], sumF_zero]
  | i + 1, hi => by
    obtain ⟨h1, h2⟩ := hl _ (rdPt_mem (show i < l.length by omega))
    rw [bkS, bk_cov hl i (by omega)]
    have e : sumF (fun k => rd M (k : Nat) * covT W l (i + 1) k) (H * W) = sumF (fun k => rd M (k : Nat) * covT W l i k) (H * W) + sumF (fun k => if (rdPt l i).kind = 1 ∧ inQ W (rdPt l i) k then rd M (k : Nat) else 0) (H * W) := by
      rw [← sumF_plus]
      refine sumF_congr fun k hk => ?_
      rw [show covT W l (i + 1) k = covT W l i k + (if (rdPt l i).kind = 1 ∧ inQ W (rdPt l i) k then 1 else 0) from rfl, Int.mul_add]
      split <;> simp
    rw [e]
    congr 1
    by_cases hk : (rdPt l i).kind = 1
    · rw [if_pos hk, part_sum h1 h2]
      refine sumF_congr fun k _ => ?_
      unfold inQ
      simp only [hk, true_and]
    · rw [if_neg hk, sumF_congr (g := fun _ => 0) fun k _ => if_neg fun h => hk h.1, sumF_zero]
theorem bk_all {p : Pn} {l : List Pt} (hp : p.grey) (hP : ptsIn p.W p.H l) (hc : ∀ k, k < p.H * p.W → covN ((k / p.W : Nat) : Int) ((k % p.W : Nat) : Int) l = 1) :
    bkS p.W (tabl (p.H * p.W) (msN p l l.length)) l l.length = sumF (fun k => rd (tabl (p.H * p.W) (msN p l l.length)) (k : Nat)) (p.H * p.W) := by
  rw [bk_cov (H := p.H) (fun q hq => by have := hP q hq; unfold Pt.In at this; omega) l.length (Nat.le_refl _)]
  refine sumF_congr fun k hk => ?_
  rw [rd_tabl hk]
  have h1 := covT_le (W := p.W) (k := k) (l := l) (fun q hq => by have := hP q hq; unfold Pt.In at this; omega) l.length (Nat.le_refl _)
  rw [List.take_length, hc k hk] at h1
  rcases msN_bw p l l.length k with e | e
  · rw [e, Int.zero_mul]
  · have := ms_cov l.length e
    rw [e, show covT p.W l l.length k = 1 by omega]; rfl
def b24_2 : IR :=
  .block 3 (.seq (.reg false [⟨some 68, none, ⟨[], []⟩, .fld (.t 11) 0⟩,
    ⟨some 69, none, ⟨[], []⟩, .ld false none 0 0 (.t 68)⟩,
    ⟨some 70, none, ⟨[], []⟩, .bin 0 .eql (.t 69) (.k (.int .i64 1))⟩,
    ⟨some 71, none, ⟨[], []⟩, .mov (.t 70)⟩,
    ⟨some 72, some (71, true), ⟨[], []⟩, .mov (.t 16)⟩,
    ⟨some 73, some (71, true), ⟨[], []⟩, .bin 0 .mul (.k (.int .i64 2)) (.t 72)⟩,
    ⟨some 74, some (71, true), ⟨[], []⟩, .ld false none 0 0 (.t 13)⟩,
    ⟨some 75, some (71, true), ⟨[], []⟩, .ld false none 0 0 (.t 14)⟩,
    ⟨some 76, some (71, true), ⟨[], []⟩, .bin 0 .add (.t 74) (.t 75)⟩,
    ⟨some 77, some (71, true), ⟨[], []⟩, .bin 0 .lss (.t 73) (.t 76)⟩,
    ⟨some 78, none, ⟨[], []⟩, .pick (.t 71) (.t 77) (.k (.bool false))⟩] [11, 13, 14, 16, 68, 69, 70, 71, 72, 73, 74, 75, 76, 77] []) (.cond (.t 78) (.reg false [⟨some 79, none, ⟨[], []⟩, .fld (.t 8) 2⟩,
    ⟨some 80, none, ⟨[], []⟩, .ld false none 0 0 (.t 79)⟩,
    ⟨some 81, none, ⟨[], []⟩, .mov (.t 15)⟩,
    ⟨some 82, none, ⟨[], []⟩, .idxS (.t 80) (.t 81) 1⟩,
    ⟨none, none, ⟨[], []⟩, .sto true 1 .i64 (.t 82) (.k (.int .u8 1))⟩] [8, 15, 78, 79, 80, 81, 82] []) (.skip)))
def r24_3 : IR :=
  .reg false [⟨some 83, none, ⟨[], []⟩, .bin 0 .add (.t 44) (.k (.int .i64 1))⟩,
    ⟨some 44, none, ⟨[], []⟩, .mov (.t 83)⟩] [83] []
def b24_1 : IR :=
  .seq (.reg false [⟨some 45, none, ⟨[], []⟩, .bin 0 .lss (.t 44) (.t 43)⟩] [] []) (.seq (.cond (.t 45) (.skip) (.exit 0)) (.seq (.block 1 (.seq (.reg false [⟨some 46, none, ⟨[], []⟩, .idxS (.t 42) (.t 44) 5⟩,
    ⟨some 47, none, ⟨[], []⟩, .ld true (some 5) 0 0 (.t 46)⟩,
    ⟨some 11, none, ⟨[], []⟩, .alloc 25 [.int .i64 0, .int .i64 0, .int .i64 0, .int .i64 0, .int .i64 0]⟩,
    ⟨none, none, ⟨[], []⟩, .sto false 5 .i64 (.t 11) (.t 47)⟩] [45, 46, 47] []) (.seq (.reg false [⟨some 48, none, ⟨[], []⟩, .fld (.t 11) 1⟩,
    ⟨some 49, none, ⟨[], []⟩, .ld false none 0 0 (.t 48)⟩,
    ⟨some 50, none, ⟨[], []⟩, .fld (.t 11) 2⟩,
    ⟨some 51, none, ⟨[], []⟩, .ld false none 0 0 (.t 50)⟩,
    ⟨some 52, none, ⟨[], []⟩, .fld (.t 11) 3⟩,
    ⟨some 53, none, ⟨[], []⟩, .ld false none 0 0 (.t 52)⟩,
    ⟨some 54, none, ⟨[], []⟩, .fld (.t 11) 4⟩,
    ⟨some 55, none, ⟨[], []⟩, .ld false none 0 0 (.t 54)⟩,
    ⟨some 56, none, ⟨[], []⟩, .build [.int .i64 0, .int .i64 0, .int .i64 0, .int .i64 0] [(0, 1, .t 49), (1, 1, .t 51), (2, 1, .t 53), (3, 1, .t 55)]⟩,
    ⟨some 12, none, ⟨[], []⟩, .alloc 26 [.int .i64 0, .int .i64 0, .int .i64 0, .int .i64 0]⟩,
    ⟨none, none, ⟨[], []⟩, .sto false 4 .i64 (.t 12) (.t 56)⟩] [48, 49, 50, 51, 52, 53, 54, 55, 56] []) (.seq (.reg false [⟨some 58, none, ⟨[], []⟩, .ld false (some 4) 0 0 (.t 12)⟩,
    ⟨some 59, none, ⟨[], []⟩, .ld false (some 3) 0 0 (.t 2)⟩,
    ⟨some 60, none, ⟨[], []⟩, .call (some 4) 27 44 [.t 58, .t 59]⟩,
    ⟨some 57, none, ⟨[], []⟩, .mov (.t 60)⟩,
    ⟨some 61, none, ⟨[], []⟩, .ext (.t 57) 0⟩,
    ⟨some 62, none, ⟨[], []⟩, .ext (.t 57) 1⟩,
    ⟨some 13, none, ⟨[], []⟩, .alloc 31 [.int .i64 0]⟩,
    ⟨some 14, none, ⟨[], []⟩, .alloc 32 [.int .i64 0]⟩,
    ⟨none, none, ⟨[], []⟩, .sto false 1 .i64 (.t 13) (.t 61)⟩,
    ⟨none, none, ⟨[], []⟩, .sto false 1 .i64 (.t 14) (.t 62)⟩] [57, 58, 59, 60, 61, 62] []) (.seq (.reg false [⟨some 63, none, ⟨[], []⟩, .ld false (some 4) 0 0 (.t 12)⟩,
    ⟨some 64, none, ⟨[], []⟩, .ld false (some 3) 0 0 (.t 2)⟩,
    ⟨some 65, none, ⟨[], []⟩, .call (some 4) 33 45 [.t 63, .t 64]⟩] [12, 63, 64] []) (.block 2 (.rf (.t 65) [66, 67] (.seq (.reg false [⟨some 15, none, ⟨[], []⟩, .mov (.t 66)⟩] [2, 4, 42, 43, 44, 65, 66] []) (.reg false [⟨some 16, none, ⟨[], []⟩, .mov (.t 67)⟩] [67] [])) (b24_2) [11, 13, 14, 65] []))))))) (r24_3)))
def r24_4 : IR :=
  .seq (.reg false [⟨some 84, none, ⟨[], []⟩, .ld false (some 3) 0 0 (.t 8)⟩,
    ⟨none, none, ⟨[], []⟩, .sto false 3 .u8 (.t 4) (.t 84)⟩,
    ⟨some 5, none, ⟨[], []⟩, .mov (.k (.int .i64 0))⟩] [2, 8, 42, 43, 44, 84] []) (.ret)
def ir24 : IR :=
  .seq (.reg false [⟨some 2, none, ⟨[], []⟩, .box 10 (.t 0)⟩,
    ⟨some 4, none, ⟨[], []⟩, .alloc 11 [.int .i64 0, .int .i64 0, nilSV]⟩,
    ⟨some 5, none, ⟨[], []⟩, .mov (.k (.int .i64 0))⟩] [0, 5] []) (.seq (.seq (.reg false [⟨some 17, none, ⟨[], []⟩, .ld false (some 3) 0 0 (.t 2)⟩,
    ⟨some 18, none, ⟨[], []⟩, .call (some 4) 12 14 [.t 17]⟩,
    ⟨some 19, none, ⟨[], []⟩, .not (.t 18)⟩] [17, 18] []) (.cond (.t 19) (.seq (.reg false [⟨some 20, none, ⟨[], []⟩, .build [.int .i64 0, .int .i64 0, nilSV] []⟩,
    ⟨none, none, ⟨[], []⟩, .sto false 3 .u8 (.t 4) (.t 20)⟩,
    ⟨some 5, none, ⟨[], []⟩, .mov (.k (.int .i64 70))⟩] [1, 2, 19, 20] []) (.ret)) (.skip))) (.seq (.seq (.reg false [⟨some 22, none, ⟨[], []⟩, .fld (.t 2) 0⟩,
    ⟨some 23, none, ⟨[], []⟩, .ld false none 0 0 (.t 22)⟩,
    ⟨some 24, none, ⟨[], []⟩, .fld (.t 2) 1⟩,
    ⟨some 25, none, ⟨[], []⟩, .ld false none 0 0 (.t 24)⟩,
    ⟨some 26, none, ⟨[], []⟩, .mov (.t 1)⟩,
    ⟨some 27, none, ⟨[], []⟩, .call (some 4) 16 20 [.t 23, .t 25, .t 26]⟩,
    ⟨some 21, none, ⟨[], []⟩, .mov (.t 27)⟩,
    ⟨some 28, none, ⟨[], []⟩, .ext (.t 21) 0⟩,
    ⟨some 29, none, ⟨[], []⟩, .ext (.t 21) 1⟩,
    ⟨some 6, none, ⟨[], []⟩, .mov (.t 28)⟩,
    ⟨some 7, none, ⟨[], []⟩, .mov (.t 29)⟩] [5, 6, 19, 21, 22, 23, 24, 25, 26, 27, 28, 29] []) (.seq (.reg false [⟨some 30, none, ⟨[], []⟩, .mov (.t 7)⟩,
    ⟨some 31, none, ⟨[], []⟩, .bin 0 .neq (.t 30) (.k (.int .i64 0))⟩] [30] []) (.cond (.t 31) (.seq (.reg false [⟨some 32, none, ⟨[], []⟩, .build [.int .i64 0, .int .i64 0, nilSV] []⟩,
    ⟨some 33, none, ⟨[], []⟩, .mov (.t 7)⟩,
    ⟨none, none, ⟨[], []⟩, .sto false 3 .u8 (.t 4) (.t 32)⟩,
    ⟨some 5, none, ⟨[], []⟩, .mov (.t 33)⟩] [1, 2, 7, 31, 32, 33] []) (.ret)) (.skip)))) (.seq (.reg false [⟨some 35, none, ⟨[], []⟩, .fld (.t 2) 0⟩,
    ⟨some 36, none, ⟨[], []⟩, .ld false none 0 0 (.t 35)⟩,
    ⟨some 37, none, ⟨[], []⟩, .fld (.t 2) 1⟩,
    ⟨some 38, none, ⟨[], []⟩, .ld false none 0 0 (.t 37)⟩,
    ⟨some 39, none, ⟨[], []⟩, .call (some 4) 20 43 [.t 36, .t 38, .k (.int .i64 0)]⟩,
    ⟨some 34, none, ⟨[], []⟩, .mov (.t 39)⟩,
    ⟨some 40, none, ⟨[], []⟩, .ext (.t 34) 0⟩,
    ⟨some 41, none, ⟨[], []⟩, .ext (.t 34) 1⟩,
    ⟨some 8, none, ⟨[], []⟩, .alloc 24 [.int .i64 0, .int .i64 0, nilSV]⟩,
    ⟨none, none, ⟨[], []⟩, .sto false 3 .u8 (.t 8) (.t 40)⟩,
    ⟨some 9, none, ⟨[], []⟩, .mov (.t 41)⟩] [5, 7, 9, 31, 34, 35, 36, 37, 38, 39, 40, 41] []) (.seq (.seq (.reg false [⟨some 42, none, ⟨[], []⟩, .mov (.t 1)⟩,
    ⟨some 43, none, ⟨[], []⟩, .len (.t 42)⟩,
    ⟨some 44, none, ⟨[], []⟩, .mov (.k (.int .i64 0))⟩] [1] []) (.block 0 (.loop b24_1))) (r24_4)))))
def kp24_1 : List Nat := [2, 4, 8, 42, 43, 44]
def kl24_1 : List Nat := [25, 26, 27, 28, 29, 30, 31, 32, 33, 34, 35, 36]
attribute [push_cast] kp24_1 kl24_1
set_option maxRecDepth 4000 in
theorem comp24 : (Try.f24.body.bind fun c => compC tab isP chkAll ir24 c) = some ir24 := by kernel_rfl
theorem pr_facts {w h : Int} {xs : List Int} {kd qx qy qw qh : Int} (hG : (⟨w, h, xs⟩ : Pl).Gr) (hI : (⟨kd, qx, qy, qw, qh⟩ : Pt).In w h) :
    (⟨qx.toNat, qy.toNat, qw.toNat, qh.toNat, w.toNat, h.toNat, xs⟩ : Rp).Ok ∧ (⟨qx.toNat, qy.toNat, qw.toNat, qh.toNat, w.toNat, h.toNat, xs⟩ : Rp).grey ∧ 0 < (⟨qx.toNat, qy.toNat, qw.toNat, qh.toNat, w.toNat, h.toNat, xs⟩ : Rp).n ∧
    (qx.toNat : Int) = qx ∧ (qy.toNat : Int) = qy ∧ (qw.toNat : Int) = qw ∧ (qh.toNat : Int) = qh ∧ (w.toNat : Int) = w ∧ (h.toNat : Int) = h ∧ 0 ≤ kd ∧ kd ≤ 2 := by
  have hE : (⟨0, 0, 0, 0⟩ : En).Ok := by decide
  exact (pa_facts hG hE hI).2
structure MaA where
  a : PlA
  LP : Xf.Loc
  s : Nat
  l : List Pt
def maOk (p : Pl) (l : List Pt) : Prop := p.Gr ∧ cuE p.w p.h l = 0
instance (p : Pl) (l : List Pt) : Decidable (maOk p l) := by unfold maOk; infer_instance
def maE (p : Pl) (l : List Pt) : Int := if p.Gr then cuE p.w p.h l else 70
def maX (p : Pl) (l : List Pt) : List Int := tabl p.xs.length (msN p.pn l l.length)
def maB (p : Pl) (l : List Pt) : Bm := if maOk p l then ⟨p.w, p.h, maX p l⟩ else ⟨0, 0, []⟩
def fs24 : FS where
  A := MaA
  args := fun a => [plV a.a.p a.a.L 0, .sl 1 a.LP a.s 0 a.l.length]
  mem := fun a => [some (.ro, a.a.L, .ints .i64 a.a.p.xs), some (.ro, a.LP, .recs 5 false [] (a.l.map Pt.rc))]
  pre := fun a => a.a.p.xs.length ≤ 140737488355328 ∧ a.l.length ≤ 1000000 ∧ (0 < a.l.length → a.s = 5)
  res := fun a x => .tup [.agg [.int .i64 (maB a.a.p a.l).w, .int .i64 (maB a.a.p a.l).h, .sl 2 (lx (maOk a.a.p a.l) x 0) 1 0 (maB a.a.p a.l).xs.length], .int .i64 (maE a.a.p a.l)]
  out := fun _ _ => []
  new := fun a x => [(lx (maOk a.a.p a.l) x 0, .ints .u8 (maB a.a.p a.l).xs)]
def inv24 : List SV → Look → Option (MaA × List Nat)
  | [v, .sl d _ s 0 _], look => match getP look v, rowR (look d) with
    | some (a, g), some (LP, 5, _, r) => match getPt r with | some l => some (⟨a, LP, s, l⟩, g ++ [d]) | none => none
    | _, _ => none
  | _, _ => none
attribute [push_cast] inv24
end Go.Proofs.Ytbndfifoakmdnaa
