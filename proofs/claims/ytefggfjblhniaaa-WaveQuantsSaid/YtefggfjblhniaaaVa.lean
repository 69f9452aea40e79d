import Derived.Test.YtefggfjblhniaaaTa
set_option linter.unusedVariables false
set_option linter.unusedSimpArgs false
/-! The small functions of the Colour seat. -/
namespace Go.Proofs.Ytefggfjblhniaaa
open Xf
set_option maxRecDepth 4000
/- incunable/colour.rightSides : slots 25, labels 10..9 -/
def ir71 : IR :=
  .seq (.reg false [⟨some 4, none, ⟨[], []⟩, .mov (.k (.bool false))⟩] [4] []) (.seq (.reg false [⟨some 5, none, ⟨[], []⟩, .mov (.t 0)⟩,
    ⟨some 6, none, ⟨[], []⟩, .bin 0 .geq (.t 5) (.k (.int .i64 0))⟩,
    ⟨some 7, none, ⟨[], []⟩, .mov (.t 6)⟩,
    ⟨some 8, some (7, true), ⟨[], []⟩, .mov (.t 1)⟩,
    ⟨some 9, some (7, true), ⟨[], []⟩, .bin 0 .geq (.t 8) (.k (.int .i64 0))⟩,
    ⟨some 10, none, ⟨[], []⟩, .pick (.t 7) (.t 9) (.k (.bool false))⟩,
    ⟨some 11, none, ⟨[], []⟩, .mov (.t 10)⟩,
    ⟨some 12, some (11, true), ⟨[], []⟩, .mov (.t 0)⟩,
    ⟨some 13, some (11, true), ⟨[], []⟩, .bin 0 .leq (.t 12) (.k (.int .i64 200))⟩,
    ⟨some 14, none, ⟨[], []⟩, .pick (.t 11) (.t 13) (.k (.bool false))⟩,
    ⟨some 15, none, ⟨[], []⟩, .mov (.t 14)⟩,
    ⟨some 16, some (15, true), ⟨[], []⟩, .mov (.t 1)⟩,
    ⟨some 17, some (15, true), ⟨[], []⟩, .bin 0 .leq (.t 16) (.k (.int .i64 200))⟩,
    ⟨some 18, none, ⟨[], []⟩, .pick (.t 15) (.t 17) (.k (.bool false))⟩,
    ⟨some 19, none, ⟨[], []⟩, .mov (.t 18)⟩,
    ⟨some 20, some (19, true), ⟨[], []⟩, .mov (.t 0)⟩,
    ⟨some 21, some (19, true), ⟨[], []⟩, .mov (.t 1)⟩,
    ⟨some 22, some (19, true), ⟨[], []⟩, .bin 0 .mul (.t 20) (.t 21)⟩,
    ⟨some 23, some (19, true), ⟨[], []⟩, .bin 0 .leq (.t 22) (.k (.int .i64 8192))⟩,
    ⟨some 24, none, ⟨[], []⟩, .pick (.t 19) (.t 23) (.k (.bool false))⟩,
    ⟨some 4, none, ⟨[], []⟩, .mov (.t 24)⟩] [0, 1, 5, 6, 7, 8, 9, 10, 11, 12, 13, 14, 15, 16, 17, 18, 19, 20, 21, 22, 23, 24] []) (.ret))
theorem comp71 : (Try.f71.body.bind fun c => compC tab isP chkAll ir71 c) = some ir71 := by kernel_rfl
/- incunable/incunableref05.Sides : slots 25, labels 10..9 -/
def ir46 : IR :=
  .seq (.reg false [⟨some 4, none, ⟨[], []⟩, .mov (.k (.bool false))⟩] [4] []) (.seq (.reg false [⟨some 5, none, ⟨[], []⟩, .mov (.t 0)⟩,
    ⟨some 6, none, ⟨[], []⟩, .bin 0 .geq (.t 5) (.k (.int .i64 0))⟩,
    ⟨some 7, none, ⟨[], []⟩, .mov (.t 6)⟩,
    ⟨some 8, some (7, true), ⟨[], []⟩, .mov (.t 1)⟩,
    ⟨some 9, some (7, true), ⟨[], []⟩, .bin 0 .geq (.t 8) (.k (.int .i64 0))⟩,
    ⟨some 10, none, ⟨[], []⟩, .pick (.t 7) (.t 9) (.k (.bool false))⟩,
    ⟨some 11, none, ⟨[], []⟩, .mov (.t 10)⟩,
    ⟨some 12, some (11, true), ⟨[], []⟩, .mov (.t 0)⟩,
    ⟨some 13, some (11, true), ⟨[], []⟩, .bin 0 .leq (.t 12) (.k (.int .i64 200))⟩,
    ⟨some 14, none, ⟨[], []⟩, .pick (.t 11) (.t 13) (.k (.bool false))⟩,
    ⟨some 15, none, ⟨[], []⟩, .mov (.t 14)⟩,
    ⟨some 16, some (15, true), ⟨[], []⟩, .mov (.t 1)⟩,
    ⟨some 17, some (15, true), ⟨[], []⟩, .bin 0 .leq (.t 16) (.k (.int .i64 200))⟩,
    ⟨some 18, none, ⟨[], []⟩, .pick (.t 15) (.t 17) (.k (.bool false))⟩,
    ⟨some 19, none, ⟨[], []⟩, .mov (.t 18)⟩,
    ⟨some 20, some (19, true), ⟨[], []⟩, .mov (.t 0)⟩,
    ⟨some 21, some (19, true), ⟨[], []⟩, .mov (.t 1)⟩,
    ⟨some 22, some (19, true), ⟨[], []⟩, .bin 0 .mul (.t 20) (.t 21)⟩,
    ⟨some 23, some (19, true), ⟨[], []⟩, .bin 0 .leq (.t 22) (.k (.int .i64 8192))⟩,
    ⟨some 24, none, ⟨[], []⟩, .pick (.t 19) (.t 23) (.k (.bool false))⟩,
    ⟨some 4, none, ⟨[], []⟩, .mov (.t 24)⟩] [0, 1, 5, 6, 7, 8, 9, 10, 11, 12, 13, 14, 15, 16, 17, 18, 19, 20, 21, 22, 23, 24] []) (.ret))
theorem comp46 : (Try.f46.body.bind fun c => compC tab isP chkAll ir46 c) = some ir46 := by kernel_rfl
/- incunable/colour.isValue : slots 9, labels 10..9 -/
def ir76 : IR :=
  .seq (.reg false [⟨some 2, none, ⟨[], []⟩, .mov (.k (.bool false))⟩] [2] []) (.seq (.reg false [⟨some 3, none, ⟨[], []⟩, .mov (.t 0)⟩,
    ⟨some 4, none, ⟨[], []⟩, .bin 0 .geq (.t 3) (.k (.int .i64 0))⟩,
    ⟨some 5, none, ⟨[], []⟩, .mov (.t 4)⟩,
    ⟨some 6, some (5, true), ⟨[], []⟩, .mov (.t 0)⟩,
    ⟨some 7, some (5, true), ⟨[], []⟩, .bin 0 .leq (.t 6) (.k (.int .i64 255))⟩,
    ⟨some 8, none, ⟨[], []⟩, .pick (.t 5) (.t 7) (.k (.bool false))⟩,
    ⟨some 2, none, ⟨[], []⟩, .mov (.t 8)⟩] [0, 3, 4, 5, 6, 7, 8] []) (.ret))
theorem comp76 : (Try.f76.body.bind fun c => compC tab isP chkAll ir76 c) = some ir76 := by kernel_rfl
/- incunable/colour.rightValues$1 : slots 6, labels 10..9 -/
def ir75 : IR :=
  .seq (.reg false [⟨some 2, none, ⟨[], []⟩, .mov (.k (.bool false))⟩] [2] []) (.seq (.reg false [⟨some 3, none, ⟨[], []⟩, .mov (.t 0)⟩,
    ⟨some 4, none, ⟨[], []⟩, .callp 76 [.t 3]⟩,
    ⟨some 5, none, ⟨[], []⟩, .not (.t 4)⟩,
    ⟨some 2, none, ⟨[], []⟩, .mov (.t 5)⟩] [0, 3, 4, 5] []) (.ret))
theorem comp75 : (Try.f75.body.bind fun c => compC tab isP chkAll ir75 c) = some ir75 := by kernel_rfl
set_option maxRecDepth 512

theorem mixed : Try.prog.follows .mixedOrders = true := by kernel_rfl
theorem hyp {l : List (FuncId × Entry)} {lp : List (FuncId × EntryP)} (h : allOk Try.prog l) (hp : allPOk Try.prog lp) : Hyp Try.prog tab isP (spList l) (spPList lp) chkAll :=
  ⟨hT, spPList_ok hp, spList_ok h, draw_ok mixed hT (spPList_ok hp) (spList_ok h)⟩

/-! Pure functions. -/
def SidesOk (w h : Int) : Prop := 0 ≤ w ∧ 0 ≤ h ∧ w ≤ 200 ∧ h ≤ 200 ∧ w * h ≤ 8192
instance (w h : Int) : Decidable (SidesOk w h) := by unfold SidesOk; infer_instance
def ValOk (n : Int) : Prop := 0 ≤ n ∧ n ≤ 255
instance (n : Int) : Decidable (ValOk n) := by unfold ValOk; infer_instance
theorem SidesOk.bd {w h : Int} (H : SidesOk w h) : 0 ≤ w * h ∧ w * h ≤ 8192 := ⟨Int.mul_nonneg H.1 H.2.1, H.2.2.2.2⟩

def sidesF : EntryP
  | [.int .i64 w, .int .i64 h] => some (True, .bool (decide (SidesOk w h)))
  | _ => none
def valF : EntryP
  | [.int .i64 n] => some (True, .bool (decide (ValOk n)))
  | _ => none
def nvalF : EntryP
  | [.int .i64 n] => some (True, .bool (decide (¬ ValOk n)))
  | _ => none
attribute [push_cast] sidesF valF nvalF

theorem p71 : EntryPOk Try.prog 71 sidesF := by
  refine ⟨⟨_, Try.func71, by kernel_rfl, by kernel_rfl⟩, fun us p v h hp => ?_⟩
  unfold sidesF at h
  split at h <;> cases h
  refine tri_evS (hyp (l := []) (lp := []) trivial trivial) Try.func71 comp71 (rs := [.tmp 4]) (by rfl) Try.ntmps71 10 ?_
  simp -implicitDefEqProofs only [push_cast, false_implies, reduceCtorEq, Classical.not_not, Nat.reduceAdd, Nat.reduceSub, Nat.reduceMul, Nat.reduceLeDiff, Nat.reduceLT, Nat.reduceEqDiff, Nat.reduceBEq, Nat.reduceBNe, Int.reduceNeg, Int.reduceToNat, Bool.or_false, Bool.false_or, Bool.or_true, Bool.true_or, BEq.rfl, Bool.not_eq_true, Bool.not_eq_false, decide_eq_true_eq, not_true_eq_false, not_false_eq_true, ite_true, ite_false, List.append_nil, and_assoc, Nat.mul_zero, Nat.zero_mul, ir71, sidesF]
  refine ⟨fun h => ?_, by simp only [SidesOk, and_assoc]⟩
  have := mul_bd h.1 h.2.2.1 h.2.1 h.2.2.2
  omega

theorem p46 : EntryPOk Try.prog 46 sidesF := by
  refine ⟨⟨_, Try.func46, by kernel_rfl, by kernel_rfl⟩, fun us p v h hp => ?_⟩
  unfold sidesF at h
  split at h <;> cases h
  refine tri_evS (hyp (l := []) (lp := []) trivial trivial) Try.func46 comp46 (rs := [.tmp 4]) (by rfl) Try.ntmps46 10 ?_
  simp -implicitDefEqProofs only [push_cast, false_implies, reduceCtorEq, Classical.not_not, Nat.reduceAdd, Nat.reduceSub, Nat.reduceMul, Nat.reduceLeDiff, Nat.reduceLT, Nat.reduceEqDiff, Nat.reduceBEq, Nat.reduceBNe, Int.reduceNeg, Int.reduceToNat, Bool.or_false, Bool.false_or, Bool.or_true, Bool.true_or, BEq.rfl, Bool.not_eq_true, Bool.not_eq_false, decide_eq_true_eq, not_true_eq_false, not_false_eq_true, ite_true, ite_false, List.append_nil, and_assoc, Nat.mul_zero, Nat.zero_mul, ir46, sidesF]
  refine ⟨fun h => ?_, by simp only [SidesOk, and_assoc]⟩
  have := mul_bd h.1 h.2.2.1 h.2.1 h.2.2.2
  omega

theorem p76 : EntryPOk Try.prog 76 valF := by
  refine ⟨⟨_, Try.func76, by kernel_rfl, by kernel_rfl⟩, fun us p v h hp => ?_⟩
  unfold valF at h
  split at h <;> cases h
  refine tri_evS (hyp (l := []) (lp := []) trivial trivial) Try.func76 comp76 (rs := [.tmp 2]) (by rfl) Try.ntmps76 10 ?_
  simp -implicitDefEqProofs only [push_cast, false_implies, reduceCtorEq, Classical.not_not, Nat.reduceAdd, Nat.reduceSub, Nat.reduceMul, Nat.reduceLeDiff, Nat.reduceLT, Nat.reduceEqDiff, Nat.reduceBEq, Nat.reduceBNe, Int.reduceNeg, Int.reduceToNat, Bool.or_false, Bool.false_or, Bool.or_true, Bool.true_or, BEq.rfl, Bool.not_eq_true, Bool.not_eq_false, decide_eq_true_eq, not_true_eq_false, not_false_eq_true, ite_true, ite_false, List.append_nil, and_assoc, Nat.mul_zero, Nat.zero_mul, ir76, valF]
  rfl

theorem p75 : EntryPOk Try.prog 75 nvalF := by
  refine ⟨⟨_, Try.func75, by kernel_rfl, by kernel_rfl⟩, fun us p v h hp => ?_⟩
  unfold nvalF at h
  split at h <;> cases h
  refine tri_evS (hyp (l := []) (lp := [(76, valF)]) trivial ⟨p76, trivial⟩) Try.func75 comp75 (rs := [.tmp 2]) (by rfl) Try.ntmps75 10 ?_
  simp -implicitDefEqProofs only [push_cast, false_implies, reduceCtorEq, Classical.not_not, Nat.reduceAdd, Nat.reduceSub, Nat.reduceMul, Nat.reduceLeDiff, Nat.reduceLT, Nat.reduceEqDiff, Nat.reduceBEq, Nat.reduceBNe, Int.reduceNeg, Int.reduceToNat, Bool.or_false, Bool.false_or, Bool.or_true, Bool.true_or, BEq.rfl, Bool.not_eq_true, Bool.not_eq_false, decide_eq_true_eq, not_true_eq_false, not_false_eq_true, ite_true, ite_false, List.append_nil, and_assoc, Nat.mul_zero, Nat.zero_mul, ir75, nvalF]

end Go.Proofs.Ytefggfjblhniaaa
