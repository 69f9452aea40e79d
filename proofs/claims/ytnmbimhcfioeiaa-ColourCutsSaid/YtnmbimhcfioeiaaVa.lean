import Derived.Test.YtnmbimhcfioeiaaFz
import Derived.Test.YtnmbimhcfioeiaaTb
set_option linter.unusedVariables false
set_option linter.unusedSimpArgs false
/-! The small functions of the Colour seat. -/
namespace Go.Proofs.Ytnmbimhcfioeiaa
open Xf

theorem mixed : Try.prog.follows .mixedOrders = true := by kernel_rfl
theorem hyp {l : List (FuncId × Entry)} {lp : List (FuncId × EntryP)} (h : allOk Try.prog l) (hp : allPOk Try.prog lp) : Hyp Try.prog tab isP (spList l) (spPList lp) chkAll :=
  ⟨hT, spPList_ok hp, spList_ok h, draw_ok mixed hT (spPList_ok hp) (spList_ok h)⟩

/-! Pure functions. -/
def SidesOk (w h : Int) : Prop := 0 ≤ w ∧ 0 ≤ h ∧ w ≤ 200 ∧ h ≤ 200 ∧ w * h ≤ 8192
instance (w h : Int) : Decidable (SidesOk w h) := by unfold SidesOk; infer_instance
def ValOk (n : Int) : Prop := 0 ≤ n ∧ n ≤ 255
instance (n : Int) : Decidable (ValOk n) := by unfold ValOk; infer_instance
theorem SidesOk.bd {w h : Int} (H : SidesOk w h) : 0 ≤ w * h ∧ w * h ≤ 8192 := ⟨Int.mul_nonneg H.1 H.2.1, H.2.2.2.2⟩

def sidesF : EntryP
  | [.int .i64 w, .int .i64 h] => some (True, .bool (decide (SidesOk w h)))
  | _ => none
def valF : EntryP
  | [.int .i64 n] => some (True, .bool (decide (ValOk n)))
  | _ => none
def nvalF : EntryP
  | [.int .i64 n] => some (True, .bool (decide (¬ ValOk n)))
  | _ => none
attribute [push_cast] sidesF valF nvalF

theorem p39 : EntryPOk Try.prog 39 sidesF := by
  refine ⟨⟨_, Try.func39, by kernel_rfl, by kernel_rfl⟩, fun us p v h hp => ?_⟩
  unfold sidesF at h
  split at h <;> cases h
  refine tri_evS (hyp (l := []) (lp := []) trivial trivial) Try.func39 comp39 (rs := [.tmp 4]) (by rfl) Try.ntmps39 10 ?_
  simp -implicitDefEqProofs only [push_cast, reduceCtorEq, Classical.not_not, Nat.reduceAdd, Nat.reduceSub, Nat.reduceMul, Nat.reduceLeDiff, Nat.reduceLT, Nat.reduceEqDiff, Nat.reduceBEq, Nat.reduceBNe, Int.reduceNeg, Int.reduceToNat, Bool.or_false, Bool.false_or, Bool.or_true, Bool.true_or, BEq.rfl, Bool.not_eq_true, Bool.not_eq_false, decide_eq_true_eq, not_true_eq_false, not_false_eq_true, ite_true, ite_false, List.append_nil, and_assoc, Nat.mul_zero, Nat.zero_mul, ir39, sidesF]
  refine ⟨fun h => ?_, by simp only [SidesOk, and_assoc]⟩
  have := mul_bd h.1 h.2.2.1 h.2.1 h.2.2.2
  omega

theorem p43 : EntryPOk Try.prog 43 sidesF := by
  refine ⟨⟨_, Try.func43, by kernel_rfl, by kernel_rfl⟩, fun us p v h hp => ?_⟩
  unfold sidesF at h
  split at h <;> cases h
  refine tri_evS (hyp (l := []) (lp := []) trivial trivial) Try.func43 comp43 (rs := [.tmp 4]) (by rfl) Try.ntmps43 10 ?_
  simp -implicitDefEqProofs only [push_cast, reduceCtorEq, Classical.not_not, Nat.reduceAdd, Nat.reduceSub, Nat.reduceMul, Nat.reduceLeDiff, Nat.reduceLT, Nat.reduceEqDiff, Nat.reduceBEq, Nat.reduceBNe, Int.reduceNeg, Int.reduceToNat, Bool.or_false, Bool.false_or, Bool.or_true, Bool.true_or, BEq.rfl, Bool.not_eq_true, Bool.not_eq_false, decide_eq_true_eq, not_true_eq_false, not_false_eq_true, ite_true, ite_false, List.append_nil, and_assoc, Nat.mul_zero, Nat.zero_mul, ir43, sidesF]
  refine ⟨fun h => ?_, by simp only [SidesOk, and_assoc]⟩
  have := mul_bd h.1 h.2.2.1 h.2.1 h.2.2.2
  omega

theorem p40 : EntryPOk Try.prog 40 valF := by
  refine ⟨⟨_, Try.func40, by kernel_rfl, by kernel_rfl⟩, fun us p v h hp => ?_⟩
  unfold valF at h
  split at h <;> cases h
  refine tri_evS (hyp (l := []) (lp := []) trivial trivial) Try.func40 comp40 (rs := [.tmp 2]) (by rfl) Try.ntmps40 10 ?_
  simp -implicitDefEqProofs only [push_cast, reduceCtorEq, Classical.not_not, Nat.reduceAdd, Nat.reduceSub, Nat.reduceMul, Nat.reduceLeDiff, Nat.reduceLT, Nat.reduceEqDiff, Nat.reduceBEq, Nat.reduceBNe, Int.reduceNeg, Int.reduceToNat, Bool.or_false, Bool.false_or, Bool.or_true, Bool.true_or, BEq.rfl, Bool.not_eq_true, Bool.not_eq_false, decide_eq_true_eq, not_true_eq_false, not_false_eq_true, ite_true, ite_false, List.append_nil, and_assoc, Nat.mul_zero, Nat.zero_mul, ir40, valF]
  rfl

theorem p44 : EntryPOk Try.prog 44 valF := by
  refine ⟨⟨_, Try.func44, by kernel_rfl, by kernel_rfl⟩, fun us p v h hp => ?_⟩
  unfold valF at h
  split at h <;> cases h
  refine tri_evS (hyp (l := []) (lp := []) trivial trivial) Try.func44 comp44 (rs := [.tmp 2]) (by rfl) Try.ntmps44 10 ?_
  simp -implicitDefEqProofs only [push_cast, reduceCtorEq, Classical.not_not, Nat.reduceAdd, Nat.reduceSub, Nat.reduceMul, Nat.reduceLeDiff, Nat.reduceLT, Nat.reduceEqDiff, Nat.reduceBEq, Nat.reduceBNe, Int.reduceNeg, Int.reduceToNat, Bool.or_false, Bool.false_or, Bool.or_true, Bool.true_or, BEq.rfl, Bool.not_eq_true, Bool.not_eq_false, decide_eq_true_eq, not_true_eq_false, not_false_eq_true, ite_true, ite_false, List.append_nil, and_assoc, Nat.mul_zero, Nat.zero_mul, ir44, valF]
  rfl

theorem p67 : EntryPOk Try.prog 67 nvalF := by
  refine ⟨⟨_, Try.func67, by kernel_rfl, by kernel_rfl⟩, fun us p v h hp => ?_⟩
  unfold nvalF at h
  split at h <;> cases h
  refine tri_evS (hyp (l := []) (lp := [(40, valF)]) trivial ⟨p40, trivial⟩) Try.func67 comp67 (rs := [.tmp 2]) (by rfl) Try.ntmps67 10 ?_
  simp -implicitDefEqProofs only [push_cast, reduceCtorEq, Classical.not_not, Nat.reduceAdd, Nat.reduceSub, Nat.reduceMul, Nat.reduceLeDiff, Nat.reduceLT, Nat.reduceEqDiff, Nat.reduceBEq, Nat.reduceBNe, Int.reduceNeg, Int.reduceToNat, Bool.or_false, Bool.false_or, Bool.or_true, Bool.true_or, BEq.rfl, Bool.not_eq_true, Bool.not_eq_false, decide_eq_true_eq, not_true_eq_false, not_false_eq_true, ite_true, ite_false, List.append_nil, and_assoc, Nat.mul_zero, Nat.zero_mul, ir67, nvalF]

end Go.Proofs.Ytnmbimhcfioeiaa
