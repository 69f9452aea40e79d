import Derived.Test.YtefggfjblhniaaaYc
set_option linter.unusedVariables false
set_option linter.unusedSimpArgs false
/-! Wave: the numbers of a line. -/
namespace Go.Proofs.Ytefggfjblhniaaa
open Xf
set_option maxRecDepth 4000
/- incunable/wave.unline : slots 107, labels 10..14; loop b39_1 keeps [0, 5, 7, 8, 9, 31, 32]; loop b39_2 keeps [0, 5, 8, 9, 50, 51] -/
def b39_1 : IR :=
  .seq (.reg false [⟨some 33, none, ⟨[], []⟩, .bin 0 .lss (.t 32) (.t 31)⟩] [] []) (.seq (.cond (.t 33) (.skip) (.exit 0)) (.seq (.block 1 (.seq (.reg false [⟨some 34, none, ⟨[], []⟩, .mov (.t 32)⟩,
    ⟨some 10, none, ⟨[], []⟩, .mov (.t 34)⟩] [33, 34] []) (.reg true [⟨some 35, none, ⟨[], []⟩, .mov (.t 9)⟩,
    ⟨some 36, none, ⟨[], []⟩, .mov (.t 10)⟩,
    ⟨some 37, none, ⟨[], []⟩, .bin 0 .mul (.k (.int .i64 2)) (.t 36)⟩,
    ⟨some 38, none, ⟨[], []⟩, .mov (.t 7)⟩,
    ⟨some 39, none, ⟨[], []⟩, .mov (.t 10)⟩,
    ⟨some 40, none, ⟨[], []⟩, .idxS (.t 38) (.t 39) 1⟩,
    ⟨some 41, none, ⟨[11, 12, 13, 14], []⟩, .ld true none 0 0 (.t 40)⟩,
    ⟨some 42, none, ⟨[], []⟩, .mov (.t 0)⟩,
    ⟨some 43, none, ⟨[], []⟩, .mov (.t 8)⟩,
    ⟨some 44, none, ⟨[], []⟩, .mov (.t 10)⟩,
    ⟨some 45, none, ⟨[], []⟩, .call (some 4) 11 66 [.t 42, .t 43, .t 44]⟩,
    ⟨some 46, none, ⟨[], []⟩, .bin 0 .sub (.t 41) (.t 45)⟩,
    ⟨some 47, none, ⟨[], []⟩, .idxS (.t 35) (.t 37) 1⟩,
    ⟨none, none, ⟨[], []⟩, .sto true 1 .i64 (.t 47) (.t 46)⟩] [10, 35, 36, 37, 38, 39, 40, 41, 42, 43, 44, 45, 46, 47] []))) (.reg false [⟨some 48, none, ⟨[], []⟩, .bin 0 .add (.t 32) (.k (.int .i64 1))⟩,
    ⟨some 32, none, ⟨[], []⟩, .mov (.t 48)⟩] [48] [])))
def b39_2 : IR :=
  .seq (.reg false [⟨some 52, none, ⟨[], []⟩, .bin 0 .lss (.t 51) (.t 50)⟩] [] []) (.seq (.cond (.t 52) (.skip) (.exit 2)) (.seq (.block 3 (.seq (.reg false [⟨some 53, none, ⟨[], []⟩, .mov (.t 51)⟩,
    ⟨some 11, none, ⟨[], []⟩, .mov (.t 53)⟩] [52, 53] []) (.seq (.reg true [⟨some 54, none, ⟨[], []⟩, .mov (.t 9)⟩,
    ⟨some 55, none, ⟨[], []⟩, .mov (.t 11)⟩,
    ⟨some 56, none, ⟨[], []⟩, .bin 0 .mul (.k (.int .i64 2)) (.t 55)⟩,
    ⟨some 57, none, ⟨[], []⟩, .bin 0 .add (.t 56) (.k (.int .i64 1))⟩,
    ⟨some 58, none, ⟨[], []⟩, .mov (.t 8)⟩,
    ⟨some 59, none, ⟨[], []⟩, .mov (.t 11)⟩,
    ⟨some 60, none, ⟨[], []⟩, .idxS (.t 58) (.t 59) 1⟩,
    ⟨some 61, none, ⟨[], []⟩, .ld true none 0 0 (.t 60)⟩,
    ⟨some 62, none, ⟨[], []⟩, .mov (.t 9)⟩,
    ⟨some 63, none, ⟨[], []⟩, .mov (.t 11)⟩,
    ⟨some 64, none, ⟨[], []⟩, .bin 0 .mul (.k (.int .i64 2)) (.t 63)⟩,
    ⟨some 65, none, ⟨[], []⟩, .idxS (.t 62) (.t 64) 1⟩,
    ⟨some 66, none, ⟨[], []⟩, .ld true none 0 0 (.t 65)⟩,
    ⟨some 67, none, ⟨[], []⟩, .bin 0 .add (.t 61) (.t 66)⟩,
    ⟨some 68, none, ⟨[], []⟩, .idxS (.t 54) (.t 57) 1⟩,
    ⟨none, none, ⟨[], []⟩, .sto true 1 .i64 (.t 68) (.t 67)⟩] [54, 55, 56, 57, 58, 59, 60, 61, 62, 63, 64, 65, 66, 67, 68] []) (.seq (.reg false [⟨some 69, none, ⟨[], []⟩, .mov (.t 0)⟩,
    ⟨some 70, none, ⟨[], []⟩, .bin 0 .eql (.t 69) (.k (.int .i64 0))⟩] [69] []) (.cond (.t 70) (.seq (.reg false [⟨some 71, none, ⟨[], []⟩, .mov (.t 9)⟩,
    ⟨some 72, none, ⟨[], []⟩, .mov (.t 11)⟩,
    ⟨some 73, none, ⟨[], []⟩, .bin 0 .mul (.k (.int .i64 2)) (.t 72)⟩,
    ⟨some 74, none, ⟨[], []⟩, .idxS (.t 71) (.t 73) 1⟩,
    ⟨some 75, none, ⟨[], []⟩, .ld true none 0 0 (.t 74)⟩,
    ⟨some 12, none, ⟨[], []⟩, .mov (.t 75)⟩] [70, 71, 72, 73, 74, 75] []) (.seq (.seq (.reg false [⟨some 76, none, ⟨[], []⟩, .mov (.t 11)⟩,
    ⟨some 77, none, ⟨[], []⟩, .bin 0 .mul (.k (.int .i64 2)) (.t 76)⟩,
    ⟨some 78, none, ⟨[], []⟩, .bin 0 .add (.t 77) (.k (.int .i64 2))⟩,
    ⟨some 79, none, ⟨[], []⟩, .mov (.t 5)⟩,
    ⟨some 80, none, ⟨[], []⟩, .bin 0 .lss (.t 78) (.t 79)⟩] [76, 77, 78, 79] []) (.cond (.t 80) (.reg false [⟨some 81, none, ⟨[], []⟩, .mov (.t 9)⟩,
    ⟨some 82, none, ⟨[], []⟩, .mov (.t 11)⟩,
    ⟨some 83, none, ⟨[], []⟩, .bin 0 .mul (.k (.int .i64 2)) (.t 82)⟩,
    ⟨some 84, none, ⟨[], []⟩, .bin 0 .add (.t 83) (.k (.int .i64 2))⟩,
    ⟨some 85, none, ⟨[], []⟩, .idxS (.t 81) (.t 84) 1⟩,
    ⟨some 86, none, ⟨[], []⟩, .ld true none 0 0 (.t 85)⟩,
    ⟨some 12, none, ⟨[], []⟩, .mov (.t 86)⟩] [80, 81, 82, 83, 84, 85, 86] []) (.skip))) (.reg true [⟨some 87, none, ⟨[], []⟩, .mov (.t 9)⟩,
    ⟨some 88, none, ⟨[], []⟩, .mov (.t 11)⟩,
    ⟨some 89, none, ⟨[], []⟩, .bin 0 .mul (.k (.int .i64 2)) (.t 88)⟩,
    ⟨some 90, none, ⟨[], []⟩, .bin 0 .add (.t 89) (.k (.int .i64 1))⟩,
    ⟨some 91, none, ⟨[], []⟩, .mov (.t 8)⟩,
    ⟨some 92, none, ⟨[], []⟩, .mov (.t 11)⟩,
    ⟨some 93, none, ⟨[], []⟩, .idxS (.t 91) (.t 92) 1⟩,
    ⟨some 94, none, ⟨[], []⟩, .ld true none 0 0 (.t 93)⟩,
    ⟨some 95, none, ⟨[], []⟩, .mov (.t 9)⟩,
    ⟨some 96, none, ⟨[], []⟩, .mov (.t 11)⟩,
    ⟨some 97, none, ⟨[], []⟩, .bin 0 .mul (.k (.int .i64 2)) (.t 96)⟩,
    ⟨some 98, none, ⟨[], []⟩, .idxS (.t 95) (.t 97) 1⟩,
    ⟨some 99, none, ⟨[], []⟩, .ld true none 0 0 (.t 98)⟩,
    ⟨some 100, none, ⟨[], []⟩, .mov (.t 12)⟩,
    ⟨some 101, none, ⟨[], []⟩, .bin 0 .add (.t 99) (.t 100)⟩,
    ⟨some 102, none, ⟨[], []⟩, .bin 0 .shr (.t 101) (.k (.int .u64 1))⟩,
    ⟨some 103, none, ⟨[], []⟩, .bin 0 .add (.t 94) (.t 102)⟩,
    ⟨some 104, none, ⟨[], []⟩, .idxS (.t 87) (.t 90) 1⟩,
    ⟨none, none, ⟨[], []⟩, .sto true 1 .i64 (.t 104) (.t 103)⟩] [11, 12, 80, 87, 88, 89, 90, 91, 92, 93, 94, 95, 96, 97, 98, 99, 100, 101, 102, 103, 104] []))) (.skip)))))) (.reg false [⟨some 105, none, ⟨[], []⟩, .bin 0 .add (.t 51) (.k (.int .i64 1))⟩,
    ⟨some 51, none, ⟨[], []⟩, .mov (.t 105)⟩] [11, 70, 105] [])))
def r39_3 : IR :=
  .seq (.reg false [⟨some 106, none, ⟨[], []⟩, .mov (.t 9)⟩,
    ⟨some 4, none, ⟨[], []⟩, .mov (.t 106)⟩] [0, 5, 8, 9, 50, 51, 106] []) (.ret)
def r39_4 : IR :=
  .seq (.seq (.reg false [⟨some 49, none, ⟨[], []⟩, .mov (.t 8)⟩,
    ⟨some 50, none, ⟨[], []⟩, .len (.t 49)⟩,
    ⟨some 51, none, ⟨[], []⟩, .mov (.k (.int .i64 0))⟩] [7, 31, 32, 49] []) (.block 2 (.loop b39_2))) (r39_3)
def ir39 : IR :=
  .seq (.reg false [⟨some 4, none, ⟨[], []⟩, .mov (.k nilSV)⟩] [4] []) (.seq (.reg false [⟨some 13, none, ⟨[], []⟩, .mov (.t 1)⟩,
    ⟨some 14, none, ⟨[], []⟩, .len (.t 13)⟩,
    ⟨some 15, none, ⟨[], []⟩, .mov (.t 1)⟩,
    ⟨some 16, none, ⟨[], []⟩, .len (.t 15)⟩,
    ⟨some 17, none, ⟨[], []⟩, .bin 0 .quo (.t 16) (.k (.int .i64 2))⟩,
    ⟨some 5, none, ⟨[], []⟩, .mov (.t 14)⟩,
    ⟨some 6, none, ⟨[], []⟩, .mov (.t 17)⟩] [13, 14, 15, 16, 17] []) (.seq (.reg true [⟨some 18, none, ⟨[], []⟩, .mov (.t 1)⟩,
    ⟨some 19, none, ⟨[], []⟩, .mov (.t 5)⟩,
    ⟨some 20, none, ⟨[], []⟩, .mov (.t 6)⟩,
    ⟨some 21, none, ⟨[], []⟩, .bin 0 .sub (.t 19) (.t 20)⟩,
    ⟨some 22, none, ⟨[], []⟩, .slc (.t 18) 1 none (some (.t 21))⟩,
    ⟨some 23, none, ⟨[], []⟩, .mov (.t 1)⟩,
    ⟨some 24, none, ⟨[], []⟩, .mov (.t 5)⟩,
    ⟨some 25, none, ⟨[], []⟩, .mov (.t 6)⟩,
    ⟨some 26, none, ⟨[], []⟩, .bin 0 .sub (.t 24) (.t 25)⟩,
    ⟨some 27, none, ⟨[], []⟩, .slc (.t 23) 1 (some (.t 26)) none⟩,
    ⟨some 7, none, ⟨[], []⟩, .mov (.t 22)⟩,
    ⟨some 8, none, ⟨[], []⟩, .mov (.t 27)⟩] [1, 6, 18, 19, 20, 21, 22, 23, 24, 25, 26, 27] []) (.seq (.reg false [⟨some 28, none, ⟨[], []⟩, .mov (.t 5)⟩,
    ⟨some 29, none, ⟨[], []⟩, .mks 10 (.int .i64 0) 8 (.t 28) (.t 28)⟩,
    ⟨some 9, none, ⟨[], []⟩, .mov (.t 29)⟩] [28, 29] []) (.seq (.seq (.reg false [⟨some 30, none, ⟨[], []⟩, .mov (.t 7)⟩,
    ⟨some 31, none, ⟨[], []⟩, .len (.t 30)⟩,
    ⟨some 32, none, ⟨[], []⟩, .mov (.k (.int .i64 0))⟩] [30] []) (.block 0 (.loop b39_1))) (r39_4)))))
def kp39_1 : List Nat := [0, 5, 7, 8, 9, 31, 32]
def kl39_1 : List Nat := [11, 12, 13, 14]
attribute [push_cast] kp39_1 kl39_1
def kp39_2 : List Nat := [0, 5, 8, 9, 50, 51]
def kl39_2 : List Nat := []
attribute [push_cast] kp39_2 kl39_2
theorem comp39 : (Try.f39.body.bind fun c => compC tab isP chkAll ir39 c) = some ir39 := by kernel_rfl
set_option maxRecDepth 512

def evF (kind : Int) (n : Nat) (f : Int → Int) (i : Nat) : Int := f i - liftG kind (fun j => f ((n : Int) - (n / 2 : Nat) + j)) (n / 2 : Nat) i
def odF (kind : Int) (n : Nat) (f : Int → Int) (i : Nat) : Int :=
  if kind = 1 then f ((n : Int) - (n / 2 : Nat) + i) + evF kind n f i else f ((n : Int) - (n / 2 : Nat) + i) + (evF kind n f i + (if 2 * i + 2 < n then evF kind n f (i + 1) else evF kind n f i)) / 2
def unF1 (kind : Int) (n : Nat) (f : Int → Int) (i k : Nat) : Int := if k % 2 = 0 ∧ k / 2 < i then evF kind n f (k / 2) else 0
def unF2 (kind : Int) (n : Nat) (f : Int → Int) (i k : Nat) : Int := if k % 2 = 0 then evF kind n f (k / 2) else if k / 2 < i then odF kind n f (k / 2) else 0
def unL (kind : Int) (n : Nat) (f : Int → Int) : List Int := tabl n (unF2 kind n f (n / 2))
theorem unL_length (kind : Int) (n : Nat) (f : Int → Int) : (unL kind n f).length = n := tabl_length _ _
theorem unF1_zero (kind : Int) (n : Nat) (f : Int → Int) : tabl n (unF1 kind n f 0) = List.replicate n 0 := by
  refine eq_of_rd (by rw [tabl_length, List.length_replicate]) fun j hj => ?_
  rw [tabl_length] at hj
  rw [rd_tabl hj, rd_lt _ _ (by rw [List.length_replicate]; exact hj)]
  simp [unF1]
theorem unF1_set {kind : Int} {n : Nat} {f : Int → Int} {i : Nat} (h : 2 * i < n) : (tabl n (unF1 kind n f i)).set (2 * i) (evF kind n f i) = tabl n (unF1 kind n f (i + 1)) := by
  rw [tabl_set h]
  refine tabl_congr fun j hj => ?_
  unfold unF1
  by_cases e : j = 2 * i
  · subst e; rw [if_pos rfl, if_pos (by omega), show 2 * i / 2 = i by omega]
  · rw [if_neg e]
    by_cases h2 : j % 2 = 0 ∧ j / 2 < i
    · rw [if_pos h2, if_pos (by omega)]
    · rw [if_neg h2, if_neg (by omega)]
theorem unF1_all (kind : Int) (n : Nat) (f : Int → Int) : tabl n (unF1 kind n f (n - n / 2)) = tabl n (unF2 kind n f 0) := by
  refine tabl_congr fun j hj => ?_
  unfold unF1 unF2
  by_cases h2 : j % 2 = 0
  · rw [if_pos (by omega), if_pos h2]
  · rw [if_neg (by omega), if_neg h2, if_neg (by omega)]
theorem unF2_set {kind : Int} {n : Nat} {f : Int → Int} {i : Nat} (h : 2 * i + 1 < n) : (tabl n (unF2 kind n f i)).set (2 * i + 1) (odF kind n f i) = tabl n (unF2 kind n f (i + 1)) := by
  rw [tabl_set h]
  refine tabl_congr fun j hj => ?_
  unfold unF2
  by_cases e : j = 2 * i + 1
  · subst e; rw [if_pos rfl, if_neg (by omega), if_pos (by omega), show (2 * i + 1) / 2 = i by omega]
  · rw [if_neg e]
    by_cases h2 : j % 2 = 0
    · rw [if_pos h2, if_pos h2]
    · rw [if_neg h2, if_neg h2]
      by_cases h3 : j / 2 < i
      · rw [if_pos h3, if_pos (by omega)]
      · rw [if_neg h3, if_neg (by omega)]
theorem unF2_rd {kind : Int} {n : Nat} {f : Int → Int} {i k : Nat} (h : 2 * k < n) : rd (tabl n (unF2 kind n f i)) (2 * (k : Int)) = evF kind n f k := by
  have := rd_tabl (f := unF2 kind n f i) h
  rw [show ((2 * k : Nat) : Int) = 2 * (k : Int) by omega] at this
  rw [this]; unfold unF2; rw [if_pos (by omega), show 2 * k / 2 = k by omega]
theorem rd_set_ne {xs : List Int} {i : Nat} {j : Int} (v : Int) (h : j.toNat ≠ i) : rd (xs.set i v) j = rd xs j := by
  unfold rd
  simp [List.getElem?_set, Ne.symm h]
theorem evF_bd {kind : Int} {n : Nat} {f : Int → Int} {B : Int} (h : BdF B f) (h0 : 0 ≤ B) (i : Nat) : -(2 * B + 1) ≤ evF kind n f i ∧ evF kind n f i ≤ 2 * B + 1 := by
  have h1 := h i
  have h2 := liftG_bd (kind := kind) (g := fun j => f ((n : Int) - (n / 2 : Nat) + j)) (fun j => h _) h0 (n / 2 : Nat) i
  unfold evF
  omega
def fs39 : FS where
  A := LineA
  args := fun a => [.int .i64 a.kind, .sl 0 a.L 1 a.lo a.n]
  mem := fun a => [some (.ro, a.L, .ints .i64 a.xs)]
  pre := fun a => (a.kind = 0 ∨ a.kind = 1) ∧ a.xs.length ≤ 140737488355328 ∧ 0 ≤ a.lo ∧ a.lo + a.n ≤ a.xs.length ∧ a.n ≤ 1000000 ∧ AllIn (-1099511627776) 1099511627776 a.xs
  res := fun a x => .sl 1 (x 0) 1 0 a.n
  out := fun _ _ => []
  new := fun a x => [(x 0, .ints .i64 (unL a.kind a.n (fun j => rd a.xs (a.lo + j))))]
theorem ok39 : FSOk Try.prog 39 fs39 := by
  refine ⟨⟨_, Try.func39, by kernel_rfl, by kernel_rfl⟩, fun a => ⟨by simp [fs39, push_cast, noMine, argOwn, Chunk.frArg], by simp [fs39, push_cast, outOk, Chunk.ext], fun x => .inl (by simp [fs39, push_cast, frNew, frOut, Chunk.fr])⟩, fun a hp => ?_⟩
  obtain ⟨kind, L, xs, lo, n⟩ := a
  obtain ⟨hk, h1, h2, h3, h4, h5⟩ : (kind = 0 ∨ kind = 1) ∧ xs.length ≤ 140737488355328 ∧ 0 ≤ lo ∧ lo + n ≤ xs.length ∧ n ≤ 1000000 ∧ AllIn (-1099511627776) 1099511627776 xs := hp
  change Tri Try.prog 39 [.int .i64 kind, .sl 0 L 1 lo n] [some (.ro, L, .ints .i64 xs)] (postF fs39 ⟨kind, L, xs, lo, n⟩)
  obtain ⟨f, hf⟩ : ∃ f : Int → Int, (fun j => rd xs (lo + j)) = f := ⟨_, rfl⟩
  have hfj : ∀ j, rd xs (lo + j) = f j := fun j => by rw [← hf]
  have hB : BdF 1099511627776 f := by rw [← hf]; exact BdF.rd h5 (by omega) lo
  obtain ⟨m, hm⟩ : ∃ m, n / 2 = m := ⟨_, rfl⟩
  have en : ((n : Int) / 2) = (m : Int) := by omega
  refine tri_evS (hyp (l := [(66, ent66)]) (lp := []) ⟨e66, trivial⟩ trivial) Try.func39 comp39 (rs := [.tmp 4]) (by rfl) Try.ntmps39 15 ?_
  simp -implicitDefEqProofs only [push_cast, false_implies, reduceCtorEq, Classical.not_not, Nat.reduceAdd, Nat.reduceSub, Nat.reduceMul, Nat.reduceLeDiff, Nat.reduceLT, Nat.reduceEqDiff, Nat.reduceBEq, Nat.reduceBNe, Int.reduceNeg, Int.reduceToNat, Bool.or_false, Bool.false_or, Bool.or_true, Bool.true_or, BEq.rfl, Bool.not_eq_true, Bool.not_eq_false, decide_eq_true_eq, not_true_eq_false, not_false_eq_true, ite_true, ite_false, List.append_nil, and_assoc, Nat.mul_zero, Nat.zero_mul, ir39]
  rw [en]
  repeat (refine And.intro (by first | omega | trivial | (intros; omega)) ?_)
  have ed : (n : Int) - (n - m) = m := by omega
  have hgj : ∀ j, rd xs (lo + ((n : Int) - m) + j) = f ((n : Int) - m + j) := fun j => by rw [← hf]; simp only [Int.add_assoc]
  simp only [ed, Int.sub_zero]
  intro X
  repeat (refine And.intro (by first | omega | trivial | (intros; omega)) ?_)
  have hev : ∀ i : Nat, f i - liftG kind (fun j => f ((n : Int) - m + j)) m i = evF kind n f i := fun i => by unfold evF; rw [hm]
  have hbe := fun i => evF_bd (kind := kind) (n := n) hB (by omega) i
  have hLB := fun i => liftG_bd (kind := kind) (g := fun j => f ((n : Int) - m + j)) (fun j => hB _) (by omega) (m : Int) i
  refine evS_loopU (A := Nat) kp39_1 kl39_1 (fun i => [(32, .int .i64 i)]) (fun i => [(10, .mine, X 1 10, .ints .i64 (tabl n (unF1 kind n f i)))]) (fun i => i ≤ n - m) (fun i => n - m - i) 0 (by omega) (Sub.pt ?_) ?_
  · simp -implicitDefEqProofs only [push_cast, false_implies, reduceCtorEq, Classical.not_not, Nat.reduceAdd, Nat.reduceSub, Nat.reduceMul, Nat.reduceLeDiff, Nat.reduceLT, Nat.reduceEqDiff, Nat.reduceBEq, Nat.reduceBNe, Int.reduceNeg, Int.reduceToNat, Bool.or_false, Bool.false_or, Bool.or_true, Bool.true_or, BEq.rfl, Bool.not_eq_true, Bool.not_eq_false, decide_eq_true_eq, not_true_eq_false, not_false_eq_true, ite_true, ite_false, List.append_nil, and_assoc, Nat.mul_zero, Nat.zero_mul, unF1_zero, Int.toNat_natCast]
  intro i (hi : i ≤ n - m) K hK
  simp -implicitDefEqProofs only [push_cast, false_implies, reduceCtorEq, Classical.not_not, Nat.reduceAdd, Nat.reduceSub, Nat.reduceMul, Nat.reduceLeDiff, Nat.reduceLT, Nat.reduceEqDiff, Nat.reduceBEq, Nat.reduceBNe, Int.reduceNeg, Int.reduceToNat, Bool.or_false, Bool.false_or, Bool.or_true, Bool.true_or, BEq.rfl, Bool.not_eq_true, Bool.not_eq_false, decide_eq_true_eq, not_true_eq_false, not_false_eq_true, ite_true, ite_false, List.append_nil, and_assoc, Nat.mul_zero, Nat.zero_mul, b39_1, r39_4, fs66]
  refine ⟨fun hl => ?_, fun hl => ?_⟩
  · have hi' : 2 * i < n := by omega
    have b0 := hB i
    have b1 := hbe i
    have b2 := hLB i
    have et : (2 * (i : Int)).toNat = 2 * i := by omega
    have q := unF1_set (kind := kind) (f := f) hi'
    simp only [hfj, hgj, tabl_length]
    repeat (refine And.intro (by first | omega | trivial | (intros; omega)) ?_)
    refine hK (i + 1) (by omega) (by omega) _ _ (Sub.pt ?_)
    simp -implicitDefEqProofs only [push_cast, false_implies, reduceCtorEq, Classical.not_not, Nat.reduceAdd, Nat.reduceSub, Nat.reduceMul, Nat.reduceLeDiff, Nat.reduceLT, Nat.reduceEqDiff, Nat.reduceBEq, Nat.reduceBNe, Int.reduceNeg, Int.reduceToNat, Bool.or_false, Bool.false_or, Bool.or_true, Bool.true_or, BEq.rfl, Bool.not_eq_true, Bool.not_eq_false, decide_eq_true_eq, not_true_eq_false, not_false_eq_true, ite_true, ite_false, List.append_nil, and_assoc, Nat.mul_zero, Nat.zero_mul, et, hev, q]
  · obtain rfl : i = n - m := by omega
    clear hK
    have q := unF1_all kind n f
    rw [hm] at q
    rw [q]
    repeat (refine And.intro (by first | omega | trivial | (intros; omega)) ?_)
    refine evS_loopU (A := Nat) kp39_2 kl39_2 (fun i => [(51, .int .i64 i)]) (fun i => [(10, .mine, X 1 10, .ints .i64 (tabl n (unF2 kind n f i)))]) (fun i => i ≤ m) (fun i => m - i) 0 (by omega) (Sub.pt ?_) ?_
    · simp -implicitDefEqProofs only [push_cast, false_implies, reduceCtorEq, Classical.not_not, Nat.reduceAdd, Nat.reduceSub, Nat.reduceMul, Nat.reduceLeDiff, Nat.reduceLT, Nat.reduceEqDiff, Nat.reduceBEq, Nat.reduceBNe, Int.reduceNeg, Int.reduceToNat, Bool.or_false, Bool.false_or, Bool.or_true, Bool.true_or, BEq.rfl, Bool.not_eq_true, Bool.not_eq_false, decide_eq_true_eq, not_true_eq_false, not_false_eq_true, ite_true, ite_false, List.append_nil, and_assoc, Nat.mul_zero, Nat.zero_mul]
    intro i (hi : i ≤ m) K hK
    simp -implicitDefEqProofs only [push_cast, false_implies, reduceCtorEq, Classical.not_not, Nat.reduceAdd, Nat.reduceSub, Nat.reduceMul, Nat.reduceLeDiff, Nat.reduceLT, Nat.reduceEqDiff, Nat.reduceBEq, Nat.reduceBNe, Int.reduceNeg, Int.reduceToNat, Bool.or_false, Bool.false_or, Bool.or_true, Bool.true_or, BEq.rfl, Bool.not_eq_true, Bool.not_eq_false, decide_eq_true_eq, not_true_eq_false, not_false_eq_true, ite_true, ite_false, List.append_nil, and_assoc, Nat.mul_zero, Nat.zero_mul, b39_2, r39_3]
    refine ⟨fun hl => ?_, fun hl => ?_⟩
    · have hi' : 2 * i + 1 < n := by omega
      have b0 := hB ((n : Int) - m + i)
      have b1 := hbe i
      have b2 := hbe (i + 1)
      have et : (2 * (i : Int) + 1).toNat = 2 * i + 1 := by omega
      have q := unF2_set (kind := kind) (f := f) hi'
      have r0 := unF2_rd (kind := kind) (f := f) (i := i) (k := i) (n := n) (by omega)
      have r1 : 2 * (i : Int) + 2 < n → rd (tabl n (unF2 kind n f i)) (2 * (i : Int) + 2) = evF kind n f (i + 1) := fun hh => by
        have := unF2_rd (kind := kind) (f := f) (i := i) (k := i + 1) (n := n) (by omega)
        rwa [show 2 * ((i + 1 : Nat) : Int) = 2 * (i : Int) + 2 by omega] at this
      have w0 : ∀ v, rd ((tabl n (unF2 kind n f i)).set (2 * i + 1) v) (2 * (i : Int)) = evF kind n f i := fun v => by rw [rd_set_ne v (by omega), r0]
      have w1 : 2 * (i : Int) + 2 < n → ∀ v, rd ((tabl n (unF2 kind n f i)).set (2 * i + 1) v) (2 * (i : Int) + 2) = evF kind n f (i + 1) := fun hh v => by rw [rd_set_ne v (by omega), r1 hh]
      have e2 : (2 : Int) ^ 1 = 2 := rfl
      simp only [hgj, tabl_length, et, r0, w0, e2, List.length_set, List.set_set]
      repeat (refine And.intro (by first | omega | trivial | (intros; omega)) ?_)
      refine ⟨fun hk0 => ?_, fun hk0 => ?_⟩
      · repeat (refine And.intro (by first | omega | trivial | (intros; omega)) ?_)
        refine ⟨fun hr => ?_, fun hr => ?_⟩
        · simp only [w1 hr]
          repeat (refine And.intro (by first | omega | trivial | (intros; omega)) ?_)
          refine hK (i + 1) (by omega) (by omega) _ _ (Sub.pt ?_)
          have e : odF kind n f i = f ((n : Int) - m + i) + (evF kind n f i + evF kind n f (i + 1)) / 2 := by
            unfold odF; rw [hm, if_neg (by omega), if_pos (by omega)]
          rw [e] at q
          simp -implicitDefEqProofs only [push_cast, false_implies, reduceCtorEq, Classical.not_not, Nat.reduceAdd, Nat.reduceSub, Nat.reduceMul, Nat.reduceLeDiff, Nat.reduceLT, Nat.reduceEqDiff, Nat.reduceBEq, Nat.reduceBNe, Int.reduceNeg, Int.reduceToNat, Bool.or_false, Bool.false_or, Bool.or_true, Bool.true_or, BEq.rfl, Bool.not_eq_true, Bool.not_eq_false, decide_eq_true_eq, not_true_eq_false, not_false_eq_true, ite_true, ite_false, List.append_nil, and_assoc, Nat.mul_zero, Nat.zero_mul, q]
        · repeat (refine And.intro (by first | omega | trivial | (intros; omega)) ?_)
          refine hK (i + 1) (by omega) (by omega) _ _ (Sub.pt ?_)
          have e : odF kind n f i = f ((n : Int) - m + i) + (evF kind n f i + evF kind n f i) / 2 := by
            unfold odF; rw [hm, if_neg (by omega), if_neg (by omega)]
          rw [e] at q
          simp -implicitDefEqProofs only [push_cast, false_implies, reduceCtorEq, Classical.not_not, Nat.reduceAdd, Nat.reduceSub, Nat.reduceMul, Nat.reduceLeDiff, Nat.reduceLT, Nat.reduceEqDiff, Nat.reduceBEq, Nat.reduceBNe, Int.reduceNeg, Int.reduceToNat, Bool.or_false, Bool.false_or, Bool.or_true, Bool.true_or, BEq.rfl, Bool.not_eq_true, Bool.not_eq_false, decide_eq_true_eq, not_true_eq_false, not_false_eq_true, ite_true, ite_false, List.append_nil, and_assoc, Nat.mul_zero, Nat.zero_mul, q]
      · repeat (refine And.intro (by first | omega | trivial | (intros; omega)) ?_)
        refine hK (i + 1) (by omega) (by omega) _ _ (Sub.pt ?_)
        have e : odF kind n f i = f ((n : Int) - m + i) + evF kind n f i := by
          unfold odF; rw [hm, if_pos (by omega)]
        rw [e] at q
        simp -implicitDefEqProofs only [push_cast, false_implies, reduceCtorEq, Classical.not_not, Nat.reduceAdd, Nat.reduceSub, Nat.reduceMul, Nat.reduceLeDiff, Nat.reduceLT, Nat.reduceEqDiff, Nat.reduceBEq, Nat.reduceBNe, Int.reduceNeg, Int.reduceToNat, Bool.or_false, Bool.false_or, Bool.or_true, Bool.true_or, BEq.rfl, Bool.not_eq_true, Bool.not_eq_false, decide_eq_true_eq, not_true_eq_false, not_false_eq_true, ite_true, ite_false, List.append_nil, and_assoc, Nat.mul_zero, Nat.zero_mul, q]
    · obtain rfl : i = m := by omega
      refine postF.mk' (fun _ => X 1 10) [some 0, some 10] ?_
      have q2 : tabl n (unF2 kind n f i) = unL kind n (fun j => rd xs (lo + j)) := by rw [hf]; unfold unL; rw [hm]
      simp -implicitDefEqProofs only [push_cast, false_implies, reduceCtorEq, Classical.not_not, Nat.reduceAdd, Nat.reduceSub, Nat.reduceMul, Nat.reduceLeDiff, Nat.reduceLT, Nat.reduceEqDiff, Nat.reduceBEq, Nat.reduceBNe, Int.reduceNeg, Int.reduceToNat, Bool.or_false, Bool.false_or, Bool.or_true, Bool.true_or, BEq.rfl, Bool.not_eq_true, Bool.not_eq_false, decide_eq_true_eq, not_true_eq_false, not_false_eq_true, ite_true, ite_false, List.append_nil, and_assoc, Nat.mul_zero, Nat.zero_mul, fs39, q2]
def ent39 : Entry := spOf fs39 inv38
theorem e39 : EntryOk Try.prog 39 ent39 := entry_of ok39 inv38
@[push_cast] theorem ent39_app (us : List SV) (look : Look) (x : Nat → Xf.Loc) (k : Nat) : ent39 us look x k = spOf fs39 inv38 us look x k := rfl
end Go.Proofs.Ytefggfjblhniaaa
