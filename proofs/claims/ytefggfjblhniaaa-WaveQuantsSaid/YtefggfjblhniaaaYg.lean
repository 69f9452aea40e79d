import Derived.Test.YtefggfjblhniaaaYf
set_option linter.unusedVariables false
set_option linter.unusedSimpArgs false
/-! Wave: lines and back; Awake. -/
namespace Go.Proofs.Ytefggfjblhniaaa
open Xf
set_option maxRecDepth 4000
/- incunable/incunablelaw18.Awake : slots 31, labels 10..29 -/
def ir13 : IR :=
  .seq (.reg false [⟨some 0, none, ⟨[], []⟩, .mov (.k (.bool false))⟩] [0] []) (.seq (.reg false [⟨some 6, none, ⟨[], []⟩, .bslice 10 [.k (.int .i64 3), .k (.int .i64 8), .k (.int .i64 5)]⟩,
    ⟨some 7, none, ⟨[], []⟩, .call (some 4) 11 14 [.k (.int .i64 0), .t 6]⟩,
    ⟨some 5, none, ⟨[], []⟩, .mov (.t 7)⟩,
    ⟨some 8, none, ⟨[], []⟩, .ext (.t 5) 0⟩,
    ⟨some 9, none, ⟨[], []⟩, .ext (.t 5) 1⟩,
    ⟨some 1, none, ⟨[], []⟩, .mov (.t 8)⟩,
    ⟨some 2, none, ⟨[], []⟩, .mov (.t 9)⟩] [5, 6, 7, 8, 9] []) (.seq (.reg false [⟨some 11, none, ⟨[], []⟩, .bslice 15 [.k (.int .i64 3), .k (.int .i64 8), .k (.int .i64 5)]⟩,
    ⟨some 12, none, ⟨[], []⟩, .call (some 4) 16 14 [.k (.int .i64 1), .t 11]⟩,
    ⟨some 10, none, ⟨[], []⟩, .mov (.t 12)⟩,
    ⟨some 13, none, ⟨[], []⟩, .ext (.t 10) 0⟩,
    ⟨some 14, none, ⟨[], []⟩, .ext (.t 10) 1⟩,
    ⟨some 3, none, ⟨[], []⟩, .mov (.t 13)⟩,
    ⟨some 4, none, ⟨[], []⟩, .mov (.t 14)⟩] [10, 11, 12, 13, 14] []) (.seq (.reg false [⟨some 15, none, ⟨[], []⟩, .mov (.t 2)⟩,
    ⟨some 16, none, ⟨[], []⟩, .bin 0 .eql (.t 15) (.k (.int .i64 0))⟩,
    ⟨some 17, none, ⟨[], []⟩, .mov (.t 16)⟩,
    ⟨some 18, some (17, true), ⟨[], []⟩, .mov (.t 4)⟩,
    ⟨some 19, some (17, true), ⟨[], []⟩, .bin 0 .eql (.t 18) (.k (.int .i64 0))⟩,
    ⟨some 20, none, ⟨[], []⟩, .pick (.t 17) (.t 19) (.k (.bool false))⟩,
    ⟨some 21, none, ⟨[], []⟩, .mov (.t 20)⟩,
    ⟨some 22, some (21, true), ⟨[], []⟩, .mov (.t 1)⟩,
    ⟨some 23, some (21, true), ⟨[], []⟩, .bslice 20 [.k (.int .i64 5), .k (.int .i64 7), .k (.int .i64 4)]⟩,
    ⟨some 24, some (21, true), ⟨[], []⟩, .call (some 4) 21 17 [.t 22, .t 23]⟩,
    ⟨some 25, none, ⟨[], []⟩, .pick (.t 21) (.t 24) (.k (.bool false))⟩,
    ⟨some 26, none, ⟨[], []⟩, .mov (.t 25)⟩,
    ⟨some 27, some (26, true), ⟨[], []⟩, .mov (.t 3)⟩,
    ⟨some 28, some (26, true), ⟨[], []⟩, .bslice 25 [.k (.int .i64 5), .k (.int .i64 5), .k (.int .i64 5)]⟩,
    ⟨some 29, some (26, true), ⟨[], []⟩, .call (some 4) 26 17 [.t 27, .t 28]⟩,
    ⟨some 30, none, ⟨[], []⟩, .pick (.t 26) (.t 29) (.k (.bool false))⟩,
    ⟨some 0, none, ⟨[], []⟩, .mov (.t 30)⟩] [1, 2, 3, 4, 15, 16, 17, 18, 19, 20, 21, 22, 23, 24, 25, 26, 27, 28, 29, 30] []) (.ret))))
theorem comp13 : (Try.f13.body.bind fun c => compC tab isP chkAll ir13 c) = some ir13 := by kernel_rfl
set_option maxRecDepth 512

theorem rd_app1 {xs ys : List Int} {i : Nat} (h : i < xs.length) : rd (xs ++ ys) (i : Int) = rd xs (i : Int) := by
  rw [rd_lt _ _ (by rw [List.length_append]; omega), rd_lt _ _ h, List.getElem_append_left h]
theorem rd_app2 {xs ys : List Int} {i : Nat} (h : i < ys.length) : rd (xs ++ ys) ((xs.length + i : Nat) : Int) = rd ys (i : Int) := by
  rw [rd_lt _ _ (by rw [List.length_append]; omega), rd_lt _ _ h, List.getElem_append_right (by omega)]
  congr 1; omega
theorem rd_line_lo {kind : Int} {n : Nat} {f : Int → Int} {i : Nat} (h : i < n - n / 2) : rd (lineL kind n f) (i : Int) = loF kind n f i := by
  unfold lineL; rw [rd_app1 (by rw [tabl_length]; exact h), rd_tabl h]
theorem rd_line_hi {kind : Int} {n : Nat} {f : Int → Int} {i : Nat} (h : i < n / 2) : rd (lineL kind n f) ((n : Int) - (n / 2 : Nat) + i) = hiF kind n f i := by
  have e : (n : Int) - (n / 2 : Nat) + i = (((tabl (n - n / 2) (loF kind n f)).length + i : Nat) : Int) := by rw [tabl_length]; omega
  unfold lineL
  rw [e, rd_app2 (by unfold hiL; rw [tabl_length]; exact h)]
  unfold hiL; rw [rd_tabl h]
theorem liftG_congr {kind : Int} {g g' : Int → Int} {m i : Int} (h : ∀ j, 0 ≤ j → j < m → g j = g' j) (h0 : 0 ≤ i) (h1 : i ≤ m) (hm : 0 ≤ m) : liftG kind g m i = liftG kind g' m i := by
  unfold liftG
  by_cases c : m = 0 ∨ kind = 1 ∧ m ≤ i
  · rw [if_pos c, if_pos c]
  · rw [if_neg c, if_neg c]
    by_cases d : kind = 1
    · rw [if_pos d, if_pos d, h i h0 (by omega)]
    · rw [if_neg d, if_neg d, h (max (i - 1) 0) (by omega) (by omega), h (min i (m - 1)) (by omega) (by omega)]
theorem ev_line {kind : Int} {n : Nat} {f : Int → Int} {i : Nat} (h : i < n - n / 2) : evF kind n (fun j => rd (lineL kind n f) j) i = f (2 * i) := by
  unfold evF
  try simp only
  rw [rd_line_lo h, liftG_congr (g' := fun j => rd (hiL kind n f) j) ?_ (by omega) (by omega) (by omega)]
  · unfold loF; omega
  · intro j h0 h1
    obtain ⟨j, rfl⟩ : ∃ q : Nat, j = (q : Int) := ⟨j.toNat, by omega⟩
    try simp only
    rw [rd_line_hi (by omega)]
    unfold hiL; rw [rd_tabl (by omega)]
theorem un_line {kind : Int} {n : Nat} {f : Int → Int} {k : Nat} (h : k < n) : unF2 kind n (fun j => rd (lineL kind n f) j) (n / 2) k = f k := by
  unfold unF2
  by_cases e : k % 2 = 0
  · rw [if_pos e, ev_line (by omega)]
    congr 1; omega
  · rw [if_neg e, if_pos (by omega)]
    unfold odF
    try simp only
    rw [rd_line_hi (by omega), ev_line (by omega)]
    have ek : (k : Int) = 2 * ((k / 2 : Nat) : Int) + 1 := by omega
    unfold hiF nxt
    by_cases c : kind = 1
    · rw [if_pos c, if_pos c, ek]
      have : ((k / 2 : Nat) : Int) = (k : Int) / 2 := by omega
      rw [← ek]; omega
    · rw [if_neg c, if_neg c]
      by_cases d : 2 * (k / 2) + 2 < n
      · rw [if_pos d, if_pos (by omega), ev_line (by omega), ← ek]
        rw [show 2 * ((k / 2 + 1 : Nat) : Int) = 2 * ((k / 2 : Nat) : Int) + 2 by omega]
        omega
      · rw [if_neg d, if_neg (by omega), ← ek]
        omega
theorem line_bd {kind : Int} {n : Nat} {f : Int → Int} {B : Int} (h : BdF B f) (h0 : 0 ≤ B) : AllIn (-(3 * B + 1)) (3 * B + 1) (lineL kind n f) := by
  intro v hv
  unfold lineL at hv
  rcases List.mem_append.1 hv with hv | hv
  · obtain ⟨j, hj, rfl⟩ := List.mem_map.1 hv
    have h1 := h (2 * j)
    have h2 := liftG_bd (kind := kind) (BdF.rd0 (hiL_bd (kind := kind) (n := n) h) (by omega)) (by omega) ((n / 2 : Nat) : Int) j
    simp only [loF]
    omega
  · have := hiL_bd h v hv
    omega
theorem line_back {kind : Int} {xs : List Int} (h : lnOk kind xs) (hB : AllIn (-4194304) 4194304 xs) : lnOk kind (lnR kind xs) ∧ unR kind (lnR kind xs) = xs := by
  have e : lnR kind xs = lineL kind xs.length (fun j => rd xs j) := if_pos h
  have hO : lnOk kind (lnR kind xs) := by
    rw [e]
    refine ⟨h.1, by rw [lineL_length]; exact h.2.1, fun v hv => ?_⟩
    have := line_bd (BdF.rd0 hB (by omega)) (by omega) v hv
    omega
  refine ⟨hO, ?_⟩
  unfold unR
  rw [if_pos hO, e, lineL_length]
  unfold unL
  refine Eq.trans (tabl_congr fun k hk => un_line hk) (tabl_rd xs)

def fs13 : FS where
  A := Unit
  args := fun _ => []
  mem := fun _ => []
  pre := fun _ => True
  res := fun _ _ => .bool true
  out := fun _ _ => []
  new := fun _ _ => []
def inv13 : List SV → Look → Option (Unit × List Nat)
  | [], _ => some ((), [])
  | _, _ => none
attribute [push_cast] inv13
theorem ok13 : FSOk Try.prog 13 fs13 := by
  refine ⟨⟨_, Try.func13, by kernel_rfl, by kernel_rfl⟩, fun a => ⟨by simp [fs13, push_cast, noMine, argOwn, Chunk.frArg], by simp [fs13, push_cast, outOk, Chunk.ext], fun x => .inl (by simp [fs13, push_cast, frNew, frOut, Chunk.fr])⟩, fun a hp => ?_⟩
  change Tri Try.prog 13 [] [] (postF fs13 a)
  have o0 : lnOk 0 [3, 8, 5] := by decide
  have o1 : lnOk 1 [3, 8, 5] := by decide
  have r0 : lnR 0 [3, 8, 5] = [5, 7, 4] := by decide
  have r1 : lnR 1 [3, 8, 5] = [5, 5, 5] := by decide
  refine tri_evS (hyp (l := [(14, ent14), (17, ent17)]) (lp := []) ⟨e14, e17, trivial⟩ trivial) Try.func13 comp13 (rs := [.tmp 0]) (by rfl) Try.ntmps13 30 ?_
  simp -implicitDefEqProofs only [push_cast, false_implies, reduceCtorEq, Classical.not_not, Nat.reduceAdd, Nat.reduceSub, Nat.reduceMul, Nat.reduceLeDiff, Nat.reduceLT, Nat.reduceEqDiff, Nat.reduceBEq, Nat.reduceBNe, Int.reduceNeg, Int.reduceToNat, Bool.or_false, Bool.false_or, Bool.or_true, Bool.true_or, BEq.rfl, Bool.not_eq_true, Bool.not_eq_false, decide_eq_true_eq, not_true_eq_false, not_false_eq_true, ite_true, ite_false, List.append_nil, and_assoc, Nat.mul_zero, Nat.zero_mul, ir13, fs14, fs17, o0, o1, r0, r1, if_true, lx]
  exact fun X X1 X2 => postF.mk' (fun _ => default) [] (by simp -implicitDefEqProofs only [push_cast, false_implies, reduceCtorEq, Classical.not_not, Nat.reduceAdd, Nat.reduceSub, Nat.reduceMul, Nat.reduceLeDiff, Nat.reduceLT, Nat.reduceEqDiff, Nat.reduceBEq, Nat.reduceBNe, Int.reduceNeg, Int.reduceToNat, Bool.or_false, Bool.false_or, Bool.or_true, Bool.true_or, BEq.rfl, Bool.not_eq_true, Bool.not_eq_false, decide_eq_true_eq, not_true_eq_false, not_false_eq_true, ite_true, ite_false, List.append_nil, and_assoc, Nat.mul_zero, Nat.zero_mul, fs13])
def ent13 : Entry := spOf fs13 inv13
theorem e13 : EntryOk Try.prog 13 ent13 := entry_of ok13 inv13
@[push_cast] theorem ent13_app (us : List SV) (look : Look) (x : Nat → Xf.Loc) (k : Nat) : ent13 us look x k = spOf fs13 inv13 us look x k := rfl
end Go.Proofs.Ytefggfjblhniaaa
