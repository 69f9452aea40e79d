import Derived.Test.YtnmbimhcfioeiaaVy
set_option linter.unusedVariables false
set_option linter.unusedSimpArgs false
/-! The reference's Paint. -/
namespace Go.Proofs.Ytnmbimhcfioeiaa
open Xf
set_option maxRecDepth 4000
/- incunable/incunableref19.Paint : slots 104, labels 10..29; loop b32_1 keeps [2, 3, 4, 5, 6, 7, 8, 14, 16, 17]; loop b32_2 keeps [2, 3, 4, 5, 6, 7, 8, 14, 16, 17, 18] -/
def b32_2 : IR :=
  .seq (.seq (.reg false [⟨some 67, none, ⟨[], []⟩, .mov (.t 18)⟩,
    ⟨some 68, none, ⟨[], []⟩, .fld (.t 7) 0⟩,
    ⟨some 69, none, ⟨[], []⟩, .ld false none 0 0 (.t 68)⟩,
    ⟨some 70, none, ⟨[], []⟩, .bin 0 .lss (.t 67) (.t 69)⟩] [67, 68, 69] []) (.cond (.t 70) (.skip) (.exit 2))) (.seq (.block 3 (.seq (.reg false [⟨some 73, none, ⟨[], []⟩, .ld false (some 3) 0 0 (.t 8)⟩,
    ⟨some 74, none, ⟨[], []⟩, .mov (.t 18)⟩,
    ⟨some 75, none, ⟨[], []⟩, .mov (.t 2)⟩,
    ⟨some 76, none, ⟨[], []⟩, .bin 0 .sub (.t 74) (.t 75)⟩,
    ⟨some 77, none, ⟨[], []⟩, .mov (.t 17)⟩,
    ⟨some 78, none, ⟨[], []⟩, .mov (.t 3)⟩,
    ⟨some 79, none, ⟨[], []⟩, .bin 0 .sub (.t 77) (.t 78)⟩,
    ⟨some 80, none, ⟨[], []⟩, .call (some 4) 26 61 [.t 73, .t 76, .t 79]⟩,
    ⟨some 81, none, ⟨[], []⟩, .bin 0 .eql (.t 80) (.k (.int .i64 1))⟩] [70, 73, 74, 75, 76, 77, 78, 79, 80] []) (.cond (.t 81) (.seq (.reg false [⟨some 82, none, ⟨[], []⟩, .mov (.t 17)⟩,
    ⟨some 83, none, ⟨[], []⟩, .fld (.t 7) 0⟩,
    ⟨some 84, none, ⟨[], []⟩, .ld false none 0 0 (.t 83)⟩,
    ⟨some 85, none, ⟨[], []⟩, .bin 0 .mul (.t 82) (.t 84)⟩,
    ⟨some 86, none, ⟨[], []⟩, .mov (.t 18)⟩,
    ⟨some 87, none, ⟨[], []⟩, .bin 0 .add (.t 85) (.t 86)⟩,
    ⟨some 19, none, ⟨[], []⟩, .mov (.t 87)⟩] [81, 82, 83, 84, 85, 86, 87] []) (.reg true [⟨some 88, none, ⟨[], []⟩, .fld (.t 16) 2⟩,
    ⟨some 89, none, ⟨[], []⟩, .ld false none 0 0 (.t 88)⟩,
    ⟨some 90, none, ⟨[], []⟩, .mov (.t 19)⟩,
    ⟨some 91, none, ⟨[], []⟩, .fld (.t 16) 3⟩,
    ⟨some 92, none, ⟨[], []⟩, .ld false none 0 0 (.t 91)⟩,
    ⟨some 93, none, ⟨[], []⟩, .mov (.t 19)⟩,
    ⟨some 94, none, ⟨[], []⟩, .fld (.t 16) 4⟩,
    ⟨some 95, none, ⟨[], []⟩, .ld false none 0 0 (.t 94)⟩,
    ⟨some 96, none, ⟨[], []⟩, .mov (.t 19)⟩,
    ⟨some 97, none, ⟨[], []⟩, .mov (.t 4)⟩,
    ⟨some 98, none, ⟨[], []⟩, .mov (.t 5)⟩,
    ⟨some 99, none, ⟨[], []⟩, .mov (.t 6)⟩,
    ⟨some 100, none, ⟨[], []⟩, .idxS (.t 89) (.t 90) 1⟩,
    ⟨none, none, ⟨[], []⟩, .sto true 1 .i64 (.t 100) (.t 97)⟩,
    ⟨some 101, none, ⟨[], []⟩, .idxS (.t 92) (.t 93) 1⟩,
    ⟨none, none, ⟨[], []⟩, .sto true 1 .i64 (.t 101) (.t 98)⟩,
    ⟨some 102, none, ⟨[], []⟩, .idxS (.t 95) (.t 96) 1⟩,
    ⟨none, none, ⟨[], []⟩, .sto true 1 .i64 (.t 102) (.t 99)⟩] [19, 88, 89, 90, 91, 92, 93, 94, 95, 96, 97, 98, 99, 100, 101, 102] [])) (.skip)))) (.reg false [⟨some 71, none, ⟨[], []⟩, .mov (.t 18)⟩,
    ⟨some 72, none, ⟨[], []⟩, .bin 0 .add (.t 71) (.k (.int .i64 1))⟩,
    ⟨some 18, none, ⟨[], []⟩, .mov (.t 72)⟩] [71, 72, 81] []))
def r32_3 : IR :=
  .reg false [⟨some 65, none, ⟨[], []⟩, .mov (.t 17)⟩,
    ⟨some 66, none, ⟨[], []⟩, .bin 0 .add (.t 65) (.k (.int .i64 1))⟩,
    ⟨some 17, none, ⟨[], []⟩, .mov (.t 66)⟩] [18, 65, 66] []
def b32_1 : IR :=
  .seq (.seq (.reg false [⟨some 61, none, ⟨[], []⟩, .mov (.t 17)⟩,
    ⟨some 62, none, ⟨[], []⟩, .fld (.t 7) 1⟩,
    ⟨some 63, none, ⟨[], []⟩, .ld false none 0 0 (.t 62)⟩,
    ⟨some 64, none, ⟨[], []⟩, .bin 0 .lss (.t 61) (.t 63)⟩] [61, 62, 63] []) (.cond (.t 64) (.skip) (.exit 0))) (.seq (.block 1 (.seq (.reg false [⟨some 18, none, ⟨[], []⟩, .mov (.k (.int .i64 0))⟩] [64] []) (.block 2 (.loop b32_2)))) (r32_3))
def r32_4 : IR :=
  .seq (.reg false [⟨some 103, none, ⟨[], []⟩, .ld false (some 5) 0 0 (.t 16)⟩,
    ⟨none, none, ⟨[], []⟩, .sto false 5 .i64 (.t 14) (.t 103)⟩,
    ⟨some 15, none, ⟨[], []⟩, .mov (.k (.int .i64 0))⟩] [2, 3, 4, 5, 6, 7, 8, 16, 17, 103] []) (.ret)
def ir32 : IR :=
  .seq (.reg false [⟨some 7, none, ⟨[], []⟩, .box 10 (.t 0)⟩,
    ⟨some 8, none, ⟨[], []⟩, .box 11 (.t 1)⟩,
    ⟨some 14, none, ⟨[], []⟩, .alloc 12 [.int .i64 0, .int .i64 0, nilSV, nilSV, nilSV]⟩,
    ⟨some 15, none, ⟨[], []⟩, .mov (.k (.int .i64 0))⟩] [0, 1, 15] []) (.seq (.seq (.reg false [⟨some 20, none, ⟨[], []⟩, .ld false (some 5) 0 0 (.t 7)⟩,
    ⟨some 21, none, ⟨[], []⟩, .call (some 4) 13 16 [.t 20]⟩,
    ⟨some 22, none, ⟨[], []⟩, .not (.t 21)⟩] [20, 21] []) (.cond (.t 22) (.seq (.reg false [⟨some 23, none, ⟨[], []⟩, .build [.int .i64 0, .int .i64 0, nilSV, nilSV, nilSV] []⟩,
    ⟨none, none, ⟨[], []⟩, .sto false 5 .i64 (.t 14) (.t 23)⟩,
    ⟨some 15, none, ⟨[], []⟩, .mov (.k (.int .i64 75))⟩] [2, 3, 4, 5, 6, 7, 8, 22, 23] []) (.ret)) (.skip))) (.seq (.seq (.reg false [⟨some 24, none, ⟨[], []⟩, .ld false (some 3) 0 0 (.t 8)⟩,
    ⟨some 25, none, ⟨[], []⟩, .call (some 4) 17 60 [.t 24]⟩,
    ⟨some 26, none, ⟨[], []⟩, .not (.t 25)⟩,
    ⟨some 27, none, ⟨[], []⟩, .mov (.t 26)⟩,
    ⟨some 28, some (27, false), ⟨[], []⟩, .mov (.t 2)⟩,
    ⟨some 29, some (27, false), ⟨[], []⟩, .bin 0 .lss (.t 28) (.k (.int .i64 (-100000)))⟩,
    ⟨some 30, none, ⟨[], []⟩, .pick (.t 27) (.k (.bool true)) (.t 29)⟩,
    ⟨some 31, none, ⟨[], []⟩, .mov (.t 30)⟩,
    ⟨some 32, some (31, false), ⟨[], []⟩, .mov (.t 2)⟩,
    ⟨some 33, some (31, false), ⟨[], []⟩, .bin 0 .gtr (.t 32) (.k (.int .i64 100000))⟩,
    ⟨some 34, none, ⟨[], []⟩, .pick (.t 31) (.k (.bool true)) (.t 33)⟩,
    ⟨some 35, none, ⟨[], []⟩, .mov (.t 34)⟩,
    ⟨some 36, some (35, false), ⟨[], []⟩, .mov (.t 3)⟩,
    ⟨some 37, some (35, false), ⟨[], []⟩, .bin 0 .lss (.t 36) (.k (.int .i64 (-100000)))⟩,
    ⟨some 38, none, ⟨[], []⟩, .pick (.t 35) (.k (.bool true)) (.t 37)⟩,
    ⟨some 39, none, ⟨[], []⟩, .mov (.t 38)⟩,
    ⟨some 40, some (39, false), ⟨[], []⟩, .mov (.t 3)⟩,
    ⟨some 41, some (39, false), ⟨[], []⟩, .bin 0 .gtr (.t 40) (.k (.int .i64 100000))⟩,
    ⟨some 42, none, ⟨[], []⟩, .pick (.t 39) (.k (.bool true)) (.t 41)⟩,
    ⟨some 43, none, ⟨[], []⟩, .mov (.t 42)⟩,
    ⟨some 44, some (43, false), ⟨[], []⟩, .mov (.t 4)⟩,
    ⟨some 45, some (43, false), ⟨[], []⟩, .callp 44 [.t 44]⟩,
    ⟨some 46, some (43, false), ⟨[], []⟩, .not (.t 45)⟩,
    ⟨some 47, none, ⟨[], []⟩, .pick (.t 43) (.k (.bool true)) (.t 46)⟩,
    ⟨some 48, none, ⟨[], []⟩, .mov (.t 47)⟩,
    ⟨some 49, some (48, false), ⟨[], []⟩, .mov (.t 5)⟩,
    ⟨some 50, some (48, false), ⟨[], []⟩, .callp 44 [.t 49]⟩,
    ⟨some 51, some (48, false), ⟨[], []⟩, .not (.t 50)⟩,
    ⟨some 52, none, ⟨[], []⟩, .pick (.t 48) (.k (.bool true)) (.t 51)⟩,
    ⟨some 53, none, ⟨[], []⟩, .mov (.t 52)⟩,
    ⟨some 54, some (53, false), ⟨[], []⟩, .mov (.t 6)⟩,
    ⟨some 55, some (53, false), ⟨[], []⟩, .callp 44 [.t 54]⟩,
    ⟨some 56, some (53, false), ⟨[], []⟩, .not (.t 55)⟩,
    ⟨some 57, none, ⟨[], []⟩, .pick (.t 53) (.k (.bool true)) (.t 56)⟩] [15, 22, 24, 25, 26, 27, 28, 29, 30, 31, 32, 33, 34, 35, 36, 37, 38, 39, 40, 41, 42, 43, 44, 45, 46, 47, 48, 49, 50, 51, 52, 53, 54, 55, 56] []) (.cond (.t 57) (.seq (.reg false [⟨some 58, none, ⟨[], []⟩, .build [.int .i64 0, .int .i64 0, nilSV, nilSV, nilSV] []⟩,
    ⟨none, none, ⟨[], []⟩, .sto false 5 .i64 (.t 14) (.t 58)⟩,
    ⟨some 15, none, ⟨[], []⟩, .mov (.k (.int .i64 2))⟩] [2, 3, 4, 5, 6, 7, 8, 57, 58] []) (.ret)) (.skip))) (.seq (.reg false [⟨some 59, none, ⟨[], []⟩, .ld false (some 5) 0 0 (.t 7)⟩,
    ⟨some 60, none, ⟨[], []⟩, .call (some 4) 21 30 [.t 59]⟩,
    ⟨some 16, none, ⟨[], []⟩, .alloc 25 [.int .i64 0, .int .i64 0, nilSV, nilSV, nilSV]⟩,
    ⟨none, none, ⟨[], []⟩, .sto false 5 .i64 (.t 16) (.t 60)⟩] [15, 57, 59, 60] []) (.seq (.seq (.reg false [⟨some 17, none, ⟨[], []⟩, .mov (.k (.int .i64 0))⟩] [] []) (.block 0 (.loop b32_1))) (r32_4)))))
def kp32_2 : List Nat := [2, 3, 4, 5, 6, 7, 8, 14, 16, 17, 18]
def kl32_2 : List Nat := [26, 27, 28, 29]
attribute [push_cast] kp32_2 kl32_2
def kp32_1 : List Nat := [2, 3, 4, 5, 6, 7, 8, 14, 16, 17]
def kl32_1 : List Nat := [26, 27, 28, 29]
attribute [push_cast] kp32_1 kl32_1
theorem comp32 : (Try.f32.body.bind fun c => compC tab isP chkAll ir32 c) = some ir32 := by kernel_rfl
set_option maxRecDepth 512

/-- The first m numbers are turned. -/
def trn (n m : Nat) (f : Nat → Int) (xs : List Int) : List Int := tabl n (fun j => if j < m then f j else rd xs (j : Nat))
theorem trn_length (n m : Nat) (f : Nat → Int) (xs : List Int) : (trn n m f xs).length = n := tabl_length _ _
theorem trn_zero {n : Nat} (f : Nat → Int) {xs : List Int} (h : xs.length = n) : trn n 0 f xs = xs := by
  subst h; unfold trn
  exact Eq.trans (tabl_congr fun j hj => by rw [if_neg (by omega)]) (tabl_rd xs)
theorem trn_all (n : Nat) (f : Nat → Int) (xs : List Int) : trn n n f xs = tabl n f := tabl_congr fun j hj => if_pos hj
theorem trn_set {n m : Nat} (h : m < n) (f : Nat → Int) (xs : List Int) {c : Int} (hc : f m = c) : (trn n m f xs).set m c = trn n (m + 1) f xs := by
  unfold trn
  rw [tabl_set h]
  refine tabl_congr fun j hj => ?_
  by_cases e : j = m
  · subst e; simp [hc]
  · rw [if_neg e]
    by_cases h2 : j < m
    · rw [if_pos h2, if_pos (by omega)]
    · rw [if_neg h2, if_neg (by omega)]
theorem trn_skip {n m : Nat} {f : Nat → Int} {xs : List Int} (hc : f m = rd xs (m : Nat)) : trn n m f xs = trn n (m + 1) f xs := by
  refine tabl_congr fun j hj => ?_
  by_cases e : j = m
  · subst e; rw [if_neg (by omega), if_pos (by omega), hc]
  · by_cases h2 : j < m
    · rw [if_pos h2, if_pos (by omega)]
    · rw [if_neg h2, if_neg (by omega)]
theorem ink_at {b : Bm} {L : Xf.Loc} {dx dy : Int} : ink b dx dy ↔ atV ⟨⟨b, L⟩, dx, dy⟩ = 1 := by
  unfold ink atV
  by_cases h : (⟨⟨b, L⟩, dx, dy⟩ : AtA).inside
  · rw [if_pos h]
    obtain ⟨h1, h2, h3, h4⟩ := h
    simp only at h1 h2 h3 h4
    simp only [h1, h2, h3, h4, true_and]
  · rw [if_neg h]
    constructor
    · rintro ⟨h1, h2, h3, h4, _⟩; exact absurd ⟨h1, h2, h3, h4⟩ h
    · intro q; exact absurd q (by decide)
theorem ink_lt {b : Bm} (hl : (b.xs.length : Int) = b.w * b.h) {dx dy : Int} (h : ink b dx dy) : dy * b.w + dx < b.xs.length := by
  obtain ⟨h1, h2, h3, h4, _⟩ := h
  have := idx_bd h2 h4 h1 h3
  omega
theorem pntF_at {W v u : Nat} (hu : u < W) {b : Bm} (hl : (b.xs.length : Int) = b.w * b.h) (L : Xf.Loc) (x y : Int) (xs : List Int) (c : Int) :
    pntF W b x y xs c b.xs.length (v * W + u) = if atV ⟨⟨b, L⟩, u - x, v - y⟩ = 1 then c else rd xs ((v * W + u : Nat) : Int) := by
  unfold pntF
  rw [(dmI (w := W) (v := v) (u := u) hu).1, (dmI (w := W) (v := v) (u := u) hu).2]
  by_cases h : ink b (u - x) (v - y)
  · have q : ink b (u - x) (v - y) ∧ ((v : Int) - y) * b.w + (u - x) < b.xs.length := ⟨h, ink_lt hl h⟩
    rw [if_pos q, if_pos ((ink_at (L := L)).1 h)]
  · have q : ¬ (ink b (u - x) (v - y) ∧ ((v : Int) - y) * b.w + (u - x) < b.xs.length) := fun q => h q.1
    have q2 : ¬ atV ⟨⟨b, L⟩, u - x, v - y⟩ = 1 := fun q => h (ink_at.2 q)
    rw [if_neg q, if_neg q2]

theorem ok32 : FSOk Try.prog 32 fs31 := by
  refine ⟨⟨_, Try.func32, by kernel_rfl, by kernel_rfl⟩, fun a => ⟨by simp [fs31, push_cast, noMine, argOwn, Chunk.frArg], by simp [fs31, push_cast, outOk, Chunk.ext], fun x => .inl (by simp [fs31, push_cast, frNew, frOut, Chunk.fr])⟩, fun a hp => ?_⟩
  obtain ⟨⟨⟨W, H, R, G, B⟩, L1, L2, L3⟩, ⟨⟨bw, bh, xs⟩, L⟩, x, y, r, g, bl⟩ := a
  obtain ⟨hp1, hp2, hp3⟩ : (⟨W, H, R, G, B⟩ : Im).small ∧ xs.length ≤ 140737488355328 ∧ ∀ n, n ∈ xs → 0 ≤ n := hp
  change Tri Try.prog 32 [imV ⟨W, H, R, G, B⟩ L1 L2 L3 0, bmV ⟨bw, bh, xs⟩ L 3, .int .i64 x, .int .i64 y, .int .i64 r, .int .i64 g, .int .i64 bl] [some (.ro, L1, .ints .i64 R), some (.ro, L2, .ints .i64 G), some (.ro, L3, .ints .i64 B), some (.ro, L, .ints .u8 xs)] (postF fs31 ⟨⟨⟨W, H, R, G, B⟩, L1, L2, L3⟩, ⟨⟨bw, bh, xs⟩, L⟩, x, y, r, g, bl⟩)
  refine tri_evS (hyp (l := [(16, ent16), (60, ent60), (30, ent30), (61, ent61)]) (lp := [(44, valF)]) ⟨e16, e60, e30, e61, trivial⟩ ⟨p44, trivial⟩) Try.func32 comp32 (rs := [.cell 14 (some 5), .tmp 15]) (by rfl) Try.ntmps32 30 ?_
  simp -implicitDefEqProofs only [push_cast, false_implies, reduceCtorEq, Classical.not_not, Nat.reduceAdd, Nat.reduceSub, Nat.reduceMul, Nat.reduceLeDiff, Nat.reduceLT, Nat.reduceEqDiff, Nat.reduceBEq, Nat.reduceBNe, Int.reduceNeg, Int.reduceToNat, Bool.or_false, Bool.false_or, Bool.or_true, Bool.true_or, BEq.rfl, Bool.not_eq_true, Bool.not_eq_false, decide_eq_true_eq, not_true_eq_false, not_false_eq_true, ite_true, ite_false, List.append_nil, and_assoc, Nat.mul_zero, Nat.zero_mul, ir32, fs15, fs57, fs59, hp2]
  refine fun X => ⟨hp1, fun hn => ?_, fun hy => ⟨fun hb => ?_, fun hg X1 => ?_⟩⟩
  · have e : ¬ (⟨⟨⟨W, H, R, G, B⟩, L1, L2, L3⟩, ⟨⟨bw, bh, xs⟩, L⟩, x, y, r, g, bl⟩ : PaintA).Ok := fun H => hn H.1
    refine postF.mk' (fun _ => default) [some 0, some 1, some 2, some 3, none, none, none] ?_
    simp -implicitDefEqProofs only [push_cast, false_implies, reduceCtorEq, Classical.not_not, Nat.reduceAdd, Nat.reduceSub, Nat.reduceMul, Nat.reduceLeDiff, Nat.reduceLT, Nat.reduceEqDiff, Nat.reduceBEq, Nat.reduceBNe, Int.reduceNeg, Int.reduceToNat, Bool.or_false, Bool.false_or, Bool.or_true, Bool.true_or, BEq.rfl, Bool.not_eq_true, Bool.not_eq_false, decide_eq_true_eq, not_true_eq_false, not_false_eq_true, ite_true, ite_false, List.append_nil, and_assoc, Nat.mul_zero, Nat.zero_mul, fs31, paintI, e, hn, if_false, lx, im0]
  · have e : ¬ (⟨⟨⟨W, H, R, G, B⟩, L1, L2, L3⟩, ⟨⟨bw, bh, xs⟩, L⟩, x, y, r, g, bl⟩ : PaintA).Ok := fun H => by
      obtain ⟨_, q1, q2, q3, q4, q5, q6⟩ := H
      obtain ⟨s1, s2⟩ := q2
      obtain ⟨s3, s4⟩ := q3
      simp only at q1 q4 q5 q6 s1 s2 s3 s4
      simp [q1, q4, q5, q6] at hb
      omega
    refine postF.mk' (fun _ => default) [some 0, some 1, some 2, some 3, none, none, none] ?_
    simp -implicitDefEqProofs only [push_cast, false_implies, reduceCtorEq, Classical.not_not, Nat.reduceAdd, Nat.reduceSub, Nat.reduceMul, Nat.reduceLeDiff, Nat.reduceLT, Nat.reduceEqDiff, Nat.reduceBEq, Nat.reduceBNe, Int.reduceNeg, Int.reduceToNat, Bool.or_false, Bool.false_or, Bool.or_true, Bool.true_or, BEq.rfl, Bool.not_eq_true, Bool.not_eq_false, decide_eq_true_eq, not_true_eq_false, not_false_eq_true, ite_true, ite_false, List.append_nil, and_assoc, Nat.mul_zero, Nat.zero_mul, fs31, paintI, e, hy, if_false, if_true, lx, im0]
  simp only [not_or, Classical.not_not] at hg
  obtain ⟨⟨⟨⟨⟨⟨⟨g1, u1⟩, u2⟩, u3⟩, u4⟩, g4⟩, g5⟩, g6⟩ := hg
  have e : (⟨⟨⟨W, H, R, G, B⟩, L1, L2, L3⟩, ⟨⟨bw, bh, xs⟩, L⟩, x, y, r, g, bl⟩ : PaintA).Ok := ⟨hy, g1, ⟨by simp only; omega, by simp only; omega⟩, ⟨by simp only; omega, by simp only; omega⟩, g4, g5, g6⟩
  obtain ⟨hs, ⟨hl, _⟩, _⟩ := id hy
  obtain ⟨hs2, hl2, hbit⟩ := id g1
  obtain ⟨e1, e2, _⟩ := hy.val
  simp only at e1 e2 hs hl hs2 hl2 hbit
  obtain ⟨a1, a2, a3, a4, a5⟩ := id hs
  have hm := hs.bd
  repeat (refine And.intro (by first | omega | trivial | (intros; omega)) ?_)
  obtain ⟨W, rfl⟩ : ∃ n : Nat, W = (n : Int) := ⟨W.toNat, by omega⟩
  obtain ⟨H, rfl⟩ : ∃ n : Nat, H = (n : Int) := ⟨H.toNat, by omega⟩
  have hn : R.length = H * W := by
    rw [Nat.mul_comm, ← Int.ofNat_inj]; simp only [Int.natCast_mul]; exact hl
  obtain ⟨fR, hfR⟩ : ∃ f, pntF W ⟨bw, bh, xs⟩ x y R r xs.length = f := ⟨_, rfl⟩
  obtain ⟨fG, hfG⟩ : ∃ f, pntF W ⟨bw, bh, xs⟩ x y G g xs.length = f := ⟨_, rfl⟩
  obtain ⟨fB, hfB⟩ : ∃ f, pntF W ⟨bw, bh, xs⟩ x y B bl xs.length = f := ⟨_, rfl⟩
  have aR := fun u v (hu : u < W) => pntF_at (v := v) hu (b := ⟨bw, bh, xs⟩) hl2 L x y R r
  have aG := fun u v (hu : u < W) => pntF_at (v := v) hu (b := ⟨bw, bh, xs⟩) hl2 L x y G g
  have aB := fun u v (hu : u < W) => pntF_at (v := v) hu (b := ⟨bw, bh, xs⟩) hl2 L x y B bl
  simp only [hfR, hfG, hfB] at aR aG aB
  refine evS_loopU (A := Nat) kp32_1 kl32_1 (fun v => [(17, .int .i64 v)])
    (fun v => [(21, .mine, X1 1 21, .ints .i64 (trn (H * W) (v * W) fR R)), (22, .mine, X1 1 22, .ints .i64 (trn (H * W) (v * W) fG G)), (23, .mine, X1 1 23, .ints .i64 (trn (H * W) (v * W) fB B))])
    (fun v => v ≤ H) (fun v => H - v) 0 (by omega) (Sub.pt ?_) ?_
  · simp -implicitDefEqProofs only [push_cast, false_implies, reduceCtorEq, Classical.not_not, Nat.reduceAdd, Nat.reduceSub, Nat.reduceMul, Nat.reduceLeDiff, Nat.reduceLT, Nat.reduceEqDiff, Nat.reduceBEq, Nat.reduceBNe, Int.reduceNeg, Int.reduceToNat, Bool.or_false, Bool.false_or, Bool.or_true, Bool.true_or, BEq.rfl, Bool.not_eq_true, Bool.not_eq_false, decide_eq_true_eq, not_true_eq_false, not_false_eq_true, ite_true, ite_false, List.append_nil, and_assoc, Nat.mul_zero, Nat.zero_mul, Nat.zero_mul, trn_zero fR hn, trn_zero fG (e1.trans hn), trn_zero fB (e2.trans hn)]
  intro v (hv : v ≤ H) K1 hK1
  simp -implicitDefEqProofs only [push_cast, false_implies, reduceCtorEq, Classical.not_not, Nat.reduceAdd, Nat.reduceSub, Nat.reduceMul, Nat.reduceLeDiff, Nat.reduceLT, Nat.reduceEqDiff, Nat.reduceBEq, Nat.reduceBNe, Int.reduceNeg, Int.reduceToNat, Bool.or_false, Bool.false_or, Bool.or_true, Bool.true_or, BEq.rfl, Bool.not_eq_true, Bool.not_eq_false, decide_eq_true_eq, not_true_eq_false, not_false_eq_true, ite_true, ite_false, List.append_nil, and_assoc, Nat.mul_zero, Nat.zero_mul, b32_1, r32_3, r32_4]
  refine ⟨fun hl1 => ?_, fun hl1 => ?_⟩
  · refine evS_loopU (A := Nat) kp32_2 kl32_2 (fun u => [(18, .int .i64 u)])
      (fun u => [(21, .mine, X1 1 21, .ints .i64 (trn (H * W) (v * W + u) fR R)), (22, .mine, X1 1 22, .ints .i64 (trn (H * W) (v * W + u) fG G)), (23, .mine, X1 1 23, .ints .i64 (trn (H * W) (v * W + u) fB B))])
      (fun u => u ≤ W) (fun u => W - u) 0 (by omega) (Sub.pt ?_) ?_
    · simp -implicitDefEqProofs only [push_cast, false_implies, reduceCtorEq, Classical.not_not, Nat.reduceAdd, Nat.reduceSub, Nat.reduceMul, Nat.reduceLeDiff, Nat.reduceLT, Nat.reduceEqDiff, Nat.reduceBEq, Nat.reduceBNe, Int.reduceNeg, Int.reduceToNat, Bool.or_false, Bool.false_or, Bool.or_true, Bool.true_or, BEq.rfl, Bool.not_eq_true, Bool.not_eq_false, decide_eq_true_eq, not_true_eq_false, not_false_eq_true, ite_true, ite_false, List.append_nil, and_assoc, Nat.mul_zero, Nat.zero_mul, Nat.add_zero]
    intro u (hu : u ≤ W) K2 hK2
    simp -implicitDefEqProofs only [push_cast, false_implies, reduceCtorEq, Classical.not_not, Nat.reduceAdd, Nat.reduceSub, Nat.reduceMul, Nat.reduceLeDiff, Nat.reduceLT, Nat.reduceEqDiff, Nat.reduceBEq, Nat.reduceBNe, Int.reduceNeg, Int.reduceToNat, Bool.or_false, Bool.false_or, Bool.or_true, Bool.true_or, BEq.rfl, Bool.not_eq_true, Bool.not_eq_false, decide_eq_true_eq, not_true_eq_false, not_false_eq_true, ite_true, ite_false, List.append_nil, and_assoc, Nat.mul_zero, Nat.zero_mul, b32_2, r32_3, fs61, fs70, g1]
    refine ⟨fun hl2 => ?_, fun hl2 => ?_⟩
    · have hu' : u < W := by omega
      have hi := idx_bd (a := (v : Int)) (b := (u : Int)) (W := W) (H := H) (by omega) (by omega) (by omega) (by omega)
      have hmb := mul_bd (a := (v : Int)) (b := W) (A := 200) (B := 200) (by omega) (by omega) (by omega) (by omega)
      have et : ((v : Int) * W + u).toNat = v * W + u := by
        have : ((v * W + u : Nat) : Int) = (v : Int) * W + u := by simp
        omega
      have hlt : v * W + u < H * W := by
        rw [← Int.ofNat_lt]; simp only [Int.natCast_add, Int.natCast_mul]; rw [Int.mul_comm (H : Int)]; omega
      repeat (refine And.intro (by first | omega | trivial | (intros; omega)) ?_)
      refine ⟨fun hh => ?_, fun hh => ⟨by omega, by omega, ?_⟩⟩
      · simp only [trn_length]
        repeat (refine And.intro (by first | omega | trivial | (intros; omega)) ?_)
        refine hK2 (u + 1) (by omega) (by omega) _ _ (Sub.pt ?_)
        have qR := trn_set hlt fR R ((aR u v hu').trans (if_pos hh))
        have qG := trn_set hlt fG G ((aG u v hu').trans (if_pos hh))
        have qB := trn_set hlt fB B ((aB u v hu').trans (if_pos hh))
        simp -implicitDefEqProofs only [push_cast, false_implies, reduceCtorEq, Classical.not_not, Nat.reduceAdd, Nat.reduceSub, Nat.reduceMul, Nat.reduceLeDiff, Nat.reduceLT, Nat.reduceEqDiff, Nat.reduceBEq, Nat.reduceBNe, Int.reduceNeg, Int.reduceToNat, Bool.or_false, Bool.false_or, Bool.or_true, Bool.true_or, BEq.rfl, Bool.not_eq_true, Bool.not_eq_false, decide_eq_true_eq, not_true_eq_false, not_false_eq_true, ite_true, ite_false, List.append_nil, and_assoc, Nat.mul_zero, Nat.zero_mul, et, qR, qG, qB, ← Nat.add_assoc]
      · refine hK2 (u + 1) (by omega) (by omega) _ _ (Sub.pt ?_)
        have qR := trn_skip (n := H * W) ((aR u v hu').trans (if_neg hh))
        have qG := trn_skip (n := H * W) ((aG u v hu').trans (if_neg hh))
        have qB := trn_skip (n := H * W) ((aB u v hu').trans (if_neg hh))
        simp -implicitDefEqProofs only [push_cast, false_implies, reduceCtorEq, Classical.not_not, Nat.reduceAdd, Nat.reduceSub, Nat.reduceMul, Nat.reduceLeDiff, Nat.reduceLT, Nat.reduceEqDiff, Nat.reduceBEq, Nat.reduceBNe, Int.reduceNeg, Int.reduceToNat, Bool.or_false, Bool.false_or, Bool.or_true, Bool.true_or, BEq.rfl, Bool.not_eq_true, Bool.not_eq_false, decide_eq_true_eq, not_true_eq_false, not_false_eq_true, ite_true, ite_false, List.append_nil, and_assoc, Nat.mul_zero, Nat.zero_mul, qR, qG, qB, ← Nat.add_assoc]
    · repeat (refine And.intro (by first | omega | trivial | (intros; omega)) ?_)
      have hu' : u = W := by omega
      refine hK1 (v + 1) (by omega) (by omega) _ _ (Sub.pt ?_)
      have e3 : (v + 1) * W = v * W + W := by rw [Nat.add_mul, Nat.one_mul]
      simp -implicitDefEqProofs only [push_cast, false_implies, reduceCtorEq, Classical.not_not, Nat.reduceAdd, Nat.reduceSub, Nat.reduceMul, Nat.reduceLeDiff, Nat.reduceLT, Nat.reduceEqDiff, Nat.reduceBEq, Nat.reduceBNe, Int.reduceNeg, Int.reduceToNat, Bool.or_false, Bool.false_or, Bool.or_true, Bool.true_or, BEq.rfl, Bool.not_eq_true, Bool.not_eq_false, decide_eq_true_eq, not_true_eq_false, not_false_eq_true, ite_true, ite_false, List.append_nil, and_assoc, Nat.mul_zero, Nat.zero_mul, e3, hu']
  · obtain rfl : v = H := by omega
    refine postF.mk' (locs [X1 1 21, X1 1 22, X1 1 23]) [some 0, some 1, some 2, some 3, some 21, some 22, some 23] ?_
    simp -implicitDefEqProofs only [push_cast, false_implies, reduceCtorEq, Classical.not_not, Nat.reduceAdd, Nat.reduceSub, Nat.reduceMul, Nat.reduceLeDiff, Nat.reduceLT, Nat.reduceEqDiff, Nat.reduceBEq, Nat.reduceBNe, Int.reduceNeg, Int.reduceToNat, Bool.or_false, Bool.false_or, Bool.or_true, Bool.true_or, BEq.rfl, Bool.not_eq_true, Bool.not_eq_false, decide_eq_true_eq, not_true_eq_false, not_false_eq_true, ite_true, ite_false, List.append_nil, and_assoc, Nat.mul_zero, Nat.zero_mul, fs31, paintI, pntL, e, if_true, lx, tabl_length, e1, e2, hfR, hfG, hfB, trn_all, hn]
def ent32 : Entry := spOf fs31 inv31
theorem e32 : EntryOk Try.prog 32 ent32 := entry_of ok32 inv31
@[push_cast] theorem ent32_app (us : List SV) (look : Look) (x : Nat → Xf.Loc) (k : Nat) : ent32 us look x k = spOf fs31 inv31 us look x k := rfl
end Go.Proofs.Ytnmbimhcfioeiaa
