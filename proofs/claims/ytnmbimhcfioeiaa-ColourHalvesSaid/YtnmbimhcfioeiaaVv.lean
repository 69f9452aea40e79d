import Derived.Test.YtnmbimhcfioeiaaVu
set_option linter.unusedVariables false
set_option linter.unusedSimpArgs false
/-! The law ColourHalves. -/
namespace Go.Proofs.Ytnmbimhcfioeiaa
open Xf
set_option maxRecDepth 4000
/- incunable/incunablelaw19.ColourHalves : slots 83, labels 10..59 -/
def ir9 : IR :=
  .seq (.reg false [⟨some 3, none, ⟨[], []⟩, .box 10 (.t 0)⟩,
    ⟨some 6, none, ⟨[], []⟩, .mov (.k (.bool false))⟩] [0, 6] []) (.seq (.seq (.reg false [⟨some 16, none, ⟨[], []⟩, .fld (.t 3) 2⟩,
    ⟨some 17, none, ⟨[], []⟩, .ld false none 0 0 (.t 16)⟩,
    ⟨some 18, none, ⟨[], []⟩, .len (.t 17)⟩,
    ⟨some 19, none, ⟨[], []⟩, .bin 0 .gtr (.t 18) (.k (.int .i64 4000))⟩] [16, 17, 18] []) (.cond (.t 19) (.seq (.reg false [⟨some 20, none, ⟨[], []⟩, .call (some 4) 11 12 []⟩,
    ⟨some 6, none, ⟨[], []⟩, .mov (.t 20)⟩] [1, 2, 3, 19, 20] []) (.ret)) (.skip))) (.seq (.reg false [⟨some 22, none, ⟨[], []⟩, .ld false (some 3) 0 0 (.t 3)⟩,
    ⟨some 23, none, ⟨[], []⟩, .call (some 4) 15 33 [.t 22]⟩,
    ⟨some 21, none, ⟨[], []⟩, .mov (.t 23)⟩,
    ⟨some 24, none, ⟨[], []⟩, .ext (.t 21) 0⟩,
    ⟨some 25, none, ⟨[], []⟩, .ext (.t 21) 1⟩,
    ⟨some 7, none, ⟨[], []⟩, .alloc 19 [.int .i64 0, .int .i64 0, nilSV]⟩,
    ⟨none, none, ⟨[], []⟩, .sto false 3 .i64 (.t 7) (.t 24)⟩,
    ⟨some 8, none, ⟨[], []⟩, .mov (.t 25)⟩] [6, 19, 21, 22, 23, 24, 25] []) (.seq (.reg false [⟨some 27, none, ⟨[], []⟩, .ld false (some 3) 0 0 (.t 3)⟩,
    ⟨some 28, none, ⟨[], []⟩, .call (some 4) 20 34 [.t 27]⟩,
    ⟨some 26, none, ⟨[], []⟩, .mov (.t 28)⟩,
    ⟨some 29, none, ⟨[], []⟩, .ext (.t 26) 0⟩,
    ⟨some 30, none, ⟨[], []⟩, .ext (.t 26) 1⟩,
    ⟨some 9, none, ⟨[], []⟩, .alloc 24 [.int .i64 0, .int .i64 0, nilSV]⟩,
    ⟨none, none, ⟨[], []⟩, .sto false 3 .i64 (.t 9) (.t 29)⟩,
    ⟨some 10, none, ⟨[], []⟩, .mov (.t 30)⟩] [26, 27, 28, 29, 30] []) (.seq (.reg false [⟨some 32, none, ⟨[], []⟩, .ld false (some 3) 0 0 (.t 3)⟩,
    ⟨some 33, none, ⟨[], []⟩, .mov (.t 1)⟩,
    ⟨some 34, none, ⟨[], []⟩, .mov (.t 2)⟩,
    ⟨some 35, none, ⟨[], []⟩, .call (some 4) 25 35 [.t 32, .t 33, .t 34]⟩,
    ⟨some 31, none, ⟨[], []⟩, .mov (.t 35)⟩,
    ⟨some 36, none, ⟨[], []⟩, .ext (.t 31) 0⟩,
    ⟨some 37, none, ⟨[], []⟩, .ext (.t 31) 1⟩,
    ⟨some 11, none, ⟨[], []⟩, .alloc 29 [.int .i64 0, .int .i64 0, nilSV]⟩,
    ⟨none, none, ⟨[], []⟩, .sto false 3 .i64 (.t 11) (.t 36)⟩,
    ⟨some 12, none, ⟨[], []⟩, .mov (.t 37)⟩] [31, 32, 33, 34, 35, 36, 37] []) (.seq (.reg false [⟨some 39, none, ⟨[], []⟩, .ld false (some 3) 0 0 (.t 3)⟩,
    ⟨some 40, none, ⟨[], []⟩, .mov (.t 1)⟩,
    ⟨some 41, none, ⟨[], []⟩, .mov (.t 2)⟩,
    ⟨some 42, none, ⟨[], []⟩, .call (some 4) 30 36 [.t 39, .t 40, .t 41]⟩,
    ⟨some 38, none, ⟨[], []⟩, .mov (.t 42)⟩,
    ⟨some 43, none, ⟨[], []⟩, .ext (.t 38) 0⟩,
    ⟨some 44, none, ⟨[], []⟩, .ext (.t 38) 1⟩,
    ⟨some 13, none, ⟨[], []⟩, .alloc 34 [.int .i64 0, .int .i64 0, nilSV]⟩,
    ⟨none, none, ⟨[], []⟩, .sto false 3 .i64 (.t 13) (.t 43)⟩,
    ⟨some 14, none, ⟨[], []⟩, .mov (.t 44)⟩] [1, 2, 38, 39, 40, 41, 42, 43, 44] []) (.seq (.seq (.reg false [⟨some 45, none, ⟨[], []⟩, .mov (.t 8)⟩,
    ⟨some 46, none, ⟨[], []⟩, .mov (.t 10)⟩,
    ⟨some 47, none, ⟨[], []⟩, .bin 0 .neq (.t 45) (.t 46)⟩,
    ⟨some 48, none, ⟨[], []⟩, .mov (.t 47)⟩,
    ⟨some 49, some (48, false), ⟨[], []⟩, .mov (.t 12)⟩,
    ⟨some 50, some (48, false), ⟨[], []⟩, .mov (.t 14)⟩,
    ⟨some 51, some (48, false), ⟨[], []⟩, .bin 0 .neq (.t 49) (.t 50)⟩,
    ⟨some 52, none, ⟨[], []⟩, .pick (.t 48) (.k (.bool true)) (.t 51)⟩,
    ⟨some 53, none, ⟨[], []⟩, .mov (.t 52)⟩,
    ⟨some 54, some (53, false), ⟨[], []⟩, .ld false (some 3) 0 0 (.t 7)⟩,
    ⟨some 55, some (53, false), ⟨[], []⟩, .ld false (some 3) 0 0 (.t 9)⟩,
    ⟨some 56, some (53, false), ⟨[], []⟩, .call (some 4) 35 22 [.t 54, .t 55]⟩,
    ⟨some 57, some (53, false), ⟨[], []⟩, .not (.t 56)⟩,
    ⟨some 58, none, ⟨[], []⟩, .pick (.t 53) (.k (.bool true)) (.t 57)⟩,
    ⟨some 59, none, ⟨[], []⟩, .mov (.t 58)⟩,
    ⟨some 60, some (59, false), ⟨[], []⟩, .ld false (some 3) 0 0 (.t 11)⟩,
    ⟨some 61, some (59, false), ⟨[], []⟩, .ld false (some 3) 0 0 (.t 13)⟩,
    ⟨some 62, some (59, false), ⟨[], []⟩, .call (some 4) 39 22 [.t 60, .t 61]⟩,
    ⟨some 63, some (59, false), ⟨[], []⟩, .not (.t 62)⟩,
    ⟨some 64, none, ⟨[], []⟩, .pick (.t 59) (.k (.bool true)) (.t 63)⟩] [7, 8, 9, 10, 13, 14, 45, 46, 47, 48, 49, 50, 51, 52, 53, 54, 55, 56, 57, 58, 59, 60, 61, 62, 63] []) (.cond (.t 64) (.seq (.reg false [⟨some 6, none, ⟨[], []⟩, .mov (.k (.bool false))⟩] [3, 11, 12, 64] []) (.ret)) (.skip))) (.seq (.seq (.reg false [⟨some 65, none, ⟨[], []⟩, .mov (.t 12)⟩,
    ⟨some 66, none, ⟨[], []⟩, .bin 0 .neq (.t 65) (.k (.int .i64 0))⟩] [6, 12, 64, 65] []) (.cond (.t 66) (.seq (.reg false [⟨some 67, none, ⟨[], []⟩, .call (some 4) 43 12 []⟩,
    ⟨some 6, none, ⟨[], []⟩, .mov (.t 67)⟩] [3, 11, 66, 67] []) (.ret)) (.skip))) (.seq (.reg false [⟨some 69, none, ⟨[], []⟩, .ld false (some 3) 0 0 (.t 11)⟩,
    ⟨some 70, none, ⟨[], []⟩, .call (some 4) 47 33 [.t 69]⟩,
    ⟨some 68, none, ⟨[], []⟩, .mov (.t 70)⟩,
    ⟨some 71, none, ⟨[], []⟩, .ext (.t 68) 0⟩,
    ⟨some 72, none, ⟨[], []⟩, .ext (.t 68) 1⟩,
    ⟨some 15, none, ⟨[], []⟩, .alloc 51 [.int .i64 0, .int .i64 0, nilSV]⟩,
    ⟨none, none, ⟨[], []⟩, .sto false 3 .i64 (.t 15) (.t 71)⟩,
    ⟨some 8, none, ⟨[], []⟩, .mov (.t 72)⟩] [6, 11, 66, 68, 69, 70, 71, 72] []) (.seq (.reg false [⟨some 73, none, ⟨[], []⟩, .mov (.t 8)⟩,
    ⟨some 74, none, ⟨[], []⟩, .bin 0 .eql (.t 73) (.k (.int .i64 0))⟩,
    ⟨some 75, none, ⟨[], []⟩, .mov (.t 74)⟩,
    ⟨some 76, some (75, true), ⟨[], []⟩, .ld false (some 3) 0 0 (.t 15)⟩,
    ⟨some 77, some (75, true), ⟨[], []⟩, .ld false (some 3) 0 0 (.t 3)⟩,
    ⟨some 78, some (75, true), ⟨[], []⟩, .call (some 4) 52 22 [.t 76, .t 77]⟩,
    ⟨some 79, none, ⟨[], []⟩, .pick (.t 75) (.t 78) (.k (.bool false))⟩,
    ⟨some 80, none, ⟨[], []⟩, .mov (.t 79)⟩,
    ⟨some 81, some (80, true), ⟨[], []⟩, .call (some 4) 56 12 []⟩,
    ⟨some 82, none, ⟨[], []⟩, .pick (.t 80) (.t 81) (.k (.bool false))⟩,
    ⟨some 6, none, ⟨[], []⟩, .mov (.t 82)⟩] [3, 8, 15, 73, 74, 75, 76, 77, 78, 79, 80, 81, 82] []) (.ret))))))))))
theorem comp9 : (Try.f9.body.bind fun c => compC tab isP chkAll ir9 c) = some ir9 := by kernel_rfl
set_option maxRecDepth 512

theorem rowS_const {ys : List Int} {w v X V : Int} {c : Nat} (h : ∀ i : Nat, i < c → rd ys (v * w + (X + i)) = V) : ∀ j : Nat, j ≤ c → rowS ys w v X j = j * V
  | 0, _ => by simp [rowS]
  | j + 1, hj => by
    have := rowS_const h j (by omega)
    simp only [rowS, this, h j (by omega), Int.natCast_add, Int.add_mul, Int.natCast_one, Int.one_mul]
theorem blkS_const {ys : List Int} {w Y X V : Int} {c r : Nat} (h : ∀ a : Nat, a < r → ∀ i : Nat, i < c → rd ys ((Y + a) * w + (X + i)) = V) : ∀ i : Nat, i ≤ r → blkS ys w Y X c i = (i : Int) * c * V
  | 0, _ => by simp [blkS]
  | i + 1, hi => by
    have h1 := blkS_const h i (by omega)
    have h2 := rowS_const (h i (by omega)) c (Nat.le_refl _)
    simp only [blkS, h1, h2, Int.natCast_add, Int.add_mul, Int.natCast_one, Int.one_mul]
theorem meanI_const {n V : Int} (hn : 0 < n) : meanI (n * V) n = V := by
  unfold meanI
  rw [show 2 * (n * V) + n = n + V * (2 * n) by rw [Int.add_comm, ← Int.mul_assoc, Int.mul_comm V], Int.add_mul_ediv_right _ _ (by omega), Int.ediv_eq_zero_of_lt (by omega) (by omega), Int.zero_add]
theorem half_dbl {d : PlD} (H : d.Ok) : (dbl d).Ok ∧ half (dbl d) = d.a.p := by
  obtain ⟨⟨⟨pw, ph, xs⟩, L⟩, w, h⟩ := d
  have e : dbl ⟨⟨⟨pw, ph, xs⟩, L⟩, w, h⟩ = ⟨w, h, tabl (w * h).toNat (dblF w pw xs)⟩ := if_pos H
  rw [e]
  obtain ⟨⟨hs0, hl0, ha0⟩, hs, hw2, hh2⟩ := H
  simp only at hs0 hl0 ha0 hs hw2 hh2
  have hm := hs.bd
  obtain ⟨a1, a2, a3, a4, a5⟩ := id hs
  have hO : (⟨w, h, tabl (w * h).toNat (dblF w pw xs)⟩ : Pl).Ok := by
    refine ⟨hs, by simp only [tabl_length]; omega, ?_⟩
    rw [allIn_rd]
    intro j hj
    simp only [tabl_length] at hj ⊢
    rw [rd_tabl hj]
    exact rd_bd ha0 (by omega) (by omega) _
  refine ⟨hO, ?_⟩
  unfold half
  rw [if_pos hO]
  simp only [← hw2, ← hh2]
  obtain ⟨W, rfl⟩ : ∃ W : Nat, pw = (W : Int) := ⟨pw.toNat, by omega⟩
  obtain ⟨G, rfl⟩ : ∃ W : Nat, ph = (W : Int) := ⟨ph.toNat, by omega⟩
  obtain ⟨w, rfl⟩ : ∃ n : Nat, w = (n : Int) := ⟨w.toNat, by omega⟩
  obtain ⟨h, rfl⟩ : ∃ n : Nat, h = (n : Int) := ⟨h.toNat, by omega⟩
  simp only [Int.toNat_natCast]
  congr 1
  have hl1 : xs.length = G * W := by
    rw [Nat.mul_comm, ← Int.ofNat_inj]; simp only [Int.natCast_mul]; exact hl0
  refine eq_of_rd (by rw [tabl_length, hl1]) fun j hj => ?_
  rw [tabl_length] at hj
  rw [rd_tabl hj]
  have hW : 0 < W := Nat.pos_of_ne_zero fun q => by subst q; simp at hj
  obtain ⟨y, x, rfl, hx, hy⟩ : ∃ y x, j = y * W + x ∧ x < W ∧ y < G := by
    refine ⟨j / W, j % W, ?_, Nat.mod_lt _ hW, Nat.div_lt_of_lt_mul (by rw [Nat.mul_comm]; exact hj)⟩
    rw [Nat.mul_comm]; exact (Nat.div_add_mod _ _).symm
  rw [halfF_at (W := W) (by omega) hx]
  obtain ⟨c, hc⟩ : ∃ c, two x w = c := ⟨_, rfl⟩
  obtain ⟨r, hr⟩ : ∃ c, two y h = c := ⟨_, rfl⟩
  have hc1 : 1 ≤ c ∧ c ≤ 2 ∧ min (2 * (x : Int) + 2) w = 2 * x + c := by unfold two at hc; omega
  have hr1 : 1 ≤ r ∧ r ≤ 2 ∧ min (2 * (y : Int) + 2) h = 2 * y + r := by unfold two at hr; omega
  rw [hc, hr, blkS_const (V := rd xs ((y * W + x : Nat) : Int)) (c := c) (r := r) ?_ r (Nat.le_refl _), meanI_const (Int.mul_pos (by omega) (by omega))]
  intro a ha b hb
  have hu : 2 * x + b < w := by omega
  have hv : 2 * y + a < h := by omega
  have hlt : (2 * y + a) * w + (2 * x + b) < ((w : Int) * h).toNat := by
    have : (2 * y + a + 1) * w ≤ h * w := Nat.mul_le_mul_right _ (by omega)
    rw [Nat.add_mul, Nat.one_mul] at this
    rw [Int.mul_comm, ← Int.natCast_mul, Int.toNat_natCast]
    omega
  have ei : (2 * (y : Int) + a) * w + (2 * x + b) = (((2 * y + a) * w + (2 * x + b) : Nat) : Int) := by simp
  rw [ei, rd_tabl hlt]
  unfold dblF
  rw [(dmI hu).1, (dmI hu).2]
  congr 1
  have e1 : ((2 * y + a : Nat) : Int) / 2 = y := by omega
  have e2 : ((2 * x + b : Nat) : Int) / 2 = x := by omega
  rw [e1, e2]; simp
theorem half_len (p : Pl) (L : Xf.Loc) : (half p).xs.length ≤ 140737488355328 := by
  unfold half
  split
  · rename_i H
    obtain ⟨⟨a1, a2, a3, a4, a5⟩, _, _⟩ := H
    rw [tabl_length]
    have := Nat.mul_le_mul (show ((p.h + 1) / 2).toNat ≤ 100 by omega) (show ((p.w + 1) / 2).toNat ≤ 100 by omega)
    omega
  · exact Nat.zero_le _
theorem dbl_len (d : PlD) : (dbl d).xs.length ≤ 140737488355328 := by
  unfold dbl
  split
  · rename_i H
    have := H.2.1.bd
    simp only [tabl_length]
    omega
  · exact Nat.zero_le _

theorem tri9 (p : Pl) (hp : p.xs.length ≤ 140737488355328) (w h : Int) (L : Xf.Loc) : Tri Try.prog 9 [plV p L 0, .int .i64 w, .int .i64 h]
    [some (.ro, L, .ints .i64 p.xs)] (fun v _ => v = .bool true) := by
  obtain ⟨pw, ph, xs⟩ := p
  change xs.length ≤ 140737488355328 at hp
  have l1 := half_len ⟨pw, ph, xs⟩ L
  have r1 := Pl.Eq.refl (half ⟨pw, ph, xs⟩)
  have l2 := dbl_len ⟨⟨⟨pw, ph, xs⟩, L⟩, w, h⟩
  have r2 := Pl.Eq.refl (dbl ⟨⟨⟨pw, ph, xs⟩, L⟩, w, h⟩)
  have r3 := Pl.Eq.refl ⟨pw, ph, xs⟩
  by_cases hc : (⟨⟨⟨pw, ph, xs⟩, L⟩, w, h⟩ : PlD).Ok
  · obtain ⟨hO, hk⟩ := half_dbl hc
    have hP : (⟨pw, ph, xs⟩ : Pl).Ok := hc.1
    generalize hA : half ⟨pw, ph, xs⟩ = A at l1 r1
    generalize hB : dbl ⟨⟨⟨pw, ph, xs⟩, L⟩, w, h⟩ = B at l2 r2 hO hk
    obtain ⟨aw, ah, axs⟩ := A
    obtain ⟨bw, bh, bxs⟩ := B
    simp only at l1 l2 hk
    change Tri Try.prog 9 [plV ⟨pw, ph, xs⟩ L 0, .int .i64 w, .int .i64 h] [some (.ro, L, .ints .i64 xs)] _
    refine tri_evS (hyp (l := [(12, ent12), (22, ent22), (33, ent33), (34, ent34), (35, ent35), (36, ent36)]) (lp := []) ⟨e12, e22, e33, e34, e35, e36, trivial⟩ trivial) Try.func9 comp9 (rs := [.tmp 6]) (by rfl) Try.ntmps9 60 ?_
    simp -implicitDefEqProofs only [push_cast, false_implies, reduceCtorEq, Classical.not_not, Nat.reduceAdd, Nat.reduceSub, Nat.reduceMul, Nat.reduceLeDiff, Nat.reduceLT, Nat.reduceEqDiff, Nat.reduceBEq, Nat.reduceBNe, Int.reduceNeg, Int.reduceToNat, Bool.or_false, Bool.false_or, Bool.or_true, Bool.true_or, BEq.rfl, Bool.not_eq_true, Bool.not_eq_false, decide_eq_true_eq, not_true_eq_false, not_false_eq_true, ite_true, ite_false, List.append_nil, and_assoc, Nat.mul_zero, Nat.zero_mul, ir9, fs12, fs22, fs33, fs35, hp, hP, hA, hB, l1, l2, r1, r2, r3, hO, hk, hc, if_true]
  · obtain ⟨c, hcc, hc0⟩ : ∃ c : Int, (if (⟨pw, ph, xs⟩ : Pl).Ok then (2 : Int) else 70) = c ∧ ¬ c = 0 := ⟨_, rfl, by split <;> decide⟩
    have hB : dbl ⟨⟨⟨pw, ph, xs⟩, L⟩, w, h⟩ = pl0 := if_neg hc
    have r4 := Pl.Eq.refl pl0
    generalize hA : half ⟨pw, ph, xs⟩ = A at l1 r1
    obtain ⟨aw, ah, axs⟩ := A
    simp only at l1
    change Tri Try.prog 9 [plV ⟨pw, ph, xs⟩ L 0, .int .i64 w, .int .i64 h] [some (.ro, L, .ints .i64 xs)] _
    refine tri_evS (hyp (l := [(12, ent12), (22, ent22), (33, ent33), (34, ent34), (35, ent35), (36, ent36)]) (lp := []) ⟨e12, e22, e33, e34, e35, e36, trivial⟩ trivial) Try.func9 comp9 (rs := [.tmp 6]) (by rfl) Try.ntmps9 60 ?_
    simp -implicitDefEqProofs only [push_cast, false_implies, reduceCtorEq, Classical.not_not, Nat.reduceAdd, Nat.reduceSub, Nat.reduceMul, Nat.reduceLeDiff, Nat.reduceLT, Nat.reduceEqDiff, Nat.reduceBEq, Nat.reduceBNe, Int.reduceNeg, Int.reduceToNat, Bool.or_false, Bool.false_or, Bool.or_true, Bool.true_or, BEq.rfl, Bool.not_eq_true, Bool.not_eq_false, decide_eq_true_eq, not_true_eq_false, not_false_eq_true, ite_true, ite_false, List.append_nil, and_assoc, Nat.mul_zero, Nat.zero_mul, ir9, fs12, fs22, fs33, fs35, hp, hA, hB, l1, r1, r4, hc, hcc, hc0, if_false]
    exact fun _ => Nat.zero_le _
end Go.Proofs.Ytnmbimhcfioeiaa
