import Derived.Test.YtnmbimhcfioeiaaVz
import Derived.Test.YtnmbimhcfioeiaaVg
set_option linter.unusedVariables false
set_option linter.unusedSimpArgs false
/-! The law ColourPaints. -/
namespace Go.Proofs.Ytnmbimhcfioeiaa
open Xf
set_option maxRecDepth 4000
/- incunable/incunablelaw19.ColourPaints : slots 102, labels 10..60 -/
def ir8 : IR :=
  .seq (.reg false [⟨some 1, none, ⟨[], []⟩, .box 10 (.t 0)⟩,
    ⟨some 2, none, ⟨[], []⟩, .mov (.k (.bool false))⟩] [0, 2] []) (.seq (.reg true [⟨some 16, none, ⟨[], []⟩, .fld (.t 1) 0⟩,
    ⟨some 17, none, ⟨[11, 12], []⟩, .ld false (some 5) 0 0 (.t 16)⟩,
    ⟨some 18, none, ⟨[], []⟩, .fld (.t 1) 5⟩,
    ⟨some 19, none, ⟨[11, 12], []⟩, .ld false (some 3) 0 0 (.t 18)⟩,
    ⟨some 20, none, ⟨[], []⟩, .fld (.t 1) 8⟩,
    ⟨some 21, none, ⟨[11, 12], []⟩, .ld false none 0 0 (.t 20)⟩,
    ⟨some 22, none, ⟨[], []⟩, .fld (.t 1) 9⟩,
    ⟨some 23, none, ⟨[11, 12], []⟩, .ld false none 0 0 (.t 22)⟩,
    ⟨some 24, none, ⟨[], []⟩, .fld (.t 1) 10⟩,
    ⟨some 25, none, ⟨[11, 12], []⟩, .ld false none 0 0 (.t 24)⟩,
    ⟨some 26, none, ⟨[], []⟩, .fld (.t 1) 11⟩,
    ⟨some 27, none, ⟨[11, 12], []⟩, .ld false none 0 0 (.t 26)⟩,
    ⟨some 28, none, ⟨[], []⟩, .fld (.t 1) 12⟩,
    ⟨some 29, none, ⟨[11, 12], []⟩, .ld false none 0 0 (.t 28)⟩,
    ⟨some 3, none, ⟨[], []⟩, .alloc 11 [.int .i64 0, .int .i64 0, nilSV, nilSV, nilSV]⟩,
    ⟨some 4, none, ⟨[], []⟩, .alloc 12 [.int .i64 0, .int .i64 0, nilSV]⟩,
    ⟨none, none, ⟨[], [11]⟩, .sto false 5 .i64 (.t 3) (.t 17)⟩,
    ⟨none, none, ⟨[], [12]⟩, .sto false 3 .u8 (.t 4) (.t 19)⟩,
    ⟨some 5, none, ⟨[], []⟩, .mov (.t 21)⟩,
    ⟨some 6, none, ⟨[], []⟩, .mov (.t 23)⟩,
    ⟨some 7, none, ⟨[], []⟩, .mov (.t 25)⟩,
    ⟨some 8, none, ⟨[], []⟩, .mov (.t 27)⟩,
    ⟨some 9, none, ⟨[], []⟩, .mov (.t 29)⟩] [1, 16, 17, 18, 19, 20, 21, 22, 23, 24, 25, 26, 27, 28, 29] []) (.seq (.seq (.reg false [⟨some 30, none, ⟨[], []⟩, .ld false (some 5) 0 0 (.t 3)⟩,
    ⟨some 31, none, ⟨[], []⟩, .call (some 4) 13 11 [.t 30]⟩,
    ⟨some 32, none, ⟨[], []⟩, .mov (.t 31)⟩,
    ⟨some 33, some (32, false), ⟨[], []⟩, .fld (.t 4) 2⟩,
    ⟨some 34, some (32, false), ⟨[], []⟩, .ld false none 0 0 (.t 33)⟩,
    ⟨some 35, some (32, false), ⟨[], []⟩, .len (.t 34)⟩,
    ⟨some 36, some (32, false), ⟨[], []⟩, .bin 0 .gtr (.t 35) (.k (.int .i64 20000))⟩,
    ⟨some 37, none, ⟨[], []⟩, .pick (.t 32) (.k (.bool true)) (.t 36)⟩] [30, 31, 32, 33, 34, 35, 36] []) (.cond (.t 37) (.seq (.reg false [⟨some 38, none, ⟨[], []⟩, .call (some 4) 17 12 []⟩,
    ⟨some 2, none, ⟨[], []⟩, .mov (.t 38)⟩] [3, 4, 5, 6, 7, 8, 9, 37, 38] []) (.ret)) (.skip))) (.seq (.reg false [⟨some 39, none, ⟨[], []⟩, .ld false (some 5) 0 0 (.t 3)⟩,
    ⟨some 40, none, ⟨[], []⟩, .call (some 4) 21 30 [.t 39]⟩,
    ⟨some 10, none, ⟨[], []⟩, .alloc 25 [.int .i64 0, .int .i64 0, nilSV, nilSV, nilSV]⟩,
    ⟨none, none, ⟨[], []⟩, .sto false 5 .i64 (.t 10) (.t 40)⟩] [2, 37, 39, 40] []) (.seq (.reg false [⟨some 42, none, ⟨[], []⟩, .ld false (some 5) 0 0 (.t 3)⟩,
    ⟨some 43, none, ⟨[], []⟩, .ld false (some 3) 0 0 (.t 4)⟩,
    ⟨some 44, none, ⟨[], []⟩, .mov (.t 5)⟩,
    ⟨some 45, none, ⟨[], []⟩, .mov (.t 6)⟩,
    ⟨some 46, none, ⟨[], []⟩, .mov (.t 7)⟩,
    ⟨some 47, none, ⟨[], []⟩, .mov (.t 8)⟩,
    ⟨some 48, none, ⟨[], []⟩, .mov (.t 9)⟩,
    ⟨some 49, none, ⟨[], []⟩, .call (some 4) 26 31 [.t 42, .t 43, .t 44, .t 45, .t 46, .t 47, .t 48]⟩,
    ⟨some 41, none, ⟨[], []⟩, .mov (.t 49)⟩,
    ⟨some 50, none, ⟨[], []⟩, .ext (.t 41) 0⟩,
    ⟨some 51, none, ⟨[], []⟩, .ext (.t 41) 1⟩,
    ⟨some 11, none, ⟨[], []⟩, .alloc 30 [.int .i64 0, .int .i64 0, nilSV, nilSV, nilSV]⟩,
    ⟨none, none, ⟨[], []⟩, .sto false 5 .i64 (.t 11) (.t 50)⟩,
    ⟨some 12, none, ⟨[], []⟩, .mov (.t 51)⟩] [41, 42, 43, 44, 45, 46, 47, 48, 49, 50, 51] []) (.seq (.reg false [⟨some 53, none, ⟨[], []⟩, .ld false (some 5) 0 0 (.t 10)⟩,
    ⟨some 54, none, ⟨[], []⟩, .ld false (some 3) 0 0 (.t 4)⟩,
    ⟨some 55, none, ⟨[], []⟩, .mov (.t 5)⟩,
    ⟨some 56, none, ⟨[], []⟩, .mov (.t 6)⟩,
    ⟨some 57, none, ⟨[], []⟩, .mov (.t 7)⟩,
    ⟨some 58, none, ⟨[], []⟩, .mov (.t 8)⟩,
    ⟨some 59, none, ⟨[], []⟩, .mov (.t 9)⟩,
    ⟨some 60, none, ⟨[], []⟩, .call (some 4) 31 32 [.t 53, .t 54, .t 55, .t 56, .t 57, .t 58, .t 59]⟩,
    ⟨some 52, none, ⟨[], []⟩, .mov (.t 60)⟩,
    ⟨some 61, none, ⟨[], []⟩, .ext (.t 52) 0⟩,
    ⟨some 62, none, ⟨[], []⟩, .ext (.t 52) 1⟩,
    ⟨some 13, none, ⟨[], []⟩, .alloc 35 [.int .i64 0, .int .i64 0, nilSV, nilSV, nilSV]⟩,
    ⟨none, none, ⟨[], []⟩, .sto false 5 .i64 (.t 13) (.t 61)⟩,
    ⟨some 14, none, ⟨[], []⟩, .mov (.t 62)⟩] [52, 53, 54, 55, 56, 57, 58, 59, 60, 61, 62] []) (.seq (.seq (.reg false [⟨some 63, none, ⟨[], []⟩, .mov (.t 12)⟩,
    ⟨some 64, none, ⟨[], []⟩, .mov (.t 14)⟩,
    ⟨some 65, none, ⟨[], []⟩, .bin 0 .neq (.t 63) (.t 64)⟩,
    ⟨some 66, none, ⟨[], []⟩, .mov (.t 65)⟩,
    ⟨some 67, some (66, false), ⟨[], []⟩, .ld false (some 5) 0 0 (.t 11)⟩,
    ⟨some 68, some (66, false), ⟨[], []⟩, .ld false (some 5) 0 0 (.t 13)⟩,
    ⟨some 69, some (66, false), ⟨[], []⟩, .call (some 4) 36 17 [.t 67, .t 68]⟩,
    ⟨some 70, some (66, false), ⟨[], []⟩, .not (.t 69)⟩,
    ⟨some 71, none, ⟨[], []⟩, .pick (.t 66) (.k (.bool true)) (.t 70)⟩,
    ⟨some 72, none, ⟨[], []⟩, .mov (.t 71)⟩,
    ⟨some 73, some (72, false), ⟨[], []⟩, .ld false (some 5) 0 0 (.t 3)⟩,
    ⟨some 74, some (72, false), ⟨[], []⟩, .ld false (some 5) 0 0 (.t 10)⟩,
    ⟨some 75, some (72, false), ⟨[], []⟩, .call (some 4) 40 17 [.t 73, .t 74]⟩,
    ⟨some 76, some (72, false), ⟨[], []⟩, .not (.t 75)⟩,
    ⟨some 77, none, ⟨[], []⟩, .pick (.t 72) (.k (.bool true)) (.t 76)⟩] [3, 10, 13, 14, 63, 64, 65, 66, 67, 68, 69, 70, 71, 72, 73, 74, 75, 76] []) (.cond (.t 77) (.seq (.reg false [⟨some 2, none, ⟨[], []⟩, .mov (.k (.bool false))⟩] [4, 5, 6, 7, 8, 9, 11, 12, 77] []) (.ret)) (.skip))) (.seq (.seq (.reg false [⟨some 78, none, ⟨[], []⟩, .mov (.t 12)⟩,
    ⟨some 79, none, ⟨[], []⟩, .bin 0 .neq (.t 78) (.k (.int .i64 0))⟩] [2, 12, 77, 78] []) (.cond (.t 79) (.seq (.reg false [⟨some 80, none, ⟨[], []⟩, .call (some 4) 44 12 []⟩,
    ⟨some 2, none, ⟨[], []⟩, .mov (.t 80)⟩] [4, 5, 6, 7, 8, 9, 11, 79, 80] []) (.ret)) (.skip))) (.seq (.reg false [⟨some 82, none, ⟨[], []⟩, .ld false (some 5) 0 0 (.t 11)⟩,
    ⟨some 83, none, ⟨[], []⟩, .ld false (some 3) 0 0 (.t 4)⟩,
    ⟨some 84, none, ⟨[], []⟩, .mov (.t 5)⟩,
    ⟨some 85, none, ⟨[], []⟩, .mov (.t 6)⟩,
    ⟨some 86, none, ⟨[], []⟩, .mov (.t 7)⟩,
    ⟨some 87, none, ⟨[], []⟩, .mov (.t 8)⟩,
    ⟨some 88, none, ⟨[], []⟩, .mov (.t 9)⟩,
    ⟨some 89, none, ⟨[], []⟩, .call (some 4) 48 31 [.t 82, .t 83, .t 84, .t 85, .t 86, .t 87, .t 88]⟩,
    ⟨some 81, none, ⟨[], []⟩, .mov (.t 89)⟩,
    ⟨some 90, none, ⟨[], []⟩, .ext (.t 81) 0⟩,
    ⟨some 91, none, ⟨[], []⟩, .ext (.t 81) 1⟩,
    ⟨some 15, none, ⟨[], []⟩, .alloc 52 [.int .i64 0, .int .i64 0, nilSV, nilSV, nilSV]⟩,
    ⟨none, none, ⟨[], []⟩, .sto false 5 .i64 (.t 15) (.t 90)⟩,
    ⟨some 12, none, ⟨[], []⟩, .mov (.t 91)⟩] [2, 4, 5, 6, 7, 8, 9, 79, 81, 82, 83, 84, 85, 86, 87, 88, 89, 90, 91] []) (.seq (.reg false [⟨some 92, none, ⟨[], []⟩, .mov (.t 12)⟩,
    ⟨some 93, none, ⟨[], []⟩, .bin 0 .eql (.t 92) (.k (.int .i64 0))⟩,
    ⟨some 94, none, ⟨[], []⟩, .mov (.t 93)⟩,
    ⟨some 95, some (94, true), ⟨[], []⟩, .ld false (some 5) 0 0 (.t 15)⟩,
    ⟨some 96, some (94, true), ⟨[], []⟩, .ld false (some 5) 0 0 (.t 11)⟩,
    ⟨some 97, some (94, true), ⟨[], []⟩, .call (some 4) 53 17 [.t 95, .t 96]⟩,
    ⟨some 98, none, ⟨[], []⟩, .pick (.t 94) (.t 97) (.k (.bool false))⟩,
    ⟨some 99, none, ⟨[], []⟩, .mov (.t 98)⟩,
    ⟨some 100, some (99, true), ⟨[], []⟩, .call (some 4) 57 12 []⟩,
    ⟨some 101, none, ⟨[], []⟩, .pick (.t 99) (.t 100) (.k (.bool false))⟩,
    ⟨some 2, none, ⟨[], []⟩, .mov (.t 101)⟩] [11, 12, 15, 92, 93, 94, 95, 96, 97, 98, 99, 100, 101] []) (.ret))))))))))
theorem comp8 : (Try.f8.body.bind fun c => compC tab isP chkAll ir8 c) = some ir8 := by kernel_rfl
set_option maxRecDepth 512

theorem paint_twice {P : PaintA} (H : P.Ok) : (paintI P).Ok ∧ ∀ L1 L2 L3, ({ P with a := ⟨paintI P, L1, L2, L3⟩ } : PaintA).Ok ∧ paintI { P with a := ⟨paintI P, L1, L2, L3⟩ } = paintI P := by
  obtain ⟨⟨⟨W, Hh, R, G, B⟩, L1, L2, L3⟩, ⟨⟨bw, bh, xs⟩, L⟩, x, y, r, g, bl⟩ := P
  have e : paintI ⟨⟨⟨W, Hh, R, G, B⟩, L1, L2, L3⟩, ⟨⟨bw, bh, xs⟩, L⟩, x, y, r, g, bl⟩ = ⟨W, Hh, tabl R.length (pntF W ⟨bw, bh, xs⟩ x y R r xs.length), tabl R.length (pntF W ⟨bw, bh, xs⟩ x y G g xs.length), tabl R.length (pntF W ⟨bw, bh, xs⟩ x y B bl xs.length)⟩ := if_pos H
  rw [e]
  obtain ⟨hO, hf⟩ := id H
  obtain ⟨hb, _, _, hr, hg, hbl⟩ := id hf
  obtain ⟨hs, ⟨l1, v1⟩, ⟨l2, v2⟩, ⟨l3, v3⟩⟩ := id hO
  simp only at hs l1 v1 l2 v2 l3 v3 hr hg hbl hb
  have key : ∀ zs c, (zs.length : Int) = W * Hh → AllVal zs → ValOk c → ((tabl R.length (pntF W ⟨bw, bh, xs⟩ x y zs c xs.length)).length : Int) = W * Hh ∧ AllVal (tabl R.length (pntF W ⟨bw, bh, xs⟩ x y zs c xs.length)) := by
    intro zs c hz hv hc
    refine ⟨by rw [tabl_length]; exact l1, ?_⟩
    rw [allVal_rd]
    intro j hj
    rw [tabl_length] at hj
    rw [rd_tabl hj]
    unfold pntF
    split
    · exact hc
    · exact allVal_rd.1 hv j (by omega)
  have hO2 : (⟨W, Hh, tabl R.length (pntF W ⟨bw, bh, xs⟩ x y R r xs.length), tabl R.length (pntF W ⟨bw, bh, xs⟩ x y G g xs.length), tabl R.length (pntF W ⟨bw, bh, xs⟩ x y B bl xs.length)⟩ : Im).Ok :=
    ⟨hs, key R r l1 v1 hr, key G g l2 v2 hg, key B bl l3 v3 hbl⟩
  refine ⟨hO2, fun M1 M2 M3 => ?_⟩
  have e2 : (⟨⟨⟨W, Hh, tabl R.length (pntF W ⟨bw, bh, xs⟩ x y R r xs.length), tabl R.length (pntF W ⟨bw, bh, xs⟩ x y G g xs.length), tabl R.length (pntF W ⟨bw, bh, xs⟩ x y B bl xs.length)⟩, M1, M2, M3⟩, ⟨⟨bw, bh, xs⟩, L⟩, x, y, r, g, bl⟩ : PaintA).Ok := ⟨hO2, hf⟩
  refine ⟨e2, ?_⟩
  unfold paintI
  rw [if_pos e2]
  unfold pntL
  simp only [tabl_length]
  have twice : ∀ zs c, tabl R.length (pntF W ⟨bw, bh, xs⟩ x y (tabl R.length (pntF W ⟨bw, bh, xs⟩ x y zs c xs.length)) c xs.length) = tabl R.length (pntF W ⟨bw, bh, xs⟩ x y zs c xs.length) := by
    intro zs c
    refine tabl_congr fun j hj => ?_
    rw [pntF]
    split
    · rename_i q; unfold pntF; rw [if_pos q]
    · rw [rd_tabl hj]
  rw [twice, twice, twice]
theorem paintI_small {P : PaintA} (h : P.a.i.small) : (paintI P).small := by
  unfold paintI
  split
  · refine ⟨?_, ?_, ?_⟩ <;> simp only [pntL, tabl_length] <;> exact h.1
  · exact ⟨by decide, by decide, by decide⟩
theorem wf_u8 {xs : List Int} (h : Xf.wfAll .u8 xs) : ∀ n, n ∈ xs → 0 ≤ n := fun n hn => by
  have := h n hn
  simp only [Lit.wf, Bool.and_eq_true, decide_eq_true_eq] at this
  exact Int.le_trans (by decide) this.1
theorem tri8 (i : Im) (hi : i.small) (b : Bm) (hb : b.xs.length ≤ 140737488355328) (hb0 : ∀ n, n ∈ b.xs → 0 ≤ n) (x y r g bl : Int) (L1 L2 L3 L : Xf.Loc) :
    Tri Try.prog 8 [.agg [.int .i64 i.w, .int .i64 i.h, .sl 0 L1 1 0 i.R.length, .sl 1 L2 1 0 i.G.length, .sl 2 L3 1 0 i.B.length, .int .i64 b.w, .int .i64 b.h, .sl 3 L 1 0 b.xs.length, .int .i64 x, .int .i64 y, .int .i64 r, .int .i64 g, .int .i64 bl]]
    [some (.ro, L1, .ints .i64 i.R), some (.ro, L2, .ints .i64 i.G), some (.ro, L3, .ints .i64 i.B), some (.ro, L, .ints .u8 b.xs)] (fun v _ => v = .bool true) := by
  obtain ⟨W, H, R, G, B⟩ := i
  obtain ⟨bw, bh, xs⟩ := b
  have hi2 := hi
  simp only at hb hb0
  have hr0 := Im.Eq.refl ⟨W, H, R, G, B⟩
  by_cases hc : (⟨⟨⟨W, H, R, G, B⟩, L1, L2, L3⟩, ⟨⟨bw, bh, xs⟩, L⟩, x, y, r, g, bl⟩ : PaintA).Ok
  · obtain ⟨c1, c2⟩ := paint_twice hc
    have hsm := paintI_small (P := ⟨⟨⟨W, H, R, G, B⟩, L1, L2, L3⟩, ⟨⟨bw, bh, xs⟩, L⟩, x, y, r, g, bl⟩) hi2
    have hr := Im.Eq.refl (paintI ⟨⟨⟨W, H, R, G, B⟩, L1, L2, L3⟩, ⟨⟨bw, bh, xs⟩, L⟩, x, y, r, g, bl⟩)
    have k0 : ∀ M1 M2 M3, (⟨⟨⟨W, H, R, G, B⟩, M1, M2, M3⟩, ⟨⟨bw, bh, xs⟩, L⟩, x, y, r, g, bl⟩ : PaintA).Ok := fun _ _ _ => hc
    have k3 : ∀ M1 M2 M3, paintI ⟨⟨⟨W, H, R, G, B⟩, M1, M2, M3⟩, ⟨⟨bw, bh, xs⟩, L⟩, x, y, r, g, bl⟩ = paintI ⟨⟨⟨W, H, R, G, B⟩, L1, L2, L3⟩, ⟨⟨bw, bh, xs⟩, L⟩, x, y, r, g, bl⟩ := fun _ _ _ => by
      unfold paintI; rw [if_pos hc, if_pos (k0 _ _ _)]; rfl
    generalize hC : paintI ⟨⟨⟨W, H, R, G, B⟩, L1, L2, L3⟩, ⟨⟨bw, bh, xs⟩, L⟩, x, y, r, g, bl⟩ = C at c1 c2 hsm hr k3
    have k1 : ∀ M1 M2 M3, (⟨⟨C, M1, M2, M3⟩, ⟨⟨bw, bh, xs⟩, L⟩, x, y, r, g, bl⟩ : PaintA).Ok := fun _ _ _ => (c2 _ _ _).1
    have k2 : ∀ M1 M2 M3, paintI ⟨⟨C, M1, M2, M3⟩, ⟨⟨bw, bh, xs⟩, L⟩, x, y, r, g, bl⟩ = C := fun _ _ _ => (c2 _ _ _).2
    obtain ⟨cw, ch, cR, cG, cB⟩ := C
    refine tri_evS (hyp (l := [(11, ent11), (12, ent12), (17, ent17), (30, ent30), (31, ent31), (32, ent32)]) (lp := []) ⟨e11, e12, e17, e30, e31, e32, trivial⟩ trivial) Try.func8 comp8 (rs := [.tmp 2]) (by rfl) Try.ntmps8 61 ?_
    simp -implicitDefEqProofs only [push_cast, false_implies, reduceCtorEq, Classical.not_not, Nat.reduceAdd, Nat.reduceSub, Nat.reduceMul, Nat.reduceLeDiff, Nat.reduceLT, Nat.reduceEqDiff, Nat.reduceBEq, Nat.reduceBNe, Int.reduceNeg, Int.reduceToNat, Bool.or_false, Bool.false_or, Bool.or_true, Bool.true_or, BEq.rfl, Bool.not_eq_true, Bool.not_eq_false, decide_eq_true_eq, not_true_eq_false, not_false_eq_true, ite_true, ite_false, List.append_nil, and_assoc, Nat.mul_zero, Nat.zero_mul, ir8, fs11, fs15, fs12, fs17, fs59, fs31, hi2, hb, k0, k1, k2, k3, hsm, hr, hr0, if_true]
    exact fun q => ⟨by omega, by omega, by omega, hb0⟩
  · have hsm : im0.small := ⟨by decide, by decide, by decide⟩
    have hr := Im.Eq.refl im0
    have k0 : ∀ M1 M2 M3, ¬ (⟨⟨⟨W, H, R, G, B⟩, M1, M2, M3⟩, ⟨⟨bw, bh, xs⟩, L⟩, x, y, r, g, bl⟩ : PaintA).Ok := fun _ _ _ => hc
    have k3 : ∀ M1 M2 M3, paintI ⟨⟨⟨W, H, R, G, B⟩, M1, M2, M3⟩, ⟨⟨bw, bh, xs⟩, L⟩, x, y, r, g, bl⟩ = im0 := fun _ _ _ => if_neg (k0 _ _ _)
    obtain ⟨c, hcc, hc0⟩ : ∃ c : Int, (if (⟨W, H, R, G, B⟩ : Im).Ok then (2 : Int) else 75) = c ∧ ¬ c = 0 := ⟨_, rfl, by split <;> decide⟩
    refine tri_evS (hyp (l := [(11, ent11), (12, ent12), (17, ent17), (30, ent30), (31, ent31), (32, ent32)]) (lp := []) ⟨e11, e12, e17, e30, e31, e32, trivial⟩ trivial) Try.func8 comp8 (rs := [.tmp 2]) (by rfl) Try.ntmps8 61 ?_
    simp -implicitDefEqProofs only [push_cast, false_implies, reduceCtorEq, Classical.not_not, Nat.reduceAdd, Nat.reduceSub, Nat.reduceMul, Nat.reduceLeDiff, Nat.reduceLT, Nat.reduceEqDiff, Nat.reduceBEq, Nat.reduceBNe, Int.reduceNeg, Int.reduceToNat, Bool.or_false, Bool.false_or, Bool.or_true, Bool.true_or, BEq.rfl, Bool.not_eq_true, Bool.not_eq_false, decide_eq_true_eq, not_true_eq_false, not_false_eq_true, ite_true, ite_false, List.append_nil, and_assoc, Nat.mul_zero, Nat.zero_mul, ir8, fs11, fs15, fs12, fs17, fs59, fs31, hi2, hb, k0, k3, hcc, hc0, hsm, hr, hr0, if_false]
    exact fun q => ⟨by omega, by omega, by omega, hb0⟩
end Go.Proofs.Ytnmbimhcfioeiaa
