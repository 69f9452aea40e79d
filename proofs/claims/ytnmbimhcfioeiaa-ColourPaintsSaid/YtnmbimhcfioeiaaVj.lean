import Derived.Test.YtnmbimhcfioeiaaVi
set_option linter.unusedVariables false
set_option linter.unusedSimpArgs false
/-! The reference's Cut. -/
namespace Go.Proofs.Ytnmbimhcfioeiaa
open Xf
set_option maxRecDepth 4000
/- incunable/incunableref19.Cut : slots 119, labels 10..22; loop b19_1 keeps [1, 2, 3, 4, 5, 10, 12, 13]; loop b19_2 keeps [1, 2, 3, 4, 5, 10, 12, 13, 14] -/
def b19_2 : IR :=
  .seq (.seq (.reg false [⟨some 75, none, ⟨[], []⟩, .mov (.t 14)⟩,
    ⟨some 76, none, ⟨[], []⟩, .mov (.t 1)⟩,
    ⟨some 77, none, ⟨[], []⟩, .mov (.t 3)⟩,
    ⟨some 78, none, ⟨[], []⟩, .bin 0 .add (.t 76) (.t 77)⟩,
    ⟨some 79, none, ⟨[], []⟩, .bin 0 .lss (.t 75) (.t 78)⟩] [75, 76, 77, 78] []) (.cond (.t 79) (.skip) (.exit 2))) (.seq (.block 3 (.seq (.reg false [⟨some 82, none, ⟨[], []⟩, .mov (.t 13)⟩,
    ⟨some 83, none, ⟨[], []⟩, .fld (.t 5) 0⟩,
    ⟨some 84, none, ⟨[], []⟩, .ld false none 0 0 (.t 83)⟩,
    ⟨some 85, none, ⟨[], []⟩, .bin 0 .mul (.t 82) (.t 84)⟩,
    ⟨some 86, none, ⟨[], []⟩, .mov (.t 14)⟩,
    ⟨some 87, none, ⟨[], []⟩, .bin 0 .add (.t 85) (.t 86)⟩,
    ⟨some 15, none, ⟨[], []⟩, .mov (.t 87)⟩] [79, 82, 83, 84, 85, 86, 87] []) (.reg true [⟨some 88, none, ⟨[], []⟩, .fld (.t 12) 2⟩,
    ⟨some 89, none, ⟨[17, 19, 21], []⟩, .ld false none 0 0 (.t 88)⟩,
    ⟨some 90, none, ⟨[], []⟩, .fld (.t 5) 2⟩,
    ⟨some 91, none, ⟨[19, 21], []⟩, .ld false none 0 0 (.t 90)⟩,
    ⟨some 92, none, ⟨[], []⟩, .mov (.t 15)⟩,
    ⟨some 93, none, ⟨[], []⟩, .idxS (.t 91) (.t 92) 1⟩,
    ⟨some 94, none, ⟨[19, 21], []⟩, .ld true none 0 0 (.t 93)⟩,
    ⟨some 95, none, ⟨[], []⟩, .bslice 17 [.t 94]⟩,
    ⟨some 96, none, ⟨[0, 1, 2, 3, 4, 5, 6, 7, 8, 9, 19, 21], []⟩, .app 18 1 8 (.t 89) (.t 95)⟩,
    ⟨some 97, none, ⟨[], []⟩, .fld (.t 12) 3⟩,
    ⟨some 98, none, ⟨[17, 18, 19, 21], []⟩, .ld false none 0 0 (.t 97)⟩,
    ⟨some 99, none, ⟨[], []⟩, .fld (.t 5) 3⟩,
    ⟨some 100, none, ⟨[17, 18, 21], []⟩, .ld false none 0 0 (.t 99)⟩,
    ⟨some 101, none, ⟨[], []⟩, .mov (.t 15)⟩,
    ⟨some 102, none, ⟨[], []⟩, .idxS (.t 100) (.t 101) 1⟩,
    ⟨some 103, none, ⟨[17, 18, 21], [0, 1, 2, 3, 4, 5, 6, 7, 8, 9]⟩, .ld true none 0 0 (.t 102)⟩,
    ⟨some 104, none, ⟨[], []⟩, .bslice 19 [.t 103]⟩,
    ⟨some 105, none, ⟨[0, 1, 2, 3, 4, 5, 6, 7, 8, 9, 21], []⟩, .app 20 1 8 (.t 98) (.t 104)⟩,
    ⟨some 106, none, ⟨[], []⟩, .fld (.t 12) 4⟩,
    ⟨some 107, none, ⟨[17, 18, 19, 20, 21], []⟩, .ld false none 0 0 (.t 106)⟩,
    ⟨some 108, none, ⟨[], []⟩, .fld (.t 5) 4⟩,
    ⟨some 109, none, ⟨[17, 18, 19, 20], []⟩, .ld false none 0 0 (.t 108)⟩,
    ⟨some 110, none, ⟨[], []⟩, .mov (.t 15)⟩,
    ⟨some 111, none, ⟨[], []⟩, .idxS (.t 109) (.t 110) 1⟩,
    ⟨some 112, none, ⟨[17, 18, 19, 20], [0, 1, 2, 3, 4, 5, 6, 7, 8, 9]⟩, .ld true none 0 0 (.t 111)⟩,
    ⟨some 113, none, ⟨[], []⟩, .bslice 21 [.t 112]⟩,
    ⟨some 114, none, ⟨[], []⟩, .app 22 1 8 (.t 107) (.t 113)⟩,
    ⟨some 115, none, ⟨[], []⟩, .fld (.t 12) 2⟩,
    ⟨none, none, ⟨[], []⟩, .sto false 1 .i64 (.t 115) (.t 96)⟩,
    ⟨some 116, none, ⟨[], []⟩, .fld (.t 12) 3⟩,
    ⟨none, none, ⟨[], []⟩, .sto false 1 .i64 (.t 116) (.t 105)⟩,
    ⟨some 117, none, ⟨[], []⟩, .fld (.t 12) 4⟩,
    ⟨none, none, ⟨[], []⟩, .sto false 1 .i64 (.t 117) (.t 114)⟩] [15, 88, 89, 90, 91, 92, 93, 94, 95, 96, 97, 98, 99, 100, 101, 102, 103, 104, 105, 106, 107, 108, 109, 110, 111, 112, 113, 114, 115, 116, 117] []))) (.reg false [⟨some 80, none, ⟨[], []⟩, .mov (.t 14)⟩,
    ⟨some 81, none, ⟨[], []⟩, .bin 0 .add (.t 80) (.k (.int .i64 1))⟩,
    ⟨some 14, none, ⟨[], []⟩, .mov (.t 81)⟩] [80, 81] []))
def r19_3 : IR :=
  .reg false [⟨some 72, none, ⟨[], []⟩, .mov (.t 13)⟩,
    ⟨some 73, none, ⟨[], []⟩, .bin 0 .add (.t 72) (.k (.int .i64 1))⟩,
    ⟨some 13, none, ⟨[], []⟩, .mov (.t 73)⟩] [14, 72, 73] []
def b19_1 : IR :=
  .seq (.seq (.reg false [⟨some 67, none, ⟨[], []⟩, .mov (.t 13)⟩,
    ⟨some 68, none, ⟨[], []⟩, .mov (.t 2)⟩,
    ⟨some 69, none, ⟨[], []⟩, .mov (.t 4)⟩,
    ⟨some 70, none, ⟨[], []⟩, .bin 0 .add (.t 68) (.t 69)⟩,
    ⟨some 71, none, ⟨[], []⟩, .bin 0 .lss (.t 67) (.t 70)⟩] [67, 68, 69, 70] []) (.cond (.t 71) (.skip) (.exit 0))) (.seq (.block 1 (.seq (.reg false [⟨some 74, none, ⟨[], []⟩, .mov (.t 1)⟩,
    ⟨some 14, none, ⟨[], []⟩, .mov (.t 74)⟩] [71, 74] []) (.block 2 (.loop b19_2)))) (r19_3))
def r19_4 : IR :=
  .seq (.reg false [⟨some 118, none, ⟨[], []⟩, .ld false (some 5) 0 0 (.t 12)⟩,
    ⟨none, none, ⟨[], []⟩, .sto false 5 .i64 (.t 10) (.t 118)⟩,
    ⟨some 11, none, ⟨[], []⟩, .mov (.k (.int .i64 0))⟩] [1, 2, 3, 4, 5, 12, 13, 118] []) (.ret)
def ir19 : IR :=
  .seq (.reg false [⟨some 5, none, ⟨[], []⟩, .box 10 (.t 0)⟩,
    ⟨some 10, none, ⟨[], []⟩, .alloc 11 [.int .i64 0, .int .i64 0, nilSV, nilSV, nilSV]⟩,
    ⟨some 11, none, ⟨[], []⟩, .mov (.k (.int .i64 0))⟩] [0, 11] []) (.seq (.seq (.reg false [⟨some 16, none, ⟨[], []⟩, .ld false (some 5) 0 0 (.t 5)⟩,
    ⟨some 17, none, ⟨[], []⟩, .call (some 4) 12 16 [.t 16]⟩,
    ⟨some 18, none, ⟨[], []⟩, .not (.t 17)⟩] [16, 17] []) (.cond (.t 18) (.seq (.reg false [⟨some 19, none, ⟨[], []⟩, .build [.int .i64 0, .int .i64 0, nilSV, nilSV, nilSV] []⟩,
    ⟨none, none, ⟨[], []⟩, .sto false 5 .i64 (.t 10) (.t 19)⟩,
    ⟨some 11, none, ⟨[], []⟩, .mov (.k (.int .i64 75))⟩] [1, 2, 3, 4, 5, 18, 19] []) (.ret)) (.skip))) (.seq (.seq (.reg false [⟨some 20, none, ⟨[], []⟩, .mov (.t 1)⟩,
    ⟨some 21, none, ⟨[], []⟩, .bin 0 .lss (.t 20) (.k (.int .i64 0))⟩,
    ⟨some 22, none, ⟨[], []⟩, .mov (.t 21)⟩,
    ⟨some 23, some (22, false), ⟨[], []⟩, .mov (.t 2)⟩,
    ⟨some 24, some (22, false), ⟨[], []⟩, .bin 0 .lss (.t 23) (.k (.int .i64 0))⟩,
    ⟨some 25, none, ⟨[], []⟩, .pick (.t 22) (.k (.bool true)) (.t 24)⟩,
    ⟨some 26, none, ⟨[], []⟩, .mov (.t 25)⟩,
    ⟨some 27, some (26, false), ⟨[], []⟩, .mov (.t 3)⟩,
    ⟨some 28, some (26, false), ⟨[], []⟩, .bin 0 .lss (.t 27) (.k (.int .i64 0))⟩,
    ⟨some 29, none, ⟨[], []⟩, .pick (.t 26) (.k (.bool true)) (.t 28)⟩,
    ⟨some 30, none, ⟨[], []⟩, .mov (.t 29)⟩,
    ⟨some 31, some (30, false), ⟨[], []⟩, .mov (.t 4)⟩,
    ⟨some 32, some (30, false), ⟨[], []⟩, .bin 0 .lss (.t 31) (.k (.int .i64 0))⟩,
    ⟨some 33, none, ⟨[], []⟩, .pick (.t 30) (.k (.bool true)) (.t 32)⟩,
    ⟨some 34, none, ⟨[], []⟩, .mov (.t 33)⟩,
    ⟨some 35, some (34, false), ⟨[], []⟩, .mov (.t 3)⟩,
    ⟨some 36, some (34, false), ⟨[], []⟩, .fld (.t 5) 0⟩,
    ⟨some 37, some (34, false), ⟨[], []⟩, .ld false none 0 0 (.t 36)⟩,
    ⟨some 38, some (34, false), ⟨[], []⟩, .bin 0 .gtr (.t 35) (.t 37)⟩,
    ⟨some 39, none, ⟨[], []⟩, .pick (.t 34) (.k (.bool true)) (.t 38)⟩,
    ⟨some 40, none, ⟨[], []⟩, .mov (.t 39)⟩,
    ⟨some 41, some (40, false), ⟨[], []⟩, .mov (.t 4)⟩,
    ⟨some 42, some (40, false), ⟨[], []⟩, .fld (.t 5) 1⟩,
    ⟨some 43, some (40, false), ⟨[], []⟩, .ld false none 0 0 (.t 42)⟩,
    ⟨some 44, some (40, false), ⟨[], []⟩, .bin 0 .gtr (.t 41) (.t 43)⟩,
    ⟨some 45, none, ⟨[], []⟩, .pick (.t 40) (.k (.bool true)) (.t 44)⟩,
    ⟨some 46, none, ⟨[], []⟩, .mov (.t 45)⟩,
    ⟨some 47, some (46, false), ⟨[], []⟩, .mov (.t 1)⟩,
    ⟨some 48, some (46, false), ⟨[], []⟩, .fld (.t 5) 0⟩,
    ⟨some 49, some (46, false), ⟨[], []⟩, .ld false none 0 0 (.t 48)⟩,
    ⟨some 50, some (46, false), ⟨[], []⟩, .mov (.t 3)⟩,
    ⟨some 51, some (46, false), ⟨[], []⟩, .bin 0 .sub (.t 49) (.t 50)⟩,
    ⟨some 52, some (46, false), ⟨[], []⟩, .bin 0 .gtr (.t 47) (.t 51)⟩,
    ⟨some 53, none, ⟨[], []⟩, .pick (.t 46) (.k (.bool true)) (.t 52)⟩,
    ⟨some 54, none, ⟨[], []⟩, .mov (.t 53)⟩,
    ⟨some 55, some (54, false), ⟨[], []⟩, .mov (.t 2)⟩,
    ⟨some 56, some (54, false), ⟨[], []⟩, .fld (.t 5) 1⟩,
    ⟨some 57, some (54, false), ⟨[], []⟩, .ld false none 0 0 (.t 56)⟩,
    ⟨some 58, some (54, false), ⟨[], []⟩, .mov (.t 4)⟩,
    ⟨some 59, some (54, false), ⟨[], []⟩, .bin 0 .sub (.t 57) (.t 58)⟩,
    ⟨some 60, some (54, false), ⟨[], []⟩, .bin 0 .gtr (.t 55) (.t 59)⟩,
    ⟨some 61, none, ⟨[], []⟩, .pick (.t 54) (.k (.bool true)) (.t 60)⟩] [11, 18, 20, 21, 22, 23, 24, 25, 26, 27, 28, 29, 30, 31, 32, 33, 34, 35, 36, 37, 38, 39, 40, 41, 42, 43, 44, 45, 46, 47, 48, 49, 50, 51, 52, 53, 54, 55, 56, 57, 58, 59, 60] []) (.cond (.t 61) (.seq (.reg false [⟨some 62, none, ⟨[], []⟩, .build [.int .i64 0, .int .i64 0, nilSV, nilSV, nilSV] []⟩,
    ⟨none, none, ⟨[], []⟩, .sto false 5 .i64 (.t 10) (.t 62)⟩,
    ⟨some 11, none, ⟨[], []⟩, .mov (.k (.int .i64 2))⟩] [1, 2, 3, 4, 5, 61, 62] []) (.ret)) (.skip))) (.seq (.reg false [⟨some 63, none, ⟨[], []⟩, .mov (.t 3)⟩,
    ⟨some 64, none, ⟨[], []⟩, .mov (.t 4)⟩,
    ⟨some 65, none, ⟨[], []⟩, .build [.int .i64 0, .int .i64 0, nilSV, nilSV, nilSV] [(0, 1, .t 63), (1, 1, .t 64)]⟩,
    ⟨some 12, none, ⟨[], []⟩, .alloc 16 [.int .i64 0, .int .i64 0, nilSV, nilSV, nilSV]⟩,
    ⟨none, none, ⟨[], []⟩, .sto false 5 .i64 (.t 12) (.t 65)⟩] [11, 61, 63, 64, 65] []) (.seq (.seq (.reg false [⟨some 66, none, ⟨[], []⟩, .mov (.t 2)⟩,
    ⟨some 13, none, ⟨[], []⟩, .mov (.t 66)⟩] [66] []) (.block 0 (.loop b19_1))) (r19_4)))))
def kp19_2 : List Nat := [1, 2, 3, 4, 5, 10, 12, 13, 14]
def kl19_2 : List Nat := [17, 18, 19, 20, 21, 22]
attribute [push_cast] kp19_2 kl19_2
def kp19_1 : List Nat := [1, 2, 3, 4, 5, 10, 12, 13]
def kl19_1 : List Nat := [17, 18, 19, 20, 21, 22]
attribute [push_cast] kp19_1 kl19_1
theorem comp19 : (Try.f19.body.bind fun c => compC tab isP chkAll ir19 c) = some ir19 := by kernel_rfl
set_option maxRecDepth 512

theorem cutF_at {W x y : Int} {xs : List Int} {w v u : Nat} (hu : u < w) : cutF W x y (w : Int) xs (v * w + u) = rd xs ((y + v) * W + (x + u)) := by
  unfold cutF
  have e1 : (((v * w + u : Nat) : Int)) / (w : Int) = v := by
    rw [← Int.natCast_ediv]
    congr 1
    rw [Nat.mul_comm, Nat.mul_add_div (by omega), Nat.div_eq_of_lt hu, Nat.add_zero]
  have e2 : (((v * w + u : Nat) : Int)) % (w : Int) = u := by
    rw [← Int.natCast_emod]
    congr 1
    rw [Nat.mul_comm, Nat.mul_add_mod, Nat.mod_eq_of_lt hu]
  rw [e1, e2, Int.add_assoc]
abbrev L3T := Nat × Xf.Loc × Xf.Loc × Xf.Loc
def M19 (c : CutA) (L0 M0 M1 N1 N2 N3 : Xf.Loc) (n : Nat) : Mem :=
  mkM 33 [(0, .ro, c.a.L1, .ints .i64 c.a.i.R), (1, .ro, c.a.L2, .ints .i64 c.a.i.G), (2, .ro, c.a.L3, .ints .i64 c.a.i.B), (10, .mine, L0, .cells [.int .i64 c.a.i.w, .int .i64 c.a.i.h, .sl 0 c.a.L1 1 0 c.a.i.R.length, .sl 1 c.a.L2 1 0 c.a.i.G.length, .sl 2 c.a.L3 1 0 c.a.i.B.length]),
      (11, .mine, M0, .cells [.int .i64 0, .int .i64 0, nilSV, nilSV, nilSV]), (16, .mine, M1, .cells [.int .i64 c.w, .int .i64 c.h, .sl 18 N1 1 0 n, .sl 20 N2 1 0 n, .sl 22 N3 1 0 n]),
      (18, .mine, N1, .ints .i64 (tabl n (cutF c.a.i.w c.x c.y c.w c.a.i.R))), (20, .mine, N2, .ints .i64 (tabl n (cutF c.a.i.w c.x c.y c.w c.a.i.G))), (22, .mine, N3, .ints .i64 (tabl n (cutF c.a.i.w c.x c.y c.w c.a.i.B)))]
def S19 (c : CutA) (L0 M0 M1 : Xf.Loc) (v : Int) : List (Nat × SV) := [(1, .int .i64 c.x), (2, .int .i64 c.y), (3, .int .i64 c.w), (4, .int .i64 c.h), (5, .ptr 10 L0 0 0 0), (10, .ptr 11 M0 0 0 0), (12, .ptr 16 M1 0 0 0), (13, .int .i64 v)]
def lp19 (c : CutA) (L0 M0 M1 : Xf.Loc) : LoopS where
  A := L3T
  I := fun i => (mkS 119 (S19 c L0 M0 M1 (c.y + i.1)), M19 c L0 M0 M1 i.2.1 i.2.2.1 i.2.2.2 (i.1 * c.w.toNat))
  R := fun i => i.1 ≤ c.h.toNat
  mu := fun i => c.h.toNat - i.1
def lp19b (c : CutA) (L0 M0 M1 : Xf.Loc) (v : Nat) : LoopS where
  A := L3T
  I := fun i => (mkS 119 ((14, .int .i64 (c.x + i.1)) :: S19 c L0 M0 M1 (c.y + v)), M19 c L0 M0 M1 i.2.1 i.2.2.1 i.2.2.2 (v * c.w.toNat + i.1))
  R := fun i => i.1 ≤ c.w.toNat
  mu := fun i => c.w.toNat - i.1
theorem ok19 : FSOk Try.prog 19 fs18 := by
  refine ⟨⟨_, Try.func19, by kernel_rfl, by kernel_rfl⟩, fun a => ⟨by simp [fs18, imM, push_cast, noMine, argOwn, Chunk.frArg], by simp [fs18, imM, push_cast, outOk, Chunk.ext], fun x => .inl (by simp [fs18, imM, push_cast, frNew, frOut, Chunk.fr])⟩, fun a hp => ?_⟩
  obtain ⟨⟨⟨W, H, R, G, B⟩, L1, L2, L3⟩, x, y, w, h⟩ := a
  change (⟨W, H, R, G, B⟩ : Im).small at hp
  change Tri Try.prog 19 [imV ⟨W, H, R, G, B⟩ L1 L2 L3 0, .int .i64 x, .int .i64 y, .int .i64 w, .int .i64 h] (imM ⟨W, H, R, G, B⟩ L1 L2 L3) (postF fs18 ⟨⟨⟨W, H, R, G, B⟩, L1, L2, L3⟩, x, y, w, h⟩)
  refine tri_evS (hyp (l := [(16, ent16)]) (lp := []) ⟨e16, trivial⟩ trivial) Try.func19 comp19 (rs := [.cell 10 (some 5), .tmp 11]) (by rfl) Try.ntmps19 30 ?_
  simp -implicitDefEqProofs only [push_cast, false_implies, reduceCtorEq, Classical.not_not, Nat.reduceAdd, Nat.reduceSub, Nat.reduceMul, Nat.reduceLeDiff, Nat.reduceLT, Nat.reduceEqDiff, Nat.reduceBEq, Nat.reduceBNe, Int.reduceNeg, Int.reduceToNat, Bool.or_false, Bool.false_or, Bool.or_true, Bool.true_or, BEq.rfl, Bool.not_eq_true, Bool.not_eq_false, decide_eq_true_eq, not_true_eq_false, not_false_eq_true, ite_true, ite_false, List.append_nil, and_assoc, Nat.mul_zero, Nat.zero_mul, ir19, fs15]
  intro X
  refine ⟨hp, fun hn => ?_, fun hy => ⟨fun q => ?_, fun q => ?_, fun hb => ?_, fun hg X1 => ?_⟩⟩
  · have e : ¬ (⟨⟨⟨W, H, R, G, B⟩, L1, L2, L3⟩, x, y, w, h⟩ : CutA).Ok := fun H => hn H.1
    refine postF.mk' (fun _ => default) [some 0, some 1, some 2, none, none, none] ?_
    simp -implicitDefEqProofs only [push_cast, false_implies, reduceCtorEq, Classical.not_not, Nat.reduceAdd, Nat.reduceSub, Nat.reduceMul, Nat.reduceLeDiff, Nat.reduceLT, Nat.reduceEqDiff, Nat.reduceBEq, Nat.reduceBNe, Int.reduceNeg, Int.reduceToNat, Bool.or_false, Bool.false_or, Bool.or_true, Bool.true_or, BEq.rfl, Bool.not_eq_true, Bool.not_eq_false, decide_eq_true_eq, not_true_eq_false, not_false_eq_true, ite_true, ite_false, List.append_nil, and_assoc, Nat.mul_zero, Nat.zero_mul, fs18, cutI, e, hn, if_false, lx, im0]
  · obtain ⟨a1, a2, a3, a4, _⟩ : SidesOk W H := hy.1
    exact ⟨q, q, by omega, by omega⟩
  · obtain ⟨a1, a2, a3, a4, _⟩ : SidesOk W H := hy.1
    exact ⟨q, q, by omega, by omega⟩
  · have e : ¬ (⟨⟨⟨W, H, R, G, B⟩, L1, L2, L3⟩, x, y, w, h⟩ : CutA).Ok := fun H => by
      obtain ⟨_, a, b, c, d, e, f⟩ := H
      simp only at a b c d e f
      omega
    refine postF.mk' (fun _ => default) [some 0, some 1, some 2, none, none, none] ?_
    simp -implicitDefEqProofs only [push_cast, false_implies, reduceCtorEq, Classical.not_not, Nat.reduceAdd, Nat.reduceSub, Nat.reduceMul, Nat.reduceLeDiff, Nat.reduceLT, Nat.reduceEqDiff, Nat.reduceBEq, Nat.reduceBNe, Int.reduceNeg, Int.reduceToNat, Bool.or_false, Bool.false_or, Bool.or_true, Bool.true_or, BEq.rfl, Bool.not_eq_true, Bool.not_eq_false, decide_eq_true_eq, not_true_eq_false, not_false_eq_true, ite_true, ite_false, List.append_nil, and_assoc, Nat.mul_zero, Nat.zero_mul, fs18, cutI, e, hy, if_true, if_false, lx, im0]
  have hs : SidesOk W H := hy.1
  have hin : (⟨⟨⟨W, H, R, G, B⟩, L1, L2, L3⟩, x, y, w, h⟩ : CutA).In := by unfold CutA.In; simp only; omega
  have e : (⟨⟨⟨W, H, R, G, B⟩, L1, L2, L3⟩, x, y, w, h⟩ : CutA).Ok := ⟨hy, hin⟩
  have hm := hs.bd
  obtain ⟨g1, g2, g3, g4, g5, g6⟩ : 0 ≤ x ∧ 0 ≤ y ∧ 0 ≤ w ∧ 0 ≤ h ∧ x + w ≤ W ∧ y + h ≤ H := hin
  obtain ⟨a1, a2, a3, a4, _⟩ := id hs
  obtain ⟨e1, e2, _⟩ := hy.val
  simp only at e1 e2
  have hl : (R.length : Int) = W * H := hy.2.1.1
  obtain ⟨w, rfl⟩ : ∃ n : Nat, w = (n : Int) := ⟨w.toNat, by omega⟩
  obtain ⟨h, rfl⟩ : ∃ n : Nat, h = (n : Int) := ⟨h.toNat, by omega⟩
  refine evS_loop _ _ _ (lp19 ⟨⟨⟨W, H, R, G, B⟩, L1, L2, L3⟩, x, y, w, h⟩ (X 0 10) (X 1 11) (X1 3 16)) ((0, nilLoc, nilLoc, nilLoc) : L3T) (Nat.zero_le _) ?_ ?_
  · refine Sub.of (mkG 33 [(0, 0), (1, 1), (2, 2), (10, 10), (11, 11), (16, 16)]) ?_
    simp -implicitDefEqProofs only [push_cast, false_implies, reduceCtorEq, Classical.not_not, Nat.reduceAdd, Nat.reduceSub, Nat.reduceMul, Nat.reduceLeDiff, Nat.reduceLT, Nat.reduceEqDiff, Nat.reduceBEq, Nat.reduceBNe, Int.reduceNeg, Int.reduceToNat, Bool.or_false, Bool.false_or, Bool.or_true, Bool.true_or, BEq.rfl, Bool.not_eq_true, Bool.not_eq_false, decide_eq_true_eq, not_true_eq_false, not_false_eq_true, ite_true, ite_false, List.append_nil, and_assoc, Nat.mul_zero, Nat.zero_mul, lp19, M19, S19, Nat.zero_mul, tabl_zero, Int.natCast_zero, Int.zero_mul]
  intro (⟨v, N1, N2, N3⟩ : L3T) (hv : v ≤ ((h : Int)).toNat)
  change evS _ _ _ _ (mkS 119 (S19 ⟨⟨⟨W, H, R, G, B⟩, L1, L2, L3⟩, x, y, w, h⟩ (X 0 10) (X 1 11) (X1 3 16) (y + v))) (M19 ⟨⟨⟨W, H, R, G, B⟩, L1, L2, L3⟩, x, y, w, h⟩ (X 0 10) (X 1 11) (X1 3 16) N1 N2 N3 (v * ((w : Int)).toNat))
  simp only [Int.toNat_natCast] at hv ⊢
  simp -implicitDefEqProofs only [push_cast, false_implies, reduceCtorEq, Classical.not_not, Nat.reduceAdd, Nat.reduceSub, Nat.reduceMul, Nat.reduceLeDiff, Nat.reduceLT, Nat.reduceEqDiff, Nat.reduceBEq, Nat.reduceBNe, Int.reduceNeg, Int.reduceToNat, Bool.or_false, Bool.false_or, Bool.or_true, Bool.true_or, BEq.rfl, Bool.not_eq_true, Bool.not_eq_false, decide_eq_true_eq, not_true_eq_false, not_false_eq_true, ite_true, ite_false, List.append_nil, and_assoc, Nat.mul_zero, Nat.zero_mul, M19, S19, b19_1, r19_4]
  refine ⟨by omega, by omega, fun hl1 => ?_, fun hl1 => ?_⟩
  · have hvw := mul_bd (a := (v : Int)) (b := w) (A := 200) (B := 200) (by omega) (by omega) (by omega) (by omega)
    refine evS_loop _ _ _ (lp19b ⟨⟨⟨W, H, R, G, B⟩, L1, L2, L3⟩, x, y, w, h⟩ (X 0 10) (X 1 11) (X1 3 16) v) ((0, N1, N2, N3) : L3T) (Nat.zero_le _) ?_ ?_
    · refine Sub.of (mkG 33 [(0, 0), (1, 1), (2, 2), (10, 10), (11, 11), (16, 16), (18, 18), (20, 20), (22, 22)]) ?_
      simp -implicitDefEqProofs only [push_cast, false_implies, reduceCtorEq, Classical.not_not, Nat.reduceAdd, Nat.reduceSub, Nat.reduceMul, Nat.reduceLeDiff, Nat.reduceLT, Nat.reduceEqDiff, Nat.reduceBEq, Nat.reduceBNe, Int.reduceNeg, Int.reduceToNat, Bool.or_false, Bool.false_or, Bool.or_true, Bool.true_or, BEq.rfl, Bool.not_eq_true, Bool.not_eq_false, decide_eq_true_eq, not_true_eq_false, not_false_eq_true, ite_true, ite_false, List.append_nil, and_assoc, Nat.mul_zero, Nat.zero_mul, lp19b, M19, S19, Int.toNat_natCast, Int.natCast_zero]
    intro (⟨u, K1, K2, K3⟩ : L3T) (hu : u ≤ ((w : Int)).toNat)
    change evS _ _ _ _ (mkS 119 ((14, .int .i64 (x + u)) :: S19 ⟨⟨⟨W, H, R, G, B⟩, L1, L2, L3⟩, x, y, w, h⟩ (X 0 10) (X 1 11) (X1 3 16) (y + v))) (M19 ⟨⟨⟨W, H, R, G, B⟩, L1, L2, L3⟩, x, y, w, h⟩ (X 0 10) (X 1 11) (X1 3 16) K1 K2 K3 (v * ((w : Int)).toNat + u))
    simp only [Int.toNat_natCast] at hu ⊢
    simp -implicitDefEqProofs only [push_cast, false_implies, reduceCtorEq, Classical.not_not, Nat.reduceAdd, Nat.reduceSub, Nat.reduceMul, Nat.reduceLeDiff, Nat.reduceLT, Nat.reduceEqDiff, Nat.reduceBEq, Nat.reduceBNe, Int.reduceNeg, Int.reduceToNat, Bool.or_false, Bool.false_or, Bool.or_true, Bool.true_or, BEq.rfl, Bool.not_eq_true, Bool.not_eq_false, decide_eq_true_eq, not_true_eq_false, not_false_eq_true, ite_true, ite_false, List.append_nil, and_assoc, Nat.mul_zero, Nat.zero_mul, M19, S19, b19_2, r19_3]
    refine ⟨by omega, by omega, fun hl2 => ?_, fun hl2 => ?_⟩
    · have hu' : u < w := by omega
      have hi := idx_bd (a := y + v) (b := x + u) (W := W) (H := H) (by omega) (by omega) (by omega) (by omega)
      have hb0 := mul_bd (show 0 ≤ y + v by omega) (show y + v ≤ 200 by omega) a1 a3
      have lR := tabl_length (v * w + u) (cutF W x y w R)
      have lG := tabl_length (v * w + u) (cutF W x y w G)
      have lB := tabl_length (v * w + u) (cutF W x y w B)
      have lc : ((v * w + u : Nat) : Int) = v * w + u := by simp
      refine ⟨by omega, by omega, by omega, by omega, fun X2 => ?_⟩
      rw [lR, lG, lB, lc]
      repeat (refine ⟨by omega, ?_⟩)
      refine lpK_mk ((u + 1, X2 8 18, X2 17 20, X2 26 22) : L3T) hu' (show w - (u + 1) < w - u by omega) ?_
      have qR : tabl (v * w + u) (cutF W x y w R) ++ [rd R ((y + v) * W + (x + u))] = tabl (v * w + u + 1) (cutF W x y w R) := by rw [← tabl_snoc, cutF_at hu']
      have qG : tabl (v * w + u) (cutF W x y w G) ++ [rd G ((y + v) * W + (x + u))] = tabl (v * w + u + 1) (cutF W x y w G) := by rw [← tabl_snoc, cutF_at hu']
      have qB : tabl (v * w + u) (cutF W x y w B) ++ [rd B ((y + v) * W + (x + u))] = tabl (v * w + u + 1) (cutF W x y w B) := by rw [← tabl_snoc, cutF_at hu']
      refine Sub.of (mkG 33 [(0, 0), (1, 1), (2, 2), (10, 10), (11, 11), (16, 16), (18, 18), (20, 20), (22, 22)]) ?_
      simp -implicitDefEqProofs only [push_cast, false_implies, reduceCtorEq, Classical.not_not, Nat.reduceAdd, Nat.reduceSub, Nat.reduceMul, Nat.reduceLeDiff, Nat.reduceLT, Nat.reduceEqDiff, Nat.reduceBEq, Nat.reduceBNe, Int.reduceNeg, Int.reduceToNat, Bool.or_false, Bool.false_or, Bool.or_true, Bool.true_or, BEq.rfl, Bool.not_eq_true, Bool.not_eq_false, decide_eq_true_eq, not_true_eq_false, not_false_eq_true, ite_true, ite_false, List.append_nil, and_assoc, Nat.mul_zero, Nat.zero_mul, lp19b, M19, S19, Int.toNat_natCast, Int.add_assoc, ← Nat.add_assoc, qR, qG, qB]
    · obtain rfl : u = w := by omega
      refine ⟨by omega, by omega, ?_⟩
      refine lpK_mk ((v + 1, K1, K2, K3) : L3T) (show v < h by omega) (show h - (v + 1) < h - v by omega) ?_
      refine Sub.of (mkG 33 [(0, 0), (1, 1), (2, 2), (10, 10), (11, 11), (16, 16), (18, 18), (20, 20), (22, 22)]) ?_
      have e3 : (v + 1) * u = v * u + u := by rw [Nat.add_mul, Nat.one_mul]
      simp -implicitDefEqProofs only [push_cast, false_implies, reduceCtorEq, Classical.not_not, Nat.reduceAdd, Nat.reduceSub, Nat.reduceMul, Nat.reduceLeDiff, Nat.reduceLT, Nat.reduceEqDiff, Nat.reduceBEq, Nat.reduceBNe, Int.reduceNeg, Int.reduceToNat, Bool.or_false, Bool.false_or, Bool.or_true, Bool.true_or, BEq.rfl, Bool.not_eq_true, Bool.not_eq_false, decide_eq_true_eq, not_true_eq_false, not_false_eq_true, ite_true, ite_false, List.append_nil, and_assoc, Nat.mul_zero, Nat.zero_mul, lp19, M19, S19, Int.toNat_natCast, ← Int.add_assoc, e3, Int.add_mul, Int.one_mul]
  · obtain rfl : v = h := by omega
    refine postF.mk' (locs [N1, N2, N3]) [some 0, some 1, some 2, some 18, some 20, some 22] ?_
    have e3 : ((w : Int) * v).toNat = v * w := by rw [← Int.natCast_mul, Int.toNat_natCast, Nat.mul_comm]
    simp -implicitDefEqProofs only [push_cast, false_implies, reduceCtorEq, Classical.not_not, Nat.reduceAdd, Nat.reduceSub, Nat.reduceMul, Nat.reduceLeDiff, Nat.reduceLT, Nat.reduceEqDiff, Nat.reduceBEq, Nat.reduceBNe, Int.reduceNeg, Int.reduceToNat, Bool.or_false, Bool.false_or, Bool.or_true, Bool.true_or, BEq.rfl, Bool.not_eq_true, Bool.not_eq_false, decide_eq_true_eq, not_true_eq_false, not_false_eq_true, ite_true, ite_false, List.append_nil, and_assoc, Nat.mul_zero, Nat.zero_mul, fs18, cutI, cutL, e, hy, if_true, lx, tabl_length, e3]
def ent19 : Entry := spOf fs18 inv18
theorem e19 : EntryOk Try.prog 19 ent19 := entry_of ok19 inv18
@[push_cast] theorem ent19_app (us : List SV) (look : Look) (x : Nat → Xf.Loc) (k : Nat) : ent19 us look x k = spOf fs18 inv18 us look x k := rfl
end Go.Proofs.Ytnmbimhcfioeiaa
