import Derived.Test.YtnmbimhcfioeiaaVg
set_option linter.unusedVariables false
set_option linter.unusedSimpArgs false
/-! Cut. -/
namespace Go.Proofs.Ytnmbimhcfioeiaa
open Xf
set_option maxRecDepth 4000
/- incunable/colour.Cut : slots 104, labels 10..24; loop b18_1 keeps [1, 2, 3, 5, 10, 12, 67, 68] -/
def b18_1 : IR :=
  .seq (.reg false [⟨some 69, none, ⟨[], []⟩, .bin 0 .lss (.t 68) (.t 67)⟩] [] []) (.seq (.cond (.t 69) (.skip) (.exit 0)) (.seq (.block 1 (.seq (.reg false [⟨some 70, none, ⟨[], []⟩, .mov (.t 68)⟩,
    ⟨some 13, none, ⟨[], []⟩, .mov (.t 70)⟩] [69, 70] []) (.seq (.reg true [⟨some 71, none, ⟨[], []⟩, .mov (.t 2)⟩,
    ⟨some 72, none, ⟨[], []⟩, .mov (.t 13)⟩,
    ⟨some 73, none, ⟨[], []⟩, .mov (.t 3)⟩,
    ⟨some 74, none, ⟨[], []⟩, .bin 0 .quo (.t 72) (.t 73)⟩,
    ⟨some 75, none, ⟨[], []⟩, .bin 0 .add (.t 71) (.t 74)⟩,
    ⟨some 76, none, ⟨[], []⟩, .fld (.t 5) 0⟩,
    ⟨some 77, none, ⟨[], []⟩, .ld false none 0 0 (.t 76)⟩,
    ⟨some 78, none, ⟨[], []⟩, .bin 0 .mul (.t 75) (.t 77)⟩,
    ⟨some 79, none, ⟨[], []⟩, .mov (.t 1)⟩,
    ⟨some 80, none, ⟨[], []⟩, .bin 0 .add (.t 78) (.t 79)⟩,
    ⟨some 81, none, ⟨[], []⟩, .mov (.t 13)⟩,
    ⟨some 82, none, ⟨[], []⟩, .mov (.t 3)⟩,
    ⟨some 83, none, ⟨[], []⟩, .bin 0 .rem (.t 81) (.t 82)⟩,
    ⟨some 84, none, ⟨[], []⟩, .bin 0 .add (.t 80) (.t 83)⟩,
    ⟨some 14, none, ⟨[], []⟩, .mov (.t 84)⟩] [71, 72, 73, 74, 75, 76, 77, 78, 79, 80, 81, 82, 83, 84] []) (.reg true [⟨some 85, none, ⟨[], []⟩, .mov (.t 13)⟩,
    ⟨some 86, none, ⟨[], []⟩, .fld (.t 5) 2⟩,
    ⟨some 87, none, ⟨[], []⟩, .ld false none 0 0 (.t 86)⟩,
    ⟨some 88, none, ⟨[], []⟩, .mov (.t 14)⟩,
    ⟨some 89, none, ⟨[], []⟩, .idxS (.t 87) (.t 88) 1⟩,
    ⟨some 90, none, ⟨[], []⟩, .ld true none 0 0 (.t 89)⟩,
    ⟨some 91, none, ⟨[], []⟩, .fld (.t 5) 3⟩,
    ⟨some 92, none, ⟨[], []⟩, .ld false none 0 0 (.t 91)⟩,
    ⟨some 93, none, ⟨[], []⟩, .mov (.t 14)⟩,
    ⟨some 94, none, ⟨[], []⟩, .idxS (.t 92) (.t 93) 1⟩,
    ⟨some 95, none, ⟨[], []⟩, .ld true none 0 0 (.t 94)⟩,
    ⟨some 96, none, ⟨[], []⟩, .fld (.t 5) 4⟩,
    ⟨some 97, none, ⟨[], []⟩, .ld false none 0 0 (.t 96)⟩,
    ⟨some 98, none, ⟨[], []⟩, .mov (.t 14)⟩,
    ⟨some 99, none, ⟨[], []⟩, .idxS (.t 97) (.t 98) 1⟩,
    ⟨some 100, none, ⟨[], []⟩, .ld true none 0 0 (.t 99)⟩,
    ⟨some 101, none, ⟨[], []⟩, .call none 21 42 [.t 12, .t 85, .t 90, .t 95, .t 100]⟩] [13, 14, 85, 86, 87, 88, 89, 90, 91, 92, 93, 94, 95, 96, 97, 98, 99, 100, 101] [])))) (.reg false [⟨some 102, none, ⟨[], []⟩, .bin 0 .add (.t 68) (.k (.int .i64 1))⟩,
    ⟨some 68, none, ⟨[], []⟩, .mov (.t 102)⟩] [102] [])))
def r18_2 : IR :=
  .seq (.reg false [⟨some 103, none, ⟨[], []⟩, .ld false (some 5) 0 0 (.t 12)⟩,
    ⟨none, none, ⟨[], []⟩, .sto false 5 .i64 (.t 10) (.t 103)⟩,
    ⟨some 11, none, ⟨[], []⟩, .mov (.k (.int .i64 0))⟩] [1, 2, 3, 5, 12, 67, 68, 103] []) (.ret)
def ir18 : IR :=
  .seq (.reg false [⟨some 5, none, ⟨[], []⟩, .box 10 (.t 0)⟩,
    ⟨some 10, none, ⟨[], []⟩, .alloc 11 [.int .i64 0, .int .i64 0, nilSV, nilSV, nilSV]⟩,
    ⟨some 11, none, ⟨[], []⟩, .mov (.k (.int .i64 0))⟩] [0, 11] []) (.seq (.seq (.reg false [⟨some 15, none, ⟨[], []⟩, .ld false (some 5) 0 0 (.t 5)⟩,
    ⟨some 16, none, ⟨[], []⟩, .call (some 4) 12 15 [.t 15]⟩,
    ⟨some 17, none, ⟨[], []⟩, .not (.t 16)⟩] [15, 16] []) (.cond (.t 17) (.seq (.reg false [⟨some 18, none, ⟨[], []⟩, .build [.int .i64 0, .int .i64 0, nilSV, nilSV, nilSV] []⟩,
    ⟨none, none, ⟨[], []⟩, .sto false 5 .i64 (.t 10) (.t 18)⟩,
    ⟨some 11, none, ⟨[], []⟩, .mov (.k (.int .i64 75))⟩] [1, 2, 3, 4, 5, 17, 18] []) (.ret)) (.skip))) (.seq (.seq (.reg false [⟨some 19, none, ⟨[], []⟩, .mov (.t 1)⟩,
    ⟨some 20, none, ⟨[], []⟩, .bin 0 .lss (.t 19) (.k (.int .i64 0))⟩,
    ⟨some 21, none, ⟨[], []⟩, .mov (.t 20)⟩,
    ⟨some 22, some (21, false), ⟨[], []⟩, .mov (.t 2)⟩,
    ⟨some 23, some (21, false), ⟨[], []⟩, .bin 0 .lss (.t 22) (.k (.int .i64 0))⟩,
    ⟨some 24, none, ⟨[], []⟩, .pick (.t 21) (.k (.bool true)) (.t 23)⟩,
    ⟨some 25, none, ⟨[], []⟩, .mov (.t 24)⟩,
    ⟨some 26, some (25, false), ⟨[], []⟩, .mov (.t 3)⟩,
    ⟨some 27, some (25, false), ⟨[], []⟩, .bin 0 .lss (.t 26) (.k (.int .i64 0))⟩,
    ⟨some 28, none, ⟨[], []⟩, .pick (.t 25) (.k (.bool true)) (.t 27)⟩,
    ⟨some 29, none, ⟨[], []⟩, .mov (.t 28)⟩,
    ⟨some 30, some (29, false), ⟨[], []⟩, .mov (.t 4)⟩,
    ⟨some 31, some (29, false), ⟨[], []⟩, .bin 0 .lss (.t 30) (.k (.int .i64 0))⟩,
    ⟨some 32, none, ⟨[], []⟩, .pick (.t 29) (.k (.bool true)) (.t 31)⟩,
    ⟨some 33, none, ⟨[], []⟩, .mov (.t 32)⟩,
    ⟨some 34, some (33, false), ⟨[], []⟩, .mov (.t 1)⟩,
    ⟨some 35, some (33, false), ⟨[], []⟩, .fld (.t 5) 0⟩,
    ⟨some 36, some (33, false), ⟨[], []⟩, .ld false none 0 0 (.t 35)⟩,
    ⟨some 37, some (33, false), ⟨[], []⟩, .bin 0 .gtr (.t 34) (.t 36)⟩,
    ⟨some 38, none, ⟨[], []⟩, .pick (.t 33) (.k (.bool true)) (.t 37)⟩,
    ⟨some 39, none, ⟨[], []⟩, .mov (.t 38)⟩,
    ⟨some 40, some (39, false), ⟨[], []⟩, .mov (.t 2)⟩,
    ⟨some 41, some (39, false), ⟨[], []⟩, .fld (.t 5) 1⟩,
    ⟨some 42, some (39, false), ⟨[], []⟩, .ld false none 0 0 (.t 41)⟩,
    ⟨some 43, some (39, false), ⟨[], []⟩, .bin 0 .gtr (.t 40) (.t 42)⟩,
    ⟨some 44, none, ⟨[], []⟩, .pick (.t 39) (.k (.bool true)) (.t 43)⟩,
    ⟨some 45, none, ⟨[], []⟩, .mov (.t 44)⟩,
    ⟨some 46, some (45, false), ⟨[], []⟩, .mov (.t 3)⟩,
    ⟨some 47, some (45, false), ⟨[], []⟩, .fld (.t 5) 0⟩,
    ⟨some 48, some (45, false), ⟨[], []⟩, .ld false none 0 0 (.t 47)⟩,
    ⟨some 49, some (45, false), ⟨[], []⟩, .mov (.t 1)⟩,
    ⟨some 50, some (45, false), ⟨[], []⟩, .bin 0 .sub (.t 48) (.t 49)⟩,
    ⟨some 51, some (45, false), ⟨[], []⟩, .bin 0 .gtr (.t 46) (.t 50)⟩,
    ⟨some 52, none, ⟨[], []⟩, .pick (.t 45) (.k (.bool true)) (.t 51)⟩,
    ⟨some 53, none, ⟨[], []⟩, .mov (.t 52)⟩,
    ⟨some 54, some (53, false), ⟨[], []⟩, .mov (.t 4)⟩,
    ⟨some 55, some (53, false), ⟨[], []⟩, .fld (.t 5) 1⟩,
    ⟨some 56, some (53, false), ⟨[], []⟩, .ld false none 0 0 (.t 55)⟩,
    ⟨some 57, some (53, false), ⟨[], []⟩, .mov (.t 2)⟩,
    ⟨some 58, some (53, false), ⟨[], []⟩, .bin 0 .sub (.t 56) (.t 57)⟩,
    ⟨some 59, some (53, false), ⟨[], []⟩, .bin 0 .gtr (.t 54) (.t 58)⟩,
    ⟨some 60, none, ⟨[], []⟩, .pick (.t 53) (.k (.bool true)) (.t 59)⟩] [11, 17, 19, 20, 21, 22, 23, 24, 25, 26, 27, 28, 29, 30, 31, 32, 33, 34, 35, 36, 37, 38, 39, 40, 41, 42, 43, 44, 45, 46, 47, 48, 49, 50, 51, 52, 53, 54, 55, 56, 57, 58, 59] []) (.cond (.t 60) (.seq (.reg false [⟨some 61, none, ⟨[], []⟩, .build [.int .i64 0, .int .i64 0, nilSV, nilSV, nilSV] []⟩,
    ⟨none, none, ⟨[], []⟩, .sto false 5 .i64 (.t 10) (.t 61)⟩,
    ⟨some 11, none, ⟨[], []⟩, .mov (.k (.int .i64 2))⟩] [1, 2, 3, 4, 5, 60, 61] []) (.ret)) (.skip))) (.seq (.reg false [⟨some 62, none, ⟨[], []⟩, .mov (.t 3)⟩,
    ⟨some 63, none, ⟨[], []⟩, .mov (.t 4)⟩,
    ⟨some 64, none, ⟨[], []⟩, .call (some 4) 16 41 [.t 62, .t 63]⟩,
    ⟨some 12, none, ⟨[], []⟩, .alloc 20 [.int .i64 0, .int .i64 0, nilSV, nilSV, nilSV]⟩,
    ⟨none, none, ⟨[], []⟩, .sto false 5 .i64 (.t 12) (.t 64)⟩] [11, 60, 62, 63, 64] []) (.seq (.seq (.reg false [⟨some 65, none, ⟨[], []⟩, .mov (.t 3)⟩,
    ⟨some 66, none, ⟨[], []⟩, .mov (.t 4)⟩,
    ⟨some 67, none, ⟨[], []⟩, .bin 0 .mul (.t 65) (.t 66)⟩,
    ⟨some 68, none, ⟨[], []⟩, .mov (.k (.int .i64 0))⟩] [4, 65, 66] []) (.block 0 (.loop b18_1))) (r18_2)))))
def kp18_1 : List Nat := [1, 2, 3, 5, 10, 12, 67, 68]
def kl18_1 : List Nat := [21, 22, 23, 24]
attribute [push_cast] kp18_1 kl18_1
theorem comp18 : (Try.f18.body.bind fun c => compC tab isP chkAll ir18 c) = some ir18 := by kernel_rfl
set_option maxRecDepth 512

structure CutA where
  a : ImA
  x : Int
  y : Int
  w : Int
  h : Int
def CutA.In (c : CutA) : Prop := 0 ≤ c.x ∧ 0 ≤ c.y ∧ 0 ≤ c.w ∧ 0 ≤ c.h ∧ c.x + c.w ≤ c.a.i.w ∧ c.y + c.h ≤ c.a.i.h
instance (c : CutA) : Decidable c.In := by unfold CutA.In; infer_instance
def CutA.Ok (c : CutA) : Prop := c.a.i.Ok ∧ c.In
instance (c : CutA) : Decidable c.Ok := by unfold CutA.Ok; infer_instance
def cutF (W x y w : Int) (xs : List Int) : Nat → Int := fun k => rd xs ((y + (k : Int) / w) * W + x + (k : Int) % w)
def cutL (c : CutA) (xs : List Int) : List Int := tabl (c.w * c.h).toNat (cutF c.a.i.w c.x c.y c.w xs)
def cutI (c : CutA) : Im := if c.Ok then ⟨c.w, c.h, cutL c c.a.i.R, cutL c c.a.i.G, cutL c c.a.i.B⟩ else im0
def fs18 : FS where
  A := CutA
  args := fun c => [imV c.a.i c.a.L1 c.a.L2 c.a.L3 0, .int .i64 c.x, .int .i64 c.y, .int .i64 c.w, .int .i64 c.h]
  mem := fun c => imM c.a.i c.a.L1 c.a.L2 c.a.L3
  pre := fun c => c.a.i.small
  res := fun c x => .tup [imV (cutI c) (lx c.Ok x 0) (lx c.Ok x 1) (lx c.Ok x 2) 3, .int .i64 (if c.Ok then 0 else if c.a.i.Ok then 2 else 75)]
  out := fun _ _ => []
  new := fun c x => imN (cutI c) (lx c.Ok x)
def inv18 : List SV → Look → Option (CutA × List Nat)
  | [v, .int .i64 x, .int .i64 y, .int .i64 w, .int .i64 h], look => match getI look v with
    | some (a, g) => some (⟨a, x, y, w, h⟩, g)
    | _ => none
  | _, _ => none
attribute [push_cast] inv18
theorem idx_bd {a b W H : Int} (h1 : 0 ≤ a) (h2 : a < H) (h3 : 0 ≤ b) (h4 : b < W) : 0 ≤ a * W + b ∧ a * W + b < W * H := by
  have e1 : 0 ≤ a * W := Int.mul_nonneg h1 (by omega)
  have e2 : (a + 1) * W ≤ H * W := Int.mul_le_mul_of_nonneg_right (by omega) (by omega)
  rw [Int.add_mul, Int.one_mul, Int.mul_comm H W] at e2
  omega
theorem dm_bd {k w h : Int} (h0 : 0 ≤ k) (h1 : k < w * h) (hw : 0 ≤ w) : 0 < w ∧ 0 ≤ k / w ∧ k / w < h ∧ 0 ≤ k % w ∧ k % w < w := by
  have hw' : 0 < w := by
    rcases Int.lt_or_eq_of_le hw with h | h
    · exact h
    · rw [← h, Int.zero_mul] at h1; omega
  refine ⟨hw', Int.ediv_nonneg h0 hw, ?_, Int.emod_nonneg _ (by omega), Int.emod_lt_of_pos _ hw'⟩
  exact Int.ediv_lt_of_lt_mul hw' (by rw [Int.mul_comm]; exact h1)

def I18 (c : CutA) (L0 M0 M1 N1 N2 N3 : Xf.Loc) (k : Nat) : List Ent × Mem :=
  (mkS 104 [(1, .int .i64 c.x), (2, .int .i64 c.y), (3, .int .i64 c.w), (5, .ptr 10 L0 0 0 0), (10, .ptr 11 M0 0 0 0), (12, .ptr 20 M1 0 0 0), (67, .int .i64 (c.w * c.h)), (68, .int .i64 k)],
    mkM 33 [(0, .ro, c.a.L1, .ints .i64 c.a.i.R), (1, .ro, c.a.L2, .ints .i64 c.a.i.G), (2, .ro, c.a.L3, .ints .i64 c.a.i.B), (10, .mine, L0, .cells [.int .i64 c.a.i.w, .int .i64 c.a.i.h, .sl 0 c.a.L1 1 0 c.a.i.R.length, .sl 1 c.a.L2 1 0 c.a.i.G.length, .sl 2 c.a.L3 1 0 c.a.i.B.length]),
      (11, .mine, M0, .cells [.int .i64 0, .int .i64 0, nilSV, nilSV, nilSV]), (20, .mine, M1, .cells [.int .i64 c.w, .int .i64 c.h, .sl 16 N1 1 0 (c.w * c.h), .sl 17 N2 1 0 (c.w * c.h), .sl 18 N3 1 0 (c.w * c.h)]),
      (16, .mine, N1, .ints .i64 (prt (c.w * c.h).toNat k (cutF c.a.i.w c.x c.y c.w c.a.i.R))), (17, .mine, N2, .ints .i64 (prt (c.w * c.h).toNat k (cutF c.a.i.w c.x c.y c.w c.a.i.G))), (18, .mine, N3, .ints .i64 (prt (c.w * c.h).toNat k (cutF c.a.i.w c.x c.y c.w c.a.i.B)))])
def lp18 (c : CutA) (L0 M0 M1 N1 N2 N3 : Xf.Loc) : LoopS where
  A := Nat
  I := I18 c L0 M0 M1 N1 N2 N3
  R := fun k => k ≤ (c.w * c.h).toNat
  mu := fun k => (c.w * c.h).toNat - k
theorem ok18 : FSOk Try.prog 18 fs18 := by
  refine ⟨⟨_, Try.func18, by kernel_rfl, by kernel_rfl⟩, fun a => ⟨by simp [fs18, imM, push_cast, noMine, argOwn, Chunk.frArg], by simp [fs18, imM, push_cast, outOk, Chunk.ext], fun x => .inl (by simp [fs18, imM, push_cast, frNew, frOut, Chunk.fr])⟩, fun a hp => ?_⟩
  obtain ⟨⟨⟨W, H, R, G, B⟩, L1, L2, L3⟩, x, y, w, h⟩ := a
  change (⟨W, H, R, G, B⟩ : Im).small at hp
  change Tri Try.prog 18 [imV ⟨W, H, R, G, B⟩ L1 L2 L3 0, .int .i64 x, .int .i64 y, .int .i64 w, .int .i64 h] (imM ⟨W, H, R, G, B⟩ L1 L2 L3) (postF fs18 ⟨⟨⟨W, H, R, G, B⟩, L1, L2, L3⟩, x, y, w, h⟩)
  refine tri_evS (hyp (l := [(15, ent15), (41, ent41), (42, ent42)]) (lp := []) ⟨e15, e41, e42, trivial⟩ trivial) Try.func18 comp18 (rs := [.cell 10 (some 5), .tmp 11]) (by rfl) Try.ntmps18 30 ?_
  simp -implicitDefEqProofs only [push_cast, false_implies, reduceCtorEq, Classical.not_not, Nat.reduceAdd, Nat.reduceSub, Nat.reduceMul, Nat.reduceLeDiff, Nat.reduceLT, Nat.reduceEqDiff, Nat.reduceBEq, Nat.reduceBNe, Int.reduceNeg, Int.reduceToNat, Bool.or_false, Bool.false_or, Bool.or_true, Bool.true_or, BEq.rfl, Bool.not_eq_true, Bool.not_eq_false, decide_eq_true_eq, not_true_eq_false, not_false_eq_true, ite_true, ite_false, List.append_nil, and_assoc, Nat.mul_zero, Nat.zero_mul, ir18, fs15, fs41]
  intro X
  refine ⟨hp, fun hn => ?_, fun hy => ⟨fun q => ?_, fun q => ?_, fun hb => ?_, fun hg X1 => ?_⟩⟩
  · have e : ¬ (⟨⟨⟨W, H, R, G, B⟩, L1, L2, L3⟩, x, y, w, h⟩ : CutA).Ok := fun H => hn H.1
    refine postF.mk' (fun _ => default) [some 0, some 1, some 2, none, none, none] ?_
    simp -implicitDefEqProofs only [push_cast, false_implies, reduceCtorEq, Classical.not_not, Nat.reduceAdd, Nat.reduceSub, Nat.reduceMul, Nat.reduceLeDiff, Nat.reduceLT, Nat.reduceEqDiff, Nat.reduceBEq, Nat.reduceBNe, Int.reduceNeg, Int.reduceToNat, Bool.or_false, Bool.false_or, Bool.or_true, Bool.true_or, BEq.rfl, Bool.not_eq_true, Bool.not_eq_false, decide_eq_true_eq, not_true_eq_false, not_false_eq_true, ite_true, ite_false, List.append_nil, and_assoc, Nat.mul_zero, Nat.zero_mul, fs18, cutI, e, hn, if_false, lx, im0]
  · obtain ⟨a1, a2, a3, a4, _⟩ : SidesOk W H := hy.1
    exact ⟨q, q, by omega, by omega⟩
  · obtain ⟨a1, a2, a3, a4, _⟩ : SidesOk W H := hy.1
    exact ⟨q, q, by omega, by omega⟩
  · have e : ¬ (⟨⟨⟨W, H, R, G, B⟩, L1, L2, L3⟩, x, y, w, h⟩ : CutA).Ok := fun H => by
      obtain ⟨_, a, b, c, d, e, f⟩ := H
      simp only at a b c d e f
      omega
    refine postF.mk' (fun _ => default) [some 0, some 1, some 2, none, none, none] ?_
    simp -implicitDefEqProofs only [push_cast, false_implies, reduceCtorEq, Classical.not_not, Nat.reduceAdd, Nat.reduceSub, Nat.reduceMul, Nat.reduceLeDiff, Nat.reduceLT, Nat.reduceEqDiff, Nat.reduceBEq, Nat.reduceBNe, Int.reduceNeg, Int.reduceToNat, Bool.or_false, Bool.false_or, Bool.or_true, Bool.true_or, BEq.rfl, Bool.not_eq_true, Bool.not_eq_false, decide_eq_true_eq, not_true_eq_false, not_false_eq_true, ite_true, ite_false, List.append_nil, and_assoc, Nat.mul_zero, Nat.zero_mul, fs18, cutI, e, hy, if_true, if_false, lx, im0]
  have hs : SidesOk W H := hy.1
  have hin : (⟨⟨⟨W, H, R, G, B⟩, L1, L2, L3⟩, x, y, w, h⟩ : CutA).In := by unfold CutA.In; simp only; omega
  have e : (⟨⟨⟨W, H, R, G, B⟩, L1, L2, L3⟩, x, y, w, h⟩ : CutA).Ok := ⟨hy, hin⟩
  have hm := hs.bd
  obtain ⟨g1, g2, g3, g4, g5, g6⟩ : 0 ≤ x ∧ 0 ≤ y ∧ 0 ≤ w ∧ 0 ≤ h ∧ x + w ≤ W ∧ y + h ≤ H := hin
  obtain ⟨a1, a2, a3, a4, _⟩ := id hs
  have hm2 := mul_bd g3 (show w ≤ W by omega) g4 (show h ≤ H by omega)
  obtain ⟨e1, e2, _⟩ := hy.val
  simp only at e1 e2
  have hl : (R.length : Int) = W * H := hy.2.1.1
  refine ⟨⟨g3, g4, by omega, by omega, by omega⟩, by omega, by omega, ?_⟩
  refine evS_loop _ _ _ (lp18 ⟨⟨⟨W, H, R, G, B⟩, L1, L2, L3⟩, x, y, w, h⟩ (X 0 10) (X 1 11) (X1 3 20) (X1 2 16) (X1 2 17) (X1 2 18)) (0 : Nat) (Nat.zero_le _) ?_ ?_
  · refine Sub.of (mkG 33 [(0, 0), (1, 1), (2, 2), (10, 10), (11, 11), (16, 16), (17, 17), (18, 18), (20, 20)]) ?_
    simp -implicitDefEqProofs only [push_cast, false_implies, reduceCtorEq, Classical.not_not, Nat.reduceAdd, Nat.reduceSub, Nat.reduceMul, Nat.reduceLeDiff, Nat.reduceLT, Nat.reduceEqDiff, Nat.reduceBEq, Nat.reduceBNe, Int.reduceNeg, Int.reduceToNat, Bool.or_false, Bool.false_or, Bool.or_true, Bool.true_or, BEq.rfl, Bool.not_eq_true, Bool.not_eq_false, decide_eq_true_eq, not_true_eq_false, not_false_eq_true, ite_true, ite_false, List.append_nil, and_assoc, Nat.mul_zero, Nat.zero_mul, lp18, I18, zs, prt_zero]
  intro (k : Nat) (hk : k ≤ (w * h).toNat)
  change evS _ _ _ _ (I18 ⟨⟨⟨W, H, R, G, B⟩, L1, L2, L3⟩, x, y, w, h⟩ (X 0 10) (X 1 11) (X1 3 20) (X1 2 16) (X1 2 17) (X1 2 18) k).1 (I18 ⟨⟨⟨W, H, R, G, B⟩, L1, L2, L3⟩, x, y, w, h⟩ (X 0 10) (X 1 11) (X1 3 20) (X1 2 16) (X1 2 17) (X1 2 18) k).2
  simp -implicitDefEqProofs only [push_cast, false_implies, reduceCtorEq, Classical.not_not, Nat.reduceAdd, Nat.reduceSub, Nat.reduceMul, Nat.reduceLeDiff, Nat.reduceLT, Nat.reduceEqDiff, Nat.reduceBEq, Nat.reduceBNe, Int.reduceNeg, Int.reduceToNat, Bool.or_false, Bool.false_or, Bool.or_true, Bool.true_or, BEq.rfl, Bool.not_eq_true, Bool.not_eq_false, decide_eq_true_eq, not_true_eq_false, not_false_eq_true, ite_true, ite_false, List.append_nil, and_assoc, Nat.mul_zero, Nat.zero_mul, I18, b18_1, r18_2, fs42]
  refine ⟨fun hk1 => ?_, fun hk1 => ?_⟩
  · have hk' : k < (w * h).toNat := by omega
    obtain ⟨b1, b2, b3, b4, b5⟩ := dm_bd (k := k) (by omega) hk1 g3
    have hi := idx_bd (a := y + (k : Int) / w) (b := x + (k : Int) % w) (W := W) (H := H) (by omega) (by omega) (by omega) (by omega)
    rw [← Int.add_assoc] at hi
    have lR := prt_length hk (cutF W x y w R)
    have lG := prt_length hk (cutF W x y w G)
    have lB := prt_length hk (cutF W x y w B)
    have hmb := mul_bd (show 0 ≤ y + (k : Int) / w by omega) (show y + (k : Int) / w ≤ 200 by omega) a1 a3
    repeat (refine ⟨by omega, ?_⟩)
    refine lpK_mk (k + 1 : Nat) hk' (show (w * h).toNat - (k + 1) < (w * h).toNat - k by omega) ?_
    have qR : (prt (w * h).toNat k (cutF W x y w R)).set k (rd R ((y + (k : Int) / w) * W + x + (k : Int) % w)) = prt (w * h).toNat (k + 1) (cutF W x y w R) := prt_set hk' _
    have qG : (prt (w * h).toNat k (cutF W x y w G)).set k (rd G ((y + (k : Int) / w) * W + x + (k : Int) % w)) = prt (w * h).toNat (k + 1) (cutF W x y w G) := prt_set hk' _
    have qB : (prt (w * h).toNat k (cutF W x y w B)).set k (rd B ((y + (k : Int) / w) * W + x + (k : Int) % w)) = prt (w * h).toNat (k + 1) (cutF W x y w B) := prt_set hk' _
    refine Sub.of (mkG 33 [(0, 0), (1, 1), (2, 2), (10, 10), (11, 11), (16, 16), (17, 17), (18, 18), (20, 20)]) ?_
    simp -implicitDefEqProofs only [push_cast, false_implies, reduceCtorEq, Classical.not_not, Nat.reduceAdd, Nat.reduceSub, Nat.reduceMul, Nat.reduceLeDiff, Nat.reduceLT, Nat.reduceEqDiff, Nat.reduceBEq, Nat.reduceBNe, Int.reduceNeg, Int.reduceToNat, Bool.or_false, Bool.false_or, Bool.or_true, Bool.true_or, BEq.rfl, Bool.not_eq_true, Bool.not_eq_false, decide_eq_true_eq, not_true_eq_false, not_false_eq_true, ite_true, ite_false, List.append_nil, and_assoc, Nat.mul_zero, Nat.zero_mul, lp18, I18, Int.toNat_natCast, qR, qG, qB]
  · obtain rfl : k = (w * h).toNat := by omega
    refine postF.mk' (locs [X1 2 16, X1 2 17, X1 2 18]) [some 0, some 1, some 2, some 16, some 17, some 18] ?_
    simp -implicitDefEqProofs only [push_cast, false_implies, reduceCtorEq, Classical.not_not, Nat.reduceAdd, Nat.reduceSub, Nat.reduceMul, Nat.reduceLeDiff, Nat.reduceLT, Nat.reduceEqDiff, Nat.reduceBEq, Nat.reduceBNe, Int.reduceNeg, Int.reduceToNat, Bool.or_false, Bool.false_or, Bool.or_true, Bool.true_or, BEq.rfl, Bool.not_eq_true, Bool.not_eq_false, decide_eq_true_eq, not_true_eq_false, not_false_eq_true, ite_true, ite_false, List.append_nil, and_assoc, Nat.mul_zero, Nat.zero_mul, fs18, cutI, cutL, e, hy, if_true, lx, prt_all, tabl_length, Int.toNat_of_nonneg hm2.1]
def ent18 : Entry := spOf fs18 inv18
theorem e18 : EntryOk Try.prog 18 ent18 := entry_of ok18 inv18
@[push_cast] theorem ent18_app (us : List SV) (look : Look) (x : Nat → Xf.Loc) (k : Nat) : ent18 us look x k = spOf fs18 inv18 us look x k := rfl
end Go.Proofs.Ytnmbimhcfioeiaa
