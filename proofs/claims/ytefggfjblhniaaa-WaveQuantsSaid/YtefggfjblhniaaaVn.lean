import Derived.Test.YtefggfjblhniaaaVm
set_option linter.unusedVariables false
set_option linter.unusedSimpArgs false
/-! Back. -/
namespace Go.Proofs.Ytefggfjblhniaaa
open Xf
set_option maxRecDepth 4000
/- incunable/colour.clamp : slots 6, labels 10..9 -/
def ir63 : IR :=
  .seq (.reg false [⟨some 2, none, ⟨[], []⟩, .mov (.k (.int .i64 0))⟩] [2] []) (.seq (.reg false [⟨some 3, none, ⟨[], []⟩, .mov (.t 0)⟩,
    ⟨some 4, none, ⟨[], []⟩, .mx (.t 3) (.k (.int .i64 0))⟩,
    ⟨some 5, none, ⟨[], []⟩, .mn (.t 4) (.k (.int .i64 255))⟩,
    ⟨some 2, none, ⟨[], []⟩, .mov (.t 5)⟩] [0, 3, 4, 5] []) (.ret))
theorem comp63 : (Try.f63.body.bind fun c => compC tab isP chkAll ir63 c) = some ir63 := by kernel_rfl
/- incunable/colour.Back : slots 103, labels 10..34; loop b34_1 keeps [3, 4, 5, 6, 8, 59, 60] -/
def b34_1 : IR :=
  .seq (.reg false [⟨some 61, none, ⟨[], []⟩, .bin 0 .lss (.t 60) (.t 59)⟩] [] []) (.seq (.cond (.t 61) (.skip) (.exit 0)) (.seq (.block 1 (.seq (.reg false [⟨some 62, none, ⟨[], []⟩, .mov (.t 60)⟩,
    ⟨some 9, none, ⟨[], []⟩, .mov (.t 62)⟩] [61, 62] []) (.seq (.reg true [⟨some 63, none, ⟨[], []⟩, .fld (.t 3) 2⟩,
    ⟨some 64, none, ⟨[], []⟩, .ld false none 0 0 (.t 63)⟩,
    ⟨some 65, none, ⟨[], []⟩, .mov (.t 9)⟩,
    ⟨some 66, none, ⟨[], []⟩, .idxS (.t 64) (.t 65) 1⟩,
    ⟨some 67, none, ⟨[], []⟩, .ld true none 0 0 (.t 66)⟩,
    ⟨some 68, none, ⟨[], []⟩, .fld (.t 4) 2⟩,
    ⟨some 69, none, ⟨[], []⟩, .ld false none 0 0 (.t 68)⟩,
    ⟨some 70, none, ⟨[], []⟩, .mov (.t 9)⟩,
    ⟨some 71, none, ⟨[], []⟩, .idxS (.t 69) (.t 70) 1⟩,
    ⟨some 72, none, ⟨[], []⟩, .ld true none 0 0 (.t 71)⟩,
    ⟨some 73, none, ⟨[], []⟩, .fld (.t 5) 2⟩,
    ⟨some 74, none, ⟨[], []⟩, .ld false none 0 0 (.t 73)⟩,
    ⟨some 75, none, ⟨[], []⟩, .mov (.t 9)⟩,
    ⟨some 76, none, ⟨[], []⟩, .idxS (.t 74) (.t 75) 1⟩,
    ⟨some 77, none, ⟨[], []⟩, .ld true none 0 0 (.t 76)⟩,
    ⟨some 78, none, ⟨[], []⟩, .bin 0 .add (.t 72) (.t 77)⟩,
    ⟨some 79, none, ⟨[], []⟩, .bin 0 .shr (.t 78) (.k (.int .u64 2))⟩,
    ⟨some 80, none, ⟨[], []⟩, .bin 0 .sub (.t 67) (.t 79)⟩,
    ⟨some 10, none, ⟨[], []⟩, .mov (.t 80)⟩] [63, 64, 65, 66, 67, 68, 69, 70, 71, 72, 73, 74, 75, 76, 77, 78, 79, 80] []) (.reg true [⟨some 81, none, ⟨[], []⟩, .mov (.t 9)⟩,
    ⟨some 82, none, ⟨[], []⟩, .fld (.t 5) 2⟩,
    ⟨some 83, none, ⟨[], []⟩, .ld false none 0 0 (.t 82)⟩,
    ⟨some 84, none, ⟨[], []⟩, .mov (.t 9)⟩,
    ⟨some 85, none, ⟨[], []⟩, .idxS (.t 83) (.t 84) 1⟩,
    ⟨some 86, none, ⟨[], []⟩, .ld true none 0 0 (.t 85)⟩,
    ⟨some 87, none, ⟨[], []⟩, .mov (.t 10)⟩,
    ⟨some 88, none, ⟨[], []⟩, .bin 0 .add (.t 86) (.t 87)⟩,
    ⟨some 89, none, ⟨[], []⟩, .callp 63 [.t 88]⟩,
    ⟨some 90, none, ⟨[], []⟩, .mov (.t 10)⟩,
    ⟨some 91, none, ⟨[], []⟩, .callp 63 [.t 90]⟩,
    ⟨some 92, none, ⟨[], []⟩, .fld (.t 4) 2⟩,
    ⟨some 93, none, ⟨[], []⟩, .ld false none 0 0 (.t 92)⟩,
    ⟨some 94, none, ⟨[], []⟩, .mov (.t 9)⟩,
    ⟨some 95, none, ⟨[], []⟩, .idxS (.t 93) (.t 94) 1⟩,
    ⟨some 96, none, ⟨[], []⟩, .ld true none 0 0 (.t 95)⟩,
    ⟨some 97, none, ⟨[], []⟩, .mov (.t 10)⟩,
    ⟨some 98, none, ⟨[], []⟩, .bin 0 .add (.t 96) (.t 97)⟩,
    ⟨some 99, none, ⟨[], []⟩, .callp 63 [.t 98]⟩,
    ⟨some 100, none, ⟨[], []⟩, .call none 31 62 [.t 8, .t 81, .t 89, .t 91, .t 99]⟩] [9, 10, 81, 82, 83, 84, 85, 86, 87, 88, 89, 90, 91, 92, 93, 94, 95, 96, 97, 98, 99, 100] [])))) (.reg false [⟨some 101, none, ⟨[], []⟩, .bin 0 .add (.t 60) (.k (.int .i64 1))⟩,
    ⟨some 60, none, ⟨[], []⟩, .mov (.t 101)⟩] [101] [])))
def r34_2 : IR :=
  .seq (.reg false [⟨some 102, none, ⟨[], []⟩, .ld false (some 5) 0 0 (.t 8)⟩,
    ⟨none, none, ⟨[], []⟩, .sto false 5 .i64 (.t 6) (.t 102)⟩,
    ⟨some 7, none, ⟨[], []⟩, .mov (.k (.int .i64 0))⟩] [3, 4, 5, 8, 59, 60, 102] []) (.ret)
def ir34 : IR :=
  .seq (.reg false [⟨some 3, none, ⟨[], []⟩, .box 10 (.t 0)⟩,
    ⟨some 4, none, ⟨[], []⟩, .box 11 (.t 1)⟩,
    ⟨some 5, none, ⟨[], []⟩, .box 12 (.t 2)⟩,
    ⟨some 6, none, ⟨[], []⟩, .alloc 13 [.int .i64 0, .int .i64 0, nilSV, nilSV, nilSV]⟩,
    ⟨some 7, none, ⟨[], []⟩, .mov (.k (.int .i64 0))⟩] [0, 1, 2, 7] []) (.seq (.seq (.reg false [⟨some 11, none, ⟨[], []⟩, .ld false (some 3) 0 0 (.t 3)⟩,
    ⟨some 12, none, ⟨[], []⟩, .call (some 4) 14 60 [.t 11]⟩,
    ⟨some 13, none, ⟨[], []⟩, .not (.t 12)⟩,
    ⟨some 14, none, ⟨[], []⟩, .mov (.t 13)⟩,
    ⟨some 15, some (14, false), ⟨[], []⟩, .ld false (some 3) 0 0 (.t 4)⟩,
    ⟨some 16, some (14, false), ⟨[], []⟩, .call (some 4) 18 60 [.t 15]⟩,
    ⟨some 17, some (14, false), ⟨[], []⟩, .not (.t 16)⟩,
    ⟨some 18, none, ⟨[], []⟩, .pick (.t 14) (.k (.bool true)) (.t 17)⟩,
    ⟨some 19, none, ⟨[], []⟩, .mov (.t 18)⟩,
    ⟨some 20, some (19, false), ⟨[], []⟩, .ld false (some 3) 0 0 (.t 5)⟩,
    ⟨some 21, some (19, false), ⟨[], []⟩, .call (some 4) 22 60 [.t 20]⟩,
    ⟨some 22, some (19, false), ⟨[], []⟩, .not (.t 21)⟩,
    ⟨some 23, none, ⟨[], []⟩, .pick (.t 19) (.k (.bool true)) (.t 22)⟩] [11, 12, 13, 14, 15, 16, 17, 18, 19, 20, 21, 22] []) (.cond (.t 23) (.seq (.reg false [⟨some 24, none, ⟨[], []⟩, .build [.int .i64 0, .int .i64 0, nilSV, nilSV, nilSV] []⟩,
    ⟨none, none, ⟨[], []⟩, .sto false 5 .i64 (.t 6) (.t 24)⟩,
    ⟨some 7, none, ⟨[], []⟩, .mov (.k (.int .i64 70))⟩] [3, 4, 5, 23, 24] []) (.ret)) (.skip))) (.seq (.seq (.reg false [⟨some 25, none, ⟨[], []⟩, .fld (.t 3) 0⟩,
    ⟨some 26, none, ⟨[], []⟩, .ld false none 0 0 (.t 25)⟩,
    ⟨some 27, none, ⟨[], []⟩, .fld (.t 4) 0⟩,
    ⟨some 28, none, ⟨[], []⟩, .ld false none 0 0 (.t 27)⟩,
    ⟨some 29, none, ⟨[], []⟩, .bin 0 .neq (.t 26) (.t 28)⟩,
    ⟨some 30, none, ⟨[], []⟩, .mov (.t 29)⟩,
    ⟨some 31, some (30, false), ⟨[], []⟩, .fld (.t 3) 0⟩,
    ⟨some 32, some (30, false), ⟨[], []⟩, .ld false none 0 0 (.t 31)⟩,
    ⟨some 33, some (30, false), ⟨[], []⟩, .fld (.t 5) 0⟩,
    ⟨some 34, some (30, false), ⟨[], []⟩, .ld false none 0 0 (.t 33)⟩,
    ⟨some 35, some (30, false), ⟨[], []⟩, .bin 0 .neq (.t 32) (.t 34)⟩,
    ⟨some 36, none, ⟨[], []⟩, .pick (.t 30) (.k (.bool true)) (.t 35)⟩,
    ⟨some 37, none, ⟨[], []⟩, .mov (.t 36)⟩,
    ⟨some 38, some (37, false), ⟨[], []⟩, .fld (.t 3) 1⟩,
    ⟨some 39, some (37, false), ⟨[], []⟩, .ld false none 0 0 (.t 38)⟩,
    ⟨some 40, some (37, false), ⟨[], []⟩, .fld (.t 4) 1⟩,
    ⟨some 41, some (37, false), ⟨[], []⟩, .ld false none 0 0 (.t 40)⟩,
    ⟨some 42, some (37, false), ⟨[], []⟩, .bin 0 .neq (.t 39) (.t 41)⟩,
    ⟨some 43, none, ⟨[], []⟩, .pick (.t 37) (.k (.bool true)) (.t 42)⟩,
    ⟨some 44, none, ⟨[], []⟩, .mov (.t 43)⟩,
    ⟨some 45, some (44, false), ⟨[], []⟩, .fld (.t 3) 1⟩,
    ⟨some 46, some (44, false), ⟨[], []⟩, .ld false none 0 0 (.t 45)⟩,
    ⟨some 47, some (44, false), ⟨[], []⟩, .fld (.t 5) 1⟩,
    ⟨some 48, some (44, false), ⟨[], []⟩, .ld false none 0 0 (.t 47)⟩,
    ⟨some 49, some (44, false), ⟨[], []⟩, .bin 0 .neq (.t 46) (.t 48)⟩,
    ⟨some 50, none, ⟨[], []⟩, .pick (.t 44) (.k (.bool true)) (.t 49)⟩] [7, 23, 25, 26, 27, 28, 29, 30, 31, 32, 33, 34, 35, 36, 37, 38, 39, 40, 41, 42, 43, 44, 45, 46, 47, 48, 49] []) (.cond (.t 50) (.seq (.reg false [⟨some 51, none, ⟨[], []⟩, .build [.int .i64 0, .int .i64 0, nilSV, nilSV, nilSV] []⟩,
    ⟨none, none, ⟨[], []⟩, .sto false 5 .i64 (.t 6) (.t 51)⟩,
    ⟨some 7, none, ⟨[], []⟩, .mov (.k (.int .i64 2))⟩] [3, 4, 5, 50, 51] []) (.ret)) (.skip))) (.seq (.reg false [⟨some 52, none, ⟨[], []⟩, .fld (.t 3) 0⟩,
    ⟨some 53, none, ⟨[], []⟩, .ld false none 0 0 (.t 52)⟩,
    ⟨some 54, none, ⟨[], []⟩, .fld (.t 3) 1⟩,
    ⟨some 55, none, ⟨[], []⟩, .ld false none 0 0 (.t 54)⟩,
    ⟨some 56, none, ⟨[], []⟩, .call (some 4) 26 61 [.t 53, .t 55]⟩,
    ⟨some 8, none, ⟨[], []⟩, .alloc 30 [.int .i64 0, .int .i64 0, nilSV, nilSV, nilSV]⟩,
    ⟨none, none, ⟨[], []⟩, .sto false 5 .i64 (.t 8) (.t 56)⟩] [7, 50, 52, 53, 54, 55, 56] []) (.seq (.seq (.reg false [⟨some 57, none, ⟨[], []⟩, .fld (.t 3) 2⟩,
    ⟨some 58, none, ⟨[], []⟩, .ld false none 0 0 (.t 57)⟩,
    ⟨some 59, none, ⟨[], []⟩, .len (.t 58)⟩,
    ⟨some 60, none, ⟨[], []⟩, .mov (.k (.int .i64 0))⟩] [57, 58] []) (.block 0 (.loop b34_1))) (r34_2)))))
def kp34_1 : List Nat := [3, 4, 5, 6, 8, 59, 60]
def kl34_1 : List Nat := [31, 32, 33, 34]
attribute [push_cast] kp34_1 kl34_1
theorem comp34 : (Try.f34.body.bind fun c => compC tab isP chkAll ir34 c) = some ir34 := by kernel_rfl
set_option maxRecDepth 512

def clampI (n : Int) : Int := min (max n 0) 255
def clampF : EntryP
  | [.int .i64 n] => some (True, .int .i64 (clampI n))
  | _ => none
attribute [push_cast] clampF
theorem p63 : EntryPOk Try.prog 63 clampF := by
  refine ⟨⟨_, Try.func63, by kernel_rfl, by kernel_rfl⟩, fun us p v h hp => ?_⟩
  unfold clampF at h
  split at h <;> cases h
  refine tri_evS (hyp (l := []) (lp := []) trivial trivial) Try.func63 comp63 (rs := [.tmp 2]) (by rfl) Try.ntmps63 10 ?_
  simp -implicitDefEqProofs only [push_cast, false_implies, reduceCtorEq, Classical.not_not, Nat.reduceAdd, Nat.reduceSub, Nat.reduceMul, Nat.reduceLeDiff, Nat.reduceLT, Nat.reduceEqDiff, Nat.reduceBEq, Nat.reduceBNe, Int.reduceNeg, Int.reduceToNat, Bool.or_false, Bool.false_or, Bool.or_true, Bool.true_or, BEq.rfl, Bool.not_eq_true, Bool.not_eq_false, decide_eq_true_eq, not_true_eq_false, not_false_eq_true, ite_true, ite_false, List.append_nil, and_assoc, Nat.mul_zero, Nat.zero_mul, ir63, clampF, clampI]
structure Bk where
  y : PlA
  u : PlA
  v : PlA
def Bk.planes (b : Bk) : Prop := b.y.p.Ok ∧ b.u.p.Ok ∧ b.v.p.Ok
def Bk.sides (b : Bk) : Prop := b.u.p.w = b.y.p.w ∧ b.u.p.h = b.y.p.h ∧ b.v.p.w = b.y.p.w ∧ b.v.p.h = b.y.p.h
instance (b : Bk) : Decidable b.planes := by unfold Bk.planes; infer_instance
instance (b : Bk) : Decidable b.sides := by unfold Bk.sides; infer_instance
def Bk.Ok (b : Bk) : Prop := b.planes ∧ b.sides
instance (b : Bk) : Decidable b.Ok := by unfold Bk.Ok; infer_instance
def bG (y u v : List Int) : Nat → Int := fun k => rd y (k : Nat) - (rd u (k : Nat) + rd v (k : Nat)) / 4
def bkR (y u v : List Int) : Nat → Int := fun k => clampI (rd v (k : Nat) + bG y u v k)
def bkG (y u v : List Int) : Nat → Int := fun k => clampI (bG y u v k)
def bkB (y u v : List Int) : Nat → Int := fun k => clampI (rd u (k : Nat) + bG y u v k)
def backI (b : Bk) : Im := if b.Ok then ⟨b.y.p.w, b.y.p.h, tabl b.y.p.xs.length (bkR b.y.p.xs b.u.p.xs b.v.p.xs), tabl b.y.p.xs.length (bkG b.y.p.xs b.u.p.xs b.v.p.xs), tabl b.y.p.xs.length (bkB b.y.p.xs b.u.p.xs b.v.p.xs)⟩ else im0
def Bk.small (b : Bk) : Prop := b.y.p.xs.length ≤ 140737488355328 ∧ b.u.p.xs.length ≤ 140737488355328 ∧ b.v.p.xs.length ≤ 140737488355328
def fs34 : FS where
  A := Bk
  args := fun b => [plV b.y.p b.y.L 0, plV b.u.p b.u.L 1, plV b.v.p b.v.L 2]
  mem := fun b => [some (.ro, b.y.L, .ints .i64 b.y.p.xs), some (.ro, b.u.L, .ints .i64 b.u.p.xs), some (.ro, b.v.L, .ints .i64 b.v.p.xs)]
  pre := fun b => b.small
  res := fun b x => .tup [imV (backI b) (lx b.Ok x 0) (lx b.Ok x 1) (lx b.Ok x 2) 3, .int .i64 (if b.Ok then 0 else if b.planes then 2 else 70)]
  out := fun _ _ => []
  new := fun b x => imN (backI b) (lx b.Ok x)
def inv34 : List SV → Look → Option (Bk × List Nat)
  | [a, b, c], look => match getP look a, getP look b, getP look c with
    | some (a, g), some (b, g'), some (c, g'') => some (⟨a, b, c⟩, g ++ (g' ++ g''))
    | _, _, _ => none
  | _, _ => none
attribute [push_cast] inv34
theorem Bk.Ok.val {w h w1 h1 w2 h2 : Int} {xs ys ws : List Int} {L1 L2 L3 : Xf.Loc} (H : (⟨⟨⟨w, h, xs⟩, L1⟩, ⟨⟨w1, h1, ys⟩, L2⟩, ⟨⟨w2, h2, ws⟩, L3⟩⟩ : Bk).Ok) :
    SidesOk w h ∧ (xs.length : Int) = w * h ∧ ys.length = xs.length ∧ ws.length = xs.length ∧ w1 = w ∧ h1 = h ∧ w2 = w ∧ h2 = h ∧
      ∀ k : Nat, k < xs.length → (-16777216 ≤ rd xs k ∧ rd xs k ≤ 16777216) ∧ (-16777216 ≤ rd ys k ∧ rd ys k ≤ 16777216) ∧ (-16777216 ≤ rd ws k ∧ rd ws k ≤ 16777216) := by
  obtain ⟨⟨⟨a1, a2, a3⟩, ⟨b1, b2, b3⟩, ⟨c1, c2, c3⟩⟩, d1, d2, d3, d4⟩ := H
  simp only at a1 a2 a3 b1 b2 b3 c1 c2 c3 d1 d2 d3 d4
  subst d1 d2 d3 d4
  have e1 : ys.length = xs.length := by omega
  have e2 : ws.length = xs.length := by omega
  exact ⟨a1, a2, e1, e2, rfl, rfl, rfl, rfl, fun k hk => ⟨allIn_rd.1 a3 k hk, allIn_rd.1 b3 k (by omega), allIn_rd.1 c3 k (by omega)⟩⟩
theorem ok34 : FSOk Try.prog 34 fs34 := by
  refine ⟨⟨_, Try.func34, by kernel_rfl, by kernel_rfl⟩, fun a => ⟨by simp [fs34, push_cast, noMine, argOwn, Chunk.frArg], by simp [fs34, push_cast, outOk, Chunk.ext], fun x => .inl (by simp [fs34, push_cast, frNew, frOut, Chunk.fr])⟩, fun a hp => ?_⟩
  obtain ⟨⟨⟨w, h, xs⟩, L1⟩, ⟨⟨w1, h1, ys⟩, L2⟩, ⟨⟨w2, h2, ws⟩, L3⟩⟩ := a
  obtain ⟨hp1, hp2, hp3⟩ : xs.length ≤ 140737488355328 ∧ ys.length ≤ 140737488355328 ∧ ws.length ≤ 140737488355328 := hp
  change Tri Try.prog 34 [plV ⟨w, h, xs⟩ L1 0, plV ⟨w1, h1, ys⟩ L2 1, plV ⟨w2, h2, ws⟩ L3 2] [some (.ro, L1, .ints .i64 xs), some (.ro, L2, .ints .i64 ys), some (.ro, L3, .ints .i64 ws)] (postF fs34 ⟨⟨⟨w, h, xs⟩, L1⟩, ⟨⟨w1, h1, ys⟩, L2⟩, ⟨⟨w2, h2, ws⟩, L3⟩⟩)
  refine tri_evS (hyp (l := [(60, ent60), (61, ent61), (62, ent62)]) (lp := [(63, clampF)]) ⟨e60, e61, e62, trivial⟩ ⟨p63, trivial⟩) Try.func34 comp34 (rs := [.cell 6 (some 5), .tmp 7]) (by rfl) Try.ntmps34 35 ?_
  simp -implicitDefEqProofs only [push_cast, false_implies, reduceCtorEq, Classical.not_not, Nat.reduceAdd, Nat.reduceSub, Nat.reduceMul, Nat.reduceLeDiff, Nat.reduceLT, Nat.reduceEqDiff, Nat.reduceBEq, Nat.reduceBNe, Int.reduceNeg, Int.reduceToNat, Bool.or_false, Bool.false_or, Bool.or_true, Bool.true_or, BEq.rfl, Bool.not_eq_true, Bool.not_eq_false, decide_eq_true_eq, not_true_eq_false, not_false_eq_true, ite_true, ite_false, List.append_nil, and_assoc, Nat.mul_zero, Nat.zero_mul, ir34, fs60, fs61, hp1, hp2, hp3]
  intro X
  have he : (⟨⟨⟨w, h, xs⟩, L1⟩, ⟨⟨w1, h1, ys⟩, L2⟩, ⟨⟨w2, h2, ws⟩, L3⟩⟩ : Bk).planes ↔ ((⟨w, h, xs⟩ : Pl).Ok ∧ (⟨w1, h1, ys⟩ : Pl).Ok ∧ (⟨w2, h2, ws⟩ : Pl).Ok) := Iff.rfl
  have hd : (⟨⟨⟨w, h, xs⟩, L1⟩, ⟨⟨w1, h1, ys⟩, L2⟩, ⟨⟨w2, h2, ws⟩, L3⟩⟩ : Bk).sides ↔ (w1 = w ∧ h1 = h ∧ w2 = w ∧ h2 = h) := Iff.rfl
  have hO : (⟨⟨⟨w, h, xs⟩, L1⟩, ⟨⟨w1, h1, ys⟩, L2⟩, ⟨⟨w2, h2, ws⟩, L3⟩⟩ : Bk).Ok ↔ (⟨⟨⟨w, h, xs⟩, L1⟩, ⟨⟨w1, h1, ys⟩, L2⟩, ⟨⟨w2, h2, ws⟩, L3⟩⟩ : Bk).planes ∧ (⟨⟨⟨w, h, xs⟩, L1⟩, ⟨⟨w1, h1, ys⟩, L2⟩, ⟨⟨w2, h2, ws⟩, L3⟩⟩ : Bk).sides := Iff.rfl
  generalize hb : (⟨⟨⟨w, h, xs⟩, L1⟩, ⟨⟨w1, h1, ys⟩, L2⟩, ⟨⟨w2, h2, ws⟩, L3⟩⟩ : Bk) = b at he hd hO ⊢
  refine ⟨fun hn => ?_, fun hy => ⟨fun hn => ?_, fun hs X1 => ?_⟩⟩
  · have e1 : ¬ b.planes := by rw [he]; simp only [← and_assoc]; intro H; simp [H] at hn
    have e2 : ¬ b.Ok := fun H => e1 (hO.1 H).1
    refine postF.mk' (fun _ => default) [some 0, some 1, some 2, none, none, none] ?_
    subst hb
    simp -implicitDefEqProofs only [push_cast, false_implies, reduceCtorEq, Classical.not_not, Nat.reduceAdd, Nat.reduceSub, Nat.reduceMul, Nat.reduceLeDiff, Nat.reduceLT, Nat.reduceEqDiff, Nat.reduceBEq, Nat.reduceBNe, Int.reduceNeg, Int.reduceToNat, Bool.or_false, Bool.false_or, Bool.or_true, Bool.true_or, BEq.rfl, Bool.not_eq_true, Bool.not_eq_false, decide_eq_true_eq, not_true_eq_false, not_false_eq_true, ite_true, ite_false, List.append_nil, and_assoc, Nat.mul_zero, Nat.zero_mul, fs34, backI, e1, e2, if_false, lx, im0]
  · have e1 : b.planes := by rw [he]; simp only [not_or, Classical.not_not] at hy; exact ⟨hy.1.1, hy.1.2, hy.2⟩
    have e2 : ¬ b.Ok := fun H => by have := hd.1 (hO.1 H).2; omega
    refine postF.mk' (fun _ => default) [some 0, some 1, some 2, none, none, none] ?_
    subst hb
    simp -implicitDefEqProofs only [push_cast, false_implies, reduceCtorEq, Classical.not_not, Nat.reduceAdd, Nat.reduceSub, Nat.reduceMul, Nat.reduceLeDiff, Nat.reduceLT, Nat.reduceEqDiff, Nat.reduceBEq, Nat.reduceBNe, Int.reduceNeg, Int.reduceToNat, Bool.or_false, Bool.false_or, Bool.or_true, Bool.true_or, BEq.rfl, Bool.not_eq_true, Bool.not_eq_false, decide_eq_true_eq, not_true_eq_false, not_false_eq_true, ite_true, ite_false, List.append_nil, and_assoc, Nat.mul_zero, Nat.zero_mul, fs34, backI, e1, e2, if_false, if_true, lx, im0]
  have e1 : b.planes := by rw [he]; simp only [not_or, Classical.not_not] at hy; exact ⟨hy.1.1, hy.1.2, hy.2⟩
  have e2 : b.Ok := hO.2 ⟨e1, hd.2 (by omega)⟩
  subst hb
  obtain ⟨hsd, hl, ly, lz, rfl, rfl, rfl, rfl, hv⟩ := e2.val
  have hm := hsd.bd
  refine ⟨hsd, ?_⟩
  have ez : (w2 * h2).toNat = xs.length := by omega
  refine evS_loopU (A := Nat) kp34_1 kl34_1 (fun i => [(60, .int .i64 i)]) (fun k => [(26, .mine, X1 4 26, .ints .i64 (prt xs.length k (bkR xs ys ws))), (27, .mine, X1 4 27, .ints .i64 (prt xs.length k (bkG xs ys ws))), (28, .mine, X1 4 28, .ints .i64 (prt xs.length k (bkB xs ys ws)))])
    (fun i => i ≤ xs.length) (fun i => xs.length - i) 0 (by omega) (Sub.pt ?_) ?_
  · simp -implicitDefEqProofs only [push_cast, false_implies, reduceCtorEq, Classical.not_not, Nat.reduceAdd, Nat.reduceSub, Nat.reduceMul, Nat.reduceLeDiff, Nat.reduceLT, Nat.reduceEqDiff, Nat.reduceBEq, Nat.reduceBNe, Int.reduceNeg, Int.reduceToNat, Bool.or_false, Bool.false_or, Bool.or_true, Bool.true_or, BEq.rfl, Bool.not_eq_true, Bool.not_eq_false, decide_eq_true_eq, not_true_eq_false, not_false_eq_true, ite_true, ite_false, List.append_nil, and_assoc, Nat.mul_zero, Nat.zero_mul, zs, prt_zero, ez]
  intro k (hk : k ≤ xs.length) K hK
  simp -implicitDefEqProofs only [push_cast, false_implies, reduceCtorEq, Classical.not_not, Nat.reduceAdd, Nat.reduceSub, Nat.reduceMul, Nat.reduceLeDiff, Nat.reduceLT, Nat.reduceEqDiff, Nat.reduceBEq, Nat.reduceBNe, Int.reduceNeg, Int.reduceToNat, Bool.or_false, Bool.false_or, Bool.or_true, Bool.true_or, BEq.rfl, Bool.not_eq_true, Bool.not_eq_false, decide_eq_true_eq, not_true_eq_false, not_false_eq_true, ite_true, ite_false, List.append_nil, and_assoc, Nat.mul_zero, Nat.zero_mul, b34_1, r34_2, fs62]
  refine ⟨fun hk1 => ?_, fun hk1 => ?_⟩
  · have hk' : k < xs.length := by omega
    obtain ⟨v1, v2, v3⟩ := hv k hk'
    have lR := prt_length hk (bkR xs ys ws)
    have lG := prt_length hk (bkG xs ys ws)
    have lB := prt_length hk (bkB xs ys ws)
    repeat (refine And.intro (by first | omega | trivial | (intros; omega)) ?_)
    refine hK (k + 1) hk' (show xs.length - (k + 1) < xs.length - k by omega) _ _ (Sub.pt ?_)
    have e4 : (2 : Int) ^ 2 = 4 := rfl
    have qR : (prt xs.length k (bkR xs ys ws)).set k (clampI (rd ws k + (rd xs k - (rd ys k + rd ws k) / 4))) = prt xs.length (k + 1) (bkR xs ys ws) := prt_set hk' _
    have qG : (prt xs.length k (bkG xs ys ws)).set k (clampI (rd xs k - (rd ys k + rd ws k) / 4)) = prt xs.length (k + 1) (bkG xs ys ws) := prt_set hk' _
    have qB : (prt xs.length k (bkB xs ys ws)).set k (clampI (rd ys k + (rd xs k - (rd ys k + rd ws k) / 4))) = prt xs.length (k + 1) (bkB xs ys ws) := prt_set hk' _
    simp -implicitDefEqProofs only [push_cast, false_implies, reduceCtorEq, Classical.not_not, Nat.reduceAdd, Nat.reduceSub, Nat.reduceMul, Nat.reduceLeDiff, Nat.reduceLT, Nat.reduceEqDiff, Nat.reduceBEq, Nat.reduceBNe, Int.reduceNeg, Int.reduceToNat, Bool.or_false, Bool.false_or, Bool.or_true, Bool.true_or, BEq.rfl, Bool.not_eq_true, Bool.not_eq_false, decide_eq_true_eq, not_true_eq_false, not_false_eq_true, ite_true, ite_false, List.append_nil, and_assoc, Nat.mul_zero, Nat.zero_mul, e4, Int.toNat_natCast, qR, qG, qB]
  · obtain rfl : k = xs.length := by omega
    refine postF.mk' (locs [X1 4 26, X1 4 27, X1 4 28]) [some 0, some 1, some 2, some 26, some 27, some 28] ?_
    simp -implicitDefEqProofs only [push_cast, false_implies, reduceCtorEq, Classical.not_not, Nat.reduceAdd, Nat.reduceSub, Nat.reduceMul, Nat.reduceLeDiff, Nat.reduceLT, Nat.reduceEqDiff, Nat.reduceBEq, Nat.reduceBNe, Int.reduceNeg, Int.reduceToNat, Bool.or_false, Bool.false_or, Bool.or_true, Bool.true_or, BEq.rfl, Bool.not_eq_true, Bool.not_eq_false, decide_eq_true_eq, not_true_eq_false, not_false_eq_true, ite_true, ite_false, List.append_nil, and_assoc, Nat.mul_zero, Nat.zero_mul, fs34, backI, e2, if_true, lx, prt_all, tabl_length, hl]
def ent34 : Entry := spOf fs34 inv34
theorem e34 : EntryOk Try.prog 34 ent34 := entry_of ok34 inv34
@[push_cast] theorem ent34_app (us : List SV) (look : Look) (x : Nat → Xf.Loc) (k : Nat) : ent34 us look x k = spOf fs34 inv34 us look x k := rfl
end Go.Proofs.Ytefggfjblhniaaa
