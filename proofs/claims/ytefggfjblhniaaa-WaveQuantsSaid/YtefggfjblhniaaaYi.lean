import Derived.Test.YtefggfjblhniaaaYh
set_option linter.unusedVariables false
set_option linter.unusedSimpArgs false
/-! Wave: Quant and Unquant. -/
namespace Go.Proofs.Ytefggfjblhniaaa
open Xf
set_option maxRecDepth 4000
/- incunable/wave.Quant$1 : slots 7, labels 10..9 -/
def ir43 : IR :=
  .seq (.reg false [⟨some 3, none, ⟨[], []⟩, .mov (.k (.int .i64 0))⟩] [3] []) (.seq (.reg false [⟨some 4, none, ⟨[], []⟩, .mov (.t 0)⟩,
    ⟨some 5, none, ⟨[], []⟩, .ld false none 0 0 (.t 1)⟩,
    ⟨some 6, none, ⟨[], []⟩, .bin 1 .quo (.t 4) (.t 5)⟩,
    ⟨some 3, none, ⟨[], []⟩, .mov (.t 6)⟩] [0, 1, 4, 5, 6] []) (.ret))
theorem comp43 : (Try.f43.body.bind fun c => compC tab isP chkAll ir43 c) = some ir43 := by kernel_rfl
/- incunable/wave.each : slots 51, labels 10..26; loop b42_1 keeps [2, 6, 8, 30, 31, 32] -/
def b42_1 : IR :=
  .seq (.reg false [⟨some 33, none, ⟨[], []⟩, .bin 0 .lss (.t 32) (.t 31)⟩] [] []) (.seq (.cond (.t 33) (.skip) (.exit 1)) (.seq (.block 2 (.seq (.reg false [⟨some 34, none, ⟨[], []⟩, .idxS (.t 30) (.t 32) 1⟩,
    ⟨some 35, none, ⟨[], []⟩, .ld true none 0 0 (.t 34)⟩,
    ⟨some 10, none, ⟨[], []⟩, .mov (.t 35)⟩] [33, 34, 35] []) (.reg true [⟨some 36, none, ⟨[], []⟩, .fld (.t 8) 2⟩,
    ⟨some 37, none, ⟨[17, 18, 19, 20, 21], []⟩, .ld false none 0 0 (.t 36)⟩,
    ⟨some 38, none, ⟨[], []⟩, .mov (.t 2)⟩,
    ⟨some 39, none, ⟨[], []⟩, .mov (.t 10)⟩,
    ⟨some 40, none, ⟨[], []⟩, .callv (some 4) 17 (.t 38) [.t 39]⟩,
    ⟨some 41, none, ⟨[], []⟩, .bslice 21 [.t 40]⟩,
    ⟨some 42, none, ⟨[], []⟩, .app 22 1 8 (.t 37) (.t 41)⟩,
    ⟨some 43, none, ⟨[], []⟩, .fld (.t 8) 2⟩,
    ⟨none, none, ⟨[], []⟩, .sto false 1 .i64 (.t 43) (.t 42)⟩] [10, 36, 37, 38, 39, 40, 41, 42, 43] []))) (.reg false [⟨some 44, none, ⟨[], []⟩, .bin 0 .add (.t 32) (.k (.int .i64 1))⟩,
    ⟨some 32, none, ⟨[], []⟩, .mov (.t 44)⟩] [44] [])))
def r42_2 : IR :=
  .seq (.seq (.reg false [⟨some 45, none, ⟨[], []⟩, .fld (.t 8) 2⟩,
    ⟨some 46, none, ⟨[], []⟩, .ld false none 0 0 (.t 45)⟩,
    ⟨some 47, none, ⟨[], []⟩, .call (some 4) 23 37 [.t 46, .k (.int .i64 16777216)]⟩,
    ⟨some 48, none, ⟨[], []⟩, .not (.t 47)⟩] [2, 30, 31, 32, 45, 46, 47] []) (.cond (.t 48) (.seq (.reg false [⟨some 49, none, ⟨[], []⟩, .build [.int .i64 0, .int .i64 0, nilSV] []⟩,
    ⟨none, none, ⟨[], []⟩, .sto false 3 .i64 (.t 6) (.t 49)⟩,
    ⟨some 7, none, ⟨[], []⟩, .mov (.k (.int .i64 4))⟩] [8, 48, 49] []) (.ret)) (.skip))) (.seq (.reg false [⟨some 50, none, ⟨[], []⟩, .ld false (some 3) 0 0 (.t 8)⟩,
    ⟨none, none, ⟨[], []⟩, .sto false 3 .i64 (.t 6) (.t 50)⟩,
    ⟨some 7, none, ⟨[], []⟩, .mov (.k (.int .i64 0))⟩] [8, 48, 50] []) (.ret))
def ir42 : IR :=
  .seq (.reg false [⟨some 3, none, ⟨[], []⟩, .box 10 (.t 0)⟩,
    ⟨some 6, none, ⟨[], []⟩, .alloc 11 [.int .i64 0, .int .i64 0, nilSV]⟩,
    ⟨some 7, none, ⟨[], []⟩, .mov (.k (.int .i64 0))⟩] [0, 7] []) (.seq (.block 0 (.seq (.reg false [⟨some 12, none, ⟨[], []⟩, .ld false (some 3) 0 0 (.t 3)⟩,
    ⟨some 13, none, ⟨[], []⟩, .call (some 4) 12 60 [.t 12]⟩,
    ⟨some 14, none, ⟨[], []⟩, .not (.t 13)⟩,
    ⟨some 11, none, ⟨[], []⟩, .mov (.t 14)⟩] [12, 13, 14] []) (.cond (.t 11) (.seq (.reg false [⟨some 15, none, ⟨[], []⟩, .build [.int .i64 0, .int .i64 0, nilSV] []⟩,
    ⟨none, none, ⟨[], []⟩, .sto false 3 .i64 (.t 6) (.t 15)⟩,
    ⟨some 7, none, ⟨[], []⟩, .mov (.k (.int .i64 70))⟩] [1, 2, 3, 11, 15] []) (.ret)) (.seq (.reg false [⟨some 17, none, ⟨[], []⟩, .mov (.t 1)⟩,
    ⟨some 18, none, ⟨[], []⟩, .bin 0 .lss (.t 17) (.k (.int .i64 1))⟩,
    ⟨some 19, none, ⟨[], []⟩, .mov (.t 18)⟩,
    ⟨some 20, some (19, false), ⟨[], []⟩, .mov (.t 1)⟩,
    ⟨some 21, some (19, false), ⟨[], []⟩, .bin 0 .gtr (.t 20) (.k (.int .i64 1000))⟩,
    ⟨some 22, none, ⟨[], []⟩, .pick (.t 19) (.k (.bool true)) (.t 21)⟩,
    ⟨some 16, none, ⟨[], []⟩, .mov (.t 22)⟩] [1, 11, 17, 18, 19, 20, 21, 22] []) (.cond (.t 16) (.seq (.reg false [⟨some 23, none, ⟨[], []⟩, .build [.int .i64 0, .int .i64 0, nilSV] []⟩,
    ⟨none, none, ⟨[], []⟩, .sto false 3 .i64 (.t 6) (.t 23)⟩,
    ⟨some 7, none, ⟨[], []⟩, .mov (.k (.int .i64 2))⟩] [2, 3, 16, 23] []) (.ret)) (.skip)))))) (.seq (.reg false [⟨some 24, none, ⟨[], []⟩, .fld (.t 3) 0⟩,
    ⟨some 25, none, ⟨[], []⟩, .ld false none 0 0 (.t 24)⟩,
    ⟨some 26, none, ⟨[], []⟩, .fld (.t 3) 1⟩,
    ⟨some 27, none, ⟨[], []⟩, .ld false none 0 0 (.t 26)⟩,
    ⟨some 28, none, ⟨[], []⟩, .build [.int .i64 0, .int .i64 0, nilSV] [(0, 1, .t 25), (1, 1, .t 27)]⟩,
    ⟨some 8, none, ⟨[], []⟩, .alloc 16 [.int .i64 0, .int .i64 0, nilSV]⟩,
    ⟨none, none, ⟨[], []⟩, .sto false 3 .i64 (.t 8) (.t 28)⟩] [7, 16, 24, 25, 26, 27, 28] []) (.seq (.seq (.reg false [⟨some 29, none, ⟨[], []⟩, .fld (.t 3) 2⟩,
    ⟨some 30, none, ⟨[], []⟩, .ld false none 0 0 (.t 29)⟩,
    ⟨some 31, none, ⟨[], []⟩, .len (.t 30)⟩,
    ⟨some 32, none, ⟨[], []⟩, .mov (.k (.int .i64 0))⟩] [3, 29] []) (.block 1 (.loop b42_1))) (r42_2))))
def kp42_1 : List Nat := [2, 6, 8, 30, 31, 32]
def kl42_1 : List Nat := [17, 18, 19, 20, 21, 22]
attribute [push_cast] kp42_1 kl42_1
theorem comp42 : (Try.f42.body.bind fun c => compC tab isP chkAll ir42 c) = some ir42 := by kernel_rfl
/- incunable/wave.Quant : slots 12, labels 10..16 -/
def ir20 : IR :=
  .seq (.reg false [⟨some 2, none, ⟨[], []⟩, .box 10 (.t 0)⟩,
    ⟨some 3, none, ⟨[], []⟩, .box 11 (.t 1)⟩,
    ⟨some 4, none, ⟨[], []⟩, .alloc 12 [.int .i64 0, .int .i64 0, nilSV]⟩,
    ⟨some 5, none, ⟨[], []⟩, .mov (.k (.int .i64 0))⟩] [0, 1, 5] []) (.seq (.reg false [⟨some 6, none, ⟨[], []⟩, .ld false (some 3) 0 0 (.t 2)⟩,
    ⟨some 7, none, ⟨[], []⟩, .ld false none 0 0 (.t 3)⟩,
    ⟨some 8, none, ⟨[], []⟩, .mkf 43 [.t 3]⟩,
    ⟨some 9, none, ⟨[], []⟩, .call (some 4) 13 42 [.t 6, .t 7, .t 8]⟩,
    ⟨some 10, none, ⟨[], []⟩, .ext (.t 9) 0⟩,
    ⟨some 11, none, ⟨[], []⟩, .ext (.t 9) 1⟩,
    ⟨none, none, ⟨[], []⟩, .sto false 3 .i64 (.t 4) (.t 10)⟩,
    ⟨some 5, none, ⟨[], []⟩, .mov (.t 11)⟩] [2, 3, 6, 7, 8, 9, 10, 11] []) (.ret))
theorem comp20 : (Try.f20.body.bind fun c => compC tab isP chkAll ir20 c) = some ir20 := by kernel_rfl
/- incunable/wave.Unquant$1 : slots 7, labels 10..9 -/
def ir45 : IR :=
  .seq (.reg false [⟨some 3, none, ⟨[], []⟩, .mov (.k (.int .i64 0))⟩] [3] []) (.seq (.reg false [⟨some 4, none, ⟨[], []⟩, .mov (.t 0)⟩,
    ⟨some 5, none, ⟨[], []⟩, .ld false none 0 0 (.t 1)⟩,
    ⟨some 6, none, ⟨[], []⟩, .bin 0 .mul (.t 4) (.t 5)⟩,
    ⟨some 3, none, ⟨[], []⟩, .mov (.t 6)⟩] [0, 1, 4, 5, 6] []) (.ret))
theorem comp45 : (Try.f45.body.bind fun c => compC tab isP chkAll ir45 c) = some ir45 := by kernel_rfl
/- incunable/wave.Unquant : slots 12, labels 10..16 -/
def ir22 : IR :=
  .seq (.reg false [⟨some 2, none, ⟨[], []⟩, .box 10 (.t 0)⟩,
    ⟨some 3, none, ⟨[], []⟩, .box 11 (.t 1)⟩,
    ⟨some 4, none, ⟨[], []⟩, .alloc 12 [.int .i64 0, .int .i64 0, nilSV]⟩,
    ⟨some 5, none, ⟨[], []⟩, .mov (.k (.int .i64 0))⟩] [0, 1, 5] []) (.seq (.reg false [⟨some 6, none, ⟨[], []⟩, .ld false (some 3) 0 0 (.t 2)⟩,
    ⟨some 7, none, ⟨[], []⟩, .ld false none 0 0 (.t 3)⟩,
    ⟨some 8, none, ⟨[], []⟩, .mkf 45 [.t 3]⟩,
    ⟨some 9, none, ⟨[], []⟩, .call (some 4) 13 42 [.t 6, .t 7, .t 8]⟩,
    ⟨some 10, none, ⟨[], []⟩, .ext (.t 9) 0⟩,
    ⟨some 11, none, ⟨[], []⟩, .ext (.t 9) 1⟩,
    ⟨none, none, ⟨[], []⟩, .sto false 3 .i64 (.t 4) (.t 10)⟩,
    ⟨some 5, none, ⟨[], []⟩, .mov (.t 11)⟩] [2, 3, 6, 7, 8, 9, 10, 11] []) (.ret))
theorem comp22 : (Try.f22.body.bind fun c => compC tab isP chkAll ir22 c) = some ir22 := by kernel_rfl
set_option maxRecDepth 512

structure QA where
  a : PlA
  q : Int
  M : Xf.Loc
def qR (q : Int) : Prop := 1 ≤ q ∧ q ≤ 1000
instance (q : Int) : Decidable (qR q) := by unfold qR; infer_instance
def eachL (T : Int → Int → Int) (xs : List Int) (q : Int) : List Int := tabl xs.length (fun k => T (rd xs (k : Nat)) q)
def eOk (T : Int → Int → Int) (p : Pl) (q : Int) : Prop := p.Ok ∧ qR q ∧ AllIn (-16777216) 16777216 (eachL T p.xs q)
instance (T : Int → Int → Int) (p : Pl) (q : Int) : Decidable (eOk T p q) := by unfold eOk; infer_instance
def eachP (T : Int → Int → Int) (p : Pl) (q : Int) : Pl := if eOk T p q then ⟨p.w, p.h, eachL T p.xs q⟩ else pl0
def eErr (T : Int → Int → Int) (p : Pl) (q : Int) : Int := if eOk T p q then 0 else if p.Ok then (if qR q then 4 else 2) else 70
structure Q1 where
  n : Int
  L : Xf.Loc
  q : Int
def qT (v q : Int) : Int := v.tdiv q
def uT (v q : Int) : Int := v * q
theorem qT_bd {v q : Int} (hv : -16777216 ≤ v ∧ v ≤ 16777216) : -16777216 ≤ qT v q ∧ qT v q ≤ 16777216 := by
  have := tdiv_bd v q
  unfold qT; omega
theorem uT_bd {v q : Int} (hv : -16777216 ≤ v ∧ v ≤ 16777216) (hq : 1 ≤ q ∧ q ≤ 1000) : -16777216000 ≤ uT v q ∧ uT v q ≤ 16777216000 := by
  unfold uT
  have h1 := Int.mul_le_mul_of_nonneg_right hv.2 (show 0 ≤ q by omega)
  have h2 := Int.mul_le_mul_of_nonneg_right hv.1 (show 0 ≤ q by omega)
  omega

def fs43 : FS where
  A := Q1
  args := fun a => [.int .i64 a.n, .ptr 0 a.L 0 0 0]
  mem := fun a => [some (.ro, a.L, .cells [.int .i64 a.q])]
  pre := fun a => 1 ≤ a.q ∧ a.q ≤ 1000 ∧ -16777216 ≤ a.n ∧ a.n ≤ 16777216
  res := fun a _ => .int .i64 (qT a.n a.q)
  out := fun _ _ => []
  new := fun _ _ => []
def inv43 : List SV → Look → Option (Q1 × List Nat)
  | [.int .i64 n, .ptr c1 _ 0 0 0], look => match rowC (look c1) with
    | some (L1, [.int .i64 q]) => some (⟨n, L1, q⟩, [c1])
    | _ => none
  | _, _ => none
attribute [push_cast] inv43
theorem ok43 : FSOk Try.prog 43 fs43 := by
  refine ⟨⟨_, Try.func43, by kernel_rfl, by kernel_rfl⟩, fun a => ⟨by simp [fs43, push_cast, noMine, argOwn, Chunk.frArg], by simp [fs43, push_cast, outOk, Chunk.ext], fun x => .inl (by simp [fs43, push_cast, frNew, frOut, Chunk.fr])⟩, fun a hp => ?_⟩
  obtain ⟨n, L1, q⟩ := a
  obtain ⟨h1, h2, h3, h4⟩ : 1 ≤ q ∧ q ≤ 1000 ∧ -16777216 ≤ n ∧ n ≤ 16777216 := hp
  change Tri Try.prog 43 [.int .i64 n, .ptr 0 L1 0 0 0] [some (.ro, L1, .cells [.int .i64 q])] (postF fs43 ⟨n, L1, q⟩)
  have hb := qT_bd (v := n) (q := q) ⟨h3, h4⟩
  unfold qT at hb
  refine tri_evS (hyp (l := []) (lp := []) trivial trivial) Try.func43 comp43 (rs := [.tmp 3]) (by rfl) Try.ntmps43 10 ?_
  simp -implicitDefEqProofs only [push_cast, false_implies, reduceCtorEq, Classical.not_not, Nat.reduceAdd, Nat.reduceSub, Nat.reduceMul, Nat.reduceLeDiff, Nat.reduceLT, Nat.reduceEqDiff, Nat.reduceBEq, Nat.reduceBNe, Int.reduceNeg, Int.reduceToNat, Bool.or_false, Bool.false_or, Bool.or_true, Bool.true_or, BEq.rfl, Bool.not_eq_true, Bool.not_eq_false, decide_eq_true_eq, not_true_eq_false, not_false_eq_true, ite_true, ite_false, List.append_nil, and_assoc, Nat.mul_zero, Nat.zero_mul, ir43]
  repeat (refine And.intro (by first | omega | trivial | (intros; omega)) ?_)
  refine postF.mk' (fun _ => default) [some 0] ?_
  simp -implicitDefEqProofs only [push_cast, false_implies, reduceCtorEq, Classical.not_not, Nat.reduceAdd, Nat.reduceSub, Nat.reduceMul, Nat.reduceLeDiff, Nat.reduceLT, Nat.reduceEqDiff, Nat.reduceBEq, Nat.reduceBNe, Int.reduceNeg, Int.reduceToNat, Bool.or_false, Bool.false_or, Bool.or_true, Bool.true_or, BEq.rfl, Bool.not_eq_true, Bool.not_eq_false, decide_eq_true_eq, not_true_eq_false, not_false_eq_true, ite_true, ite_false, List.append_nil, and_assoc, Nat.mul_zero, Nat.zero_mul, fs43, qT]
def ent43 : Entry := spOf fs43 inv43
theorem e43 : EntryOk Try.prog 43 ent43 := entry_of ok43 inv43
@[push_cast] theorem ent43_app (us : List SV) (look : Look) (x : Nat → Xf.Loc) (k : Nat) : ent43 us look x k = spOf fs43 inv43 us look x k := rfl
def fs42q : FS where
  A := QA
  args := fun a => [plV a.a.p a.a.L 0, .int .i64 a.q, .fn 43 [.ptr 1 a.M 0 0 0]]
  mem := fun a => [some (.ro, a.a.L, .ints .i64 a.a.p.xs), some (.ro, a.M, .cells [.int .i64 a.q])]
  pre := fun a => a.a.p.xs.length ≤ 140737488355328
  res := fun a x => .tup [plV (eachP qT a.a.p a.q) (lx (eOk qT a.a.p a.q) x 0) 2, .int .i64 (eErr qT a.a.p a.q)]
  out := fun _ _ => []
  new := fun a x => [(lx (eOk qT a.a.p a.q) x 0, .ints .i64 (eachP qT a.a.p a.q).xs)]
def inv42q : List SV → Look → Option (QA × List Nat)
  | [v, .int .i64 q, .fn 43 [.ptr c1 _ 0 0 0]], look => match getP look v, rowC (look c1) with
    | some (a, g), some (M, [.int .i64 q']) => some (⟨a, q, M⟩, g ++ [c1])
    | _, _ => none
  | _, _ => none
attribute [push_cast] inv42q
theorem ok42q : FSOk Try.prog 42 fs42q := by
  refine ⟨⟨_, Try.func42, by kernel_rfl, by kernel_rfl⟩, fun a => ⟨by simp [fs42q, push_cast, noMine, argOwn, Chunk.frArg], by simp [fs42q, push_cast, outOk, Chunk.ext], fun x => .inl (by simp [fs42q, push_cast, frNew, frOut, Chunk.fr])⟩, fun a hp => ?_⟩
  obtain ⟨⟨⟨w, h, xs⟩, L⟩, q, M⟩ := a
  change xs.length ≤ 140737488355328 at hp
  change Tri Try.prog 42 [plV ⟨w, h, xs⟩ L 0, .int .i64 q, .fn 43 [.ptr 1 M 0 0 0]] [some (.ro, L, .ints .i64 xs), some (.ro, M, .cells [.int .i64 q])] (postF fs42q ⟨⟨⟨w, h, xs⟩, L⟩, q, M⟩)
  refine tri_evS (hyp (l := [(60, ent60), (37, ent37), (43, ent43)]) (lp := []) ⟨e60, e37, e43, trivial⟩ trivial) Try.func42 comp42 (rs := [.cell 6 (some 3), .tmp 7]) (by rfl) Try.ntmps42 27 ?_
  simp -implicitDefEqProofs only [push_cast, false_implies, reduceCtorEq, Classical.not_not, Nat.reduceAdd, Nat.reduceSub, Nat.reduceMul, Nat.reduceLeDiff, Nat.reduceLT, Nat.reduceEqDiff, Nat.reduceBEq, Nat.reduceBNe, Int.reduceNeg, Int.reduceToNat, Bool.or_false, Bool.false_or, Bool.or_true, Bool.true_or, BEq.rfl, Bool.not_eq_true, Bool.not_eq_false, decide_eq_true_eq, not_true_eq_false, not_false_eq_true, ite_true, ite_false, List.append_nil, and_assoc, Nat.mul_zero, Nat.zero_mul, ir42, fs60, hp]
  refine fun X => ⟨fun hn => ?_, fun hy => ⟨fun hb => ?_, fun hg X1 => ?_⟩⟩
  · have e : ¬ eOk qT ⟨w, h, xs⟩ q := fun H => hn H.1
    refine postF.mk' (fun _ => default) [some 0, some 1, none] ?_
    simp -implicitDefEqProofs only [push_cast, false_implies, reduceCtorEq, Classical.not_not, Nat.reduceAdd, Nat.reduceSub, Nat.reduceMul, Nat.reduceLeDiff, Nat.reduceLT, Nat.reduceEqDiff, Nat.reduceBEq, Nat.reduceBNe, Int.reduceNeg, Int.reduceToNat, Bool.or_false, Bool.false_or, Bool.or_true, Bool.true_or, BEq.rfl, Bool.not_eq_true, Bool.not_eq_false, decide_eq_true_eq, not_true_eq_false, not_false_eq_true, ite_true, ite_false, List.append_nil, and_assoc, Nat.mul_zero, Nat.zero_mul, fs42q, eachP, eErr, e, hn, if_false, lx, pl0]
  · have e0 : ¬ qR q := fun H => by obtain ⟨r1, r2⟩ := H; omega
    have e : ¬ eOk qT ⟨w, h, xs⟩ q := fun H => e0 H.2.1
    refine postF.mk' (fun _ => default) [some 0, some 1, none] ?_
    simp -implicitDefEqProofs only [push_cast, false_implies, reduceCtorEq, Classical.not_not, Nat.reduceAdd, Nat.reduceSub, Nat.reduceMul, Nat.reduceLeDiff, Nat.reduceLT, Nat.reduceEqDiff, Nat.reduceBEq, Nat.reduceBNe, Int.reduceNeg, Int.reduceToNat, Bool.or_false, Bool.false_or, Bool.or_true, Bool.true_or, BEq.rfl, Bool.not_eq_true, Bool.not_eq_false, decide_eq_true_eq, not_true_eq_false, not_false_eq_true, ite_true, ite_false, List.append_nil, and_assoc, Nat.mul_zero, Nat.zero_mul, fs42q, eachP, eErr, e, e0, hy, if_false, if_true, lx, pl0]
  have hq : qR q := ⟨by omega, by omega⟩
  obtain ⟨hq1, hq2⟩ := id hq
  obtain ⟨hs, hl, ha⟩ : SidesOk w h ∧ (xs.length : Int) = w * h ∧ AllIn (-16777216) 16777216 xs := id hy
  have hm := hs.bd
  obtain ⟨f, hf⟩ : ∃ f : Nat → Int, (fun k => qT (rd xs (k : Nat)) q) = f := ⟨_, rfl⟩
  have hfk : ∀ k : Nat, qT (rd xs k) q = f k := fun k => by rw [← hf]
  repeat (refine And.intro (by first | omega | trivial | (intros; omega)) ?_)
  refine evS_loopU (A := Nat × Xf.Loc) kp42_1 kl42_1 (fun y => [(32, .int .i64 y.1)]) (fun y => [(16, .mine, X1 5 16, .cells [.int .i64 w, .int .i64 h, .sl 22 y.2 1 0 y.1]), (22, .mine, y.2, .ints .i64 (tabl y.1 f))])
    (fun y => y.1 ≤ xs.length) (fun y => xs.length - y.1) (0, nilLoc) (Nat.zero_le _) (Sub.pt ?_) ?_
  · simp -implicitDefEqProofs only [push_cast, false_implies, reduceCtorEq, Classical.not_not, Nat.reduceAdd, Nat.reduceSub, Nat.reduceMul, Nat.reduceLeDiff, Nat.reduceLT, Nat.reduceEqDiff, Nat.reduceBEq, Nat.reduceBNe, Int.reduceNeg, Int.reduceToNat, Bool.or_false, Bool.false_or, Bool.or_true, Bool.true_or, BEq.rfl, Bool.not_eq_true, Bool.not_eq_false, decide_eq_true_eq, not_true_eq_false, not_false_eq_true, ite_true, ite_false, List.append_nil, and_assoc, Nat.mul_zero, Nat.zero_mul, tabl_zero]
  intro ⟨k, N⟩ (hk : k ≤ xs.length) K hK
  have hle : (tabl k f).length ≤ 140737488355328 := by rw [tabl_length]; omega
  simp -implicitDefEqProofs only [push_cast, false_implies, reduceCtorEq, Classical.not_not, Nat.reduceAdd, Nat.reduceSub, Nat.reduceMul, Nat.reduceLeDiff, Nat.reduceLT, Nat.reduceEqDiff, Nat.reduceBEq, Nat.reduceBNe, Int.reduceNeg, Int.reduceToNat, Bool.or_false, Bool.false_or, Bool.or_true, Bool.true_or, BEq.rfl, Bool.not_eq_true, Bool.not_eq_false, decide_eq_true_eq, not_true_eq_false, not_false_eq_true, ite_true, ite_false, List.append_nil, and_assoc, Nat.mul_zero, Nat.zero_mul, b42_1, r42_2, fs43, fs37]
  refine ⟨fun hl => ?_, fun hl => ?_⟩
  · have hv := rd_bd ha (by omega) (by omega) (k : Int)
    simp only [tabl_length]
    repeat (refine And.intro (by first | omega | trivial | (intros; omega)) ?_)
    intro X2
    repeat (refine And.intro (by first | omega | trivial | (intros; omega)) ?_)
    refine hK (k + 1, X2 6 22) (show k + 1 ≤ xs.length by omega) (show xs.length - (k + 1) < xs.length - k by omega) _ _ (Sub.pt ?_)
    simp -implicitDefEqProofs only [push_cast, false_implies, reduceCtorEq, Classical.not_not, Nat.reduceAdd, Nat.reduceSub, Nat.reduceMul, Nat.reduceLeDiff, Nat.reduceLT, Nat.reduceEqDiff, Nat.reduceBEq, Nat.reduceBNe, Int.reduceNeg, Int.reduceToNat, Bool.or_false, Bool.false_or, Bool.or_true, Bool.true_or, BEq.rfl, Bool.not_eq_true, Bool.not_eq_false, decide_eq_true_eq, not_true_eq_false, not_false_eq_true, ite_true, ite_false, List.append_nil, and_assoc, Nat.mul_zero, Nat.zero_mul, hfk, tabl_snoc]
  · obtain rfl : k = xs.length := by omega
    have hL : tabl xs.length f = eachL qT xs q := by unfold eachL; rw [hf]
    rw [tabl_length]
    repeat (refine And.intro (by first | omega | trivial | (intros; omega)) ?_)
    refine ⟨fun hn => ?_, fun hlim => ?_⟩
    · rw [hL] at hn
      have e : ¬ eOk qT ⟨w, h, xs⟩ q := fun H => hn H.2.2
      refine postF.mk' (fun _ => default) [some 0, some 1, none] ?_
      simp -implicitDefEqProofs only [push_cast, false_implies, reduceCtorEq, Classical.not_not, Nat.reduceAdd, Nat.reduceSub, Nat.reduceMul, Nat.reduceLeDiff, Nat.reduceLT, Nat.reduceEqDiff, Nat.reduceBEq, Nat.reduceBNe, Int.reduceNeg, Int.reduceToNat, Bool.or_false, Bool.false_or, Bool.or_true, Bool.true_or, BEq.rfl, Bool.not_eq_true, Bool.not_eq_false, decide_eq_true_eq, not_true_eq_false, not_false_eq_true, ite_true, ite_false, List.append_nil, and_assoc, Nat.mul_zero, Nat.zero_mul, fs42q, eachP, eErr, e, hq, hy, if_false, if_true, lx, pl0]
    · rw [hL] at hlim
      have e : eOk qT ⟨w, h, xs⟩ q := ⟨hy, hq, hlim⟩
      refine postF.mk' (fun _ => N) [some 0, some 1, some 22] ?_
      have hel : (eachL qT xs q).length = xs.length := tabl_length _ _
      simp -implicitDefEqProofs only [push_cast, false_implies, reduceCtorEq, Classical.not_not, Nat.reduceAdd, Nat.reduceSub, Nat.reduceMul, Nat.reduceLeDiff, Nat.reduceLT, Nat.reduceEqDiff, Nat.reduceBEq, Nat.reduceBNe, Int.reduceNeg, Int.reduceToNat, Bool.or_false, Bool.false_or, Bool.or_true, Bool.true_or, BEq.rfl, Bool.not_eq_true, Bool.not_eq_false, decide_eq_true_eq, not_true_eq_false, not_false_eq_true, ite_true, ite_false, List.append_nil, and_assoc, Nat.mul_zero, Nat.zero_mul, fs42q, eachP, eErr, e, hL, hel, if_true, lx]
def ent42q : Entry := spOf fs42q inv42q
theorem e42q : EntryOk Try.prog 42 ent42q := entry_of ok42q inv42q
@[push_cast] theorem ent42q_app (us : List SV) (look : Look) (x : Nat → Xf.Loc) (k : Nat) : ent42q us look x k = spOf fs42q inv42q us look x k := rfl
def fs20 : FS where
  A := QA
  args := fun a => [plV a.a.p a.a.L 0, .int .i64 a.q]
  mem := fun a => [some (.ro, a.a.L, .ints .i64 a.a.p.xs)]
  pre := fun a => a.a.p.xs.length ≤ 140737488355328
  res := fun a x => .tup [plV (eachP qT a.a.p a.q) (lx (eOk qT a.a.p a.q) x 0) 1, .int .i64 (eErr qT a.a.p a.q)]
  out := fun _ _ => []
  new := fun a x => [(lx (eOk qT a.a.p a.q) x 0, .ints .i64 (eachP qT a.a.p a.q).xs)]
def inv20 : List SV → Look → Option (QA × List Nat)
  | [v, .int .i64 q], look => match getP look v with
    | some (a, g) => some (⟨a, q, nilLoc⟩, g)
    | _ => none
  | _, _ => none
attribute [push_cast] inv20
theorem ok20 : FSOk Try.prog 20 fs20 := by
  refine ⟨⟨_, Try.func20, by kernel_rfl, by kernel_rfl⟩, fun a => ⟨by simp [fs20, push_cast, noMine, argOwn, Chunk.frArg], by simp [fs20, push_cast, outOk, Chunk.ext], fun x => .inl (by simp [fs20, push_cast, frNew, frOut, Chunk.fr])⟩, fun a hp => ?_⟩
  obtain ⟨⟨⟨w, h, xs⟩, L⟩, q, M⟩ := a
  change xs.length ≤ 140737488355328 at hp
  change Tri Try.prog 20 [plV ⟨w, h, xs⟩ L 0, .int .i64 q] [some (.ro, L, .ints .i64 xs)] (postF fs20 ⟨⟨⟨w, h, xs⟩, L⟩, q, M⟩)
  refine tri_evS (hyp (l := [(42, ent42q)]) (lp := []) ⟨e42q, trivial⟩ trivial) Try.func20 comp20 (rs := [.cell 4 (some 3), .tmp 5]) (by rfl) Try.ntmps20 17 ?_
  simp -implicitDefEqProofs only [push_cast, false_implies, reduceCtorEq, Classical.not_not, Nat.reduceAdd, Nat.reduceSub, Nat.reduceMul, Nat.reduceLeDiff, Nat.reduceLT, Nat.reduceEqDiff, Nat.reduceBEq, Nat.reduceBNe, Int.reduceNeg, Int.reduceToNat, Bool.or_false, Bool.false_or, Bool.or_true, Bool.true_or, BEq.rfl, Bool.not_eq_true, Bool.not_eq_false, decide_eq_true_eq, not_true_eq_false, not_false_eq_true, ite_true, ite_false, List.append_nil, and_assoc, Nat.mul_zero, Nat.zero_mul, ir20, fs42q]
  exact fun X X1 => ⟨hp, postF.mk' (fun j => X1 3 (13 + j)) [some 0, some 13] (by simp -implicitDefEqProofs only [push_cast, false_implies, reduceCtorEq, Classical.not_not, Nat.reduceAdd, Nat.reduceSub, Nat.reduceMul, Nat.reduceLeDiff, Nat.reduceLT, Nat.reduceEqDiff, Nat.reduceBEq, Nat.reduceBNe, Int.reduceNeg, Int.reduceToNat, Bool.or_false, Bool.false_or, Bool.or_true, Bool.true_or, BEq.rfl, Bool.not_eq_true, Bool.not_eq_false, decide_eq_true_eq, not_true_eq_false, not_false_eq_true, ite_true, ite_false, List.append_nil, and_assoc, Nat.mul_zero, Nat.zero_mul, fs20, fs42q])⟩
def ent20 : Entry := spOf fs20 inv20
theorem e20 : EntryOk Try.prog 20 ent20 := entry_of ok20 inv20
@[push_cast] theorem ent20_app (us : List SV) (look : Look) (x : Nat → Xf.Loc) (k : Nat) : ent20 us look x k = spOf fs20 inv20 us look x k := rfl

def fs45 : FS where
  A := Q1
  args := fun a => [.int .i64 a.n, .ptr 0 a.L 0 0 0]
  mem := fun a => [some (.ro, a.L, .cells [.int .i64 a.q])]
  pre := fun a => 1 ≤ a.q ∧ a.q ≤ 1000 ∧ -16777216 ≤ a.n ∧ a.n ≤ 16777216
  res := fun a _ => .int .i64 (uT a.n a.q)
  out := fun _ _ => []
  new := fun _ _ => []
def inv45 : List SV → Look → Option (Q1 × List Nat)
  | [.int .i64 n, .ptr c1 _ 0 0 0], look => match rowC (look c1) with
    | some (L1, [.int .i64 q]) => some (⟨n, L1, q⟩, [c1])
    | _ => none
  | _, _ => none
attribute [push_cast] inv45
theorem ok45 : FSOk Try.prog 45 fs45 := by
  refine ⟨⟨_, Try.func45, by kernel_rfl, by kernel_rfl⟩, fun a => ⟨by simp [fs45, push_cast, noMine, argOwn, Chunk.frArg], by simp [fs45, push_cast, outOk, Chunk.ext], fun x => .inl (by simp [fs45, push_cast, frNew, frOut, Chunk.fr])⟩, fun a hp => ?_⟩
  obtain ⟨n, L1, q⟩ := a
  obtain ⟨h1, h2, h3, h4⟩ : 1 ≤ q ∧ q ≤ 1000 ∧ -16777216 ≤ n ∧ n ≤ 16777216 := hp
  change Tri Try.prog 45 [.int .i64 n, .ptr 0 L1 0 0 0] [some (.ro, L1, .cells [.int .i64 q])] (postF fs45 ⟨n, L1, q⟩)
  have hb := uT_bd (v := n) (q := q) ⟨h3, h4⟩ ⟨h1, h2⟩
  unfold uT at hb
  refine tri_evS (hyp (l := []) (lp := []) trivial trivial) Try.func45 comp45 (rs := [.tmp 3]) (by rfl) Try.ntmps45 10 ?_
  simp -implicitDefEqProofs only [push_cast, false_implies, reduceCtorEq, Classical.not_not, Nat.reduceAdd, Nat.reduceSub, Nat.reduceMul, Nat.reduceLeDiff, Nat.reduceLT, Nat.reduceEqDiff, Nat.reduceBEq, Nat.reduceBNe, Int.reduceNeg, Int.reduceToNat, Bool.or_false, Bool.false_or, Bool.or_true, Bool.true_or, BEq.rfl, Bool.not_eq_true, Bool.not_eq_false, decide_eq_true_eq, not_true_eq_false, not_false_eq_true, ite_true, ite_false, List.append_nil, and_assoc, Nat.mul_zero, Nat.zero_mul, ir45]
  repeat (refine And.intro (by first | omega | trivial | (intros; omega)) ?_)
  refine postF.mk' (fun _ => default) [some 0] ?_
  simp -implicitDefEqProofs only [push_cast, false_implies, reduceCtorEq, Classical.not_not, Nat.reduceAdd, Nat.reduceSub, Nat.reduceMul, Nat.reduceLeDiff, Nat.reduceLT, Nat.reduceEqDiff, Nat.reduceBEq, Nat.reduceBNe, Int.reduceNeg, Int.reduceToNat, Bool.or_false, Bool.false_or, Bool.or_true, Bool.true_or, BEq.rfl, Bool.not_eq_true, Bool.not_eq_false, decide_eq_true_eq, not_true_eq_false, not_false_eq_true, ite_true, ite_false, List.append_nil, and_assoc, Nat.mul_zero, Nat.zero_mul, fs45, uT]
def ent45 : Entry := spOf fs45 inv45
theorem e45 : EntryOk Try.prog 45 ent45 := entry_of ok45 inv45
@[push_cast] theorem ent45_app (us : List SV) (look : Look) (x : Nat → Xf.Loc) (k : Nat) : ent45 us look x k = spOf fs45 inv45 us look x k := rfl
def fs42u : FS where
  A := QA
  args := fun a => [plV a.a.p a.a.L 0, .int .i64 a.q, .fn 45 [.ptr 1 a.M 0 0 0]]
  mem := fun a => [some (.ro, a.a.L, .ints .i64 a.a.p.xs), some (.ro, a.M, .cells [.int .i64 a.q])]
  pre := fun a => a.a.p.xs.length ≤ 140737488355328
  res := fun a x => .tup [plV (eachP uT a.a.p a.q) (lx (eOk uT a.a.p a.q) x 0) 2, .int .i64 (eErr uT a.a.p a.q)]
  out := fun _ _ => []
  new := fun a x => [(lx (eOk uT a.a.p a.q) x 0, .ints .i64 (eachP uT a.a.p a.q).xs)]
def inv42u : List SV → Look → Option (QA × List Nat)
  | [v, .int .i64 q, .fn 45 [.ptr c1 _ 0 0 0]], look => match getP look v, rowC (look c1) with
    | some (a, g), some (M, [.int .i64 q']) => some (⟨a, q, M⟩, g ++ [c1])
    | _, _ => none
  | _, _ => none
attribute [push_cast] inv42u
theorem ok42u : FSOk Try.prog 42 fs42u := by
  refine ⟨⟨_, Try.func42, by kernel_rfl, by kernel_rfl⟩, fun a => ⟨by simp [fs42u, push_cast, noMine, argOwn, Chunk.frArg], by simp [fs42u, push_cast, outOk, Chunk.ext], fun x => .inl (by simp [fs42u, push_cast, frNew, frOut, Chunk.fr])⟩, fun a hp => ?_⟩
  obtain ⟨⟨⟨w, h, xs⟩, L⟩, q, M⟩ := a
  change xs.length ≤ 140737488355328 at hp
  change Tri Try.prog 42 [plV ⟨w, h, xs⟩ L 0, .int .i64 q, .fn 45 [.ptr 1 M 0 0 0]] [some (.ro, L, .ints .i64 xs), some (.ro, M, .cells [.int .i64 q])] (postF fs42u ⟨⟨⟨w, h, xs⟩, L⟩, q, M⟩)
  refine tri_evS (hyp (l := [(60, ent60), (37, ent37), (45, ent45)]) (lp := []) ⟨e60, e37, e45, trivial⟩ trivial) Try.func42 comp42 (rs := [.cell 6 (some 3), .tmp 7]) (by rfl) Try.ntmps42 27 ?_
  simp -implicitDefEqProofs only [push_cast, false_implies, reduceCtorEq, Classical.not_not, Nat.reduceAdd, Nat.reduceSub, Nat.reduceMul, Nat.reduceLeDiff, Nat.reduceLT, Nat.reduceEqDiff, Nat.reduceBEq, Nat.reduceBNe, Int.reduceNeg, Int.reduceToNat, Bool.or_false, Bool.false_or, Bool.or_true, Bool.true_or, BEq.rfl, Bool.not_eq_true, Bool.not_eq_false, decide_eq_true_eq, not_true_eq_false, not_false_eq_true, ite_true, ite_false, List.append_nil, and_assoc, Nat.mul_zero, Nat.zero_mul, ir42, fs60, hp]
  refine fun X => ⟨fun hn => ?_, fun hy => ⟨fun hb => ?_, fun hg X1 => ?_⟩⟩
  · have e : ¬ eOk uT ⟨w, h, xs⟩ q := fun H => hn H.1
    refine postF.mk' (fun _ => default) [some 0, some 1, none] ?_
    simp -implicitDefEqProofs only [push_cast, false_implies, reduceCtorEq, Classical.not_not, Nat.reduceAdd, Nat.reduceSub, Nat.reduceMul, Nat.reduceLeDiff, Nat.reduceLT, Nat.reduceEqDiff, Nat.reduceBEq, Nat.reduceBNe, Int.reduceNeg, Int.reduceToNat, Bool.or_false, Bool.false_or, Bool.or_true, Bool.true_or, BEq.rfl, Bool.not_eq_true, Bool.not_eq_false, decide_eq_true_eq, not_true_eq_false, not_false_eq_true, ite_true, ite_false, List.append_nil, and_assoc, Nat.mul_zero, Nat.zero_mul, fs42u, eachP, eErr, e, hn, if_false, lx, pl0]
  · have e0 : ¬ qR q := fun H => by obtain ⟨r1, r2⟩ := H; omega
    have e : ¬ eOk uT ⟨w, h, xs⟩ q := fun H => e0 H.2.1
    refine postF.mk' (fun _ => default) [some 0, some 1, none] ?_
    simp -implicitDefEqProofs only [push_cast, false_implies, reduceCtorEq, Classical.not_not, Nat.reduceAdd, Nat.reduceSub, Nat.reduceMul, Nat.reduceLeDiff, Nat.reduceLT, Nat.reduceEqDiff, Nat.reduceBEq, Nat.reduceBNe, Int.reduceNeg, Int.reduceToNat, Bool.or_false, Bool.false_or, Bool.or_true, Bool.true_or, BEq.rfl, Bool.not_eq_true, Bool.not_eq_false, decide_eq_true_eq, not_true_eq_false, not_false_eq_true, ite_true, ite_false, List.append_nil, and_assoc, Nat.mul_zero, Nat.zero_mul, fs42u, eachP, eErr, e, e0, hy, if_false, if_true, lx, pl0]
  have hq : qR q := ⟨by omega, by omega⟩
  obtain ⟨hq1, hq2⟩ := id hq
  obtain ⟨hs, hl, ha⟩ : SidesOk w h ∧ (xs.length : Int) = w * h ∧ AllIn (-16777216) 16777216 xs := id hy
  have hm := hs.bd
  obtain ⟨f, hf⟩ : ∃ f : Nat → Int, (fun k => uT (rd xs (k : Nat)) q) = f := ⟨_, rfl⟩
  have hfk : ∀ k : Nat, uT (rd xs k) q = f k := fun k => by rw [← hf]
  repeat (refine And.intro (by first | omega | trivial | (intros; omega)) ?_)
  refine evS_loopU (A := Nat × Xf.Loc) kp42_1 kl42_1 (fun y => [(32, .int .i64 y.1)]) (fun y => [(16, .mine, X1 5 16, .cells [.int .i64 w, .int .i64 h, .sl 22 y.2 1 0 y.1]), (22, .mine, y.2, .ints .i64 (tabl y.1 f))])
    (fun y => y.1 ≤ xs.length) (fun y => xs.length - y.1) (0, nilLoc) (Nat.zero_le _) (Sub.pt ?_) ?_
  · simp -implicitDefEqProofs only [push_cast, false_implies, reduceCtorEq, Classical.not_not, Nat.reduceAdd, Nat.reduceSub, Nat.reduceMul, Nat.reduceLeDiff, Nat.reduceLT, Nat.reduceEqDiff, Nat.reduceBEq, Nat.reduceBNe, Int.reduceNeg, Int.reduceToNat, Bool.or_false, Bool.false_or, Bool.or_true, Bool.true_or, BEq.rfl, Bool.not_eq_true, Bool.not_eq_false, decide_eq_true_eq, not_true_eq_false, not_false_eq_true, ite_true, ite_false, List.append_nil, and_assoc, Nat.mul_zero, Nat.zero_mul, tabl_zero]
  intro ⟨k, N⟩ (hk : k ≤ xs.length) K hK
  have hle : (tabl k f).length ≤ 140737488355328 := by rw [tabl_length]; omega
  simp -implicitDefEqProofs only [push_cast, false_implies, reduceCtorEq, Classical.not_not, Nat.reduceAdd, Nat.reduceSub, Nat.reduceMul, Nat.reduceLeDiff, Nat.reduceLT, Nat.reduceEqDiff, Nat.reduceBEq, Nat.reduceBNe, Int.reduceNeg, Int.reduceToNat, Bool.or_false, Bool.false_or, Bool.or_true, Bool.true_or, BEq.rfl, Bool.not_eq_true, Bool.not_eq_false, decide_eq_true_eq, not_true_eq_false, not_false_eq_true, ite_true, ite_false, List.append_nil, and_assoc, Nat.mul_zero, Nat.zero_mul, b42_1, r42_2, fs45, fs37]
  refine ⟨fun hl => ?_, fun hl => ?_⟩
  · have hv := rd_bd ha (by omega) (by omega) (k : Int)
    simp only [tabl_length]
    repeat (refine And.intro (by first | omega | trivial | (intros; omega)) ?_)
    intro X2
    repeat (refine And.intro (by first | omega | trivial | (intros; omega)) ?_)
    refine hK (k + 1, X2 6 22) (show k + 1 ≤ xs.length by omega) (show xs.length - (k + 1) < xs.length - k by omega) _ _ (Sub.pt ?_)
    simp -implicitDefEqProofs only [push_cast, false_implies, reduceCtorEq, Classical.not_not, Nat.reduceAdd, Nat.reduceSub, Nat.reduceMul, Nat.reduceLeDiff, Nat.reduceLT, Nat.reduceEqDiff, Nat.reduceBEq, Nat.reduceBNe, Int.reduceNeg, Int.reduceToNat, Bool.or_false, Bool.false_or, Bool.or_true, Bool.true_or, BEq.rfl, Bool.not_eq_true, Bool.not_eq_false, decide_eq_true_eq, not_true_eq_false, not_false_eq_true, ite_true, ite_false, List.append_nil, and_assoc, Nat.mul_zero, Nat.zero_mul, hfk, tabl_snoc]
  · obtain rfl : k = xs.length := by omega
    have hL : tabl xs.length f = eachL uT xs q := by unfold eachL; rw [hf]
    rw [tabl_length]
    repeat (refine And.intro (by first | omega | trivial | (intros; omega)) ?_)
    refine ⟨fun hn => ?_, fun hlim => ?_⟩
    · rw [hL] at hn
      have e : ¬ eOk uT ⟨w, h, xs⟩ q := fun H => hn H.2.2
      refine postF.mk' (fun _ => default) [some 0, some 1, none] ?_
      simp -implicitDefEqProofs only [push_cast, false_implies, reduceCtorEq, Classical.not_not, Nat.reduceAdd, Nat.reduceSub, Nat.reduceMul, Nat.reduceLeDiff, Nat.reduceLT, Nat.reduceEqDiff, Nat.reduceBEq, Nat.reduceBNe, Int.reduceNeg, Int.reduceToNat, Bool.or_false, Bool.false_or, Bool.or_true, Bool.true_or, BEq.rfl, Bool.not_eq_true, Bool.not_eq_false, decide_eq_true_eq, not_true_eq_false, not_false_eq_true, ite_true, ite_false, List.append_nil, and_assoc, Nat.mul_zero, Nat.zero_mul, fs42u, eachP, eErr, e, hq, hy, if_false, if_true, lx, pl0]
    · rw [hL] at hlim
      have e : eOk uT ⟨w, h, xs⟩ q := ⟨hy, hq, hlim⟩
      refine postF.mk' (fun _ => N) [some 0, some 1, some 22] ?_
      have hel : (eachL uT xs q).length = xs.length := tabl_length _ _
      simp -implicitDefEqProofs only [push_cast, false_implies, reduceCtorEq, Classical.not_not, Nat.reduceAdd, Nat.reduceSub, Nat.reduceMul, Nat.reduceLeDiff, Nat.reduceLT, Nat.reduceEqDiff, Nat.reduceBEq, Nat.reduceBNe, Int.reduceNeg, Int.reduceToNat, Bool.or_false, Bool.false_or, Bool.or_true, Bool.true_or, BEq.rfl, Bool.not_eq_true, Bool.not_eq_false, decide_eq_true_eq, not_true_eq_false, not_false_eq_true, ite_true, ite_false, List.append_nil, and_assoc, Nat.mul_zero, Nat.zero_mul, fs42u, eachP, eErr, e, hL, hel, if_true, lx]
def ent42u : Entry := spOf fs42u inv42u
theorem e42u : EntryOk Try.prog 42 ent42u := entry_of ok42u inv42u
@[push_cast] theorem ent42u_app (us : List SV) (look : Look) (x : Nat → Xf.Loc) (k : Nat) : ent42u us look x k = spOf fs42u inv42u us look x k := rfl
def fs22 : FS where
  A := QA
  args := fun a => [plV a.a.p a.a.L 0, .int .i64 a.q]
  mem := fun a => [some (.ro, a.a.L, .ints .i64 a.a.p.xs)]
  pre := fun a => a.a.p.xs.length ≤ 140737488355328
  res := fun a x => .tup [plV (eachP uT a.a.p a.q) (lx (eOk uT a.a.p a.q) x 0) 1, .int .i64 (eErr uT a.a.p a.q)]
  out := fun _ _ => []
  new := fun a x => [(lx (eOk uT a.a.p a.q) x 0, .ints .i64 (eachP uT a.a.p a.q).xs)]
def inv22 : List SV → Look → Option (QA × List Nat)
  | [v, .int .i64 q], look => match getP look v with
    | some (a, g) => some (⟨a, q, nilLoc⟩, g)
    | _ => none
  | _, _ => none
attribute [push_cast] inv22
theorem ok22 : FSOk Try.prog 22 fs22 := by
  refine ⟨⟨_, Try.func22, by kernel_rfl, by kernel_rfl⟩, fun a => ⟨by simp [fs22, push_cast, noMine, argOwn, Chunk.frArg], by simp [fs22, push_cast, outOk, Chunk.ext], fun x => .inl (by simp [fs22, push_cast, frNew, frOut, Chunk.fr])⟩, fun a hp => ?_⟩
  obtain ⟨⟨⟨w, h, xs⟩, L⟩, q, M⟩ := a
  change xs.length ≤ 140737488355328 at hp
  change Tri Try.prog 22 [plV ⟨w, h, xs⟩ L 0, .int .i64 q] [some (.ro, L, .ints .i64 xs)] (postF fs22 ⟨⟨⟨w, h, xs⟩, L⟩, q, M⟩)
  refine tri_evS (hyp (l := [(42, ent42u)]) (lp := []) ⟨e42u, trivial⟩ trivial) Try.func22 comp22 (rs := [.cell 4 (some 3), .tmp 5]) (by rfl) Try.ntmps22 17 ?_
  simp -implicitDefEqProofs only [push_cast, false_implies, reduceCtorEq, Classical.not_not, Nat.reduceAdd, Nat.reduceSub, Nat.reduceMul, Nat.reduceLeDiff, Nat.reduceLT, Nat.reduceEqDiff, Nat.reduceBEq, Nat.reduceBNe, Int.reduceNeg, Int.reduceToNat, Bool.or_false, Bool.false_or, Bool.or_true, Bool.true_or, BEq.rfl, Bool.not_eq_true, Bool.not_eq_false, decide_eq_true_eq, not_true_eq_false, not_false_eq_true, ite_true, ite_false, List.append_nil, and_assoc, Nat.mul_zero, Nat.zero_mul, ir22, fs42u]
  exact fun X X1 => ⟨hp, postF.mk' (fun j => X1 3 (13 + j)) [some 0, some 13] (by simp -implicitDefEqProofs only [push_cast, false_implies, reduceCtorEq, Classical.not_not, Nat.reduceAdd, Nat.reduceSub, Nat.reduceMul, Nat.reduceLeDiff, Nat.reduceLT, Nat.reduceEqDiff, Nat.reduceBEq, Nat.reduceBNe, Int.reduceNeg, Int.reduceToNat, Bool.or_false, Bool.false_or, Bool.or_true, Bool.true_or, BEq.rfl, Bool.not_eq_true, Bool.not_eq_false, decide_eq_true_eq, not_true_eq_false, not_false_eq_true, ite_true, ite_false, List.append_nil, and_assoc, Nat.mul_zero, Nat.zero_mul, fs22, fs42u])⟩
def ent22 : Entry := spOf fs22 inv22
theorem e22 : EntryOk Try.prog 22 ent22 := entry_of ok22 inv22
@[push_cast] theorem ent22_app (us : List SV) (look : Look) (x : Nat → Xf.Loc) (k : Nat) : ent22 us look x k = spOf fs22 inv22 us look x k := rfl
end Go.Proofs.Ytefggfjblhniaaa
