import Derived.Test.YtefggfjblhniaaaVp
set_option linter.unusedVariables false
set_option linter.unusedSimpArgs false
/-! FromGrey; the law ColourGreys. -/
namespace Go.Proofs.Ytefggfjblhniaaa
open Xf
set_option maxRecDepth 4000
/- slices.Clone[[]int,int] : slots 8, labels 10..11 -/
def ir52 : IR :=
  .seq (.reg false [⟨some 2, none, ⟨[], []⟩, .mov (.k nilSV)⟩] [2] []) (.seq (.seq (.reg false [⟨some 3, none, ⟨[], []⟩, .mov (.t 0)⟩,
    ⟨some 4, none, ⟨[], []⟩, .binS .eql (.t 3) (.k nilSV)⟩] [3] []) (.cond (.t 4) (.seq (.reg false [⟨some 2, none, ⟨[], []⟩, .mov (.k nilSV)⟩] [0, 4] []) (.ret)) (.skip))) (.seq (.reg false [⟨some 5, none, ⟨[], []⟩, .bslice 10 []⟩,
    ⟨some 6, none, ⟨[], []⟩, .mov (.t 0)⟩,
    ⟨some 7, none, ⟨[], []⟩, .app 11 1 8 (.t 5) (.t 6)⟩,
    ⟨some 2, none, ⟨[], []⟩, .mov (.t 7)⟩] [0, 4, 5, 6, 7] []) (.ret)))
theorem comp52 : (Try.f52.body.bind fun c => compC tab isP chkAll ir52 c) = some ir52 := by kernel_rfl
set_option maxRecDepth 512

theorem Dens.mem : ∀ {cs : List SV} {vs : List Value} {c : SV}, Dens cs vs → c ∈ cs → ∃ v, Den c v
  | [], _, _, _, h => by cases h
  | d :: cs, vs, c, hd, h => by
    simp only [Dens] at hd
    obtain ⟨v, vs', _, h1, h2⟩ := hd
    rcases List.mem_cons.1 h with rfl | h
    · exact ⟨v, h1⟩
    · exact Dens.mem h2 h
/-- Of a nil slice that is handed over the length is 0. -/
theorem Tri.ofNil {P : Program} {f : FuncId} {args : List SV} {m : Mem} {post : SV → Mem → Prop} {c : Nat} {L : Xf.Loc} {s : Nat} {n : Int} (hm : SV.sl c L s 0 n ∈ args) (h : (L.nil = true → n = 0) → Tri P f args m post) : Tri P f args m post := by
  intro w vs hd hw
  refine h ?_ w vs hd hw
  intro hn
  obtain ⟨v, hv⟩ := Dens.mem hd hm
  simp only [Den] at hv
  obtain ⟨h1, h2, h3, h4, _⟩ := hv
  have := h4 hn
  omega

def fs52 : FS where
  A := RowA
  args := fun a => [.sl 0 a.L 1 0 a.xs.length]
  mem := rowM
  pre := fun a => a.xs.length ≤ 1000000000000
  res := fun a x => .sl 1 (x 0) 1 0 a.xs.length
  out := fun _ _ => []
  new := fun a x => [(x 0, .ints .i64 a.xs)]
def inv52 : List SV → Look → Option (RowA × List Nat)
  | [.sl c _ 1 0 _], look => match rowI (lkZ look (.ints .i64 []) c) with
    | some (L, .i64, xs) => some (⟨L, xs⟩, [c])
    | _ => none
  | _, _ => none
attribute [push_cast] inv52
theorem ok52 : FSOk Try.prog 52 fs52 := by
  refine ⟨⟨_, Try.func52, by kernel_rfl, by kernel_rfl⟩, fun a => ⟨by simp [fs52, rowM, push_cast, noMine, argOwn, Chunk.frArg], by simp [fs52, rowM, push_cast, outOk, Chunk.ext], fun x => .inl (by simp [fs52, rowM, push_cast, frNew, frOut, Chunk.fr])⟩, fun a hp => ?_⟩
  obtain ⟨L, xs⟩ := a
  change xs.length ≤ 1000000000000 at hp
  change Tri Try.prog 52 [.sl 0 L 1 0 xs.length] [some (.ro, L, .ints .i64 xs)] (postF fs52 ⟨L, xs⟩)
  refine Tri.ofNil (List.mem_singleton.2 rfl) fun hn => ?_
  cases hL : L.nil
  · refine tri_evS (hyp (l := []) (lp := []) trivial trivial) Try.func52 comp52 (rs := [.tmp 2]) (by rfl) Try.ntmps52 12 ?_
    simp -implicitDefEqProofs only [push_cast, false_implies, reduceCtorEq, Classical.not_not, Nat.reduceAdd, Nat.reduceSub, Nat.reduceMul, Nat.reduceLeDiff, Nat.reduceLT, Nat.reduceEqDiff, Nat.reduceBEq, Nat.reduceBNe, Int.reduceNeg, Int.reduceToNat, Bool.or_false, Bool.false_or, Bool.or_true, Bool.true_or, BEq.rfl, Bool.not_eq_true, Bool.not_eq_false, decide_eq_true_eq, not_true_eq_false, not_false_eq_true, ite_true, ite_false, List.append_nil, and_assoc, Nat.mul_zero, Nat.zero_mul, ir52, hL]
    exact ⟨rfl, fun X => ⟨by omega, postF.mk' (fun _ => X 2 11) [some 0, some 11] (by simp -implicitDefEqProofs only [push_cast, false_implies, reduceCtorEq, Classical.not_not, Nat.reduceAdd, Nat.reduceSub, Nat.reduceMul, Nat.reduceLeDiff, Nat.reduceLT, Nat.reduceEqDiff, Nat.reduceBEq, Nat.reduceBNe, Int.reduceNeg, Int.reduceToNat, Bool.or_false, Bool.false_or, Bool.or_true, Bool.true_or, BEq.rfl, Bool.not_eq_true, Bool.not_eq_false, decide_eq_true_eq, not_true_eq_false, not_false_eq_true, ite_true, ite_false, List.append_nil, and_assoc, Nat.mul_zero, Nat.zero_mul, fs52])⟩⟩
  · obtain rfl : xs = [] := List.eq_nil_of_length_eq_zero (by have := hn hL; omega)
    refine tri_evS (hyp (l := []) (lp := []) trivial trivial) Try.func52 comp52 (rs := [.tmp 2]) (by rfl) Try.ntmps52 12 ?_
    simp -implicitDefEqProofs only [push_cast, false_implies, reduceCtorEq, Classical.not_not, Nat.reduceAdd, Nat.reduceSub, Nat.reduceMul, Nat.reduceLeDiff, Nat.reduceLT, Nat.reduceEqDiff, Nat.reduceBEq, Nat.reduceBNe, Int.reduceNeg, Int.reduceToNat, Bool.or_false, Bool.false_or, Bool.or_true, Bool.true_or, BEq.rfl, Bool.not_eq_true, Bool.not_eq_false, decide_eq_true_eq, not_true_eq_false, not_false_eq_true, ite_true, ite_false, List.append_nil, and_assoc, Nat.mul_zero, Nat.zero_mul, ir52, hL]
    exact ⟨rfl, postF.mk' (fun _ => nilLoc0) [some 0, none] (by simp -implicitDefEqProofs only [push_cast, false_implies, reduceCtorEq, Classical.not_not, Nat.reduceAdd, Nat.reduceSub, Nat.reduceMul, Nat.reduceLeDiff, Nat.reduceLT, Nat.reduceEqDiff, Nat.reduceBEq, Nat.reduceBNe, Int.reduceNeg, Int.reduceToNat, Bool.or_false, Bool.false_or, Bool.or_true, Bool.true_or, BEq.rfl, Bool.not_eq_true, Bool.not_eq_false, decide_eq_true_eq, not_true_eq_false, not_false_eq_true, ite_true, ite_false, List.append_nil, and_assoc, Nat.mul_zero, Nat.zero_mul, fs52, List.length_nil])⟩
def ent52 : Entry := spOf fs52 inv52
theorem e52 : EntryOk Try.prog 52 ent52 := entry_of ok52 inv52
@[push_cast] theorem ent52_app (us : List SV) (look : Look) (x : Nat → Xf.Loc) (k : Nat) : ent52 us look x k = spOf fs52 inv52 us look x k := rfl

structure Row2 where
  L : Xf.Loc
  xs : List Int
  M : Xf.Loc
  ys : List Int
theorem Pl.gr_iff {p : Pl} : p.Gr ↔ p.Ok ∧ AllIn 0 255 p.xs := by
  constructor
  · intro H; exact ⟨⟨H.1, H.2.1, fun n hn => by have := H.2.2 n hn; omega⟩, H.2.2⟩
  · intro H; exact ⟨H.1.1, H.1.2.1, H.2⟩
def greyI (p : Pl) : Im := if p.Gr then ⟨p.w, p.h, p.xs, p.xs, p.xs⟩ else im0
end Go.Proofs.Ytefggfjblhniaaa
