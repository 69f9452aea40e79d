/- Here the given statement SliceDecodesSaid is proved: whatever the input, SliceDecodes returns true and leaves what it was given as it was. No condition. -/
import Derived.Test.YtkmiklngnainfaaPDecodes0
import Derived.Test.YtkmiklngnainfaaKc
import Derived.Test.YtkmiklngnainfaaRows
import Derived.ProofKit
import Derived.OpenShut
import Derived.SizedLaws
import Derived.ChangeOld
import Derived.Below
set_option linter.unusedVariables false
set_option linter.unusedSimpArgs false
namespace Go.Proofs.Ytkmiklngnainfaa
open Go.ChangeShapes Go.WideShapes Go.ChangeAt Go.RowKit
open Xf (LK LeafsOk LeafOk AllRo Dens.cons Dens.nil Den.agg Den.int Den.bool' law_calls struct_open one_open)

theorem Try.own : ownKnob Try.prog.godebug = none := by kernel_rfl
theorem Try.laidOut : laidOutB Try.prog = true := by kernel_rfl

set_option maxRecDepth 100000 in
theorem walk5 {H : Type} {enc : TypeId × Value → H} {W : World} {v0 : Value} {d0 : DataW H} {p0 : List MemPlace} {v1 : Value} {d1 : DataW H} {p1 : List MemPlace} {v2 : Value} {d2 : DataW H} {p2 : List MemPlace} {v3 : Value} {d3 : DataW H} {p3 : List MemPlace} {v4 : Value} {d4 : DataW H} {p4 : List MemPlace} {v5 : Value} {d5 : DataW H} {p5 : List MemPlace} (hv0 : Value.okWide Try.prog W .any 0 3 v0) (h0 : DataW.Trod enc Try.prog W 0 (fun _ => true) true 3 v0 d0 p0) (hw0 : ∀ n ∈ d0.weights Try.prog 3, n ≤ reachBytes) (hv1 : Value.okWide Try.prog W .any 0 3 v1) (h1 : DataW.Trod enc Try.prog W 0 (fun _ => true) true 3 v1 d1 p1) (hw1 : ∀ n ∈ d1.weights Try.prog 3, n ≤ reachBytes) (hv2 : Value.okWide Try.prog W .any 0 3 v2) (h2 : DataW.Trod enc Try.prog W 0 (fun _ => true) true 3 v2 d2 p2) (hw2 : ∀ n ∈ d2.weights Try.prog 3, n ≤ reachBytes) (hv3 : Value.okWide Try.prog W .any 0 3 v3) (h3 : DataW.Trod enc Try.prog W 0 (fun _ => true) true 3 v3 d3 p3) (hw3 : ∀ n ∈ d3.weights Try.prog 3, n ≤ reachBytes) (hv4 : Value.okWide Try.prog W .any 0 3 v4) (h4 : DataW.Trod enc Try.prog W 0 (fun _ => true) true 3 v4 d4 p4) (hw4 : ∀ n ∈ d4.weights Try.prog 3, n ≤ reachBytes) (hv5 : Value.okWide Try.prog W .any 0 29 v5) (h5 : DataW.Trod enc Try.prog W 0 (fun _ => true) true 29 v5 d5 p5) (hw5 : ∀ n ∈ d5.weights Try.prog 29, n ≤ reachBytes) :
    Calls Try.prog 5 #[v0, v1, v2, v3, v4, v5] W fun e w' => e = .returned (.bool true) ∧ Below W.heap.size W w' := by
  obtain ⟨l, hl⟩ := one_open (n := 3) (k := .int .i64) (by kernel_rfl) (by kernel_rfl) hv0 h0 hw0
  have hl := hl.toList
  obtain ⟨n00, _, _, e1, e2, w00, hl⟩ := hl.int
  cases e1; cases e2
  clear hl
  obtain ⟨l, hl⟩ := one_open (n := 3) (k := .int .i64) (by kernel_rfl) (by kernel_rfl) hv1 h1 hw1
  have hl := hl.toList
  obtain ⟨n10, _, _, e1, e2, w10, hl⟩ := hl.int
  cases e1; cases e2
  clear hl
  obtain ⟨l, hl⟩ := one_open (n := 3) (k := .int .i64) (by kernel_rfl) (by kernel_rfl) hv2 h2 hw2
  have hl := hl.toList
  obtain ⟨n20, _, _, e1, e2, w20, hl⟩ := hl.int
  cases e1; cases e2
  clear hl
  obtain ⟨l, hl⟩ := one_open (n := 3) (k := .int .i64) (by kernel_rfl) (by kernel_rfl) hv3 h3 hw3
  have hl := hl.toList
  obtain ⟨n30, _, _, e1, e2, w30, hl⟩ := hl.int
  cases e1; cases e2
  clear hl
  obtain ⟨l, hl⟩ := one_open (n := 3) (k := .int .i64) (by kernel_rfl) (by kernel_rfl) hv4 h4 hw4
  have hl := hl.toList
  obtain ⟨n40, _, _, e1, e2, w40, hl⟩ := hl.int
  cases e1; cases e2
  clear hl
  obtain ⟨L50, x50, d50, c50, s50, w50⟩ := rows_open (by kernel_rfl) hv5 h5 hw5
  exact law_calls (tri5 n00 n10 n20 n30 n40 L50 x50 s50 w50) (AllRo.cons c50 (AllRo.nil W)) (Dens.cons (Den.int _ n00) (Dens.cons (Den.int _ n10) (Dens.cons (Den.int _ n20) (Dens.cons (Den.int _ n30) (Dens.cons (Den.int _ n40) (Dens.cons (d50 0) Dens.nil))))))

set_option maxRecDepth 100000 in
theorem lifted5 (os : Os) (started : os.Started) (H : Type) (enc : TypeId × Value → H) :
    ReturnsInHanded {} Try.checked os 5 .any (Rows.sliceDecodesSpec.pre6 enc Try.prog Try.f5 Rows.sliceDecodesRow.domain false) (Rows.sliceDecodesSpec.post enc Try.prog Try.f5 false true false false) := by
  refine returnsInHanded_of_change_sized (C := Try.checked) Try.own started (by kernel_rfl) Try.func5
    (ChangeSpec.witness6 (enc := enc) (C := Try.checked) false ⟨#[], #[.int .i64 0, .int .i64 0, .int .i64 0, .int .i64 0, .int .i64 0, .slice none 0 0], []⟩ 8 (by kernel_rfl) (by kernel_rfl) (by kernel_rfl) (by kernel_rfl)) ?_
  intro W base args ds gs before hval0 hW hcnd hsz _
  have hval : ∀ (j : Nat) t v, Try.f5.params[j]? = some t → args[j]? = some v → Value.okWide Try.prog W .any base t v := hval0
  have hW' := hW
  obtain ⟨p, q, hA0, hV, rfl, hfz, hnd⟩ := hW
  have hA : DataW.TrodAll enc Try.prog W 0 (fun _ => true) true Try.f5.params.toList args.toList ds p := hA0
  rw [Try.params5] at hA hval
  obtain ⟨v0, vs0, d0, ds0, p0, q0, hargs, rfl, rfl, h0, r0⟩ := trodAll_cons hA
  obtain ⟨v1, vs1, d1, ds1, p1, q1, rfl, rfl, rfl, h1, r1⟩ := trodAll_cons r0
  obtain ⟨v2, vs2, d2, ds2, p2, q2, rfl, rfl, rfl, h2, r2⟩ := trodAll_cons r1
  obtain ⟨v3, vs3, d3, ds3, p3, q3, rfl, rfl, rfl, h3, r3⟩ := trodAll_cons r2
  obtain ⟨v4, vs4, d4, ds4, p4, q4, rfl, rfl, rfl, h4, r4⟩ := trodAll_cons r3
  obtain ⟨v5, vs5, d5, ds5, p5, q5, rfl, rfl, rfl, h5, r5⟩ := trodAll_cons r4
  obtain ⟨rfl, rfl, rfl⟩ := trodAll_nil r5
  obtain rfl : args = #[v0, v1, v2, v3, v4, v5] := by cases args; simp_all
  obtain ⟨rfl, rfl⟩ := trodVars_none hV
  have k0 := h0
  have lt0 : ∀ x ∈ p0, x.block < W.heap.size := by obtain ⟨m, hm⟩ := k0; exact DataW.trod_lt m _ _ _ hm
  have hv0 := hval 0 3 v0 rfl rfl
  have hw0 : ∀ n ∈ d0.weights Try.prog 3, n ≤ reachBytes := fun n hn => by
    have := List.all_eq_true.1 hsz n (DataW.weights_mem_each (j := 0) (t := 3) (d := d0) rfl rfl n hn)
    simpa using this
  have k1 := h1
  have lt1 : ∀ x ∈ p1, x.block < W.heap.size := by obtain ⟨m, hm⟩ := k1; exact DataW.trod_lt m _ _ _ hm
  have hv1 := hval 1 3 v1 rfl rfl
  have hw1 : ∀ n ∈ d1.weights Try.prog 3, n ≤ reachBytes := fun n hn => by
    have := List.all_eq_true.1 hsz n (DataW.weights_mem_each (j := 1) (t := 3) (d := d1) rfl rfl n hn)
    simpa using this
  have k2 := h2
  have lt2 : ∀ x ∈ p2, x.block < W.heap.size := by obtain ⟨m, hm⟩ := k2; exact DataW.trod_lt m _ _ _ hm
  have hv2 := hval 2 3 v2 rfl rfl
  have hw2 : ∀ n ∈ d2.weights Try.prog 3, n ≤ reachBytes := fun n hn => by
    have := List.all_eq_true.1 hsz n (DataW.weights_mem_each (j := 2) (t := 3) (d := d2) rfl rfl n hn)
    simpa using this
  have k3 := h3
  have lt3 : ∀ x ∈ p3, x.block < W.heap.size := by obtain ⟨m, hm⟩ := k3; exact DataW.trod_lt m _ _ _ hm
  have hv3 := hval 3 3 v3 rfl rfl
  have hw3 : ∀ n ∈ d3.weights Try.prog 3, n ≤ reachBytes := fun n hn => by
    have := List.all_eq_true.1 hsz n (DataW.weights_mem_each (j := 3) (t := 3) (d := d3) rfl rfl n hn)
    simpa using this
  have k4 := h4
  have lt4 : ∀ x ∈ p4, x.block < W.heap.size := by obtain ⟨m, hm⟩ := k4; exact DataW.trod_lt m _ _ _ hm
  have hv4 := hval 4 3 v4 rfl rfl
  have hw4 : ∀ n ∈ d4.weights Try.prog 3, n ≤ reachBytes := fun n hn => by
    have := List.all_eq_true.1 hsz n (DataW.weights_mem_each (j := 4) (t := 3) (d := d4) rfl rfl n hn)
    simpa using this
  have k5 := h5
  have lt5 : ∀ x ∈ p5, x.block < W.heap.size := by obtain ⟨m, hm⟩ := k5; exact DataW.trod_lt m _ _ _ hm
  have hv5 := hval 5 29 v5 rfl rfl
  have hw5 : ∀ n ∈ d5.weights Try.prog 29, n ≤ reachBytes := fun n hn => by
    have := List.all_eq_true.1 hsz n (DataW.weights_mem_each (j := 5) (t := 29) (d := d5) rfl rfl n hn)
    simpa using this
  clear hA0 hval0
  refine (walk5 hv0 h0 hw0 hv1 h1 hw1 hv2 h2 hw2 hv3 h3 hw3 hv4 h4 hw4 hv5 h5 hw5).mono fun e W' ⟨he, bel⟩ => ?_
  subst he
  exact ⟨_, rfl, _, _, _, [], _, [], hW', trodAll_mk1 (shut_bool Try.underlying4 _), (trodAll_cons_mk (Below.trod Try.laidOut (by kernel_rfl) (of_decide_eq_true (by kernel_rfl)) k0 bel lt0) (trodAll_cons_mk (Below.trod Try.laidOut (by kernel_rfl) (of_decide_eq_true (by kernel_rfl)) k1 bel lt1) (trodAll_cons_mk (Below.trod Try.laidOut (by kernel_rfl) (of_decide_eq_true (by kernel_rfl)) k2 bel lt2) (trodAll_cons_mk (Below.trod Try.laidOut (by kernel_rfl) (of_decide_eq_true (by kernel_rfl)) k3 bel lt3) (trodAll_cons_mk (Below.trod Try.laidOut (by kernel_rfl) (of_decide_eq_true (by kernel_rfl)) k4 bel lt4) (trodAll_cons_mk (Below.trod Try.laidOut (by kernel_rfl) (of_decide_eq_true (by kernel_rfl)) k5 bel lt5) trodAll_mk0)))))), rfl, bel.frame _, fun h => by cases h⟩

theorem over5 : Rows.sliceDecodesRow.holds Try.pinned (OpenSpec.ofChange Rows.sliceDecodesSpec) :=
  OpenClaim.holds_of_wide 5 Try.f5 rfl rfl rfl rfl rfl rfl rfl ⟨rfl, rfl, rfl, rfl, rfl⟩ rfl rfl rfl rfl rfl (by kernel_rfl) Try.func5 (by kernel_rfl)
    (of_decide_eq_true (by kernel_rfl)) (by unfold Func.isWrapper; first | (rw [if_pos (by decide +kernel)]; kernel_rfl) | (rw [if_neg (by decide +kernel)]; exact ⟨rfl, rfl⟩))
    (fun os started H enc _ => lifted5 os started H enc)

/-- The statement. -/
theorem sliceDecodes_proved : Rows.SliceDecodesSaid := over5
#print axioms sliceDecodes_proved
end Go.Proofs.Ytkmiklngnainfaa
