/- Here the given statement PictureFarSaid is proved: whatever the input, PictureFar returns true and leaves what it was given as it was. No condition. -/
import Derived.Test.YtaofjnkpkocgjaaGreatPFar0
import Derived.Test.YtaofjnkpkocgjaaGreatKc
import Derived.Test.YtaofjnkpkocgjaaGreatRows
import Derived.ProofKit
import Derived.OpenShut
import Derived.SizedLaws
import Derived.ChangeOld
import Derived.Below
set_option linter.unusedVariables false
set_option linter.unusedSimpArgs false
namespace Go.Proofs.YtaofjnkpkocgjaaGreat
open Go.ChangeShapes Go.WideShapes Go.ChangeAt Go.RowKit
open Xf (LK LeafsOk LeafOk AllRo Dens.cons Dens.nil Den.agg Den.int Den.bool' law_calls struct_open one_open)

theorem Tryz.own : ownKnob Tryz.prog.godebug = none := by kernel_rfl
theorem Tryz.laidOut : laidOutB Tryz.prog = true := by kernel_rfl

set_option maxRecDepth 100000 in
theorem walk7 {H : Type} {enc : TypeId × Value → H} {W : World} {v0 : Value} {d0 : DataW H} {p0 : List MemPlace} {v1 : Value} {d1 : DataW H} {p1 : List MemPlace} (hv0 : Value.okWide Tryz.prog W .any 0 24 v0) (h0 : DataW.Trod enc Tryz.prog W 0 (fun _ => true) true 24 v0 d0 p0) (hw0 : ∀ n ∈ d0.weights Tryz.prog 24, n ≤ reachBytes) (hv1 : Value.okWide Tryz.prog W .any 0 24 v1) (h1 : DataW.Trod enc Tryz.prog W 0 (fun _ => true) true 24 v1 d1 p1) (hw1 : ∀ n ∈ d1.weights Tryz.prog 24, n ≤ reachBytes) :
    Calls Tryz.prog 7 #[v0, v1] W fun e w' => e = .returned (.bool true) ∧ Below W.heap.size W w' := by
  obtain ⟨ls, vs, rfl, hl⟩ := struct_open (n := 6) (ks := [.int .i64, .int .i64, .row .i64, .row .i64, .row .i64]) Tryz.underlying24 (by kernel_rfl) hv0 h0 hw0
  obtain ⟨n00, _, _, rfl, rfl, w00, hl⟩ := hl.int
  obtain ⟨n01, _, _, rfl, rfl, w01, hl⟩ := hl.int
  obtain ⟨L02, x02, _, r02, _, rfl, rfl, d02, c02, s02, w02, hl⟩ := hl.row
  obtain ⟨L03, x03, _, r03, _, rfl, rfl, d03, c03, s03, w03, hl⟩ := hl.row
  obtain ⟨L04, x04, _, r04, _, rfl, rfl, d04, c04, s04, w04, hl⟩ := hl.row
  obtain ⟨rfl, rfl⟩ := hl.nil
  obtain ⟨ls, vs, rfl, hl⟩ := struct_open (n := 6) (ks := [.int .i64, .int .i64, .row .i64, .row .i64, .row .i64]) Tryz.underlying24 (by kernel_rfl) hv1 h1 hw1
  obtain ⟨n10, _, _, rfl, rfl, w10, hl⟩ := hl.int
  obtain ⟨n11, _, _, rfl, rfl, w11, hl⟩ := hl.int
  obtain ⟨L12, x12, _, r12, _, rfl, rfl, d12, c12, s12, w12, hl⟩ := hl.row
  obtain ⟨L13, x13, _, r13, _, rfl, rfl, d13, c13, s13, w13, hl⟩ := hl.row
  obtain ⟨L14, x14, _, r14, _, rfl, rfl, d14, c14, s14, w14, hl⟩ := hl.row
  obtain ⟨rfl, rfl⟩ := hl.nil
  exact law_calls (tri7 ⟨n00, n01, x02, x03, x04⟩ ⟨n10, n11, x12, x13, x14⟩ ⟨by simp only; omega, by simp only; omega, by simp only; omega⟩ ⟨by simp only; omega, by simp only; omega, by simp only; omega⟩ L02 L03 L04 L12 L13 L14) (AllRo.cons c02 (AllRo.cons c03 (AllRo.cons c04 (AllRo.cons c12 (AllRo.cons c13 (AllRo.cons c14 (AllRo.nil W))))))) (Dens.cons (Den.agg (Dens.cons (Den.int _ n00) (Dens.cons (Den.int _ n01) (Dens.cons (d02 0) (Dens.cons (d03 1) (Dens.cons (d04 2) Dens.nil)))))) (Dens.cons (Den.agg (Dens.cons (Den.int _ n10) (Dens.cons (Den.int _ n11) (Dens.cons (d12 3) (Dens.cons (d13 4) (Dens.cons (d14 5) Dens.nil)))))) Dens.nil))

set_option maxRecDepth 100000 in
theorem lifted7 (os : Os) (started : os.Started) (H : Type) (enc : TypeId × Value → H) :
    ReturnsInHanded {} Tryz.checked os 7 .any (Rows.pictureFarSpec.pre6 enc Tryz.prog Tryz.f7 Rows.pictureFarRow.domain false) (Rows.pictureFarSpec.post enc Tryz.prog Tryz.f7 false true false false) := by
  refine returnsInHanded_of_change_sized (C := Tryz.checked) Tryz.own started (by kernel_rfl) Tryz.func7
    (ChangeSpec.witness6 (enc := enc) (C := Tryz.checked) false ⟨#[], #[.agg #[.int .i64 0, .int .i64 0, .slice none 0 0, .slice none 0 0, .slice none 0 0], .agg #[.int .i64 0, .int .i64 0, .slice none 0 0, .slice none 0 0, .slice none 0 0]], []⟩ 8 (by kernel_rfl) (by kernel_rfl) (by kernel_rfl) (by kernel_rfl)) ?_
  intro W base args ds gs before hval0 hW hcnd hsz _
  have hval : ∀ (j : Nat) t v, Tryz.f7.params[j]? = some t → args[j]? = some v → Value.okWide Tryz.prog W .any base t v := hval0
  have hW' := hW
  obtain ⟨p, q, hA0, hV, rfl, hfz, hnd⟩ := hW
  have hA : DataW.TrodAll enc Tryz.prog W 0 (fun _ => true) true Tryz.f7.params.toList args.toList ds p := hA0
  rw [Tryz.params7] at hA hval
  obtain ⟨v0, vs0, d0, ds0, p0, q0, hargs, rfl, rfl, h0, r0⟩ := trodAll_cons hA
  obtain ⟨v1, vs1, d1, ds1, p1, q1, rfl, rfl, rfl, h1, r1⟩ := trodAll_cons r0
  obtain ⟨rfl, rfl, rfl⟩ := trodAll_nil r1
  obtain rfl : args = #[v0, v1] := by cases args; simp_all
  obtain ⟨rfl, rfl⟩ := trodVars_none hV
  have k0 := h0
  have lt0 : ∀ x ∈ p0, x.block < W.heap.size := by obtain ⟨m, hm⟩ := k0; exact DataW.trod_lt m _ _ _ hm
  have hv0 := hval 0 24 v0 rfl rfl
  have hw0 : ∀ n ∈ d0.weights Tryz.prog 24, n ≤ reachBytes := fun n hn => by
    have := List.all_eq_true.1 hsz n (DataW.weights_mem_each (j := 0) (t := 24) (d := d0) rfl rfl n hn)
    simpa using this
  have k1 := h1
  have lt1 : ∀ x ∈ p1, x.block < W.heap.size := by obtain ⟨m, hm⟩ := k1; exact DataW.trod_lt m _ _ _ hm
  have hv1 := hval 1 24 v1 rfl rfl
  have hw1 : ∀ n ∈ d1.weights Tryz.prog 24, n ≤ reachBytes := fun n hn => by
    have := List.all_eq_true.1 hsz n (DataW.weights_mem_each (j := 1) (t := 24) (d := d1) rfl rfl n hn)
    simpa using this
  clear hA0 hval0
  refine (walk7 hv0 h0 hw0 hv1 h1 hw1).mono fun e W' ⟨he, bel⟩ => ?_
  subst he
  exact ⟨_, rfl, _, _, _, [], _, [], hW', trodAll_mk1 (shut_bool Tryz.underlying4 _), (trodAll_cons_mk (Below.trod Tryz.laidOut (by kernel_rfl) (of_decide_eq_true (by kernel_rfl)) k0 bel lt0) (trodAll_cons_mk (Below.trod Tryz.laidOut (by kernel_rfl) (of_decide_eq_true (by kernel_rfl)) k1 bel lt1) trodAll_mk0)), rfl, bel.frame _, fun h => by cases h⟩

theorem over7 : Rows.pictureFarRow.holds Tryz.pinned (OpenSpec.ofChange Rows.pictureFarSpec) :=
  OpenClaim.holds_of_wide 7 Tryz.f7 rfl rfl rfl rfl rfl rfl rfl ⟨rfl, rfl, rfl, rfl, rfl⟩ rfl rfl rfl rfl rfl (by kernel_rfl) Tryz.func7 (by kernel_rfl)
    (of_decide_eq_true (by kernel_rfl)) (by unfold Func.isWrapper; first | (rw [if_pos (by decide +kernel)]; kernel_rfl) | (rw [if_neg (by decide +kernel)]; exact ⟨rfl, rfl⟩))
    (fun os started H enc _ => lifted7 os started H enc)

/-- The statement. -/
theorem pictureFar_proved : Rows.PictureFarSaid := over7
#print axioms pictureFar_proved
end Go.Proofs.YtaofjnkpkocgjaaGreat
