/- Here the given statement TopColourSaid is proved: whatever the input, TopColour returns true and leaves what it was given as it was. No condition. -/
import Derived.Test.YtkmiklngnainfaaPTopColour0
import Derived.Test.YtkmiklngnainfaaKc
import Derived.Test.YtkmiklngnainfaaRows
import Derived.ProofKit
import Derived.OpenShut
import Derived.SizedLaws
import Derived.ChangeOld
import Derived.Below
set_option linter.unusedVariables false
set_option linter.unusedSimpArgs false
namespace Go.Proofs.Ytkmiklngnainfaa
open Go.ChangeShapes Go.WideShapes Go.ChangeAt Go.RowKit
open Xf (LK LeafsOk LeafOk AllRo Dens.cons Dens.nil Den.agg Den.int Den.bool' law_calls struct_open one_open)

theorem Try.own : ownKnob Try.prog.godebug = none := by kernel_rfl
theorem Try.laidOut : laidOutB Try.prog = true := by kernel_rfl

set_option maxRecDepth 100000 in
theorem walk4 {H : Type} {enc : TypeId × Value → H} {W : World} {v0 : Value} {d0 : DataW H} {p0 : List MemPlace} (hv0 : Value.okWide Try.prog W .any 0 40 v0) (h0 : DataW.Trod enc Try.prog W 0 (fun _ => true) true 40 v0 d0 p0) (hw0 : ∀ n ∈ d0.weights Try.prog 40, n ≤ reachBytes) :
    Calls Try.prog 4 #[v0] W fun e w' => e = .returned (.bool true) ∧ Below W.heap.size W w' := by
  obtain ⟨ls, vs, rfl, hl⟩ := struct_open (n := 6) (ks := [.int .i64, .int .i64, .row .i64, .row .i64, .row .i64, .int .i64, .int .i64, .int .i64]) Try.underlying40 (by kernel_rfl) hv0 h0 hw0
  obtain ⟨n00, _, _, rfl, rfl, w00, hl⟩ := hl.int
  obtain ⟨n01, _, _, rfl, rfl, w01, hl⟩ := hl.int
  obtain ⟨L02, x02, _, r02, _, rfl, rfl, d02, c02, s02, w02, hl⟩ := hl.row
  obtain ⟨L03, x03, _, r03, _, rfl, rfl, d03, c03, s03, w03, hl⟩ := hl.row
  obtain ⟨L04, x04, _, r04, _, rfl, rfl, d04, c04, s04, w04, hl⟩ := hl.row
  obtain ⟨n05, _, _, rfl, rfl, w05, hl⟩ := hl.int
  obtain ⟨n06, _, _, rfl, rfl, w06, hl⟩ := hl.int
  obtain ⟨n07, _, _, rfl, rfl, w07, hl⟩ := hl.int
  obtain ⟨rfl, rfl⟩ := hl.nil
  exact law_calls (tri4 ⟨n00, n01, x02, x03, x04⟩ ⟨by simp only; omega, by simp only; omega, by simp only; omega⟩ n05 n06 n07 L02 L03 L04) (AllRo.cons c02 (AllRo.cons c03 (AllRo.cons c04 (AllRo.nil W)))) (Dens.cons (Den.agg (Dens.cons (Den.int _ n00) (Dens.cons (Den.int _ n01) (Dens.cons (d02 0) (Dens.cons (d03 1) (Dens.cons (d04 2) (Dens.cons (Den.int _ n05) (Dens.cons (Den.int _ n06) (Dens.cons (Den.int _ n07) Dens.nil))))))))) Dens.nil)

set_option maxRecDepth 100000 in
theorem lifted4 (os : Os) (started : os.Started) (H : Type) (enc : TypeId × Value → H) :
    ReturnsInHanded {} Try.checked os 4 .any (Rows.topColourSpec.pre6 enc Try.prog Try.f4 Rows.topColourRow.domain false) (Rows.topColourSpec.post enc Try.prog Try.f4 false true false false) := by
  refine returnsInHanded_of_change_sized (C := Try.checked) Try.own started (by kernel_rfl) Try.func4
    (ChangeSpec.witness6 (enc := enc) (C := Try.checked) false ⟨#[], #[.agg #[.int .i64 0, .int .i64 0, .slice none 0 0, .slice none 0 0, .slice none 0 0, .int .i64 0, .int .i64 0, .int .i64 0]], []⟩ 8 (by kernel_rfl) (by kernel_rfl) (by kernel_rfl) (by kernel_rfl)) ?_
  intro W base args ds gs before hval0 hW hcnd hsz _
  have hval : ∀ (j : Nat) t v, Try.f4.params[j]? = some t → args[j]? = some v → Value.okWide Try.prog W .any base t v := hval0
  have hW' := hW
  obtain ⟨p, q, hA0, hV, rfl, hfz, hnd⟩ := hW
  have hA : DataW.TrodAll enc Try.prog W 0 (fun _ => true) true Try.f4.params.toList args.toList ds p := hA0
  rw [Try.params4] at hA hval
  obtain ⟨v0, vs0, d0, ds0, p0, q0, hargs, rfl, rfl, h0, r0⟩ := trodAll_cons hA
  obtain ⟨rfl, rfl, rfl⟩ := trodAll_nil r0
  obtain rfl : args = #[v0] := by cases args; simp_all
  obtain ⟨rfl, rfl⟩ := trodVars_none hV
  have k0 := h0
  have lt0 : ∀ x ∈ p0, x.block < W.heap.size := by obtain ⟨m, hm⟩ := k0; exact DataW.trod_lt m _ _ _ hm
  have hv0 := hval 0 40 v0 rfl rfl
  have hw0 : ∀ n ∈ d0.weights Try.prog 40, n ≤ reachBytes := fun n hn => by
    have := List.all_eq_true.1 hsz n (DataW.weights_mem_each (j := 0) (t := 40) (d := d0) rfl rfl n hn)
    simpa using this
  clear hA0 hval0
  refine (walk4 hv0 h0 hw0).mono fun e W' ⟨he, bel⟩ => ?_
  subst he
  exact ⟨_, rfl, _, _, _, [], _, [], hW', trodAll_mk1 (shut_bool Try.underlying4 _), (trodAll_cons_mk (Below.trod Try.laidOut (by kernel_rfl) (of_decide_eq_true (by kernel_rfl)) k0 bel lt0) trodAll_mk0), rfl, bel.frame _, fun h => by cases h⟩

theorem over4 : Rows.topColourRow.holds Try.pinned (OpenSpec.ofChange Rows.topColourSpec) :=
  OpenClaim.holds_of_wide 4 Try.f4 rfl rfl rfl rfl rfl rfl rfl ⟨rfl, rfl, rfl, rfl, rfl⟩ rfl rfl rfl rfl rfl (by kernel_rfl) Try.func4 (by kernel_rfl)
    (of_decide_eq_true (by kernel_rfl)) (by unfold Func.isWrapper; first | (rw [if_pos (by decide +kernel)]; kernel_rfl) | (rw [if_neg (by decide +kernel)]; exact ⟨rfl, rfl⟩))
    (fun os started H enc _ => lifted4 os started H enc)

/-- The statement. -/
theorem topColour_proved : Rows.TopColourSaid := over4
#print axioms topColour_proved
end Go.Proofs.Ytkmiklngnainfaa
