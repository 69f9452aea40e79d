/- Here the given statement ColourNewSaid is proved: whatever the input, ColourNew returns true and leaves what it was given as it was. No condition. -/
import Derived.Test.YtnmbimhcfioeiaaVg
import Derived.Test.YtnmbimhcfioeiaaGb
import Derived.Test.YtnmbimhcfioeiaaRows
import Derived.ProofKit
import Derived.OpenShut
import Derived.SizedLaws
import Derived.ChangeOld
import Derived.Below
set_option linter.unusedVariables false
set_option linter.unusedSimpArgs false
namespace Go.Proofs.Ytnmbimhcfioeiaa
open Go.ChangeShapes Go.WideShapes Go.ChangeAt Go.RowKit
open Xf (LK LeafsOk AllRo Dens.cons Dens.nil Den.agg Den.int law_calls struct_open)

theorem Try.own : ownKnob Try.prog.godebug = none := by kernel_rfl
theorem Try.laidOut : laidOutB Try.prog = true := by kernel_rfl

theorem walk3 {H : Type} {enc : TypeId × Value → H} {W : World} {v0 : Value} {d0 : DataW H} {p0 : List MemPlace} (hv : Value.okWide Try.prog W .any 0 26 v0) (h0 : DataW.Trod enc Try.prog W 0 (fun _ => true) true 26 v0 d0 p0) (hw : ∀ n ∈ d0.weights Try.prog 26, n ≤ reachBytes) :
    Calls Try.prog 3 #[v0] W fun e w' => e = .returned (.bool true) ∧ Below W.heap.size W w' := by
  obtain ⟨ls, vs, rfl, hl⟩ := struct_open (n := 5) (ks := [.int .i64, .int .i64, .row .i64, .row .i64, .row .i64, .int .i64, .int .i64, .int .i64, .int .i64, .int .i64]) Try.underlying26 (by kernel_rfl) hv h0 hw
  obtain ⟨w, _, _, rfl, rfl, _, hl⟩ := hl.int
  obtain ⟨h, _, _, rfl, rfl, _, hl⟩ := hl.int
  obtain ⟨L1, R, _, r1, _, rfl, rfl, dR, cR, nR, _, hl⟩ := hl.row
  obtain ⟨L2, G, _, r2, _, rfl, rfl, dG, cG, nG, _, hl⟩ := hl.row
  obtain ⟨L3, B, _, r3, _, rfl, rfl, dB, cB, nB, _, hl⟩ := hl.row
  obtain ⟨W', _, _, rfl, rfl, _, hl⟩ := hl.int
  obtain ⟨H', _, _, rfl, rfl, _, hl⟩ := hl.int
  obtain ⟨r, _, _, rfl, rfl, _, hl⟩ := hl.int
  obtain ⟨g, _, _, rfl, rfl, _, hl⟩ := hl.int
  obtain ⟨b, _, _, rfl, rfl, _, hl⟩ := hl.int
  obtain ⟨rfl, rfl⟩ := hl.nil
  exact law_calls (tri3 ⟨w, h, R, G, B⟩ ⟨by simp only; omega, by simp only; omega, by simp only; omega⟩ ⟨W', H', r, g, b⟩ L1 L2 L3) ((AllRo.cons cR (AllRo.cons cG (AllRo.cons cB (AllRo.nil W)))))
    (Dens.cons (Den.agg (Dens.cons (Den.int _ _) (Dens.cons (Den.int _ _) (Dens.cons (dR 0) (Dens.cons (dG 1) (Dens.cons (dB 2) (Dens.cons (Den.int _ _) (Dens.cons (Den.int _ _) (Dens.cons (Den.int _ _) (Dens.cons (Den.int _ _) (Dens.cons (Den.int _ _) Dens.nil))))))))))) Dens.nil)

set_option maxRecDepth 100000 in
theorem lifted3 (os : Os) (started : os.Started) (H : Type) (enc : TypeId × Value → H) :
    ReturnsInHanded {} Try.checked os 3 .any (Rows.colourNewSpec.pre6 enc Try.prog Try.f3 Rows.colourNewRow.domain false) (Rows.colourNewSpec.post enc Try.prog Try.f3 false true false false) := by
  refine returnsInHanded_of_change_sized (C := Try.checked) Try.own started (by kernel_rfl) Try.func3
    (ChangeSpec.witness6 (enc := enc) (C := Try.checked) false ⟨#[], #[.agg #[.int .i64 0, .int .i64 0, .slice none 0 0, .slice none 0 0, .slice none 0 0, .int .i64 0, .int .i64 0, .int .i64 0, .int .i64 0, .int .i64 0]], []⟩ 8 (by kernel_rfl) (by kernel_rfl) (by kernel_rfl) (by kernel_rfl)) ?_
  intro W base args ds gs before hval0 hW hcnd hsz _
  have hval : ∀ (j : Nat) t v, Try.f3.params[j]? = some t → args[j]? = some v → Value.okWide Try.prog W .any base t v := hval0
  have hW' := hW
  obtain ⟨p, q, hA0, hV, rfl, hfz, hnd⟩ := hW
  have hA : DataW.TrodAll enc Try.prog W 0 (fun _ => true) true Try.f3.params.toList args.toList ds p := hA0
  rw [Try.params3] at hA hval
  obtain ⟨v0, vs0, d0, ds0, p0, q0, hargs, rfl, rfl, h0, r0⟩ := trodAll_cons hA
  obtain ⟨rfl, rfl, rfl⟩ := trodAll_nil r0
  obtain rfl : args = #[v0] := by cases args; simp_all
  obtain ⟨rfl, rfl⟩ := trodVars_none hV
  have k0 := h0
  have lt0 : ∀ x ∈ p0, x.block < W.heap.size := by obtain ⟨m, hm⟩ := k0; exact DataW.trod_lt m _ _ _ hm
  have hv0 := hval 0 26 v0 rfl rfl
  have hw0 : ∀ n ∈ d0.weights Try.prog 26, n ≤ reachBytes := fun n hn => by
    have := List.all_eq_true.1 hsz n (DataW.weights_mem_each (j := 0) (t := 26) (d := d0) rfl rfl n hn)
    simpa using this
  clear hA0 hval0
  refine (walk3 hv0 h0 hw0).mono fun e W' ⟨he, bel⟩ => ?_
  subst he
  exact ⟨_, rfl, _, _, _, [], _, [], hW', trodAll_mk1 (shut_bool Try.underlying4 _), (trodAll_cons_mk (Below.trod Try.laidOut (by kernel_rfl) (of_decide_eq_true (by kernel_rfl)) k0 bel lt0) trodAll_mk0), rfl, bel.frame _, fun h => by cases h⟩

theorem over3 : Rows.colourNewRow.holds Try.pinned (OpenSpec.ofChange Rows.colourNewSpec) :=
  OpenClaim.holds_of_wide 3 Try.f3 rfl rfl rfl rfl rfl rfl rfl ⟨rfl, rfl, rfl, rfl, rfl⟩ rfl rfl rfl rfl rfl (by kernel_rfl) Try.func3 (by kernel_rfl)
    (of_decide_eq_true (by kernel_rfl)) (by unfold Func.isWrapper; first | (rw [if_pos (by decide +kernel)]; kernel_rfl) | (rw [if_neg (by decide +kernel)]; exact ⟨rfl, rfl⟩))
    (fun os started H enc _ => lifted3 os started H enc)

/-- The statement. -/
theorem colourNew_proved : Rows.ColourNewSaid := over3
#print axioms colourNew_proved
end Go.Proofs.Ytnmbimhcfioeiaa
