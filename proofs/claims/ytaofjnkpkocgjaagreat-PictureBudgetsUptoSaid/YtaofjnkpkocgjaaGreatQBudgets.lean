/- Here the given statement PictureBudgetsUptoSaid is proved: whatever the input of bulk at most 1048576, PictureBudgets returns true and leaves what it was given as it was. No other condition. -/
import Derived.Test.YtaofjnkpkocgjaaGreatPBudgets0
import Derived.Test.YtaofjnkpkocgjaaGreatKc
import Derived.Test.YtaofjnkpkocgjaaGreatRows
import Derived.ProofKit
import Derived.OpenShut
import Derived.SizedLaws
import Derived.ChangeOld
import Derived.Below
import Derived.JoinedCond
import Derived.Deep.CondSized
set_option linter.unusedVariables false
set_option linter.unusedSimpArgs false
namespace Go.Proofs.YtaofjnkpkocgjaaGreat
open Go.ChangeShapes Go.WideShapes Go.ChangeAt Go.RowKit
open Xf (LK LeafsOk LeafOk AllRo Dens.cons Dens.nil Den.agg Den.int Den.bool' law_calls struct_open one_open)

theorem Tryz.own : ownKnob Tryz.prog.godebug = none := by kernel_rfl
theorem Tryz.laidOut : laidOutB Tryz.prog = true := by kernel_rfl

theorem one_le {H : Type} (d : DataW H) : 1 ≤ Rows.uptoBulk d := by
  cases d with
  | lit l => cases l <;> simp [Rows.uptoBulk]
  | nil => simp [Rows.uptoBulk]
  | ptr d => simp [Rows.uptoBulk]
  | slice elems spare => simp [Rows.uptoBulk]
  | agg parts => simp [Rows.uptoBulk]
  | iface t d => simp [Rows.uptoBulk]
  | map entries => simp [Rows.uptoBulk]
  | held h => simp [Rows.uptoBulk]
theorem length_le {H : Type} (l : List (DataW H)) : l.length ≤ Rows.uptoBulkAll l := by
  induction l with
  | nil => simp [Rows.uptoBulkAll]
  | cons x r ih => have := one_le x; simp only [Rows.uptoBulkAll, List.length_cons]; omega
theorem bulk_row {H : Type} {n : Nat} {d : DataW H} (h : rowD n d) : n + 1 ≤ Rows.uptoBulk d := by
  rcases h with rfl | ⟨e, s, rfl, rfl⟩
  · have := one_le d
    omega
  · have := length_le e
    simp only [Rows.uptoBulk]
    omega
theorem bulk_rows {H : Type} : ∀ (l : List (Xf.Loc × List Int)) (e : List (DataW H)), e.length = l.length → (∀ (i : Nat) (h : i < l.length) (h2 : i < e.length), rowD (l[i]).2.length e[i]) → smL l + l.length ≤ Rows.uptoBulkAll e
  | [], e, _, _ => by
    show (0 : Int) + ((0 : Nat) : Int) ≤ _
    omega
  | r :: l, [], h, _ => by cases h
  | r :: l, d :: e, h, hr => by
    have ih := bulk_rows l e (by simpa using h) (fun i h1 h2 => hr (i + 1) (by simpa using h1) (by simpa using h2))
    have h0 := bulk_row (hr 0 (by simp) (by simp))
    simp only [List.getElem_cons_zero] at h0
    rw [smL, List.length_cons]
    simp only [Rows.uptoBulkAll]
    omega
theorem bulk_ok {H : Type} {l : List (Xf.Loc × List Int)} {d0 d1 d2 d3 : DataW H} (h : rowsD l d0) (hb : Rows.uptoBulkAll [DataW.agg [d0, d1, d2, d3]] ≤ 1048576) : smOk l := by
  simp only [Rows.uptoBulkAll, Rows.uptoBulk] at hb
  rcases h with rfl | ⟨e, s, rfl, he, hr⟩
  · exact ⟨show (0 : Int) ≤ 1000000000 by decide, show (0 : Nat) ≤ 1000000000 by decide⟩
  · have h1 := bulk_rows l e he hr
    have h2 := smL_nn l
    simp only [Rows.uptoBulk] at hb
    exact ⟨by omega, by omega⟩

set_option maxRecDepth 100000 in
theorem walk9 {H : Type} {enc : TypeId × Value → H} {W : World} {v0 : Value} {d0 : DataW H} {p0 : List MemPlace} (hv0 : Value.okWide Tryz.prog W .any 0 59 v0) (h0 : DataW.Trod enc Tryz.prog W 0 (fun _ => true) true 59 v0 d0 p0) (hw0 : ∀ n ∈ d0.weights Tryz.prog 59, n ≤ reachBytes) (hb : Rows.uptoBulkAll [d0] ≤ 1048576) :
    Calls Tryz.prog 9 #[v0] W fun e w' => e = .returned (.bool true) ∧ Below W.heap.size W w' := by
  obtain ⟨L, l, n, wv, lv, kd, gr, hf, dd, a, b, c, q1, q2, q3, q4, e0, e1, e2, e3, rfl, q5⟩ := bu_open (e := 3) Tryz.underlying59 (by decide +kernel) (by kernel_rfl) (by kernel_rfl) (by kernel_rfl) (by kernel_rfl) (by kernel_rfl) hv0 h0 hw0
  exact law_calls (tri9 L l (bulk_ok q5 hb) n wv lv kd dd a b c gr hf q4) (AllRo.cons q2 (AllRo.nil W)) (Dens.cons (q1 0) Dens.nil)

set_option maxRecDepth 100000 in
theorem lifted9 (os : Os) (started : os.Started) (H : Type) (enc : TypeId × Value → H) (F : Stop.Interp) :
    ReturnsInHanded {} Tryz.checked os 9 .any ((Rows.OpenSpec.upto Rows.pictureBudgetsSpec).pre6 enc Tryz.prog Tryz.f9 Rows.pictureBudgetsUptoRow.domain false) (((Rows.OpenSpec.upto Rows.pictureBudgetsSpec).at F).post enc Tryz.prog Tryz.f9 false true false false) := by
  refine returnsInHanded_of_cond_sized (C := Tryz.checked) (s := Rows.OpenSpec.upto Rows.pictureBudgetsSpec) (k := Rows.uptoSmall) rfl Tryz.own started (by kernel_rfl) Tryz.func9
    (OpenSpec.witness (enc := enc) (C := Tryz.checked) (s := Rows.OpenSpec.upto Rows.pictureBudgetsSpec) (k := Rows.uptoSmall) rfl false ⟨#[], #[.agg #[.slice none 0 0, .int .i64 0, .int .i64 0, .int .i64 0, .int .i64 0, .bool false, .bool false, .int .i64 0, .int .i64 0, .int .i64 0, .int .i64 0]], []⟩ 8 (by kernel_rfl) (by kernel_rfl) (by kernel_rfl)
      (x := ([.agg [.nil, .lit (.int .i64 0), .agg [.lit (.int .i64 0), .lit (.int .i64 0), .lit (.int .i64 0), .lit (.bool false), .lit (.bool false), .lit (.int .i64 0)], .agg [.lit (.int .i64 0), .lit (.int .i64 0), .lit (.int .i64 0)]]], [], [])) (by kernel_rfl) rfl (by kernel_rfl)) ?_
  intro W base args ds gs before hval0 hW hcnd hk hsz _
  have hval : ∀ (j : Nat) t v, Tryz.f9.params[j]? = some t → args[j]? = some v → Value.okWide Tryz.prog W .any base t v := hval0
  have hW' := hW
  obtain ⟨p, q, hA0, hV, rfl, hfz, hnd⟩ := hW
  have hA : DataW.TrodAll enc Tryz.prog W 0 (fun _ => true) true Tryz.f9.params.toList args.toList ds p := hA0
  rw [Tryz.params9] at hA hval
  obtain ⟨v0, vs0, d0, ds0, p0, q0, hargs, rfl, rfl, h0, r0⟩ := trodAll_cons hA
  obtain ⟨rfl, rfl, rfl⟩ := trodAll_nil r0
  obtain rfl : args = #[v0] := by cases args; simp_all
  obtain ⟨rfl, rfl⟩ := trodVars_none hV
  have k0 := h0
  have lt0 : ∀ x ∈ p0, x.block < W.heap.size := by obtain ⟨m, hm⟩ := k0; exact DataW.trod_lt m _ _ _ hm
  have hv0 := hval 0 59 v0 rfl rfl
  have hw0 : ∀ n ∈ d0.weights Tryz.prog 59, n ≤ reachBytes := fun n hn => by
    have := List.all_eq_true.1 hsz n (DataW.weights_mem_each (j := 0) (t := 59) (d := d0) rfl rfl n hn)
    simpa using this
  have hb : Rows.uptoBulkAll [d0] ≤ 1048576 := of_decide_eq_true hk
  clear hA0 hval0
  refine (walk9 hv0 h0 hw0 hb).mono fun e W' ⟨he, bel⟩ => ?_
  subst he
  exact ⟨_, rfl, _, _, _, [], _, [], hW', trodAll_mk1 (shut_bool Tryz.underlying4 _), (trodAll_cons_mk (Below.trod Tryz.laidOut (by kernel_rfl) (of_decide_eq_true (by kernel_rfl)) k0 bel lt0) trodAll_mk0), rfl, bel.frame _, fun h => by cases h⟩

/-- The statement. -/
theorem pictureBudgets_proved : Rows.PictureBudgetsUptoSaid :=
  OpenClaim.holds_of_cond 9 Tryz.f9 rfl rfl rfl rfl rfl rfl rfl ⟨rfl, rfl, rfl, rfl, rfl⟩ rfl rfl rfl rfl rfl (by kernel_rfl) Tryz.func9 (by kernel_rfl)
    (of_decide_eq_true (by kernel_rfl)) (by unfold Func.isWrapper; first | (rw [if_pos (by decide +kernel)]; kernel_rfl) | (rw [if_neg (by decide +kernel)]; exact ⟨rfl, rfl⟩))
    (fun os started H enc _ F => lifted9 os started H enc F)
#print axioms pictureBudgets_proved
end Go.Proofs.YtaofjnkpkocgjaaGreat
