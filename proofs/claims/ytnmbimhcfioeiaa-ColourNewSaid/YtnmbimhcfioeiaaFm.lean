import Derived.Test.YtnmbimhcfioeiaaFl
set_option linter.unusedVariables false
set_option linter.unusedSimpArgs false
/-! Xf, part m: calls, and every operation. -/
namespace Go.Proofs.Ytnmbimhcfioeiaa.Xf
variable {P : Program} {sp : Sp} {spP : SpP} {no : Lim} {sl : List Ent} {m : Mem} {w0 w : World} {W : Addr → Prop} {a : Act} {tab : Tab} {isP : FuncId → Bool}

def FnOk (P : Program) (f : FuncId) : Prop := ∃ fn, P.funcs[f]? = some fn ∧ (fn.name == "runtime.NumGoroutine") = false ∧ fn.body.isNone = false

structure SpPOk (P : Program) (spP : SpP) : Prop where
  fn : ∀ f as r, spP f as = some r → FnOk P f
  calls : ∀ f as vs p v w, Dens as vs → spP f as = some (p, v) → p → Calls P f vs.toArray w fun e w' => ∃ rv, e = .returned rv ∧ Den v rv ∧ RowKit.Below w.heap.size w w'

structure SpOk (P : Program) (sp : Sp) : Prop where
  fn : ∀ f as look x k r, sp f as look x k = some r → FnOk P f
  calls : ∀ f as vs k w0 W m look w, Dens as vs → MemSat w0 W m w → Kept w0 W w → (∀ c e, look c = some e → lk m c = some e) → (∀ x, ∃ p v u, sp f as look x k = some (p, v, u) ∧ p) →
    Calls P f vs.toArray w fun e w' => ∃ x p v u rv, sp f as look x k = some (p, v, u) ∧ p ∧ e = .returned rv ∧ Den v rv ∧ MemSat w0 W (apU m u) w' ∧ Kept w0 W w'

theorem spN_fn {f : FuncId} {as : List SV} {look : Look} {x : Nat → Loc} {k : Nat} {n : Option Nat} {r : Prop × SV × Upd} (hS : SpOk P sp) (h : spN sp no x look n k f as = some r) : FnOk P f := by
  unfold spN at h
  split at h
  · exact hS.fn _ _ _ _ _ _ h
  · split at h
    · rename_i hh; exact hS.fn _ _ _ _ _ _ hh
    · cases h

theorem spN_calls (hS : SpOk P sp) {f : FuncId} {as : List SV} {vs : List Value} {n : Option Nat} {k : Nat} (hd : Dens as vs) (hm : MemSat w0 W m w) (hk : Kept w0 W w) (hx : ∀ x, ∃ p v u, spN sp no x (lk m) n k f as = some (p, v, u) ∧ p) :
    Calls P f vs.toArray w fun e w' => ∃ x p v u rv, spN sp no x (lk m) n k f as = some (p, v, u) ∧ p ∧ e = .returned rv ∧ Den v rv ∧ MemSat w0 W (apU m u) w' ∧ Kept w0 W w' := by
  cases n with
  | none => exact hS.calls f as vs k w0 W m (lk m) w hd hm hk (fun _ _ h => h) hx
  | some n =>
    have inv : ∀ x, ∃ p v u, sp f as (lkN no (lk m)) x k = some (p, v, u) ∧ p ∧ updIn k n u = true ∧ spN sp no x (lk m) (some n) k f as = some (p, v, u) := fun x => by
      obtain ⟨p, v, u, h, hp⟩ := hx x
      have h' := h
      simp only [spN] at h
      split at h
      · rename_i p' v' u' hh
        cases hu : updIn k n u' with
        | false => simp [hu] at h
        | true => simp only [hu, cond_true] at h; cases h; exact ⟨p, v, u, hh, hp, hu, h'⟩
      · cases h
    refine (hS.calls f as vs k w0 W m (lkN no (lk m)) w hd hm hk (fun c e h => ?_) (fun x => ?_)).mono fun e w' hh => ?_
    · unfold lkN at h
      cases hb : refuses no c <;> simp [hb] at h
      exact h
    · obtain ⟨p, v, u, h, hp, _⟩ := inv x; exact ⟨p, v, u, h, hp⟩
    · obtain ⟨x, p, v, u, rv, h1, h2⟩ := hh
      obtain ⟨p', v', u', g1, g2, g3, g4⟩ := inv x
      rw [h1] at g1; cases g1
      exact ⟨x, p, v, u, rv, g4, h2⟩

theorem callFunc_run {f : FuncId} (h : FnOk P f) (args : Array Value) (w : World) : (callFunc f args).run P w = .ok (.enter f args) w := by
  obtain ⟨fn, h1, h2, h3⟩ := h
  simp only [callFunc, Sem.run_bind, Result.andThen, run_program]
  simp [h1, h2, h3]

theorem MemSat.below {w' : World} (hm : MemSat w0 W m w) (h : RowKit.Below w.heap.size w w') : MemSat w0 W m w' :=
  hm.keep (fun x v hx => by rw [h.cell (World.block_lt_of_cell? _ _ hx)]; exact hx) (fun x hx => h.frozen hx)
theorem Kept.below' {w' : World} (hk : Kept w0 W w) (h : RowKit.Below w.heap.size w w') : Kept w0 W w' :=
  hk.trans (Kept.of_below h (fun _ => False)) (fun _ h _ => h.elim)

/-- What a call runs to: the callee is entered with these. -/
theorem call_enter {c : Call} {t : TypeId} {y : Operand} {f : FuncId} {cap : List Value} (hc : c.callee = .value y) (hy : a.eval y = .func (.func f) #[] cap.toArray) (hf : FnOk P f) (w : World) :
    ((do let d ← resolve a.eval c t; invoke d.target d.args) : Sem Next).run P w = .ok (.enter f (c.args.toList.map a.eval ++ cap).toArray) w := by
  simp only [resolve, hc, Deferred.ofValue, hy, invoke]
  have h1 := callFunc_run hf ((#[] ++ Array.map a.eval c.args) ++ cap.toArray) w
  have : ((#[] ++ Array.map a.eval c.args) ++ cap.toArray) = (c.args.toList.map a.eval ++ cap).toArray := by
    apply Array.ext'; simp
  rw [this] at h1
  simp only [Sem.run_bind, Sem.run_pure, Result.andThen]
  rw [this]
  exact h1

theorem run_mn {k k' : IntKind} {x y : Int} (ts : Array TypeId) (t : TypeId) (w : World) : (Builtin.min_ ts t #[.int k x, .int k' y]).run P w = .ok (.int k (min x y)) w := by
  have : (if y < x then y else x) = min x y := by omega
  simp [Builtin.min_, Builtin.min2, List.foldlM, this]
theorem run_mx {k k' : IntKind} {x y : Int} (ts : Array TypeId) (t : TypeId) (w : World) : (Builtin.max_ ts t #[.int k x, .int k' y]).run P w = .ok (.int k (max x y)) w := by
  have : (if y > x then y else x) = max x y := by omega
  have h2 : (if x < y then y else x) = max x y := by omega
  simp [Builtin.max_, Builtin.max2, List.foldlM, h2]
theorem run_mn3 {k k' k'' : IntKind} {x y z : Int} (ts : Array TypeId) (t : TypeId) (w : World) : (Builtin.min_ ts t #[.int k x, .int k' y, .int k'' z]).run P w = .ok (.int k (min (min x y) z)) w := by
  have h1 : (if y < x then y else x) = min x y := by omega
  have h2 : (if z < min x y then z else min x y) = min (min x y) z := by omega
  simp [Builtin.min_, Builtin.min2, List.foldlM, h1, h2, Result.andThen]
theorem run_mx3 {k k' k'' : IntKind} {x y z : Int} (ts : Array TypeId) (t : TypeId) (w : World) : (Builtin.max_ ts t #[.int k x, .int k' y, .int k'' z]).run P w = .ok (.int k (max (max x y) z)) w := by
  have h1 : (if x < y then y else x) = max x y := by omega
  have h2 : (if max x y < z then z else max x y) = max (max x y) z := by omega
  simp [Builtin.max_, Builtin.max2, List.foldlM, h1, h2, Result.andThen]

end Go.Proofs.Ytnmbimhcfioeiaa.Xf
