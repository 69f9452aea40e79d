import Derived.Test.YtnmbimhcfioeiaaFl
import Derived.Laws.StructEq
import Derived.ChangeKeysEq
set_option linter.unusedVariables false
set_option linter.unusedSimpArgs false
/-! Xf, part m: calls, and every operation. -/
namespace Go.Proofs.Ytnmbimhcfioeiaa.Xf
variable {P : Program} {sp : Sp} {spP : SpP} {no : Lim} {sl : List Ent} {m : Mem} {w0 w : World} {W : Addr → Prop} {a : Act} {tab : Tab} {isP : FuncId → Bool}

def FnOk (P : Program) (f : FuncId) : Prop := ∃ fn, P.funcs[f]? = some fn ∧ (fn.name == "runtime.NumGoroutine") = false ∧ fn.body.isNone = false

structure SpPOk (P : Program) (spP : SpP) : Prop where
  fn : ∀ f as r, spP f as = some r → FnOk P f
  calls : ∀ f as vs p v w, Dens as vs → spP f as = some (p, v) → p → Calls P f vs.toArray w fun e w' => ∃ rv, e = .returned rv ∧ Den v rv ∧ RowKit.Below w.heap.size w w'

structure SpOk (P : Program) (sp : Sp) : Prop where
  fn : ∀ f as look x k r, sp f as look x k = some r → FnOk P f
  calls : ∀ f as vs k w0 W m look w, Dens as vs → MemSat w0 W m w → Kept w0 W w → (∀ c e, look c = some e → lk m c = some e) → (∀ x, ∃ p v u, sp f as look x k = some (p, v, u) ∧ p) →
    Calls P f vs.toArray w fun e w' => ∃ x p v u rv, sp f as look x k = some (p, v, u) ∧ p ∧ e = .returned rv ∧ Den v rv ∧ MemSat w0 W (apU m u) w' ∧ Kept w0 W w'

theorem spN_fn {f : FuncId} {as : List SV} {look : Look} {x : Nat → Loc} {k : Nat} {n : Option Nat} {r : Prop × SV × Upd} (hS : SpOk P sp) (h : spN sp no x look n k f as = some r) : FnOk P f := by
  unfold spN at h
  split at h
  · exact hS.fn _ _ _ _ _ _ h
  · split at h
    · rename_i hh; exact hS.fn _ _ _ _ _ _ hh
    · cases h

theorem spN_calls (hS : SpOk P sp) {f : FuncId} {as : List SV} {vs : List Value} {n : Option Nat} {k : Nat} (hd : Dens as vs) (hm : MemSat w0 W m w) (hk : Kept w0 W w) (hx : ∀ x, ∃ p v u, spN sp no x (lk m) n k f as = some (p, v, u) ∧ p) :
    Calls P f vs.toArray w fun e w' => ∃ x p v u rv, spN sp no x (lk m) n k f as = some (p, v, u) ∧ p ∧ e = .returned rv ∧ Den v rv ∧ MemSat w0 W (apU m u) w' ∧ Kept w0 W w' := by
  cases n with
  | none => exact hS.calls f as vs k w0 W m (lk m) w hd hm hk (fun _ _ h => h) hx
  | some n =>
    have inv : ∀ x, ∃ p v u, sp f as (lkN no (lk m)) x k = some (p, v, u) ∧ p ∧ updIn k n u = true ∧ spN sp no x (lk m) (some n) k f as = some (p, v, u) := fun x => by
      obtain ⟨p, v, u, h, hp⟩ := hx x
      have h' := h
      simp only [spN] at h
      split at h
      · rename_i p' v' u' hh
        cases hu : updIn k n u' with
        | false => simp [hu] at h
        | true => simp only [hu, cond_true] at h; cases h; exact ⟨p, v, u, hh, hp, hu, h'⟩
      · cases h
    refine (hS.calls f as vs k w0 W m (lkN no (lk m)) w hd hm hk (fun c e h => ?_) (fun x => ?_)).mono fun e w' hh => ?_
    · unfold lkN at h
      cases hb : refuses no c <;> simp [hb] at h
      exact h
    · obtain ⟨p, v, u, h, hp, _⟩ := inv x; exact ⟨p, v, u, h, hp⟩
    · obtain ⟨x, p, v, u, rv, h1, h2⟩ := hh
      obtain ⟨p', v', u', g1, g2, g3, g4⟩ := inv x
      rw [h1] at g1; cases g1
      exact ⟨x, p, v, u, rv, g4, h2⟩

theorem callFunc_run {f : FuncId} (h : FnOk P f) (args : Array Value) (w : World) : (callFunc f args).run P w = .ok (.enter f args) w := by
  obtain ⟨fn, h1, h2, h3⟩ := h
  simp only [callFunc, Sem.run_bind, Result.andThen, run_program]
  simp [h1, h2, h3]

theorem MemSat.below {w' : World} (hm : MemSat w0 W m w) (h : RowKit.Below w.heap.size w w') : MemSat w0 W m w' :=
  hm.keep (fun x v hx => by rw [h.cell (World.block_lt_of_cell? _ _ hx)]; exact hx) (fun x hx => h.frozen hx)
theorem Kept.below' {w' : World} (hk : Kept w0 W w) (h : RowKit.Below w.heap.size w w') : Kept w0 W w' :=
  hk.trans (Kept.of_below h (fun _ => False)) (fun _ h _ => h.elim)

/-- What a call runs to: the callee is entered with these. -/
theorem call_enter {c : Call} {t : TypeId} {y : Operand} {f : FuncId} {cap : List Value} (hc : c.callee = .value y) (hy : a.eval y = .func (.func f) #[] cap.toArray) (hf : FnOk P f) (w : World) :
    ((do let d ← resolve a.eval c t; invoke d.target d.args) : Sem Next).run P w = .ok (.enter f (c.args.toList.map a.eval ++ cap).toArray) w := by
  simp only [resolve, hc, Deferred.ofValue, hy, invoke]
  have h1 := callFunc_run hf ((#[] ++ Array.map a.eval c.args) ++ cap.toArray) w
  have : ((#[] ++ Array.map a.eval c.args) ++ cap.toArray) = (c.args.toList.map a.eval ++ cap).toArray := by
    apply Array.ext'; simp
  rw [this] at h1
  simp only [Sem.run_bind, Sem.run_pure, Result.andThen]
  rw [this]
  exact h1

theorem run_mn {k k' : IntKind} {x y : Int} (ts : Array TypeId) (t : TypeId) (w : World) : (Builtin.min_ ts t #[.int k x, .int k' y]).run P w = .ok (.int k (min x y)) w := by
  have : (if y < x then y else x) = min x y := by omega
  simp [Builtin.min_, Builtin.min2, List.foldlM, this]
theorem run_mx {k k' : IntKind} {x y : Int} (ts : Array TypeId) (t : TypeId) (w : World) : (Builtin.max_ ts t #[.int k x, .int k' y]).run P w = .ok (.int k (max x y)) w := by
  have : (if y > x then y else x) = max x y := by omega
  have h2 : (if x < y then y else x) = max x y := by omega
  simp [Builtin.max_, Builtin.max2, List.foldlM, h2]
theorem run_mn3 {k k' k'' : IntKind} {x y z : Int} (ts : Array TypeId) (t : TypeId) (w : World) : (Builtin.min_ ts t #[.int k x, .int k' y, .int k'' z]).run P w = .ok (.int k (min (min x y) z)) w := by
  have h1 : (if y < x then y else x) = min x y := by omega
  have h2 : (if z < min x y then z else min x y) = min (min x y) z := by omega
  simp [Builtin.min_, Builtin.min2, List.foldlM, h1, h2, Result.andThen]
theorem run_mx3 {k k' k'' : IntKind} {x y z : Int} (ts : Array TypeId) (t : TypeId) (w : World) : (Builtin.max_ ts t #[.int k x, .int k' y, .int k'' z]).run P w = .ok (.int k (max (max x y) z)) w := by
  have h1 : (if x < y then y else x) = max x y := by omega
  have h2 : (if max x y < z then z else max x y) = max (max x y) z := by omega
  simp [Builtin.max_, Builtin.max2, List.foldlM, h1, h2, Result.andThen]

/-! Comparisons of structs and arrays; of pointers with nil. -/
theorem cmp1_int {e : TypeId} (h : cmpB.cmp1 P true e = true) (d : Nat) (k : IntKind) (x y : Int) (w : World) : P.cellsOf e = 1 ∧ P.plainKey e = true ∧ (Op.equalIn (d + 1) e (.int k x) (.int k y)).run P w = .ok (decide (x = y)) w := by
  unfold cmpB.cmp1 at h
  simp only [Bool.and_eq_true, decide_eq_true_eq] at h
  refine ⟨h.1.1, h.1.2, ?_⟩
  obtain ⟨_, h2⟩ := h
  split at h2
  · cases h2
  · rename_i k0 hu; rw [run_equalIn_int w d e k k0 x y hu]; congr 1
  · cases h2
theorem cmp1_bool {e : TypeId} (h : cmpB.cmp1 P false e = true) (d : Nat) (x y : Bool) (w : World) : P.cellsOf e = 1 ∧ P.plainKey e = true ∧ (Op.equalIn (d + 1) e (.bool x) (.bool y)).run P w = .ok (x == y) w := by
  unfold cmpB.cmp1 at h
  simp only [Bool.and_eq_true, decide_eq_true_eq] at h
  refine ⟨h.1.1, h.1.2, ?_⟩
  obtain ⟨_, h2⟩ := h
  split at h2
  · rename_i hu; exact run_equalIn_bool w d e x y hu
  · cases h2
  · cases h2

/-- One pair of cells. -/
theorem eq_step {k : Bool} {ks : List Bool} {us vs : List SV} {r : Bool} (h : eqL (k :: ks) us vs = some r) {xs ys : List Value} (hx : Dens us xs) (hy : Dens vs ys) {e : TypeId} (he : cmpB.cmp1 P k e = true) (d : Nat) (w : World) :
    ∃ r1 r2 x y xs' ys' us' vs', xs = x :: xs' ∧ ys = y :: ys' ∧ Dens us' xs' ∧ Dens vs' ys' ∧ eqL ks us' vs' = some r2 ∧ r = (r1 && r2) ∧ P.cellsOf e = 1 ∧ P.plainKey e = true ∧ (Op.equalIn (d + 1) e x y).run P w = .ok r1 w := by
  unfold eqL at h
  split at h
  · rename_i h1; cases h1
  · rename_i ks k a us k' b vs h1
    cases h1
    by_cases hk : k = k'
    case neg => simp [hk] at h
    subst hk
    simp only [decide_true, cond_true] at h
    split at h
    case h_2 => cases h
    rename_i r2 hr2
    cases h
    simp only [Dens] at hx hy
    obtain ⟨x, xs', rfl, hx1, hx2⟩ := hx
    obtain ⟨y, ys', rfl, hy1, hy2⟩ := hy
    simp only [Den] at hx1 hy1
    subst hx1 hy1
    obtain ⟨c1, c2, c3⟩ := cmp1_int (P := P) he d k a b w
    exact ⟨_, r2, _, _, _, _, _, _, rfl, rfl, hx2, hy2, hr2, rfl, c1, c2, c3⟩
  · rename_i ks a us b vs h1
    cases h1
    split at h
    case h_2 => cases h
    rename_i r2 hr2
    cases h
    simp only [Dens] at hx hy
    obtain ⟨x, xs', rfl, hx1, hx2⟩ := hx
    obtain ⟨y, ys', rfl, hy1, hy2⟩ := hy
    simp only [Den] at hx1 hy1
    subst hx1 hy1
    obtain ⟨c1, c2, c3⟩ := cmp1_bool (P := P) he d a b w
    exact ⟨_, r2, _, _, _, _, _, _, rfl, rfl, hx2, hy2, hr2, rfl, c1, c2, c3⟩
  · cases h

theorem eq_end {us vs : List SV} {r : Bool} (h : eqL [] us vs = some r) : r = true := by
  unfold eqL at h
  split at h <;> first | (cases h; rfl) | (rename_i h1; cases h1) | (rename_i h1 _; cases h1) | (rename_i h1 _ _; cases h1) | cases h

theorem eq_fields (d : Nat) (w : World) : ∀ (fs : List Field) (ks : List Bool) (n : Nat) (us vs : List SV) (r : Bool) (xs ys px py : List Value), cmpB.cmpF P n ks fs = true → eqL ks us vs = some r → Dens us xs → Dens vs ys → px.length = n → py.length = n →
    (Op.eqFields (d + 1) (px ++ xs).toArray (py ++ ys).toArray fs).run P w = .ok r w
  | [], ks, n, us, vs, r, xs, ys, px, py, h, hr, hx, hy, h1, h2 => by
    cases ks with
    | nil => rw [eq_end hr]; simp [Op.eqFields]
    | cons k ks => simp [cmpB.cmpF] at h
  | f :: fs, ks, n, us, vs, r, xs, ys, px, py, h, hr, hx, hy, h1, h2 => by
    cases ks with
    | nil => simp [cmpB.cmpF] at h
    | cons k ks =>
      simp only [cmpB.cmpF, Bool.and_eq_true, decide_eq_true_eq, bne_iff_ne, ne_eq] at h
      obtain ⟨⟨⟨ho, hn⟩, hc⟩, hrest⟩ := h
      obtain ⟨r1, r2, x, y, xs', ys', us', vs', rfl, rfl, hx2, hy2, hr2, rfl, c1, c2, c3⟩ := eq_step (P := P) hr hx hy hc d w
      have p1 : (part f.type (px ++ x :: xs').toArray f.offset).run P w = .ok x w := run_part_plain w c2 (by rw [ho]; simp [← h1])
      have p2 : (part f.type (py ++ y :: ys').toArray f.offset).run P w = .ok y w := run_part_plain w c2 (by rw [ho]; simp [← h2])
      simp only [Op.eqFields, hn, ne_eq, not_false_eq_true, if_true, Sem.run_bind, p1, p2, c3, Result.andThen_ok]
      cases r1 with
      | false => simp
      | true =>
        have := eq_fields d w fs ks (n + 1) us' vs' r2 xs' ys' (px ++ [x]) (py ++ [y]) hrest hr2 hx2 hy2 (by simp [h1]) (by simp [h2])
        simpa using this

theorem eq_items (d : Nat) (w : World) {e : TypeId} : ∀ (ks : List Bool) (n : Nat) (us vs : List SV) (r : Bool) (xs ys px py : List Value), (ks.all fun k => cmpB.cmp1 P k e) = true → eqL ks us vs = some r → Dens us xs → Dens vs ys → px.length = n → py.length = n →
    (Op.eqItems (d + 1) e (P.cellsOf e) (px ++ xs).toArray (py ++ ys).toArray (List.range' n ks.length)).run P w = .ok r w
  | [], n, us, vs, r, xs, ys, px, py, h, hr, hx, hy, h1, h2 => by rw [eq_end hr]; simp [Op.eqItems]
  | k :: ks, n, us, vs, r, xs, ys, px, py, h, hr, hx, hy, h1, h2 => by
    simp only [List.all_cons, Bool.and_eq_true] at h
    obtain ⟨r1, r2, x, y, xs', ys', us', vs', rfl, rfl, hx2, hy2, hr2, rfl, c1, c2, c3⟩ := eq_step (P := P) hr hx hy h.1 d w
    have p1 : (part e (px ++ x :: xs').toArray (n * P.cellsOf e)).run P w = .ok x w := run_part_plain w c2 (by rw [c1]; simp [← h1])
    have p2 : (part e (py ++ y :: ys').toArray (n * P.cellsOf e)).run P w = .ok y w := run_part_plain w c2 (by rw [c1]; simp [← h2])
    simp only [List.length_cons, List.range'_succ, Op.eqItems, Sem.run_bind, p1, p2, c3, Result.andThen_ok]
    cases r1 with
    | false => simp
    | true =>
      have := eq_items d w ks (n + 1) us' vs' r2 xs' ys' (px ++ [x]) (py ++ [y]) h.2 hr2 hx2 hy2 (by simp [h1]) (by simp [h2])
      simpa using this

theorem done_binA (hT : ∀ t tt, tab t = some tt → TtOk P t tt) (hs : SlotsOk sl a) (hm : MemSat w0 W m w) (hk : Kept w0 W w) {t : TypeId} {tt : TT} (htt : tab t = some tt) {ks : List Bool} (hcmp : tt.cmp = some ks) {op : BinOp} {X Y : Operand} {ax ay : Opd} (hax : opd X = some ax) (hay : opd Y = some ay)
    (hx : ∀ x, ∃ p v u, stepF sp spP no x sl (lk m) (.binA op ks ax ay) = some (p, v, u) ∧ p) :
    Done P sp spP no sl m w0 W (.binA op ks ax ay) ((do let v ← (do eqGuard op t X Y (a.eval X) (a.eval Y); binOp op t (a.eval X) (a.eval Y)); pure (Next.value v) : Sem Next).run P w) := by
  refine done_of hm hk (fun x p v u h hp => ?_) hx
  simp only [stepF] at h
  obtain ⟨v0, p', hd, hf, hp'⟩ := o1_den h hp hax hs
  obtain ⟨v1, p'', hd1, hf1, hp''⟩ := o1_den hf hp' hay hs
  obtain ⟨hb, rfl⟩ := upTo_some hf1
  refine ⟨rfl, ?_⟩
  unfold binASV at hb
  split at hb
  case h_2 => cases hb
  rename_i us vs
  simp only [Den] at hd hd1
  obtain ⟨xs, hX, hxs⟩ := hd
  obtain ⟨ys, hY, hys⟩ := hd1
  cases hr : eqL ks us vs with
  | none => rw [hr] at hb; cases hb
  | some r =>
    rw [hr] at hb
    have hc := (hT t tt htt).cmp ks hcmp
    unfold cmpB at hc
    simp only [Bool.and_eq_true, Bool.not_eq_true'] at hc
    obtain ⟨hg, hc⟩ := hc
    have heq : (Op.equalIn 10000 t (.agg xs.toArray) (.agg ys.toArray)).run P w = .ok r w := by
      split at hc
      · rename_i F hu
        simp only [Bool.and_eq_true, Bool.not_eq_true'] at hc
        have hF : P.fieldsOf t = F := by simp [Program.fieldsOf, hu]
        rw [run_equalIn_struct w 9999 t _ _ (by rw [hF]; exact hu) hc.1, hF]
        exact eq_fields 9998 w F.toList ks 0 us vs r xs ys [] [] hc.2 hr hxs hys rfl rfl
      · rename_i m0 e hu
        simp only [Bool.and_eq_true, decide_eq_true_eq] at hc
        obtain ⟨⟨rfl, hne⟩, hc⟩ := hc
        obtain ⟨i, hi⟩ : ∃ i, P.info? e = some i := by
          cases ks with
          | nil => simp at hne
          | cons k ks =>
            simp only [List.all_cons, Bool.and_eq_true] at hc
            have := hc.1
            unfold cmpB.cmp1 at this
            simp only [Bool.and_eq_true] at this
            cases hi : P.info? e with
            | some i => exact ⟨i, rfl⟩
            | none =>
              have hu0 : P.underlying e = none := by simp [Program.underlying, hi]
              rw [hu0] at this
              exact absurd this.2 (by simp)
        rw [run_equalIn_array w 9999 _ _ hu hi, List.range_eq_range']
        exact eq_items 9998 w ks 0 us vs r xs ys [] [] hc hr hxs hys rfl rfl
      · cases hc
    have hgr := run_eqGuard_agg (P := P) w op t X Y xs.toArray ys.toArray hg
    unfold eqA at hb
    split at hb
    · cases hb
    · rename_i r' hrr
      cases hrr
      split at hb <;> cases hb
      · refine ⟨.bool r, ?_, by simp only [Den]⟩
        simp only [Sem.run_bind, hX, hY, hgr, Result.andThen, Sem.run_pure, run_eql_struct, heq]
      · refine ⟨.bool (!r), ?_, by simp only [Den]⟩
        simp only [Sem.run_bind, hX, hY, hgr, Result.andThen, Sem.run_pure, run_neq_struct, heq]

theorem equalIn_ptr (d : Nat) {t e : TypeId} (A : Option Addr) (h : P.underlying t = some (.pointer e)) (w : World) : (Op.equalIn (d + 1) t (.pointer A) (.pointer none)).run P w = .ok A.isNone w := by
  cases A <;> simp [Op.equalIn, run_underlying h, Result.andThen]

theorem done_binN (hT : ∀ t tt, tab t = some tt → TtOk P t tt) (hs : SlotsOk sl a) (hm : MemSat w0 W m w) (hk : Kept w0 W w) {t : TypeId} {tt : TT} (htt : tab t = some tt) (hkind : tt.kind = .pointer) {op : BinOp} {X Y : Operand} {ax ay : Opd} (hax : opd X = some ax) (hay : opd Y = some ay)
    (hx : ∀ x, ∃ p v u, stepF sp spP no x sl (lk m) (.binN op ax ay) = some (p, v, u) ∧ p) :
    Done P sp spP no sl m w0 W (.binN op ax ay) ((do let v ← (do eqGuard op t X Y (a.eval X) (a.eval Y); binOp op t (a.eval X) (a.eval Y)); pure (Next.value v) : Sem Next).run P w) := by
  refine done_of hm hk (fun x p v u h hp => ?_) hx
  simp only [stepF] at h
  obtain ⟨v0, p', hd, hf, hp'⟩ := o1_den h hp hax hs
  obtain ⟨v1, p'', hd1, hf1, hp''⟩ := o1_den hf hp' hay hs
  obtain ⟨hb, rfl⟩ := upTo_some hf1
  refine ⟨rfl, ?_⟩
  obtain ⟨d, hdesc, hkd⟩ := (hT t tt htt).desc
  rw [hkind] at hkd
  obtain ⟨e, rfl⟩ := hkd
  have key : ∀ (A : Option Addr) (r : Bool), a.eval X = .pointer A → a.eval Y = .pointer none → r = A.isNone → (∃ rv, (do let v ← (do eqGuard op t X Y (a.eval X) (a.eval Y); binOp op t (a.eval X) (a.eval Y)); pure (Next.value v) : Sem Next).run P w = .ok (.value rv) w ∧ (op = .eql → rv = .bool r) ∧ (op = .neq → rv = .bool (!r))) ∨ (op ≠ .eql ∧ op ≠ .neq) := by
    intro A r hX hY hr
    by_cases ho : op = .eql ∨ op = .neq
    case neg => exact .inr ⟨fun e => ho (.inl e), fun e => ho (.inr e)⟩
    have hg := eqGuard_run (P := P) op t X Y (u := a.eval X) (v := a.eval Y) (by rw [hX]; rfl) (by rw [hX]; simp) w
    have he : (Op.equal t (a.eval X) (a.eval Y)).run P w = .ok r w := by
      rw [hX, hY, hr]
      exact equalIn_ptr 9999 A hdesc w
    rcases ho with rfl | rfl
    · refine .inl ⟨.bool r, ?_, fun _ => rfl, fun h => (by cases h)⟩
      simp only [Sem.run_bind, hg, Result.andThen, Sem.run_pure]
      have : binOp .eql t (a.eval X) (a.eval Y) = (do pure (.bool (← Op.equal t (a.eval X) (a.eval Y)))) := by rw [hX, hY]; rfl
      rw [this]
      simp [he, Result.andThen]
    · refine .inl ⟨.bool (!r), ?_, fun h => (by cases h), fun _ => rfl⟩
      simp only [Sem.run_bind, hg, Result.andThen, Sem.run_pure]
      have : binOp .neq t (a.eval X) (a.eval Y) = (do pure (.bool (!(← Op.equal t (a.eval X) (a.eval Y))))) := by rw [hX, hY]; rfl
      rw [this]
      simp [he, Result.andThen]
  unfold binNSV at hb
  split at hb
  · simp only [Den] at hd hd1
    split at hb <;> cases hb
    · rcases key _ false hd hd1 rfl with ⟨rv, h1, h2, _⟩ | h
      · exact ⟨rv, h1, by rw [h2 rfl]; simp only [Den]⟩
      · exact absurd rfl h.1
    · rcases key _ false hd hd1 rfl with ⟨rv, h1, _, h2⟩ | h
      · exact ⟨rv, h1, by rw [h2 rfl]; simp [Den]⟩
      · exact absurd rfl h.2
  · simp only [Den] at hd hd1
    split at hb <;> cases hb
    · rcases key _ true hd hd1 rfl with ⟨rv, h1, h2, _⟩ | h
      · exact ⟨rv, h1, by rw [h2 rfl]; simp only [Den]⟩
      · exact absurd rfl h.1
    · rcases key _ true hd hd1 rfl with ⟨rv, h1, _, h2⟩ | h
      · exact ⟨rv, h1, by rw [h2 rfl]; simp [Den]⟩
      · exact absurd rfl h.2
  · cases hb

/-! copy, clear. -/
theorem wrO_ok {c : Nat} {own : Own} {L : Loc} {k : IntKind} {b : Nat} (ho : own.wr = true) : ∀ (ys : List Int) (us : List Value) (m : Mem) (w : World) (xs : List Int) (i : Nat), MemSat w0 W m w → Kept w0 W w →
    lk m c = some (own, L, .ints k xs) → b + i + ys.length ≤ xs.length → Dens (ys.map fun n => .int k n) us →
    ∃ w', (storeCells (L.ad b) us i).run P w = .ok () w' ∧ MemSat w0 W (st m c (some (own, L, .ints k (xs.take (b + i) ++ (ys ++ xs.drop (b + i + ys.length)))))) w' ∧ Kept w0 W w'
  | [], us, m, w, xs, i, hm, hk, hc, hl, hd => by
    simp only [List.map_nil, Dens] at hd; subst hd
    refine ⟨w, by simp [storeCells], ?_, hk⟩
    simp only [List.length_nil, Nat.add_zero, List.nil_append, List.take_append_drop, st_same _ _ _ hc]
    exact hm
  | y :: ys, us, m, w, xs, i, hm, hk, hc, hl, hd => by
    simp only [List.map_cons, Dens] at hd
    obtain ⟨u, us', rfl, hv, hd⟩ := hd
    simp only [List.length_cons] at hl
    have hlt : b + i < xs.length := by omega
    obtain ⟨w1, hr, hm1, hk1, _⟩ := store_ok (P := P) hm hk hc ho (o := b + i) (ch' := .ints k (xs.set (b + i) y)) (by simpa [Chunk.len] using hlt) hv (hv.one rfl).1 (by simp [Chunk.len]) (by simp [Chunk.ext]) (by have := (hm.chunk c _ hc).fits; simpa [Chunk.fits] using this)
      (fun j hj => by
        simp only [Chunk.len] at hj
        simp only [Chunk.cell, List.getD_eq_getElem?_getD, List.getElem?_set]
        by_cases e : j = b + i
        · subst e; simp [hj]
        · simp [e, Ne.symm e]) (fun _ _ _ h => h.elim)
    obtain ⟨w2, hr2, hm2, hk2⟩ := wrO_ok (b := b) ho ys us' _ w1 (xs.set (b + i) y) (i + 1) hm1 hk1 (by rw [lk_st, if_pos ⟨rfl, lk_lt hc⟩]) (by simp; omega) hd
    refine ⟨w2, ?_, ?_, hk2⟩
    · rw [← hr2]
      simp only [storeCells, Sem.run_bind]
      rw [ad_add, hr]
      rfl
    · rw [st_st] at hm2
      have e1 : (xs.set (b + i) y).take (b + (i + 1)) = xs.take (b + i) ++ [y] := by
        rw [← Nat.add_assoc, List.take_succ_eq_append_getElem (by simpa using hlt)]
        simp [List.take_set_of_le]
      have e2 : (xs.set (b + i) y).drop (b + (i + 1) + ys.length) = xs.drop (b + i + (ys.length + 1)) := by
        rw [List.drop_set_of_lt (by omega)]
        congr 1; omega
      rw [e1, e2] at hm2
      simpa using hm2

theorem done_copy (hT : ∀ t tt, tab t = some tt → TtOk P t tt) (hs : SlotsOk sl a) (hm : MemSat w0 W m w) (hk : Kept w0 W w)
    {t t' e e' ty : TypeId} {tt tt' te : TT} (htt : tab t = some tt) (hkind : tt.kind = .slice e) (hte : tab e = some te) (h1 : te.size = 1)
    {X Y : Operand} {ax ay : Opd} (hax : opd X = some ax) (hay : opd Y = some ay)
    (hx : ∀ x, ∃ p v u, stepF sp spP no x sl (lk m) (.copy ax ay) = some (p, v, u) ∧ p) :
    Done P sp spP no sl m w0 W (.copy ax ay) ((do pure (Next.value (← Builtin.copy_ #[t, t'] ty #[a.eval X, a.eval Y])) : Sem Next).run P w) := by
  obtain ⟨p, v, u, h, hp⟩ := hx (fun _ => default)
  have h0 := h
  have hp0 := hp
  simp only [stepF] at h
  obtain ⟨s0, q0, hd0, hf0, hq0⟩ := o1_den h hp hax hs
  obtain ⟨s1, q1, hd1, hf1, hq1⟩ := o1_den hf0 hq0 hay hs
  split at hf1
  case h_2 => cases hf1
  rename_i c L s lo n d M s' lo' mm
  cases hss : (decide (s = 1) && decide (s' = 1)) with
  | false => rw [hss] at hf1; cases hf1
  | true =>
  rw [hss] at hf1
  simp only [Bool.and_eq_true, decide_eq_true_eq] at hss
  obtain ⟨rfl, rfl⟩ := hss
  simp only [cond_true] at hf1
  unfold copyF at hf1
  split at hf1
  case h_2 => cases hf1
  rename_i own L' k xs own2 M' k' ys hl0 hl1
  cases hok : (own.wr && decide (k = k')) with
  | false => rw [hok] at hf1; cases hf1
  | true =>
  rw [hok] at hf1
  simp only [Bool.and_eq_true, decide_eq_true_eq] at hok
  obtain ⟨hown, rfl⟩ := hok
  simp only [cond_true] at hf1
  cases hf1
  obtain ⟨rfl, rfl, g0, g1, g2, g3, g4, g5⟩ := hq1
  have hl0 := lkN_some hl0
  have hl1 := lkN_some hl1
  simp only [Den] at hd0 hd1
  obtain ⟨_, _, nc, nz, A, hA, hAn, hA'⟩ := hd0
  obtain ⟨_, _, mc, mz, B, hB, hBn, hB'⟩ := hd1
  obtain ⟨f1, f2⟩ : xs.length ≤ L'.cap ∧ (L'.nil = true → L'.cap = 0) := (hm.chunk c _ hl0).fits
  obtain ⟨us, u1, u2, u3, _⟩ := first_ok (P := P) hm hl1 (lo := lo'.toNat) (n := (min mm n).toNat) (S := 1) (by simp only [Chunk.len]; omega) (B := B) (N := mm.toNat) (D := M'.cap - lo'.toNat) (fun hne => by
    have hb := hB' (by omega)
    rw [hb]
    cases hn : M'.nil
    · simp
    · have := mz hn; omega)
  have hlen : (sub ys lo' (min mm n)).length = (min mm n).toNat := by simp [sub]; omega
  have hds : Dens ((sub ys lo' (min mm n)).map fun n => .int k n) us := by
    refine Dens.of_get (by simp [hlen, u1]) fun i s v hi hv => ?_
    have hlt : i < (min mm n).toNat := by have := (List.getElem?_eq_some_iff.1 hv).1; omega
    obtain ⟨v', hv', hd⟩ := u2 i (by omega)
    rw [hv] at hv'; cases hv'
    simp only [Chunk.cell] at hd
    have hb : lo'.toNat + i < ys.length := by omega
    simp [sub, List.getElem?_take, hlt, hb] at hi
    rw [← hi]
    simpa [List.getD_eq_getElem?_getD, hb] using hd
  obtain ⟨w', r1, r2, r3⟩ := wrO_ok (P := P) (b := lo.toNat) hown (sub ys lo' (min mm n)) us m w xs 0 hm hk hl0 (by omega) hds
  simp only [Nat.add_zero] at r2
  refine ⟨fun _ => default, _, _, _, .int .i64 (min mm n), w', h0, hp0, .inl ?_, by simp only [Den], by simpa only [apU, over] using r2, r3⟩
  have hgo : (goInt (Nat.min mm.toNat n.toNat) : Value) = .int .i64 (min mm n) := by
    simp only [goInt]
    rw [show Nat.min mm.toNat n.toNat = min mm.toNat n.toNat from rfl]
    congr 1
    omega
  have hmin : (min mm n).toNat = Nat.min mm.toNat n.toNat := by
    rw [show Nat.min mm.toNat n.toNat = min mm.toNat n.toNat from rfl]; omega
  have hus0 : A = none → us = [] := fun hz => by
    have : (min mm n).toNat = 0 := by
      rw [hz] at hAn
      have := nz (by simpa using hAn.symm)
      omega
    have : us.length = 0 := by omega
    simpa using this
  have hpos0 : us ≠ [] → L'.cap - lo.toNat ≠ 0 := fun hus => by
    have hpos : us.length ≠ 0 := by simpa using hus
    omega
  rw [hmin] at u3
  have hu : P.underlying t = some (.slice e) := desc_slice hT htt hkind
  by_cases hz : A = none
  · have hus : us = [] := hus0 hz
    subst hus
    have hw : w' = w := by simp [storeCells] at r1; exact r1.symm
    rw [hA, hB, hz, hw]
    simp [Builtin.copy_, run_underlying hu, Builtin.lenOf, sizeOf_run hT hte, h1, u3, Result.andThen, hgo]
  · obtain ⟨b, rfl⟩ := Option.ne_none_iff_exists'.1 hz
    have hst : (storeCells b us).run P w = .ok () w' := by
      by_cases hus : us = []
      · subst hus
        have hw : w' = w := by simp [storeCells] at r1; exact r1.symm
        rw [hw]; simp [storeCells]
      · have hc0 := hpos0 hus
        have := hA' hc0
        cases hn : L'.nil with
        | true => have := nz hn; omega
        | false =>
          rw [hn] at this
          simp at this
          rw [this]; exact r1
    rw [hA, hB]
    simp [Builtin.copy_, run_underlying hu, Builtin.lenOf, sizeOf_run hT hte, h1, u3, Result.andThen, hgo, hst]

theorem storeCells_app (b : Addr) : ∀ (us vs : List Value) (i : Nat) (w w' : World), (storeCells b us i).run P w = .ok () w' → (storeCells b (us ++ vs) i).run P w = (storeCells b vs (i + us.length)).run P w'
  | [], vs, i, w, w', h => by simp [storeCells] at h; simp [h]
  | u :: us, vs, i, w, w', h => by
    simp only [storeCells, Sem.run_bind, List.cons_append, List.length_cons] at h ⊢
    cases hr : (store (b.add i) u).run P w with
    | ok x w1 =>
      rw [hr] at h
      simp only [Result.andThen] at h ⊢
      rw [storeCells_app b us vs (i + 1) w1 w' h]
      congr 2; omega
    | halt x w1 => rw [hr] at h; simp [Result.andThen] at h

theorem zl_succ (z : Array Value) (n : Nat) : (Builtin.zeroCells z (n + 1)).toList = z.toList ++ (Builtin.zeroCells z n).toList := by
  apply List.ext_getElem
  · simp [Builtin.zeroCells, Nat.add_mul]; omega
  · intro i h1 h2
    simp [Builtin.zeroCells] at h1 ⊢
    have hz : 0 < z.size := by
      rcases Nat.eq_zero_or_pos z.size with h | h
      · rw [h] at h1; simp at h1
      · exact h
    by_cases h : i < z.size
    · rw [List.getElem_append_left (by simpa using h)]
      simp [Nat.mod_eq_of_lt h, h]
    · rw [List.getElem_append_right (by simpa using h)]
      simp
      congr 1
      have : i = (i - z.size) + z.size := by omega
      conv => lhs; rw [this]
      exact Nat.add_mod_right _ _

/-- Records are written, one behind the other. -/
theorem wrN_ok {c : Nat} {own : Own} {L : Loc} {s : Nat} {fr : Bool} {z' z : List RC} {zv : Array Value} (ho : own.wr = true) (hzl : z.length = s) (hz : Dens (z.map RC.sv) zv.toList) (hnr : ∀ M k xs, RC.row M k xs ∉ z) : ∀ (n : Nat) (m : Mem) (w : World) (l : List (List RC)) (b i : Nat), MemSat w0 W m w → Kept w0 W w →
    lk m c = some (own, L, .recs s fr z' l) → b + i + n ≤ l.length →
    ∃ w', (storeCells (L.ad (b * s)) (Builtin.zeroCells zv n).toList (i * s)).run P w = .ok () w' ∧ MemSat w0 W (st m c (some (own, L, .recs s fr z' (l.take (b + i) ++ (List.replicate n z ++ l.drop (b + i + n)))))) w' ∧ Kept w0 W w'
  | 0, m, w, l, b, i, hm, hk, hc, hl => by
    refine ⟨w, by simp [storeCells, Builtin.zeroCells], ?_, hk⟩
    simp only [List.replicate_zero, List.nil_append, Nat.add_zero, List.take_append_drop, st_same _ _ _ hc]
    exact hm
  | n + 1, m, w, l, b, i, hm, hk, hc, hl => by
    have hlt : b + i < l.length := by omega
    obtain ⟨w1, hr, hm1, hk1⟩ := wrR_ok (P := P) (fr' := fr) (i := b + i) ho id z zv.toList m w l 0 0 hm hk hc hlt (by omega) hz (fun M k xs h => absurd h (hnr M k xs))
    simp only [Nat.add_zero] at hr hm1
    have hlen : (l.getD (b + i) []).length = s := (hm.chunk c _ hc).fits.2.2.2 _ (by simp [List.getD_eq_getElem?_getD, hlt])
    rw [setsR_eq _ _ _ (by omega)] at hm1
    simp only [List.take_zero, List.nil_append] at hm1
    obtain ⟨w2, hr2, hm2, hk2⟩ := wrN_ok ho hzl hz hnr n _ w1 (l.set (b + i) z) b (i + 1) hm1 hk1 (by rw [lk_st, if_pos ⟨rfl, lk_lt hc⟩]) (by simp; omega)
    have hzs : zv.size = s := by have := hz.length; simp at this; omega
    refine ⟨w2, ?_, ?_, hk2⟩
    · rw [zl_succ]
      have hr' : (storeCells (L.ad (b * s)) zv.toList (i * s)).run P w = .ok () w1 := by
        have e : ∀ (us : List Value) (j x y : Nat), storeCells (L.ad (x + y)) us j = storeCells (L.ad x) us (y + j) := by
          intro us
          induction us with
          | nil => intro j x y; simp [storeCells]
          | cons u us ih => intro j x y; simp only [storeCells, ad_add, ih, Nat.add_assoc]
        rw [Nat.add_mul, e] at hr
        simpa using hr
      rw [storeCells_app _ _ _ _ _ _ hr']
      rw [← hr2]
      congr 2
      simp [hzs, Nat.add_mul]
    · rw [st_st] at hm2
      have e1 : (l.set (b + i) z).take (b + (i + 1)) = l.take (b + i) ++ [z] := by
        rw [← Nat.add_assoc, List.take_succ_eq_append_getElem (by simpa using hlt)]
        simp [List.take_set_of_le]
      have e2 : (l.set (b + i) z).drop (b + (i + 1) + n) = l.drop (b + i + (n + 1)) := by
        rw [List.drop_set_of_lt (by omega)]
        congr 1; omega
      rw [e1, e2] at hm2
      simpa [List.replicate_succ] using hm2

theorem noRows_ok : ∀ {z : List RC}, noRows z = true → ∀ M k xs, RC.row M k xs ∉ z
  | [], _, M, k, xs => by simp
  | .int _ _ :: z, h, M, k, xs => by simpa using noRows_ok (z := z) h M k xs
  | .bool _ :: z, h, M, k, xs => by simpa using noRows_ok (z := z) h M k xs
  | .row _ _ _ :: z, h, _, _, _ => by simp [noRows] at h

theorem done_clear (hT : ∀ t tt, tab t = some tt → TtOk P t tt) (hs : SlotsOk sl a) (hm : MemSat w0 W m w) (hk : Kept w0 W w)
    {t e ty : TypeId} {tt te : TT} (htt : tab t = some tt) (hkind : tt.kind = .slice e) (hte : tab e = some te) {nk : IntKind} {z : List RC} (hz : zeroR nk te.zero = some z)
    {X : Operand} {ax : Opd} (hax : opd X = some ax)
    (hx : ∀ x, ∃ p v u, stepF sp spP no x sl (lk m) (.clear z ax) = some (p, v, u) ∧ p) :
    Done P sp spP no sl m w0 W (.clear z ax) ((do pure (Next.value (← Builtin.clear_ #[t] ty #[a.eval X])) : Sem Next).run P w) := by
  obtain ⟨p, v, u, h, hp⟩ := hx (fun _ => default)
  have h0 := h
  have hp0 := hp
  simp only [stepF] at h
  obtain ⟨s0, q0, hd0, hf0, hq0⟩ := o1_den h hp hax hs
  split at hf0
  case h_2 => cases hf0
  rename_i c L s lo n
  split at hf0
  case h_2 => cases hf0
  rename_i own L' s' fr z' l hl0
  have hown : own.wr = true := by cases hw : own.wr <;> simp [hw] at hf0 ⊢
  have hf2 : (bif decide (s = s') && noRows z && decide (z.length = s) then (some (L' = L ∧ 0 ≤ lo ∧ 0 ≤ n ∧ lo + n = l.length, .tup [], [(c, some (own, L', .recs s' fr z' (l.take lo.toNat ++ List.replicate n.toNat z)))]) : R) else none) = some (q0, v, u) := by
    rw [hown] at hf0; exact hf0
  cases hc : (decide (s = s') && noRows z && decide (z.length = s)) with
  | false => rw [hc] at hf2; cases hf2
  | true =>
    rw [hc] at hf2
    simp only [Bool.and_eq_true, decide_eq_true_eq] at hc
    obtain ⟨⟨rfl, hnr⟩, hzl⟩ := hc
    simp only [cond_true] at hf2
    cases hf2
    obtain ⟨rfl, g0, g1, g2⟩ := hq0
    have hl0 := lkN_some hl0
    simp only [Den] at hd0
    obtain ⟨_, _, nc, nz, A, hA, hAn, hA'⟩ := hd0
    obtain ⟨i0, hi0, hsz, hbytes, zv, hzv, hds, _⟩ := (hT e te hte).info
    obtain ⟨z1, z2, z3⟩ := zeroR_ok hz
    have hu : P.underlying t = some (.slice e) := desc_slice hT htt hkind
    obtain ⟨w', r1, r2, r3⟩ := wrN_ok (P := P) hown hzl (z2 _ hds) (noRows_ok hnr) n.toNat m w l lo.toNat 0 hm hk hl0 (by omega)
    simp only [Nat.add_zero, Nat.zero_mul] at r1 r2
    rw [List.drop_eq_nil_of_le (by omega), List.append_nil] at r2
    refine ⟨fun _ => default, _, _, _, .tuple #[], w', h0, hp0, .inl ?_, by simp [Den, Dens], by simpa only [apU] using r2, r3⟩
    by_cases hn : n.toNat = 0
    · have hw : w' = w := by rw [hn] at r1; simp [storeCells, Builtin.zeroCells] at r1; exact r1.symm
      rw [hA, hw, hn]
      cases A <;> simp [Builtin.clear_, run_underlying hu, Result.andThen]
    · have hcap : L'.cap - lo.toNat ≠ 0 := by omega
      have := hA' hcap
      cases hnil : L'.nil with
      | true => have := nz hnil; omega
      | false =>
        rw [hnil] at this
        simp at this
        rw [hA, this]
        cases hnn : n.toNat with
        | zero => exact absurd hnn hn
        | succ k =>
          rw [hnn] at r1
          simp [Builtin.clear_, run_underlying hu, Result.andThen, zero_run hi0 hzv, r1]

end Go.Proofs.Ytnmbimhcfioeiaa.Xf
