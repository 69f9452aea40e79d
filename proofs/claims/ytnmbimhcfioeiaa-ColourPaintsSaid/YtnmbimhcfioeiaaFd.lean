import Derived.Test.YtnmbimhcfioeiaaFc
import Derived.Laws.MakeOwn
import Derived.Laws.AppendOwn
import Derived.Laws.Append
set_option linter.unusedVariables false
set_option linter.unusedSimpArgs false
/-! Xf, part d: what each operation does to the world. -/
namespace Go.Proofs.Ytnmbimhcfioeiaa.Xf

theorem ad_add (L : Loc) (k n : Nat) : (L.ad k).add n = L.ad (k + n) := by
  unfold Addr.add Loc.ad
  by_cases h : n = 0
  · simp [h]
  · simp [h]; omega

theorem info_run {P : Program} {t : TypeId} {i : TypeInfo} (h : P.info? t = some i) (w : World) : (typeInfo t).run P w = .ok i w := by
  simp [typeInfo, h]
theorem size_run {P : Program} {t : TypeId} {i : TypeInfo} (h : P.info? t = some i) (w : World) : (sizeOf t).run P w = .ok i.size w := by
  simp [sizeOf, info_run h, Result.andThen]
theorem zero_run {P : Program} {t : TypeId} {i : TypeInfo} {z : Value} (h : P.info? t = some i) (hz : i.zero = some z) (w : World) : (zeroValue t).run P w = .ok z w := by
  simp [zeroValue, info_run h, hz, Result.andThen]

/-- What is to be shown of an operation that runs by itself. -/
def Done (P : Program) (sp : Sp) (spP : SpP) (no : Lim) (sl : List Ent) (m : Mem) (w0 : World) (W : Addr → Prop) (io : IROp) (r : Result Next) : Prop :=
  ∃ x p v u rv w', stepF sp spP no x sl (lk m) io = some (p, v, u) ∧ p ∧ (r = .ok (.value rv) w' ∨ (r = .ok .skip w' ∧ rv = undef)) ∧ Den v rv ∧ MemSat w0 W (apU m u) w' ∧ Kept w0 W w'

section
variable {P : Program} {sp : Sp} {spP : SpP} {no : Lim} {sl : List Ent} {m : Mem} {w0 w : World} {W : Addr → Prop} {a : Act} {tab : Tab} {isP : FuncId → Bool}

/-- The plain case: nothing is made, no memory is turned. -/
theorem done_of (hm : MemSat w0 W m w) (hk : Kept w0 W w) {io : IROp} {r : Result Next}
    (h : ∀ x p v u, stepF sp spP no x sl (lk m) io = some (p, v, u) → p → u = [] ∧ ∃ rv, r = .ok (.value rv) w ∧ Den v rv)
    (hx : ∀ x, ∃ p v u, stepF sp spP no x sl (lk m) io = some (p, v, u) ∧ p) : Done P sp spP no sl m w0 W io r := by
  obtain ⟨p, v, u, hs, hp⟩ := hx (fun _ => default)
  obtain ⟨rfl, rv, hr, hd⟩ := h _ p v u hs hp
  exact ⟨_, p, v, [], rv, w, hs, hp, .inl hr, hd, hm, hk⟩

theorem lkN_some {no : Lim} {look : Look} {c : Nat} {e : ME} (h : lkN no look c = some e) : look c = some e := by
  unfold lkN at h
  cases hb : refuses no c <;> simp [hb] at h
  exact h

theorem lkK_some {r : Bool} {no : Lim} {look : Look} {c : Nat} {e : ME} (h : lkK r no look c = some e) : look c = some e := by
  unfold lkK at h
  split at h
  case h_2 => cases h
  rename_i own L ch hl
  cases hr : (ch.row == r) <;> simp [hr] at h
  rw [← h]; exact lkN_some hl

theorem getL_eq : ∀ (l : List SV) (n : Nat), getL l n = l[n]?
  | [], n => by simp [getL]
  | a :: l, 0 => by simp [getL]
  | a :: l, n + 1 => by simp [getL, getL_eq l n]
theorem setL_eq : ∀ (l : List SV) (n : Nat) (v : SV), setL l n v = l.set n v
  | [], n, v => by simp [setL]
  | a :: l, 0, v => by simp [setL]
  | a :: l, n + 1, v => by simp [setL, setL_eq l n]
theorem dropL_eq : ∀ (l : List SV) (n : Nat), dropL l n = l.drop n
  | l, 0 => by simp [dropL]
  | [], n + 1 => by simp [dropL]
  | a :: l, n + 1 => by simp [dropL, dropL_eq l n]
theorem takeL_some : ∀ {l : List SV} {n : Nat} {r : List SV}, takeL l n = some r → r = l.take n ∧ n ≤ l.length
  | l, 0, r, h => by simp [takeL] at h; simp [h]
  | [], n + 1, r, h => by simp [takeL] at h
  | a :: l, n + 1, r, h => by
    simp only [takeL] at h
    split at h
    · cases h
    · rename_i r' h'
      cases h
      have := takeL_some h'
      simp [this.1, this.2]

theorem rd_val {k : IntKind} {xs : List Int} {i : Int} (h : 0 ≤ i) (h2 : i < xs.length) : xs.getD i.toNat 0 = rd xs i := rfl

/-- A cell that is read. -/
theorem rdc_ok (hm : MemSat w0 W m w) {c : Nat} {own : Own} {L : Loc} {ch : Chunk} (hc : lk m c = some (own, L, ch)) {i : Int} {s f : Nat} {p : Prop} {v : SV}
    (h : rdc i s f ch = some (p, v)) (hp : p) : ∃ u, w.cell? (L.ad (i.toNat * s + f)) = some u ∧ Den v u := by
  have hk := hm.chunk c _ hc
  cases ch with
  | cells cs =>
    simp only [rdc] at h
    split at h
    · cases h
    · rename_i v' hv
      cases h
      rw [getL_eq] at hv
      have hlt : i.toNat * s + f < cs.length := by
        rcases Nat.lt_or_ge (i.toNat * s + f) cs.length with h | h
        · exact h
        · simp [List.getElem?_eq_none h] at hv
      obtain ⟨u, hu, hd⟩ := hk.cell _ hlt
      refine ⟨u, hu, ?_⟩
      simpa [Chunk.cell, List.getD_eq_getElem?_getD, hv] using hd
  | ints k xs =>
    simp only [rdc] at h
    split at h
    · cases h
      obtain ⟨u, hu, hd⟩ := hk.cell i.toNat (by simp only [Chunk.len]; omega)
      exact ⟨u, by simpa using hu, by simpa [Chunk.cell, rd] using hd⟩
    · cases h
  | bools xs =>
    simp only [rdc] at h
    split at h
    · cases h
      obtain ⟨u, hu, hd⟩ := hk.cell i.toNat (by simp only [Chunk.len]; omega)
      exact ⟨u, by simpa using hu, by simpa [Chunk.cell, rdB] using hd⟩
    · cases h
  | recs s' fr z l => simp [rdc] at h

theorem intsV_get (k : IntKind) (xs : List Int) : ∀ (n : Nat), (intsV k xs n).length = n ∧ ∀ j, j < n → (intsV k xs n)[j]? = some (.int k (xs.getD j 0))
  | 0 => by simp [intsV]
  | n + 1 => by
    have ih := intsV_get k xs n
    refine ⟨by simp [intsV, ih.1], fun j hj => ?_⟩
    simp only [intsV]
    rcases Nat.lt_or_ge j n with h | h
    · rw [List.getElem?_append_left (by omega)]; exact ih.2 j h
    · have : j = n := by omega
      subst this
      rw [List.getElem?_append_right (by omega)]
      simp [ih.1]

/-- The cells from f on, as values. -/
theorem cells_from {w : World} {L : Loc} : ∀ (cs : List SV) (f n : Nat), (∀ j, j < n → ∃ u, w.cell? (L.ad (f + j)) = some u ∧ ∀ d, cs[j]? = some d → Den d u) → cs.length = n →
      ∃ us : List Value, us.length = n ∧ (∀ j u, us[j]? = some u → w.cell? ((L.ad f).add j) = some u) ∧ Dens cs us := by
  intro cs
  induction cs with
  | nil => intro f n _ hn; exact ⟨[], by simpa using hn, by simp, by simp [Dens]⟩
  | cons d cs ih =>
    intro f n H hn
    cases n with
    | zero => simp at hn
    | succ n =>
      obtain ⟨u, hu, hd⟩ := H 0 (by omega)
      obtain ⟨us, h1, h2, h3⟩ := ih (f + 1) n (fun j hj => by
        obtain ⟨u, hu, hd⟩ := H (j + 1) (by omega)
        exact ⟨u, by rw [show f + 1 + j = f + (j + 1) by omega]; exact hu, fun d h => hd d (by simpa using h)⟩) (by simpa using hn)
      refine ⟨u :: us, by simp [h1], fun j v hv => ?_, by simp only [Dens]; exact ⟨_, _, rfl, hd d (by simp), h3⟩⟩
      cases j with
      | zero => simp at hv; subst hv; rw [ad_add]; simpa using hu
      | succ j =>
        have := h2 j v (by simpa using hv)
        rw [ad_add] at this ⊢
        rw [show f + (j + 1) = f + 1 + j by omega]; exact this

/-- Several cells that are read. -/
theorem rdn_ok (hm : MemSat w0 W m w) {c : Nat} {own : Own} {L : Loc} {ch : Chunk} (hc : lk m c = some (own, L, ch)) {n : Nat} {i : Int} {s f : Nat} {p : Prop} {v : SV}
    (h : rdn n i s f ch = some (p, v)) (hp : p) : ∃ us : List Value, us.length = n ∧ (∀ j u, us[j]? = some u → w.cell? ((L.ad (i.toNat * s + f)).add j) = some u) ∧ Den v (.agg us.toArray) := by
  have hk := hm.chunk c _ hc
  cases ch with
  | cells cs =>
    simp only [rdn] at h
    split at h
    · cases h
    · rename_i l hl
      cases h
      generalize i.toNat * s + f = f at *
      have ⟨h1, h2⟩ := takeL_some hl
      rw [dropL_eq] at h1 h2
      have hfl : f + n ≤ cs.length ∨ n = 0 := by simp at h2; omega
      obtain ⟨us, g1, g2, g3⟩ := cells_from (w := w) (L := L) l f n (fun j hj => by
        obtain ⟨u, hu, hd⟩ := hk.cell (f + j) (by simp only [Chunk.len]; omega)
        refine ⟨u, hu, fun d hd' => ?_⟩
        subst h1
        have : cs[f + j]? = some d := by simpa [List.getElem?_take, hj] using hd'
        simpa [Chunk.cell, List.getD_eq_getElem?_getD, this] using hd) (by simp [h1]; simp at h2; omega)
      exact ⟨us, g1, g2, by simp only [Den]; exact ⟨us, rfl, g3⟩⟩
  | ints k xs =>
    simp only [rdn] at h
    split at h
    · cases h
      subst hp
      have hi := intsV_get k xs xs.length
      obtain ⟨us, g1, g2, g3⟩ := cells_from (w := w) (L := L) (intsV k xs xs.length) 0 xs.length (fun j hj => by
        obtain ⟨u, hu, hd⟩ := hk.cell j (by simpa [Chunk.len] using hj)
        refine ⟨u, by simpa using hu, fun d hd' => ?_⟩
        rw [hi.2 j hj] at hd'
        cases hd'
        simpa [Chunk.cell] using hd) hi.1
      exact ⟨us, g1, fun j u hu => by simpa using g2 j u hu, by simp only [Den]; exact ⟨us, rfl, g3⟩⟩
    · cases h
  | bools xs => simp [rdn] at h
  | recs s' fr z l => simp [rdn] at h

theorem isAgg_run {t : TypeId} {tt : TT} (h : TtOk P t tt) (w : World) : (isAgg t).run P w = .ok tt.agg w := by
  obtain ⟨d, hd, hk⟩ := h.desc
  simp only [isAgg, Sem.run_bind, run_underlying hd, Result.andThen]
  unfold TT.agg
  cases hkind : tt.kind with
  | int k => rw [hkind] at hk; simp only [TKOk] at hk; subst hk; rfl
  | bool => rw [hkind] at hk; simp only [TKOk] at hk; subst hk; rfl
  | slice e => rw [hkind] at hk; simp only [TKOk] at hk; subst hk; rfl
  | struct fs => rw [hkind] at hk; obtain ⟨F, rfl, _⟩ := hk; rfl
  | array n e => rw [hkind] at hk; simp only [TKOk] at hk; subst hk; rfl
  | pointer => rw [hkind] at hk; obtain ⟨e, rfl⟩ := hk; rfl
  | other => rw [hkind] at hk; simp only [TKOk] at hk; cases d <;> first | rfl | simp at hk

/-! Records. -/
theorem getR_eq : ∀ (l : List RC) (n : Nat), getR l n = l.getD n (.int .i64 0)
  | [], n => by simp [getR]
  | a :: l, 0 => by simp [getR]
  | a :: l, n + 1 => by simp [getR, getR_eq l n]
theorem setR_eq : ∀ (l : List RC) (n : Nat) (v : RC), setR l n v = l.set n v
  | [], n, v => by simp [setR]
  | a :: l, 0, v => by simp [setR]
  | a :: l, n + 1, v => by simp [setR, setR_eq l n]
theorem dropR_eq : ∀ (l : List RC) (n : Nat), dropR l n = l.drop n
  | l, 0 => by simp [dropR]
  | [], n + 1 => by simp [dropR]
  | a :: l, n + 1 => by simp [dropR, dropR_eq l n]
theorem takeR_eq : ∀ (l : List RC) (n : Nat), takeR l n = l.take n
  | l, 0 => by simp [takeR]
  | [], n + 1 => by simp [takeR]
  | a :: l, n + 1 => by simp [takeR, takeR_eq l n]

theorem recAt_lt {i : Int} {z : List RC} {l : List (List RC)} (h1 : i < l.length) (h0 : 0 ≤ i) : recAt i z l = l.getD i.toNat [] ∧ recAt i z l ∈ l := by
  have : i.toNat < l.length := by omega
  simp [recAt, List.getD_eq_getElem?_getD, this]

theorem rcAt_idx {l : List (List RC)} {s i f : Nat} (hf : f < s) : rcAt l s (i * s + f) = (l.getD i []).getD f (.int .i64 0) := by
  unfold rcAt
  have e1 : (i * s + f) / s = i := by
    rw [Nat.mul_comm, Nat.mul_add_div (by omega), Nat.div_eq_of_lt hf, Nat.add_zero]
  have e2 : (i * s + f) % s = f := by
    rw [Nat.mul_comm, Nat.mul_add_mod, Nat.mod_eq_of_lt hf]
  rw [e1, e2]

theorem rec_shown (hm : MemSat w0 W m w) {c : Nat} {own : Own} {L : Loc} {s : Nat} {fr : Bool} {z : List RC} {l : List (List RC)} (hc : lk m c = some (own, L, .recs s fr z l)) {i : Int} (h0 : 0 ≤ i) (h1 : i < l.length) :
    (∀ M k xs, RC.row M k xs ∈ recAt i z l → Shown w0 fr m w M k xs) ∧ (recAt i z l).length = s ∧ ∀ f, f < s → ∃ v, w.cell? (L.ad (i.toNat * s + f)) = some v ∧ Den (getR (recAt i z l) f).sv v := by
  have hk := hm.chunk c _ hc
  obtain ⟨e1, e2⟩ := recAt_lt (z := z) h1 h0
  obtain ⟨g1, g2, g3, g4⟩ := hk.fits
  refine ⟨fun M k xs hr => shown_row hm hc ⟨_, e2, hr⟩, g4 _ e2, fun f hf => ?_⟩
  have hlt : i.toNat * s + f < l.length * s := by
    have : (i.toNat + 1) * s ≤ l.length * s := Nat.mul_le_mul_right _ (by omega)
    rw [Nat.add_mul, Nat.one_mul] at this
    omega
  obtain ⟨v, hv, hd⟩ := hk.cell _ hlt
  refine ⟨v, hv, ?_⟩
  simp only [Chunk.cell, rcAt_idx hf] at hd
  rw [getR_eq, e1]; exact hd

/-- The views of a record's rows are put. -/
theorem views_ok {fr : Bool} : ∀ (rs : List RC) (k : Nat) (m : Mem), MemSat w0 W m w → (∀ M kk xs, RC.row M kk xs ∈ rs → Shown w0 fr m w M kk xs) → MemSat w0 W (apU m (viewsU fr k rs)) w
  | [], k, m, hm, _ => hm
  | .int _ _ :: rs, k, m, hm, h => views_ok rs k m hm fun M kk xs hr => h M kk xs (by simp [hr])
  | .bool _ :: rs, k, m, hm, h => views_ok rs k m hm fun M kk xs hr => h M kk xs (by simp [hr])
  | .row L kk xs :: rs, k, m, hm, h => by
    have hs := h L kk xs (by simp)
    obtain ⟨own, hown, hwr, hho⟩ : ∃ own, own = (bif fr then Own.rof else .ro) ∧ own.wr = false ∧ ∀ o, o < xs.length → homeOk w0 W own (L.ad o) := by
      cases hfr : fr with
      | false => exact ⟨.ro, rfl, rfl, fun _ _ => trivial⟩
      | true => exact ⟨.rof, rfl, rfl, fun o ho => hs.fresh hfr (by omega)⟩
    have nw : ∀ a, ¬ wf (own, L, Chunk.ints kk xs) a := fun a ha => by have := ha.1; simp only [hwr] at this; cases this
    simp only [viewsU, apU, ← hown]
    refine views_ok rs (k + 1) _ (hm.put k (own, L, .ints kk xs) ⟨fun o ho => ⟨_, hs.cell o ho, by simp [Chunk.cell, Den]⟩, fun _ _ _ hr => hr.elim, fun a ha => (nw a ha).elim, fun hn => (by simp only [hwr] at hn; cases hn), ⟨hs.cap, hs.nil⟩, fun o ho => hho o (by simpa [reg, hwr, Chunk.len] using ho)⟩ (fun d f _ hf a => ⟨fun ha => (nw a ha).elim, fun ha hra => ?_⟩)) (fun M k' ys hr => ?_)
    · rcases hra with ⟨o, ho, rfl⟩ | hra
      · exact hs.far d f hf o (by simpa [reg, hwr, Chunk.len] using ho) ha
      · exact hra.elim fun _ ⟨_, _, h, _⟩ => h.elim
    · have g := h M k' ys (by simp [hr])
      refine ⟨g.cap, g.nil, g.cell, fun d f hf o ho hw => ?_, g.fresh⟩
      rw [lk_st] at hf
      split at hf
      · cases hf; exact nw _ hw
      · exact g.far d f hf o ho hw

theorem viewsV_den : ∀ (rs : List RC) (k : Nat) (us : List Value), (∀ M kk xs, RC.row M kk xs ∈ rs → xs.length ≤ M.cap ∧ (M.nil = true → M.cap = 0)) → Dens (rs.map RC.sv) us → Dens (viewsV k rs) us
  | [], k, us, _, h => h
  | .int _ _ :: rs, k, us, hs, h => by
    simp only [List.map_cons, Dens, viewsV] at h ⊢
    obtain ⟨v, vs, e, h1, h2⟩ := h
    exact ⟨v, vs, e, h1, viewsV_den rs k vs (fun M kk xs hr => hs M kk xs (by simp [hr])) h2⟩
  | .bool _ :: rs, k, us, hs, h => by
    simp only [List.map_cons, Dens, viewsV] at h ⊢
    obtain ⟨v, vs, e, h1, h2⟩ := h
    exact ⟨v, vs, e, h1, viewsV_den rs k vs (fun M kk xs hr => hs M kk xs (by simp [hr])) h2⟩
  | .row L kk xs :: rs, k, us, hs, h => by
    simp only [List.map_cons, Dens, viewsV, RC.sv] at h ⊢
    obtain ⟨v, vs, e, h1, h2⟩ := h
    refine ⟨v, vs, e, ?_, viewsV_den rs (k + 1) vs (fun M kk xs hr => hs M kk xs (by simp [hr])) h2⟩
    simpa only [Den] using h1
theorem viewsV_length : ∀ (rs : List RC) (k : Nat), (viewsV k rs).length = rs.length
  | [], k => rfl
  | .int _ _ :: rs, k => by simp [viewsV, viewsV_length rs]
  | .bool _ :: rs, k => by simp [viewsV, viewsV_length rs]
  | .row _ _ _ :: rs, k => by simp [viewsV, viewsV_length rs]

theorem done_load (hT : ∀ t tt, tab t = some tt → TtOk P t tt) (hs : SlotsOk sl a) (hm : MemSat w0 W m w) (hk : Kept w0 W w)
    {t : TypeId} {X : Operand} {tt : TT} {ax : Opd} {rr : Bool} {k nv : Nat} (htt : tab t = some tt) (hax : opd X = some ax)
    (hx : ∀ x, ∃ p v u, stepF sp spP no x sl (lk m) (.ld rr (bif tt.agg then some tt.size else none) k nv ax) = some (p, v, u) ∧ p) :
    Done P sp spP no sl m w0 W (.ld rr (bif tt.agg then some tt.size else none) k nv ax) ((do pure (Next.value (← Instr.loadAt t (a.eval X))) : Sem Next).run P w) := by
  obtain ⟨p, v, u, h, hp⟩ := hx (fun _ => default)
  have h0 := h
  simp only [stepF] at h
  obtain ⟨v0, p', hd, hf, hp'⟩ := o1_den h hp hax hs
  cases v0 <;> simp only at hf <;> try cases hf
  rename_i c L i s f
  simp only [Den] at hd
  have htk := hT t tt htt
  obtain ⟨i0, hi0, hsz, _⟩ := htk.info
  have fin : ∀ (L' : Loc) (rv : Value), L' = L → MemSat w0 W (apU m u) w → Den v rv →
      (tt.agg = false ∧ w.cell? (L.ad (i.toNat * s + f)) = some rv ∨ tt.agg = true ∧ ∃ us : List Value, us.length = tt.size ∧ (∀ j u, us[j]? = some u → w.cell? ((L.ad (i.toNat * s + f)).add j) = some u) ∧ rv = .agg us.toArray) →
      Done P sp spP no sl m w0 W (.ld rr (bif tt.agg then some tt.size else none) k nv ax) ((do pure (Next.value (← Instr.loadAt t (a.eval X))) : Sem Next).run P w) := by
    intro L' rv _ hm' hdv hc
    refine ⟨_, p, v, u, rv, w, h0, hp, .inl ?_, hdv, hm', hk⟩
    rcases hc with ⟨hag, hu⟩ | ⟨hag, us, h1, h2, rfl⟩
    · simp only [Sem.run_bind, Instr.loadAt, hd, Instr.sureAddr, Sem.run_pure, Result.andThen, loadVar, isAgg_run htk, hag]
      simp [hu, run_load, Result.andThen]
    · simp only [Sem.run_bind, Instr.loadAt, hd, Instr.sureAddr, Sem.run_pure, Result.andThen, loadVar, isAgg_run htk, hag, size_run hi0, hsz]
      have := run_loadCells_list (P := P) (w := w) _ us h2
      rw [h1] at this
      simp [this, size_run hi0, hsz, Result.andThen]
  split at hf
  · -- records
    rename_i own L' s' fr z l hl
    have hl := lkK_some hl
    unfold ldRec at hf
    cases hag : tt.agg with
    | false =>
      rw [hag] at hf
      simp only [cond_false] at hf
      cases hc : (decide (s = s') && decide (f < s) && decide (viewsN [getR (recAt i z l) f] ≤ nv)) with
      | false => rw [hc] at hf; cases hf
      | true =>
        rw [hc] at hf
        simp only [Bool.and_eq_true, decide_eq_true_eq] at hc
        simp only [cond_true] at hf
        obtain ⟨⟨rfl, hfs⟩, _⟩ := hc
        split at hf
        case h_2 => cases hf
        rename_i v' hv'
        cases hf
        obtain ⟨rfl, g0, g1⟩ := hp'
        obtain ⟨r1, r2, r3⟩ := rec_shown hm hl g0 g1
        obtain ⟨rv, hrv, hdv⟩ := r3 f hfs
        have hin : getR (recAt i z l) f ∈ recAt i z l := by
          rw [getR_eq, List.getD_eq_getElem?_getD, List.getElem?_eq_getElem (by omega)]
          exact List.getElem_mem _
        have hds : Dens (viewsV k [getR (recAt i z l) f]) [rv] := viewsV_den _ k _ (fun M kk xs hr => by
          simp only [List.mem_singleton] at hr
          have := r1 M kk xs (hr ▸ hin)
          exact ⟨this.cap, this.nil⟩) (by simp only [List.map_cons, List.map_nil, Dens]; exact ⟨_, _, rfl, hdv, rfl⟩)
        rw [hv'] at hds
        simp only [Dens] at hds
        obtain ⟨_, _, e, hds, _⟩ := hds
        cases e
        rw [hag] at fin
        exact fin L' rv rfl (views_ok _ k m hm fun M kk xs hr => by
          simp only [List.mem_singleton] at hr
          exact r1 M kk xs (hr ▸ hin)) hds (.inl ⟨rfl, hrv⟩)
    | true =>
      rw [hag] at hf
      simp only [cond_true] at hf
      cases hc : (decide (s = s') && decide (f + tt.size ≤ s)) with
      | false => rw [hc] at hf; cases hf
      | true =>
        rw [hc] at hf
        simp only [Bool.and_eq_true, decide_eq_true_eq] at hc
        simp only [cond_true] at hf
        obtain ⟨rfl, hfs⟩ := hc
        have key : ∀ rs : List RC, (bif decide (viewsN rs ≤ nv) then (some (L' = L ∧ 0 ≤ i ∧ i < l.length, SV.agg (viewsV k rs), viewsU fr k rs) : R) else none) = some (p', v, u) →
            (0 ≤ i → i < l.length → rs = ((recAt i z l).drop f).take tt.size) → Done P sp spP no sl m w0 W (.ld rr (some tt.size) k nv ax) ((do pure (Next.value (← Instr.loadAt t (a.eval X))) : Sem Next).run P w) := by
          intro rs hrs he
          cases hc : decide (viewsN rs ≤ nv) with
          | false => rw [hc] at hrs; cases hrs
          | true =>
            rw [hc] at hrs
            cases hrs
            obtain ⟨rfl, g0, g1⟩ := hp'
            obtain ⟨r1, r2, r3⟩ := rec_shown hm hl g0 g1
            obtain rfl := he g0 g1
            have hlen : (((recAt i z l).drop f).take tt.size).length = tt.size := by simp; omega
            have hin : ∀ r ∈ ((recAt i z l).drop f).take tt.size, r ∈ recAt i z l := fun r hr => List.mem_of_mem_drop (List.mem_of_mem_take hr)
            obtain ⟨us, u1, u2, u3⟩ := cells_from (w := w) (L := L') ((((recAt i z l).drop f).take tt.size).map RC.sv) (i.toNat * s + f) tt.size (fun j hj => by
              obtain ⟨v, hv, hd⟩ := r3 (f + j) (by omega)
              refine ⟨v, by rw [Nat.add_assoc]; exact hv, fun d hd' => ?_⟩
              have hb : f + j < (recAt i z l).length := by omega
              simp [List.getElem?_take, hj, hb] at hd'
              rw [← hd']
              simpa [getR_eq, List.getD_eq_getElem?_getD, hb] using hd) (by simpa using hlen)
            rw [hag] at fin
            exact fin L' (.agg us.toArray) rfl (views_ok _ k m hm fun M kk xs hr => r1 M kk xs (hin _ hr)) (by
              simp only [Den]
              exact ⟨us, rfl, viewsV_den _ k _ (fun M kk xs hr => by have := r1 M kk xs (hin _ hr); exact ⟨this.cap, this.nil⟩) u3⟩) (.inr ⟨rfl, us, u1, u2, rfl⟩)
        refine key _ hf fun g0 g1 => ?_
        by_cases hn : tt.size = s
        · have : f = 0 := by omega
          subst this
          have hl : (recAt i z l).length = s := (rec_shown hm hl g0 g1).2.1
          simp [hn, List.take_of_length_le (Nat.le_of_eq hl)]
        · simp [hn, takeR_eq, dropR_eq]
  · rename_i own L' ch hnr hl
    split at hf
    · cases hf
    · rename_i q r hq
      cases hf
      obtain ⟨rfl, hq'⟩ := hp'
      cases hag : tt.agg with
      | false =>
        rw [hag] at hq
        obtain ⟨u, hu, hdu⟩ := rdc_ok hm (lkK_some hl) hq hq'
        rw [hag] at fin
        exact fin L' u rfl hm hdu (.inl ⟨rfl, hu⟩)
      | true =>
        rw [hag] at hq
        obtain ⟨us, h1, h2, h3⟩ := rdn_ok hm (lkK_some hl) hq hq'
        rw [hag] at fin
        exact fin L' _ rfl hm h3 (.inr ⟨rfl, us, h1, h2, rfl⟩)
  · cases hf
end

end Go.Proofs.Ytnmbimhcfioeiaa.Xf
