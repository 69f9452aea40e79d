import Derived.Test.YtnmbimhcfioeiaaFc
import Derived.Laws.MakeOwn
import Derived.Laws.AppendOwn
import Derived.Laws.Append
set_option linter.unusedVariables false
set_option linter.unusedSimpArgs false
/-! Xf, part d: what each operation does to the world. -/
namespace Go.Proofs.Ytnmbimhcfioeiaa.Xf

theorem ad_add (L : Loc) (k n : Nat) : (L.ad k).add n = L.ad (k + n) := by
  unfold Addr.add Loc.ad
  by_cases h : n = 0
  · simp [h]
  · simp [h]; omega

theorem info_run {P : Program} {t : TypeId} {i : TypeInfo} (h : P.info? t = some i) (w : World) : (typeInfo t).run P w = .ok i w := by
  simp [typeInfo, h]
theorem size_run {P : Program} {t : TypeId} {i : TypeInfo} (h : P.info? t = some i) (w : World) : (sizeOf t).run P w = .ok i.size w := by
  simp [sizeOf, info_run h, Result.andThen]
theorem zero_run {P : Program} {t : TypeId} {i : TypeInfo} {z : Value} (h : P.info? t = some i) (hz : i.zero = some z) (w : World) : (zeroValue t).run P w = .ok z w := by
  simp [zeroValue, info_run h, hz, Result.andThen]

/-- What is to be shown of an operation that runs by itself. -/
def Done (P : Program) (sp : Sp) (spP : SpP) (no : Lim) (sl : List Ent) (m : Mem) (w0 : World) (W : Addr → Prop) (io : IROp) (r : Result Next) : Prop :=
  ∃ x p v u rv w', stepF sp spP no x sl (lk m) io = some (p, v, u) ∧ p ∧ (r = .ok (.value rv) w' ∨ (r = .ok .skip w' ∧ rv = undef)) ∧ Den v rv ∧ MemSat w0 W (apU m u) w' ∧ Kept w0 W w'

section
variable {P : Program} {sp : Sp} {spP : SpP} {no : Lim} {sl : List Ent} {m : Mem} {w0 w : World} {W : Addr → Prop} {a : Act} {tab : Tab} {isP : FuncId → Bool}

/-- The plain case: nothing is made, no memory is turned. -/
theorem done_of (hm : MemSat w0 W m w) (hk : Kept w0 W w) {io : IROp} {r : Result Next}
    (h : ∀ x p v u, stepF sp spP no x sl (lk m) io = some (p, v, u) → p → u = [] ∧ ∃ rv, r = .ok (.value rv) w ∧ Den v rv)
    (hx : ∀ x, ∃ p v u, stepF sp spP no x sl (lk m) io = some (p, v, u) ∧ p) : Done P sp spP no sl m w0 W io r := by
  obtain ⟨p, v, u, hs, hp⟩ := hx (fun _ => default)
  obtain ⟨rfl, rv, hr, hd⟩ := h _ p v u hs hp
  exact ⟨_, p, v, [], rv, w, hs, hp, .inl hr, hd, hm, hk⟩

theorem lkN_some {no : Lim} {look : Look} {c : Nat} {e : ME} (h : lkN no look c = some e) : look c = some e := by
  unfold lkN at h
  cases hb : refuses no c <;> simp [hb] at h
  exact h

theorem lkK_some {r : Bool} {no : Lim} {look : Look} {c : Nat} {e : ME} (h : lkK r no look c = some e) : look c = some e := by
  unfold lkK at h
  split at h
  case h_2 => cases h
  rename_i own L ch hl
  cases hr : (ch.row == r) <;> simp [hr] at h
  rw [← h]; exact lkN_some hl

theorem getL_eq : ∀ (l : List SV) (n : Nat), getL l n = l[n]?
  | [], n => by simp [getL]
  | a :: l, 0 => by simp [getL]
  | a :: l, n + 1 => by simp [getL, getL_eq l n]
theorem setL_eq : ∀ (l : List SV) (n : Nat) (v : SV), setL l n v = l.set n v
  | [], n, v => by simp [setL]
  | a :: l, 0, v => by simp [setL]
  | a :: l, n + 1, v => by simp [setL, setL_eq l n]
theorem dropL_eq : ∀ (l : List SV) (n : Nat), dropL l n = l.drop n
  | l, 0 => by simp [dropL]
  | [], n + 1 => by simp [dropL]
  | a :: l, n + 1 => by simp [dropL, dropL_eq l n]
theorem takeL_some : ∀ {l : List SV} {n : Nat} {r : List SV}, takeL l n = some r → r = l.take n ∧ n ≤ l.length
  | l, 0, r, h => by simp [takeL] at h; simp [h]
  | [], n + 1, r, h => by simp [takeL] at h
  | a :: l, n + 1, r, h => by
    simp only [takeL] at h
    split at h
    · cases h
    · rename_i r' h'
      cases h
      have := takeL_some h'
      simp [this.1, this.2]

theorem rd_val {k : IntKind} {xs : List Int} {i : Int} (h : 0 ≤ i) (h2 : i < xs.length) : xs.getD i.toNat 0 = rd xs i := rfl

/-- A cell that is read. -/
theorem rdc_ok (hm : MemSat w0 W m w) {c : Nat} {own : Own} {L : Loc} {ch : Chunk} (hc : lk m c = some (own, L, ch)) {i : Int} {s f : Nat} {p : Prop} {v : SV}
    (h : rdc i s f ch = some (p, v)) (hp : p) : ∃ u, w.cell? (L.ad (i.toNat * s + f)) = some u ∧ Den v u := by
  have hk := hm.chunk c _ hc
  cases ch with
  | cells cs =>
    simp only [rdc] at h
    split at h
    · cases h
    · rename_i v' hv
      cases h
      subst hp
      rw [getL_eq] at hv
      have hlt : f < cs.length := by
        rcases Nat.lt_or_ge f cs.length with h | h
        · exact h
        · simp [List.getElem?_eq_none h] at hv
      obtain ⟨u, hu, hd⟩ := hk.cell f hlt
      refine ⟨u, by simpa using hu, ?_⟩
      simpa [Chunk.cell, List.getD_eq_getElem?_getD, hv] using hd
  | ints k xs =>
    simp only [rdc] at h
    split at h
    · cases h
      obtain ⟨u, hu, hd⟩ := hk.cell i.toNat (by simp only [Chunk.len]; omega)
      exact ⟨u, by simpa using hu, by simpa [Chunk.cell, rd] using hd⟩
    · cases h
  | bools xs =>
    simp only [rdc] at h
    split at h
    · cases h
      obtain ⟨u, hu, hd⟩ := hk.cell i.toNat (by simp only [Chunk.len]; omega)
      exact ⟨u, by simpa using hu, by simpa [Chunk.cell, rdB] using hd⟩
    · cases h

theorem intsV_get (k : IntKind) (xs : List Int) : ∀ (n : Nat), (intsV k xs n).length = n ∧ ∀ j, j < n → (intsV k xs n)[j]? = some (.int k (xs.getD j 0))
  | 0 => by simp [intsV]
  | n + 1 => by
    have ih := intsV_get k xs n
    refine ⟨by simp [intsV, ih.1], fun j hj => ?_⟩
    simp only [intsV]
    rcases Nat.lt_or_ge j n with h | h
    · rw [List.getElem?_append_left (by omega)]; exact ih.2 j h
    · have : j = n := by omega
      subst this
      rw [List.getElem?_append_right (by omega)]
      simp [ih.1]

/-- Several cells that are read. -/
theorem rdn_ok (hm : MemSat w0 W m w) {c : Nat} {own : Own} {L : Loc} {ch : Chunk} (hc : lk m c = some (own, L, ch)) {n : Nat} {i : Int} {s f : Nat} {p : Prop} {v : SV}
    (h : rdn n i s f ch = some (p, v)) (hp : p) : ∃ us : List Value, us.length = n ∧ (∀ j u, us[j]? = some u → w.cell? ((L.ad (i.toNat * s + f)).add j) = some u) ∧ Den v (.agg us.toArray) := by
  have hk := hm.chunk c _ hc
  -- the cells from f on
  have key : ∀ (cs : List SV) (f n : Nat), (∀ j, j < n → ∃ u, w.cell? (L.ad (f + j)) = some u ∧ ∀ d, cs[j]? = some d → Den d u) → cs.length = n →
      ∃ us : List Value, us.length = n ∧ (∀ j u, us[j]? = some u → w.cell? ((L.ad f).add j) = some u) ∧ Dens cs us := by
    intro cs
    induction cs with
    | nil => intro f n _ hn; exact ⟨[], by simpa using hn, by simp, by simp [Dens]⟩
    | cons d cs ih =>
      intro f n H hn
      cases n with
      | zero => simp at hn
      | succ n =>
        obtain ⟨u, hu, hd⟩ := H 0 (by omega)
        obtain ⟨us, h1, h2, h3⟩ := ih (f + 1) n (fun j hj => by
          obtain ⟨u, hu, hd⟩ := H (j + 1) (by omega)
          exact ⟨u, by rw [show f + 1 + j = f + (j + 1) by omega]; exact hu, fun d h => hd d (by simpa using h)⟩) (by simpa using hn)
        refine ⟨u :: us, by simp [h1], fun j v hv => ?_, by simp only [Dens]; exact ⟨_, _, rfl, hd d (by simp), h3⟩⟩
        cases j with
        | zero => simp at hv; subst hv; rw [ad_add]; simpa using hu
        | succ j =>
          have := h2 j v (by simpa using hv)
          rw [ad_add] at this ⊢
          rw [show f + (j + 1) = f + 1 + j by omega]; exact this
  cases ch with
  | cells cs =>
    simp only [rdn] at h
    split at h
    · cases h
    · rename_i l hl
      cases h
      subst hp
      have ⟨h1, h2⟩ := takeL_some hl
      rw [dropL_eq] at h1 h2
      have hfl : f + n ≤ cs.length ∨ n = 0 := by simp at h2; omega
      obtain ⟨us, g1, g2, g3⟩ := key l f n (fun j hj => by
        obtain ⟨u, hu, hd⟩ := hk.cell (f + j) (by simp only [Chunk.len]; omega)
        refine ⟨u, hu, fun d hd' => ?_⟩
        subst h1
        have : cs[f + j]? = some d := by simpa [List.getElem?_take, hj] using hd'
        simpa [Chunk.cell, List.getD_eq_getElem?_getD, this] using hd) (by simp [h1]; simp at h2; omega)
      exact ⟨us, g1, fun j u hu => by simpa using g2 j u hu, by simp only [Den]; exact ⟨us, rfl, g3⟩⟩
  | ints k xs =>
    simp only [rdn] at h
    split at h
    · cases h
      subst hp
      have hi := intsV_get k xs xs.length
      obtain ⟨us, g1, g2, g3⟩ := key (intsV k xs xs.length) 0 xs.length (fun j hj => by
        obtain ⟨u, hu, hd⟩ := hk.cell j (by simpa [Chunk.len] using hj)
        refine ⟨u, by simpa using hu, fun d hd' => ?_⟩
        rw [hi.2 j hj] at hd'
        cases hd'
        simpa [Chunk.cell] using hd) hi.1
      exact ⟨us, g1, fun j u hu => by simpa using g2 j u hu, by simp only [Den]; exact ⟨us, rfl, g3⟩⟩
    · cases h
  | bools xs => simp [rdn] at h

theorem isAgg_run {t : TypeId} {tt : TT} (h : TtOk P t tt) (w : World) : (isAgg t).run P w = .ok tt.agg w := by
  obtain ⟨d, hd, hk⟩ := h.desc
  simp only [isAgg, Sem.run_bind, run_underlying hd, Result.andThen]
  unfold TT.agg
  cases hkind : tt.kind with
  | int k => rw [hkind] at hk; simp only [TKOk] at hk; subst hk; rfl
  | bool => rw [hkind] at hk; simp only [TKOk] at hk; subst hk; rfl
  | slice e => rw [hkind] at hk; simp only [TKOk] at hk; subst hk; rfl
  | struct fs => rw [hkind] at hk; obtain ⟨F, rfl, _⟩ := hk; rfl
  | array n e => rw [hkind] at hk; simp only [TKOk] at hk; subst hk; rfl
  | other => rw [hkind] at hk; simp only [TKOk] at hk; cases d <;> first | rfl | simp at hk

theorem done_load (hT : ∀ t tt, tab t = some tt → TtOk P t tt) (hs : SlotsOk sl a) (hm : MemSat w0 W m w) (hk : Kept w0 W w)
    {t : TypeId} {X : Operand} {tt : TT} {ax : Opd} {rr : Bool} (htt : tab t = some tt) (hax : opd X = some ax)
    (hx : ∀ x, ∃ p v u, stepF sp spP no x sl (lk m) (.ld rr (bif tt.agg then some tt.size else none) ax) = some (p, v, u) ∧ p) :
    Done P sp spP no sl m w0 W (.ld rr (bif tt.agg then some tt.size else none) ax) ((do pure (Next.value (← Instr.loadAt t (a.eval X))) : Sem Next).run P w) := by
  refine done_of hm hk (fun x p v u h hp => ?_) hx
  simp only [stepF] at h
  obtain ⟨v0, p', hd, hf, hp'⟩ := o1_den h hp hax hs
  cases v0 <;> simp only at hf <;> try cases hf
  rename_i c L i s f
  split at hf
  · rename_i own L' ch hl
    split at hf
    · cases hf
    · rename_i q r hq
      cases hf
      obtain ⟨rfl, hq'⟩ := hp'
      refine ⟨rfl, ?_⟩
      simp only [Den] at hd
      have htk := hT t tt htt
      obtain ⟨i0, hi0, hsz, _⟩ := htk.info
      cases hag : tt.agg with
      | false =>
        rw [hag] at hq
        obtain ⟨u, hu, hdu⟩ := rdc_ok hm (lkK_some hl) hq hq'
        refine ⟨u, ?_, hdu⟩
        simp only [Sem.run_bind, Instr.loadAt, hd, Instr.sureAddr, Sem.run_pure, Result.andThen, loadVar, isAgg_run htk, hag]
        simp [hu, run_load, Result.andThen]
      | true =>
        rw [hag] at hq
        obtain ⟨us, h1, h2, h3⟩ := rdn_ok hm (lkK_some hl) hq hq'
        refine ⟨_, ?_, h3⟩
        simp only [Sem.run_bind, Instr.loadAt, hd, Instr.sureAddr, Sem.run_pure, Result.andThen, loadVar, isAgg_run htk, hag, size_run hi0, hsz]
        have := run_loadCells_list (P := P) (w := w) _ us h2
        rw [h1] at this
        simp [this, size_run hi0, hsz, Result.andThen]
  · cases hf
end

end Go.Proofs.Ytnmbimhcfioeiaa.Xf
