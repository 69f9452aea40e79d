import Derived.Test.YtnmbimhcfioeiaaFi
set_option linter.unusedVariables false
set_option linter.unusedSimpArgs false
/-! Xf, part j: make, slice literals, append. -/
namespace Go.Proofs.Ytnmbimhcfioeiaa.Xf
variable {P : Program} {sp : Sp} {spP : SpP} {no : Lim} {sl : List Ent} {m : Mem} {w0 w : World} {W : Addr → Prop} {a : Act} {tab : Tab} {isP : FuncId → Bool}

theorem intsZ_eq : ∀ n, intsZ n = List.replicate n 0
  | 0 => rfl
  | n + 1 => by simp [intsZ, intsZ_eq n, List.replicate_succ]

theorem done_mks (hT : ∀ t tt, tab t = some tt → TtOk P t tt) (hs : SlotsOk sl a) (hm : MemSat w0 W m w) (hk : Kept w0 W w)
    {t e : TypeId} {tt te : TT} (htt : tab t = some tt) (hkind : tt.kind = .slice e) (hte : tab e = some te) (h1 : te.size = 1) (hby : te.bytes ≤ 100) {z : SV} (hz : zero1 te = some z)
    {k : Nat} {X Y : Operand} {ax ay : Opd} (hax : opd X = some ax) (hay : opd Y = some ay)
    (hx : ∀ x, ∃ p v u, stepF sp spP no x sl (lk m) (.mks k z te.bytes ax ay) = some (p, v, u) ∧ p) :
    Done P sp spP no sl m w0 W (.mks k z te.bytes ax ay) ((do pure (Next.value (← Instr.makeSlice t (a.eval X) (a.eval Y))) : Sem Next).run P w) := by
  -- the sizes first
  obtain ⟨p0, v0, u0, h0, hp0⟩ := hx (fun _ => default)
  simp only [stepF] at h0
  obtain ⟨s0, q0, hd0, hf0, hq0⟩ := o1_den h0 hp0 hax hs
  obtain ⟨s1, q1, hd1, hf1, hq1⟩ := o1_den hf0 hq0 hay hs
  cases s0 <;> cases s1 <;> simp only at hf1 <;> first | (cases hf1; done) | skip
  rename_i kx n ky c
  split at hf1
  · cases hf1
  rename_i ch hch
  cases hf1
  obtain ⟨g0, g1, g2⟩ := hq1
  simp only [Den] at hd0 hd1
  obtain ⟨p, v, u, h, hp⟩ := hx (fun _ => ⟨w.heap.size, 0, false, c.toNat⟩)
  have h' := h
  simp only [stepF] at h
  obtain ⟨s0, q0, hd0', hf0, hq0⟩ := o1_den h hp hax hs
  obtain ⟨s1, q1, hd1', hf1, hq1⟩ := o1_den hf0 hq0 hay hs
  cases s0 <;> cases s1 <;> simp only at hf1 <;> first | (cases hf1; done) | skip
  simp only [Den] at hd0' hd1'
  rw [hd0] at hd0'
  rw [hd1] at hd1'
  cases hd0'
  cases hd1'
  rw [hch] at hf1
  simp only at hf1
  cases hf1
  obtain ⟨i0, hi0, hsz, hbytes, zv, hzv, hds, _⟩ := (hT e te hte).info
  have hz' : te.zero = [z] := by
    unfold zero1 at hz
    split at hz
    · rename_i z' hz'; cases hz; exact hz'
    · cases hz
  rw [hz'] at hds
  simp only [Dens] at hds
  obtain ⟨zv1, r, hzl, hdz, rfl⟩ := hds
  have hb : (i0.bytes : Int) * c ≤ 281474976710656 := by
    rw [hbytes]
    have : (te.bytes : Int) * c ≤ 100 * 1000000000000 := by
      exact Int.mul_le_mul (by omega) g2 (by omega) (by omega)
    omega
  have hrun := run_make (P := P) w t e i0 zv (desc_slice hT htt hkind) hi0 hzv kx ky n c g0 g1 hb (by omega)
  rw [hsz, h1, Nat.mul_one] at hrun
  have hC : ∀ o, o < c.toNat → (madeCells zv.cells c.toNat)[o]? = some zv1 := by
    intro o ho
    have : zv.cells = #[zv1] := by apply Array.ext'; simpa using hzl
    simp [madeCells, this, ho, Nat.mod_one]
  have hfc : ch.len = n.toNat ∧ ch.fits ⟨w.heap.size, 0, false, c.toNat⟩ ∧ ch.ext ⟨w.heap.size, 0, false, c.toNat⟩ = c.toNat ∧ ∀ o, o < n.toNat → Den (ch.cell o) zv1 := by
    unfold rowRep at hch
    split at hch
    · cases hch
      refine ⟨by simp [Chunk.len], by simp [Chunk.fits]; omega, rfl, fun o ho => ?_⟩
      simpa [Chunk.cell, List.getD_eq_getElem?_getD, ho] using hdz
    · cases hch
      refine ⟨by simp [Chunk.len], by simp [Chunk.fits]; omega, rfl, fun o ho => ?_⟩
      simpa [Chunk.cell, List.getD_eq_getElem?_getD, ho] using hdz
    · cases hch
  obtain ⟨hm', hk'⟩ := made_ok hm hk k (madeCells zv.cells c.toNat) e ⟨w.heap.size, 0, false, c.toNat⟩ ch rfl rfl
    (fun o ho => ⟨zv1, hC o (by rw [hfc.1] at ho; omega), hfc.2.2.2 o (by rw [hfc.1] at ho; exact ho)⟩)
    (by rw [hfc.2.2.1]; simp [madeCells]) hfc.2.1
  refine ⟨_, _, _, _, .slice (some ⟨w.heap.size, 0, none⟩) n.toNat c.toNat, _, h', hp, .inl ?_, ?_, by simpa [apU] using hm', hk'⟩
  · simp only [Sem.run_bind, hd0, hd1, hrun, Result.andThen, Sem.run_pure]
  · simp only [Den]
    refine ⟨by omega, g0, by simp; omega, by simp, some ⟨w.heap.size, 0, none⟩, by simp, by simp, fun _ => by simp [Loc.ad]⟩

theorem done_allocI (hT : ∀ t tt, tab t = some tt → TtOk P t tt) (hm : MemSat w0 W m w) (hk : Kept w0 W w) {t : TypeId} {tt : TT} {k n : Nat} {ik : IntKind} (htt : tab t = some tt)
    (hz : tt.zero = List.replicate n (.int ik 0))
    (hx : ∀ x, ∃ p v u, stepF sp spP no x sl (lk m) (.allocI k ik n) = some (p, v, u) ∧ p) :
    Done P sp spP no sl m w0 W (.allocI k ik n) ((do pure (Next.value (← Instr.alloc t true (.tuple #[]))) : Sem Next).run P w) := by
  obtain ⟨p, v, u, h, hp⟩ := hx (fun _ => ⟨w.heap.size, 0, false, 0⟩)
  have h0 := h
  simp only [stepF] at h
  cases h
  obtain ⟨i0, hi0, hsz, _, z, hzv, hds, _⟩ := (hT t tt htt).info
  rw [hz] at hds
  have hl := hds.length
  simp at hl
  obtain ⟨hm', hk'⟩ := made_ok hm hk k z.cells t ⟨w.heap.size, 0, false, n⟩ (.ints ik (intsZ n)) rfl rfl
    (fun o ho => by
      simp only [Chunk.len, intsZ_eq, List.length_replicate] at ho
      obtain ⟨v, hv, hd⟩ := hds.get (i := o) (c := .int ik 0) (by simp [ho])
      exact ⟨v, by simpa using hv, by simpa [Chunk.cell, intsZ_eq, List.getD_eq_getElem?_getD, ho] using hd⟩)
    (by simp only [Chunk.ext]; omega) (by simp [Chunk.fits, intsZ_eq])
  refine ⟨_, _, _, _, .pointer (some ⟨w.heap.size, 0, none⟩), _, h0, hp, .inl ?_, by simp [Den, Loc.ad], by simpa [apU] using hm', hk'⟩
  simp [Instr.alloc, newVar, newRow, zero_run hi0 hzv, Result.andThen]

theorem inOrder_eval : ∀ (l : List (Nat × Operand)) (n : Nat) (xs : List Operand), inOrder n l = some xs → l.map (fun (i, x) => (i, a.eval x)) = ((xs.map a.eval).zipIdx n).map fun (v, i) => (i, v)
  | [], n, xs, h => by simp only [inOrder] at h; cases h; simp
  | (i, x) :: l, n, xs, h => by
    simp only [inOrder] at h
    by_cases e : i = n
    · subst e
      rw [show (i == i) = true by simp] at h
      try simp only [cond_true] at h
      split at h
      · rename_i r hr
        cases h
        simp [inOrder_eval l (i + 1) r hr]
      · cases h
    · have e' : (i == n) = false := by simpa using e
      rw [e'] at h
      cases h

theorem fill_row : ∀ (vs : List Value) (n : Nat) (acc : Array Value), n + vs.length = acc.size → (∀ v ∈ vs, v.cells = #[v]) →
    ∃ acc', Instr.fill (fun i => some (i * 1, 1)) acc ((vs.zipIdx n).map fun (v, i) => (i, v)) = some acc' ∧ acc'.toList = acc.toList.take n ++ vs
  | [], n, acc, hn, _ => ⟨acc, by simp [Instr.fill], by simp at hn; rw [List.take_of_length_le (by simp; omega)]; simp⟩
  | v :: vs, n, acc, hn, h1 => by
    simp only [List.length_cons] at hn
    have hv := h1 v (by simp)
    obtain ⟨acc', h2, h3⟩ := fill_row vs (n + 1) (acc.setIfInBounds n v) (by simp; omega) (fun u hu => h1 u (by simp [hu]))
    refine ⟨acc', ?_, ?_⟩
    · simp only [List.zipIdx_cons, List.map_cons, Instr.fill]
      have e1 : ¬ (v.cells.size ≠ 1) := by rw [hv]; simp
      have e2 : ¬ (n * 1 + v.cells.size > acc.size) := by rw [hv]; simp; omega
      simp only [e1, e2, decide_false, Bool.or_self, Bool.false_eq_true, if_false]
      rw [← h2, hv]
      simp
    · rw [h3]
      have : n < acc.toList.length := by simp; omega
      simp only [Array.toList_setIfInBounds]
      rw [List.take_succ_eq_append_getElem (by simpa using this)]
      simp [List.take_set_of_le]

theorem row_cells {vs : List SV} {ch : Chunk} (h : rowOf vs = some ch) : ch.len = vs.length ∧ (∀ o c, vs[o]? = some c → ch.cell o = c ∧ size1 c = true) ∧ (∀ L, ch.ext L = L.cap) ∧ ∀ L : Loc, vs.length ≤ L.cap → L.nil = false → ch.fits L := by
  unfold rowOf at h
  split at h
  · split at h
    · cases h
    · rename_i r hr
      cases h
      have hg := asBools_get hr
      refine ⟨by simpa [Chunk.len] using hg.1, fun o c hc => ?_, fun _ => rfl, fun L h1 h2 => ⟨by rw [hg.1]; exact h1, by simp [h2]⟩⟩
      have hlt : o < _ := (List.getElem?_eq_some_iff.1 hc).1
      have := hg.2 o hlt
      rw [hc] at this; cases this
      exact ⟨rfl, rfl⟩
  · split at h
    · cases h
    · rename_i r hr
      cases h
      have hg := asInts_get hr
      refine ⟨by simpa [Chunk.len] using hg.1, fun o c hc => ?_, fun _ => rfl, fun L h1 h2 => ⟨by rw [hg.1]; exact h1, by simp [h2]⟩⟩
      have hlt : o < _ := (List.getElem?_eq_some_iff.1 hc).1
      have := hg.2 o hlt
      rw [hc] at this; cases this
      exact ⟨rfl, rfl⟩
  · cases h
    exact ⟨rfl, by simp, fun _ => rfl, fun L h1 h2 => ⟨by simp, by simp [h2]⟩⟩
  · cases h

theorem done_bslice (hT : ∀ t tt, tab t = some tt → TtOk P t tt) (hs : SlotsOk sl a) (hm : MemSat w0 W m w) (hk : Kept w0 W w)
    {t e : TypeId} {tt te : TT} (htt : tab t = some tt) (hkind : tt.kind = .slice e) (hte : tab e = some te) (h1 : te.size = 1)
    {k len : Nat} {ps : Array (Nat × Operand)} {xs : List Operand} {as : List Opd} (hio : inOrder 0 ps.toList = some xs) (has : opds xs = some as) (hlen : ps.size = len) (hsmall : len ≤ 16777216)
    (hx : ∀ x, ∃ p v u, stepF sp spP no x sl (lk m) (.bslice k as) = some (p, v, u) ∧ p) :
    Done P sp spP no sl m w0 W (.bslice k as) ((do pure (Next.value (← Instr.buildSlice t len (ps.map fun (i, x) => (i, a.eval x)))) : Sem Next).run P w) := by
  obtain ⟨p, v, u, h, hp⟩ := hx (fun _ => ⟨w.heap.size, 0, false, len⟩)
  have h' := h
  simp only [stepF] at h
  obtain ⟨vs, p', hds, hf, hp'⟩ := ons_den hs has h hp
  split at hf
  · cases hf
  rename_i ch hch
  cases hf
  have hev := inOrder_eval (a := a) ps.toList 0 xs hio
  have hxl : xs.length = len := by
    have := congrArg List.length hev
    simp at this; omega
  have hvl : vs.length = len := by have := hds.length; simp at this; omega
  obtain ⟨g1, g2, g3, g4⟩ := row_cells hch
  have hone : ∀ v ∈ xs.map a.eval, v.cells = #[v] := by
    intro v hv
    obtain ⟨i, hi⟩ := List.getElem?_of_mem hv
    have hlt : i < vs.length := by
      have := (List.getElem?_eq_some_iff.1 hi).1
      simp at this; omega
    obtain ⟨c, hc⟩ : ∃ c, vs[i]? = some c := ⟨_, List.getElem?_eq_getElem hlt⟩
    obtain ⟨v', hv', hd⟩ := hds.get hc
    rw [hi] at hv'; cases hv'
    exact (hd.one (g2 i c hc).2).2
  obtain ⟨i0, hi0, hsz, hby, zv, hzv, hdz, _⟩ := (hT e te hte).info
  obtain ⟨acc', hfill, hacc⟩ := fill_row (xs.map a.eval) 0 ((Array.range (len * 1)).map fun x => (if len * 1 = 0 then #[] else zv.cells)[x % (if len * 1 = 0 then #[] else zv.cells).size]!) (by simp [hxl]) hone
  simp only [List.take_zero, List.nil_append] at hacc
  obtain ⟨hm', hk'⟩ := made_ok hm hk k acc' e ⟨w.heap.size, 0, false, len⟩ ch rfl rfl
    (fun o ho => by
      rw [g1] at ho
      obtain ⟨c, hc⟩ : ∃ c, vs[o]? = some c := ⟨_, List.getElem?_eq_getElem ho⟩
      obtain ⟨v', hv', hd⟩ := hds.get hc
      refine ⟨v', ?_, by rw [(g2 o c hc).1]; exact hd⟩
      rw [← hacc] at hv'
      simpa using hv')
    (by rw [g3]; have := congrArg List.length hacc; simp at this; simp only; omega) (g4 _ (by simp only; omega) rfl)
  refine ⟨_, _, _, _, .slice (some ⟨w.heap.size, 0, none⟩) len len, _, h', hp, .inl ?_, ?_, by simpa [apU] using hm', hk'⟩
  · have hnot : ¬ (len * 1 > 2 ^ 24) := by omega
    have hpl : (ps.map fun (i, x) => (i, a.eval x)).toList = ((xs.map a.eval).zipIdx 0).map fun (v, i) => (i, v) := by
      rw [← hev]; simp
    simp only [Instr.buildSlice, Sem.run_bind, run_underlying (desc_slice hT htt hkind), Result.andThen, sizeOf_run hT hte, h1, hnot, if_false, Sem.run_pure, hpl]
    by_cases hz : len * 1 = 0
    · simp only [hz, if_true] at hfill ⊢
      simp only [Sem.run_pure, hfill, newRow, Sem.run_bind, newObj, Sem.run, Result.andThen]
      rfl
    · simp only [hz, if_false] at hfill ⊢
      simp only [Sem.run_bind, zero_run hi0 hzv, Result.andThen, Sem.run_pure, hfill, newRow, newObj, Sem.run]
      rfl
  · simp only [Den]
    refine ⟨by omega, by omega, by simp; omega, by simp, some ⟨w.heap.size, 0, none⟩, by simp [hvl], by simp, fun _ => by simp [Loc.ad]⟩

end Go.Proofs.Ytnmbimhcfioeiaa.Xf
