import Derived.Test.YtnmbimhcfioeiaaFi
set_option linter.unusedVariables false
set_option linter.unusedSimpArgs false
/-! Xf, part j: make, slice literals, append. -/
namespace Go.Proofs.Ytnmbimhcfioeiaa.Xf
variable {P : Program} {sp : Sp} {spP : SpP} {no : Lim} {sl : List Ent} {m : Mem} {w0 w : World} {W : Addr → Prop} {a : Act} {tab : Tab} {isP : FuncId → Bool}

theorem intsZ_eq : ∀ n, intsZ n = List.replicate n 0
  | 0 => rfl
  | n + 1 => by simp [intsZ, intsZ_eq n, List.replicate_succ]

theorem done_mks (hT : ∀ t tt, tab t = some tt → TtOk P t tt) (hs : SlotsOk sl a) (hm : MemSat w0 W m w) (hk : Kept w0 W w)
    {t e : TypeId} {tt te : TT} (htt : tab t = some tt) (hkind : tt.kind = .slice e) (hte : tab e = some te) (h1 : te.size = 1) (hby : te.bytes ≤ 100) {z : SV} (hz : zero1 te = some z)
    {k : Nat} {X Y : Operand} {ax ay : Opd} (hax : opd X = some ax) (hay : opd Y = some ay)
    (hx : ∀ x, ∃ p v u, stepF sp spP no x sl (lk m) (.mks k z te.bytes ax ay) = some (p, v, u) ∧ p) :
    Done P sp spP no sl m w0 W (.mks k z te.bytes ax ay) ((do pure (Next.value (← Instr.makeSlice t (a.eval X) (a.eval Y))) : Sem Next).run P w) := by
  -- the sizes first
  obtain ⟨p0, v0, u0, h0, hp0⟩ := hx (fun _ => default)
  simp only [stepF] at h0
  obtain ⟨s0, q0, hd0, hf0, hq0⟩ := o1_den h0 hp0 hax hs
  obtain ⟨s1, q1, hd1, hf1, hq1⟩ := o1_den hf0 hq0 hay hs
  cases s0 <;> cases s1 <;> simp only at hf1 <;> first | (cases hf1; done) | skip
  rename_i kx n ky c
  split at hf1
  · cases hf1
  rename_i ch hch
  cases hf1
  obtain ⟨g0, g1, g2⟩ := hq1
  simp only [Den] at hd0 hd1
  obtain ⟨p, v, u, h, hp⟩ := hx (fun _ => ⟨w.heap.size, 0, false, c.toNat⟩)
  have h' := h
  simp only [stepF] at h
  obtain ⟨s0, q0, hd0', hf0, hq0⟩ := o1_den h hp hax hs
  obtain ⟨s1, q1, hd1', hf1, hq1⟩ := o1_den hf0 hq0 hay hs
  cases s0 <;> cases s1 <;> simp only at hf1 <;> first | (cases hf1; done) | skip
  simp only [Den] at hd0' hd1'
  rw [hd0] at hd0'
  rw [hd1] at hd1'
  cases hd0'
  cases hd1'
  rw [hch] at hf1
  simp only at hf1
  cases hf1
  obtain ⟨i0, hi0, hsz, hbytes, zv, hzv, hds, _⟩ := (hT e te hte).info
  have hz' : te.zero = [z] := by
    unfold zero1 at hz
    split at hz
    · rename_i z' hz'; cases hz; exact hz'
    · cases hz
  rw [hz'] at hds
  simp only [Dens] at hds
  obtain ⟨zv1, r, hzl, hdz, rfl⟩ := hds
  have hb : (i0.bytes : Int) * c ≤ 281474976710656 := by
    rw [hbytes]
    have : (te.bytes : Int) * c ≤ 100 * 1000000000000 := by
      exact Int.mul_le_mul (by omega) g2 (by omega) (by omega)
    omega
  have hrun := run_make (P := P) w t e i0 zv (desc_slice hT htt hkind) hi0 hzv kx ky n c g0 g1 hb (by omega)
  rw [hsz, h1, Nat.mul_one] at hrun
  have hC : ∀ o, o < c.toNat → (madeCells zv.cells c.toNat)[o]? = some zv1 := by
    intro o ho
    have : zv.cells = #[zv1] := by apply Array.ext'; simpa using hzl
    simp [madeCells, this, ho, Nat.mod_one]
  have hfc : ch.len = n.toNat ∧ ch.fits ⟨w.heap.size, 0, false, c.toNat⟩ ∧ ch.ext ⟨w.heap.size, 0, false, c.toNat⟩ = c.toNat ∧ ∀ o, o < n.toNat → Den (ch.cell o) zv1 := by
    unfold rowRep at hch
    split at hch
    · cases hch
      refine ⟨by simp [Chunk.len], by simp [Chunk.fits]; omega, rfl, fun o ho => ?_⟩
      simpa [Chunk.cell, List.getD_eq_getElem?_getD, ho] using hdz
    · cases hch
      refine ⟨by simp [Chunk.len], by simp [Chunk.fits]; omega, rfl, fun o ho => ?_⟩
      simpa [Chunk.cell, List.getD_eq_getElem?_getD, ho] using hdz
    · cases hch
  obtain ⟨hm', hk'⟩ := made_ok hm hk k (madeCells zv.cells c.toNat) e ⟨w.heap.size, 0, false, c.toNat⟩ ch rfl rfl
    (fun o ho => ⟨zv1, hC o (by rw [hfc.1] at ho; omega), hfc.2.2.2 o (by rw [hfc.1] at ho; exact ho)⟩)
    (by rw [hfc.2.2.1]; simp [madeCells]) hfc.2.1 (fun _ _ _ hrw => by
      unfold rowRep at hch
      split at hch <;> cases hch <;> exact hrw.elim)
  refine ⟨_, _, _, _, .slice (some ⟨w.heap.size, 0, none⟩) n.toNat c.toNat, _, h', hp, .inl ?_, ?_, by simpa [apU] using hm', hk'⟩
  · simp only [Sem.run_bind, hd0, hd1, hrun, Result.andThen, Sem.run_pure]
  · simp only [Den]
    refine ⟨by omega, g0, by simp; omega, by simp, some ⟨w.heap.size, 0, none⟩, by simp, by simp, fun _ => by simp [Loc.ad]⟩

theorem done_allocI (hT : ∀ t tt, tab t = some tt → TtOk P t tt) (hm : MemSat w0 W m w) (hk : Kept w0 W w) {t : TypeId} {tt : TT} {k n : Nat} {ik : IntKind} (htt : tab t = some tt)
    (hz : tt.zero = List.replicate n (.int ik 0))
    (hx : ∀ x, ∃ p v u, stepF sp spP no x sl (lk m) (.allocI k ik n) = some (p, v, u) ∧ p) :
    Done P sp spP no sl m w0 W (.allocI k ik n) ((do pure (Next.value (← Instr.alloc t true (.tuple #[]))) : Sem Next).run P w) := by
  obtain ⟨p, v, u, h, hp⟩ := hx (fun _ => ⟨w.heap.size, 0, false, 0⟩)
  have h0 := h
  simp only [stepF] at h
  cases h
  obtain ⟨i0, hi0, hsz, _, z, hzv, hds, _⟩ := (hT t tt htt).info
  rw [hz] at hds
  have hl := hds.length
  simp at hl
  obtain ⟨hm', hk'⟩ := made_ok hm hk k z.cells t ⟨w.heap.size, 0, false, n⟩ (.ints ik (intsZ n)) rfl rfl
    (fun o ho => by
      simp only [Chunk.len, intsZ_eq, List.length_replicate] at ho
      obtain ⟨v, hv, hd⟩ := hds.get (i := o) (c := .int ik 0) (by simp [ho])
      exact ⟨v, by simpa using hv, by simpa [Chunk.cell, intsZ_eq, List.getD_eq_getElem?_getD, ho] using hd⟩)
    (by simp only [Chunk.ext]; omega) (by simp [Chunk.fits, intsZ_eq]) (fun _ _ _ h => h.elim)
  refine ⟨_, _, _, _, .pointer (some ⟨w.heap.size, 0, none⟩), _, h0, hp, .inl ?_, by simp [Den, Loc.ad], by simpa [apU] using hm', hk'⟩
  simp [Instr.alloc, newVar, newRow, zero_run hi0 hzv, Result.andThen]

theorem inOrder_eval : ∀ (l : List (Nat × Operand)) (n : Nat) (xs : List Operand), inOrder n l = some xs → l.map (fun (i, x) => (i, a.eval x)) = ((xs.map a.eval).zipIdx n).map fun (v, i) => (i, v)
  | [], n, xs, h => by simp only [inOrder] at h; cases h; simp
  | (i, x) :: l, n, xs, h => by
    simp only [inOrder] at h
    by_cases e : i = n
    · subst e
      rw [show (i == i) = true by simp] at h
      try simp only [cond_true] at h
      split at h
      · rename_i r hr
        cases h
        simp [inOrder_eval l (i + 1) r hr]
      · cases h
    · have e' : (i == n) = false := by simpa using e
      rw [e'] at h
      cases h

theorem fill_row : ∀ (vs : List Value) (n : Nat) (acc : Array Value), n + vs.length = acc.size → (∀ v ∈ vs, v.cells = #[v]) →
    ∃ acc', Instr.fill (fun i => some (i * 1, 1)) acc ((vs.zipIdx n).map fun (v, i) => (i, v)) = some acc' ∧ acc'.toList = acc.toList.take n ++ vs
  | [], n, acc, hn, _ => ⟨acc, by simp [Instr.fill], by simp at hn; rw [List.take_of_length_le (by simp; omega)]; simp⟩
  | v :: vs, n, acc, hn, h1 => by
    simp only [List.length_cons] at hn
    have hv := h1 v (by simp)
    obtain ⟨acc', h2, h3⟩ := fill_row vs (n + 1) (acc.setIfInBounds n v) (by simp; omega) (fun u hu => h1 u (by simp [hu]))
    refine ⟨acc', ?_, ?_⟩
    · simp only [List.zipIdx_cons, List.map_cons, Instr.fill]
      have e1 : ¬ (v.cells.size ≠ 1) := by rw [hv]; simp
      have e2 : ¬ (n * 1 + v.cells.size > acc.size) := by rw [hv]; simp; omega
      simp only [e1, e2, decide_false, Bool.or_self, Bool.false_eq_true, if_false]
      rw [← h2, hv]
      simp
    · rw [h3]
      have : n < acc.toList.length := by simp; omega
      simp only [Array.toList_setIfInBounds]
      rw [List.take_succ_eq_append_getElem (by simpa using this)]
      simp [List.take_set_of_le]

theorem row_cells {vs : List SV} {ch : Chunk} (h : rowOf vs = some ch) : ch.len = vs.length ∧ (∀ o c, vs[o]? = some c → ch.cell o = c ∧ size1 c = true) ∧ (∀ L, ch.ext L = L.cap) ∧ ∀ L : Loc, vs.length ≤ L.cap → L.nil = false → ch.fits L := by
  unfold rowOf at h
  split at h
  · split at h
    · cases h
    · rename_i r hr
      cases h
      have hg := asBools_get hr
      refine ⟨by simpa [Chunk.len] using hg.1, fun o c hc => ?_, fun _ => rfl, fun L h1 h2 => ⟨by rw [hg.1]; exact h1, by simp [h2]⟩⟩
      have hlt : o < _ := (List.getElem?_eq_some_iff.1 hc).1
      have := hg.2 o hlt
      rw [hc] at this; cases this
      exact ⟨rfl, rfl⟩
  · split at h
    · cases h
    · rename_i r hr
      cases h
      have hg := asInts_get hr
      refine ⟨by simpa [Chunk.len] using hg.1, fun o c hc => ?_, fun _ => rfl, fun L h1 h2 => ⟨by rw [hg.1]; exact h1, by simp [h2]⟩⟩
      have hlt : o < _ := (List.getElem?_eq_some_iff.1 hc).1
      have := hg.2 o hlt
      rw [hc] at this; cases this
      exact ⟨rfl, rfl⟩
  · cases h
    exact ⟨rfl, by simp, fun _ => rfl, fun L h1 h2 => ⟨by simp, by simp [h2]⟩⟩
  · cases h

theorem done_bslice (hT : ∀ t tt, tab t = some tt → TtOk P t tt) (hs : SlotsOk sl a) (hm : MemSat w0 W m w) (hk : Kept w0 W w)
    {t e : TypeId} {tt te : TT} (htt : tab t = some tt) (hkind : tt.kind = .slice e) (hte : tab e = some te) (h1 : te.size = 1)
    {k len : Nat} {ps : Array (Nat × Operand)} {xs : List Operand} {as : List Opd} (hio : inOrder 0 ps.toList = some xs) (has : opds xs = some as) (hlen : ps.size = len) (hsmall : len ≤ 16777216)
    (hx : ∀ x, ∃ p v u, stepF sp spP no x sl (lk m) (.bslice k as) = some (p, v, u) ∧ p) :
    Done P sp spP no sl m w0 W (.bslice k as) ((do pure (Next.value (← Instr.buildSlice t len (ps.map fun (i, x) => (i, a.eval x)))) : Sem Next).run P w) := by
  obtain ⟨p, v, u, h, hp⟩ := hx (fun _ => ⟨w.heap.size, 0, false, len⟩)
  have h' := h
  simp only [stepF] at h
  obtain ⟨vs, p', hds, hf, hp'⟩ := ons_den hs has h hp
  split at hf
  · cases hf
  rename_i ch hch
  cases hf
  have hev := inOrder_eval (a := a) ps.toList 0 xs hio
  have hxl : xs.length = len := by
    have := congrArg List.length hev
    simp at this; omega
  have hvl : vs.length = len := by have := hds.length; simp at this; omega
  obtain ⟨g1, g2, g3, g4⟩ := row_cells hch
  have hone : ∀ v ∈ xs.map a.eval, v.cells = #[v] := by
    intro v hv
    obtain ⟨i, hi⟩ := List.getElem?_of_mem hv
    have hlt : i < vs.length := by
      have := (List.getElem?_eq_some_iff.1 hi).1
      simp at this; omega
    obtain ⟨c, hc⟩ : ∃ c, vs[i]? = some c := ⟨_, List.getElem?_eq_getElem hlt⟩
    obtain ⟨v', hv', hd⟩ := hds.get hc
    rw [hi] at hv'; cases hv'
    exact (hd.one (g2 i c hc).2).2
  obtain ⟨i0, hi0, hsz, hby, zv, hzv, hdz, _⟩ := (hT e te hte).info
  obtain ⟨acc', hfill, hacc⟩ := fill_row (xs.map a.eval) 0 ((Array.range (len * 1)).map fun x => (if len * 1 = 0 then #[] else zv.cells)[x % (if len * 1 = 0 then #[] else zv.cells).size]!) (by simp [hxl]) hone
  simp only [List.take_zero, List.nil_append] at hacc
  obtain ⟨hm', hk'⟩ := made_ok hm hk k acc' e ⟨w.heap.size, 0, false, len⟩ ch rfl rfl
    (fun o ho => by
      rw [g1] at ho
      obtain ⟨c, hc⟩ : ∃ c, vs[o]? = some c := ⟨_, List.getElem?_eq_getElem ho⟩
      obtain ⟨v', hv', hd⟩ := hds.get hc
      refine ⟨v', ?_, by rw [(g2 o c hc).1]; exact hd⟩
      rw [← hacc] at hv'
      simpa using hv')
    (by rw [g3]; have := congrArg List.length hacc; simp at this; simp only; omega) (g4 _ (by simp only; omega) rfl) (fun _ _ _ hrw => by
      unfold rowOf at hch
      repeat' split at hch
      all_goals first | (cases hch; done) | (cases hch; exact hrw.elim))
  refine ⟨_, _, _, _, .slice (some ⟨w.heap.size, 0, none⟩) len len, _, h', hp, .inl ?_, ?_, by simpa [apU] using hm', hk'⟩
  · have hnot : ¬ (len * 1 > 2 ^ 24) := by omega
    have hpl : (ps.map fun (i, x) => (i, a.eval x)).toList = ((xs.map a.eval).zipIdx 0).map fun (v, i) => (i, v) := by
      rw [← hev]; simp
    simp only [Instr.buildSlice, Sem.run_bind, run_underlying (desc_slice hT htt hkind), Result.andThen, sizeOf_run hT hte, h1, hnot, if_false, Sem.run_pure, hpl]
    by_cases hz : len * 1 = 0
    · simp only [hz, if_true] at hfill ⊢
      simp only [Sem.run_pure, hfill, newRow, Sem.run_bind, newObj, Sem.run, Result.andThen]
      rfl
    · simp only [hz, if_false] at hfill ⊢
      simp only [Sem.run_bind, zero_run hi0 hzv, Result.andThen, Sem.run_pure, hfill, newRow, newObj, Sem.run]
      rfl
  · simp only [Den]
    refine ⟨by omega, by omega, by simp; omega, by simp, some ⟨w.heap.size, 0, none⟩, by simp [hvl], by simp, fun _ => by simp [Loc.ad]⟩

theorem zeroR_ok {nk : IntKind} : ∀ {l : List SV} {r : List RC}, zeroR nk l = some r → r.length = l.length ∧ (∀ xs, Dens l xs → Dens (r.map RC.sv) xs) ∧ (∀ L k xs, RC.row L k xs ∈ r → L = nilLoc0 ∧ xs = [])
  | [], r, h => by simp only [zeroR] at h; cases h; exact ⟨rfl, fun _ h => h, fun _ _ _ h => by simp at h⟩
  | c :: l, r, h => by
    unfold zeroR at h
    split at h
    · rename_i e; cases e
    · rename_i e; cases e
      split at h
      case h_2 => cases h
      rename_i r' hr
      cases h
      obtain ⟨h1, h2, h3⟩ := zeroR_ok hr
      refine ⟨by simp [h1], fun xs hx => ?_, fun L k xs hx => h3 L k xs (by simpa using hx)⟩
      simp only [Dens, List.map_cons, RC.sv] at hx ⊢
      obtain ⟨v, vs, e, g1, g2⟩ := hx
      exact ⟨v, vs, e, g1, h2 vs g2⟩
    · rename_i e; cases e
      split at h
      case h_2 => cases h
      rename_i r' hr
      cases h
      obtain ⟨h1, h2, h3⟩ := zeroR_ok hr
      refine ⟨by simp [h1], fun xs hx => ?_, fun L k xs hx => h3 L k xs (by simpa using hx)⟩
      simp only [Dens, List.map_cons, RC.sv] at hx ⊢
      obtain ⟨v, vs, e, g1, g2⟩ := hx
      exact ⟨v, vs, e, g1, h2 vs g2⟩
    · rename_i e; cases e
      split at h
      case h_2 => cases h
      rename_i r' hr
      cases h
      obtain ⟨h1, h2, h3⟩ := zeroR_ok hr
      refine ⟨by simp [h1], fun xs hx => ?_, fun L k xs hx => ?_⟩
      · simp only [Dens, List.map_cons, RC.sv] at hx ⊢
        obtain ⟨v, vs, e, g1, g2⟩ := hx
        refine ⟨v, vs, e, ?_, h2 vs g2⟩
        simpa only [Den, nilLoc0, List.length_nil, Int.natCast_zero, Int.ofNat_zero] using g1
      · rcases List.mem_cons.1 hx with hx | hx
        · cases hx; exact ⟨rfl, rfl⟩
        · exact h3 L k xs hx
    · cases h

theorem Dens.sv {cs : List RC} {us : List Value} (h : Dens (cs.map RC.sv) us) : us.length = cs.length ∧ ∀ f, f < cs.length → ∃ v, us[f]? = some v ∧ Den (cs.getD f (.int .i64 0)).sv v := by
  refine ⟨by simpa using h.length, fun f hf => ?_⟩
  obtain ⟨v, hv, hd⟩ := h.get (i := f) (c := (cs[f]).sv) (by simp [hf])
  exact ⟨v, hv, by simpa [List.getD_eq_getElem?_getD, hf] using hd⟩

theorem done_mksR (hT : ∀ t tt, tab t = some tt → TtOk P t tt) (hs : SlotsOk sl a) (hm : MemSat w0 W m w) (hk : Kept w0 W w)
    {t e : TypeId} {tt te : TT} (htt : tab t = some tt) (hkind : tt.kind = .slice e) (hte : tab e = some te) (h1 : 0 < te.size) (hby : te.bytes ≤ 100000) {nk : IntKind} {z : List RC} (hz : zeroR nk te.zero = some z)
    {k : Nat} {X Y : Operand} {ax ay : Opd} (hax : opd X = some ax) (hay : opd Y = some ay)
    (hx : ∀ x, ∃ p v u, stepF sp spP no x sl (lk m) (.mksR k z te.bytes ax ay) = some (p, v, u) ∧ p) :
    Done P sp spP no sl m w0 W (.mksR k z te.bytes ax ay) ((do pure (Next.value (← Instr.makeSlice t (a.eval X) (a.eval Y))) : Sem Next).run P w) := by
  -- the sizes first
  obtain ⟨p0, v0, u0, h0, hp0⟩ := hx (fun _ => default)
  simp only [stepF] at h0
  obtain ⟨s0, q0, hd0, hf0, hq0⟩ := o1_den h0 hp0 hax hs
  obtain ⟨s1, q1, hd1, hf1, hq1⟩ := o1_den hf0 hq0 hay hs
  cases s0 <;> cases s1 <;> simp only at hf1 <;> first | (cases hf1; done) | skip
  rename_i kx n ky c
  cases hf1
  obtain ⟨g0, g1, g2⟩ := hq1
  simp only [Den] at hd0 hd1
  obtain ⟨p, v, u, h, hp⟩ := hx (fun _ => ⟨w.heap.size, 0, false, c.toNat⟩)
  have h' := h
  simp only [stepF] at h
  obtain ⟨s0, q0, hd0', hf0, hq0⟩ := o1_den h hp hax hs
  obtain ⟨s1, q1, hd1', hf1, hq1⟩ := o1_den hf0 hq0 hay hs
  cases s0 <;> cases s1 <;> simp only at hf1 <;> first | (cases hf1; done) | skip
  simp only [Den] at hd0' hd1'
  rw [hd0] at hd0'
  rw [hd1] at hd1'
  cases hd0'
  cases hd1'
  cases hf1
  obtain ⟨i0, hi0, hsz, hbytes, zv, hzv, hds, _⟩ := (hT e te hte).info
  obtain ⟨z1, z2, z3⟩ := zeroR_ok hz
  obtain ⟨y1, y2⟩ := (z2 _ hds).sv
  have hzs : zv.cells.size = te.size := by
    have := hds.length
    have e2 : te.zero.length = te.size := by
      have := (hT e te hte).len
      exact this
    simp at this; omega
  simp at y1
  have hb : (i0.bytes : Int) * c ≤ 281474976710656 := by
    rw [hbytes]
    have : (te.bytes : Int) * c ≤ 100000 * 1000000000 := by
      exact Int.mul_le_mul (by omega) g2 (by omega) (by omega)
    omega
  have hrun := run_make (P := P) w t e i0 zv (desc_slice hT htt hkind) hi0 hzv kx ky n c g0 g1 hb (by omega)
  rw [hsz] at hrun
  have hzl : z.length = te.size := by omega
  obtain ⟨hm', hk'⟩ := made_ok hm hk k (madeCells zv.cells (c.toNat * te.size)) e ⟨w.heap.size, 0, false, c.toNat⟩ (.recs z.length true z (List.replicate n.toNat z)) rfl rfl
    (fun o ho => by
      simp only [Chunk.len, List.length_replicate, hzl] at ho
      have hlt : o < c.toNat * te.size := Nat.lt_of_lt_of_le ho (Nat.mul_le_mul_right _ (by omega))
      have hmod : o % te.size < te.size := Nat.mod_lt _ h1
      obtain ⟨v, hv, hd⟩ := y2 (o % te.size) (by omega)
      refine ⟨v, ?_, ?_⟩
      · have hv' : zv.cells[o % te.size]? = some v := by simpa using hv
        have : zv.cells[o % te.size]! = v := by rw [getElem!_def, hv']
        simp [madeCells, hlt, hzs, this]
      · have hdiv : o / te.size < n.toNat := Nat.div_lt_of_lt_mul (by rw [Nat.mul_comm]; exact ho)
        have e1 : (List.replicate n.toNat z).getD (o / te.size) [] = z := by
          rw [List.getD_eq_getElem?_getD, List.getElem?_replicate, if_pos hdiv]; rfl
        simp only [Chunk.cell, rcAt, hzl, e1]
        exact hd)
    (by simp [Chunk.ext, madeCells, hzl]) ⟨by simp; omega, by simp, by omega, fun r hr => by rw [List.eq_of_mem_replicate hr]⟩
    (fun L k xs ⟨r, hr, hx⟩ => by
      rw [List.eq_of_mem_replicate hr] at hx
      obtain ⟨rfl, rfl⟩ := z3 L k xs hx
      exact shown_nil k)
  refine ⟨_, _, _, _, .slice (some ⟨w.heap.size, 0, none⟩) n.toNat c.toNat, _, h', hp, .inl ?_, ?_, by simpa [apU] using hm', hk'⟩
  · simp only [Sem.run_bind, hd0, hd1, hrun, Result.andThen, Sem.run_pure]
  · simp only [Den]
    refine ⟨by omega, g0, by simp; omega, by simp, some ⟨w.heap.size, 0, none⟩, by simp, by simp, fun _ => by simp [Loc.ad]⟩

theorem fold_get (off : Nat) : ∀ (l : List Value) (n : Nat) (acc : Array Value), off + n + l.length ≤ acc.size →
    ((l.zipIdx n).foldl (fun cs (c, j) => cs.setIfInBounds (off + j) c) acc).size = acc.size ∧
    ∀ o, ((l.zipIdx n).foldl (fun cs (c, j) => cs.setIfInBounds (off + j) c) acc)[o]? = if off + n ≤ o ∧ o < off + n + l.length then l[o - (off + n)]? else acc[o]?
  | [], n, acc, h => ⟨rfl, fun o => by simp; intro h1 h2; omega⟩
  | v :: l, n, acc, h => by
    simp only [List.length_cons] at h
    obtain ⟨h1, h2⟩ := fold_get off l (n + 1) (acc.setIfInBounds (off + n) v) (by simp; omega)
    simp only [List.zipIdx_cons, List.foldl_cons]
    refine ⟨by rw [h1]; simp, fun o => ?_⟩
    rw [h2]
    by_cases e : o = off + n
    · subst e
      have : off + n < acc.size := by omega
      rw [if_neg (by omega), if_pos (by simp)]
      simp [this]
    · by_cases e2 : off + (n + 1) ≤ o ∧ o < off + (n + 1) + l.length
      · rw [if_pos e2, if_pos (by simp; omega)]
        rw [show o - (off + n) = o - (off + (n + 1)) + 1 by omega]
        simp
      · rw [if_neg e2, if_neg (by simp; omega)]
        simp [Ne.symm e]

theorem fill_recs {s : Nat} (hs0 : 0 < s) : ∀ (l : List (List RC)) (vs : List Value) (n : Nat) (acc : Array Value), vs.length = l.length → (∀ (i : Nat) (v : Value), vs[i]? = some v → ∃ r : List RC, l[i]? = some r ∧ r.length = s ∧ Dens (r.map RC.sv) v.cells.toList) →
    (n + vs.length) * s ≤ acc.size →
    ∃ acc', Instr.fill (fun i => some (i * s, s)) acc ((vs.zipIdx n).map fun (v, i) => (i, v)) = some acc' ∧ acc'.size = acc.size ∧ (∀ o, o < n * s → acc'[o]? = acc[o]?) ∧
      ∀ o, o < l.length * s → ∃ v, acc'[n * s + o]? = some v ∧ Den (rcAt l s o).sv v
  | [], [], n, acc, _, _, _ => ⟨acc, rfl, rfl, fun _ _ => rfl, fun o ho => by simp at ho⟩
  | [], _ :: _, n, acc, h, _, _ => by simp at h
  | _ :: _, [], n, acc, h, _, _ => by simp at h
  | r :: l, v :: vs, n, acc, hl, hd, hn => by
    simp only [List.length_cons] at hl hn
    obtain ⟨r0, e0, hr, hdr⟩ := hd 0 v rfl
    simp at e0; subst e0
    have hsv := hdr.sv
    have hvs : v.cells.size = s := by have := hsv.1; simp at this; omega
    have hle : n * s + s ≤ acc.size := by
      have : (n + 1) * s ≤ (n + (vs.length + 1)) * s := Nat.mul_le_mul_right _ (by omega)
      rw [Nat.add_mul, Nat.one_mul] at this
      omega
    obtain ⟨f1, f2⟩ := fold_get (n * s) v.cells.toList 0 acc (by simp; omega)
    obtain ⟨acc', g1, g2, g3, g4⟩ := fill_recs hs0 l vs (n + 1) _ (by omega) (fun i u hu => by
      obtain ⟨r', h1, h2⟩ := hd (i + 1) u (by simpa using hu)
      exact ⟨r', by simpa using h1, h2⟩) (by rw [f1]; rw [show n + 1 + vs.length = n + (vs.length + 1) by omega]; exact hn)
    refine ⟨acc', ?_, by rw [g2, f1], fun o ho => ?_, fun o ho => ?_⟩
    · simp only [List.zipIdx_cons, List.map_cons, Instr.fill]
      have e1 : ¬ (v.cells.size ≠ s) := by omega
      have e2 : ¬ (n * s + v.cells.size > acc.size) := by omega
      simp only [e1, e2, decide_false, Bool.or_self, Bool.false_eq_true, if_false]
      rw [← g1]
      congr 1
      rw [← Array.foldl_toList]
      simp
    · rw [g3 o (by rw [Nat.add_mul]; omega), f2, if_neg (by omega)]
    · simp only [List.length_cons] at ho
      by_cases h : o < s
      · obtain ⟨x, hx, hdx⟩ := hsv.2 o (by omega)
        refine ⟨x, ?_, ?_⟩
        · rw [g3 _ (by rw [Nat.add_mul]; omega), f2, if_pos (by simp; omega)]
          simpa using hx
        · have e1 : o / s = 0 := Nat.div_eq_of_lt h
          have e2 : o % s = o := Nat.mod_eq_of_lt h
          simpa [rcAt, e1, e2] using hdx
      · obtain ⟨x, hx, hdx⟩ := g4 (o - s) (by rw [Nat.add_mul] at ho; omega)
        refine ⟨x, ?_, ?_⟩
        · rw [← hx]; congr 1; rw [Nat.add_mul]; omega
        · have e1 : o / s = (o - s) / s + 1 := by rw [← Nat.add_div_right _ hs0]; congr 1; omega
          have e2 : o % s = (o - s) % s := by
            have h3 : o - s + s = o := by omega
            conv => lhs; rw [← h3]
            exact Nat.add_mod_right _ _
          simpa [rcAt, e1, e2] using hdx

theorem recsOf_ok {m0 : Mem} {no : Lim} {nk : IntKind} {s : Nat} : ∀ {vs : List SV} {m : Mem} {p : Prop} {l : List (List RC)} {u : Upd} {f : Bool}, MemSat w0 W m w → Dem m0 m → recsOf (lkN no (lk m0)) nk s vs = some (p, l, u, f) → p →
    MemSat w0 W (apU m u) w ∧ Dem m0 (apU m u) ∧ (∀ fr M k xs, Shown w0 fr m w M k xs → Shown w0 fr (apU m u) w M k xs) ∧ (∀ r ∈ l, ∀ M k xs, RC.row M k xs ∈ r → Shown w0 f (apU m u) w M k xs) ∧ l.length = vs.length ∧ (∀ r ∈ l, r.length = s) ∧
      (∀ xs, Dens vs xs → ∀ (i : Nat) (v : Value), xs[i]? = some v → ∃ r : List RC, l[i]? = some r ∧ r.length = s ∧ Dens (r.map RC.sv) v.cells.toList)
  | [], m, p, l, u, f, hm, hd, h, hp => by
    simp only [recsOf] at h
    cases h
    exact ⟨hm, hd, fun _ _ _ _ h => h, fun _ h => (by simp at h), rfl, fun _ h => (by simp at h), fun xs hx i v hv => by simp only [Dens] at hx; subst hx; simp at hv⟩
  | v :: vs, m, p, l, u, f, hm, hd, h, hp => by
    simp only [recsOf] at h
    split at h
    case h_2 => cases h
    rename_i p1 r1 u1 f1 p2 r2 u2 f2 h1 h2
    cases h
    obtain ⟨a1, a2, a3, a4, a5, a6⟩ := recOf_ok hm hd h1 hp.1
    obtain ⟨b1, b2, b3, b4, b5, b6, b7⟩ := recsOf_ok a1 a2 h2 hp.2
    rw [apU_append]
    refine ⟨b1, b2, fun fr M k xs h => b3 _ _ _ _ (a3 _ _ _ _ h), fun r hr M k xs h => ?_, by simp [b5], fun r hr => ?_, fun xs hx i x hi => ?_⟩
    · rcases List.mem_cons.1 hr with rfl | hr
      · exact (b3 _ _ _ _ (a4 _ _ _ h)).le (fun hh => by simp only [Bool.and_eq_true] at hh; exact hh.1)
      · exact (b4 r hr _ _ _ h).le (fun hh => by simp only [Bool.and_eq_true] at hh; exact hh.2)
    · rcases List.mem_cons.1 hr with rfl | hr
      · exact a6
      · exact b6 r hr
    · simp only [Dens] at hx
      obtain ⟨x0, xs', rfl, hx0, hxs⟩ := hx
      cases i with
      | zero => simp at hi; subst hi; exact ⟨r1, rfl, a6, a5 _ hx0⟩
      | succ i => simpa using b7 xs' hxs i x (by simpa using hi)

theorem done_brecs (hT : ∀ t tt, tab t = some tt → TtOk P t tt) (hs : SlotsOk sl a) (hm : MemSat w0 W m w) (hk : Kept w0 W w)
    {t e : TypeId} {tt te : TT} (htt : tab t = some tt) (hkind : tt.kind = .slice e) (hte : tab e = some te) (h1 : 0 < te.size) {nk : IntKind}
    {k len : Nat} {ps : Array (Nat × Operand)} {xs : List Operand} {as : List Opd} (hio : inOrder 0 ps.toList = some xs) (has : opds xs = some as) (hlen : ps.size = len) (hsmall : te.size * len ≤ 16777216)
    (hx : ∀ x, ∃ p v u, stepF sp spP no x sl (lk m) (.brecs k te.size nk as) = some (p, v, u) ∧ p) :
    Done P sp spP no sl m w0 W (.brecs k te.size nk as) ((do pure (Next.value (← Instr.buildSlice t len (ps.map fun (i, x) => (i, a.eval x)))) : Sem Next).run P w) := by
  obtain ⟨p, v, u, h, hp⟩ := hx (fun _ => ⟨w.heap.size, 0, false, len⟩)
  have h' := h
  simp only [stepF] at h
  obtain ⟨vs, p', hds, hf, hp'⟩ := ons_den hs has h hp
  split at hf
  · cases hf
  rename_i q l d fr hrec
  cases hf
  have hev := inOrder_eval (a := a) ps.toList 0 xs hio
  have hxl : xs.length = len := by
    have := congrArg List.length hev
    simp at this; omega
  have hvl : vs.length = len := by have := hds.length; simp at this; omega
  obtain ⟨r1, r2, r3, r4, r5, r6, r7⟩ := recsOf_ok hm (Dem.refl m) hrec hp'
  obtain ⟨i0, hi0, hsz, hby, zv, hzv, hdz, _⟩ := (hT e te hte).info
  obtain ⟨acc', hfill, hacc, _, hcells⟩ := fill_recs h1 l (xs.map a.eval) 0 ((Array.range (len * te.size)).map fun x => (if len * te.size = 0 then #[] else zv.cells)[x % (if len * te.size = 0 then #[] else zv.cells).size]!) (by simp; omega) (r7 _ hds) (by simp [hxl])
  have hll : l.length = len := by omega
  obtain ⟨hm', hk'⟩ := made_ok r1 hk k acc' e ⟨w.heap.size, 0, false, len⟩ (.recs te.size fr [] l) rfl rfl
    (fun o ho => by
      simp only [Chunk.len] at ho
      obtain ⟨x, hx, hdx⟩ := hcells o ho
      exact ⟨x, by simpa using hx, hdx⟩)
    (by rw [hacc]; simp [Chunk.ext]) ⟨by simp only; omega, by simp, h1, r6⟩ (fun L kk ys ⟨r, hr, hx⟩ => r4 r hr L kk ys hx)
  refine ⟨_, _, _, _, .slice (some ⟨w.heap.size, 0, none⟩) len len, _, h', hp, .inl ?_, ?_, by rw [apU_append]; simpa [apU] using hm', hk'⟩
  · have hnot : ¬ (len * te.size > 2 ^ 24) := by rw [Nat.mul_comm]; omega
    have hpl : (ps.map fun (i, x) => (i, a.eval x)).toList = ((xs.map a.eval).zipIdx 0).map fun (v, i) => (i, v) := by
      rw [← hev]; simp
    simp only [Instr.buildSlice, Sem.run_bind, run_underlying (desc_slice hT htt hkind), Result.andThen, sizeOf_run hT hte, hnot, if_false, Sem.run_pure, hpl]
    by_cases hz : len * te.size = 0
    · simp only [hz, if_true] at hfill ⊢
      simp only [Sem.run_pure, hfill, newRow, Sem.run_bind, newObj, Sem.run, Result.andThen]
      rfl
    · simp only [hz, if_false] at hfill ⊢
      simp only [Sem.run_bind, zero_run hi0 hzv, Result.andThen, Sem.run_pure, hfill, newRow, newObj, Sem.run]
      rfl
  · simp only [Den]
    refine ⟨by omega, by omega, by simp; omega, by simp, some ⟨w.heap.size, 0, none⟩, by simp [hvl], by simp, fun _ => by simp [Loc.ad]⟩

end Go.Proofs.Ytnmbimhcfioeiaa.Xf
