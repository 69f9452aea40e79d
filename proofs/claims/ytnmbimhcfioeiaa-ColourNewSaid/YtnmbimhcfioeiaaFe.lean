import Derived.Test.YtnmbimhcfioeiaaFd
set_option linter.unusedVariables false
set_option linter.unusedSimpArgs false
/-! Xf, part e: stores, new chunks. -/
namespace Go.Proofs.Ytnmbimhcfioeiaa.Xf
variable {P : Program} {sp : Sp} {spP : SpP} {no : Lim} {sl : List Ent} {m : Mem} {w0 w : World} {W : Addr → Prop} {a : Act} {tab : Tab} {isP : FuncId → Bool}

theorem Den.one {s : SV} {v : Value} (h : Den s v) (h1 : size1 s = true) : v.oneCell' = true ∧ v.cells = #[v] := by
  cases s <;> simp [size1] at h1 <;> simp only [Den] at h
  · subst h; exact ⟨rfl, rfl⟩
  · subst h; exact ⟨rfl, rfl⟩
  · subst h; exact ⟨rfl, rfl⟩
  · obtain ⟨_, _, _, _, A, rfl, _⟩ := h; exact ⟨rfl, rfl⟩
  · obtain ⟨vs, rfl, _⟩ := h; exact ⟨rfl, rfl⟩

theorem Den.cells {s : SV} {v : Value} (h : Den s v) {cs : List SV} (hc : cellsOf s = some cs) : Dens cs v.cells.toList := by
  have one : ∀ {s : SV} {v : Value}, Den s v → size1 s = true → Dens [s] v.cells.toList := fun {s v} h h1 => by
    rw [(h.one h1).2]
    simp only [Dens]; exact ⟨_, _, rfl, h, rfl⟩
  cases s <;> simp only [cellsOf] at hc
  case agg cs =>
    cases hc
    simp only [Den] at h
    obtain ⟨vs, rfl, hd⟩ := h
    simpa [Value.cells] using hd
  case tup => cases hc
  case val => cases hc
  all_goals (cases hc; exact one h rfl)

/-- A cell of a chunk that may be written: the store runs, and the rest is kept. -/
theorem store_ok (hm : MemSat w0 W m w) (hk : Kept w0 W w) {c : Nat} {own : Own} {L : Loc} {ch ch' : Chunk}
    (hc : lk m c = some (own, L, ch)) (ho : own ≠ .ro) {o : Nat} (hlt : o < ch.len) {v : Value} {sv : SV} (hv : Den sv v) (h1 : v.oneCell' = true)
    (hlen : ch'.len = ch.len) (hext : ch'.ext L = ch.ext L) (hfit : ch'.fits L) (hcell : ∀ i, i < ch.len → ch'.cell i = if i = o then sv else ch.cell i) :
    ∃ w', (store (L.ad o) v).run P w = .ok () w' ∧ MemSat w0 W (st m c (some (own, L, ch'))) w' ∧ Kept w0 W w' := by
  obtain ⟨hs, hf, hm'⟩ := hm.write hc ho hlt hv hlen hext hfit hcell
  obtain ⟨u, hu⟩ := Option.isSome_iff_exists.1 hs
  refine ⟨_, by rw [run_store P w _ _ _ h1, hu]; simp [hf], hm', ?_⟩
  refine hk.trans (Kept.setCell w _ v rfl) (fun b hb hlt' => ?_)
  subst hb
  have hck := hm.chunk c _ hc
  have hext' : o < ch.ext L := by
    have := Chunk.len_le_reg hck
    have hr : reg (own, L, ch) = ch.ext L := by cases own <;> simp_all [reg]
    rw [hr] at this
    exact Nat.lt_of_lt_of_le hlt this
  cases own with
  | ro => exact absurd rfl ho
  | mine => have := hck.fresh rfl (by simp only; omega); simp [Loc.ad] at hlt'; simp at this; omega
  | lent => exact hck.lent rfl o hext'

theorem wrc_ok (hm : MemSat w0 W m w) (hk : Kept w0 W w) {c : Nat} {own : Own} {L : Loc} {ch ch' : Chunk} (hc : lk m c = some (own, L, ch)) (ho : own ≠ .ro)
    {i : Int} {s f : Nat} {sv : SV} {p : Prop} (h : wrc i s f sv ch = some (p, ch')) (hp : p) {v : Value} (hv : Den sv v) :
    v.cells = #[v] ∧ ∃ w', (store (L.ad (i.toNat * s + f)) v).run P w = .ok () w' ∧ MemSat w0 W (st m c (some (own, L, ch'))) w' ∧ Kept w0 W w' := by
  have hfit := (hm.chunk c _ hc).fits
  cases ch with
  | cells cs =>
    simp only [wrc] at h
    split at h
    · cases h
    · rename_i old hold
      cases h1 : size1 sv with
      | false => simp [h1] at h
      | true =>
        simp only [h1, cond_true] at h
        cases h
        subst hp
        rw [getL_eq] at hold
        have hlt : f < cs.length := by
          rcases Nat.lt_or_ge f cs.length with h | h
          · exact h
          · simp [List.getElem?_eq_none h] at hold
        refine ⟨(hv.one h1).2, ?_⟩
        have := store_ok (P := P) hm hk hc ho (o := f) (ch' := .cells (setL cs f sv)) (by simpa [Chunk.len] using hlt) hv (hv.one h1).1 (by simp [Chunk.len, setL_eq]) (by simp [Chunk.ext, setL_eq]) hfit
          (fun i hi => by
            simp only [Chunk.cell, setL_eq, List.getD_eq_getElem?_getD, List.getElem?_set]
            by_cases e : i = f
            · subst e; simp [hlt]
            · simp [e, Ne.symm e])
        simpa using this
  | ints k xs =>
    simp only [wrc] at h
    split at h
    · rename_i k' n
      by_cases hkk : k = k'
      · subst hkk
        simp only [decide_true, cond_true] at h
        cases h
        refine ⟨(hv.one rfl).2, ?_⟩
        have := store_ok (P := P) hm hk hc ho (o := i.toNat) (ch' := .ints k (xs.set i.toNat n)) (by simp only [Chunk.len]; omega) hv (hv.one rfl).1 (by simp [Chunk.len]) (by simp [Chunk.ext]) (by simpa [Chunk.fits] using hfit)
          (fun j hj => by
            simp only [Chunk.len] at hj
            simp only [Chunk.cell, List.getD_eq_getElem?_getD, List.getElem?_set]
            by_cases e : j = i.toNat
            · subst e; simp [hj]
            · simp [e, Ne.symm e])
        simpa using this
      · simp [hkk] at h
    · cases h
  | bools xs =>
    simp only [wrc] at h
    split at h
    · rename_i b
      cases h
      refine ⟨(hv.one rfl).2, ?_⟩
      have := store_ok (P := P) hm hk hc ho (o := i.toNat) (ch' := .bools (xs.set i.toNat b)) (by simp only [Chunk.len]; omega) hv (hv.one rfl).1 (by simp [Chunk.len]) (by simp [Chunk.ext]) (by simpa [Chunk.fits] using hfit)
        (fun j hj => by
          simp only [Chunk.len] at hj
          simp only [Chunk.cell, List.getD_eq_getElem?_getD, List.getElem?_set]
          by_cases e : j = i.toNat
          · subst e; simp [hj]
          · simp [e, Ne.symm e])
      simpa using this
    · cases h

theorem st_st (m : Mem) (c : Nat) (x y : Option ME) : st (st m c x) c y = st m c y := by
  have : ∀ (l : Mem) (n : Nat), st (st l n x) n y = st l n y := by
    intro l
    induction l with
    | nil => intro n; simp [st]
    | cons a l ih => intro n; cases n <;> simp [st, ih]
  exact this _ _

theorem wrs_ok {c : Nat} {own : Own} {L : Loc} (ho : own ≠ .ro) : ∀ (vs : List SV) (us : List Value) (m : Mem) (w : World) (cs : List SV) (f i : Nat), MemSat w0 W m w → Kept w0 W w →
    lk m c = some (own, L, .cells cs) → vs.all size1 = true → f + i + vs.length ≤ cs.length → Dens vs us →
    ∃ w', (storeCells (L.ad f) us i).run P w = .ok () w' ∧ MemSat w0 W (st m c (some (own, L, .cells (setsL cs (f + i) vs)))) w' ∧ Kept w0 W w'
  | [], us, m, w, cs, f, i, hm, hk, hc, h1, hl, hd => by
    simp only [Dens] at hd; subst hd
    refine ⟨w, by simp [storeCells], ?_, hk⟩
    have : st m c (some (own, L, Chunk.cells cs)) = m := by
      have : ∀ (l : Mem) (n : Nat) (e : ME), lk l n = some e → st l n (some e) = l := by
        intro l
        induction l with
        | nil => intro n e; simp [st]
        | cons a l ih => intro n e h; cases n with
          | zero => simp [lk] at h; simp [st, h]
          | succ n => simp [lk] at h; simp [st, ih n e h]
      exact this _ _ _ hc
    simpa [setsL, this] using hm
  | v :: vs, us, m, w, cs, f, i, hm, hk, hc, h1, hl, hd => by
    simp only [Dens] at hd
    obtain ⟨u, us', rfl, hv, hd⟩ := hd
    simp only [List.all_cons, Bool.and_eq_true] at h1
    simp only [List.length_cons] at hl
    have hlt : f + i < cs.length := by omega
    obtain ⟨w1, hr, hm1, hk1⟩ := store_ok (P := P) hm hk hc ho (o := f + i) (ch' := .cells (setL cs (f + i) v)) (by simpa [Chunk.len] using hlt) hv (hv.one h1.1).1 (by simp [Chunk.len, setL_eq]) (by simp [Chunk.ext, setL_eq]) (hm.chunk c _ hc).fits
      (fun j hj => by
        simp only [Chunk.cell, setL_eq, List.getD_eq_getElem?_getD, List.getElem?_set]
        by_cases e : j = f + i
        · subst e; simp [hlt]
        · simp [e, Ne.symm e])
    obtain ⟨w2, hr2, hm2, hk2⟩ := wrs_ok ho vs us' _ w1 (setL cs (f + i) v) f (i + 1) hm1 hk1 (by rw [lk_st, if_pos ⟨rfl, lk_lt hc⟩]) h1.2 (by simp [setL_eq]; omega) hd
    refine ⟨w2, ?_, ?_, hk2⟩
    · rw [← hr2]
      simp only [storeCells, Sem.run_bind]
      rw [ad_add, hr]
      rfl
    · rw [st_st] at hm2
      simpa [setsL, Nat.add_assoc] using hm2

theorem done_store (hT : ∀ t tt, tab t = some tt → TtOk P t tt) (hs : SlotsOk sl a) (hm : MemSat w0 W m w) (hk : Kept w0 W w)
    {t : TypeId} {X Y : Operand} {tt : TT} {ax ay : Opd} {rr : Bool} (htt : tab t = some tt) (hax : opd X = some ax) (hay : opd Y = some ay)
    (hx : ∀ x, ∃ p v u, stepF sp spP no x sl (lk m) (.sto rr tt.size ax ay) = some (p, v, u) ∧ p) :
    Done P sp spP no sl m w0 W (.sto rr tt.size ax ay) ((do Instr.storeAt t (a.eval X) (a.eval Y); pure Next.skip : Sem Next).run P w) := by
  obtain ⟨p, v, u, h, hp⟩ := hx (fun _ => default)
  have h0 := h
  have hp0 := hp
  simp only [stepF] at h
  obtain ⟨v0, p', hd, hf, hp'⟩ := o1_den h hp hax hs
  obtain ⟨v1, p'', hd1, hf1, hp''⟩ := o1_den hf hp' hay hs
  cases v0 <;> simp only at hf1 <;> try cases hf1
  rename_i c L i s f
  split at hf1
  case h_2 => cases hf1
  rename_i own L' ch hl
  have htk := hT t tt htt
  obtain ⟨i0, hi0, hsz, _⟩ := htk.info
  simp only [Den] at hd
  have hl := lkK_some hl
  have hown : own ≠ .ro := by rintro rfl; simp at hf1
  -- the part behind own
  have hf2 : (match (match v1 with
            | .agg us => bif decide (us.length = tt.size) then wrn i s f us ch else none
            | u => bif decide (tt.size = 1) then wrc i s f u ch else none) with
          | none => (none : R)
          | some (p, ch') => some (L' = L ∧ p, .val undef, [(c, some (own, L', ch'))])) = some (p'', v, u) := by
    cases own <;> first | exact absurd rfl hown | exact hf1
  clear hf1
  split at hf2
  case h_1 => cases hf2
  rename_i q ch' hq
  cases hf2
  obtain ⟨rfl, hq'⟩ := hp''
  have fin : ∀ w', (storeCells (L'.ad (i.toNat * s + f)) (a.eval Y).cells.toList).run P w = .ok () w' → (a.eval Y).cells.size = tt.size →
      MemSat w0 W (st m c (some (own, L', ch'))) w' → Kept w0 W w' →
      Done P sp spP no sl m w0 W (.sto rr tt.size ax ay) ((do Instr.storeAt t (a.eval X) (a.eval Y); pure Next.skip : Sem Next).run P w) := by
    intro w' hr hsz' hm' hk'
    refine ⟨_, _, _, _, undef, w', h0, hp0, .inr ⟨?_, rfl⟩, rfl, by simpa [apU] using hm', hk'⟩
    simp only [Sem.run_bind, Instr.storeAt, hd, Instr.sureAddr, Sem.run_pure, Result.andThen, storeVar]
    simp [size_run hi0, hsz, hsz', hr, Result.andThen]
  by_cases hagg : ∃ us, v1 = .agg us
  · obtain ⟨us, rfl⟩ := hagg
    simp only at hq
    by_cases hlen : us.length = tt.size
    · simp only [hlen, decide_true, cond_true] at hq
      cases ch with
      | cells cs =>
        simp only [wrn] at hq
        split at hq
        · cases hq
        · rename_i l hl'
          cases hall : us.all size1 with
          | false => simp [hall] at hq
          | true =>
            simp only [hall, cond_true] at hq
            cases hq
            subst hq'
            have ht := (takeL_some hl').2
            rw [dropL_eq] at ht
            simp at ht
            simp only [Den] at hd1
            obtain ⟨vs, hvs, hds⟩ := hd1
            have hcl : (a.eval Y).cells.toList = vs := by rw [hvs]; simp [Value.cells]
            rcases Nat.eq_zero_or_pos us.length with hz | hz
            · -- nothing is written
              have : vs = [] := by have := hds.length; rw [hz] at this; simpa using this
              subst this
              have hus : us = [] := by simpa using hz
              subst hus
              refine fin w (by rw [hcl]; simp [storeCells]) (by rw [hvs]; simp [Value.cells]; simpa using hlen) ?_ hk
              have : ∀ (l : Mem) (n : Nat) (e : ME), lk l n = some e → st l n (some e) = l := by
                intro l
                induction l with
                | nil => intro n e; simp [st]
                | cons a l ih => intro n e h; cases n with
                  | zero => simp [lk] at h; simp [st, h]
                  | succ n => simp [lk] at h; simp [st, ih n e h]
              simpa [setsL, this _ _ _ hl] using hm
            · obtain ⟨w', hr, hm', hk'⟩ := wrs_ok (P := P) hown us vs m w cs f 0 hm hk hl hall (by omega) hds
              refine fin w' (by rw [hcl]; simpa using hr) (by rw [hvs]; have := hds.length; simp [Value.cells, this, hlen]) (by simpa using hm') hk'
      | ints k xs => simp [wrn] at hq
      | bools xs => simp [wrn] at hq
    · simp [hlen] at hq
  · have hq2 : (bif decide (tt.size = 1) then wrc i s f v1 ch else none) = some (q, ch') := by
      cases v1 <;> first | exact hq | exact absurd ⟨_, rfl⟩ hagg
    by_cases h1 : tt.size = 1
    · simp only [h1, decide_true, cond_true] at hq2
      obtain ⟨hcells, w', hr, hm', hk'⟩ := wrc_ok (P := P) hm hk hl hown hq2 hq' hd1
      refine fin w' ?_ (by rw [hcells, h1]; rfl) hm' hk'
      rw [hcells]
      simp only [storeCells, Sem.run_bind]
      rw [show (L'.ad (i.toNat * s + f)).add 0 = L'.ad (i.toNat * s + f) by rw [ad_add]; simp, hr]
      simp [storeCells, Result.andThen]
    · simp [h1] at hq2

/-- A new block holds a new chunk. -/
theorem made_ok (hm : MemSat w0 W m w) (hk : Kept w0 W w) (k : Nat) (C : Array Value) (t : TypeId) (L : Loc) (ch : Chunk) (hb : L.b = w.heap.size) (hL0 : L.o = 0)
    (hcell : ∀ o, o < ch.len → ∃ v, C[o]? = some v ∧ Den (ch.cell o) v) (hext : ch.ext L ≤ C.size) (hfit : ch.fits L) :
    MemSat w0 W (st m k (some (.mine, L, ch))) (w.alloc (.cells C t)) ∧ Kept w0 W (w.alloc (.cells C t)) := by
  have had : ∀ o, L.ad o = ⟨w.heap.size, o, none⟩ := fun o => by simp [Loc.ad, hb, hL0]
  refine ⟨?_, hk.trans (Kept.alloc w _ _) (fun _ h _ => h)⟩
  refine (hm.alloc _).put k _ ⟨fun o ho => ?_, fun _ o ho => ?_, hfit, fun _ _ => ?_, fun h => by cases h⟩ (fun d f hd hf _ => ?_)
  · obtain ⟨v, hv, hd⟩ := hcell o ho
    exact ⟨v, by simp only [had]; simp [hv], hd⟩
  · simp only at ho
    have : o < C.size := by omega
    exact ⟨by simp only [had]; simp [this], by simp only [had]; simp⟩
  · simp only [hb]; exact hk.size
  · intro i hi j hj
    obtain ⟨v, hv⟩ := (hm.chunk d f hf).regSome hj
    exact fun e => ad_ne_of_size hv (M := L) (j := i) (by omega) e.symm

theorem done_box (hs : SlotsOk sl a) (hm : MemSat w0 W m w) (hk : Kept w0 W w) {t : TypeId} {X : Operand} {k : Nat} {ax : Opd} (hax : opd X = some ax)
    (hx : ∀ x, ∃ p v u, stepF sp spP no x sl (lk m) (.box k ax) = some (p, v, u) ∧ p) :
    Done P sp spP no sl m w0 W (.box k ax) ((do pure (Next.value (← Instr.box t (a.eval X))) : Sem Next).run P w) := by
  obtain ⟨p, v, u, h, hp⟩ := hx (fun _ => ⟨w.heap.size, 0, false, 0⟩)
  have h0 := h
  simp only [stepF] at h
  obtain ⟨v0, p', hd, hf, hp'⟩ := o1_den h hp hax hs
  split at hf
  · cases hf
  · rename_i cs hcs
    cases hf
    have hds := hd.cells hcs
    obtain ⟨hm', hk'⟩ := made_ok hm hk k (a.eval X).cells t ⟨w.heap.size, 0, false, 0⟩ (.cells cs) rfl rfl
      (fun o ho => by
        simp only [Chunk.len] at ho
        obtain ⟨v, hv, hd⟩ := hds.get (i := o) (c := cs[o]) (by simp [ho])
        exact ⟨v, by simpa using hv, by simpa [Chunk.cell, List.getD_eq_getElem?_getD, ho] using hd⟩)
      (by have := hds.length; simp only [Chunk.ext]; simp at this; omega) rfl
    refine ⟨_, _, _, _, .pointer (some ⟨w.heap.size, 0, none⟩), _, h0, hp, .inl ?_, by simp [Den, Loc.ad], by simpa [apU] using hm', hk'⟩
    simp [Instr.box, newVar, newRow, Result.andThen]

theorem done_alloc (hT : ∀ t tt, tab t = some tt → TtOk P t tt) (hm : MemSat w0 W m w) (hk : Kept w0 W w) {t : TypeId} {tt : TT} {k : Nat} (htt : tab t = some tt)
    (hx : ∀ x, ∃ p v u, stepF sp spP no x sl (lk m) (.alloc k tt.zero) = some (p, v, u) ∧ p) :
    Done P sp spP no sl m w0 W (.alloc k tt.zero) ((do pure (Next.value (← Instr.alloc t true (.tuple #[]))) : Sem Next).run P w) := by
  obtain ⟨p, v, u, h, hp⟩ := hx (fun _ => ⟨w.heap.size, 0, false, 0⟩)
  have h0 := h
  simp only [stepF] at h
  cases h
  obtain ⟨i0, hi0, hsz, _, z, hz, hds, _⟩ := (hT t tt htt).info
  obtain ⟨hm', hk'⟩ := made_ok hm hk k z.cells t ⟨w.heap.size, 0, false, 0⟩ (.cells tt.zero) rfl rfl
    (fun o ho => by
      simp only [Chunk.len] at ho
      obtain ⟨v, hv, hd⟩ := hds.get (i := o) (c := tt.zero[o]) (by simp [ho])
      exact ⟨v, by simpa using hv, by simpa [Chunk.cell, List.getD_eq_getElem?_getD, ho] using hd⟩)
    (by have := hds.length; simp only [Chunk.ext]; simp at this; omega) rfl
  refine ⟨_, _, _, _, .pointer (some ⟨w.heap.size, 0, none⟩), _, h0, hp, .inl ?_, by simp [Den, Loc.ad], by simpa [apU] using hm', hk'⟩
  simp [Instr.alloc, newVar, newRow, zero_run hi0 hz, Result.andThen]

end Go.Proofs.Ytnmbimhcfioeiaa.Xf
