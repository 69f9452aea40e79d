import Derived.Test.YtnmbimhcfioeiaaFd
set_option linter.unusedVariables false
set_option linter.unusedSimpArgs false
/-! Xf, part e: stores, new chunks. -/
namespace Go.Proofs.Ytnmbimhcfioeiaa.Xf
variable {P : Program} {sp : Sp} {spP : SpP} {no : Lim} {sl : List Ent} {m : Mem} {w0 w : World} {W : Addr → Prop} {a : Act} {tab : Tab} {isP : FuncId → Bool}

theorem Den.one {s : SV} {v : Value} (h : Den s v) (h1 : size1 s = true) : v.oneCell' = true ∧ v.cells = #[v] := by
  cases s <;> simp [size1] at h1 <;> simp only [Den] at h
  · subst h; exact ⟨rfl, rfl⟩
  · subst h; exact ⟨rfl, rfl⟩
  · subst h; exact ⟨rfl, rfl⟩
  · obtain ⟨_, _, _, _, A, rfl, _⟩ := h; exact ⟨rfl, rfl⟩
  · obtain ⟨vs, rfl, _⟩ := h; exact ⟨rfl, rfl⟩

theorem Den.cells {s : SV} {v : Value} (h : Den s v) {cs : List SV} (hc : cellsOf s = some cs) : Dens cs v.cells.toList := by
  have one : ∀ {s : SV} {v : Value}, Den s v → size1 s = true → Dens [s] v.cells.toList := fun {s v} h h1 => by
    rw [(h.one h1).2]
    simp only [Dens]; exact ⟨_, _, rfl, h, rfl⟩
  cases s <;> simp only [cellsOf] at hc
  case agg cs =>
    cases hc
    simp only [Den] at h
    obtain ⟨vs, rfl, hd⟩ := h
    simpa [Value.cells] using hd
  case tup => cases hc
  case val => cases hc
  all_goals (cases hc; exact one h rfl)

/-- A cell of a chunk that may be written: the store runs, and the rest is kept. -/
theorem store_ok (hm : MemSat w0 W m w) (hk : Kept w0 W w) {c : Nat} {own : Own} {L : Loc} {ch ch' : Chunk}
    (hc : lk m c = some (own, L, ch)) (ho : own.wr = true) {o : Nat} (hlt : o < ch.len) {v : Value} {sv : SV} (hv : Den sv v) (h1 : v.oneCell' = true)
    (hlen : ch'.len = ch.len) (hext : ch'.ext L = ch.ext L) (hfit : ch'.fits L) (hcell : ∀ i, i < ch.len → ch'.cell i = if i = o then sv else ch.cell i)
    (hrow : ∀ L' k xs, ch'.rows L' k xs → Shown w0 ch'.fr m w L' k xs) :
    ∃ w', (store (L.ad o) v).run P w = .ok () w' ∧ MemSat w0 W (st m c (some (own, L, ch'))) w' ∧ Kept w0 W w' ∧ (∀ fr M k xs, Shown w0 fr m w M k xs → Shown w0 fr (st m c (some (own, L, ch'))) w' M k xs) := by
  obtain ⟨hs, hf, hm', hwo⟩ := hm.write hc ho hlt hv hlen hext hfit hcell hrow
  obtain ⟨u, hu⟩ := Option.isSome_iff_exists.1 hs
  refine ⟨_, by rw [run_store P w _ _ _ h1, hu]; simp [hf], hm', ?_, fun fr M k xs h => h.write hc hext hwo v⟩
  refine hk.trans (Kept.setCell w _ v rfl) (fun b hb hlt' => ?_)
  subst hb
  have hck := hm.chunk c _ hc
  have hext' : o < reg (own, L, ch) := Nat.lt_of_lt_of_le hlt (Chunk.len_le_reg hck)
  rcases (hck.home o hext').got ho with h | h
  · simp [Loc.ad] at hlt' h; omega
  · exact h

theorem wrc_ok (hm : MemSat w0 W m w) (hk : Kept w0 W w) {c : Nat} {own : Own} {L : Loc} {ch ch' : Chunk} (hc : lk m c = some (own, L, ch)) (ho : own.wr = true)
    {i : Int} {s f : Nat} {sv : SV} {p : Prop} (h : wrc i s f sv ch = some (p, ch')) (hp : p) {v : Value} (hv : Den sv v) :
    v.cells = #[v] ∧ ∃ w', (store (L.ad (i.toNat * s + f)) v).run P w = .ok () w' ∧ MemSat w0 W (st m c (some (own, L, ch'))) w' ∧ Kept w0 W w' := by
  have hfit := (hm.chunk c _ hc).fits
  cases ch with
  | cells cs =>
    simp only [wrc] at h
    split at h
    · cases h
    · rename_i old hold
      cases h1 : size1 sv with
      | false => simp [h1] at h
      | true =>
        simp only [h1, cond_true] at h
        cases h
        generalize i.toNat * s + f = f at *
        rw [getL_eq] at hold
        have hlt : f < cs.length := by
          rcases Nat.lt_or_ge f cs.length with h | h
          · exact h
          · simp [List.getElem?_eq_none h] at hold
        refine ⟨(hv.one h1).2, ?_⟩
        obtain ⟨w', g1, g2, g3, _⟩ := store_ok (P := P) hm hk hc ho (o := f) (ch' := .cells (setL cs f sv)) (by simpa [Chunk.len] using hlt) hv (hv.one h1).1 (by simp [Chunk.len, setL_eq]) (by simp [Chunk.ext, setL_eq]) hfit
          (fun i hi => by
            simp only [Chunk.cell, setL_eq, List.getD_eq_getElem?_getD, List.getElem?_set]
            by_cases e : i = f
            · subst e; simp [hlt]
            · simp [e, Ne.symm e]) (fun _ _ _ h => h.elim)
        exact ⟨w', g1, g2, g3⟩
  | ints k xs =>
    simp only [wrc] at h
    split at h
    · rename_i k' n
      by_cases hkk : k = k'
      · subst hkk
        simp only [decide_true, cond_true] at h
        cases h
        refine ⟨(hv.one rfl).2, ?_⟩
        obtain ⟨w', g1, g2, g3, _⟩ := store_ok (P := P) hm hk hc ho (o := i.toNat) (ch' := .ints k (xs.set i.toNat n)) (by simp only [Chunk.len]; omega) hv (hv.one rfl).1 (by simp [Chunk.len]) (by simp [Chunk.ext]) (by simpa [Chunk.fits] using hfit)
          (fun j hj => by
            simp only [Chunk.len] at hj
            simp only [Chunk.cell, List.getD_eq_getElem?_getD, List.getElem?_set]
            by_cases e : j = i.toNat
            · subst e; simp [hj]
            · simp [e, Ne.symm e]) (fun _ _ _ h => h.elim)
        exact ⟨w', by simpa using g1, g2, g3⟩
      · simp [hkk] at h
    · cases h
  | bools xs =>
    simp only [wrc] at h
    split at h
    · rename_i b
      cases h
      refine ⟨(hv.one rfl).2, ?_⟩
      obtain ⟨w', g1, g2, g3, _⟩ := store_ok (P := P) hm hk hc ho (o := i.toNat) (ch' := .bools (xs.set i.toNat b)) (by simp only [Chunk.len]; omega) hv (hv.one rfl).1 (by simp [Chunk.len]) (by simp [Chunk.ext]) (by simpa [Chunk.fits] using hfit)
        (fun j hj => by
          simp only [Chunk.len] at hj
          simp only [Chunk.cell, List.getD_eq_getElem?_getD, List.getElem?_set]
          by_cases e : j = i.toNat
          · subst e; simp [hj]
          · simp [e, Ne.symm e]) (fun _ _ _ h => h.elim)
      exact ⟨w', by simpa using g1, g2, g3⟩
    · cases h
  | recs s' fr z l => simp [wrc] at h

theorem st_same : ∀ (l : Mem) (n : Nat) (e : ME), lk l n = some e → st l n (some e) = l := by
  intro l
  induction l with
  | nil => intro n e; simp [st]
  | cons a l ih => intro n e h; cases n with
    | zero => simp [lk] at h; simp [st, h]
    | succ n => simp [lk] at h; simp [st, ih n e h]

theorem wrs_ok {c : Nat} {own : Own} {L : Loc} (ho : own.wr = true) : ∀ (vs : List SV) (us : List Value) (m : Mem) (w : World) (cs : List SV) (f i : Nat), MemSat w0 W m w → Kept w0 W w →
    lk m c = some (own, L, .cells cs) → vs.all size1 = true → f + i + vs.length ≤ cs.length → Dens vs us →
    ∃ w', (storeCells (L.ad f) us i).run P w = .ok () w' ∧ MemSat w0 W (st m c (some (own, L, .cells (setsL cs (f + i) vs)))) w' ∧ Kept w0 W w'
  | [], us, m, w, cs, f, i, hm, hk, hc, h1, hl, hd => by
    simp only [Dens] at hd; subst hd
    refine ⟨w, by simp [storeCells], ?_, hk⟩
    simpa [setsL, st_same _ _ _ hc] using hm
  | v :: vs, us, m, w, cs, f, i, hm, hk, hc, h1, hl, hd => by
    simp only [Dens] at hd
    obtain ⟨u, us', rfl, hv, hd⟩ := hd
    simp only [List.all_cons, Bool.and_eq_true] at h1
    simp only [List.length_cons] at hl
    have hlt : f + i < cs.length := by omega
    obtain ⟨w1, hr, hm1, hk1, _⟩ := store_ok (P := P) hm hk hc ho (o := f + i) (ch' := .cells (setL cs (f + i) v)) (by simpa [Chunk.len] using hlt) hv (hv.one h1.1).1 (by simp [Chunk.len, setL_eq]) (by simp [Chunk.ext, setL_eq]) (hm.chunk c _ hc).fits
      (fun j hj => by
        simp only [Chunk.cell, setL_eq, List.getD_eq_getElem?_getD, List.getElem?_set]
        by_cases e : j = f + i
        · subst e; simp [hlt]
        · simp [e, Ne.symm e]) (fun _ _ _ h => h.elim)
    obtain ⟨w2, hr2, hm2, hk2⟩ := wrs_ok ho vs us' _ w1 (setL cs (f + i) v) f (i + 1) hm1 hk1 (by rw [lk_st, if_pos ⟨rfl, lk_lt hc⟩]) h1.2 (by simp [setL_eq]; omega) hd
    refine ⟨w2, ?_, ?_, hk2⟩
    · rw [← hr2]
      simp only [storeCells, Sem.run_bind]
      rw [ad_add, hr]
      rfl
    · rw [st_st] at hm2
      simpa [setsL, Nat.add_assoc] using hm2

theorem asInts_get' {k : IntKind} : ∀ {cs : List SV} {xs : List Int}, asInts k cs = some xs → cs = xs.map fun n => .int k n
  | [], xs, h => by simp [asInts] at h; simp [← h]
  | c :: cs, xs, h => by
    cases c <;> simp only [asInts] at h <;> first | (cases h; done) | skip
    rename_i k' n
    by_cases e : k = k'
    · subst e
      simp only [decide_true, cond_true] at h
      split at h
      · cases h
      · rename_i r hr
        cases h
        simp [asInts_get' hr]
    · simp [e] at h

/-- A whole array of numbers is written. -/
theorem wrI_ok {c : Nat} {own : Own} {L : Loc} {k : IntKind} (ho : own.wr = true) : ∀ (ys : List Int) (us : List Value) (m : Mem) (w : World) (xs : List Int) (i : Nat), MemSat w0 W m w → Kept w0 W w →
    lk m c = some (own, L, .ints k xs) → i + ys.length = xs.length → Dens (ys.map fun n => .int k n) us →
    ∃ w', (storeCells (L.ad 0) us i).run P w = .ok () w' ∧ MemSat w0 W (st m c (some (own, L, .ints k (xs.take i ++ ys)))) w' ∧ Kept w0 W w'
  | [], us, m, w, xs, i, hm, hk, hc, hl, hd => by
    simp only [List.map_nil, Dens] at hd; subst hd
    refine ⟨w, by simp [storeCells], ?_, hk⟩
    simp only [List.length_nil, Nat.add_zero] at hl
    rw [List.append_nil, List.take_of_length_le (by omega), st_same _ _ _ hc]
    exact hm
  | y :: ys, us, m, w, xs, i, hm, hk, hc, hl, hd => by
    simp only [List.map_cons, Dens] at hd
    obtain ⟨u, us', rfl, hv, hd⟩ := hd
    simp only [List.length_cons] at hl
    have hlt : i < xs.length := by omega
    obtain ⟨w1, hr, hm1, hk1, _⟩ := store_ok (P := P) hm hk hc ho (o := i) (ch' := .ints k (xs.set i y)) (by simpa [Chunk.len] using hlt) hv (hv.one rfl).1 (by simp [Chunk.len]) (by simp [Chunk.ext]) (by have := (hm.chunk c _ hc).fits; simpa [Chunk.fits] using this)
      (fun j hj => by
        simp only [Chunk.len] at hj
        simp only [Chunk.cell, List.getD_eq_getElem?_getD, List.getElem?_set]
        by_cases e : j = i
        · subst e; simp [hj]
        · simp [e, Ne.symm e]) (fun _ _ _ h => h.elim)
    obtain ⟨w2, hr2, hm2, hk2⟩ := wrI_ok ho ys us' _ w1 (xs.set i y) (i + 1) hm1 hk1 (by rw [lk_st, if_pos ⟨rfl, lk_lt hc⟩]) (by simp; omega) hd
    refine ⟨w2, ?_, ?_, hk2⟩
    · rw [← hr2]
      simp only [storeCells, Sem.run_bind]
      rw [ad_add, Nat.zero_add, hr]
      rfl
    · rw [st_st] at hm2
      have : (xs.set i y).take (i + 1) = xs.take i ++ [y] := by
        rw [List.take_succ_eq_append_getElem (by simpa using hlt)]
        simp [List.take_set_of_le]
      rw [this] at hm2
      simpa using hm2

/-! Records. -/
theorem apU_append : ∀ (u v : Upd) (m : Mem), apU m (u ++ v) = apU (apU m u) v
  | [], v, m => rfl
  | (c, e) :: u, v, m => by simp only [List.cons_append, apU]; exact apU_append u v _
theorem Shown.lim {fr : Bool} {L' : Loc} {k : IntKind} {xs : List Int} (h : Shown w0 fr m w L' k xs) {m' : Mem} (hw : ∀ d f, lk m' d = some f → ∃ f0, lk m d = some f0 ∧ ∀ a, wf f a → wf f0 a) : Shown w0 fr m' w L' k xs :=
  ⟨h.cap, h.nil, h.cell, fun d f hf o ho ha => by obtain ⟨f0, h0, hh⟩ := hw d f hf; exact h.far d f0 h0 o ho (hh _ ha), h.fresh⟩

/-- Some chunks of numbers of m are only read in m'. -/
structure Dem (m m' : Mem) : Prop where
  lkn : ∀ c own L ch, lk m c = some (own, L, ch) → ∃ own', lk m' c = some (own', L, ch) ∧ (own' = own ∨ own = .mine ∧ own' = .rof)
  back : ∀ c e, lk m' c = some e → ∃ e0, lk m c = some e0 ∧ ∀ a, wf e a → wf e0 a
  rest : ∀ c own L ch, lk m c = some (own, L, ch) → (∀ k xs, ch ≠ .ints k xs) → lk m' c = some (own, L, ch)
theorem Dem.refl (m : Mem) : Dem m m := ⟨fun c own L ch h => ⟨own, h, .inl rfl⟩, fun c e h => ⟨e, h, fun _ h => h⟩, fun c own L ch h _ => h⟩

theorem wf_no {own : Own} (h : own.wr = false) (L : Loc) (ch : Chunk) (a : Addr) : ¬ wf (own, L, ch) a := fun ha => by have := ha.1; simp only [h] at this; cases this

theorem Dem.step {m0 m : Mem} (hd : Dem m0 m) (hm : MemSat w0 W m w) {c : Nat} {own : Own} {L : Loc} {k : IntKind} {xs : List Int} (hc : lk m0 c = some (own, L, .ints k xs)) {f : Bool} (hs : showOk own = some f) :
    MemSat w0 W (apU m (demote c L (.ints k xs) own)) w ∧ Dem m0 (apU m (demote c L (.ints k xs) own)) ∧ (∀ fr M k' ys, Shown w0 fr m w M k' ys → Shown w0 fr (apU m (demote c L (.ints k xs) own)) w M k' ys) ∧
      ∃ own', lk (apU m (demote c L (.ints k xs) own)) c = some (own', L, .ints k xs) ∧ own'.wr = false ∧ (f = true → own' = .rof) := by
  obtain ⟨own', h1, h2⟩ := hd.lkn c own L _ hc
  by_cases ho : own = .mine
  · subst ho
    simp only [showOk] at hs
    simp only [demote, apU]
    have hck := hm.chunk c _ h1
    have hle := Chunk.len_le_reg hck
    have back : ∀ d f, lk (st m c (some (.rof, L, .ints k xs))) d = some f → ∃ f0, lk m d = some f0 ∧ ∀ a, wf f a → wf f0 a := fun d f hf => by
      rw [lk_st] at hf
      split at hf
      · rename_i e; cases hf; exact ⟨_, e.1 ▸ h1, fun a ha => (wf_no rfl _ _ a ha).elim⟩
      · exact ⟨f, hf, fun _ h => h⟩
    refine ⟨hm.turn h1 ⟨hck.cell, fun _ _ _ hr => hr.elim, fun a ha => (wf_no rfl _ _ a ha).elim, fun h => (by cases h), hck.fits, fun o ho => ?_⟩ (fun a ha => (wf_no rfl _ _ a ha).elim) (fun a ha => ?_), ⟨fun d own2 L2 ch2 h => ?_, fun d f hf => ?_, fun d own2 L2 ch2 h hn => ?_⟩, fun fr M k' ys h => h.lim back, .rof, by rw [lk_st, if_pos ⟨rfl, lk_lt h1⟩], rfl, fun _ => rfl⟩
    · have := hck.home o (Nat.lt_of_lt_of_le ho hle)
      rcases h2 with rfl | ⟨_, rfl⟩ <;> exact this
    · rcases ha with ⟨o, ho', rfl⟩ | h
      · exact .inl ⟨o, Nat.lt_of_lt_of_le ho' hle, rfl⟩
      · exact .inr h
    · by_cases hdc : c = d
      · subst hdc
        rw [hc] at h; cases h
        exact ⟨.rof, by rw [lk_st, if_pos ⟨rfl, lk_lt h1⟩], .inr ⟨rfl, rfl⟩⟩
      · rw [lk_st_ne hdc]; exact hd.lkn d own2 L2 ch2 h
    · obtain ⟨f0, g1, g2⟩ := back d f hf
      obtain ⟨f1, g3, g4⟩ := hd.back d f0 g1
      exact ⟨f1, g3, fun a ha => g4 a (g2 a ha)⟩
    · by_cases hdc : c = d
      · subst hdc
        rw [hc] at h; cases h
        exact absurd rfl (hn k xs)
      · rw [lk_st_ne hdc]; exact hd.rest d own2 L2 ch2 h hn
  · have e : demote c L (.ints k xs) own = [] := by cases own <;> first | exact absurd rfl ho | rfl
    have ho' : own' = own := by rcases h2 with h | ⟨h, _⟩ <;> first | exact h | exact absurd h ho
    rw [e]
    simp only [apU]
    refine ⟨hm, hd, fun _ _ _ _ h => h, own', h1, ?_, fun hf => ?_⟩
    · rw [ho']
      cases own with
      | ro => rfl
      | rof => rfl
      | mine => exact absurd rfl ho
      | lent => cases hs
      | got => cases hs
    · rw [ho']
      cases own with
      | ro => cases hs; cases hf
      | rof => rfl
      | mine => exact absurd rfl ho
      | lent => cases hs
      | got => cases hs

theorem sub_length {xs : List Int} {lo n : Int} (h0 : 0 ≤ lo) (h1 : 0 ≤ n) (h2 : lo + n ≤ xs.length) : ((sub xs lo n).length : Int) = n := by
  simp [sub]; omega

theorem fr_ad (L : Loc) (lo : Int) (o : Nat) : (L.fr lo).ad o = L.ad (lo.toNat + o) := by simp [Loc.fr, Loc.ad, Nat.add_assoc]

theorem den_fr {c d : Nat} {L : Loc} {lo n : Int} {v : Value} (h : Den (.sl c L 1 lo n) v) : Den (.sl d (L.fr lo) 1 0 n) v := by
  simp only [Den] at h ⊢
  obtain ⟨h0, h1, h2, h3, A, rfl, hA, hB⟩ := h
  refine ⟨by omega, h1, by simp only [Loc.fr]; omega, fun hn => ?_, A, by simp [Loc.fr], hA, fun hne => ?_⟩
  · have := h3 hn; simp only [Loc.fr]; omega
  · rw [hB (by simpa [Loc.fr] using hne)]
    simp [Loc.fr, Loc.ad]

theorem rcOf_ok {m0 m : Mem} {no : Lim} {nk : IntKind} {v : SV} {p : Prop} {r : RC} {u : Upd} {f : Bool} (hm : MemSat w0 W m w) (hd : Dem m0 m) (h : rcOf (lkN no (lk m0)) nk v = some (p, r, u, f)) (hp : p) :
    MemSat w0 W (apU m u) w ∧ Dem m0 (apU m u) ∧ (∀ fr M k xs, Shown w0 fr m w M k xs → Shown w0 fr (apU m u) w M k xs) ∧ (∀ M k xs, r = .row M k xs → Shown w0 f (apU m u) w M k xs) ∧
      (∀ x, Den v x → Den r.sv x) ∧ size1 v = true := by
  unfold rcOf at h
  split at h
  · cases h; exact ⟨hm, hd, fun _ _ _ _ h => h, fun _ _ _ h => (by cases h), fun _ h => h, rfl⟩
  · cases h; exact ⟨hm, hd, fun _ _ _ _ h => h, fun _ _ _ h => (by cases h), fun _ h => h, rfl⟩
  · rename_i c L s lo n
    cases hc : (c == 4096) with
    | true =>
      rw [hc] at h
      simp only [cond_true] at h
      cases h
      obtain ⟨rfl, rfl, rfl⟩ := hp
      refine ⟨hm, hd, fun _ _ _ _ h => h, fun M k xs h => (by cases h; exact shown_nil _), fun x hx => ?_, rfl⟩
      simp only [Den, RC.sv, nilLoc0] at hx ⊢
      simpa using hx
    | false =>
      rw [hc] at h
      simp only [cond_false] at h
      split at h
      case h_2 => cases h
      rename_i own L' k xs hl
      split at h
      case h_2 => cases h
      rename_i fr hfr
      by_cases hs : s = 1
      case neg => simp [hs] at h
      subst hs
      simp only [decide_true, cond_true] at h
      cases h
      obtain ⟨rfl, h0, h1, h2⟩ := hp
      have hl := lkN_some hl
      obtain ⟨g1, g2, g3, own', g4, g5, g6⟩ := hd.step hm hl hfr
      have hck := g1.chunk c _ g4
      have hlen := sub_length h0 h1 h2
      refine ⟨g1, g2, g3, fun M k' ys h => ?_, fun x hx => ?_, rfl⟩
      · cases h
        obtain ⟨f1, f2⟩ : xs.length ≤ L'.cap ∧ (L'.nil = true → L'.cap = 0) := hck.fits
        refine ⟨by simp only [Loc.fr]; omega, fun hn => by have := f2 hn; simp only [Loc.fr]; omega, fun o ho => ?_, fun d f hf o ho ha => ?_, fun hf hpos => ?_⟩
        · rw [fr_ad]
          obtain ⟨x, hx, hdx⟩ := hck.cell (lo.toNat + o) (by simp only [Chunk.len]; omega)
          rw [hx]
          simp only [Chunk.cell, Den] at hdx
          rw [hdx]
          congr 2
          have : o < n.toNat := by omega
          simp [sub, List.getD_eq_getElem?_getD, List.getElem?_take, this]
        · rw [fr_ad] at ha
          by_cases hdc : d = c
          · subst hdc
            rw [g4] at hf; cases hf
            exact wf_no g5 _ _ _ ha
          · exact g1.sep d c f _ hdc hf g4 _ ha (.inl ⟨lo.toNat + o, by simp only [reg, g5, Chunk.len, cond_false]; omega, rfl⟩)
        · have hown := g6 hf
          subst hown
          have := hck.home lo.toNat (by simp only [reg, Own.wr, Chunk.len, cond_false]; omega)
          simpa [homeOk, Loc.ad, Loc.fr] using this
      · have := den_fr (d := 4095) hx
        simp only [RC.sv, hlen]
        exact this
  · cases h

theorem rcsOf_ok {m0 : Mem} {no : Lim} {nk : IntKind} : ∀ {vs : List SV} {m : Mem} {p : Prop} {r : List RC} {u : Upd} {f : Bool}, MemSat w0 W m w → Dem m0 m → rcsOf (lkN no (lk m0)) nk vs = some (p, r, u, f) → p →
    MemSat w0 W (apU m u) w ∧ Dem m0 (apU m u) ∧ (∀ fr M k xs, Shown w0 fr m w M k xs → Shown w0 fr (apU m u) w M k xs) ∧ (∀ M k xs, RC.row M k xs ∈ r → Shown w0 f (apU m u) w M k xs) ∧
      (∀ xs, Dens vs xs → Dens (r.map RC.sv) xs) ∧ r.length = vs.length ∧ vs.all size1 = true
  | [], m, p, r, u, f, hm, hd, h, hp => by
    simp only [rcsOf] at h
    cases h
    exact ⟨hm, hd, fun _ _ _ _ h => h, fun _ _ _ h => (by simp at h), fun _ h => h, rfl, rfl⟩
  | v :: vs, m, p, r, u, f, hm, hd, h, hp => by
    simp only [rcsOf] at h
    split at h
    case h_2 => cases h
    rename_i p1 r1 u1 f1 p2 r2 u2 f2 h1 h2
    cases h
    obtain ⟨a1, a2, a3, a4, a5, a6⟩ := rcOf_ok hm hd h1 hp.1
    obtain ⟨b1, b2, b3, b4, b5, b6, b7⟩ := rcsOf_ok a1 a2 h2 hp.2
    rw [apU_append]
    refine ⟨b1, b2, fun fr M k xs h => b3 _ _ _ _ (a3 _ _ _ _ h), fun M k xs h => ?_, fun xs h => ?_, by simp [b6], by simp [a6, b7]⟩
    · rcases List.mem_cons.1 h with h | h
      · exact (b3 _ _ _ _ (a4 _ _ _ h.symm)).le (fun hh => by simp only [Bool.and_eq_true] at hh; exact hh.1)
      · exact (b4 _ _ _ h).le (fun hh => by simp only [Bool.and_eq_true] at hh; exact hh.2)
    · simp only [Dens, List.map_cons] at h ⊢
      obtain ⟨x, xs', rfl, hx, hxs⟩ := h
      exact ⟨x, xs', rfl, a5 x hx, b5 xs' hxs⟩

theorem recOf_ok {m0 : Mem} {no : Lim} {nk : IntKind} {s : Nat} {v : SV} {m : Mem} {p : Prop} {r : List RC} {u : Upd} {f : Bool} (hm : MemSat w0 W m w) (hd : Dem m0 m) (h : recOf (lkN no (lk m0)) nk s v = some (p, r, u, f)) (hp : p) :
    MemSat w0 W (apU m u) w ∧ Dem m0 (apU m u) ∧ (∀ fr M k xs, Shown w0 fr m w M k xs → Shown w0 fr (apU m u) w M k xs) ∧ (∀ M k xs, RC.row M k xs ∈ r → Shown w0 f (apU m u) w M k xs) ∧
      (∀ x, Den v x → Dens (r.map RC.sv) x.cells.toList) ∧ r.length = s := by
  unfold recOf at h
  split at h
  · rename_i cs
    by_cases hl : cs.length = s
    case neg => simp [hl] at h
    simp only [hl, decide_true, cond_true] at h
    obtain ⟨a1, a2, a3, a4, a5, a6, a7⟩ := rcsOf_ok hm hd h hp
    refine ⟨a1, a2, a3, a4, fun x hx => ?_, by omega⟩
    simp only [Den] at hx
    obtain ⟨xs, rfl, hxs⟩ := hx
    simpa [Value.cells] using a5 xs hxs
  · by_cases hs : s = 1
    case neg => simp [hs] at h
    simp only [hs, decide_true, cond_true] at h
    obtain ⟨a1, a2, a3, a4, a5, a6, a7⟩ := rcsOf_ok hm hd h hp
    refine ⟨a1, a2, a3, a4, fun x hx => ?_, by rw [a6, hs]; rfl⟩
    simp only [List.all_cons, List.all_nil, Bool.and_true] at a7
    rw [(hx.one a7).2]
    exact a5 [x] (by simp only [Dens]; exact ⟨_, _, rfl, hx, rfl⟩)

def setsR (r : List RC) (f : Nat) : List RC → List RC
  | [] => r
  | v :: vs => setsR (r.set f v) (f + 1) vs

theorem setsR_eq : ∀ (vs : List RC) (r : List RC) (f : Nat), f + vs.length = r.length → setsR r f vs = r.take f ++ vs
  | [], r, f, h => by simp [setsR]; rw [List.take_of_length_le (by simp at h; omega)]
  | v :: vs, r, f, h => by
    simp only [List.length_cons] at h
    simp only [setsR]
    rw [setsR_eq vs (r.set f v) (f + 1) (by simp; omega)]
    have : (r.set f v).take (f + 1) = r.take f ++ [v] := by
      rw [List.take_succ_eq_append_getElem (by simp; omega)]
      simp [List.take_set_of_le]
    rw [this]; simp

theorem RC.size1 (c : RC) : size1 c.sv = true := by cases c <;> rfl

theorem wrR_ok {c : Nat} {own : Own} {L : Loc} {s : Nat} {fr fr' : Bool} {z : List RC} {i : Nat} (ho : own.wr = true) (hfr : fr' = true → fr = true) : ∀ (rs : List RC) (us : List Value) (m : Mem) (w : World) (l : List (List RC)) (f j : Nat), MemSat w0 W m w → Kept w0 W w →
    lk m c = some (own, L, .recs s fr z l) → i < l.length → f + j + rs.length ≤ s → Dens (rs.map RC.sv) us → (∀ M k xs, RC.row M k xs ∈ rs → Shown w0 fr' m w M k xs) →
    ∃ w', (storeCells (L.ad (i * s + f)) us j).run P w = .ok () w' ∧ MemSat w0 W (st m c (some (own, L, .recs s fr' z (l.set i (setsR (l.getD i []) (f + j) rs))))) w' ∧ Kept w0 W w'
  | [], us, m, w, l, f, j, hm, hk, hc, hi, hl, hd, hsh => by
    simp only [List.map_nil, Dens] at hd; subst hd
    refine ⟨w, by simp [storeCells], ?_, hk⟩
    have : l.set i (l.getD i []) = l := by simp [List.getD_eq_getElem?_getD, hi]
    simp only [setsR, this]
    have hck := hm.chunk c _ hc
    exact hm.turn hc ⟨hck.cell, fun M k xs hr => (hck.row M k xs hr).imp id fun h => h.imp id fun h => h.imp id fun h hf => h (hfr hf), hck.self, hck.mineW, hck.fits, hck.home⟩ (fun _ h => h) (fun _ h => h)
  | v :: rs, us, m, w, l, f, j, hm, hk, hc, hi, hl, hd, hsh => by
    simp only [List.map_cons, Dens] at hd
    obtain ⟨u, us', rfl, hv, hd⟩ := hd
    simp only [List.length_cons] at hl
    obtain ⟨f1, f2, f3, f4⟩ := (hm.chunk c _ hc).fits
    have hrl : (l.getD i []).length = s := f4 _ (by simp [List.getD_eq_getElem?_getD, hi])
    have hlt : i * s + (f + j) < l.length * s := by
      have : (i + 1) * s ≤ l.length * s := Nat.mul_le_mul_right _ (by omega)
      rw [Nat.add_mul, Nat.one_mul] at this
      omega
    have hrows : ∀ M k xs, (Chunk.recs s fr' z (l.set i ((l.getD i []).set (f + j) v))).rows M k xs → Shown w0 fr' m w M k xs := by
      intro M k xs ⟨r, hr, hx⟩
      rcases List.mem_or_eq_of_mem_set hr with hr | rfl
      · exact (shown_row hm hc ⟨r, hr, hx⟩).le hfr
      · rcases List.mem_or_eq_of_mem_set hx with hx | hx
        · exact (shown_row hm hc ⟨_, by simp [List.getD_eq_getElem?_getD, hi], hx⟩).le hfr
        · exact hsh M k xs (by simp [hx])
    obtain ⟨w1, hr, hm1, hk1, hs1⟩ := store_ok (P := P) hm hk hc ho (o := i * s + (f + j)) (ch' := .recs s fr' z (l.set i ((l.getD i []).set (f + j) v))) (by simpa [Chunk.len] using hlt) hv (hv.one v.size1).1 (by simp [Chunk.len]) (by simp [Chunk.ext])
      ⟨by simpa using f1, f2, f3, fun r hr => by
        rcases List.mem_or_eq_of_mem_set hr with hr | rfl
        · exact f4 r hr
        · simpa using hrl⟩
      (fun o hlo => by
        simp only [Chunk.len] at hlo
        simp only [Chunk.cell]
        have hdm : o = (o / s) * s + o % s := by rw [Nat.mul_comm]; exact (Nat.div_add_mod o s).symm
        have hms : o % s < s := Nat.mod_lt _ f3
        by_cases e : o = i * s + (f + j)
        · rw [if_pos e, e, rcAt_idx (by omega)]
          congr 1
          simp [List.getD_eq_getElem?_getD, hi]
          rw [List.getElem?_set_self (by have := hrl; simp [List.getD_eq_getElem?_getD, hi] at this; omega)]
          rfl
        · rw [if_neg e]
          congr 1
          unfold rcAt
          by_cases e2 : o / s = i
          · have e3 : ¬ (f + j = o % s) := by
              intro h; apply e; rw [hdm, e2, h]
            simp [e2, List.getD_eq_getElem?_getD, hi, e3]
          · simp [List.getD_eq_getElem?_getD, Ne.symm e2]) hrows
    obtain ⟨w2, hr2, hm2, hk2⟩ := wrR_ok (fr := fr') ho id rs us' _ w1 (l.set i ((l.getD i []).set (f + j) v)) f (j + 1) hm1 hk1 (by rw [lk_st, if_pos ⟨rfl, lk_lt hc⟩]) (by simpa using hi) (by omega) hd (fun M k xs h => hs1 _ _ _ _ (hsh M k xs (by simp [h])))
    refine ⟨w2, ?_, ?_, hk2⟩
    · rw [← hr2]
      simp only [storeCells, Sem.run_bind]
      rw [ad_add, Nat.add_assoc, hr]
      rfl
    · rw [st_st] at hm2
      have e : (l.set i ((l.getD i []).set (f + j) v)).getD i [] = (l.getD i []).set (f + j) v := by simp [List.getD_eq_getElem?_getD, hi]
      rw [e] at hm2
      simpa [setsR, Nat.add_assoc] using hm2

theorem done_store (hT : ∀ t tt, tab t = some tt → TtOk P t tt) (hs : SlotsOk sl a) (hm : MemSat w0 W m w) (hk : Kept w0 W w)
    {t : TypeId} {X Y : Operand} {tt : TT} {ax ay : Opd} {rr : Bool} {nk : IntKind} (htt : tab t = some tt) (hax : opd X = some ax) (hay : opd Y = some ay)
    (hx : ∀ x, ∃ p v u, stepF sp spP no x sl (lk m) (.sto rr tt.size nk ax ay) = some (p, v, u) ∧ p) :
    Done P sp spP no sl m w0 W (.sto rr tt.size nk ax ay) ((do Instr.storeAt t (a.eval X) (a.eval Y); pure Next.skip : Sem Next).run P w) := by
  obtain ⟨p, v, u, h, hp⟩ := hx (fun _ => default)
  have h0 := h
  have hp0 := hp
  simp only [stepF] at h
  obtain ⟨v0, p', hd, hf, hp'⟩ := o1_den h hp hax hs
  obtain ⟨v1, p'', hd1, hf1, hp''⟩ := o1_den hf hp' hay hs
  cases v0 <;> simp only at hf1 <;> try cases hf1
  rename_i c L i s f
  split at hf1
  case h_2 => cases hf1
  rename_i own L' ch hl
  have htk := hT t tt htt
  obtain ⟨i0, hi0, hsz, _⟩ := htk.info
  simp only [Den] at hd
  have hl := lkK_some hl
  have hown : own.wr = true := by cases hw : own.wr <;> simp [hw] at hf1 ⊢
  have fin : ∀ w', L' = L → (storeCells (L'.ad (i.toNat * s + f)) (a.eval Y).cells.toList).run P w = .ok () w' → (a.eval Y).cells.size = tt.size → v = .val undef →
      MemSat w0 W (apU m u) w' → Kept w0 W w' →
      Done P sp spP no sl m w0 W (.sto rr tt.size nk ax ay) ((do Instr.storeAt t (a.eval X) (a.eval Y); pure Next.skip : Sem Next).run P w) := by
    intro w' hLL hr hsz' hv hm' hk'
    subst hLL
    refine ⟨_, _, _, _, undef, w', h0, hp0, .inr ⟨?_, rfl⟩, by rw [hv]; rfl, hm', hk'⟩
    simp only [Sem.run_bind, Instr.storeAt, hd, Instr.sureAddr, Sem.run_pure, Result.andThen, storeVar]
    simp [size_run hi0, hsz, hsz', hr, Result.andThen]
  by_cases hrec : ∃ s' fr z l, ch = .recs s' fr z l
  · obtain ⟨s', fr, z, l, rfl⟩ := hrec
    have hf2 : (match stR (lkN no (lk m)) nk tt.size i s f s' z l v1 with
            | none => (none : R)
            | some (p, l', d, fr') => some (L' = L ∧ p, .val undef, d ++ [(c, some (own, L', .recs s' (fr && fr') z l'))])) = some (p'', v, u) := by
      rw [hown] at hf1; exact hf1
    clear hf1
    unfold stR at hf2
    cases hc : (decide (s = s') && decide (f + tt.size ≤ s)) with
    | false => rw [hc] at hf2; cases hf2
    | true =>
      rw [hc] at hf2
      simp only [Bool.and_eq_true, decide_eq_true_eq] at hc
      obtain ⟨rfl, hfs⟩ := hc
      simp only [cond_true] at hf2
      cases hr : recOf (lkN no (lk m)) nk tt.size v1 with
      | none => rw [hr] at hf2; cases hf2
      | some q =>
        obtain ⟨q, r, d, f'⟩ := q
        rw [hr] at hf2
        simp only at hf2
        have key : ∀ l', (q → 0 ≤ i → i < l.length → l' = l.set i.toNat (setsR (l.getD i.toNat []) f r)) → some (L' = L ∧ (q ∧ 0 ≤ i ∧ i < l.length), SV.val undef, d ++ [(c, some (own, L', Chunk.recs s (fr && f') z l'))]) = some (p'', v, u) →
            Done P sp spP no sl m w0 W (.sto rr tt.size nk ax ay) ((do Instr.storeAt t (a.eval X) (a.eval Y); pure Next.skip : Sem Next).run P w) := by
          intro l' hl' he
          cases he
          obtain ⟨rfl, hq, g0, g1⟩ := hp''
          obtain rfl := hl' hq g0 g1
          obtain ⟨a1, a2, a3, a4, a5, a6⟩ := recOf_ok hm (Dem.refl m) hr hq
          have hlc := a2.rest c own L' _ hl (fun k xs e => by cases e)
          have hds := a5 _ hd1
          obtain ⟨w', b1, b2, b3⟩ := wrR_ok (P := P) (fr' := fr && f') hown (fun h => by simp only [Bool.and_eq_true] at h; exact h.1) r (a.eval Y).cells.toList _ w l f 0 a1 hk hlc (i := i.toNat) (by omega) (by omega) hds (fun M k xs h => (a4 M k xs h).le fun h => by simp only [Bool.and_eq_true] at h; exact h.2)
          refine fin w' rfl b1 (by have := hds.length; simp at this; omega) rfl ?_ b3
          rw [apU_append]
          simpa [apU] using b2
        by_cases hn : tt.size = s
        · rw [hn] at hf2 hr
          simp only [decide_true, cond_true] at hf2
          refine key (l.set i.toNat r) (fun hq g0 g1 => ?_) hf2
          obtain ⟨_, _, _, _, _, a6⟩ := recOf_ok hm (Dem.refl m) hr hq
          obtain ⟨f1, f2, f3, f4⟩ := (hm.chunk c _ hl).fits
          have hlt : i.toNat < l.length := by omega
          have hlen : (l.getD i.toNat []).length = s := f4 _ (by simp [List.getD_eq_getElem?_getD, hlt])
          have : f = 0 := by omega
          subst this
          rw [setsR_eq _ _ _ (by omega)]
          simp
        · simp only [hn, decide_false, cond_false] at hf2
          rcases r with _ | ⟨cc, _ | ⟨_, _⟩⟩ <;> simp only at hf2 <;> first | (cases hf2; done) | skip
          refine key _ (fun hq g0 g1 => ?_) hf2
          have := (recAt_lt (z := z) g1 g0).1
          simp [setsR, setR_eq, this]
  -- the part behind own
  have hf2 : (match (match v1 with
            | .agg us => bif decide (us.length = tt.size) then wrn i s f us ch else none
            | u => bif decide (tt.size = 1) then wrc i s f u ch else none) with
          | none => (none : R)
          | some (p, ch') => some (L' = L ∧ p, .val undef, [(c, some (own, L', ch'))])) = some (p'', v, u) := by
    rw [hown] at hf1
    cases ch <;> first | exact absurd ⟨_, _, _, _, rfl⟩ hrec | exact hf1
  clear hf1
  split at hf2
  case h_1 => cases hf2
  rename_i q ch' hq
  cases hf2
  obtain ⟨rfl, hq'⟩ := hp''
  by_cases hagg : ∃ us, v1 = .agg us
  · obtain ⟨us, rfl⟩ := hagg
    simp only at hq
    by_cases hlen : us.length = tt.size
    · simp only [hlen, decide_true, cond_true] at hq
      simp only [Den] at hd1
      obtain ⟨vs, hvs, hds⟩ := hd1
      have hcl : (a.eval Y).cells.toList = vs := by rw [hvs]; simp [Value.cells]
      have hsz2 : (a.eval Y).cells.size = tt.size := by rw [hvs]; have := hds.length; simp [Value.cells, this, hlen]
      cases ch with
      | cells cs =>
        simp only [wrn] at hq
        split at hq
        · cases hq
        · rename_i l hl'
          cases hall : us.all size1 with
          | false => simp [hall] at hq
          | true =>
            simp only [hall, cond_true] at hq
            cases hq
            have ht := (takeL_some hl').2
            rw [dropL_eq] at ht
            simp at ht
            rcases Nat.eq_zero_or_pos us.length with hz | hz
            · -- nothing is written
              have : vs = [] := by have := hds.length; rw [hz] at this; simpa using this
              subst this
              have hus : us = [] := by simpa using hz
              subst hus
              refine fin w rfl (by rw [hcl]; simp [storeCells]) hsz2 rfl ?_ hk
              simpa [apU, setsL, st_same _ _ _ hl] using hm
            · obtain ⟨w', hr, hm', hk'⟩ := wrs_ok (P := P) hown us vs m w cs (i.toNat * s + f) 0 hm hk hl hall (by omega) hds
              refine fin w' rfl (by rw [hcl]; simpa using hr) hsz2 rfl (by simpa [apU] using hm') hk'
      | ints k xs =>
        simp only [wrn] at hq
        split at hq
        case h_2 => cases hq
        split at hq
        · cases hq
        rename_i ys hys
        cases hq
        have hg := asInts_get' hys
        rw [hg] at hds
        obtain ⟨w', hr, hm', hk'⟩ := wrI_ok (P := P) hown ys vs m w xs 0 hm hk hl (by omega) hds
        refine fin w' rfl (by rw [hcl]; simpa using hr) hsz2 rfl (by simpa [apU] using hm') hk'
      | bools xs => simp [wrn] at hq
      | recs s' fr z l => exact absurd ⟨_, _, _, _, rfl⟩ hrec
    · simp [hlen] at hq
  · have hq2 : (bif decide (tt.size = 1) then wrc i s f v1 ch else none) = some (q, ch') := by
      cases v1 <;> first | exact hq | exact absurd ⟨_, rfl⟩ hagg
    by_cases h1 : tt.size = 1
    · simp only [h1, decide_true, cond_true] at hq2
      obtain ⟨hcells, w', hr, hm', hk'⟩ := wrc_ok (P := P) hm hk hl hown hq2 hq' hd1
      refine fin w' rfl ?_ (by rw [hcells, h1]; rfl) rfl (by simpa [apU] using hm') hk'
      rw [hcells]
      simp only [storeCells, Sem.run_bind]
      rw [show (L'.ad (i.toNat * s + f)).add 0 = L'.ad (i.toNat * s + f) by rw [ad_add]; simp, hr]
      simp [storeCells, Result.andThen]
    · simp [h1] at hq2

/-- A new block holds a new chunk. -/
theorem made_ok (hm : MemSat w0 W m w) (hk : Kept w0 W w) (k : Nat) (C : Array Value) (t : TypeId) (L : Loc) (ch : Chunk) (hb : L.b = w.heap.size) (hL0 : L.o = 0)
    (hcell : ∀ o, o < ch.len → ∃ v, C[o]? = some v ∧ Den (ch.cell o) v) (hext : ch.ext L ≤ C.size) (hfit : ch.fits L) (hrow : ∀ L' k xs, ch.rows L' k xs → Shown w0 ch.fr m w L' k xs) :
    MemSat w0 W (st m k (some (.mine, L, ch))) (w.alloc (.cells C t)) ∧ Kept w0 W (w.alloc (.cells C t)) := by
  have had : ∀ o, L.ad o = ⟨w.heap.size, o, none⟩ := fun o => by simp [Loc.ad, hb, hL0]
  have hnew : ∀ {a : Addr} {v : Value}, w.cell? a = some v → ∀ o, a ≠ L.ad o := fun {a v} hv o e => by
    have := World.block_lt_of_cell? _ _ hv
    rw [e, had] at this
    simp at this
  refine ⟨?_, hk.trans (Kept.alloc w _ _) (fun _ h _ => h)⟩
  refine (hm.alloc _).put k _ ⟨fun o ho => ?_, fun L' kk xs hr => ?_, fun a ha ⟨L', kk, xs, hr, o, ho, e⟩ => ?_, fun _ o ho => ?_, hfit, fun o _ => ?_⟩ (fun d f hd hf a => ⟨fun ha hra => ?_, fun ha hra => ?_⟩)
  · obtain ⟨v, hv, hd⟩ := hcell o ho
    exact ⟨v, by simp only [had]; simp [hv], hd⟩
  · have hs := hrow _ _ _ hr
    refine ⟨hs.cap, hs.nil, fun o ho => ?_, hs.fresh⟩
    rw [World.cell?_alloc_lt w _ _ (World.block_lt_of_cell? _ _ (hs.cell o ho))]
    exact hs.cell o ho
  · obtain ⟨_, o', _, e'⟩ := ha
    exact hnew ((hrow _ _ _ hr).cell o ho) o' (e ▸ e')
  · simp only at ho
    have : o < C.size := by omega
    exact ⟨by simp only [had]; simp [this], by simp only [had]; simp⟩
  · simp only [had, homeOk]; exact hk.size
  · obtain ⟨v, hv⟩ := (hm.chunk d f hf).regSome hra
    obtain ⟨_, o, _, e⟩ := ha
    exact hnew hv o e
  · rcases hra with ⟨o, _, e⟩ | ⟨L', kk, xs, hr, o, ho, e⟩
    · obtain ⟨v, hv⟩ := (hm.chunk d f hf).regSome (wf_rf ha)
      exact hnew hv o e
    · exact (hrow _ _ _ hr).far d f hf o ho (e ▸ ha)

theorem done_box (hs : SlotsOk sl a) (hm : MemSat w0 W m w) (hk : Kept w0 W w) {t : TypeId} {X : Operand} {k : Nat} {ax : Opd} (hax : opd X = some ax)
    (hx : ∀ x, ∃ p v u, stepF sp spP no x sl (lk m) (.box k ax) = some (p, v, u) ∧ p) :
    Done P sp spP no sl m w0 W (.box k ax) ((do pure (Next.value (← Instr.box t (a.eval X))) : Sem Next).run P w) := by
  obtain ⟨p, v, u, h, hp⟩ := hx (fun _ => ⟨w.heap.size, 0, false, 0⟩)
  have h0 := h
  simp only [stepF] at h
  obtain ⟨v0, p', hd, hf, hp'⟩ := o1_den h hp hax hs
  split at hf
  · cases hf
  · rename_i cs hcs
    cases hf
    have hds := hd.cells hcs
    obtain ⟨hm', hk'⟩ := made_ok hm hk k (a.eval X).cells t ⟨w.heap.size, 0, false, 0⟩ (.cells cs) rfl rfl
      (fun o ho => by
        simp only [Chunk.len] at ho
        obtain ⟨v, hv, hd⟩ := hds.get (i := o) (c := cs[o]) (by simp [ho])
        exact ⟨v, by simpa using hv, by simpa [Chunk.cell, List.getD_eq_getElem?_getD, ho] using hd⟩)
      (by have := hds.length; simp only [Chunk.ext]; simp at this; omega) rfl (fun _ _ _ h => h.elim)
    refine ⟨_, _, _, _, .pointer (some ⟨w.heap.size, 0, none⟩), _, h0, hp, .inl ?_, by simp [Den, Loc.ad], by simpa [apU] using hm', hk'⟩
    simp [Instr.box, newVar, newRow, Result.andThen]

theorem done_alloc (hT : ∀ t tt, tab t = some tt → TtOk P t tt) (hm : MemSat w0 W m w) (hk : Kept w0 W w) {t : TypeId} {tt : TT} {k : Nat} (htt : tab t = some tt)
    (hx : ∀ x, ∃ p v u, stepF sp spP no x sl (lk m) (.alloc k tt.zero) = some (p, v, u) ∧ p) :
    Done P sp spP no sl m w0 W (.alloc k tt.zero) ((do pure (Next.value (← Instr.alloc t true (.tuple #[]))) : Sem Next).run P w) := by
  obtain ⟨p, v, u, h, hp⟩ := hx (fun _ => ⟨w.heap.size, 0, false, 0⟩)
  have h0 := h
  simp only [stepF] at h
  cases h
  obtain ⟨i0, hi0, hsz, _, z, hz, hds, _⟩ := (hT t tt htt).info
  obtain ⟨hm', hk'⟩ := made_ok hm hk k z.cells t ⟨w.heap.size, 0, false, 0⟩ (.cells tt.zero) rfl rfl
    (fun o ho => by
      simp only [Chunk.len] at ho
      obtain ⟨v, hv, hd⟩ := hds.get (i := o) (c := tt.zero[o]) (by simp [ho])
      exact ⟨v, by simpa using hv, by simpa [Chunk.cell, List.getD_eq_getElem?_getD, ho] using hd⟩)
    (by have := hds.length; simp only [Chunk.ext]; simp at this; omega) rfl (fun _ _ _ h => h.elim)
  refine ⟨_, _, _, _, .pointer (some ⟨w.heap.size, 0, none⟩), _, h0, hp, .inl ?_, by simp [Den, Loc.ad], by simpa [apU] using hm', hk'⟩
  simp [Instr.alloc, newVar, newRow, zero_run hi0 hz, Result.andThen]

end Go.Proofs.Ytnmbimhcfioeiaa.Xf
