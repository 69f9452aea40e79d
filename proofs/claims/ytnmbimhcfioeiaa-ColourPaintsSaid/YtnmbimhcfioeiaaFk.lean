import Derived.Test.YtnmbimhcfioeiaaFj
set_option linter.unusedVariables false
set_option linter.unusedSimpArgs false
/-! Xf, part k: append. -/
namespace Go.Proofs.Ytnmbimhcfioeiaa.Xf
variable {P : Program} {sp : Sp} {spP : SpP} {no : Lim} {sl : List Ent} {m : Mem} {w0 w : World} {W : Addr → Prop} {a : Act} {tab : Tab} {isP : FuncId → Bool}

theorem growBy_le (n : Nat) : ∀ (r c : Nat), c ≤ 2 * n + 200 → Builtin.growBy n r c ≤ 2 * n + 200
  | 0, c, h => h
  | r + 1, c, h => by
    simp only [Builtin.growBy]
    split
    · exact h
    · exact growBy_le n r _ (by omega)

theorem nextslicecap_le (need old : Nat) (h : old < need) : Builtin.nextslicecap need old ≤ 2 * need + 512 := by
  unfold Builtin.nextslicecap
  split
  · omega
  · split
    · omega
    · have := growBy_le need 4 old (by omega); omega

theorem zsize (hT : ∀ t tt, tab t = some tt → TtOk P t tt) {e : TypeId} {te : TT} (hte : tab e = some te) {i0 : TypeInfo} (hi0 : P.info? e = some i0) {zv : Value} (hzv : i0.zero = some zv) : zv.cells.size = te.size := by
  obtain ⟨i1, hi1, _, _, z1, hz1, hds, _⟩ := (hT e te hte).info
  rw [hi0] at hi1; cases hi1
  rw [hzv] at hz1; cases hz1
  have h1 := hds.length
  have h2 := (hT e te hte).len
  simp at h1; omega

theorem app_grow (hT : ∀ t tt, tab t = some tt → TtOk P t tt) {t t' e e' ty : TypeId} {tt tt' te : TT} (htt : tab t = some tt) (hkind : tt.kind = .slice e) (htt' : tab t' = some tt') (hkind' : tt'.kind = .slice e')
    (hte : tab e = some te) (h1 : 0 < te.size) (hby : te.bytes ≤ 100) (A : Option Addr) (N C : Nat) (B : Option Addr) (M D : Nat) (olds us : List Value)
    (hf : (Builtin.firstCells te.size M (.slice B M D)).run P w.drew = .ok us.toArray w.drew) (hfo : (Builtin.firstCells te.size N (.slice A N C)).run P w.drew = .ok olds.toArray w.drew)
    (hN : olds.length = N * te.size) (hM : us.length = M * te.size) (hroom : C < N + M) (hsmall : N + M ≤ 1000000000000) :
    ∃ cap rest, N + M ≤ cap ∧ rest.length = (cap - (N + M)) * te.size ∧ (Builtin.append_ #[t, t'] ty #[.slice A N C, .slice B M D]).run P w =
      .ok (.slice (some ⟨w.heap.size, 0, none⟩) (N + M) cap) (w.drew.alloc (.cells (olds ++ us ++ rest).toArray e)) := by
  obtain ⟨i0, hi0, hsz, hbytes, zv, hzv, hds, hagg⟩ := (hT e te hte).info
  have hn : ¬ (N + M ≤ C) := by omega
  have h63' : ¬ (9223372036854775807 < ((N : Int) + (M : Int))) := by omega
  have h48' : ¬ (281474976710656 < Builtin.nextslicecap (N + M) C * i0.bytes) := by
    have := nextslicecap_le (N + M) C hroom
    have : Builtin.nextslicecap (N + M) C * i0.bytes ≤ (2 * (N + M) + 512) * 100 := Nat.mul_le_mul this (by omega)
    omega
  refine ⟨grownCap w (N + M) C e, (Builtin.zeroCells zv.cells (grownCap w (N + M) C e - (N + M))).toList, grownCap_ge w _ _ _, ?_, ?_⟩
  · simp [size_zeroCells, zsize hT hte hi0 hzv]
  · simp [Builtin.append_, run_underlying (desc_slice hT htt hkind), run_underlying (desc_slice hT htt' hkind'), sizeOf, typeInfo, zeroValue, hi0, hzv, Builtin.lenOf, hn, h63', h48', Question.forced, hsz, hf, hfo, newRow, grownCap, Result.andThen]
    unfold World.alloc World.drew
    congr 2
    congr 1
    apply Array.ext'
    simp

theorem app_room (hT : ∀ t tt, tab t = some tt → TtOk P t tt) {t t' e e' ty : TypeId} {tt tt' te : TT} (htt : tab t = some tt) (hkind : tt.kind = .slice e) (htt' : tab t' = some tt') (hkind' : tt'.kind = .slice e')
    (hte : tab e = some te) (A : Option Addr) (N C : Nat) (B : Option Addr) (M D : Nat) (us : List Value)
    (hf : (Builtin.firstCells te.size M (.slice B M D)).run P w = .ok us.toArray w) (hroom : N + M ≤ C) {w' : World} (hst : ∀ b, A = some b → (storeCells (b.add (N * te.size)) us).run P w = .ok () w') (hnone : A = none → w' = w) :
    (Builtin.append_ #[t, t'] ty #[.slice A N C, .slice B M D]).run P w = .ok (.slice A (N + M) C) w' := by
  obtain ⟨i0, hi0, hsz, hbytes, zv, hzv, hds, hagg⟩ := (hT e te hte).info
  cases A with
  | none =>
    rw [hnone rfl]
    simp [Builtin.append_, run_underlying (desc_slice hT htt hkind), run_underlying (desc_slice hT htt' hkind'), sizeOf, typeInfo, hi0, Builtin.lenOf, hroom, hsz, hf, Result.andThen]
  | some b =>
    have := hst b rfl
    simp [Builtin.append_, run_underlying (desc_slice hT htt hkind), run_underlying (desc_slice hT htt' hkind'), sizeOf, typeInfo, hi0, Builtin.lenOf, hroom, hsz, hf, this, Result.andThen]

/-- The cells of a chunk, from b on. -/
theorem cells_at (hm : MemSat w0 W m w) {d : Nat} {own : Own} {M : Loc} {ch : Chunk} (hd : lk m d = some (own, M, ch)) (b n : Nat) (hn : b + n ≤ ch.len) :
    ∃ us : List Value, us.length = n ∧ (∀ o, o < n → ∃ v, us[o]? = some v ∧ Den (ch.cell (b + o)) v) ∧ (∀ j v, us[j]? = some v → w.cell? ((M.ad b).add j) = some v) := by
  have hk := hm.chunk d _ hd
  obtain ⟨us, h1, h2, h3⟩ := cells_from (w := w) (L := M) ((List.range n).map fun o => ch.cell (b + o)) b n (fun j hj => by
    obtain ⟨v, hv, hdv⟩ := hk.cell (b + j) (by simp only; omega)
    exact ⟨v, hv, fun d hd => by simp [hj] at hd; rw [← hd]; exact hdv⟩) (by simp)
  refine ⟨us, h1, fun o ho => ?_, h2⟩
  obtain ⟨v, hv, hdv⟩ := h3.get (i := o) (c := ch.cell (b + o)) (by simp [ho])
  exact ⟨v, hv, hdv⟩

/-- The first elements of a slice that a chunk holds, from lo on. -/
theorem first_ok (hm : MemSat w0 W m w) {d : Nat} {own : Own} {M : Loc} {ch : Chunk} (hd : lk m d = some (own, M, ch)) {lo n S : Nat} (hn : (lo + n) * S ≤ ch.len) {B : Option Addr} {N D : Nat} (hB : n ≠ 0 → B = some (M.ad (lo * S))) :
    ∃ us : List Value, us.length = n * S ∧ (∀ o, o < n * S → ∃ v, us[o]? = some v ∧ Den (ch.cell (lo * S + o)) v) ∧ (Builtin.firstCells S n (.slice B N D)).run P w = .ok us.toArray w ∧ (Builtin.firstCells S n (.slice B N D)).run P w.drew = .ok us.toArray w.drew := by
  obtain ⟨us, h1, h2, h3⟩ := cells_at hm hd (lo * S) (n * S) (by rw [← Nat.add_mul]; exact hn)
  refine ⟨us, h1, h2, ?_⟩
  by_cases hz : n = 0
  · subst hz
    have : us = [] := by simpa using h1
    subst this
    cases B <;> simp [Builtin.firstCells, loadCells, loadCellsFrom]
  · rw [hB hz]
    exact ⟨run_firstCells_some w S n _ N D us h1 h3, run_firstCells_some w.drew S n _ N D us h1 (by simpa using h3)⟩

theorem cell_one {ch : Chunk} (hch : ∃ n, chLen ch = some n) {o : Nat} : size1 (ch.cell o) = true := by
  obtain ⟨n, hn⟩ := hch
  cases ch <;> simp [chLen] at hn <;> first | rfl | exact RC.size1 _

/-- Cells that no chunk of the list holds are written. -/
theorem storeBeyond {L : Loc} {E base : Nat} : ∀ (us : List Value) (i : Nat) (w : World), MemSat w0 W m w → Kept w0 W w → (∀ o, o < E → (w.cell? (L.ad o)).isSome = true ∧ w.frozen? (L.ad o) = false) →
    (∀ o, o < E → w0.heap.size ≤ (L.ad o).block ∨ W (L.ad o)) → (∀ d f, lk m d = some f → ∀ o, o < E → ¬ rf f (L.ad o)) → base + i + us.length ≤ E → (∀ v ∈ us, v.oneCell' = true) →
    ∃ w', (storeCells (L.ad base) us i).run P w = .ok () w' ∧ MemSat w0 W m w' ∧ Kept w0 W w' ∧ (∀ x, w'.frozen? x = w.frozen? x) ∧
      (∀ o, o < E → w'.cell? (L.ad o) = if base + i ≤ o ∧ o < base + i + us.length then us[o - (base + i)]? else w.cell? (L.ad o)) ∧ ∀ x, (∀ o, o < E → x ≠ L.ad o) → w'.cell? x = w.cell? x
  | [], i, w, hm, hk, _, _, _, _, _ => ⟨w, by simp [storeCells], hm, hk, fun _ => rfl, fun o _ => by simp; omega, fun _ _ => rfl⟩
  | v :: us, i, w, hm, hk, hc, hfr, hsep, hle, h1 => by
    simp only [List.length_cons] at hle
    have hlt : base + i < E := by omega
    obtain ⟨hs, hf⟩ := hc (base + i) hlt
    obtain ⟨u, hu⟩ := Option.isSome_iff_exists.1 hs
    have hst : (store (L.ad (base + i)) v).run P w = .ok () (w.setCell (L.ad (base + i)) v) := by
      rw [run_store P w _ _ _ (h1 v (by simp)), hu]; simp [hf]
    have hm1 : MemSat w0 W m (w.setCell (L.ad (base + i)) v) := by
      refine ⟨fun d f hd => (hm.chunk d f hd).keep (fun x hx => ?_) (fun x _ => by simp), hm.sep⟩
      exact World.cell?_setCell_other _ _ _ _ (fun e => hsep d f hd (base + i) hlt (e ▸ hx))
    have hk1 : Kept w0 W (w.setCell (L.ad (base + i)) v) := hk.trans (Kept.setCell w _ v rfl) (fun x hx hlt' => by
      subst hx
      rcases hfr _ hlt with h | h
      · simp [Loc.ad] at hlt' h; omega
      · exact h)
    have hcell1 : ∀ o, o ≠ base + i → (w.setCell (L.ad (base + i)) v).cell? (L.ad o) = w.cell? (L.ad o) := fun o ho =>
      World.cell?_setCell_other w (L.ad (base + i)) (L.ad o) v (fun e => ho (by have := congrArg Addr.off e; simp [Loc.ad] at this; omega))
    have hself : (w.setCell (L.ad (base + i)) v).cell? (L.ad (base + i)) = some v := World.cell?_setCell_same _ _ _ hu
    obtain ⟨w', g1, g2, g3, g4, g5, g6⟩ := storeBeyond (base := base) us (i + 1) _ hm1 hk1 (fun o ho => by
      by_cases e : o = base + i
      · subst e; rw [hself]; simpa using hf
      · rw [hcell1 o e]; simpa using hc o ho) hfr hsep (by omega) (fun x hx => h1 x (by simp [hx]))
    refine ⟨w', ?_, g2, g3, fun x => by rw [g4]; simp, fun o ho => ?_, fun x hx => ?_⟩
    · simp only [storeCells, Sem.run_bind]
      rw [ad_add, hst]
      exact g1
    · rw [g5 o ho]
      by_cases e : o = base + i
      · subst e
        rw [if_neg (by omega), if_pos ⟨by omega, by simp⟩, hself]
        simp
      · by_cases h : base + i ≤ o ∧ o < base + i + (us.length + 1)
        · rw [if_pos ⟨by omega, by omega⟩, if_pos (by simpa using h)]
          obtain ⟨q, hq⟩ : ∃ q, o - (base + i) = q + 1 := ⟨o - (base + i) - 1, by omega⟩
          rw [hq]
          rw [show o - (base + (i + 1)) = q by omega]
          simp
        · rw [if_neg (by omega), if_neg (by simpa using h), hcell1 o e]
    · rw [g6 x hx, World.cell?_setCell_other _ _ _ _ (fun e => hx _ hlt e.symm)]

theorem chLen_eq {ch : Chunk} {n : Int} (h : chLen ch = some n) : 0 ≤ n ∧ ch.len = n.toNat * chS ch ∧ (∀ o, size1 (ch.cell o) = true) ∧ (∀ L, ch.ext L = L.cap * chS ch) := by
  cases ch <;> simp only [chLen] at h <;> cases h
  · exact ⟨by omega, by simp [Chunk.len, chS], fun _ => rfl, fun L => by simp [Chunk.ext, chS]⟩
  · exact ⟨by omega, by simp [Chunk.len, chS], fun _ => rfl, fun L => by simp [Chunk.ext, chS]⟩
  · exact ⟨by omega, by simp [Chunk.len, chS], fun _ => RC.size1 _, fun L => rfl⟩

theorem rcAt_app {l l' : List (List RC)} {s o : Nat} (hs : 0 < s) : (o < l.length * s → rcAt (l ++ l') s o = rcAt l s o) ∧ rcAt (l ++ l') s (l.length * s + o) = rcAt l' s o := by
  refine ⟨fun ho => ?_, ?_⟩
  · have : o / s < l.length := Nat.div_lt_of_lt_mul (by rw [Nat.mul_comm]; exact ho)
    simp [rcAt, List.getD_eq_getElem?_getD, List.getElem?_append_left this]
  · have e1 : (l.length * s + o) / s = l.length + o / s := by rw [Nat.mul_comm, Nat.mul_add_div hs]
    have e2 : (l.length * s + o) % s = o % s := by rw [Nat.mul_comm, Nat.mul_add_mod]
    simp [rcAt, e1, e2, List.getD_eq_getElem?_getD, List.getElem?_append_right]

/-- What append puts together. n, n' : how many elements. -/
theorem appCh_spec {ch ch' r : Chunk} {L0 L0' : Loc} (f1 : ch.fits L0) (f2 : ch'.fits L0') {n n' : Int} (hn : chLen ch = some n) (hn' : chLen ch' = some n') (hs : chS ch = chS ch') (h : appCh ch ch' = some r) :
    r.len = ch.len + ch'.len ∧ (∀ o, o < ch.len → r.cell o = ch.cell o) ∧ (∀ o, o < ch'.len → r.cell (ch.len + o) = ch'.cell o) ∧ (∀ L, r.ext L = L.cap * chS ch) ∧
    (∀ L : Loc, n + n' ≤ L.cap → (L.nil = true → L.cap = 0) → r.fits L) ∧ (∀ L k xs, r.rows L k xs → ch.rows L k xs ∨ ch'.rows L k xs) ∧ (r.fr = true → ch.fr = true ∧ ch'.fr = true) := by
  have gI : ∀ (xs ys : List Int) (o : Nat), o < xs.length → (xs ++ ys).getD o 0 = xs.getD o 0 := fun xs ys o ho => by simp [List.getD_eq_getElem?_getD, List.getElem?_append_left ho]
  have gI2 : ∀ (xs ys : List Int) (o : Nat), (xs ++ ys).getD (xs.length + o) 0 = ys.getD o 0 := fun xs ys o => by simp [List.getD_eq_getElem?_getD, List.getElem?_append_right]
  have gB : ∀ (xs ys : List Bool) (o : Nat), o < xs.length → (xs ++ ys).getD o false = xs.getD o false := fun xs ys o ho => by simp [List.getD_eq_getElem?_getD, List.getElem?_append_left ho]
  have gB2 : ∀ (xs ys : List Bool) (o : Nat), (xs ++ ys).getD (xs.length + o) false = ys.getD o false := fun xs ys o => by simp [List.getD_eq_getElem?_getD, List.getElem?_append_right]
  unfold appCh at h
  split at h
  · rename_i k xs k' ys
    simp only [chLen] at hn hn'
    cases hn; cases hn'
    by_cases e : k = k'
    · subst e
      simp only [decide_true, cond_true] at h
      cases h
      exact ⟨by simp [Chunk.len], fun o ho => by simp only [Chunk.cell, gI xs ys o ho], fun o _ => by simp only [Chunk.cell, Chunk.len, gI2], fun _ => by simp [Chunk.ext, chS], fun L h1 h2 => ⟨by simp; omega, h2⟩, fun _ _ _ h => h.elim, fun _ => ⟨rfl, rfl⟩⟩
    · simp only [e, decide_false, cond_false] at h
      split at h
      · cases h
        exact ⟨by simp [Chunk.len], fun o ho => by simp [Chunk.len] at ho, fun o _ => by simp [Chunk.cell, Chunk.len], fun _ => by simp [Chunk.ext, chS], fun L h1 h2 => ⟨by simp at h1; omega, h2⟩, fun _ _ _ h => h.elim, fun _ => ⟨rfl, rfl⟩⟩
      · cases h
  · simp only [chLen] at hn hn'
    cases hn; cases hn'
    cases h
    exact ⟨by simp [Chunk.len], fun o ho => by simp [Chunk.len] at ho, fun o _ => by simp [Chunk.cell, Chunk.len], fun _ => by simp [Chunk.ext, chS], fun L h1 h2 => ⟨by simp at h1; omega, h2⟩, fun _ _ _ h => h.elim, fun _ => ⟨rfl, rfl⟩⟩
  · rename_i xs ys
    simp only [chLen] at hn hn'
    cases hn; cases hn'
    cases h
    exact ⟨by simp [Chunk.len], fun o ho => by simp only [Chunk.cell, gB xs ys o ho], fun o _ => by simp only [Chunk.cell, Chunk.len, gB2], fun _ => by simp [Chunk.ext, chS], fun L h1 h2 => ⟨by simp; omega, h2⟩, fun _ _ _ h => h.elim, fun _ => ⟨rfl, rfl⟩⟩
  · rename_i s fr z l s' fr' z' l'
    simp only [chLen] at hn hn'
    cases hn; cases hn'
    simp only [chS] at hs
    subst hs
    simp only [decide_true, cond_true] at h
    cases h
    obtain ⟨g1, g2, g3, g4⟩ := f1
    obtain ⟨k1, k2, k3, k4⟩ := f2
    refine ⟨by simp [Chunk.len, Nat.add_mul], fun o ho => ?_, fun o _ => ?_, fun _ => rfl, fun L h1 h2 => ⟨by simp; omega, h2, g3, fun r hr => ?_⟩, fun L k xs ⟨r, hr, hx⟩ => ?_, fun hh => by simpa [Chunk.fr] using hh⟩
    · simp only [Chunk.cell]; rw [(rcAt_app g3).1 ho]
    · simp only [Chunk.cell, Chunk.len]; rw [(rcAt_app g3).2]
    · rcases List.mem_append.1 hr with hr | hr
      · exact g4 r hr
      · exact k4 r hr
    · rcases List.mem_append.1 hr with hr | hr
      · exact .inl ⟨r, hr, hx⟩
      · exact .inr ⟨r, hr, hx⟩
  · cases h

end Go.Proofs.Ytnmbimhcfioeiaa.Xf
