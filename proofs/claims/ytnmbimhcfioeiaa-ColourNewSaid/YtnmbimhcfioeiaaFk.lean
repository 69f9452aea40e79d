import Derived.Test.YtnmbimhcfioeiaaFj
set_option linter.unusedVariables false
set_option linter.unusedSimpArgs false
/-! Xf, part k: append. -/
namespace Go.Proofs.Ytnmbimhcfioeiaa.Xf
variable {P : Program} {sp : Sp} {spP : SpP} {no : Lim} {sl : List Ent} {m : Mem} {w0 w : World} {W : Addr → Prop} {a : Act} {tab : Tab} {isP : FuncId → Bool}

theorem growBy_le (n : Nat) : ∀ (r c : Nat), c ≤ 2 * n + 200 → Builtin.growBy n r c ≤ 2 * n + 200
  | 0, c, h => h
  | r + 1, c, h => by
    simp only [Builtin.growBy]
    split
    · exact h
    · exact growBy_le n r _ (by omega)

theorem nextslicecap_le (need old : Nat) (h : old < need) : Builtin.nextslicecap need old ≤ 2 * need + 512 := by
  unfold Builtin.nextslicecap
  split
  · omega
  · split
    · omega
    · have := growBy_le need 4 old (by omega); omega

theorem app_grow (hT : ∀ t tt, tab t = some tt → TtOk P t tt) {t t' e e' ty : TypeId} {tt tt' te : TT} (htt : tab t = some tt) (hkind : tt.kind = .slice e) (htt' : tab t' = some tt') (hkind' : tt'.kind = .slice e')
    (hte : tab e = some te) (h1 : te.size = 1) (hag : te.agg = false) (hby : te.bytes ≤ 100) (A : Option Addr) (N C : Nat) (B : Option Addr) (M D : Nat) (olds us : List Value)
    (hf : (Builtin.firstCells 1 M (.slice B M D)).run P w.drew = .ok us.toArray w.drew) (hfo : (Builtin.firstCells 1 N (.slice A N C)).run P w.drew = .ok olds.toArray w.drew)
    (hN : olds.length = N) (hM : us.length = M) (hroom : C < N + M) (hsmall : N + M ≤ 1000000000000) :
    ∃ cap rest, N + M ≤ cap ∧ rest.length = cap - (N + M) ∧ (Builtin.append_ #[t, t'] ty #[.slice A N C, .slice B M D]).run P w =
      .ok (.slice (some ⟨w.heap.size, 0, none⟩) (N + M) cap) (w.drew.alloc (.cells (olds ++ us ++ rest).toArray e)) := by
  obtain ⟨i0, hi0, hsz, hbytes, zv, hzv, hds, hagg⟩ := (hT e te hte).info
  have hn : ¬ (N + M ≤ C) := by omega
  have h63' : ¬ (9223372036854775807 < ((N : Int) + (M : Int))) := by omega
  have h48' : ¬ (281474976710656 < Builtin.nextslicecap (N + M) C * i0.bytes) := by
    have := nextslicecap_le (N + M) C hroom
    have : Builtin.nextslicecap (N + M) C * i0.bytes ≤ (2 * (N + M) + 512) * 100 := Nat.mul_le_mul this (by omega)
    omega
  refine ⟨grownCap w (N + M) C e, (Builtin.zeroCells zv.cells (grownCap w (N + M) C e - (N + M))).toList, grownCap_ge w _ _ _, ?_, ?_⟩
  · have hz := hagg hag
    simp [size_zeroCells, hz]
  · simp [Builtin.append_, run_underlying (desc_slice hT htt hkind), run_underlying (desc_slice hT htt' hkind'), sizeOf, typeInfo, zeroValue, hi0, hzv, Builtin.lenOf, hn, h63', h48', Question.forced, hsz, h1, hf, hfo, newRow, grownCap, Result.andThen]
    unfold World.alloc World.drew
    congr 2
    congr 1
    apply Array.ext'
    simp

theorem app_room (hT : ∀ t tt, tab t = some tt → TtOk P t tt) {t t' e e' ty : TypeId} {tt tt' te : TT} (htt : tab t = some tt) (hkind : tt.kind = .slice e) (htt' : tab t' = some tt') (hkind' : tt'.kind = .slice e')
    (hte : tab e = some te) (h1 : te.size = 1) (A : Option Addr) (N C : Nat) (B : Option Addr) (M D : Nat) (us : List Value)
    (hf : (Builtin.firstCells 1 M (.slice B M D)).run P w = .ok us.toArray w) (hroom : N + M ≤ C) {w' : World} (hst : ∀ b, A = some b → (storeCells (b.add N) us).run P w = .ok () w') (hnone : A = none → w' = w) :
    (Builtin.append_ #[t, t'] ty #[.slice A N C, .slice B M D]).run P w = .ok (.slice A (N + M) C) w' := by
  obtain ⟨i0, hi0, hsz, hbytes, zv, hzv, hds, hagg⟩ := (hT e te hte).info
  cases A with
  | none =>
    rw [hnone rfl]
    simp [Builtin.append_, run_underlying (desc_slice hT htt hkind), run_underlying (desc_slice hT htt' hkind'), sizeOf, typeInfo, hi0, Builtin.lenOf, hroom, hsz, h1, hf, Result.andThen]
  | some b =>
    have := hst b rfl
    simp [Builtin.append_, run_underlying (desc_slice hT htt hkind), run_underlying (desc_slice hT htt' hkind'), sizeOf, typeInfo, hi0, Builtin.lenOf, hroom, hsz, h1, hf, this, Result.andThen]

/-- The first cells of a slice that a chunk holds. -/
theorem first_ok (hm : MemSat w0 W m w) {d : Nat} {own : Own} {M : Loc} {ch : Chunk} (hd : lk m d = some (own, M, ch)) {n : Nat} (hn : ch.len = n) {B : Option Addr} {D : Nat} (hB : n ≠ 0 → B = some (M.ad 0)) :
    ∃ us : List Value, us.length = n ∧ (∀ o, o < n → ∃ v, us[o]? = some v ∧ Den (ch.cell o) v) ∧ (Builtin.firstCells 1 n (.slice B n D)).run P w = .ok us.toArray w ∧ (Builtin.firstCells 1 n (.slice B n D)).run P w.drew = .ok us.toArray w.drew := by
  have hk := hm.chunk d _ hd
  have key : ∀ (j : Nat), j ≤ n → ∃ us : List Value, us.length = j ∧ ∀ o, o < j → ∃ v, us[o]? = some v ∧ Den (ch.cell o) v ∧ w.cell? (M.ad o) = some v := by
    intro j
    induction j with
    | zero => intro _; exact ⟨[], rfl, by simp⟩
    | succ j ih =>
      intro hj
      obtain ⟨us, h1, h2⟩ := ih (by omega)
      obtain ⟨v, hv, hdv⟩ := hk.cell j (by simp only [hn]; omega)
      refine ⟨us ++ [v], by simp [h1], fun o ho => ?_⟩
      rcases Nat.lt_or_ge o j with h | h
      · obtain ⟨v', a1, a2⟩ := h2 o h
        exact ⟨v', by rw [List.getElem?_append_left (by omega)]; exact a1, a2⟩
      · have : o = j := by omega
        subst this
        exact ⟨v, by rw [List.getElem?_append_right (by omega)]; simp [h1], hdv, hv⟩
  obtain ⟨us, h1, h2⟩ := key n (Nat.le_refl _)
  refine ⟨us, h1, fun o ho => ?_, ?_⟩
  · obtain ⟨v, a1, a2, _⟩ := h2 o ho; exact ⟨v, a1, a2⟩
  · by_cases hz : n = 0
    · subst hz
      have : us = [] := by simpa using h1
      subst this
      cases B <;> simp [Builtin.firstCells, loadCells, loadCellsFrom]
    · rw [hB hz]
      have hc : ∀ j v, us[j]? = some v → w.cell? ((M.ad 0).add j) = some v := by
        intro j v hj
        have hlt : j < n := by rw [← h1]; exact (List.getElem?_eq_some_iff.1 hj).1
        obtain ⟨v', a1, _, a3⟩ := h2 j hlt
        rw [hj] at a1; cases a1
        rw [ad_add]; simpa using a3
      exact ⟨run_firstCells_some w 1 n _ n D us (by omega) hc, run_firstCells_some w.drew 1 n _ n D us (by omega) (by simpa using hc)⟩

theorem cell_one {ch : Chunk} (hch : ∃ n, chLen ch = some n) {o : Nat} : size1 (ch.cell o) = true := by
  obtain ⟨n, hn⟩ := hch
  cases ch <;> simp [chLen] at hn <;> rfl

/-- Cells that no chunk of the list holds are written. -/
theorem storeBeyond {L : Loc} {E base : Nat} : ∀ (us : List Value) (i : Nat) (w : World), MemSat w0 W m w → Kept w0 W w → (∀ o, o < E → (w.cell? (L.ad o)).isSome = true ∧ w.frozen? (L.ad o) = false) →
    (0 < E → w0.heap.size ≤ L.b) → (∀ d f, lk m d = some f → Sep L E f.2.1 (reg f)) → base + i + us.length ≤ E → (∀ v ∈ us, v.oneCell' = true) →
    ∃ w', (storeCells (L.ad base) us i).run P w = .ok () w' ∧ MemSat w0 W m w' ∧ Kept w0 W w' ∧ (∀ x, w'.frozen? x = w.frozen? x) ∧
      ∀ o, o < E → w'.cell? (L.ad o) = if base + i ≤ o ∧ o < base + i + us.length then us[o - (base + i)]? else w.cell? (L.ad o)
  | [], i, w, hm, hk, _, _, _, _, _ => ⟨w, by simp [storeCells], hm, hk, fun _ => rfl, fun o _ => by simp; omega⟩
  | v :: us, i, w, hm, hk, hc, hfr, hsep, hle, h1 => by
    simp only [List.length_cons] at hle
    have hlt : base + i < E := by omega
    obtain ⟨hs, hf⟩ := hc (base + i) hlt
    obtain ⟨u, hu⟩ := Option.isSome_iff_exists.1 hs
    have hst : (store (L.ad (base + i)) v).run P w = .ok () (w.setCell (L.ad (base + i)) v) := by
      rw [run_store P w _ _ _ (h1 v (by simp)), hu]; simp [hf]
    have hm1 : MemSat w0 W m (w.setCell (L.ad (base + i)) v) := by
      refine ⟨fun d f hd => (hm.chunk d f hd).keep (fun o ho => ?_) (fun x _ => by simp), hm.sep⟩
      exact World.cell?_setCell_other _ _ _ _ (hsep d f hd (base + i) hlt o ho)
    have hk1 : Kept w0 W (w.setCell (L.ad (base + i)) v) := hk.trans (Kept.setCell w _ v rfl) (fun x hx hlt' => by
      subst hx
      have := hfr (by omega)
      simp [Loc.ad] at hlt'
      omega)
    have hcell1 : ∀ o, o ≠ base + i → (w.setCell (L.ad (base + i)) v).cell? (L.ad o) = w.cell? (L.ad o) := fun o ho =>
      World.cell?_setCell_other w (L.ad (base + i)) (L.ad o) v (fun e => ho (by have := congrArg Addr.off e; simp [Loc.ad] at this; omega))
    have hself : (w.setCell (L.ad (base + i)) v).cell? (L.ad (base + i)) = some v := World.cell?_setCell_same _ _ _ hu
    obtain ⟨w', g1, g2, g3, g4, g5⟩ := storeBeyond (base := base) us (i + 1) _ hm1 hk1 (fun o ho => by
      by_cases e : o = base + i
      · subst e; rw [hself]; simpa using hf
      · rw [hcell1 o e]; simpa using hc o ho) hfr hsep (by omega) (fun x hx => h1 x (by simp [hx]))
    refine ⟨w', ?_, g2, g3, fun x => by rw [g4]; simp, fun o ho => ?_⟩
    · simp only [storeCells, Sem.run_bind]
      rw [ad_add, hst]
      exact g1
    · rw [g5 o ho]
      by_cases e : o = base + i
      · subst e
        rw [if_neg (by omega), if_pos ⟨by omega, by simp⟩, hself]
        simp
      · by_cases h : base + i ≤ o ∧ o < base + i + (us.length + 1)
        · rw [if_pos ⟨by omega, by omega⟩, if_pos (by simpa using h)]
          obtain ⟨q, hq⟩ : ∃ q, o - (base + i) = q + 1 := ⟨o - (base + i) - 1, by omega⟩
          rw [hq]
          rw [show o - (base + (i + 1)) = q by omega]
          simp
        · rw [if_neg (by omega), if_neg (by simpa using h), hcell1 o e]

theorem appCh_spec {ch ch' r : Chunk} (h : appCh ch ch' = some r) : r.len = ch.len + ch'.len ∧ (∀ o, o < ch.len → r.cell o = ch.cell o) ∧ (∀ o, o < ch'.len → r.cell (ch.len + o) = ch'.cell o) ∧
    (∀ L, r.ext L = L.cap) ∧ (∀ L, ch.ext L = L.cap) ∧ ∀ L : Loc, ch.len + ch'.len ≤ L.cap → (L.nil = true → L.cap = 0) → r.fits L := by
  have gI : ∀ (xs ys : List Int) (o : Nat), o < xs.length → (xs ++ ys).getD o 0 = xs.getD o 0 := fun xs ys o ho => by simp [List.getD_eq_getElem?_getD, List.getElem?_append_left ho]
  have gI2 : ∀ (xs ys : List Int) (o : Nat), (xs ++ ys).getD (xs.length + o) 0 = ys.getD o 0 := fun xs ys o => by simp [List.getD_eq_getElem?_getD, List.getElem?_append_right]
  have gB : ∀ (xs ys : List Bool) (o : Nat), o < xs.length → (xs ++ ys).getD o false = xs.getD o false := fun xs ys o ho => by simp [List.getD_eq_getElem?_getD, List.getElem?_append_left ho]
  have gB2 : ∀ (xs ys : List Bool) (o : Nat), (xs ++ ys).getD (xs.length + o) false = ys.getD o false := fun xs ys o => by simp [List.getD_eq_getElem?_getD, List.getElem?_append_right]
  unfold appCh at h
  split at h
  · rename_i k xs k' ys
    by_cases e : k = k'
    · subst e
      simp only [decide_true, cond_true] at h
      cases h
      exact ⟨by simp [Chunk.len], fun o ho => by simp only [Chunk.cell, gI xs ys o ho], fun o _ => by simp only [Chunk.cell, Chunk.len, gI2], fun _ => rfl, fun _ => rfl, fun L h1 h2 => ⟨by simpa [Chunk.len] using h1, h2⟩⟩
    · simp only [e, decide_false, cond_false] at h
      split at h
      · cases h
        exact ⟨by simp [Chunk.len], fun o ho => by simp [Chunk.len] at ho, fun o _ => by simp [Chunk.cell, Chunk.len], fun _ => rfl, fun _ => rfl, fun L h1 h2 => ⟨by simpa [Chunk.len] using h1, h2⟩⟩
      · cases h
  · cases h
    exact ⟨by simp [Chunk.len], fun o ho => by simp [Chunk.len] at ho, fun o _ => by simp [Chunk.cell, Chunk.len], fun _ => rfl, fun _ => rfl, fun L h1 h2 => ⟨by simpa [Chunk.len] using h1, h2⟩⟩
  · rename_i xs ys
    cases h
    exact ⟨by simp [Chunk.len], fun o ho => by simp only [Chunk.cell, gB xs ys o ho], fun o _ => by simp only [Chunk.cell, Chunk.len, gB2], fun _ => rfl, fun _ => rfl, fun L h1 h2 => ⟨by simpa [Chunk.len] using h1, h2⟩⟩
  · cases h

theorem chLen_eq {ch : Chunk} {n : Int} (h : chLen ch = some n) : n = ch.len ∧ ∀ o, size1 (ch.cell o) = true := by
  cases ch <;> simp [chLen] at h <;> exact ⟨h.symm, fun _ => rfl⟩

end Go.Proofs.Ytnmbimhcfioeiaa.Xf
