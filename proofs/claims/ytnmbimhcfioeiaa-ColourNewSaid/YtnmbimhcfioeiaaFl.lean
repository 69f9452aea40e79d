import Derived.Test.YtnmbimhcfioeiaaFk
set_option linter.unusedVariables false
set_option linter.unusedSimpArgs false
/-! Xf, part l: the operation append. -/
namespace Go.Proofs.Ytnmbimhcfioeiaa.Xf
variable {P : Program} {sp : Sp} {spP : SpP} {no : Lim} {sl : List Ent} {m : Mem} {w0 w : World} {W : Addr → Prop} {a : Act} {tab : Tab} {isP : FuncId → Bool}

theorem appF_some {no : Lim} {look : Look} {u v : SV} {p : Prop} {n : Int} {f : Option Nat} {r : Chunk} (h : appF no look u v = some (p, n, f, r)) (hp : p) :
    ∃ (c : Nat) (L : Loc) (n0 : Int) (d : Nat) (M : Loc) (q : Int) (own' : Own) (ch' : Chunk), u = .sl c L 1 0 n0 ∧ v = .sl d M 1 0 q ∧ look d = some (own', M, ch') ∧ chLen ch' = some q ∧ n = n0 + q ∧
      n0 + q ≤ 1000000000000 ∧ ((L.nil = true ∧ n0 = 0 ∧ f = none ∧ r = ch') ∨ ∃ ch, look c = some (.mine, L, ch) ∧ chLen ch = some n0 ∧ appCh ch ch' = some r ∧ c ≠ d ∧ f = some c) := by
  unfold appF at h
  split at h
  case h_2 => cases h
  rename_i _ c L lo n0
  split at h
  case h_2 => cases h
  rename_i _ d M lo' q
  split at h
  case h_2 => cases h
  rename_i own' M' ch' hl
  split at h
  case h_2 => cases h
  rename_i q' hq'
  cases hc : (c == 4096) with
  | true =>
    rw [hc] at h
    simp only [cond_true] at h
    cases h
    obtain ⟨g1, rfl, rfl, rfl, rfl, rfl, g2⟩ := hp
    exact ⟨c, L, 0, d, M', _, own', r, rfl, rfl, lkN_some hl, hq', by omega, by omega, .inl ⟨g1, rfl, rfl, rfl⟩⟩
  | false =>
    rw [hc] at h
    simp only [cond_false] at h
    split at h
    case h_2 => cases h
    rename_i L' ch hl1
    split at h
    case h_2 => cases h
    rename_i n' r' hn' hr
    cases hcd : (c == d) with
    | true => rw [hcd] at h; simp at h
    | false =>
      rw [hcd] at h
      simp only [cond_false] at h
      cases h
      obtain ⟨rfl, rfl, rfl, rfl, rfl, rfl, g2⟩ := hp
      exact ⟨c, L', n0, d, M', _, own', ch', rfl, rfl, lkN_some hl, hq', rfl, g2, .inr ⟨ch, lkN_some hl1, hn', hr, by simpa using hcd, rfl⟩⟩

theorem done_app (hT : ∀ t tt, tab t = some tt → TtOk P t tt) (hs : SlotsOk sl a) (hm : MemSat w0 W m w) (hk : Kept w0 W w)
    {t t' e e' ty : TypeId} {tt tt' te : TT} (htt : tab t = some tt) (hkind : tt.kind = .slice e) (htt' : tab t' = some tt') (hkind' : tt'.kind = .slice e')
    (hte : tab e = some te) (h1 : te.size = 1) (hag : te.agg = false) (hby : te.bytes ≤ 100)
    {k : Nat} {X Y : Operand} {ax ay : Opd} (hax : opd X = some ax) (hay : opd Y = some ay)
    (hx : ∀ x, ∃ p v u, stepF sp spP no x sl (lk m) (.app k te.bytes ax ay) = some (p, v, u) ∧ p) :
    Done P sp spP no sl m w0 W (.app k te.bytes ax ay) ((do pure (Next.value (← Builtin.append_ #[t, t'] ty #[a.eval X, a.eval Y])) : Sem Next).run P w) := by
  obtain ⟨p, v, u, h, hp⟩ := hx (fun _ => default)
  simp only [stepF] at h
  obtain ⟨c0, s0, p0, e0, f0, rfl⟩ := o1_some h
  obtain ⟨c1, s1, p1, e1, f1, rfl⟩ := o1_some f0
  obtain ⟨hc0, hc1, hp1⟩ := hp
  subst hc0 hc1
  have hd0 := opd_den hax hs e0 rfl
  have hd1 := opd_den hay hs e1 rfl
  obtain ⟨p2, n, f, r, hF, hp2⟩ : ∃ p2 n f r, appF no (lk m) s0 s1 = some (p2, n, f, r) ∧ p2 := by
    split at f1
    · cases f1
    · rename_i hF; cases f1; exact ⟨_, _, _, _, hF, hp1⟩
    · rename_i hF; cases f1; exact ⟨_, _, _, _, hF, hp1⟩
  -- with the chunk anywhere
  have fin : ∀ (L : Loc) (rv : Value) (w' : World), (Builtin.append_ #[t, t'] ty #[a.eval X, a.eval Y]).run P w = .ok rv w' → Den (.sl k L 1 0 n) rv →
      MemSat w0 W (apU m (match f with | none => [(k, some (.mine, L, r))] | some c => [(c, none), (k, some (.mine, L, r))])) w' → Kept w0 W w' →
      Done P sp spP no sl m w0 W (.app k te.bytes ax ay) ((do pure (Next.value (← Builtin.append_ #[t, t'] ty #[a.eval X, a.eval Y])) : Sem Next).run P w) := by
    intro L rv w' hr hd hm' hk'
    refine ⟨fun _ => L, (true = true ∧ true = true ∧ p2), _, _, rv, w', ?_, ⟨rfl, rfl, hp2⟩, .inl ?_, hd, hm', hk'⟩
    · simp only [stepF, o1, e0, e1, hF]
      cases f <;> rfl
    · simp [hr, Result.andThen]
  obtain ⟨c, L, n0, d, M, q, own', ch', rfl, rfl, hld, hq, rfl, hsm, hcase⟩ := appF_some hF hp2
  simp only [Den] at hd0 hd1
  obtain ⟨_, n0n, nc, nz, A, hA, hAn, hA'⟩ := hd0
  obtain ⟨_, q0, qc, qz, B, hB, hBn, hB'⟩ := hd1
  have hq2 := chLen_eq hq
  simp only [Int.toNat_zero, Nat.sub_zero, Nat.zero_mul] at hA hA' hB hB'
  have hqn : ch'.len = q.toNat := by omega
  obtain ⟨us, u1, u2, u3, u4⟩ := first_ok (P := P) hm hld hqn (B := B) (D := M.cap) (fun hne => by
    have hb := hB' (by omega)
    rw [hb]
    cases hn : M.nil
    · simp
    · have := qz hn; omega)
  have hus1 : ∀ v ∈ us, v.oneCell' = true := by
    intro v hv
    obtain ⟨i, hi⟩ := List.getElem?_of_mem hv
    have hlt : i < q.toNat := by rw [← u1]; exact (List.getElem?_eq_some_iff.1 hi).1
    obtain ⟨v', hv', hd⟩ := u2 i hlt
    rw [hi] at hv'; cases hv'
    exact (hd.one (hq2.2 i)).1
  rw [hA, hB] at fin ⊢
  -- the growing case
  have grow : ∀ (olds : List Value) (hroom : L.cap < n0.toNat + q.toNat), olds.length = n0.toNat →
      (Builtin.firstCells 1 n0.toNat (.slice A n0.toNat L.cap)).run P w.drew = .ok olds.toArray w.drew →
      r.len = n0.toNat + q.toNat → (∀ L' : Loc, r.ext L' = L'.cap) → (∀ L' : Loc, n0.toNat + q.toNat ≤ L'.cap → L'.nil = false → r.fits L') →
      (∀ o, o < n0.toNat + q.toNat → ∃ v, (olds ++ us)[o]? = some v ∧ Den (r.cell o) v) →
      Done P sp spP no sl m w0 W (.app k te.bytes ax ay) ((do pure (Next.value (← Builtin.append_ #[t, t'] ty #[.slice A n0.toNat L.cap, .slice B q.toNat M.cap])) : Sem Next).run P w) := by
    intro olds hroom ho hfo hrl hre hrf hrc
    obtain ⟨cap, rest, g1, g2, g3⟩ := app_grow (ty := ty) hT htt hkind htt' hkind' hte h1 hag hby A n0.toNat L.cap B q.toNat M.cap olds us u4 hfo ho u1 hroom (by omega)
    have hm1 : MemSat w0 W (match f with | none => m | some c => st m c none) w.drew := by
      cases f with
      | none => exact hm.drew
      | some c => exact (hm.forget c).drew
    obtain ⟨hm', hk'⟩ := made_ok hm1 (hk.trans (Kept.drew w W) (fun _ h _ => h)) k (olds ++ us ++ rest).toArray e ⟨w.heap.size, 0, false, cap⟩ r rfl rfl
      (fun o ho' => by
        obtain ⟨v, hv, hd⟩ := hrc o (by omega)
        refine ⟨v, ?_, hd⟩
        have hlt : o < (olds ++ us).length := by simp; omega
        rw [List.getElem?_toArray, List.getElem?_append_left hlt]; exact hv)
      (by rw [hre]; simp; omega) (hrf _ (by simpa using g1) rfl)
    refine fin ⟨w.heap.size, 0, false, cap⟩ _ _ g3 ?_ ?_ hk'
    · simp only [Den]
      refine ⟨by omega, by omega, by simp; omega, by simp, some ⟨w.heap.size, 0, none⟩, ?_, by simp, fun _ => by simp [Loc.ad]⟩
      congr 1
      omega
    · cases f <;> simpa [apU] using hm'
  rcases hcase with ⟨hnil, rfl, rfl, rfl⟩ | ⟨ch, hlc, hn, hr, hcd, rfl⟩
  · -- the first operand is nil
    have hcap := nz hnil
    have hAnone : A = none := by rw [hnil] at hAn; cases A <;> simp at hAn ⊢
    subst hAnone
    have hspec : r.len = q.toNat ∧ (∀ L' : Loc, r.ext L' = L'.cap) ∧ ∀ L' : Loc, q.toNat ≤ L'.cap → (L'.nil = true → L'.cap = 0) → r.fits L' := by
      refine ⟨hqn, ?_⟩
      cases r with
      | ints k xs => exact ⟨fun _ => rfl, fun L' h2 h3 => ⟨by simp only [Chunk.len] at hqn; omega, h3⟩⟩
      | bools xs => exact ⟨fun _ => rfl, fun L' h2 h3 => ⟨by simp only [Chunk.len] at hqn; omega, h3⟩⟩
      | cells cs => simp [chLen] at hq
    rcases Nat.eq_zero_or_pos q.toNat with hz | hz
    · -- and nothing is put to it
      have hus : us = [] := by rw [hz] at u1; simpa using u1
      have hrun := app_room (ty := ty) (w' := w) hT htt hkind htt' hkind' hte h1 none 0 0 B q.toNat M.cap us u3 (by omega) (by simp) (fun _ => rfl)
      rw [show (0 : Int).toNat = 0 from rfl, hcap] at fin ⊢
      refine fin nilLoc _ _ hrun ?_ ?_ hk
      · simp only [Den]
        refine ⟨by omega, by omega, by simp [nilLoc]; omega, by simp [nilLoc], none, ?_, by simp [nilLoc], by simp [nilLoc]⟩
        simp [nilLoc]
        try omega
      · simp only [apU]
        refine hm.put k _ ⟨fun o ho => ?_, fun _ o ho => ?_, hspec.2.2 _ (by simp [nilLoc]; omega) (by simp [nilLoc]), fun _ ho => ?_, fun h => by cases h⟩ (fun d f _ _ _ => fun i hi => ?_)
        · simp only [hspec.1] at ho; omega
        · simp only [hspec.2.1, nilLoc] at ho; omega
        · simp only [hspec.2.1, nilLoc] at ho; omega
        · simp only [reg, hspec.2.1, nilLoc] at hi; omega
    · refine grow [] (by simp; omega) (by simp) ?_ (by simpa using hspec.1) hspec.2.1 (fun L' h2 h3 => hspec.2.2 L' (by simpa using h2) (by simp [h3])) (fun o ho => ?_)
      · simp [Builtin.firstCells]
      · simpa using u2 o (by simpa using ho)
  · have hn2 := chLen_eq hn
    have hnn : ch.len = n0.toNat := by omega
    have hck := hm.chunk c _ hlc
    obtain ⟨r1, r2, r3, r4, r5, r6⟩ := appCh_spec hr
    rcases Nat.lt_or_ge L.cap (n0.toNat + q.toNat) with hroom | hroom
    · obtain ⟨olds, o1', o2', o3', o4'⟩ := first_ok (P := P) hm hlc hnn (B := A) (D := L.cap) (fun hne => by
        have hb := hA' (by omega)
        rw [hb]
        cases hn : L.nil
        · simp
        · have := nz hn; omega)
      refine grow olds hroom o1' o4' (by omega) r4 (fun L' h2 h3 => r6 L' (by omega) (by simp [h3])) (fun o ho => ?_)
      rcases Nat.lt_or_ge o n0.toNat with h | h
      · obtain ⟨v, hv, hd⟩ := o2' o h
        exact ⟨v, by rw [List.getElem?_append_left (by omega)]; exact hv, by rw [r2 o (by omega)]; exact hd⟩
      · obtain ⟨v, hv, hd⟩ := u2 (o - n0.toNat) (by omega)
        refine ⟨v, by rw [List.getElem?_append_right (by omega), o1']; exact hv, ?_⟩
        have := r3 (o - n0.toNat) (by omega)
        rw [hnn, show n0.toNat + (o - n0.toNat) = o by omega] at this
        rw [this]; exact hd
    · -- there is room
      have hext : ch.ext L = L.cap := r5 L
      have hrest : MemSat w0 W (st m c none) w := hm.forget c
      have hsep : ∀ d f, lk (st m c none) d = some f → Sep L L.cap f.2.1 (reg f) := fun d f hd => by
        have hdc : c ≠ d := by
          rintro rfl
          rw [lk_st, if_pos ⟨rfl, lk_lt hlc⟩] at hd
          cases hd
        rw [lk_st_ne hdc] at hd
        have := hm.sep c d _ f hdc hlc hd (by simp)
        simpa [reg, hext] using this
      obtain ⟨w', g1, g2, g3, g4, g5⟩ := storeBeyond (P := P) (L := L) (E := L.cap) (base := n0.toNat) us 0 w hrest hk (fun o ho => by
          have := hck.mineW (by simp) o (by simpa [hext] using ho); exact this) (fun h => hck.fresh rfl (by simpa [hext] using h)) hsep (by omega) hus1
      have hbase : L.cap ≠ 0 → A = some (L.ad 0) := fun hne => by
        have hb := hA' hne
        rw [hb]
        cases hn : L.nil
        · simp
        · have := nz hn; omega
      by_cases hz : L.cap = 0
      · -- nothing at all
        have hus : us = [] := by have : us.length = 0 := by omega
                                 simpa using this
        subst hus
        have hw : w' = w := by simp [storeCells] at g1; exact g1.symm
        subst hw
        have hrun := app_room (ty := ty) (w' := w') hT htt hkind htt' hkind' hte h1 A n0.toNat L.cap B q.toNat M.cap [] u3 hroom (by simp [storeCells]) (fun _ => rfl)
        refine fin L _ _ hrun ?_ ?_ hk
        · simp only [Den]
          refine ⟨by omega, by omega, by omega, nz, A, ?_, hAn, by simpa using hA'⟩
          congr 1
          omega
        · simp only [apU]
          refine hrest.put k _ ⟨fun o ho => ?_, fun _ o ho => ?_, r6 L (by omega) nz, fun _ ho => ?_, fun h => by cases h⟩ (fun d f _ _ _ => fun i hi => ?_)
          · simp only [r1] at ho; omega
          · simp only [r4] at ho; omega
          · simp only [r4] at ho; omega
          · simp only [reg, r4] at hi; omega
      · have hA2 := hbase hz
        have hrun := app_room (ty := ty) (w' := w') hT htt hkind htt' hkind' hte h1 A n0.toNat L.cap B q.toNat M.cap us u3 hroom (fun b hb => by
          rw [hA2] at hb; cases hb
          rw [ad_add, Nat.zero_add]; exact g1) (fun h => by rw [hA2] at h; cases h)
        refine fin L _ _ hrun ?_ ?_ g3
        · simp only [Den]
          refine ⟨by omega, by omega, by omega, nz, A, ?_, hAn, by simpa using hA'⟩
          congr 1
          omega
        · simp only [apU]
          refine g2.put k _ ⟨fun o ho => ?_, fun _ o ho => ?_, r6 L (by omega) nz, fun _ _ => hck.fresh rfl (by simp only [hext]; omega), fun h => by cases h⟩ (fun d f hdk hd _ => ?_)
          · simp only [r1] at ho
            have hlt : o < L.cap := by omega
            simp only
            rw [g5 o hlt]
            by_cases h : o < n0.toNat
            · rw [if_neg (by omega), r2 o (by omega)]
              exact hck.cell o (by simp only; omega)
            · obtain ⟨v, hv, hd⟩ := u2 (o - n0.toNat) (by omega)
              rw [if_pos (by omega)]
              refine ⟨v, by simpa using hv, ?_⟩
              have := r3 (o - n0.toNat) (by omega)
              rw [hnn, show n0.toNat + (o - n0.toNat) = o by omega] at this
              rw [this]; exact hd
          · simp only [r4] at ho
            have := hck.mineW (by simp) o (by simpa [hext] using ho)
            simp only at this ⊢
            rw [g5 o ho, g4]
            refine ⟨?_, this.2⟩
            by_cases h : n0.toNat + 0 ≤ o ∧ o < n0.toNat + 0 + us.length
            · rw [if_pos h]
              have hlt : o - (n0.toNat + 0) < us.length := by omega
              rw [List.getElem?_eq_getElem hlt]; rfl
            · rw [if_neg h]; exact this.1
          · simpa [reg, r4] using hsep d f hd

end Go.Proofs.Ytnmbimhcfioeiaa.Xf
