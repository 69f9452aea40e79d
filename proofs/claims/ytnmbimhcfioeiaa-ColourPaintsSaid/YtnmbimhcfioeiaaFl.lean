import Derived.Test.YtnmbimhcfioeiaaFk
set_option linter.unusedVariables false
set_option linter.unusedSimpArgs false
/-! Xf, part l: the operation append. -/
namespace Go.Proofs.Ytnmbimhcfioeiaa.Xf
variable {P : Program} {sp : Sp} {spP : SpP} {no : Lim} {sl : List Ent} {m : Mem} {w0 w : World} {W : Addr → Prop} {a : Act} {tab : Tab} {isP : FuncId → Bool}

theorem appF_some {es : Nat} {no : Lim} {look : Look} {u v : SV} {p : Prop} {n : Int} {f : Option (Nat × Own)} {r : Chunk} (h : appF es no look u v = some (p, n, f, r)) (hp : p) :
    ∃ (c : Nat) (L : Loc) (s : Nat) (n0 : Int) (d : Nat) (M : Loc) (s' : Nat) (q : Int) (own' : Own) (ch' : Chunk), u = .sl c L s 0 n0 ∧ v = .sl d M s' 0 q ∧ look d = some (own', M, ch') ∧ chLen ch' = some q ∧ chS ch' = es ∧ n = n0 + q ∧
      n0 + q ≤ 1000000000000 ∧ ((L.nil = true ∧ n0 = 0 ∧ f = none ∧ r = ch') ∨ ∃ own ch, own.wr = true ∧ look c = some (own, L, ch) ∧ chLen ch = some n0 ∧ chS ch = es ∧ appCh ch ch' = some r ∧ c ≠ d ∧ f = some (c, appO own)) := by
  unfold appF at h
  split at h
  case h_2 => cases h
  rename_i _ c L s lo n0
  split at h
  case h_2 => cases h
  rename_i _ d M s' lo' q
  split at h
  case h_2 => cases h
  rename_i own' M' ch' hl
  split at h
  case h_2 => cases h
  rename_i q' hq'
  by_cases hes : chS ch' = es
  case neg => simp [hes] at h
  simp only [hes, decide_true, cond_true] at h
  cases hc : (c == 4096) with
  | true =>
    rw [hc] at h
    simp only [cond_true] at h
    cases h
    obtain ⟨g1, rfl, rfl, rfl, rfl, rfl, g2⟩ := hp
    exact ⟨c, L, s, 0, d, M', s', _, own', r, rfl, rfl, lkN_some hl, hq', hes, by omega, by omega, .inl ⟨g1, rfl, rfl, rfl⟩⟩
  | false =>
    rw [hc] at h
    simp only [cond_false] at h
    split at h
    case h_2 => cases h
    rename_i own L' ch hl1
    cases hn' : chLen ch with
    | none => rw [hn'] at h; cases h
    | some n' =>
      cases hr : appCh ch ch' with
      | none => rw [hn', hr] at h; cases h
      | some r' =>
        cases hro : own.wr with
        | false => rw [hn', hr, hro] at h; cases h
        | true =>
          rw [hn', hr, hro] at h
          simp only at h
          by_cases hes1 : chS ch = es
          case neg => simp [hes1] at h
          cases hcd : (c == d) with
          | true => rw [hcd] at h; simp at h
          | false =>
            rw [hcd] at h
            simp only [hes1, decide_true, Bool.not_true, Bool.or_self, cond_false] at h
            cases h
            obtain ⟨rfl, rfl, rfl, rfl, rfl, rfl, g2⟩ := hp
            exact ⟨c, L', s, n0, d, M', s', _, own', ch', rfl, rfl, lkN_some hl, hq', hes, rfl, g2, .inr ⟨own, ch, hro, lkN_some hl1, hn', hes1, hr, by simpa using hcd, rfl⟩⟩

/-- What append turns of memory. -/
def appU (k : Nat) (L : Loc) (ch : Chunk) : Option (Nat × Own) → Upd
  | none => [(k, some (.mine, L, ch))]
  | some (c, own) => [(c, none), (k, some (own, L, ch))]

theorem done_app (hT : ∀ t tt, tab t = some tt → TtOk P t tt) (hs : SlotsOk sl a) (hm : MemSat w0 W m w) (hk : Kept w0 W w)
    {t t' e e' ty : TypeId} {tt tt' te : TT} (htt : tab t = some tt) (hkind : tt.kind = .slice e) (htt' : tab t' = some tt') (hkind' : tt'.kind = .slice e')
    (hte : tab e = some te) (h1 : 0 < te.size) (hby : te.bytes ≤ 100)
    {k : Nat} {X Y : Operand} {ax ay : Opd} (hax : opd X = some ax) (hay : opd Y = some ay)
    (hx : ∀ x, ∃ p v u, stepF sp spP no x sl (lk m) (.app k te.size te.bytes ax ay) = some (p, v, u) ∧ p) :
    Done P sp spP no sl m w0 W (.app k te.size te.bytes ax ay) ((do pure (Next.value (← Builtin.append_ #[t, t'] ty #[a.eval X, a.eval Y])) : Sem Next).run P w) := by
  obtain ⟨p, v, u, h, hp⟩ := hx (fun _ => default)
  simp only [stepF] at h
  obtain ⟨c0, s0, p0, e0, f0, rfl⟩ := o1_some h
  obtain ⟨c1, s1, p1, e1, f1, rfl⟩ := o1_some f0
  obtain ⟨hc0, hc1, hp1⟩ := hp
  subst hc0 hc1
  have hd0 := opd_den hax hs e0 rfl
  have hd1 := opd_den hay hs e1 rfl
  obtain ⟨p2, n, f, r, hF, hp2⟩ : ∃ p2 n f r, appF te.size no (lk m) s0 s1 = some (p2, n, f, r) ∧ p2 := by
    split at f1
    · cases f1
    · rename_i hF; cases f1; exact ⟨_, _, _, _, hF, hp1⟩
    · rename_i hF; cases f1; exact ⟨_, _, _, _, hF, hp1⟩
  -- with the chunk anywhere
  have fin : ∀ (L : Loc) (rv : Value) (w' : World), (Builtin.append_ #[t, t'] ty #[a.eval X, a.eval Y]).run P w = .ok rv w' → Den (.sl k L te.size 0 n) rv →
      MemSat w0 W (apU m (appU k L r f)) w' → Kept w0 W w' →
      Done P sp spP no sl m w0 W (.app k te.size te.bytes ax ay) ((do pure (Next.value (← Builtin.append_ #[t, t'] ty #[a.eval X, a.eval Y])) : Sem Next).run P w) := by
    intro L rv w' hr hd hm' hk'
    refine ⟨fun _ => L, (true = true ∧ true = true ∧ p2), _, _, rv, w', ?_, ⟨rfl, rfl, hp2⟩, .inl ?_, hd, hm', hk'⟩
    · simp only [stepF, o1, e0, e1, hF]
      cases f with
      | none => rfl
      | some f => rfl
    · simp [hr, Result.andThen]
  obtain ⟨c, L, sc, n0, d, M, sd, q, own', ch', rfl, rfl, hld, hq, hes, rfl, hsm, hcase⟩ := appF_some hF hp2
  simp only [Den] at hd0 hd1
  obtain ⟨_, n0n, nc, nz, A, hA, hAn, hA'⟩ := hd0
  obtain ⟨_, q0, qc, qz, B, hB, hBn, hB'⟩ := hd1
  obtain ⟨qn, q1, q2, q3⟩ := chLen_eq hq
  simp only [Int.toNat_zero, Nat.sub_zero, Nat.zero_mul] at hA hA' hB hB'
  rw [hes] at q1 q3
  have hfit' : ch'.fits M := (hm.chunk d _ hld).fits
  obtain ⟨N, rfl⟩ : ∃ N : Nat, n0 = (N : Int) := ⟨n0.toNat, by omega⟩
  obtain ⟨Q, rfl⟩ : ∃ Q : Nat, q = (Q : Int) := ⟨q.toNat, by omega⟩
  simp only [Int.toNat_natCast] at hA hB q1
  obtain ⟨us, u1, u2, u3, u4⟩ := first_ok (P := P) hm hld (lo := 0) (n := Q) (S := te.size) (by simp [q1]) (B := B) (N := Q) (D := M.cap) (fun hne => by
    have hb := hB' (by omega)
    rw [hb]
    cases hn : M.nil
    · simp
    · have := qz hn; omega)
  simp only [Nat.zero_mul, Nat.zero_add] at u2
  have hus1 : ∀ v ∈ us, v.oneCell' = true := by
    intro v hv
    obtain ⟨i, hi⟩ := List.getElem?_of_mem hv
    have hlt : i < Q * te.size := by rw [← u1]; exact (List.getElem?_eq_some_iff.1 hi).1
    obtain ⟨v', hv', hd⟩ := u2 i hlt
    rw [hi] at hv'; cases hv'
    exact (hd.one (q2 i)).1
  rw [hA, hB] at fin ⊢
  -- the growing case
  have grow : ∀ (olds : List Value) (hroom : L.cap < N + Q), olds.length = N * te.size →
      (Builtin.firstCells te.size N (.slice A N L.cap)).run P w.drew = .ok olds.toArray w.drew →
      r.len = (N + Q) * te.size → (∀ L' : Loc, r.ext L' = L'.cap * te.size) → (∀ L' : Loc, N + Q ≤ L'.cap → L'.nil = false → r.fits L') →
      (∀ o, o < (N + Q) * te.size → ∃ v, (olds ++ us)[o]? = some v ∧ Den (r.cell o) v) → (∀ L' k xs, r.rows L' k xs → Shown w0 r.fr m w L' k xs) →
      Done P sp spP no sl m w0 W (.app k te.size te.bytes ax ay) ((do pure (Next.value (← Builtin.append_ #[t, t'] ty #[.slice A N L.cap, .slice B Q M.cap])) : Sem Next).run P w) := by
    intro olds hroom ho hfo hrl hre hrf hrc hrr
    obtain ⟨cap, rest, g1, g2, g3⟩ := app_grow (ty := ty) hT htt hkind htt' hkind' hte h1 hby A N L.cap B Q M.cap olds us u4 hfo ho u1 hroom (by omega)
    obtain ⟨m1, hm1, hsh, hend⟩ : ∃ m1, MemSat w0 W m1 w.drew ∧ (∀ L' k xs, r.rows L' k xs → Shown w0 r.fr m1 w.drew L' k xs) ∧ ∀ (L : Loc) (w' : World), MemSat w0 W (st m1 k (some (.mine, L, r))) w' → MemSat w0 W (apU m (appU k L r f)) w' := by
      cases f with
      | none =>
        refine ⟨m, hm.drew, fun L' kk xs hx => ?_, fun L w' h => h⟩
        have s1 := hrr L' kk xs hx
        exact ⟨s1.cap, s1.nil, fun o ho => by simpa using s1.cell o ho, s1.far, s1.fresh⟩
      | some f =>
        obtain ⟨c, own⟩ := f
        refine ⟨st m c none, (hm.forget c).drew, fun L' kk xs hx => ?_, fun L w' h => ?_⟩
        · have s1 := hrr L' kk xs hx
          refine ⟨s1.cap, s1.nil, fun o ho => by simpa using s1.cell o ho, fun d f' hf o ho => ?_, s1.fresh⟩
          rw [lk_st] at hf
          split at hf
          · cases hf
          · exact s1.far d f' hf o ho
        · have hown : own = .mine ∨ own = .got := by
            rcases hcase with ⟨_, _, h, _⟩ | ⟨own0, _, hw, _, _, _, _, _, h⟩
            · cases h
            · cases h
              cases own0 <;> simp [appO] at hw ⊢ <;> first | (cases hw; done) | skip
          rcases hown with rfl | rfl
          · exact h
          · simp only [appU, apU]
            by_cases hk' : k < (st m c none).length
            · have hl : lk (st (st m c none) k (some (.mine, L, r))) k = some (.mine, L, r) := by rw [lk_st, if_pos ⟨rfl, hk'⟩]
              have hck := h.chunk k _ hl
              have := h.turn hl (e' := (.got, L, r)) ⟨hck.cell, hck.row, hck.self, hck.mineW, hck.fits, fun o ho => .inl (hck.home o ho)⟩ (fun _ h => h) (fun _ h => h)
              rwa [st_st] at this
            · have e : ∀ x, st (st m c none) k x = st m c none := fun x => by
                have : ∀ (l : Mem) (n : Nat), l.length ≤ n → st l n x = l := by
                  intro l
                  induction l with
                  | nil => intro n _; simp [st]
                  | cons a l ih => intro n hn; cases n with
                    | zero => simp at hn
                    | succ n => simp [st]; exact ih n (by simpa using hn)
                exact this _ _ (by omega)
              rw [e] at h ⊢; exact h
    have hlen : (olds ++ us).length = (N + Q) * te.size := by simp [ho, u1, Nat.add_mul]
    have hcap : (N + Q) * te.size + (cap - (N + Q)) * te.size = cap * te.size := by rw [← Nat.add_mul]; congr 1; omega
    obtain ⟨hm', hk'⟩ := made_ok hm1 (hk.trans (Kept.drew w W) (fun _ h _ => h)) k (olds ++ us ++ rest).toArray e ⟨w.heap.size, 0, false, cap⟩ r rfl rfl
      (fun o ho' => by
        obtain ⟨v, hv, hd⟩ := hrc o (by omega)
        refine ⟨v, ?_, hd⟩
        have hlt : o < (olds ++ us).length := by omega
        rw [List.getElem?_toArray, List.getElem?_append_left hlt]; exact hv)
      (by
        have e1 : (olds ++ us ++ rest).toArray.size = (olds ++ us).length + rest.length := by simp [Nat.add_assoc]
        rw [hre, e1, hlen, g2]; simp only; omega) (hrf _ (by simpa using g1) rfl) hsh
    refine fin ⟨w.heap.size, 0, false, cap⟩ _ _ g3 ?_ ?_ hk'
    · simp only [Den]
      refine ⟨by omega, by omega, by simp; omega, by simp, some ⟨w.heap.size, 0, none⟩, ?_, by simp, fun _ => by simp [Loc.ad]⟩
      congr 1 <;> omega
    · exact hend _ _ hm'
  rcases hcase with ⟨hnil, hN0, rfl, rfl⟩ | ⟨own, ch, hown, hlc, hn, hes0, hr, hcd, rfl⟩
  · -- the first operand is nil
    obtain rfl : N = 0 := by omega
    have hcap := nz hnil
    have hAnone : A = none := by rw [hnil] at hAn; cases A <;> simp at hAn ⊢
    subst hAnone
    have hfits : ∀ L' : Loc, Q ≤ L'.cap → (L'.nil = true → L'.cap = 0) → r.fits L' := by
      intro L' h2 h3
      cases r with
      | ints k xs => simp only [chLen] at hq; cases hq; exact ⟨by omega, h3⟩
      | bools xs => simp only [chLen] at hq; cases hq; exact ⟨by omega, h3⟩
      | cells cs => simp [chLen] at hq
      | recs s fr z l => simp only [chLen] at hq; cases hq; exact ⟨by omega, h3, hfit'.2.2⟩
    rcases Nat.eq_zero_or_pos Q with hz | hz
    · -- and nothing is put to it
      have hus : us = [] := by rw [hz] at u1; simpa using u1
      have hrun := app_room (ty := ty) (w' := w) hT htt hkind htt' hkind' hte none 0 0 B Q M.cap us u3 (by omega) (by simp) (fun _ => rfl)
      rw [hcap] at fin ⊢
      refine fin nilLoc _ _ hrun ?_ ?_ hk
      · simp only [Den]
        refine ⟨by omega, by omega, by simp [nilLoc0]; omega, by simp [nilLoc0], none, ?_, by simp [nilLoc0], by simp [nilLoc0]⟩
        simp [nilLoc0]
        try omega
      · simp only [appU, apU]
        have e0 : r.ext nilLoc = 0 := by rw [q3]; simp [nilLoc0]
        have nrow : ∀ L' k xs, ¬ r.rows L' k xs := by
          intro L' kk xs hx
          cases r <;> try exact hx
          rename_i s fr z l
          simp only [chLen] at hq; cases hq
          obtain ⟨rr, hr, _⟩ := hx
          have : l = [] := by cases l <;> simp at hz ⊢
          subst this; simp at hr
        refine hm.put k _ ⟨fun o ho => ?_, fun _ _ _ hx => (nrow _ _ _ hx).elim, fun a ⟨_, o, ho, _⟩ => ?_, fun _ o ho => ?_, hfits _ (by simp [nilLoc0]; omega) (by simp [nilLoc0]), fun o ho => ?_⟩ (fun d f _ _ a => ⟨fun ⟨_, o, ho, _⟩ => ?_, fun _ hra => ?_⟩)
        · simp only [q1, hz] at ho; omega
        · simp only [e0] at ho; omega
        · simp only [e0] at ho; omega
        · simp only [reg, Own.wr, cond_true, e0] at ho; omega
        · simp only [e0] at ho; omega
        · rcases hra with ⟨o, ho, _⟩ | ⟨_, _, _, hx, _⟩
          · simp only [reg, Own.wr, cond_true, e0] at ho; omega
          · exact nrow _ _ _ hx
    · refine grow [] (by simp; omega) (by simp) ?_ (by simpa using q1) q3 (fun L' h2 h3 => hfits L' (by simpa using h2) (by simp [h3])) (fun o ho => ?_) (fun L' kk xs hx => shown_row hm hld hx)
      · simp [Builtin.firstCells]
      · simpa using u2 o (by simpa using ho)
  · obtain ⟨p0, p1, p2, p3⟩ := chLen_eq hn
    rw [hes0] at p1 p3
    simp only [Int.toNat_natCast] at p1
    have hck := hm.chunk c _ hlc
    obtain ⟨r1, r2, r3, r4, r6, r7, r8⟩ := appCh_spec (show ch.fits L from hck.fits) hfit' hn hq (by rw [hes0, hes]) hr
    rw [hes0] at r4
    have hrl : r.len = (N + Q) * te.size := by rw [r1, p1, q1, Nat.add_mul]
    have hshown : ∀ L' kk xs, r.rows L' kk xs → Shown w0 r.fr m w L' kk xs := fun L' kk xs hx => by
      rcases r7 _ _ _ hx with h | h
      · exact (shown_row hm hlc h).le fun hh => (r8 hh).1
      · exact (shown_row hm hld h).le fun hh => (r8 hh).2
    rcases Nat.lt_or_ge L.cap (N + Q) with hroom | hroom
    · obtain ⟨olds, o1', o2', o3', o4'⟩ := first_ok (P := P) hm hlc (lo := 0) (n := N) (S := te.size) (by simp [p1]) (B := A) (N := N) (D := L.cap) (fun hne => by
        have hb := hA' (by omega)
        rw [hb]
        cases hn : L.nil
        · simp
        · have := nz hn; omega)
      simp only [Nat.zero_mul, Nat.zero_add] at o2'
      refine grow olds hroom o1' o4' hrl r4 (fun L' h2 h3 => r6 L' (by omega) (by simp [h3])) (fun o ho => ?_) hshown
      rcases Nat.lt_or_ge o (N * te.size) with h | h
      · obtain ⟨v, hv, hd⟩ := o2' o h
        exact ⟨v, by rw [List.getElem?_append_left (by omega)]; exact hv, by rw [r2 o (by omega)]; exact hd⟩
      · rw [Nat.add_mul] at ho
        obtain ⟨v, hv, hd⟩ := u2 (o - N * te.size) (by omega)
        refine ⟨v, by rw [List.getElem?_append_right (by omega), o1']; exact hv, ?_⟩
        have := r3 (o - N * te.size) (by omega)
        rw [p1, show N * te.size + (o - N * te.size) = o by omega] at this
        rw [this]; exact hd
    · -- there is room
      have hext : ch.ext L = L.cap * te.size := p3 L
      have hrest : MemSat w0 W (st m c none) w := hm.forget c
      have hcapE : (N + Q) * te.size ≤ L.cap * te.size := Nat.mul_le_mul_right _ hroom
      rw [Nat.add_mul] at hcapE
      have hsep : ∀ d f, lk (st m c none) d = some f → ∀ o, o < L.cap * te.size → ¬ rf f (L.ad o) := fun d f hd o ho => by
        have hdc : c ≠ d := by
          rintro rfl
          rw [lk_st, if_pos ⟨rfl, lk_lt hlc⟩] at hd
          cases hd
        rw [lk_st_ne hdc] at hd
        exact hm.sep c d _ f hdc hlc hd _ ⟨hown, o, by rw [hext]; exact ho, rfl⟩
      have hfr : ∀ o, o < L.cap * te.size → w0.heap.size ≤ (L.ad o).block ∨ W (L.ad o) := fun o ho => (hck.home o (by rw [reg_eq hown, hext]; exact ho)).got hown
      obtain ⟨w', g1, g2, g3, g4, g5, g6⟩ := storeBeyond (P := P) (L := L) (E := L.cap * te.size) (base := N * te.size) us 0 w hrest hk (fun o ho => hck.mineW hown o (by rw [hext]; exact ho)) hfr hsep (by omega) hus1
      have hbase : L.cap ≠ 0 → A = some (L.ad 0) := fun hne => by
        have hb := hA' hne
        rw [hb]
        cases hn : L.nil
        · simp
        · have := nz hn; omega
      -- the rows stand as they did
      have hsh' : ∀ L' kk xs, r.rows L' kk xs → Shown w0 r.fr (st m c none) w' L' kk xs := fun L' kk xs hx => by
        have s1 := hshown L' kk xs hx
        refine ⟨s1.cap, s1.nil, fun o ho => ?_, fun d f hf o ho => ?_, s1.fresh⟩
        · rw [g6 _ (fun o' ho' e => s1.far c _ hlc o ho ⟨hown, o', by rw [hext]; exact ho', e⟩)]
          exact s1.cell o ho
        · rw [lk_st] at hf
          split at hf
          · cases hf
          · exact s1.far d f hf o ho
      have hwr : (appO own).wr = true := by cases own <;> first | rfl | cases hown
      have hput : MemSat w0 W (st (st m c none) k (some (appO own, L, r))) w' := by
        refine g2.put k _ ⟨fun o ho => ?_, fun L' kk xs hx => ⟨(hsh' _ _ _ hx).cap, (hsh' _ _ _ hx).nil, (hsh' _ _ _ hx).cell, (hsh' _ _ _ hx).fresh⟩, fun a ⟨_, o, ho, e⟩ ⟨L', kk, xs, hx, i, hi, e'⟩ => ?_, fun _ o ho => ?_, r6 L (by omega) nz, fun o ho => ?_⟩ (fun d f hdk hd a => ⟨fun ⟨_, o, ho, e⟩ hra => ?_, fun ha hra => ?_⟩)
        · simp only [hrl] at ho
          rw [Nat.add_mul] at ho
          have hlt : o < L.cap * te.size := by omega
          simp only
          rw [g5 o hlt]
          by_cases h : o < N * te.size
          · rw [if_neg (by omega), r2 o (by omega)]
            exact hck.cell o (by simp only; omega)
          · obtain ⟨v, hv, hd⟩ := u2 (o - N * te.size) (by omega)
            rw [if_pos (by omega)]
            refine ⟨v, by simpa using hv, ?_⟩
            have := r3 (o - N * te.size) (by omega)
            rw [p1, show N * te.size + (o - N * te.size) = o by omega] at this
            rw [this]; exact hd
        · simp only [r4] at ho
          exact (hshown _ _ _ hx).far c _ hlc i hi ⟨hown, o, by rw [hext]; exact ho, by rw [← e', e]⟩
        · simp only [r4] at ho
          have := hck.mineW hown o (by simpa [hext] using ho)
          simp only at this ⊢
          rw [g5 o ho, g4]
          refine ⟨?_, this.2⟩
          by_cases h : N * te.size + 0 ≤ o ∧ o < N * te.size + 0 + us.length
          · rw [if_pos h]
            have hlt : o - (N * te.size + 0) < us.length := by omega
            rw [List.getElem?_eq_getElem hlt]; rfl
          · rw [if_neg h]; exact this.1
        · rw [reg_eq hwr, r4] at ho
          have h1 := hck.home o (by rw [reg_eq hown, hext]; exact ho)
          simp only at h1
          cases own <;> first | exact h1 | exact .inl h1 | exact .inr h1 | cases hown
        · simp only [r4] at ho
          exact hsep d f hd o ho (e ▸ hra)
        · rcases hra with ⟨o, ho, e⟩ | ⟨L', kk, xs, hx, i, hi, e⟩
          · rw [reg_eq hwr, r4] at ho
            exact hsep d f hd o ho (wf_rf (e ▸ ha))
          · exact (hsh' _ _ _ hx).far d f hd i hi (e ▸ ha)
      by_cases hz : L.cap = 0
      · -- nothing at all
        have hus : us = [] := by
          have : us.length = 0 := by rw [u1]; have : Q = 0 := by omega
                                     simp [this]
          simpa using this
        subst hus
        have hw : w' = w := by simp [storeCells] at g1; exact g1.symm
        subst hw
        have hrun := app_room (ty := ty) (w' := w') hT htt hkind htt' hkind' hte A N L.cap B Q M.cap [] u3 hroom (by simp [storeCells]) (fun _ => rfl)
        refine fin L _ _ hrun ?_ (by simpa only [appU, apU] using hput) hk
        simp only [Den]
        refine ⟨by omega, by omega, by omega, nz, A, ?_, hAn, by simpa using hA'⟩
        congr 1 <;> omega
      · have hA2 := hbase hz
        have hrun := app_room (ty := ty) (w' := w') hT htt hkind htt' hkind' hte A N L.cap B Q M.cap us u3 hroom (fun b hb => by
          rw [hA2] at hb; cases hb
          rw [ad_add, Nat.zero_add]; exact g1) (fun h => by rw [hA2] at h; cases h)
        refine fin L _ _ hrun ?_ (by simpa only [appU, apU] using hput) g3
        simp only [Den]
        refine ⟨by omega, by omega, by omega, nz, A, ?_, hAn, by simpa using hA'⟩
        congr 1 <;> omega

end Go.Proofs.Ytnmbimhcfioeiaa.Xf
