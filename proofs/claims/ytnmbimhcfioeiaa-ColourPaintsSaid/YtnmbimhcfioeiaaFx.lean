import Derived.Test.YtnmbimhcfioeiaaFw
set_option linter.unusedVariables false
set_option linter.unusedSimpArgs false
/-! Xf, part x: a call in the midst of a caller's memory. -/
namespace Go.Proofs.Ytnmbimhcfioeiaa.Xf

def outAt (own : Own) (L : Loc) (ch : Chunk) : Option (Option Chunk) → Option ME
  | none => some (own, L, ch)
  | some none => none
  | some (some ch') => some (own, L, ch')

theorem outs_get : ∀ {m : Mem} {o : List (Option (Option Chunk))} {c : Nat} {own : Own} {L : Loc} {ch : Chunk}, lk m c = some (own, L, ch) → lk (outs m o) c = outAt own L ch (lk o c)
  | [], o, c, own, L, ch, h => by simp [lk] at h
  | e :: m, [], c, own, L, ch, h => by simp only [outs]; rw [h]; simp [lk, outAt]
  | none :: m, x :: o, c, own, L, ch, h => by
    cases c with
    | zero => simp [lk] at h
    | succ c => simp only [lk, outs] at h ⊢; exact outs_get h
  | some (ow, M, k) :: m, some (some ch') :: o, c, own, L, ch, h => by
    cases c with
    | zero => simp only [lk] at h; cases h; simp [outs, lk, outAt]
    | succ c => simp only [lk, outs] at h ⊢; exact outs_get h
  | some (ow, M, k) :: m, some none :: o, c, own, L, ch, h => by
    cases c with
    | zero => simp only [lk] at h; cases h; simp [outs, lk, outAt]
    | succ c => simp only [lk, outs] at h ⊢; exact outs_get h
  | some e :: m, none :: o, c, own, L, ch, h => by
    cases c with
    | zero => simp only [lk] at h; cases h; simp [outs, lk, outAt]
    | succ c => simp only [lk, outs] at h ⊢; exact outs_get h

theorem outs_length : ∀ (m : Mem) (o : List (Option (Option Chunk))), (outs m o).length = m.length
  | [], o => rfl
  | e :: m, [] => rfl
  | none :: m, x :: o => by simp [outs, outs_length m o]
  | some (ow, M, k) :: m, some (some ch') :: o => by simp [outs, outs_length m o]
  | some (ow, M, k) :: m, some none :: o => by simp [outs, outs_length m o]
  | some e :: m, none :: o => by simp [outs, outs_length m o]

theorem lk_append_left {α : Type} : ∀ {l r : List (Option α)} {c : Nat}, c < l.length → lk (l ++ r) c = lk l c
  | [], r, c, h => by simp at h
  | a :: l, r, 0, h => by simp [lk]
  | a :: l, r, c + 1, h => by simp only [lk, List.cons_append]; exact lk_append_left (by simpa using h)
theorem lk_append_right {α : Type} : ∀ (l : List (Option α)) {r : List (Option α)} {c : Nat}, lk (l ++ r) (l.length + c) = lk r c
  | [], r, c => by simp
  | a :: l, r, c => by
    rw [List.length_cons, show l.length + 1 + c = (l.length + c) + 1 by omega]
    simp only [List.cons_append, lk]
    exact lk_append_right l

theorem news_get {own : Own} : ∀ {l : List (Loc × Chunk)} {j : Nat} {L : Loc} {ch : Chunk}, l[j]? = some (L, ch) → lk (news own l) j = some (own, L, ch)
  | [], j, L, ch, h => by simp at h
  | (M, c) :: l, 0, L, ch, h => by simp at h; obtain ⟨rfl, rfl⟩ := h; simp [news, lk]
  | (M, c) :: l, j + 1, L, ch, h => by simp only [news, lk]; exact news_get (by simpa using h)

theorem outOk_get : ∀ {m : Mem} {o : List (Option (Option Chunk))}, outOk m o → ∀ {c : Nat} {own : Own} {L : Loc} {ch : Chunk} {y : Option Chunk}, lk m c = some (own, L, ch) → lk o c = some y → own = .lent ∧ ∀ ch', y = some ch' → ch'.ext L = ch.ext L
  | [], o, _, c, own, L, ch, y, h1, h2 => by simp [lk] at h1
  | e :: m, [], _, c, own, L, ch, y, h1, h2 => by simp [lk] at h2
  | none :: m, x :: o, h, c, own, L, ch, y, h1, h2 => by
    cases c with
    | zero => simp [lk] at h1
    | succ c => simp only [lk] at h1 h2; exact outOk_get (by simpa [outOk] using h) h1 h2
  | some (ow, M, k) :: m, some (some x) :: o, h, c, own, L, ch, y, h1, h2 => by
    simp only [outOk] at h
    cases c with
    | zero => simp only [lk] at h1 h2; cases h1; cases h2; exact ⟨h.1, fun ch' e => by cases e; exact h.2.1⟩
    | succ c => simp only [lk] at h1 h2; exact outOk_get h.2.2 h1 h2
  | some (ow, M, k) :: m, some none :: o, h, c, own, L, ch, y, h1, h2 => by
    simp only [outOk] at h
    cases c with
    | zero => simp only [lk] at h1 h2; cases h1; cases h2; exact ⟨h.1, fun ch' e => by cases e⟩
    | succ c => simp only [lk] at h1 h2; exact outOk_get h.2 h1 h2
  | some e :: m, none :: o, h, c, own, L, ch, y, h1, h2 => by
    cases c with
    | zero => simp [lk] at h2
    | succ c => simp only [lk] at h1 h2; exact outOk_get (by simpa [outOk] using h) h1 h2

theorem noMine_get : ∀ {m : Mem}, noMine m → ∀ {c : Nat} {e : ME}, lk m c = some e → argOwn e.1 ∧ e.2.2.frArg
  | [], _, c, e, h => by simp [lk] at h
  | none :: m, hm, c, e, h => by
    cases c with
    | zero => simp [lk] at h
    | succ c => simp only [lk] at h; exact noMine_get (by simpa [noMine] using hm) h
  | some (own, L, ch) :: m, hm, c, e, h => by
    simp only [noMine] at hm
    cases c with
    | zero => simp only [lk] at h; cases h; exact ⟨hm.1, hm.2.1⟩
    | succ c => simp only [lk] at h; exact noMine_get hm.2.2 h

theorem inMem_get {look : Look} : ∀ {m : Mem} {g : List Nat}, inMem look g m → ∀ {c : Nat} {own : Own} {L : Loc} {ch : Chunk}, lk m c = some (own, L, ch) →
    ∃ d, g[c]? = some d ∧ ((d = 4096 ∧ L = nilLoc ∧ chNil ch) ∨ (d ≠ 4096 ∧ ∃ own' ch', look d = some (own', L, ch') ∧ chEq ch' ch ∧ ownOk own own'))
  | [], g, _, c, own, L, ch, h => by simp [lk] at h
  | none :: m, g, hm, c, own, L, ch, h => by
    cases c with
    | zero => simp [lk] at h
    | succ c =>
      simp only [lk] at h
      obtain ⟨d, h1, h2⟩ := inMem_get (by simpa [inMem] using hm) h
      exact ⟨d, by cases g <;> first | (simp at h1; done) | simpa using h1, h2⟩
  | some (ow, M, k) :: m, [], hm, c, own, L, ch, h => by simp [inMem] at hm
  | some (ow, M, k) :: m, d :: g, hm, c, own, L, ch, h => by
    simp only [inMem] at hm
    cases c with
    | zero =>
      simp only [lk] at h; cases h
      have h1 := hm.1
      by_cases hd : d = 4096
      · simp only [hd, BEq.rfl, cond_true] at h1
        exact ⟨d, by simp, .inl ⟨hd, h1.1, h1.2⟩⟩
      · rw [show (d == 4096) = false by simpa using hd] at h1
        simp only [cond_false] at h1
        split at h1
        · rename_i own' L' ch' hl
          obtain ⟨rfl, h2, h3⟩ := h1
          exact ⟨d, by simp, .inr ⟨hd, own', ch', hl, h2, h3⟩⟩
        · exact h1.elim
    | succ c =>
      simp only [lk] at h
      obtain ⟨d', h1, h2⟩ := inMem_get hm.2 h
      exact ⟨d', by simpa using h1, h2⟩

theorem farOf_get {d : Nat} {b : Bool} (hd : d ≠ 4096) : ∀ {m : Mem} {g : List Nat}, farOf d b g m = true → ∀ {c : Nat} {e : ME}, lk m c = some e → g[c]? = some d → b = false ∧ isLent e.1 = false
  | [], g, _, c, e, h, _ => by simp [lk] at h
  | none :: m, g, hf, c, e, h, hg => by
    cases c with
    | zero => simp [lk] at h
    | succ c => simp only [lk] at h; exact farOf_get hd (by simpa [farOf] using hf) h (by cases g <;> first | (simp at hg; done) | simpa using hg)
  | some (ow, M, k) :: m, [], hf, c, e, h, hg => by simp at hg
  | some (ow, M, k) :: m, d' :: g, hf, c, e, h, hg => by
    simp only [farOf, Bool.and_eq_true] at hf
    cases c with
    | zero =>
      simp only [lk] at h; cases h
      simp at hg
      subst hg
      simpa [hd] using hf.1
    | succ c => simp only [lk] at h; exact farOf_get hd hf.2 h (by simpa using hg)

theorem lentOk_get : ∀ {m : Mem} {g : List Nat}, lentOk g m = true → ∀ {c c' : Nat} {e e' : ME} {d : Nat}, d ≠ 4096 → c < c' → lk m c = some e → lk m c' = some e' → g[c]? = some d → g[c']? = some d → isLent e.1 = false ∧ isLent e'.1 = false
  | [], g, _, c, c', e, e', d, _, _, h, _, _, _ => by simp [lk] at h
  | none :: m, g, hl, c, c', e, e', d, hd, hlt, h1, h2, h3, h4 => by
    cases c with
    | zero => simp [lk] at h1
    | succ c =>
      cases c' with
      | zero => omega
      | succ c' => simp only [lk] at h1 h2; exact lentOk_get (by simpa [lentOk] using hl) hd (by omega) h1 h2 (by cases g <;> first | (simp at h3; done) | simpa using h3) (by cases g <;> first | (simp at h4; done) | simpa using h4)
  | some (ow, M, k) :: m, [], hl, c, c', e, e', d, hd, hlt, h1, h2, h3, h4 => by simp at h3
  | some (ow, M, k) :: m, d' :: g, hl, c, c', e, e', d, hd, hlt, h1, h2, h3, h4 => by
    simp only [lentOk, Bool.and_eq_true] at hl
    cases c' with
    | zero => omega
    | succ c' =>
      cases c with
      | zero =>
        simp only [lk] at h1 h2
        cases h1
        simp at h3 h4
        subst h3
        have := farOf_get hd hl.1 h2 h4
        exact this
      | succ c => simp only [lk] at h1 h2; exact lentOk_get hl.2 hd (by omega) h1 h2 (by simpa using h3) (by simpa using h4)

theorem updO_get {look : Look} {r : Nat → Nat} : ∀ {m : Mem} {o : List (Option (Option Chunk))} {g : List Nat} {d : Nat} {x : Option ME}, (d, x) ∈ updO look r g m o →
    ∃ c own L ch y, lk m c = some (own, L, ch) ∧ lk o c = some y ∧ g[c]? = some d ∧ d ≠ 4096 ∧ x = updO1 look r d y
  | [], o, g, d, x, h => by cases o <;> cases g <;> simp [updO] at h
  | e :: m, [], g, d, x, h => by cases g <;> simp [updO] at h
  | none :: m, y :: o, g, d, x, h => by
    have h' : (d, x) ∈ updO look r g.tail m o := by cases g <;> simpa [updO] using h
    obtain ⟨c, own, L, ch, ch', h1, h2, h3, h4⟩ := updO_get h'
    exact ⟨c + 1, own, L, ch, ch', h1, h2, by cases g <;> first | (simp at h3; done) | simpa using h3, h4⟩
  | some (ow, M, k) :: m, some y :: o, d' :: g, d, x, h => by
    have tl : (d, x) ∈ updO look r g m o → ∃ c own L ch y', lk (some (ow, M, k) :: m) c = some (own, L, ch) ∧ lk (some y :: o) c = some y' ∧ (d' :: g)[c]? = some d ∧ d ≠ 4096 ∧ x = updO1 look r d y' := fun h => by
      obtain ⟨c, own, L, ch, ch', h1, h2, h3, h4⟩ := updO_get h
      exact ⟨c + 1, own, L, ch, ch', h1, h2, by simpa using h3, h4⟩
    simp only [updO] at h
    cases hd : (d' == 4096) with
    | true => rw [hd] at h; exact tl h
    | false =>
      rw [hd] at h
      simp only [cond_false, List.mem_cons] at h
      rcases h with h | h
      · cases h
        exact ⟨0, ow, M, k, y, rfl, rfl, by simp, by simpa using hd, rfl⟩
      · exact tl h
  | some e :: m, none :: o, g, d, x, h => by
    have h' : (d, x) ∈ updO look r g.tail m o := by cases g <;> simpa [updO] using h
    obtain ⟨c, own, L, ch, ch', h1, h2, h3, h4⟩ := updO_get h'
    exact ⟨c + 1, own, L, ch, ch', h1, h2, by cases g <;> first | (simp at h3; done) | simpa using h3, h4⟩
  | some e :: m, some ch' :: o, [], d, x, h => by simp [updO] at h

theorem updO_mem {look : Look} {r : Nat → Nat} : ∀ {m : Mem} {o : List (Option (Option Chunk))} {g : List Nat} {c d : Nat} {e : ME} {y : Option Chunk}, d ≠ 4096 → lk m c = some e → lk o c = some y → g[c]? = some d → ∃ x, (d, x) ∈ updO look r g m o
  | [], o, g, c, d, e, y, hd, h, _, _ => by simp [lk] at h
  | x :: m, [], g, c, d, e, y, hd, _, h, _ => by simp [lk] at h
  | none :: m, y :: o, g, c, d, e, ch', hd, h1, h2, h3 => by
    cases c with
    | zero => simp [lk] at h1
    | succ c =>
      simp only [lk] at h1 h2
      obtain ⟨x, hx⟩ := updO_mem (r := r) (look := look) (g := g.tail) hd h1 h2 (by cases g <;> first | (simp at h3; done) | simpa using h3)
      exact ⟨x, by cases g <;> simpa [updO] using hx⟩
  | some e0 :: m, some k :: o, [], c, d, e, ch', hd, h1, h2, h3 => by simp at h3
  | some (ow, M, kk) :: m, some k :: o, d' :: g, c, d, e, ch', hd, h1, h2, h3 => by
    cases c with
    | zero =>
      simp at h3; subst h3
      exact ⟨_, by simp only [updO, show (d' == 4096) = false by simpa using hd, cond_false, List.mem_cons]; exact .inl rfl⟩
    | succ c =>
      simp only [lk] at h1 h2
      obtain ⟨x, hx⟩ := updO_mem (r := r) (look := look) (g := g) hd h1 h2 (by simpa using h3)
      refine ⟨x, ?_⟩
      simp only [updO]
      cases (d' == 4096) with
      | true => exact hx
      | false => simp only [cond_false, List.mem_cons]; exact .inr hx
  | some e0 :: m, none :: o, g, c, d, e, ch', hd, h1, h2, h3 => by
    cases c with
    | zero => simp [lk] at h2
    | succ c =>
      simp only [lk] at h1 h2
      obtain ⟨x, hx⟩ := updO_mem (r := r) (look := look) (g := g.tail) hd h1 h2 (by cases g <;> first | (simp at h3; done) | simpa using h3)
      exact ⟨x, by cases g <;> simpa [updO] using hx⟩

theorem updN_get {own : Own} {r : Nat → Nat} : ∀ {l : List (Loc × Chunk)} {k d : Nat} {x : Option ME}, (d, x) ∈ updN own r k l → ∃ j L ch, d = k + j ∧ l[j]? = some (L, ch) ∧ x = some (own, L, relabC r ch)
  | [], k, d, x, h => by simp [updN] at h
  | (L, ch) :: l, k, d, x, h => by
    simp only [updN, List.mem_cons] at h
    rcases h with h | h
    · cases h; exact ⟨0, L, ch, rfl, by simp, rfl⟩
    · obtain ⟨j, L', ch', h1, h2, h3⟩ := updN_get h
      exact ⟨j + 1, L', ch', by omega, by simpa using h2, h3⟩

theorem apnd_eq : ∀ (u v : Upd), apnd u v = u ++ v
  | [], v => rfl
  | a :: u, v => by simp [apnd, apnd_eq u v]

theorem apU_lk_mem : ∀ {u : Upd} {m : Mem} {c : Nat} {x : ME}, lk (apU m u) c = some x → (c, some x) ∈ u ∨ (lk m c = some x ∧ ∀ e, (c, e) ∉ u)
  | u, m, c, x, h => by
    by_cases hm : ∃ e, (c, e) ∈ u
    · rcases apU_lk_in h hm with h | ⟨_, _, h⟩ | h
      · exact .inl h
      · exact h.elim
      · exact .inl h
    · rw [apU_lk_out (fun e he => hm ⟨e, he⟩)] at h
      exact .inr ⟨h, fun e he => hm ⟨e, he⟩⟩

theorem gAt_get : ∀ {g : List Nat} {c d : Nat}, g[c]? = some d → gAt g c = d
  | [], c, d, h => by simp at h
  | e :: g, 0, d, h => by simpa [gAt] using h
  | e :: g, c + 1, d, h => by simp only [gAt]; exact gAt_get (by simpa using h)
theorem shrOk_get {look : Look} {g : List Nat} : ∀ {cs : List Nat}, shrOk look g cs → ∀ {c d : Nat}, c ∈ cs → g[c]? = some d → d ≠ 4096 → ∀ {e : ME}, look d = some e → e.1.wr = false
  | [], _, c, d, h, _, _, _, _ => by simp at h
  | c0 :: cs, hs, c, d, h, hg, hd, e, he => by
    simp only [shrOk] at hs
    rcases List.mem_cons.1 h with rfl | h
    · have h1 := hs.1
      rw [gAt_get hg, show (d == 4096) = false by simpa using hd, he] at h1
      exact h1
    · exact shrOk_get hs.2 h hg hd he

theorem joinO_mine {look : Look} : ∀ {m : Mem} {g : List Nat}, joinO look g m = .mine → ∀ {c : Nat} {L : Loc} {ch : Chunk} {d : Nat}, lk m c = some (.lent, L, ch) → g[c]? = some d → d ≠ 4096 → ∀ {e : ME}, look d = some e → e.1 = .mine
  | [], g, _, c, L, ch, d, h, _, _, _, _ => by simp [lk] at h
  | none :: m, g, hj, c, L, ch, d, h, hg, hd, e, he => by
    cases c with
    | zero => simp [lk] at h
    | succ c => exact joinO_mine (g := g.tail) (by simpa [joinO] using hj) (by simpa [lk] using h) (by cases g <;> first | (simp at hg; done) | simpa using hg) hd he
  | some (ow, M, k) :: m, [], hj, c, L, ch, d, h, hg, hd, e, he => by simp at hg
  | some (ow, M, k) :: m, d' :: g, hj, c, L, ch, d, h, hg, hd, e, he => by
    have tl : joinO look g m = .mine := by
      simp only [joinO] at hj
      cases hl : isLent ow with
      | false => rw [hl] at hj; exact hj
      | true =>
        rw [hl] at hj
        simp only [cond_true] at hj
        cases hd' : (d' == 4096) with
        | true => rw [hd'] at hj; exact hj
        | false =>
          rw [hd'] at hj
          simp only [cond_false] at hj
          split at hj
          · exact hj
          · cases hj
    cases c with
    | zero =>
      simp only [lk] at h; cases h
      simp at hg; subst hg
      simp only [joinO, isLent, cond_true, show (d' == 4096) = false by simpa using hd, cond_false, he] at hj
      obtain ⟨own, L', ch'⟩ := e
      cases own <;> first | rfl | cases hj
    | succ c => exact joinO_mine tl (by simpa [lk] using h) (by simpa using hg) hd he
theorem joinO_or {look : Look} : ∀ (m : Mem) (g : List Nat), joinO look g m = .mine ∨ joinO look g m = .got
  | [], g => .inl (by cases g <;> rfl)
  | none :: m, g => by have := joinO_or m g.tail (look := look); cases g <;> simpa [joinO] using this
  | some (ow, M, k) :: m, [] => .inr rfl
  | some (ow, M, k) :: m, d :: g => by
    have ih := joinO_or m g (look := look)
    simp only [joinO]
    cases isLent ow with
    | false => exact ih
    | true =>
      simp only [cond_true]
      cases (d == 4096) with
      | true => exact ih
      | false =>
        simp only [cond_false]
        split
        · exact ih
        · exact .inr rfl

/-- The same chunk, whatever the labels, and whoever made its rows. -/
def chSim : Chunk → Chunk → Prop
  | .ints k xs, .ints k' ys => k = k' ∧ xs = ys
  | .bools xs, .bools ys => xs = ys
  | .cells cs, .cells ds => eqvs cs ds
  | .recs s _ _ l, .recs s' _ _ l' => s = s' ∧ l = l'
  | _, _ => False
theorem chSim_of {c d : Chunk} (h : chEq c d) : chSim c d := by
  cases c <;> cases d <;> simp only [chEq] at h <;> first | exact h | exact ⟨h.1, h.2.1⟩
theorem chSim_symm {c d : Chunk} (h : chSim c d) : chSim d c := by
  cases c <;> cases d <;> simp only [chSim] at h <;> first | exact ⟨h.1.symm, h.2.symm⟩ | exact h.symm | exact eqvs_symm h
theorem chSim_ok {c d : Chunk} (h : chSim c d) : c.len = d.len ∧ (∀ L, c.ext L = d.ext L) ∧ (∀ L, c.fits L ↔ d.fits L) ∧ (∀ o x, o < c.len → (Den (c.cell o) x ↔ Den (d.cell o) x)) ∧ (∀ L k xs, c.rows L k xs ↔ d.rows L k xs) := by
  cases c <;> cases d <;> simp only [chSim] at h
  · have := chEq_ok (show chEq (.ints _ _) (.ints _ _) from h); exact ⟨this.1, this.2.1, this.2.2.1, this.2.2.2.1, this.2.2.2.2.1⟩
  · have := chEq_ok (show chEq (.bools _) (.bools _) from h); exact ⟨this.1, this.2.1, this.2.2.1, this.2.2.2.1, this.2.2.2.2.1⟩
  · have := chEq_ok (show chEq (.cells _) (.cells _) from h); exact ⟨this.1, this.2.1, this.2.2.1, this.2.2.2.1, this.2.2.2.2.1⟩
  · obtain ⟨rfl, rfl⟩ := h; exact ⟨rfl, fun _ => rfl, fun _ => Iff.rfl, fun _ _ _ => Iff.rfl, fun _ _ _ => Iff.rfl⟩

theorem ownLe_refl (own : Own) : ownLe own own := by cases own <;> trivial

theorem entry_of {P : Program} {f : FuncId} {fs : FS} (H : FSOk P f fs) (inv : List SV → Look → Option (fs.A × List Nat)) : EntryOk P f (spOf fs inv) := by
  refine ⟨H.fn, fun as vs k w0 W m look w hds hm hk hlook hx => ?_⟩
  obtain ⟨p0, v0, u0, h0, hp0⟩ := hx (fun _ => default)
  unfold spOf at h0
  split at h0
  · cases h0
  rename_i a g hinv
  cases h0
  obtain ⟨heq, hin, hlent, hshr, hlen, hpre⟩ := hp0
  obtain ⟨hnm, hout0, hrows0⟩ := H.mem a
  have hds' := (eqvs_den heq).1 hds
  -- each chunk of the callee in the caller's memory
  have hget : ∀ {c : Nat} {own : Own} {L : Loc} {ch : Chunk}, lk (fs.mem a) c = some (own, L, ch) → ∃ d, g[c]? = some d ∧ ((d = 4096 ∧ L = nilLoc ∧ chNil ch) ∨ (d ≠ 4096 ∧ ∃ own' ch', lk m d = some (own', L, ch') ∧ look d = some (own', L, ch') ∧ chEq ch' ch ∧ ownOk own own')) := fun h => by
    obtain ⟨d, h1, h2⟩ := inMem_get hin h
    refine ⟨d, h1, ?_⟩
    rcases h2 with h2 | ⟨h2, own', ch', h3, h4⟩
    · exact .inl h2
    · exact .inr ⟨h2, own', ch', hlook _ _ h3, h3, h4⟩
  have argO : ∀ {c : Nat} {own : Own} {L : Loc} {ch : Chunk}, lk (fs.mem a) c = some (own, L, ch) → own = .ro ∨ own = .lent := fun {c own L ch} h => by
    have := (noMine_get hnm h).1
    cases own <;> first | exact .inl rfl | exact .inr rfl | exact this.elim
  have lentOf : ∀ {c : Nat} {own : Own} {L : Loc} {ch : Chunk}, lk (fs.mem a) c = some (own, L, ch) → own.wr = true → own = .lent := fun h hw => by
    rcases argO h with rfl | rfl
    · cases hw
    · rfl
  -- feet of a callee's chunk in those of the caller's
  have feet : ∀ {own own' : Own} {L : Loc} {ch ch' : Chunk} {c d : Nat}, lk (fs.mem a) c = some (own, L, ch) → lk m d = some (own', L, ch') → chEq ch' ch → ownOk own own' →
      (∀ y, wf (own, L, ch) y → wf (own', L, ch') y) ∧ (∀ y, rf (own, L, ch) y → rf (own', L, ch') y) ∧ ∀ y, rows ch y → rf (own', L, ch') y := fun {own own' L ch ch' c d} h1 h2 h3 h4 => by
    have hle : ownLe own' own ∨ own = .lent := by
      rcases argO h1 with rfl | rfl
      · cases own' <;> exact .inl trivial
      · exact .inr rfl
    have hfit := (hm.chunk d _ h2).fits
    obtain ⟨e1, e2, e3, e4, e5, e6⟩ := chEq_ok h3
    have hrw : ∀ y, rows ch y → rf (own', L, ch') y := fun y hy => .inr ((rows_iff e5 y).2 hy)
    rcases hle with hle | rfl
    · obtain ⟨f1, f2, _⟩ := eq_feet h3 hle hfit
      exact ⟨f1, f2, hrw⟩
    · have hw : own'.wr = true := h4
      refine ⟨fun y ⟨_, o, ho, e⟩ => ⟨hw, o, by simp only at ho ⊢; rw [e2 L]; exact ho, e⟩, fun y hy => ?_, hrw⟩
      rcases hy with ⟨o, ho, e⟩ | hy
      · refine .inl ⟨o, ?_, e⟩
        rw [reg_eq hw, e2 L]
        rw [reg_eq rfl] at ho
        exact ho
      · exact hrw y hy
  have hm0 : MemSat w (lentW (fs.mem a)) (fs.mem a) w := by
    refine ⟨fun c e he => ?_, fun c c' e e' hcc he he' y ho hr => ?_⟩
    · obtain ⟨own, L, ch⟩ := e
      obtain ⟨d, h1, ⟨_, rfl, h3⟩ | ⟨hd, own', ch', h2, _, h3, h4⟩⟩ := hget he
      · exact nil_sat h3 own
      · have hs := (hm.chunk d _ h2).eq h3 (ownLe_refl own')
        have hfa := (noMine_get hnm he).2
        refine ⟨hs.cell, fun L' kk xs hr => ?_, fun y hy hyr => ?_, fun hw => ?_, hs.fits, fun o ho => ?_⟩
        · obtain ⟨g1, g2, g3, g4⟩ := hs.row L' kk xs hr
          refine ⟨g1, g2, g3, fun hf => ?_⟩
          cases ch <;> first | exact hr.elim | (simp only [Chunk.frArg] at hfa; simp only [Chunk.fr, hfa] at hf; cases hf)
        · obtain ⟨hw, o, ho, e⟩ := hy
          obtain rfl := lentOf he hw
          exact hs.self y ⟨h4, o, ho, e⟩ hyr
        · obtain rfl := lentOf he hw
          exact hs.mineW h4
        · rcases argO he with rfl | rfl
          · trivial
          · exact ⟨c, L, ch, he, o, by rw [reg_eq rfl] at ho; exact ho, rfl⟩
    · obtain ⟨own, L, ch⟩ := e
      obtain ⟨ow2, L2, ch2⟩ := e'
      obtain rfl := lentOf he ho.1
      obtain ⟨d, h1, ⟨_, rfl, h3⟩ | ⟨hd, own', ch', h2, _, h3, h4⟩⟩ := hget he
      · exact (nil_feet h3 _ y).1 ho
      obtain ⟨d2, k1, ⟨_, rfl, k3⟩ | ⟨hd2, ow2', ch2', k2, _, k3, k4⟩⟩ := hget he'
      · exact (nil_feet k3 _ y).2 hr
      have hdd : d ≠ d2 := by
        rintro rfl
        rcases Nat.lt_or_gt_of_ne hcc with h | h
        · have := (lentOk_get hlent hd h he he' h1 k1).1; simp [isLent] at this
        · have := (lentOk_get hlent hd h he' he k1 h1).2; simp [isLent] at this
      exact hm.sep d d2 _ _ hdd h2 k2 y ((feet he h2 h3 h4).1 y ho) ((feet he' k2 k3 k4).2.1 y hr)
  -- what may be written is the caller's, of a chunk that is handed over for it
  have lentAt : ∀ y, lentW (fs.mem a) y → ∃ c L ch d own' ch', lk (fs.mem a) c = some (.lent, L, ch) ∧ g[c]? = some d ∧ d ≠ 4096 ∧ lk m d = some (own', L, ch') ∧ look d = some (own', L, ch') ∧ own'.wr = true ∧ wf (own', L, ch') y := by
    rintro y ⟨c, L, ch, h1, o, ho, rfl⟩
    obtain ⟨d, g1, ⟨_, rfl, h3⟩ | ⟨hd, own', ch', h2, h2', h3, h4⟩⟩ := hget h1
    · have := (chNil_len h3).2.1; omega
    · exact ⟨c, L, ch, d, own', ch', h1, g1, hd, h2, h2', h4, (feet h1 h2 h3 h4).1 _ ⟨rfl, o, ho, rfl⟩⟩
  refine (H.calls a hpre w vs hds' hm0).mono fun e w' hh => ?_
  obtain ⟨v, m', rv, ⟨x, g', hev, hmc, hnd⟩, rfl, hdv, hm1, hk1⟩ := hh
  have hout := hout0 x
  obtain ⟨hrN, hrO⟩ := (hrows0 x).all
  have hM := hm1.memC hmc hnd
  have hxk : (fun j => (fun n => x (n - k)) (k + j)) = x := by funext j; simp
  refine ⟨fun n => x (n - k), eqvs as (fs.args a) ∧ inMem look g (fs.mem a) ∧ lentOk g (fs.mem a) = true ∧ shrOk look g fs.shr ∧ g.length = (fs.mem a).length ∧ fs.pre a, relab (rho g k) (fs.res a x),
    apnd (updO look (rho g k) g (fs.mem a) (fs.out a x)) (updN (newOwnC look g (fs.mem a) fs.newGot) (rho g k) k (fs.new a x)), rv, ?_, ⟨heq, hin, hlent, hshr, hlen, hpre⟩, rfl, (eqv_den (relab_eqv _ _)).2 ((eqv_den hev).1 hdv), ?_, ?_⟩
  · unfold spOf
    rw [hinv]
    simp only [Nat.add_sub_cancel_left]
  · -- memory
    generalize hMA : memAfter (fs.mem a) (fs.out a x) fs.newGot (fs.new a x) = MA at hM
    have hnewget : ∀ {j : Nat} {L : Loc} {ch : Chunk}, (fs.new a x)[j]? = some (L, ch) → lk MA ((fs.mem a).length + j) = some (newOwn fs.newGot, L, ch) := fun {j L ch} h => by
      rw [← hMA]
      unfold memAfter
      have := lk_append_right (outs (fs.mem a) (fs.out a x)) (r := news (newOwn fs.newGot) (fs.new a x)) (c := j)
      rw [outs_length] at this
      rw [this]; exact news_get h
    have holdget : ∀ {c : Nat} {own : Own} {L : Loc} {ch : Chunk}, lk (fs.mem a) c = some (own, L, ch) → lk MA c = outAt own L ch (lk (fs.out a x) c) := fun h => by
      rw [← hMA]
      unfold memAfter
      rw [lk_append_left (by rw [outs_length]; exact lk_lt h)]
      exact outs_get h
    have hnw : (newOwn fs.newGot).wr = true := by cases fs.newGot <;> rfl
    have hcw : (newOwnC look g (fs.mem a) fs.newGot).wr = true := by
      cases fs.newGot
      · rfl
      · simp only [newOwnC]; rcases joinO_or (look := look) (fs.mem a) g with h | h <;> rw [h] <;> rfl
    have oldLt : ∀ {d : Nat} {e0 : ME} {y : Addr}, lk m d = some e0 → rf e0 y → ¬ w.heap.size ≤ y.block := fun h1 h2 h3 => by
      obtain ⟨z, hz⟩ := (hm.chunk _ _ h1).regSome h2
      have := World.block_lt_of_cell? _ _ hz
      omega
    have shrAt : ∀ {d : Nat} {e0 : ME} {y : Addr}, lk m d = some e0 → wf e0 y → ¬ shrd fs a y := by
      rintro d e0 y h1 h2 ⟨c, hc, e, he, hr⟩
      obtain ⟨own, L, ch⟩ := e
      obtain ⟨d', g1, ⟨_, rfl, h3⟩ | ⟨hd, own', ch', k2, k2', k3, k4⟩⟩ := hget he
      · exact (nil_feet h3 _ y).2 hr
      · have hw := shrOk_get hshr hc g1 hd k2'
        have hne : d ≠ d' := by
          rintro rfl
          rw [h1] at k2; cases k2
          have := h2.1
          simp only at hw this
          rw [hw] at this; cases this
        exact hm.sep d d' _ _ hne h1 k2 y h2 ((feet he k2 k3 k4).2.1 y hr)
    -- what stands at a label behind the call
    have key : ∀ d e, lk (apU m (apnd (updO look (rho g k) g (fs.mem a) (fs.out a x)) (updN (newOwnC look g (fs.mem a) fs.newGot) (rho g k) k (fs.new a x)))) d = some e →
        (∃ j L ch, (fs.new a x)[j]? = some (L, ch) ∧ d = k + j ∧ e = (newOwnC look g (fs.mem a) fs.newGot, L, relabC (rho g k) ch)) ∨
        (∃ c own L ch ch0 chn che, lk (fs.mem a) c = some (.lent, L, ch) ∧ g[c]? = some d ∧ lk m d = some (own, L, ch0) ∧ own.wr = true ∧ chEq ch0 ch ∧ lk MA c = some (.lent, L, chn) ∧ chn.ext L = ch.ext L ∧ e = (own, L, che) ∧ chSim che chn ∧
          (che.fr = true → ∀ M kk xs, che.rows M kk xs → 0 < xs.length → w0.heap.size ≤ M.b) ∧ (∀ y, rows chn y → w.heap.size ≤ y.block ∨ shrd fs a y ∨ rows ch y)) ∨
        (lk m d = some e ∧ ∀ c L ch, lk (fs.mem a) c = some (.lent, L, ch) → g[c]? = some d → d = 4096) := by
      intro d e he
      rw [apnd_eq] at he
      rcases apU_lk_mem he with hmem | ⟨hl, hno⟩
      · rcases List.mem_append.1 hmem with hmem | hmem
        · obtain ⟨c, own, L, ch, y, h1, h2, h3, hd, h4⟩ := updO_get hmem
          obtain ⟨rfl, hext⟩ := outOk_get hout h1 h2
          cases y with
          | none => simp [updO1] at h4
          | some ch' =>
            obtain ⟨d', k1, ⟨rfl, rfl, k3⟩ | ⟨_, own', ch0, k2, k2', k3, k4⟩⟩ := hget h1
            · rw [h3] at k1; cases k1; exact absurd rfl hd
            · rw [h3] at k1; cases k1
              simp only [updO1, k2'] at h4
              cases h4
              have hMc : lk MA c = some (.lent, L, ch') := by rw [holdget h1, h2]; rfl
              have hs := hM.chunk _ _ hMc
              refine .inr (.inl ⟨c, own', L, ch, ch0, ch', _, h1, h3, k2, k4, k3, hMc, hext _ rfl, rfl, chSim_symm (chSim_of (relabC_ok' _ _)), fun hf M kk xs hr hp => ?_, fun y hy => ?_⟩)
              · obtain ⟨_, _, _, _, e5, e6⟩ := chEq_ok (relabC_ok (rho g k) ch')
                have hf' : ch'.fr = true := (chEq_ok (relabC_ok' (rho g k) ch')).2.2.2.2.2 hf
                exact Nat.le_trans hk.size ((hs.row M kk xs ((e5 _ _ _).1 hr)).2.2.2 hf' hp)
              · rcases hrO c ch' h2 with h | h
                · obtain ⟨M, kk, xs, hr, o, ho, rfl⟩ := hy
                  exact .inl ((hs.row M kk xs hr).2.2.2 h (by omega))
                · rcases h y hy with h | ⟨e, he, h⟩
                  · exact .inr (.inl h)
                  · rw [h1] at he; cases he; exact .inr (.inr h)
        · obtain ⟨j, L, ch, rfl, h2, h3⟩ := updN_get hmem
          cases h3
          exact .inl ⟨j, L, ch, h2, rfl, rfl⟩
      · by_cases hl2 : ∃ c L ch, lk (fs.mem a) c = some (.lent, L, ch) ∧ g[c]? = some d ∧ d ≠ 4096
        · obtain ⟨c, L, ch, h1, h2, hd⟩ := hl2
          obtain ⟨d', k1, ⟨rfl, rfl, k3⟩ | ⟨_, own', ch0, k2, k2', k3, k4⟩⟩ := hget h1
          · rw [h2] at k1; cases k1; exact absurd rfl hd
          rw [h2] at k1; cases k1
          rw [hl] at k2; cases k2
          have hon : lk (fs.out a x) c = none := by
            cases ho : lk (fs.out a x) c with
            | none => rfl
            | some ch' =>
              exfalso
              obtain ⟨y, hy⟩ := updO_mem (r := rho g k) (look := look) hd h1 ho h2
              exact hno y (List.mem_append_left _ hy)
          refine .inr (.inl ⟨c, own', L, ch, ch0, ch, ch0, h1, h2, hl, k4, k3, ?_, rfl, rfl, chSim_of k3, fun hf M kk xs hr hp => ((hm.chunk d _ hl).row M kk xs hr).2.2.2 hf hp, fun y hy => .inr (.inr hy)⟩)
          rw [holdget h1, hon]; rfl
        · exact .inr (.inr ⟨hl, fun c L ch h1 h2 => Classical.byContradiction fun h => hl2 ⟨c, L, ch, h1, h2, h⟩⟩)
    -- the feet of what is new
    have feetA : ∀ {j : Nat} {L : Loc} {ch : Chunk}, (fs.new a x)[j]? = some (L, ch) →
        (∀ y, wf (newOwnC look g (fs.mem a) fs.newGot, L, relabC (rho g k) ch) y → wf (newOwn fs.newGot, L, ch) y) ∧ (∀ y, rf (newOwnC look g (fs.mem a) fs.newGot, L, relabC (rho g k) ch) y → rf (newOwn fs.newGot, L, ch) y) ∧
        (∀ y, rf (newOwn fs.newGot, L, ch) y → w.heap.size ≤ y.block ∨ lentW (fs.mem a) y ∨ shrd fs a y) ∧ ∀ y, wf (newOwn fs.newGot, L, ch) y → w.heap.size ≤ y.block ∨ lentW (fs.mem a) y := by
      intro j L ch h1
      have hs := hM.chunk _ _ (hnewget h1)
      obtain ⟨_, e2, _, _, e5, _⟩ := chEq_ok (relabC_ok (rho g k) ch)
      have hhome : ∀ o, o < ch.ext L → w.heap.size ≤ (L.ad o).block ∨ lentW (fs.mem a) (L.ad o) := fun o ho => (hs.home o (by rw [reg_eq hnw]; exact ho)).got hnw
      refine ⟨fun y ⟨_, o, ho, e⟩ => ⟨hnw, o, by simp only at ho ⊢; rw [← e2 L]; exact ho, e⟩, fun y hy => ?_, fun y hy => ?_, fun y ⟨_, o, ho, e⟩ => e ▸ hhome o ho⟩
      · rcases hy with ⟨o, ho, e⟩ | hy
        · exact .inl ⟨o, by rw [reg_eq hnw]; rw [reg_eq hcw, e2 L] at ho; exact ho, e⟩
        · exact .inr ((rows_iff e5 y).1 hy)
      · rcases hy with ⟨o, ho, e⟩ | hy
        · rw [reg_eq hnw] at ho
          rcases hhome o ho with h | h
          · exact .inl (e ▸ h)
          · exact .inr (.inl (e ▸ h))
        · rcases hrN j L ch h1 with h | h
          · obtain ⟨M, kk, xs, hr, o, ho, rfl⟩ := hy
            exact .inl ((hs.row M kk xs hr).2.2.2 h (by omega))
          · exact .inr (.inr (h y hy))
    have feetB : ∀ {own : Own} {L : Loc} {ch ch0 chn che : Chunk}, own.wr = true → chEq ch0 ch → chn.ext L = ch.ext L → chSim che chn →
        (∀ y, wf (own, L, che) y → wf (own, L, ch0) y ∧ wf (Own.lent, L, chn) y) ∧ (∀ y, rf (own, L, che) y → rf (Own.lent, L, chn) y) ∧ ∀ y, rf (own, L, che) y → rf (own, L, ch0) y ∨ rows chn y := by
      intro own L ch ch0 chn che hw h1 h2 h3
      obtain ⟨_, e2, _⟩ := chEq_ok h1
      obtain ⟨_, s2, _, _, s5⟩ := chSim_ok h3
      refine ⟨fun y ⟨_, o, ho, e⟩ => ⟨⟨hw, o, ?_, e⟩, rfl, o, ?_, e⟩, fun y hy => ?_, fun y hy => ?_⟩
      · simp only at ho ⊢; rw [e2, ← h2, ← s2]; exact ho
      · simp only at ho ⊢; rw [← s2]; exact ho
      · rcases hy with ⟨o, ho, e⟩ | hy
        · exact .inl ⟨o, by rw [reg_eq rfl]; rw [reg_eq hw, s2] at ho; exact ho, e⟩
        · exact .inr ((rows_iff s5 y).1 hy)
      · rcases hy with ⟨o, ho, e⟩ | hy
        · exact .inl (.inl ⟨o, by rw [reg_eq hw] at ho ⊢; rw [e2, ← h2, ← s2]; exact ho, e⟩)
        · exact .inr ((rows_iff s5 y).1 hy)
    refine ⟨fun d e he => ?_, fun d d' e e' hdd he he' y hw hr => ?_⟩
    · rcases key d e he with ⟨j, L, ch, h1, rfl, rfl⟩ | ⟨c, own, L, ch, ch0, chn, che, h1, hg, h3, h4, h5, h6, h7, rfl, h9, h10, h11⟩ | ⟨h, hnl⟩
      · have hs := hM.chunk _ _ (hnewget h1)
        have hs0 : ChunkSat w0 W (newOwnC look g (fs.mem a) fs.newGot, L, ch) w' := by
          refine ⟨hs.cell, fun M kk xs hr => ?_, fun y hy => hs.self y ⟨hnw, hy.2⟩, fun _ => hs.mineW hnw, hs.fits, fun o ho => ?_⟩
          · obtain ⟨g1, g2, g3, g4⟩ := hs.row M kk xs hr
            exact ⟨g1, g2, g3, fun hf hp => Nat.le_trans hk.size (g4 hf hp)⟩
          · rw [reg_eq hcw] at ho
            have hh := hs.home o (by rw [reg_eq hnw]; exact ho)
            cases hng : fs.newGot with
            | false => rw [hng] at hh; exact Nat.le_trans hk.size hh
            | true =>
              rw [hng] at hh
              simp only [newOwnC]
              have hgot : homeOk w0 W .got (L.ad o) ∧ (joinO look g (fs.mem a) = .mine → homeOk w0 W .mine (L.ad o)) := by
                rcases hh with h | h
                · exact ⟨.inl (Nat.le_trans hk.size h), fun _ => Nat.le_trans hk.size h⟩
                · obtain ⟨c, L2, ch2, d, own', ch', k1, k2, kd, k3, k3', k4, k5⟩ := lentAt _ h
                  obtain ⟨_, o', ho', e⟩ := k5
                  have hh' := (hm.chunk d _ k3).home o' (by rw [reg_eq k4]; exact ho')
                  simp only at hh'
                  rw [← e] at hh'
                  refine ⟨hh'.got k4, fun hj => ?_⟩
                  have := joinO_mine hj k1 k2 kd k3'
                  simp only at this
                  rw [this] at hh'; exact hh'
              rcases joinO_or (look := look) (fs.mem a) g with hj | hj
              · rw [hj]; exact hgot.2 hj
              · rw [hj]; exact hgot.1
        exact hs0.eq (relabC_ok' _ _) (ownLe_refl _)
      · have hs := hM.chunk _ _ h6
        have hs0 := hm.chunk d _ h3
        obtain ⟨f1, f2, _⟩ := feetB (L := L) h4 h5 h7 h9
        obtain ⟨s1, s2, s3, s4, s5⟩ := chSim_ok h9
        refine ⟨fun o ho => ?_, fun M kk xs hr => ?_, fun y hy hyr => hs.self y (f1 y hy).2 ((rows_iff s5 y).1 hyr), fun _ o ho => ?_, (s3 L).2 hs.fits, fun o ho => ?_⟩
        · simp only at ho ⊢
          obtain ⟨z, hz, hdz⟩ := hs.cell o (by simp only; omega)
          exact ⟨z, hz, (s4 o z ho).2 hdz⟩
        · obtain ⟨g1, g2, g3, g4⟩ := hs.row M kk xs ((s5 _ _ _).1 hr)
          exact ⟨g1, g2, g3, fun hf hp => h10 hf M kk xs hr hp⟩
        · simp only at ho
          exact hs.mineW rfl o (by simp only; rw [← s2]; exact ho)
        · refine hs0.home o ?_
          rw [reg_eq h4] at ho ⊢
          rw [(chEq_ok h5).2.1, ← h7, ← s2]; exact ho
      · refine (hm.chunk d e h).keep (fun y hy => ?_) (fun y hy => hk1.frozen y hy)
        obtain ⟨z, hz⟩ := (hm.chunk d e h).regSome hy
        refine hk1.cell _ (World.block_lt_of_cell? _ _ hz) fun hl => ?_
        obtain ⟨c, L, ch, d', own', ch', k1, k2, kd, k3, _, k4, k5⟩ := lentAt _ hl
        exact hm.sep d' d _ _ (fun e => kd (by subst e; exact hnl c L ch k1 k2)) k3 h y k5 hy
    · rcases key d e he with ⟨j, L, ch, h1, rfl, rfl⟩ | ⟨c, own, L, ch, ch0, chn, che, h1, hg, h3, h4, h5, h6, h7, rfl, h9, h10, h11⟩ | ⟨h, hnl⟩
      · obtain ⟨a1, a2, a3, a4⟩ := feetA h1
        rcases key d' e' he' with ⟨j', L', ch', k1, rfl, rfl⟩ | ⟨c', own', L', ch', ch0', chn', che', k1, kg, k3, k4, k5, k6, k7, rfl, k9, k10, k11⟩ | ⟨k, knl⟩
        · exact hM.sep _ _ _ _ (fun h => hdd (by omega)) (hnewget h1) (hnewget k1) y (a1 y hw) ((feetA k1).2.1 y hr)
        · exact hM.sep _ _ _ _ (by have := lk_lt k1; omega) (hnewget h1) k6 y (a1 y hw) ((feetB k4 k5 k7 k9).2.1 y hr)
        · rcases a4 y (a1 y hw) with h | h
          · exact oldLt k hr h
          · obtain ⟨c, L2, ch2, d0, own', ch', q1, q2, qd, q3, _, q4, q5⟩ := lentAt _ h
            exact hm.sep d0 d' _ _ (fun e => qd (by subst e; exact knl c L2 ch2 q1 q2)) q3 k y q5 hr
      · obtain ⟨b1, b2, b3⟩ := feetB (L := L) h4 h5 h7 h9
        rcases key d' e' he' with ⟨j', L', ch', k1, rfl, rfl⟩ | ⟨c', own', L', ch', ch0', chn', che', k1, kg, k3, k4, k5, k6, k7, rfl, k9, k10, k11⟩ | ⟨k, knl⟩
        · exact hM.sep _ _ _ _ (by have := lk_lt h1; omega) h6 (hnewget k1) y (b1 y hw).2 ((feetA k1).2.1 y hr)
        · exact hM.sep _ _ _ _ (fun e => hdd (by subst e; rw [hg] at kg; cases kg; rfl)) h6 k6 y (b1 y hw).2 ((feetB k4 k5 k7 k9).2.1 y hr)
        · exact hm.sep d d' _ _ hdd h3 k y (b1 y hw).1 hr
      · rcases key d' e' he' with ⟨j', L', ch', k1, rfl, rfl⟩ | ⟨c', own', L', ch', ch0', chn', che', k1, kg, k3, k4, k5, k6, k7, rfl, k9, k10, k11⟩ | ⟨k, knl⟩
        · obtain ⟨a1, a2, a3, a4⟩ := feetA k1
          rcases a3 y (a2 y hr) with h' | h' | h'
          · exact oldLt h (wf_rf hw) h'
          · obtain ⟨c, L2, ch2, d0, own', ch', q1, q2, qd, q3, _, q4, q5⟩ := lentAt _ h'
            exact hm.sep d d0 _ _ (fun e => qd (by subst e; exact hnl c L2 ch2 q1 q2)) h q3 y hw (wf_rf q5)
          · exact shrAt h hw h'
        · obtain ⟨b1, b2, b3⟩ := feetB (L := L') k4 k5 k7 k9
          rcases b3 y hr with h' | h'
          · exact hm.sep d d' _ _ hdd h k3 y hw h'
          · rcases k11 y h' with h'' | h'' | h''
            · exact oldLt h (wf_rf hw) h''
            · exact shrAt h hw h''
            · refine hm.sep d d' _ _ hdd h k3 y hw (.inr ?_)
              exact (rows_iff (chEq_ok k5).2.2.2.2.1 y).2 h''
        · exact hm.sep d d' _ _ hdd h k y hw hr
  · -- what was there
    refine hk.trans hk1 fun y hy hlt => ?_
    obtain ⟨c, L, ch, d, own', ch', h1, h2, hd, h3, h3', h4, h5⟩ := lentAt y hy
    obtain ⟨_, o, ho, rfl⟩ := h5
    rcases ((hm.chunk d _ h3).home o (by rw [reg_eq h4]; exact ho)).got h4 with h | h
    · simp only at h hlt; omega
    · exact h

end Go.Proofs.Ytnmbimhcfioeiaa.Xf
