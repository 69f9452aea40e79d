import Derived.Test.YtnmbimhcfioeiaaFw
set_option linter.unusedVariables false
set_option linter.unusedSimpArgs false
/-! Xf, part x: a call in the midst of a caller's memory. -/
namespace Go.Proofs.Ytnmbimhcfioeiaa.Xf

theorem outs_get : ∀ {m : Mem} {o : List (Option Chunk)} {c : Nat} {own : Own} {L : Loc} {ch : Chunk}, lk m c = some (own, L, ch) →
    lk (outs m o) c = some (own, L, match lk o c with | some ch' => ch' | none => ch)
  | [], o, c, own, L, ch, h => by simp [lk] at h
  | e :: m, [], c, own, L, ch, h => by simp only [outs]; rw [h]; simp [lk]
  | none :: m, x :: o, c, own, L, ch, h => by
    cases c with
    | zero => simp [lk] at h
    | succ c => simp only [lk, outs] at h ⊢; exact outs_get h
  | some (ow, M, k) :: m, some ch' :: o, c, own, L, ch, h => by
    cases c with
    | zero => simp only [lk] at h; cases h; simp [outs, lk]
    | succ c => simp only [lk, outs] at h ⊢; exact outs_get h
  | some e :: m, none :: o, c, own, L, ch, h => by
    cases c with
    | zero => simp only [lk] at h; cases h; simp [outs, lk]
    | succ c => simp only [lk, outs] at h ⊢; exact outs_get h

theorem outs_length : ∀ (m : Mem) (o : List (Option Chunk)), (outs m o).length = m.length
  | [], o => rfl
  | e :: m, [] => rfl
  | none :: m, x :: o => by simp [outs, outs_length m o]
  | some (ow, M, k) :: m, some ch' :: o => by simp [outs, outs_length m o]
  | some e :: m, none :: o => by simp [outs, outs_length m o]

theorem lk_append_left {α : Type} : ∀ {l r : List (Option α)} {c : Nat} {e : α}, lk l c = some e → lk (l ++ r) c = some e
  | [], r, c, e, h => by simp [lk] at h
  | a :: l, r, 0, e, h => by simpa [lk] using h
  | a :: l, r, c + 1, e, h => by simp only [lk, List.cons_append] at h ⊢; exact lk_append_left h
theorem lk_append_right {α : Type} : ∀ (l : List (Option α)) {r : List (Option α)} {c : Nat}, lk (l ++ r) (l.length + c) = lk r c
  | [], r, c => by simp
  | a :: l, r, c => by
    rw [List.length_cons, show l.length + 1 + c = (l.length + c) + 1 by omega]
    simp only [List.cons_append, lk]
    exact lk_append_right l

theorem news_get : ∀ {l : List (Loc × Chunk)} {j : Nat} {L : Loc} {ch : Chunk}, l[j]? = some (L, ch) → lk (news l) j = some (.mine, L, ch)
  | [], j, L, ch, h => by simp at h
  | (M, c) :: l, 0, L, ch, h => by simp at h; obtain ⟨rfl, rfl⟩ := h; simp [news, lk]
  | (M, c) :: l, j + 1, L, ch, h => by simp only [news, lk]; exact news_get (by simpa using h)

theorem outOk_get : ∀ {m : Mem} {o : List (Option Chunk)}, outOk m o → ∀ {c : Nat} {own : Own} {L : Loc} {ch ch' : Chunk}, lk m c = some (own, L, ch) → lk o c = some ch' → own = .lent ∧ ch'.ext L = ch.ext L
  | [], o, _, c, own, L, ch, ch', h1, h2 => by simp [lk] at h1
  | e :: m, [], _, c, own, L, ch, ch', h1, h2 => by simp [lk] at h2
  | none :: m, x :: o, h, c, own, L, ch, ch', h1, h2 => by
    cases c with
    | zero => simp [lk] at h1
    | succ c => simp only [lk] at h1 h2; exact outOk_get (by simpa [outOk] using h) h1 h2
  | some (ow, M, k) :: m, some x :: o, h, c, own, L, ch, ch', h1, h2 => by
    simp only [outOk] at h
    cases c with
    | zero => simp only [lk] at h1 h2; cases h1; cases h2; exact ⟨h.1, h.2.1⟩
    | succ c => simp only [lk] at h1 h2; exact outOk_get h.2.2 h1 h2
  | some e :: m, none :: o, h, c, own, L, ch, ch', h1, h2 => by
    cases c with
    | zero => simp [lk] at h2
    | succ c => simp only [lk] at h1 h2; exact outOk_get (by simpa [outOk] using h) h1 h2

theorem noMine_get : ∀ {m : Mem}, noMine m → ∀ {c : Nat} {e : ME}, lk m c = some e → e.1 ≠ .mine
  | [], _, c, e, h => by simp [lk] at h
  | none :: m, hm, c, e, h => by
    cases c with
    | zero => simp [lk] at h
    | succ c => simp only [lk] at h; exact noMine_get (by simpa [noMine] using hm) h
  | some (own, L, ch) :: m, hm, c, e, h => by
    simp only [noMine] at hm
    cases c with
    | zero => simp only [lk] at h; cases h; exact hm.1
    | succ c => simp only [lk] at h; exact noMine_get hm.2 h

theorem inMem_get {look : Look} : ∀ {m : Mem} {g : List Nat}, inMem look g m → ∀ {c : Nat} {own : Own} {L : Loc} {ch : Chunk}, lk m c = some (own, L, ch) →
    ∃ d own' ch', g[c]? = some d ∧ look d = some (own', L, ch') ∧ chEq ch' ch ∧ ownOk own own'
  | [], g, _, c, own, L, ch, h => by simp [lk] at h
  | none :: m, g, hm, c, own, L, ch, h => by
    cases c with
    | zero => simp [lk] at h
    | succ c =>
      simp only [lk] at h
      obtain ⟨d, own', ch', h1, h2⟩ := inMem_get (by simpa [inMem] using hm) h
      exact ⟨d, own', ch', by cases g <;> first | (simp at h1; done) | simpa using h1, h2⟩
  | some (ow, M, k) :: m, [], hm, c, own, L, ch, h => by simp [inMem] at hm
  | some (ow, M, k) :: m, d :: g, hm, c, own, L, ch, h => by
    simp only [inMem] at hm
    cases c with
    | zero =>
      simp only [lk] at h; cases h
      have h1 := hm.1
      split at h1
      · rename_i own' L' ch' hl
        obtain ⟨rfl, h2, h3⟩ := h1
        exact ⟨d, own', ch', by simp, hl, h2, h3⟩
      · exact h1.elim
    | succ c =>
      simp only [lk] at h
      obtain ⟨d', own', ch', h1, h2⟩ := inMem_get hm.2 h
      exact ⟨d', own', ch', by simpa using h1, h2⟩

theorem farOf_get {d : Nat} {b : Bool} : ∀ {m : Mem} {g : List Nat}, farOf d b g m = true → ∀ {c : Nat} {e : ME}, lk m c = some e → g[c]? = some d → b = false ∧ isLent e.1 = false
  | [], g, _, c, e, h, _ => by simp [lk] at h
  | none :: m, g, hf, c, e, h, hg => by
    cases c with
    | zero => simp [lk] at h
    | succ c => simp only [lk] at h; exact farOf_get (by simpa [farOf] using hf) h (by cases g <;> first | (simp at hg; done) | simpa using hg)
  | some (ow, M, k) :: m, [], hf, c, e, h, hg => by simp at hg
  | some (ow, M, k) :: m, d' :: g, hf, c, e, h, hg => by
    simp only [farOf, Bool.and_eq_true] at hf
    cases c with
    | zero =>
      simp only [lk] at h; cases h
      simp at hg
      subst hg
      simpa using hf.1
    | succ c => simp only [lk] at h; exact farOf_get hf.2 h (by simpa using hg)

theorem lentOk_get : ∀ {m : Mem} {g : List Nat}, lentOk g m = true → ∀ {c c' : Nat} {e e' : ME} {d : Nat}, c < c' → lk m c = some e → lk m c' = some e' → g[c]? = some d → g[c']? = some d → isLent e.1 = false ∧ isLent e'.1 = false
  | [], g, _, c, c', e, e', d, _, h, _, _, _ => by simp [lk] at h
  | none :: m, g, hl, c, c', e, e', d, hlt, h1, h2, h3, h4 => by
    cases c with
    | zero => simp [lk] at h1
    | succ c =>
      cases c' with
      | zero => omega
      | succ c' => simp only [lk] at h1 h2; exact lentOk_get (by simpa [lentOk] using hl) (by omega) h1 h2 (by cases g <;> first | (simp at h3; done) | simpa using h3) (by cases g <;> first | (simp at h4; done) | simpa using h4)
  | some (ow, M, k) :: m, [], hl, c, c', e, e', d, hlt, h1, h2, h3, h4 => by simp at h3
  | some (ow, M, k) :: m, d' :: g, hl, c, c', e, e', d, hlt, h1, h2, h3, h4 => by
    simp only [lentOk, Bool.and_eq_true] at hl
    cases c' with
    | zero => omega
    | succ c' =>
      cases c with
      | zero =>
        simp only [lk] at h1 h2
        cases h1
        simp at h3 h4
        subst h3
        have := farOf_get hl.1 h2 h4
        exact this
      | succ c => simp only [lk] at h1 h2; exact lentOk_get hl.2 (by omega) h1 h2 (by simpa using h3) (by simpa using h4)

theorem updO_get {look : Look} {r : Nat → Nat} : ∀ {m : Mem} {o : List (Option Chunk)} {g : List Nat} {d : Nat} {x : Option ME}, (d, x) ∈ updO look r g m o →
    ∃ c own L ch ch', lk m c = some (own, L, ch) ∧ lk o c = some ch' ∧ g[c]? = some d ∧ x = (match look d with | some (own, L, _) => some (own, L, relabC r ch') | none => none)
  | [], o, g, d, x, h => by cases o <;> cases g <;> simp [updO] at h
  | e :: m, [], g, d, x, h => by cases g <;> simp [updO] at h
  | none :: m, y :: o, g, d, x, h => by
    have h' : (d, x) ∈ updO look r g.tail m o := by cases g <;> simpa [updO] using h
    obtain ⟨c, own, L, ch, ch', h1, h2, h3, h4⟩ := updO_get h'
    exact ⟨c + 1, own, L, ch, ch', h1, h2, by cases g <;> first | (simp at h3; done) | simpa using h3, h4⟩
  | some (ow, M, k) :: m, some ch' :: o, d' :: g, d, x, h => by
    simp only [updO, List.mem_cons] at h
    rcases h with h | h
    · cases h
      exact ⟨0, ow, M, k, ch', rfl, rfl, by simp, rfl⟩
    · obtain ⟨c, own, L, ch, ch', h1, h2, h3, h4⟩ := updO_get h
      exact ⟨c + 1, own, L, ch, ch', h1, h2, by simpa using h3, h4⟩
  | some e :: m, none :: o, g, d, x, h => by
    have h' : (d, x) ∈ updO look r g.tail m o := by cases g <;> simpa [updO] using h
    obtain ⟨c, own, L, ch, ch', h1, h2, h3, h4⟩ := updO_get h'
    exact ⟨c + 1, own, L, ch, ch', h1, h2, by cases g <;> first | (simp at h3; done) | simpa using h3, h4⟩
  | some e :: m, some ch' :: o, [], d, x, h => by simp [updO] at h

theorem updO_mem {look : Look} {r : Nat → Nat} : ∀ {m : Mem} {o : List (Option Chunk)} {g : List Nat} {c d : Nat} {e : ME} {ch' : Chunk}, lk m c = some e → lk o c = some ch' → g[c]? = some d → ∃ x, (d, x) ∈ updO look r g m o
  | [], o, g, c, d, e, ch', h, _, _ => by simp [lk] at h
  | x :: m, [], g, c, d, e, ch', _, h, _ => by simp [lk] at h
  | none :: m, y :: o, g, c, d, e, ch', h1, h2, h3 => by
    cases c with
    | zero => simp [lk] at h1
    | succ c =>
      simp only [lk] at h1 h2
      obtain ⟨x, hx⟩ := updO_mem (r := r) (look := look) (g := g.tail) h1 h2 (by cases g <;> first | (simp at h3; done) | simpa using h3)
      exact ⟨x, by cases g <;> simpa [updO] using hx⟩
  | some e0 :: m, some k :: o, [], c, d, e, ch', h1, h2, h3 => by simp at h3
  | some (ow, M, kk) :: m, some k :: o, d' :: g, c, d, e, ch', h1, h2, h3 => by
    cases c with
    | zero => simp at h3; subst h3; exact ⟨_, by simp only [updO, List.mem_cons]; exact .inl rfl⟩
    | succ c =>
      simp only [lk] at h1 h2
      obtain ⟨x, hx⟩ := updO_mem (r := r) (look := look) (g := g) h1 h2 (by simpa using h3)
      exact ⟨x, by simp only [updO, List.mem_cons]; exact .inr hx⟩
  | some e0 :: m, none :: o, g, c, d, e, ch', h1, h2, h3 => by
    cases c with
    | zero => simp [lk] at h2
    | succ c =>
      simp only [lk] at h1 h2
      obtain ⟨x, hx⟩ := updO_mem (r := r) (look := look) (g := g.tail) h1 h2 (by cases g <;> first | (simp at h3; done) | simpa using h3)
      exact ⟨x, by cases g <;> simpa [updO] using hx⟩

theorem updN_get {r : Nat → Nat} : ∀ {l : List (Loc × Chunk)} {k d : Nat} {x : Option ME}, (d, x) ∈ updN r k l → ∃ j L ch, d = k + j ∧ l[j]? = some (L, ch) ∧ x = some (.mine, L, relabC r ch)
  | [], k, d, x, h => by simp [updN] at h
  | (L, ch) :: l, k, d, x, h => by
    simp only [updN, List.mem_cons] at h
    rcases h with h | h
    · cases h; exact ⟨0, L, ch, rfl, by simp, rfl⟩
    · obtain ⟨j, L', ch', h1, h2, h3⟩ := updN_get h
      exact ⟨j + 1, L', ch', by omega, by simpa using h2, h3⟩

theorem apnd_eq : ∀ (u v : Upd), apnd u v = u ++ v
  | [], v => rfl
  | a :: u, v => by simp [apnd, apnd_eq u v]

theorem apU_lk_mem : ∀ {u : Upd} {m : Mem} {c : Nat} {x : ME}, lk (apU m u) c = some x → (c, some x) ∈ u ∨ (lk m c = some x ∧ ∀ e, (c, e) ∉ u)
  | u, m, c, x, h => by
    by_cases hm : ∃ e, (c, e) ∈ u
    · rcases apU_lk_in h hm with h | ⟨_, _, h⟩ | h
      · exact .inl h
      · exact h.elim
      · exact .inl h
    · rw [apU_lk_out (fun e he => hm ⟨e, he⟩)] at h
      exact .inr ⟨h, fun e he => hm ⟨e, he⟩⟩

theorem entry_of {P : Program} {f : FuncId} {fs : FS} (H : FSOk P f fs) (inv : List SV → Look → Option (fs.A × List Nat)) : EntryOk P f (spOf fs inv) := by
  refine ⟨H.fn, fun as vs k w0 W m look w hds hm hk hlook hx => ?_⟩
  obtain ⟨p0, v0, u0, h0, hp0⟩ := hx (fun _ => default)
  unfold spOf at h0
  split at h0
  · cases h0
  rename_i a g hinv
  cases h0
  obtain ⟨heq, hin, hlent, hlen, hpre⟩ := hp0
  obtain ⟨hnm, hout⟩ := H.mem a
  have hds' := (eqvs_den heq).1 hds
  -- each chunk of the callee in the caller's memory
  have hget : ∀ {c : Nat} {own : Own} {L : Loc} {ch : Chunk}, lk (fs.mem a) c = some (own, L, ch) → ∃ d own' ch', g[c]? = some d ∧ lk m d = some (own', L, ch') ∧ look d = some (own', L, ch') ∧ chEq ch' ch ∧ ownOk own own' := fun h => by
    obtain ⟨d, own', ch', h1, h2, h3, h4⟩ := inMem_get hin h
    exact ⟨d, own', ch', h1, hlook _ _ h2, h2, h3, h4⟩
  have hlentEq : ∀ {own own' : Own}, own = .lent → ownOk own own' → own' ≠ .ro := fun h1 h2 h3 => by subst h1 h3; exact h2
  have hm0 : MemSat w (lentW (fs.mem a)) (fs.mem a) w := by
    refine ⟨fun c e he => ?_, fun c c' e e' hcc he he' ho => ?_⟩
    · obtain ⟨own, L, ch⟩ := e
      obtain ⟨d, own', ch', h1, h2, _, h3, h4⟩ := hget he
      have hs := (hm.chunk d _ h2).eq h3
      refine ⟨hs.cell, fun hne => ?_, hs.fits, fun hmine => absurd hmine (noMine_get hnm he), fun hl o hlt => ⟨c, L, ch, by simp only at hl; rw [he, hl], o, hlt, rfl⟩⟩
      have : own = .lent := by
        cases own with
        | ro => exact absurd rfl hne
        | mine => exact absurd rfl (noMine_get hnm he)
        | lent => rfl
      exact hs.mineW (hlentEq this h4)
    · obtain ⟨own, L, ch⟩ := e
      obtain ⟨ow2, L2, ch2⟩ := e'
      obtain ⟨d, own', ch', h1, h2, _, h3, h4⟩ := hget he
      obtain ⟨d2, ow2', ch2', k1, k2, _, k3, k4⟩ := hget he'
      have hl : own = .lent := by
        cases own with
        | ro => exact absurd rfl ho
        | mine => exact absurd rfl (noMine_get hnm he)
        | lent => rfl
      subst hl
      have hdd : d ≠ d2 := by
        rintro rfl
        rcases Nat.lt_or_gt_of_ne hcc with h | h
        · have := (lentOk_get hlent h he he' h1 k1).1; simp [isLent] at this
        · have := (lentOk_get hlent h he' he k1 h1).2; simp [isLent] at this
      have hsep := hm.sep d d2 _ _ hdd h2 k2 (hlentEq rfl h4)
      obtain ⟨e1, e2, _⟩ := chEq_ok h3
      obtain ⟨e3, e4, _⟩ := chEq_ok k3
      have hr1 : reg (.lent, L, ch) ≤ reg (own', L, ch') := by
        have : own' ≠ .ro := hlentEq rfl h4
        cases own' <;> simp_all [reg]
      have hr2 : reg (ow2, L2, ch2) ≤ reg (ow2', L2, ch2') := by
        have hle := Chunk.len_le_reg (hm.chunk d2 _ k2)
        cases ow2 with
        | ro =>
          have h0 : reg (Own.ro, L2, ch2) = ch2.len := rfl
          simp only at hle
          omega
        | mine => exact absurd rfl (noMine_get hnm he')
        | lent =>
          have : ow2' ≠ .ro := hlentEq rfl k4
          cases ow2' <;> simp_all [reg]
      exact fun i hi j hj => hsep i (Nat.lt_of_lt_of_le hi hr1) j (Nat.lt_of_lt_of_le hj hr2)
  refine (H.calls a hpre w vs hds' hm0).mono fun e w' hh => ?_
  obtain ⟨v, m', rv, ⟨x, g', hev, hmc, hnd⟩, rfl, hdv, hm1, hk1⟩ := hh
  have hM := hm1.memC hmc hnd
  have hxk : (fun j => (fun n => x (n - k)) (k + j)) = x := by funext j; simp
  refine ⟨fun n => x (n - k), eqvs as (fs.args a) ∧ inMem look g (fs.mem a) ∧ lentOk g (fs.mem a) = true ∧ g.length = (fs.mem a).length ∧ fs.pre a, relab (rho g k) (fs.res a x),
    apnd (updO look (rho g k) g (fs.mem a) (fs.out a)) (updN (rho g k) k (fs.new a x)), rv, ?_, ⟨heq, hin, hlent, hlen, hpre⟩, rfl, (eqv_den (relab_eqv _ _)).2 ((eqv_den hev).1 hdv), ?_, ?_⟩
  · unfold spOf
    rw [hinv]
    simp only [Nat.add_sub_cancel_left]
  · -- memory
    -- where a chunk of the caller's stands in the new memory
    have hnewget : ∀ {j : Nat} {L : Loc} {ch : Chunk}, (fs.new a x)[j]? = some (L, ch) → lk (memAfter (fs.mem a) (fs.out a) (fs.new a x)) ((fs.mem a).length + j) = some (.mine, L, ch) := fun {j L ch} h => by
      unfold memAfter
      have := lk_append_right (outs (fs.mem a) (fs.out a)) (r := news (fs.new a x)) (c := j)
      rw [outs_length] at this
      rw [this]; exact news_get h
    have holdget : ∀ {c : Nat} {own : Own} {L : Loc} {ch : Chunk}, lk (fs.mem a) c = some (own, L, ch) → lk (memAfter (fs.mem a) (fs.out a) (fs.new a x)) c = some (own, L, match lk (fs.out a) c with | some ch' => ch' | none => ch) := fun h =>
      lk_append_left (outs_get h)
    -- what stands at a label behind the call
    have key : ∀ d e, lk (apU m (apnd (updO look (rho g k) g (fs.mem a) (fs.out a)) (updN (rho g k) k (fs.new a x)))) d = some e →
        (∃ j L ch, (fs.new a x)[j]? = some (L, ch) ∧ d = k + j ∧ e = (.mine, L, relabC (rho g k) ch)) ∨
        (∃ c own L ch ch0 chn, lk (fs.mem a) c = some (.lent, L, ch) ∧ g[c]? = some d ∧ lk m d = some (own, L, ch0) ∧ own ≠ .ro ∧ chEq ch0 ch ∧ lk (memAfter (fs.mem a) (fs.out a) (fs.new a x)) c = some (.lent, L, chn) ∧ chn.ext L = ch.ext L ∧ e.1 = own ∧ e.2.1 = L ∧ chEq e.2.2 chn) ∨
        (lk m d = some e ∧ ∀ c L ch, lk (fs.mem a) c = some (.lent, L, ch) → g[c]? ≠ some d) := by
      intro d e he
      rw [apnd_eq] at he
      rcases apU_lk_mem he with hmem | ⟨hl, hno⟩
      · rcases List.mem_append.1 hmem with hmem | hmem
        · obtain ⟨c, own, L, ch, ch', h1, h2, h3, h4⟩ := updO_get hmem
          obtain ⟨rfl, hext⟩ := outOk_get hout h1 h2
          obtain ⟨d', own', ch0, k1, k2, k2', k3, k4⟩ := hget h1
          rw [h3] at k1; cases k1
          rw [k2'] at h4
          cases h4
          refine .inr (.inl ⟨c, own', L, ch, ch0, ch', h1, h3, k2, hlentEq rfl k4, k3, ?_, hext, rfl, rfl, relabC_ok _ _⟩)
          rw [holdget h1, h2]
        · obtain ⟨j, L, ch, rfl, h2, h3⟩ := updN_get hmem
          cases h3
          exact .inl ⟨j, L, ch, h2, rfl, rfl⟩
      · by_cases hl2 : ∃ c L ch, lk (fs.mem a) c = some (.lent, L, ch) ∧ g[c]? = some d
        · obtain ⟨c, L, ch, h1, h2⟩ := hl2
          obtain ⟨d', own', ch0, k1, k2, k2', k3, k4⟩ := hget h1
          rw [h2] at k1; cases k1
          rw [hl] at k2; cases k2
          have hon : lk (fs.out a) c = none := by
            cases ho : lk (fs.out a) c with
            | none => rfl
            | some ch' =>
              exfalso
              obtain ⟨y, hy⟩ := updO_mem (r := rho g k) (look := look) h1 ho h2
              exact hno y (List.mem_append_left _ hy)
          refine .inr (.inl ⟨c, own', L, ch, ch0, ch, h1, h2, hl, hlentEq rfl k4, k3, ?_, rfl, rfl, rfl, k3⟩)
          rw [holdget h1, hon]
        · exact .inr (.inr ⟨hl, fun c L ch h1 h2 => hl2 ⟨c, L, ch, h1, h2⟩⟩)
    -- the region of an old one is what it was
    have old : ∀ d e, ((∃ c own L ch ch0 chn, lk (fs.mem a) c = some (.lent, L, ch) ∧ g[c]? = some d ∧ lk m d = some (own, L, ch0) ∧ own ≠ .ro ∧ chEq ch0 ch ∧ lk (memAfter (fs.mem a) (fs.out a) (fs.new a x)) c = some (.lent, L, chn) ∧ chn.ext L = ch.ext L ∧ e.1 = own ∧ e.2.1 = L ∧ chEq e.2.2 chn) ∨
        (lk m d = some e ∧ ∀ c L ch, lk (fs.mem a) c = some (.lent, L, ch) → g[c]? ≠ some d)) → ∃ e0, lk m d = some e0 ∧ e0.1 = e.1 ∧ e0.2.1 = e.2.1 ∧ reg e0 = reg e := by
      rintro d ⟨own1, L1, ch1⟩ (⟨c, own, L, ch, ch0, chn, h1, h2, h3, h4, h5, h6, h7, rfl, rfl, h8⟩ | ⟨h, _⟩)
      · refine ⟨_, h3, rfl, rfl, ?_⟩
        obtain ⟨_, e2, _⟩ := chEq_ok h5
        obtain ⟨_, e4, _⟩ := chEq_ok h8
        simp only at e2 e4 h4 ⊢
        cases own1 with
        | ro => exact absurd rfl h4
        | mine => simp only [reg]; rw [e2, e4, h7]
        | lent => simp only [reg]; rw [e2, e4, h7]
      · exact ⟨_, h, rfl, rfl, rfl⟩
    have newFresh : ∀ {j : Nat} {L : Loc} {ch : Chunk}, (fs.new a x)[j]? = some (L, ch) → 0 < ch.ext L → w.heap.size ≤ L.b := fun h hp => (hM.chunk _ _ (hnewget h)).fresh rfl hp
    refine ⟨fun d e he => ?_, fun d d' e e' hdd he he' ho => ?_⟩
    · rcases key d e he with ⟨j, L, ch, h1, rfl, rfl⟩ | ⟨c, own, L, ch, ch0, chn, h1, h2, h3, h4, h5, h6, h7, h8, h9, h10⟩ | ⟨h, hnl⟩
      · have hs := (hM.chunk _ _ (hnewget h1))
        have hs0 : ChunkSat w0 W (.mine, L, ch) w' := ⟨hs.cell, hs.mineW, hs.fits, fun _ hp => Nat.le_trans hk.size (hs.fresh rfl hp), fun h => by cases h⟩
        have hr := relabC_ok (rho g k) ch
        have : chEq ch (relabC (rho g k) ch) := by
          cases ch with
          | ints kk xs => exact ⟨rfl, rfl⟩
          | bools xs => rfl
          | cells cs => exact eqvs_symm hr
        exact hs0.eq this
      · obtain ⟨own1, L1, ch1⟩ := e
        simp only at h8 h9 h10
        subst h8 h9
        have hs := hM.chunk _ _ h6
        have hs0 := hm.chunk d _ h3
        obtain ⟨_, e2, _⟩ := chEq_ok h5
        have hs1 : ChunkSat w0 W (own1, L1, chn) w' := by
          refine ⟨hs.cell, fun _ => hs.mineW (by simp), hs.fits, fun hmine hp => ?_, fun hl o hlt => ?_⟩
          · refine hs0.fresh hmine ?_
            simp only at hp ⊢
            rw [e2, ← h7]; exact hp
          · refine hs0.lent hl o ?_
            simp only at hlt ⊢
            rw [e2, ← h7]; exact hlt
        have : chEq chn ch1 := by
          cases chn <;> cases ch1 <;> simp only [chEq] at h10 ⊢
          · exact ⟨h10.1.symm, h10.2.symm⟩
          · exact h10.symm
          · exact eqvs_symm h10
        exact hs1.eq this
      · refine (hm.chunk d e h).keep (fun o hlt => ?_) (fun y hy => hk1.frozen y hy)
        obtain ⟨y, hy⟩ := (hm.chunk d e h).regSome hlt
        refine hk1.cell _ (World.block_lt_of_cell? _ _ hy) ?_
        rintro ⟨c, L, ch, h1, o', hlt', heq'⟩
        obtain ⟨d', own', ch0, k1, k2, _, k3, k4⟩ := hget h1
        have hdd : d' ≠ d := fun e => hnl c L ch h1 (by rw [k1, e])
        obtain ⟨_, e2, _⟩ := chEq_ok k3
        have hro : own' ≠ .ro := hlentEq rfl k4
        refine hm.sep d' d _ _ hdd k2 h hro o' ?_ o hlt heq'.symm
        cases own' with
        | ro => exact absurd rfl hro
        | mine => simp only [reg]; rw [e2]; exact hlt'
        | lent => simp only [reg]; rw [e2]; exact hlt'
    · have hnewreg : ∀ {L : Loc} {ch : Chunk}, reg (.mine, L, relabC (rho g k) ch) = ch.ext L := by
        intro L ch
        simp only [reg]
        exact (chEq_ok (relabC_ok (rho g k) ch)).2.1 L
      have sepNO : ∀ {j : Nat} {L : Loc} {ch : Chunk} {d' : Nat} {e0 : ME}, (fs.new a x)[j]? = some (L, ch) → lk m d' = some e0 → Sep L (ch.ext L) e0.2.1 (reg e0) := by
        intro j L ch d' e0 h1 h2 i hi jj hj heq'
        obtain ⟨y, hy⟩ := (hm.chunk d' e0 h2).regSome hj
        exact ad_ne_of_size hy (M := L) (j := i) (newFresh h1 (by omega)) heq'.symm
      rcases key d e he with ⟨j, L, ch, h1, rfl, rfl⟩ | hold
      · rcases key d' e' he' with ⟨j', L', ch', k1, rfl, rfl⟩ | hold'
        · have := hM.sep _ _ _ _ (fun h => hdd (by omega)) (hnewget h1) (hnewget k1) (by simp)
          rw [hnewreg, hnewreg]
          simpa [reg] using this
        · obtain ⟨e0, g1, g2, g3, g4⟩ := old d' e' hold'
          rw [hnewreg, ← g3, ← g4]
          exact sepNO h1 g1
      · obtain ⟨e0, g1, g2, g3, g4⟩ := old d e hold
        rcases key d' e' he' with ⟨j', L', ch', k1, rfl, rfl⟩ | hold'
        · rw [hnewreg, ← g3, ← g4]
          exact (sepNO k1 g1).symm
        · obtain ⟨f0, f1, f2, f3, f4⟩ := old d' e' hold'
          have := hm.sep d d' e0 f0 hdd g1 f1 (by rw [g2]; exact ho)
          rw [← g3, ← g4, ← f3, ← f4]
          exact this
  · -- what was there
    refine hk.trans hk1 fun y hy hlt => ?_
    obtain ⟨c, L, ch, h1, o, hlt', rfl⟩ := hy
    obtain ⟨d, own', ch', k1, k2, _, k3, k4⟩ := hget h1
    obtain ⟨_, e2, _⟩ := chEq_ok k3
    have hs := hm.chunk d _ k2
    have hro : own' ≠ .ro := hlentEq rfl k4
    cases own' with
    | ro => exact absurd rfl hro
    | mine => have := hs.fresh rfl (by simp only; rw [e2]; omega); simp [Loc.ad] at hlt; simp at this; omega
    | lent => exact hs.lent rfl o (by simp only; rw [e2]; exact hlt')

end Go.Proofs.Ytnmbimhcfioeiaa.Xf
