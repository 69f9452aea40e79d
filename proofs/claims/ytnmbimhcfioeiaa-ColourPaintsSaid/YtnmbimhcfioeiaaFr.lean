import Derived.Test.YtnmbimhcfioeiaaFq
set_option linter.unusedVariables false
set_option linter.unusedSimpArgs false
/-! Xf, part r: weaker states; functions, and what is said of one. -/
namespace Go.Proofs.Ytnmbimhcfioeiaa.Xf

mutual
/-- The same value, whatever the labels. -/
def eqv : SV → SV → Prop
  | .int k n, v => v = .int k n
  | .bool b, v => v = .bool b
  | .ptr _ L i s f, v => match v with | .ptr _ L' i' s' f' => L = L' ∧ i = i' ∧ s = s' ∧ f = f' | _ => False
  | .sl _ L s lo n, v => match v with | .sl _ L' s' lo' n' => L = L' ∧ s = s' ∧ lo = lo' ∧ n = n' | _ => False
  | .agg cs, v => match v with | .agg ds => eqvs cs ds | _ => False
  | .tup cs, v => match v with | .tup ds => eqvs cs ds | _ => False
  | .fn f cs, v => match v with | .fn g ds => f = g ∧ eqvs cs ds | _ => False
  | .val x, v => v = .val x
def eqvs : List SV → List SV → Prop
  | [], l => match l with | [] => True | _ => False
  | c :: cs, l => match l with | d :: ds => eqv c d ∧ eqvs cs ds | [] => False
end

mutual
theorem eqv_den : ∀ {v v' : SV} {x : Value}, eqv v v' → (Den v x ↔ Den v' x)
  | .int k n, v', x, h => by simp only [eqv] at h; rw [h]
  | .bool b, v', x, h => by simp only [eqv] at h; rw [h]
  | .ptr c L i s f, v', x, h => by
    cases v' <;> simp only [eqv] at h
    obtain ⟨rfl, rfl, rfl, rfl⟩ := h; simp only [Den]
  | .sl c L s lo n, v', x, h => by
    cases v' <;> simp only [eqv] at h
    obtain ⟨rfl, rfl, rfl, rfl⟩ := h; simp only [Den]
  | .agg cs, v', x, h => by
    cases v' <;> simp only [eqv] at h
    simp only [Den]
    exact ⟨fun ⟨vs, h1, h2⟩ => ⟨vs, h1, (eqvs_den h).1 h2⟩, fun ⟨vs, h1, h2⟩ => ⟨vs, h1, (eqvs_den h).2 h2⟩⟩
  | .tup cs, v', x, h => by
    cases v' <;> simp only [eqv] at h
    simp only [Den]
    exact ⟨fun ⟨vs, h1, h2⟩ => ⟨vs, h1, (eqvs_den h).1 h2⟩, fun ⟨vs, h1, h2⟩ => ⟨vs, h1, (eqvs_den h).2 h2⟩⟩
  | .fn f cs, v', x, h => by
    cases v' <;> simp only [eqv] at h
    obtain ⟨rfl, h⟩ := h
    simp only [Den]
    exact ⟨fun ⟨vs, h1, h2⟩ => ⟨vs, h1, (eqvs_den h).1 h2⟩, fun ⟨vs, h1, h2⟩ => ⟨vs, h1, (eqvs_den h).2 h2⟩⟩
  | .val u, v', x, h => by simp only [eqv] at h; rw [h]
theorem eqvs_den : ∀ {cs ds : List SV} {vs : List Value}, eqvs cs ds → (Dens cs vs ↔ Dens ds vs)
  | [], ds, vs, h => by
    cases ds <;> simp only [eqvs] at h
    rfl
  | c :: cs, ds, vs, h => by
    cases ds <;> simp only [eqvs] at h
    simp only [Dens]
    exact ⟨fun ⟨v, vs', h1, h2, h3⟩ => ⟨v, vs', h1, (eqv_den h.1).1 h2, (eqvs_den h.2).1 h3⟩, fun ⟨v, vs', h1, h2, h3⟩ => ⟨v, vs', h1, (eqv_den h.1).2 h2, (eqvs_den h.2).2 h3⟩⟩
end

theorem eqvs_get : ∀ {cs ds : List SV}, eqvs cs ds → cs.length = ds.length ∧ ∀ (i : Nat) (c d : SV), cs[i]? = some c → ds[i]? = some d → eqv c d
  | [], [], _ => by simp
  | [], d :: ds, h => by simp [eqvs] at h
  | c :: cs, [], h => by simp [eqvs] at h
  | c :: cs, d :: ds, h => by
    simp only [eqvs] at h
    have ih := eqvs_get h.2
    refine ⟨by simp [ih.1], fun i c' d' hc hd => ?_⟩
    cases i with
    | zero => simp at hc hd; subst hc hd; exact h.1
    | succ i => exact ih.2 i c' d' (by simpa using hc) (by simpa using hd)

mutual
theorem eqv_symm : ∀ {v v' : SV}, eqv v v' → eqv v' v
  | .int k n, v', h => by simp only [eqv] at h; subst h; simp only [eqv]
  | .bool b, v', h => by simp only [eqv] at h; subst h; simp only [eqv]
  | .ptr c L i s f, v', h => by
    cases v' <;> simp only [eqv] at h ⊢
    obtain ⟨rfl, rfl, rfl, rfl⟩ := h; exact ⟨rfl, rfl, rfl, rfl⟩
  | .sl c L s lo n, v', h => by
    cases v' <;> simp only [eqv] at h ⊢
    obtain ⟨rfl, rfl, rfl, rfl⟩ := h; exact ⟨rfl, rfl, rfl, rfl⟩
  | .agg cs, v', h => by
    cases v' <;> simp only [eqv] at h ⊢
    exact eqvs_symm h
  | .tup cs, v', h => by
    cases v' <;> simp only [eqv] at h ⊢
    exact eqvs_symm h
  | .fn f cs, v', h => by
    cases v' <;> simp only [eqv] at h ⊢
    exact ⟨h.1.symm, eqvs_symm h.2⟩
  | .val u, v', h => by simp only [eqv] at h; subst h; simp only [eqv]
theorem eqvs_symm : ∀ {cs ds : List SV}, eqvs cs ds → eqvs ds cs
  | [], ds, h => by
    cases ds <;> simp only [eqvs] at h ⊢
  | c :: cs, ds, h => by
    cases ds <;> simp only [eqvs] at h ⊢
    exact ⟨eqv_symm h.1, eqvs_symm h.2⟩
end

/-- The same chunk, whatever the labels. -/
def chEq : Chunk → Chunk → Prop
  | .ints k xs, .ints k' ys => k = k' ∧ xs = ys
  | .bools xs, .bools ys => xs = ys
  | .cells cs, .cells ds => eqvs cs ds
  | .recs s fr _ l, .recs s' fr' _ l' => s = s' ∧ l = l' ∧ (fr' = true → fr = true)
  | _, _ => False

theorem chEq_ok {c d : Chunk} (h : chEq c d) : c.len = d.len ∧ (∀ L, c.ext L = d.ext L) ∧ (∀ L, c.fits L ↔ d.fits L) ∧ (∀ o x, o < c.len → (Den (c.cell o) x ↔ Den (d.cell o) x)) ∧ (∀ L k xs, c.rows L k xs ↔ d.rows L k xs) ∧ (d.fr = true → c.fr = true) := by
  cases c <;> cases d <;> simp only [chEq] at h
  · obtain ⟨rfl, rfl⟩ := h; exact ⟨rfl, fun _ => rfl, fun _ => Iff.rfl, fun _ _ _ => Iff.rfl, fun _ _ _ => Iff.rfl, id⟩
  · subst h; exact ⟨rfl, fun _ => rfl, fun _ => Iff.rfl, fun _ _ _ => Iff.rfl, fun _ _ _ => Iff.rfl, id⟩
  · rename_i cs ds
    have hg := eqvs_get h
    refine ⟨hg.1, fun _ => hg.1, fun _ => Iff.rfl, fun o x ho => ?_, fun _ _ _ => Iff.rfl, id⟩
    simp only [Chunk.len] at ho
    have h1 : cs[o]? = some cs[o] := List.getElem?_eq_getElem ho
    have h2 : ds[o]? = some (ds[o]'(by omega)) := List.getElem?_eq_getElem (by omega)
    simp only [Chunk.cell, List.getD_eq_getElem?_getD, h1, h2, Option.getD_some]
    exact eqv_den (hg.2 o _ _ h1 h2)
  · obtain ⟨rfl, rfl, h⟩ := h; exact ⟨rfl, fun _ => rfl, fun _ => Iff.rfl, fun _ _ _ => Iff.rfl, fun _ _ _ => Iff.rfl, h⟩

/-- May what is held so be told to be held so? -/
def ownLe : Own → Own → Prop
  | _, .ro => True
  | .rof, .rof => True
  | .mine, .rof => True
  | .mine, .mine => True
  | .lent, .lent => True
  | .mine, .got => True
  | .lent, .got => True
  | .got, .got => True
  | _, _ => False

theorem ownLe.wr {own own' : Own} (h : ownLe own own') (hw : own'.wr = true) : own.wr = true := by
  cases own <;> cases own' <;> first | exact h.elim | rfl | (cases hw; done)
theorem ownLe.home {own own' : Own} (h : ownLe own own') {w0 : World} {W : Addr → Prop} {a : Addr} (ha : homeOk w0 W own a) : homeOk w0 W own' a := by
  cases own <;> cases own' <;> first | exact h.elim | trivial | exact ha | exact .inl ha | exact .inr ha

theorem rows_iff {c d : Chunk} (h : ∀ L k xs, c.rows L k xs ↔ d.rows L k xs) (a : Addr) : rows c a ↔ rows d a :=
  ⟨fun ⟨L, k, xs, hr, h'⟩ => ⟨L, k, xs, (h _ _ _).1 hr, h'⟩, fun ⟨L, k, xs, hr, h'⟩ => ⟨L, k, xs, (h _ _ _).2 hr, h'⟩⟩

theorem eq_feet {own own' : Own} {L : Loc} {c d : Chunk} (e : chEq c d) (ho : ownLe own own') (hf : c.fits L) : (∀ a, wf (own', L, d) a → wf (own, L, c) a) ∧ (∀ a, rf (own', L, d) a → rf (own, L, c) a) ∧ reg (own', L, d) ≤ reg (own, L, c) := by
  obtain ⟨h1, h2, h3, h4, h5, _⟩ := chEq_ok e
  have hle := Chunk.len_le_ext hf
  have hreg : reg (own', L, d) ≤ reg (own, L, c) := by
    unfold reg
    cases hw : own'.wr with
    | true => simp only [ho.wr hw, cond_true]; rw [h2 L]; exact Nat.le_refl _
    | false =>
      cases hw2 : own.wr with
      | true => simp only [cond_true, cond_false]; rw [← h1]; exact hle
      | false => simp only [cond_false]; rw [h1]; exact Nat.le_refl _
  refine ⟨fun a ⟨g1, o, g2, g3⟩ => ⟨ho.wr g1, o, ?_, g3⟩, fun a ha => ?_, hreg⟩
  · simp only at g2 ⊢; rw [h2 L]; exact g2
  · rcases ha with ⟨o, ho', e'⟩ | h
    · exact .inl ⟨o, Nat.lt_of_lt_of_le ho' hreg, e'⟩
    · exact .inr ((rows_iff h5 a).2 h)

theorem ChunkSat.eq {w0 w : World} {W : Addr → Prop} {own own' : Own} {L : Loc} {c d : Chunk} (h : ChunkSat w0 W (own, L, c) w) (e : chEq c d) (ho : ownLe own own') : ChunkSat w0 W (own', L, d) w := by
  obtain ⟨h1, h2, h3, h4, h5, h6⟩ := chEq_ok e
  obtain ⟨f1, f2, f3⟩ := eq_feet e ho h.fits
  refine ⟨fun o ho => ?_, fun L' k xs hr => ?_, fun a ha hra => h.self a (f1 a ha) ((rows_iff h5 a).2 hra), fun hn o hlt => ?_, (h3 L).1 h.fits, fun o hlt => ho.home (h.home o (Nat.lt_of_lt_of_le hlt f3))⟩
  · simp only at ho
    obtain ⟨v, hv, hd⟩ := h.cell o (by simp only; omega)
    exact ⟨v, hv, (h4 o v (by omega)).1 hd⟩
  · obtain ⟨g1, g2, g3, g4⟩ := h.row L' k xs ((h5 _ _ _).2 hr)
    exact ⟨g1, g2, g3, fun hf => g4 (h6 hf)⟩
  · simp only at hlt
    exact h.mineW (ho.wr hn) o (by simp only [h2 L]; exact hlt)

def chNil : Chunk → Prop
  | .ints _ xs => xs = []
  | .bools xs => xs = []
  | .cells _ => False
  | .recs s _ _ l => l = [] ∧ 0 < s

def idHas : List (Option Nat) → Nat → Bool
  | [], _ => false
  | none :: l, c => idHas l c
  | some d :: l, c => d == c || idHas l c
def idNodup : List (Option Nat) → Bool
  | [] => true
  | none :: l => idNodup l
  | some d :: l => !idHas l d && idNodup l

/-- The chunks of m' are those of m at the places that g tells; none: a nil slice's, of no cells. -/
def memC (m : Mem) : List (Option Nat) → Mem → Prop
  | _, [] => True
  | g, none :: m' => memC m g.tail m'
  | some d :: g, some (own', L', ch') :: m' => (match lk m d with | some (own, L, ch) => ownLe own own' ∧ L = L' ∧ chEq ch ch' | none => False) ∧ memC m g m'
  | none :: g, some (own', L', ch') :: m' => L' = nilLoc ∧ chNil ch' ∧ memC m g m'
  | [], some _ :: _ => False

/-- The places that are used. -/
def used : List (Option Nat) → Mem → List (Option Nat)
  | _, [] => []
  | g, none :: m' => used g.tail m'
  | d :: g, some _ :: m' => d :: used g m'
  | [], some _ :: m' => used [] m'

theorem memC_get {m : Mem} : ∀ {m' : Mem} {g : List (Option Nat)}, memC m g m' → ∀ {c : Nat} {own' : Own} {L' : Loc} {ch' : Chunk}, lk m' c = some (own', L', ch') →
    (∃ d own ch, g[c]? = some (some d) ∧ lk m d = some (own, L', ch) ∧ chEq ch ch' ∧ ownLe own own') ∨ (L' = nilLoc ∧ chNil ch')
  | [], g, h, c, own', L', ch', hc => by simp [lk] at hc
  | none :: m', g, h, c, own', L', ch', hc => by
    simp only [memC] at h
    cases c with
    | zero => simp [lk] at hc
    | succ c =>
      simp only [lk] at hc
      rcases memC_get h hc with ⟨d, own, ch, h1, h2, h3⟩ | h
      · refine .inl ⟨d, own, ch, ?_, h2, h3⟩
        cases g <;> first | (simp at h1; done) | simpa using h1
      · exact .inr h
  | some e :: m', [], h, c, own', L', ch', hc => by simp [memC] at h
  | some (o, M, k) :: m', some d :: g, h, c, own', L', ch', hc => by
    simp only [memC] at h
    cases c with
    | zero =>
      simp only [lk] at hc
      cases hc
      have h1 := h.1
      split at h1
      · rename_i own L ch hl
        obtain ⟨h2, rfl, h3⟩ := h1
        exact .inl ⟨d, own, ch, by simp, hl, h3, h2⟩
      · exact h1.elim
    | succ c =>
      simp only [lk] at hc
      rcases memC_get h.2 hc with ⟨d, own, ch, h1, h2, h3⟩ | h
      · exact .inl ⟨d, own, ch, by simpa using h1, h2, h3⟩
      · exact .inr h
  | some (o, M, k) :: m', none :: g, h, c, own', L', ch', hc => by
    simp only [memC] at h
    cases c with
    | zero =>
      simp only [lk] at hc
      cases hc
      exact .inr ⟨h.1, h.2.1⟩
    | succ c =>
      simp only [lk] at hc
      rcases memC_get h.2.2 hc with ⟨d, own, ch, h1, h2, h3⟩ | h
      · exact .inl ⟨d, own, ch, by simpa using h1, h2, h3⟩
      · exact .inr h

theorem idHas_mem : ∀ {l : List (Option Nat)} {c : Nat}, some c ∈ l → idHas l c = true
  | none :: l, c, h => by simp at h; simpa [idHas] using idHas_mem h
  | some d :: l, c, h => by
    simp at h
    rcases h with rfl | h
    · simp [idHas]
    · simp [idHas, idHas_mem h]

theorem used_nodup {m' : Mem} : ∀ {g : List (Option Nat)}, idNodup (used g m') = true → ∀ {c c' : Nat} {e e' : ME} {d : Nat}, lk m' c = some e → lk m' c' = some e' → g[c]? = some (some d) → g[c']? = some (some d) → c = c' := by
  induction m' with
  | nil => intro g h c c' e e' d h1; simp [lk] at h1
  | cons x m' ih =>
    have usedMem : ∀ (m' : Mem) (g : List (Option Nat)) (c : Nat) (e : ME) (d : Nat), lk m' c = some e → g[c]? = some (some d) → some d ∈ used g m' := by
      intro m'
      induction m' with
      | nil => intro g c e d h; simp [lk] at h
      | cons x m' ih =>
        intro g c e d h1 h2
        cases x with
        | none =>
          cases c with
          | zero => simp [lk] at h1
          | succ c => simp only [lk] at h1; simp only [used]; exact ih _ c e d h1 (by cases g <;> first | (simp at h2; done) | simpa using h2)
        | some x =>
          cases g with
          | nil => simp at h2
          | cons y g =>
            cases c with
            | zero => simp at h2; simp [used, h2]
            | succ c => simp only [lk] at h1; simp only [used, List.mem_cons]; exact .inr (ih _ c e d h1 (by simpa using h2))
    intro g h c c' e e' d h1 h2 h3 h4
    cases x with
    | none =>
      cases c with
      | zero => simp [lk] at h1
      | succ c =>
        cases c' with
        | zero => simp [lk] at h2
        | succ c' =>
          simp only [lk] at h1 h2
          have := ih (g := g.tail) (by simpa [used] using h) h1 h2 (by cases g <;> first | (simp at h3; done) | simpa using h3) (by cases g <;> first | (simp at h4; done) | simpa using h4)
          omega
    | some x =>
      cases g with
      | nil => simp at h3
      | cons y g =>
        have hy : ∀ n, y = some n → idHas (used g m') n = false ∧ idNodup (used g m') = true := by
          intro n hn; subst hn; simpa [used, idNodup] using h
        have hrest : idNodup (used g m') = true := by
          cases y with
          | none => simpa [used, idNodup] using h
          | some n => exact (hy n rfl).2
        cases c with
        | zero =>
          cases c' with
          | zero => rfl
          | succ c' =>
            simp at h3 h4
            simp only [lk] at h2
            have := idHas_mem (usedMem m' g c' e' d h2 h4)
            rw [(hy d h3).1] at this
            cases this
        | succ c =>
          cases c' with
          | zero =>
            simp at h3 h4
            simp only [lk] at h1
            have := idHas_mem (usedMem m' g c e d h1 h3)
            rw [(hy d h4).1] at this
            cases this
          | succ c' =>
            simp only [lk] at h1 h2
            have := ih hrest h1 h2 (by simpa using h3) (by simpa using h4)
            omega

theorem chNil_len {ch : Chunk} (h : chNil ch) : ch.len = 0 ∧ ch.ext nilLoc = 0 ∧ ch.fits nilLoc ∧ ∀ L k xs, ¬ ch.rows L k xs := by
  cases ch <;> simp only [chNil] at h
  · subst h; exact ⟨rfl, rfl, by simp [Chunk.fits, nilLoc0], fun _ _ _ h => h⟩
  · subst h; exact ⟨rfl, rfl, by simp [Chunk.fits, nilLoc0], fun _ _ _ h => h⟩
  · obtain ⟨rfl, hs⟩ := h
    exact ⟨by simp [Chunk.len], by simp [Chunk.ext, nilLoc0], by simp [Chunk.fits, nilLoc0, hs], fun _ _ _ ⟨r, hr, _⟩ => by simp at hr⟩

theorem nil_reg {ch : Chunk} (h : chNil ch) (own : Own) : reg (own, nilLoc, ch) = 0 := by
  obtain ⟨g1, g2, g3, g4⟩ := chNil_len h
  unfold reg
  cases own.wr
  · exact g1
  · exact g2
theorem nil_feet {ch : Chunk} (h : chNil ch) (own : Own) (a : Addr) : ¬ wf (own, nilLoc, ch) a ∧ ¬ rf (own, nilLoc, ch) a := by
  obtain ⟨g1, g2, g3, g4⟩ := chNil_len h
  refine ⟨fun ⟨_, o, ho, _⟩ => by simp only at ho; omega, fun hr => ?_⟩
  rcases hr with ⟨o, ho, _⟩ | ⟨L, k, xs, hr, _⟩
  · rw [nil_reg h] at ho; omega
  · exact g4 _ _ _ hr
theorem nil_sat {w0 w : World} {W : Addr → Prop} {ch : Chunk} (h : chNil ch) (own : Own) : ChunkSat w0 W (own, nilLoc, ch) w := by
  obtain ⟨g1, g2, g3, g4⟩ := chNil_len h
  exact ⟨fun o ho => by simp only at ho; omega, fun L k xs hr => (g4 _ _ _ hr).elim, fun a ha => ((nil_feet h own a).1 ha).elim, fun _ o ho => by simp only at ho; omega, g3, fun o ho => by rw [nil_reg h] at ho; omega⟩

theorem MemSat.memC {w0 w : World} {W : Addr → Prop} {m m' : Mem} {g : List (Option Nat)} (h : MemSat w0 W m w) (hc : memC m g m') (hn : idNodup (used g m') = true) : MemSat w0 W m' w := by
  refine ⟨fun c e he => ?_, fun c d e f hcd he hf a ha hra => ?_⟩
  · obtain ⟨own, L, ch⟩ := e
    rcases memC_get hc he with ⟨d, own0, ch0, h1, h2, h3, h4⟩ | ⟨rfl, h3⟩
    · exact (h.chunk d _ h2).eq h3 h4
    · exact nil_sat h3 own
  · obtain ⟨own, L, ch⟩ := e
    obtain ⟨own', L', ch'⟩ := f
    rcases memC_get hc he with ⟨i, own0, ch0, h1, h2, h3, h4⟩ | ⟨rfl, h3⟩
    · rcases memC_get hc hf with ⟨j, own1, ch1, k1, k2, k3, k4⟩ | ⟨rfl, k3⟩
      · have hij : i ≠ j := fun e => hcd (used_nodup hn he hf h1 (by rw [k1, e]))
        exact h.sep i j _ _ hij h2 k2 a ((eq_feet h3 h4 (h.chunk i _ h2).fits).1 a ha) ((eq_feet k3 k4 (h.chunk j _ k2).fits).2.1 a hra)
      · exact (nil_feet k3 _ a).2 hra
    · exact (nil_feet h3 _ a).1 ha

def slotC : List Ent → List Ent → Prop
  | [], [] => True
  | _ :: l, none :: l' => slotC l l'
  | some (c, v) :: l, some (c', v') :: l' => c = true ∧ c' = true ∧ eqv v v' ∧ slotC l l'
  | _, _ => False

theorem slotC_get : ∀ {l l' : List Ent}, slotC l l' → l.length = l'.length ∧ ∀ n c v, lk l' n = some (c, v) → c = true ∧ ∃ v0, lk l n = some (true, v0) ∧ eqv v0 v
  | [], [], _ => by simp [lk]
  | [], none :: l', h => by simp [slotC] at h
  | [], some _ :: l', h => by simp [slotC] at h
  | x :: l, [], h => by simp [slotC] at h
  | x :: l, none :: l', h => by
    simp only [slotC] at h
    have ih := slotC_get h
    refine ⟨by simp [ih.1], fun n c v hn => ?_⟩
    cases n with
    | zero => simp [lk] at hn
    | succ n => simp only [lk] at hn ⊢; exact ih.2 n c v hn
  | none :: l, some e :: l', h => by simp [slotC] at h
  | some (c0, v0) :: l, some (c1, v1) :: l', h => by
    simp only [slotC] at h
    obtain ⟨rfl, rfl, he, h⟩ := h
    have ih := slotC_get h
    refine ⟨by simp [ih.1], fun n c v hn => ?_⟩
    cases n with
    | zero => simp only [lk] at hn ⊢; cases hn; exact ⟨rfl, v0, rfl, he⟩
    | succ n => simp only [lk] at hn ⊢; exact ih.2 n c v hn

/-- The way to show Sub. -/
theorem Sub.of {sl sl' : List Ent} {m m' : Mem} (g : List (Option Nat)) (h : slotC sl sl' ∧ memC m g m' ∧ idNodup (used g m') = true) : Sub sl m sl' m' := by
  intro w0 W a w hs
  obtain ⟨h1, h2, h3⟩ := h
  have hg := slotC_get h1
  refine ⟨hs.defers, by rw [hs.size, hg.1], fun n c v hl => ?_, hs.mem.memC h2 h3, hs.kept⟩
  obtain ⟨rfl, v0, hl0, he⟩ := hg.2 n c v hl
  have := hs.slots n true v0 hl0
  simp only [if_true] at this ⊢
  exact (eqv_den he).1 this

end Go.Proofs.Ytnmbimhcfioeiaa.Xf
