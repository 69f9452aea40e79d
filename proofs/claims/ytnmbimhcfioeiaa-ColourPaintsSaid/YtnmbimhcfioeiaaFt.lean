import Derived.Test.YtnmbimhcfioeiaaFp
set_option linter.unusedVariables false
set_option linter.unusedSimpArgs false
/-! Xf, part t: two operations that do not touch each other may stand in either order; so any order that the edges allow does as well as the text's. -/
namespace Go.Proofs.Ytnmbimhcfioeiaa.Xf

section
variable {sp : Sp} {spP : SpP}

theorem apU_lk_out : ∀ {u : Upd} {m : Mem} {c : Nat}, (∀ e, (c, e) ∉ u) → lk (apU m u) c = lk m c
  | [], m, c, _ => rfl
  | (d, e) :: u, m, c, h => by
    simp only [apU]
    rw [apU_lk_out (fun e' he => h e' (by simp [he])), lk_st_ne]
    rintro rfl
    exact h e (by simp)

theorem apU_lk_in : ∀ {u : Upd} {m : Mem} {c : Nat} {x : ME}, lk (apU m u) c = some x → (∃ e, (c, e) ∈ u) → (c, some x) ∈ u ∨ ((∃ e, (c, e) ∈ u) ∧ lk m c = some x ∧ False) ∨ (c, some x) ∈ u
  | [], m, c, x, h, ⟨e, he⟩ => by simp at he
  | (d, e) :: u, m, c, x, h, hm => by
    simp only [apU] at h
    by_cases hu : ∃ e', (c, e') ∈ u
    · rcases apU_lk_in h hu with h | ⟨_, _, h⟩ | h
      · exact .inl (by simp [h])
      · exact h.elim
      · exact .inl (by simp [h])
    · rw [apU_lk_out (fun e' he => hu ⟨e', he⟩)] at h
      obtain ⟨e0, he0⟩ := hm
      simp only [List.mem_cons] at he0
      rcases he0 with h0 | h0
      · cases h0
        rw [lk_st] at h
        split at h
        · subst h; exact .inl (by simp)
        · rename_i hn
          -- out of range: nothing there
          exfalso
          have := lk_lt h
          exact hn ⟨rfl, this⟩
      · exact absurd ⟨_, h0⟩ hu

theorem apU_st_comm : ∀ (u : Upd) (m : Mem) (c : Nat) (e : Option ME), (∀ e', (c, e') ∉ u) → apU (st m c e) u = st (apU m u) c e
  | [], m, c, e, _ => rfl
  | (d, x) :: u, m, c, e, h => by
    simp only [apU]
    rw [st_comm m c d e x (fun hcd => h x (by simp [hcd])), apU_st_comm u _ c e (fun e' he => h e' (by simp [he]))]

theorem apU_comm : ∀ (u v : Upd) (m : Mem), (∀ c e e', (c, e) ∈ u → (c, e') ∉ v) → apU (apU m u) v = apU (apU m v) u
  | [], v, m, _ => rfl
  | (c, e) :: u, v, m, h => by
    simp only [apU]
    rw [apU_comm u v (st m c e) (fun c' e1 e2 h1 => h c' e1 e2 (by simp [h1])), apU_st_comm v m c e (fun e' he => h c e e' (by simp) he)]

theorem putE_comm (sl : List Ent) (x y : Option Nat) (a b : Ent) (h : ∀ d, x = some d → y ≠ some d) : putE (putE sl x a) y b = putE (putE sl y b) x a := by
  cases x <;> cases y <;> simp only [putE]
  rename_i d d'
  exact st_comm _ _ _ _ _ (fun e => h d rfl (by rw [e]))

theorem putE_lk (sl : List Ent) (x : Option Nat) (a : Ent) (n : Nat) (h : x ≠ some n) : lk (putE sl x a) n = lk sl n := by
  cases x with
  | none => rfl
  | some d => exact lk_st_ne (fun e => h (by rw [e]))

/-- An operation as one step: what it owes, and the state behind it. -/
def oneS (sp : Sp) (spP : SpP) (o : IRO) (x : Nat → Loc) (sl : List Ent) (m : Mem) : Option (Prop × List Ent × Mem) :=
  match guardOf sl o.guard with
  | none => none
  | some g => match stepF sp spP o.no x sl (lk m) o.op with
    | none => none
    | some (p, v, u) => some (((g = true → p) ∧ (g = true ∨ u = [])), putE sl o.dst (some (g, v)), apU m u)

def evX (sp : Sp) (spP : SpP) (o : IRO) (sl : List Ent) (m : Mem) (K : List Ent → Mem → Prop) : Prop :=
  ∀ x, ∃ p sl' m', oneS sp spP o x sl m = some (p, sl', m') ∧ p ∧ K sl' m'

theorem stepF_same {no : Lim} {sl : List Ent} {look : Look} {o : IROp} (x y : Nat → Loc) (h : o.makes = false) : stepF sp spP no x sl look o = stepF sp spP no y sl look o := by
  cases o <;> simp only [IROp.makes] at h <;> first | rfl | cases h

theorem evX_iff {o : IRO} {sl : List Ent} {m : Mem} {K : List Ent → Mem → Prop} : evO sp spP o sl m K ↔ evX sp spP o sl m K := by
  unfold evO evX oneS
  cases hg : guardOf sl o.guard with
  | none => simp
  | some g =>
    simp only
    have one : ∀ x, stepK sp spP o g x sl m K ↔ ∃ p sl' m', (match stepF sp spP o.no x sl (lk m) o.op with
        | none => none
        | some (p, v, u) => some (((g = true → p) ∧ (g = true ∨ u = [])), putE sl o.dst (some (g, v)), apU m u)) = some (p, sl', m') ∧ p ∧ K sl' m' := by
      intro x
      unfold stepK
      cases hs : stepF sp spP o.no x sl (lk m) o.op with
      | none => simp
      | some r =>
        obtain ⟨p, v, u⟩ := r
        simp only
        constructor
        · rintro ⟨h1, h2, h3⟩; exact ⟨_, _, _, rfl, ⟨h1, h2⟩, h3⟩
        · rintro ⟨p', s', m', h, hp, hk⟩
          cases h
          exact ⟨hp.1, hp.2, hk⟩
    cases hm : o.op.makes with
    | true =>
      simp only [cond_true]
      exact forall_congr' one
    | false =>
      simp only [cond_false]
      rw [one]
      constructor
      · intro h x
        rw [stepF_same x (fun _ => default) hm]
        exact h
      · intro h; exact h _

theorem noHas_mem {l : List Nat} {c : Nat} : noHas l c = false → c ∉ l := by
  induction l with
  | nil => simp
  | cons a l ih =>
    intro h
    simp only [noHas, Bool.or_eq_false_iff, beq_eq_false_iff_ne, ne_eq] at h
    simp only [List.mem_cons, not_or]
    exact ⟨fun e => h.1 e.symm, ih h.2⟩

theorem Foot.sees_looks {f : Foot} {e : ME} (h : f.sees e = true) : f.looks = true := by
  simp only [Foot.sees] at h
  unfold Foot.looks
  cases hr : e.2.2.row <;> simp [hr] at h <;> simp [h]
theorem Foot.writes_looks {f : Foot} {e : ME} (h : f.writes e = true) : f.looks = true := by
  simp only [Foot.writes] at h
  unfold Foot.looks
  cases hr : e.2.2.row <;> simp [hr] at h <;> simp [h]

structure Compat (x y : IRO) : Prop where
  d1 : ∀ d, x.dst = some d → d ∉ y.looks
  d2 : ∀ d, y.dst = some d → d ∉ x.looks
  d3 : ∀ d, x.dst = some d → y.dst ≠ some d
  all1 : (footOf x.op).all = true → (footOf y.op).pure = true
  all2 : (footOf y.op).all = true → (footOf x.op).pure = true
  w1 : ∀ c e, refuses x.no c = false → refuses y.no c = false → (footOf x.op).writes e = true → (footOf y.op).sees e = true → False
  w2 : ∀ c e, refuses x.no c = false → refuses y.no c = false → (footOf y.op).writes e = true → (footOf x.op).sees e = true → False
  ww : ∀ c e, refuses x.no c = false → refuses y.no c = false → (footOf x.op).writes e = true → (footOf y.op).writes e = true → False
  k1 : (footOf x.op).mks = true → (footOf y.op).looks = true → ∀ c, x.op.kOf ≤ c → c < x.op.kOf + x.op.nOf.getD 0 → refuses y.no c = true
  k2 : (footOf y.op).mks = true → (footOf x.op).looks = true → ∀ c, y.op.kOf ≤ c → c < y.op.kOf + y.op.nOf.getD 0 → refuses x.no c = true
  kk : (footOf x.op).mks = true → (footOf y.op).mks = true → x.op.kOf + x.op.nOf.getD 0 ≤ y.op.kOf ∨ y.op.kOf + y.op.nOf.getD 0 ≤ x.op.kOf

theorem Compat.symm {x y : IRO} (h : Compat x y) : Compat y x :=
  ⟨h.d2, h.d1, fun d h1 h2 => h.d3 d h2 h1, h.all2, h.all1, fun c e p q => h.w2 c e q p, fun c e p q => h.w1 c e q p, fun c e p q a b => h.ww c e q p b a, h.k2, h.k1, fun a b => (h.kk b a).symm⟩

theorem compat_ok {x y : IRO} (h : compat x y = true) : Compat x y := by
  unfold compat at h
  simp only [Bool.and_eq_true, Bool.not_eq_true'] at h
  obtain ⟨⟨⟨⟨⟨⟨⟨h1, h2⟩, h3⟩, h4⟩, h58⟩, h9⟩, h10⟩, h11⟩ := h
  simp only [Bool.or_eq_true, Bool.and_eq_true, Bool.not_eq_true'] at h58
  refine ⟨fun d hd => ?_, fun d hd => ?_, fun d hd hd' => ?_, fun ha => ?_, fun ha => ?_, fun c e hx hy hw hs => ?_, fun c e hx hy hw hs => ?_, fun c e hx hy hw hs => ?_, fun hm hl => ?_, fun hm hl => ?_, fun hm hm' => ?_⟩
  · rw [hd] at h1
    simp only [Bool.and_eq_true, Bool.not_eq_true'] at h1
    exact noHas_mem h1.1
  · rw [hd] at h2
    simp only [Bool.not_eq_true'] at h2
    exact noHas_mem h2
  · rw [hd, hd'] at h1
    simp at h1
  · rw [ha] at h3; simpa using h3
  · rw [ha] at h4; simpa using h4
  · rcases h58 with h58 | ⟨⟨⟨h5, h6⟩, h7⟩, h8⟩
    · exact apartL_ok h58 c hx hy
    simp only [Foot.writes, Foot.sees] at hw hs
    cases hr : e.2.2.row <;> simp [hr] at hw hs <;> simp [hw, hs] at h5 h6
  · rcases h58 with h58 | ⟨⟨⟨h5, h6⟩, h7⟩, h8⟩
    · exact apartL_ok h58 c hx hy
    simp only [Foot.writes, Foot.sees] at hw hs
    cases hr : e.2.2.row <;> simp [hr] at hw hs <;> simp [hw, hs] at h7 h8
  · rcases h58 with h58 | ⟨⟨⟨h5, h6⟩, h7⟩, h8⟩
    · exact apartL_ok h58 c hx hy
    simp only [Foot.writes] at hw hs
    cases hr : e.2.2.row <;> simp [hr] at hw hs <;> simp [hw, hs] at h5 h6
  · rw [hm, hl] at h9; exact idsIn_ok (by simpa using h9)
  · rw [hm, hl] at h10; exact idsIn_ok (by simpa using h10)
  · rw [hm, hm'] at h11
    simp only [Bool.true_and, Bool.not_eq_false', Bool.or_eq_true, decide_eq_true_eq] at h11
    simpa using h11

theorem guard_congr {sl sl' : List Ent} {g : Option (Nat × Bool)} (h : ∀ n p, g = some (n, p) → lk sl n = lk sl' n) : guardOf sl g = guardOf sl' g := by
  cases g with
  | none => rfl
  | some g => obtain ⟨n, p⟩ := g; simp only [guardOf]; rw [h n p rfl]

theorem mem_looks_guard {o : IRO} {n : Nat} {p : Bool} (h : o.guard = some (n, p)) : n ∈ o.looks := by simp [IRO.looks, h]
theorem mem_looks_slot {o : IRO} {n : Nat} (h : n ∈ slotsOf o.op) : n ∈ o.looks := by simp [IRO.looks, h]

/-- Where y's turns are not x's to see. -/
theorem unseen {x y : IRO} (hc : Compat x y) {m : Mem} {u : Upd} (hu : UpdOk y.op y.no (lk m) u) (hy : (footOf y.op).all = false) {c : Nat} {e : ME} (hn : refuses x.no c = false) (hs : (footOf x.op).sees e = true)
    (h : lk m c = some e ∨ lk (apU m u) c = some e) : ∀ e', (c, e') ∉ u := by
  intro e' he'
  rcases hu c e' he' with ⟨hk1, hk2, hmk⟩ | ⟨hny, e0, h0, hw, _, hrow⟩
  · have := hc.k2 hmk (Foot.sees_looks hs) c hk1 hk2
    rw [hn] at this; cases this
  · rcases h with h | h
    · rw [h0] at h; cases h
      exact hc.w2 c _ hn hny hw hs
    · rcases apU_lk_in h ⟨_, he'⟩ with h1 | ⟨_, _, h1⟩ | h1
      · rcases hu c _ h1 with ⟨hk1, hk2, hmk⟩ | ⟨_, e2, h2, hw2, _, hrow2⟩
        · have := hc.k2 hmk (Foot.sees_looks hs) c hk1 hk2
          rw [hn] at this; cases this
        · have hr := hrow2 e rfl
          refine hc.w2 c e2 hn hny hw2 ?_
          simp only [Foot.sees] at hs ⊢
          rw [← hr]; exact hs
      · exact h1
      · rcases hu c _ h1 with ⟨hk1, hk2, hmk⟩ | ⟨_, e2, h2, hw2, _, hrow2⟩
        · have := hc.k2 hmk (Foot.sees_looks hs) c hk1 hk2
          rw [hn] at this; cases this
        · have hr := hrow2 e rfl
          refine hc.w2 c e2 hn hny hw2 ?_
          simp only [Foot.sees] at hs ⊢
          rw [← hr]; exact hs

theorem pure_foot {f : Foot} (h : f.pure = true) : f.rS = false ∧ f.wS = false ∧ f.rA = false ∧ f.wA = false ∧ f.mks = false ∧ f.all = false := by
  simp only [Foot.pure, Bool.not_eq_true', Bool.or_eq_false_iff] at h
  exact ⟨h.1.1.1.1.1, h.1.1.1.1.2, h.1.1.1.2, h.1.1.2, h.1.2, h.2⟩

theorem pure_upd {o : IROp} {no : Lim} {look : Look} {u : Upd} (hp : (footOf o).pure = true) (h : UpdOk o no look u) : u = [] := by
  obtain ⟨h1, h2, h3, h4, h5, h6⟩ := pure_foot hp
  cases u with
  | nil => rfl
  | cons a u =>
    obtain ⟨c, e⟩ := a
    rcases h c e (by simp) with ⟨_, _, hk⟩ | ⟨_, e0, _, hw, _⟩
    · rw [h5] at hk; cases hk
    · simp only [Foot.writes] at hw
      cases hr : e0.2.2.row <;> simp [hr, h2, h4] at hw

/-- The diamond. -/
theorem diamond {a b : IRO} (hc : Compat a b) {x y : Nat → Loc} {sl sl1 sl2 : List Ent} {m m1 m2 : Mem} {p q : Prop} (h1 : oneS sp spP a x sl m = some (p, sl1, m1)) (h2 : oneS sp spP b y sl1 m1 = some (q, sl2, m2)) :
    ∃ sl' m', oneS sp spP b y sl m = some (q, sl', m') ∧ oneS sp spP a x sl' m' = some (p, sl2, m2) := by
  unfold oneS at h1
  split at h1
  · cases h1
  rename_i ga hga
  split at h1
  · cases h1
  rename_i pa va ua hsa
  cases h1
  unfold oneS at h2
  split at h2
  · cases h2
  rename_i gb hgb
  split at h2
  · cases h2
  rename_i pb vb ub hsb
  cases h2
  have hla : ∀ n ∈ b.looks, lk (putE sl a.dst (some (ga, va))) n = lk sl n := fun n hn => putE_lk _ _ _ _ fun e => hc.d1 n e hn
  have hgb' : guardOf sl b.guard = some gb := by
    rw [← hgb]
    exact (guard_congr fun n p hp => hla n (mem_looks_guard hp)).symm
  have hsb0 : stepF sp spP b.no y sl (lk (apU m ua)) b.op = some (pb, vb, ub) := by
    rw [← hsb]
    exact (stepF_slots fun n hn => hla n (mem_looks_slot hn)).symm
  -- b without a's turns
  have hsb' : stepF sp spP b.no y sl (lk m) b.op = some (pb, vb, ub) := by
    cases hball : (footOf b.op).all with
    | true =>
      have hp := hc.all2 hball
      have := pure_upd hp (stepF_upd (pure_foot hp).2.2.2.2.2 hsa)
      subst this
      exact hsb0
    | false =>
      have key : ∀ c e, refuses b.no c = false → (footOf b.op).sees e = true → (lk m c = some e ∨ lk (apU m ua) c = some e) → lk (apU m ua) c = lk m c := by
        intro c e hn hs hl
        cases haall : (footOf a.op).all with
        | true =>
          have hp := hc.all1 haall
          have := pure_foot hp
          simp only [Foot.sees] at hs
          cases hr : e.2.2.row <;> simp [hr, this.1, this.2.2.1] at hs
        | false =>
          exact apU_lk_out (unseen hc.symm (stepF_upd haall hsa) haall hn hs hl)
      exact stepF_look hball hsb0 (fun c e hn hs hl => by rw [← key c e hn hs (.inr hl)]; exact hl) (fun c e hn hs hl => by rw [key c e hn hs (.inl hl)]; exact hl)
  have hlb : ∀ n ∈ a.looks, lk (putE sl b.dst (some (gb, vb))) n = lk sl n := fun n hn => putE_lk _ _ _ _ fun e => hc.d2 n e hn
  have hga' : guardOf (putE sl b.dst (some (gb, vb))) a.guard = some ga := by
    rw [← hga]
    exact guard_congr fun n p hp => hlb n (mem_looks_guard hp)
  have hsa' : stepF sp spP a.no x (putE sl b.dst (some (gb, vb))) (lk (apU m ub)) a.op = some (pa, va, ua) := by
    rw [stepF_slots fun n hn => hlb n (mem_looks_slot hn)]
    cases haall : (footOf a.op).all with
    | true =>
      have hp := hc.all1 haall
      have := pure_upd hp (stepF_upd (pure_foot hp).2.2.2.2.2 hsb')
      subst this
      exact hsa
    | false =>
      have key : ∀ c e, refuses a.no c = false → (footOf a.op).sees e = true → (lk m c = some e ∨ lk (apU m ub) c = some e) → lk (apU m ub) c = lk m c := by
        intro c e hn hs hl
        cases hball : (footOf b.op).all with
        | true =>
          have hp := hc.all2 hball
          have := pure_foot hp
          simp only [Foot.sees] at hs
          cases hr : e.2.2.row <;> simp [hr, this.1, this.2.2.1] at hs
        | false =>
          exact apU_lk_out (unseen hc (stepF_upd hball hsb') hball hn hs hl)
      exact stepF_look haall hsa (fun c e hn hs hl => by rw [key c e hn hs (.inl hl)]; exact hl) (fun c e hn hs hl => by rw [← key c e hn hs (.inr hl)]; exact hl)
  refine ⟨putE sl b.dst (some (gb, vb)), apU m ub, ?_, ?_⟩
  · unfold oneS; rw [hgb']; simp only; rw [hsb']
  · unfold oneS
    rw [hga']
    simp only
    rw [hsa']
    simp only
    rw [putE_comm _ _ _ _ _ (fun d hd e => hc.d3 d e hd)]
    -- the turns do not meet
    have hdis : apU (apU m ub) ua = apU (apU m ua) ub := by
      cases haall : (footOf a.op).all with
      | true =>
        have hp := hc.all1 haall
        have := pure_upd hp (stepF_upd (pure_foot hp).2.2.2.2.2 hsb')
        subst this; rfl
      | false =>
        cases hball : (footOf b.op).all with
        | true =>
          have hp := hc.all2 hball
          have := pure_upd hp (stepF_upd (pure_foot hp).2.2.2.2.2 hsa)
          subst this; rfl
        | false =>
          refine apU_comm ub ua m fun c e e' hb ha => ?_
          have hub := stepF_upd hball hsb'
          have hua := stepF_upd haall hsa
          rcases hub c e hb with ⟨kb1, kb2, hk⟩ | ⟨hn, e0, h0, hw, hlk, _⟩
          · rcases hua _ e' ha with ⟨ka1, ka2, hmk⟩ | ⟨hn', e1, h1', hw', hlk', _⟩
            · have := hc.kk hmk hk
              omega
            · have := hc.k2 hk hlk' c kb1 kb2
              rw [hn'] at this; cases this
          · rcases hua _ e' ha with ⟨ka1, ka2, hmk⟩ | ⟨hn', e1, h1', hw', hlk', _⟩
            · have := hc.k1 hmk hlk c ka1 ka2
              rw [hn] at this; cases this
            · rw [h0] at h1'; cases h1'
              exact hc.ww c e0 hn' hn hw' hw
    rw [hdis]

end
end Go.Proofs.Ytnmbimhcfioeiaa.Xf
