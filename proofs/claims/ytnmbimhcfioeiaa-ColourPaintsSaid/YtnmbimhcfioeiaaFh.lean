import Derived.Test.YtnmbimhcfioeiaaFg
set_option linter.unusedVariables false
set_option linter.unusedSimpArgs false
/-! Xf, part h: slices, indexes, tuples, lengths. -/
namespace Go.Proofs.Ytnmbimhcfioeiaa.Xf
variable {P : Program} {sp : Sp} {spP : SpP} {no : Lim} {sl : List Ent} {m : Mem} {w0 w : World} {W : Addr → Prop} {a : Act} {tab : Tab} {isP : FuncId → Bool}

theorem sizeOf_run (hT : ∀ t tt, tab t = some tt → TtOk P t tt) {t : TypeId} {tt : TT} (h : tab t = some tt) (w : World) : (sizeOf t).run P w = .ok tt.size w := by
  obtain ⟨i0, hi0, hsz, _⟩ := (hT _ _ h).info
  rw [← hsz]; exact size_run hi0 w

theorem desc_slice (hT : ∀ t tt, tab t = some tt → TtOk P t tt) {t e : TypeId} {tt : TT} (h : tab t = some tt) (hk : tt.kind = .slice e) : P.underlying t = some (.slice e) := by
  obtain ⟨d, hd, hkd⟩ := (hT _ _ h).desc
  rw [hk] at hkd; simp only [TKOk] at hkd; rw [hd, hkd]
theorem desc_array (hT : ∀ t tt, tab t = some tt → TtOk P t tt) {t e : TypeId} {n : Nat} {tt : TT} (h : tab t = some tt) (hk : tt.kind = .array n e) : P.underlying t = some (.array n e) := by
  obtain ⟨d, hd, hkd⟩ := (hT _ _ h).desc
  rw [hk] at hkd; simp only [TKOk] at hkd; rw [hd, hkd]

/-- A bound of a slice expression, as the model has it. -/
def DenO : Option SV → Option Value → Prop
  | none, none => True
  | some s, some v => Den s v
  | _, _ => False

theorem run_bound {v : Value} {k : IntKind} {i : Int} (hv : v = .int k i) (y : Nat) (code : BoundsCode) (h0 : 0 ≤ i) (h1 : i ≤ y) (w : World) : (Instr.sliceBound v y code).run P w = .ok i.toNat w := by
  subst hv
  simp [Instr.sliceBound, asIntOf, h0, h1]

theorem run_slc (hT : ∀ t tt, tab t = some tt → TtOk P t tt) {t e : TypeId} {tt te : TT} (htt : tab t = some tt) (hkind : tt.kind = .slice e) (hte : tab e = some te)
    {s : SV} {x : Value} {l h : Option SV} {lo hi : Option Value} (hd : Den s x) (hl : DenO l lo) (hh : DenO h hi) {p : Prop} {v : SV} {u : Upd}
    (hf : (match (generalizing := false) s with
    | .sl c L s' lo0 len => match slcLo l, slcHi len h with
      | some l, some h => bif decide (te.size = s') then (some (0 ≤ l ∧ l ≤ h ∧ h ≤ len, .sl c L te.size (lo0 + l) (h - l), []) : R) else none
      | _, _ => none
    | _ => none) = some (p, v, u)) (hp : p) (w : World) : u = [] ∧ ∃ rv, (Instr.sliceAt t x lo hi none).run P w = .ok rv w ∧ Den v rv := by
  cases s <;> simp only at hf <;> first | (cases hf; done) | skip
  rename_i c L s' lo0 len
  split at hf
  case h_2 => cases hf
  rename_i l' h' hl' hh'
  by_cases hs : te.size = s'
  case neg => simp [hs] at hf
  subst hs
  simp only [decide_true, cond_true] at hf
  cases hf
  refine ⟨rfl, ?_⟩
  obtain ⟨h0, h1, h2⟩ := hp
  simp only [Den] at hd
  obtain ⟨g0, g1, g2, g3, A, rfl, hAn, hA⟩ := hd
  have hb : (Instr.sliceBounds true len.toNat (L.cap - lo0.toNat) lo hi none).run P w = .ok (l'.toNat, h'.toNat, L.cap - lo0.toNat) w := by
    have e1 : (hi = none ∧ h' = len) ∨ ∃ k, hi = some (.int k h') := by
      cases h with
      | none =>
        cases hi with
        | none => simp only [slcHi] at hh'; cases hh'; exact .inl ⟨rfl, rfl⟩
        | some b => simp [DenO] at hh
      | some hv =>
        cases hi with
        | none => simp [DenO] at hh
        | some b =>
          cases hv <;> simp only [slcHi] at hh' <;> first | (cases hh'; done) | skip
          cases hh'
          simp only [DenO, Den] at hh
          exact .inr ⟨_, by rw [hh]⟩
    have e2 : (lo = none ∧ l' = 0) ∨ ∃ k, lo = some (.int k l') := by
      cases l with
      | none =>
        cases lo with
        | none => simp only [slcLo] at hl'; cases hl'; exact .inl ⟨rfl, rfl⟩
        | some b => simp [DenO] at hl
      | some hv =>
        cases lo with
        | none => simp [DenO] at hl
        | some b =>
          cases hv <;> simp only [slcLo] at hl' <;> first | (cases hl'; done) | skip
          cases hl'
          simp only [DenO, Den] at hl
          exact .inr ⟨_, by rw [hl]⟩
    have b1 : ∀ k, (Instr.sliceBound (.int k h') (L.cap - lo0.toNat) .sliceAcap).run P w = .ok h'.toNat w := fun k => run_bound rfl _ _ (by omega) (by omega) w
    have b2 : ∀ k, (Instr.sliceBound (.int k l') h'.toNat .sliceB).run P w = .ok l'.toNat w := fun k => run_bound rfl _ _ (by omega) (by omega) w
    rcases e1 with ⟨rfl, rfl⟩ | ⟨k, rfl⟩ <;> rcases e2 with ⟨rfl, rfl⟩ | ⟨k', rfl⟩ <;> simp [Instr.sliceBounds, b1, b2, Result.andThen]
  have hd2 := desc_slice hT htt hkind
  refine ⟨.slice (if L.cap - lo0.toNat = l'.toNat then A else A.map (·.add (l'.toNat * te.size))) (h'.toNat - l'.toNat) (L.cap - lo0.toNat - l'.toNat), ?_, ?_⟩
  · simp only [Instr.sliceAt, Sem.run_bind, run_underlying hd2, Result.andThen, Instr.slice, hb, sizeOf_run hT hte, Sem.run_pure]
  · simp only [Den]
    refine ⟨by omega, by omega, by omega, g3, if L.cap - lo0.toNat = l'.toNat then A else A.map (·.add (l'.toNat * te.size)), ?_, ?_, ?_⟩
    · congr 1 <;> omega
    · by_cases e : L.cap - lo0.toNat = l'.toNat
      · simp [e, hAn]
      · simp only [e, if_false]; cases A <;> simpa using hAn
    · intro hne
      have e : ¬ (L.cap - lo0.toNat = l'.toNat) := by omega
      have hA' := hA (by omega)
      simp only [e, if_false]
      rw [hA']
      cases L.nil
      · simp only [Bool.false_eq_true, if_false, Option.map_some, ad_add]
        rw [show (lo0 + l').toNat = lo0.toNat + l'.toNat by omega, Nat.add_mul]
      · simp

theorem run_idxS (hT : ∀ t tt, tab t = some tt → TtOk P t tt) {t e : TypeId} {tt te : TT} (htt : tab t = some tt) (hkind : tt.kind = .slice e) (hte : tab e = some te)
    {s s' : SV} {x y : Value} (hd : Den s x) (hd' : Den s' y) {p : Prop} {v : SV} {u : Upd}
    (hf : (match (generalizing := false) s, s' with
    | .sl c L s' lo len, .int _ i => bif decide (te.size = s') then (some (0 ≤ i ∧ i < len, .ptr c L (lo + i) te.size 0, []) : R) else none
    | _, _ => none) = some (p, v, u)) (hp : p) (w : World) : u = [] ∧ ∃ rv, (Instr.indexAt t x y).run P w = .ok rv w ∧ Den v rv := by
  cases s <;> cases s' <;> simp only at hf <;> first | (cases hf; done) | skip
  rename_i c L s0 lo len k i
  by_cases hs : te.size = s0
  case neg => simp [hs] at hf
  subst hs
  simp only [decide_true, cond_true] at hf
  cases hf
  refine ⟨rfl, ?_⟩
  obtain ⟨h0, h1⟩ := hp
  simp only [Den] at hd hd'
  obtain ⟨g0, g1, g2, g3, A, rfl, hAn, hA⟩ := hd
  subst hd'
  have hA' := hA (by omega)
  have hnil : L.nil = false := by
    cases hn : L.nil with
    | false => rfl
    | true =>
      have := g3 hn
      omega
  rw [hnil] at hA'
  simp only [Bool.false_eq_true, if_false] at hA'
  subst hA'
  refine ⟨.pointer (some ((L.ad (lo.toNat * te.size)).add (i.toNat * te.size))), ?_, ?_⟩
  · have hb : 0 ≤ i ∧ i < (len.toNat : Int) := ⟨h0, by omega⟩
    simp only [Instr.indexAt, asIntOf, Sem.run_bind, Sem.run_pure, Result.andThen, run_underlying (desc_slice hT htt hkind), if_pos hb, sizeOf_run hT hte]
  · simp only [Den, ad_add]
    rw [show (lo + i).toNat = lo.toNat + i.toNat by omega, Nat.add_mul]
    simp

end Go.Proofs.Ytnmbimhcfioeiaa.Xf
