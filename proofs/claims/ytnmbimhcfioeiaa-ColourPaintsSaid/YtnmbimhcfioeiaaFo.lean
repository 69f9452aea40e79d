import Derived.Test.YtnmbimhcfioeiaaFn
set_option linter.unusedVariables false
set_option linter.unusedSimpArgs false
/-! Xf, part o: regions that do not draw. -/
namespace Go.Proofs.Ytnmbimhcfioeiaa.Xf

structure Sat (w0 : World) (W : Addr → Prop) (sl : List Ent) (m : Mem) (a : Act) (w : World) : Prop where
  defers : a.defers = []
  size : a.tmps.size = sl.length
  slots : ∀ n c v, lk sl n = some (c, v) → if c = true then Den v (a.tmps.getD n undef) else a.tmps.getD n undef = undef
  mem : MemSat w0 W m w
  kept : Kept w0 W w

theorem Sat.ok {w0 w : World} {W : Addr → Prop} {sl : List Ent} {m : Mem} {a : Act} (h : Sat w0 W sl m a w) : SlotsOk sl a := fun n c v hl hc => by
  have := h.slots n c v hl
  simpa [hc] using this

def compG (ops : Array Oper) (o : Oper) : Option (Option (Nat × Bool)) :=
  match o.guard with
  | none => some none
  | some (j, pol) => match (ops[j]?).bind (·.dst) with
    | some d => some (some (d, pol))
    | none => none

def compR1 (tab : Tab) (isP : FuncId → Bool) (ops : Array Oper) (g : IRO) (o : Oper) : Option IRO :=
  match compG ops o, compO tab isP g.op o.op with
  | some gd, some op => some ⟨o.dst, gd, g.no, op⟩
  | _, _ => none

def compR (tab : Tab) (isP : FuncId → Bool) (ops : Array Oper) : List IRO → List Oper → Option (List IRO)
  | [], [] => some []
  | g :: gs, o :: os => match compR1 tab isP ops g o, compR tab isP ops gs os with
    | some io, some ios => some (io :: ios)
    | _, _ => none
  | _, _ => none

section
variable {P : Program} {sp : Sp} {spP : SpP} {sl : List Ent} {m : Mem} {w0 w : World} {W : Addr → Prop} {a : Act} {tab : Tab} {isP : FuncId → Bool}

theorem put_get (a : Act) (d : Option Nat) (v : Value) (n : Nat) : (a.put d v).tmps.getD n undef = if d = some n ∧ n < a.tmps.size then v else a.tmps.getD n undef := by
  cases d with
  | none => simp [Act.put]
  | some d =>
    simp only [Act.put, Array.getD_eq_getD_getElem?, Array.getElem?_setIfInBounds]
    by_cases h : d = n
    · subst h
      by_cases h2 : d < a.tmps.size
      · simp [h2]
      · simp [h2]
    · simp [h]

theorem put_defers (a : Act) (d : Option Nat) (v : Value) : (a.put d v).defers = a.defers := by cases d <;> rfl
theorem put_size (a : Act) (d : Option Nat) (v : Value) : (a.put d v).tmps.size = a.tmps.size := by cases d <;> simp [Act.put]
theorem putE_length (sl : List Ent) (d : Option Nat) (e : Ent) : (putE sl d e).length = sl.length := by cases d <;> simp [putE, st_length]

theorem Sat.put (h : Sat w0 W sl m a w) {d : Option Nat} {g : Bool} {v : SV} {rv : Value} {m' : Mem} {w' : World} (hv : if g = true then Den v rv else rv = undef) (hm : MemSat w0 W m' w') (hk : Kept w0 W w') :
    Sat w0 W (putE sl d (some (g, v))) m' (a.put d rv) w' := by
  refine ⟨by rw [put_defers]; exact h.defers, by rw [put_size, putE_length]; exact h.size, fun n c u hl => ?_, hm, hk⟩
  rw [put_get]
  cases d with
  | none => simp only [putE] at hl; simpa using h.slots n c u hl
  | some d =>
    simp only [putE, lk_st] at hl
    by_cases e : d = n
    · subst e
      by_cases hlt : d < sl.length
      · rw [if_pos ⟨rfl, hlt⟩] at hl
        cases hl
        have e1 : (if some d = some d ∧ d < a.tmps.size then rv else a.tmps.getD d undef) = rv := if_pos ⟨rfl, by rw [h.size]; exact hlt⟩
        rw [e1]
        exact hv
      · rw [if_neg (fun x => hlt x.2)] at hl
        have e1 : (if some d = some d ∧ d < a.tmps.size then rv else a.tmps.getD d undef) = a.tmps.getD d undef := if_neg (fun x => hlt (by rw [← h.size]; exact x.2))
        rw [e1]
        exact h.slots d c u hl
    · rw [if_neg (fun x => e x.1)] at hl
      have e1 : (if some d = some n ∧ n < a.tmps.size then rv else a.tmps.getD n undef) = a.tmps.getD n undef := if_neg (fun x => e (by simpa using x.1))
      rw [e1]
      exact h.slots n c u hl

theorem guard_ok (h : Sat w0 W sl m a w) {ops : Array Oper} {o : Oper} {gd : Option (Nat × Bool)} (hg : compG ops o = some gd) {g : Bool} (hgo : guardOf sl gd = some g) :
    Region.wanted o (yielded ops a.tmps) = g := by
  unfold compG at hg
  unfold Region.wanted
  split at hg
  · rename_i hn
    cases hg
    simp only [guardOf] at hgo
    cases hgo
    rw [hn]
  · rename_i j pol hn
    rw [hn]
    split at hg
    case h_2 => cases hg
    rename_i d hd
    cases hg
    simp only [guardOf] at hgo
    split at hgo
    case h_2 => cases hgo
    rename_i c b hl
    cases hgo
    have hs := h.slots d c _ hl
    have hlt : d < a.tmps.size := by rw [h.size]; exact lk_lt hl
    have hy : yielded ops a.tmps j = match a.tmps.getD d undef with | .bool b => some b | _ => none := by
      unfold yielded
      rw [hd]
      simp only [Option.bind_some]
      rw [Array.getD_eq_getD_getElem?, Array.getElem?_eq_getElem hlt]
      simp only [Option.getD_some]
      split <;> rename_i h1 <;> split <;> simp_all
    simp only [hy]
    cases c with
    | true =>
      simp only [if_true] at hs
      simp only [Den] at hs
      rw [hs]
      cases pol <;> cases b <;> rfl
    | false =>
      simp only [Bool.false_eq_true, if_false] at hs
      rw [hs]
      cases pol <;> cases b <;> rfl

theorem evO_ok (hT : ∀ t tt, tab t = some tt → TtOk P t tt) (hP : SpPOk P spP) (hS : SpOk P sp) {ops : Array Oper} {i : Nat} {o : Oper} (ho : ops[i]? = some o) {g io : IRO} (hc : compR1 tab isP ops g o = some io)
    (hsat : Sat w0 W sl m a w) {K' : List Ent → Mem → Prop} (h : evO sp spP io sl m K') {K : Act → World → Prop} {Q : Exit → Act → World → Prop}
    (hK : ∀ sl' m' a' w', K' sl' m' → Sat w0 W sl' m' a' w' → K a' w') : wpOp P ops Q i K a w := by
  unfold compR1 at hc
  split at hc
  case h_2 => cases hc
  rename_i gd op hgd hop
  cases hc
  unfold evO at h
  simp only at h
  split at h
  · exact h.elim
  rename_i g' hg'
  have hw := guard_ok hsat hgd hg'
  unfold wpOp
  simp only [ho, hw]
  -- for any places
  have hx : ∀ x, ∃ y, (op.makes = true → y = x) ∧ stepK sp spP ⟨o.dst, gd, g.no, op⟩ g' y sl m K' := by
    intro x
    cases hm : op.makes with
    | true => rw [hm] at h; exact ⟨x, fun _ => rfl, h x⟩
    | false => rw [hm] at h; exact ⟨_, fun h => by simp at h, h⟩
  have hsame : ∀ x y, (op.makes = true → y = x) → stepF sp spP g.no y sl (lk m) op = stepF sp spP g.no x sl (lk m) op := by
    intro x y hxy
    cases op <;> simp only [IROp.makes] at hxy <;> first | rfl | (rw [hxy trivial])
  have hst : ∀ x, ∃ p v u, stepF sp spP g.no x sl (lk m) op = some (p, v, u) ∧ (g' = true → p) ∧ (g' = true ∨ u = []) ∧ K' (putE sl o.dst (some (g', v))) (apU m u) := by
    intro x
    obtain ⟨y, hy, hk⟩ := hx x
    unfold stepK at hk
    simp only at hk
    rw [hsame x y hy] at hk
    split at hk
    · exact hk.elim
    · rename_i p v u he; exact ⟨p, v, u, he, hk⟩
  cases g' with
  | true =>
    simp only [if_true]
    refine .inl (opOK (no := g.no) hT hP hS hop hsat.ok hsat.mem hsat.kept (fun x => ?_) (fun x p v u rv w' he hp hd hm hk => ?_))
    · obtain ⟨p, v, u, he, hp, _⟩ := hst x; exact ⟨p, v, u, he, hp rfl⟩
    · obtain ⟨p', v', u', he', _, _, hk'⟩ := hst x
      rw [he] at he'; cases he'
      exact hK _ _ _ _ hk' (hsat.put (by simpa using hd) hm hk)
  | false =>
    simp only [Bool.false_eq_true, if_false]
    obtain ⟨p, v, u, he, _, hu, hk'⟩ := hst (fun _ => default)
    have : u = [] := by
      rcases hu with h | h
      · cases h
      · exact h
    subst this
    exact hK _ _ _ _ hk' (hsat.put (by simp) hsat.mem hsat.kept)

theorem compR_get {ops : Array Oper} : ∀ {gs : List IRO} {os : List Oper} {ios : List IRO}, compR tab isP ops gs os = some ios →
    ios.length = os.length ∧ ∀ (i : Nat) (io : IRO), ios[i]? = some io → ∃ o g, os[i]? = some o ∧ compR1 tab isP ops g o = some io
  | [], [], ios, h => by simp only [compR] at h; cases h; simp
  | [], o :: os, ios, h => by simp [compR] at h
  | g :: gs, [], ios, h => by simp [compR] at h
  | g :: gs, o :: os, ios, h => by
    simp only [compR] at h
    split at h
    case h_2 => cases h
    rename_i io ios' h1 h2
    cases h
    have ih := compR_get h2
    refine ⟨by simp [ih.1], fun i io' hi => ?_⟩
    cases i with
    | zero => simp at hi; subst hi; exact ⟨o, g, by simp, h1⟩
    | succ i => simpa using ih.2 i io' (by simpa using hi)

theorem evR_ok (hT : ∀ t tt, tab t = some tt → TtOk P t tt) (hP : SpPOk P spP) (hS : SpOk P sp) {ops : Array Oper} {Q : Exit → Act → World → Prop} {K' : List Ent → Mem → Prop}
    (hK : ∀ sl' m' a' w', K' sl' m' → Sat w0 W sl' m' a' w' → Q .normal a' w') : ∀ (ios : List IRO) (i : Nat) (sl : List Ent) (m : Mem) (a : Act) (w : World),
    (∀ (j : Nat) (io : IRO), ios[j]? = some io → ∃ o g, ops[i + j]? = some o ∧ compR1 tab isP ops g o = some io) → Sat w0 W sl m a w → evR sp spP ios sl m K' → wpOps P ops Q (List.range' i ios.length) a w
  | [], i, sl, m, a, w, _, hs, h => by
    simp only [evR] at h
    simp only [List.length_nil, List.range'_zero, wpOps]
    exact hK _ _ _ _ h hs
  | io :: ios, i, sl, m, a, w, hc, hs, h => by
    simp only [evR] at h
    obtain ⟨o, g, ho, hcomp⟩ := hc 0 io (by simp)
    simp only [List.length_cons, List.range'_succ]
    rw [wpOps_cons]
    exact evO_ok hT hP hS (by simpa using ho) hcomp hs h fun sl' m' a' w' hk hs' =>
      evR_ok hT hP hS hK ios (i + 1) sl' m' a' w' (fun j io' hj => by
        obtain ⟨o', g', h1, h2⟩ := hc (j + 1) io' (by simpa using hj)
        exact ⟨o', g', by rw [show i + 1 + j = i + (j + 1) by omega]; exact h1, h2⟩) hs' hk

end
end Go.Proofs.Ytnmbimhcfioeiaa.Xf
