import Derived.Test.YtnmbimhcfioeiaaFt
set_option linter.unusedVariables false
set_option linter.unusedSimpArgs false
/-! Xf, part u: every drawn order. -/
namespace Go.Proofs.Ytnmbimhcfioeiaa.Xf

/-- b waits for a, straight or through others. -/
inductive Dep (ops : Array Oper) : Nat → Nat → Prop where
  | one {a b : Nat} {o : Oper} {e : Edge} (ho : ops[b]? = some o) (he : e ∈ o.after) (hb : Region.binds .any e = true) (ha : e.on = a) : Dep ops a b
  | more {a b : Nat} {o : Oper} {e : Edge} (ho : ops[b]? = some o) (he : e ∈ o.after) (hb : Region.binds .any e = true) (h : Dep ops a e.on) : Dep ops a b

def edgeMask (ms : List Nat) : List Edge → Nat
  | [] => 0
  | e :: l => bif Region.binds .any e then (edgeMask ms l ||| (1 <<< e.on)) ||| ms.getD e.on 0 else edgeMask ms l

def edgesBack (j : Nat) : List Edge → Bool
  | [] => true
  | e :: l => (!(Region.binds .any e) || decide (e.on < j)) && edgesBack j l

def pairsOk (mask : Nat) (io : IRO) : List (Nat × IRO) → Bool
  | [] => true
  | (i, io') :: l => (mask.testBit i || compat io' io) && pairsOk mask io l

def chkGo : Nat → List Nat → List (Nat × IRO) → List Oper → List IRO → Bool
  | j, ms, seen, o :: os, io :: ios => edgesBack j o.after.toList && pairsOk (edgeMask ms o.after.toList) io seen && chkGo (j + 1) (ms ++ [edgeMask ms o.after.toList]) ((j, io) :: seen) os ios
  | _, _, _, [], [] => true
  | _, _, _, _, _ => false

def chkAll (ops : Array Oper) (ios : List IRO) : Bool := chkGo 0 [] [] ops.toList ios

section
variable {P : Program} {sp : Sp} {spP : SpP} {tab : Tab} {isP : FuncId → Bool}

theorem edgeMask_dep {ops : Array Oper} {ms : List Nat} {j : Nat} {o : Oper} (ho : ops[j]? = some o) (hms : ∀ (k a : Nat), (ms.getD k 0).testBit a = true → Dep ops a k) :
    ∀ (l : List Edge), (∀ e ∈ l, e ∈ o.after) → ∀ a, (edgeMask ms l).testBit a = true → Dep ops a j
  | [], _, a, h => by simp [edgeMask] at h
  | e :: l, hl, a, h => by
    simp only [edgeMask] at h
    cases hb : Region.binds .any e with
    | false => rw [hb] at h; simp only [cond_false] at h; exact edgeMask_dep ho hms l (fun e he => hl e (by simp [he])) a h
    | true =>
      rw [hb] at h
      simp only [cond_true, Nat.testBit_or, Bool.or_eq_true] at h
      rcases h with (h | h) | h
      · exact edgeMask_dep ho hms l (fun e he => hl e (by simp [he])) a h
      · rw [Nat.one_shiftLeft, Nat.testBit_two_pow] at h
        exact .one ho (hl e (by simp)) hb (by simpa using h)
      · exact .more ho (hl e (by simp)) hb (hms _ _ h)

theorem edgesBack_ok {j : Nat} : ∀ {l : List Edge}, edgesBack j l = true → ∀ e ∈ l, Region.binds .any e = true → e.on < j
  | [], _, e, he, _ => by simp at he
  | e' :: l, h, e, he, hb => by
    simp only [edgesBack, Bool.and_eq_true] at h
    simp only [List.mem_cons] at he
    rcases he with rfl | he
    · rw [hb] at h; simpa using h.1
    · exact edgesBack_ok h.2 e he hb

theorem pairsOk_ok {mask : Nat} {io : IRO} : ∀ {l : List (Nat × IRO)}, pairsOk mask io l = true → ∀ i io', (i, io') ∈ l → mask.testBit i = true ∨ compat io' io = true
  | [], _, i, io', h => by simp at h
  | (k, x) :: l, h, i, io', hm => by
    simp only [pairsOk, Bool.and_eq_true, Bool.or_eq_true] at h
    simp only [List.mem_cons] at hm
    rcases hm with hm | hm
    · cases hm; exact h.1
    · exact pairsOk_ok h.2 i io' hm

theorem chkGo_ok {ops : Array Oper} {ios0 : List IRO} : ∀ (os : List Oper) (ios : List IRO) (j : Nat) (ms : List Nat) (seen : List (Nat × IRO)),
    (∀ i o, os[i]? = some o → ops[j + i]? = some o) → (∀ i io, ios[i]? = some io → ios0[j + i]? = some io) → ms.length = j → (∀ (k a : Nat), (ms.getD k 0).testBit a = true → Dep ops a k) →
    (∀ i io, i < j → ios0[i]? = some io → (i, io) ∈ seen) → chkGo j ms seen os ios = true →
    (∀ b o, j ≤ b → b < j + os.length → ops[b]? = some o → ∀ e ∈ o.after, Region.binds .any e = true → e.on < b) ∧
    ∀ a b x y, a < b → j ≤ b → b < j + os.length → ios0[a]? = some x → ios0[b]? = some y → Dep ops a b ∨ compat x y = true
  | [], [], j, ms, seen, _, _, _, _, _, _ => ⟨fun b o h1 h2 => by simp at h2; omega, fun a b x y h0 h1 h2 => by simp at h2; omega⟩
  | [], _ :: _, j, ms, seen, _, _, _, _, _, h => by simp [chkGo] at h
  | _ :: _, [], j, ms, seen, _, _, _, _, _, h => by simp [chkGo] at h
  | o :: os, io :: ios, j, ms, seen, hos, hios, hlen, hms, hseen, h => by
    simp only [chkGo, Bool.and_eq_true] at h
    obtain ⟨⟨h1, h2⟩, h3⟩ := h
    have hoj : ops[j]? = some o := by simpa using hos 0 o (by simp)
    have hioj : ios0[j]? = some io := by simpa using hios 0 io (by simp)
    have hdep := edgeMask_dep hoj hms o.after.toList (fun e he => by simpa using he)
    have ih := chkGo_ok os ios (j + 1) (ms ++ [edgeMask ms o.after.toList]) ((j, io) :: seen)
      (fun i o' hi => by rw [show j + 1 + i = j + (i + 1) by omega]; exact hos (i + 1) o' (by simpa using hi))
      (fun i io' hi => by rw [show j + 1 + i = j + (i + 1) by omega]; exact hios (i + 1) io' (by simpa using hi)) (by simp [hlen])
      (fun k a hk => by
        rw [List.getD_eq_getElem?_getD] at hk
        rcases Nat.lt_trichotomy k ms.length with hlt | heq | hgt
        · rw [List.getElem?_append_left hlt] at hk
          exact hms k a (by rw [List.getD_eq_getElem?_getD]; exact hk)
        · rw [List.getElem?_append_right (by omega), heq] at hk
          simp at hk
          rw [heq, hlen]
          exact hdep a hk
        · rw [List.getElem?_eq_none (by simp; omega)] at hk
          simp at hk)
      (fun i io' hi hio => by
        rcases Nat.lt_or_ge i j with hlt | hge
        · exact List.mem_cons_of_mem _ (hseen i io' hlt hio)
        · have : i = j := by omega
          subst this
          rw [hioj] at hio; cases hio
          simp) h3
    refine ⟨fun b o' hb1 hb2 ho' e he hbind => ?_, fun a b x y hab hb1 hb2 hx hy => ?_⟩
    · by_cases hbj : b = j
      · subst hbj
        rw [hoj] at ho'; cases ho'
        exact edgesBack_ok h1 e (by simpa using he) hbind
      · exact ih.1 b o' (by omega) (by simp at hb2; omega) ho' e he hbind
    · by_cases hbj : b = j
      · subst hbj
        rw [hioj] at hy; cases hy
        rcases pairsOk_ok h2 a x (hseen a x hab hx) with h | h
        · exact .inl (hdep a h)
        · exact .inr h
      · exact ih.2 a b x y hab (by omega) (by simp at hb2; omega) hx hy

def evAny (sp : Sp) (spP : SpP) (ops : Array Oper) (ios : List IRO) : Nat → Array Bool → List Ent → Mem → (List Ent → Mem → Prop) → Prop
  | 0, listed, sl, m, K => Region.ready .any ops listed = [] ∧ K sl m
  | f + 1, listed, sl, m, K => (Region.ready .any ops listed = [] → K sl m) ∧
      ∀ i ∈ Region.ready .any ops listed, ∀ io, ios[i]? = some io → evX sp spP io sl m fun sl m => evAny sp spP ops ios f (listed.setIfInBounds i true) sl m K

def Down (ops : Array Oper) (listed : Array Bool) : Prop := ∀ a b, Dep ops a b → listed.getD b false = true → listed.getD a true = true

theorem dep_of_ready {ops : Array Oper} {listed : Array Bool} (hd : Down ops listed) {j : Nat} (hj : j ∈ Region.ready .any ops listed) {a : Nat} (h : Dep ops a j) : listed.getD a true = true := by
  obtain ⟨hun, o, ho, hall⟩ := mem_ready.1 hj
  cases h with
  | one ho' he hb ha =>
    rw [ho] at ho'; cases ho'
    subst ha
    have key : ∀ n, listed.getD n false = true → listed.getD n true = true := by
      intro n h
      rcases Nat.lt_or_ge n listed.size with h' | h'
      · simp [h'] at h ⊢; exact h
      · simp [Array.getElem?_eq_none h'] at h
    exact key _ (hall _ he hb)
  | more ho' he hb h =>
    rw [ho] at ho'; cases ho'
    exact hd _ _ h (hall _ he hb)

theorem Down.step {ops : Array Oper} {listed : Array Bool} (hd : Down ops listed) {j : Nat} (hj : j ∈ Region.ready .any ops listed) : Down ops (listed.setIfInBounds j true) := by
  intro a b hab hb
  have keep : listed.getD a true = true → (listed.setIfInBounds j true).getD a true = true := by
    intro h
    by_cases e : j = a
    · subst e
      by_cases hlt : j < listed.size
      · simp [hlt]
      · simp [hlt]
    · rw [getD_set_ne true e]; exact h
  by_cases e : j = b
  · subst e
    exact keep (dep_of_ready hd hj hab)
  · rw [getD_set_ne false e] at hb
    exact keep (hd a b hab hb)

/-- One that is ready may be taken first. -/
theorem evAny_first {ops : Array Oper} {ios : List IRO} (hpairs : ∀ a b x y, a < b → ios[a]? = some x → ios[b]? = some y → Dep ops a b ∨ compat x y = true) {i : Nat} {io : IRO} (hio : ios[i]? = some io) :
    ∀ (fuel : Nat) (listed : Array Bool) (sl : List Ent) (m : Mem) (K : List Ent → Mem → Prop), Down ops listed → i ∈ Region.ready .any ops listed →
      (evX sp spP io sl m fun sl m => evAny sp spP ops ios fuel (listed.setIfInBounds i true) sl m K) → evAny sp spP ops ios (fuel + 1) listed sl m K := by
  intro fuel
  induction fuel with
  | zero =>
    intro listed sl m K hd hr H
    refine ⟨fun h => (by rw [h] at hr; cases hr), fun j hj jo hjo => ?_⟩
    by_cases hji : j = i
    · subst hji; rw [hio] at hjo; cases hjo; exact H
    · obtain ⟨p, sl', m', _, _, h0, _⟩ := H (fun _ => default)
      have := ready_mono hj hji
      rw [h0] at this
      cases this
  | succ fuel ih =>
    intro listed sl m K hd hr H
    refine ⟨fun h => (by rw [h] at hr; cases hr), fun j hj jo hjo => ?_⟩
    by_cases hji : j = i
    · subst hji; rw [hio] at hjo; cases hjo; exact H
    · -- neither waits for the other
      have n1 : ¬ Dep ops i j := fun h => by
        have h1 := dep_of_ready hd hj h
        have h0 := (mem_ready.1 hr).1
        rw [h1] at h0; cases h0
      have n2 : ¬ Dep ops j i := fun h => by
        have h1 := dep_of_ready hd hr h
        have h0 := (mem_ready.1 hj).1
        rw [h1] at h0; cases h0
      have hc : Compat io jo := by
        rcases Nat.lt_or_gt_of_ne hji with h | h
        · rcases hpairs j i jo io h hjo hio with h | h
          · exact absurd h n2
          · exact (compat_ok h).symm
        · rcases hpairs i j io jo h hio hjo with h | h
          · exact absurd h n1
          · exact compat_ok h
      -- j behind i
      have H2 : ∀ x, ∃ p s1 m1, oneS sp spP io x sl m = some (p, s1, m1) ∧ p ∧ ∀ y, ∃ q s2 m2, oneS sp spP jo y s1 m1 = some (q, s2, m2) ∧ q ∧ evAny sp spP ops ios fuel ((listed.setIfInBounds i true).setIfInBounds j true) s2 m2 K := by
        intro x
        obtain ⟨p, s1, m1, h1, hp, h2⟩ := H x
        exact ⟨p, s1, m1, h1, hp, fun y => h2.2 j (ready_mono hj hji) jo hjo y⟩
      intro y
      obtain ⟨p, s1, m1, h1, hp, h2⟩ := H2 (fun _ => default)
      obtain ⟨q, s2, m2, h3, hq, h4⟩ := h2 y
      obtain ⟨s', m', g1, g2⟩ := diamond hc h1 h3
      refine ⟨q, s', m', g1, hq, ih (listed.setIfInBounds j true) s' m' K (hd.step hj) (ready_mono hr (Ne.symm hji)) ?_⟩
      intro x
      obtain ⟨p', s1', m1', h1', hp', h2'⟩ := H2 x
      obtain ⟨q', s2', m2', h3', hq', h4'⟩ := h2' y
      obtain ⟨s'', m'', g1', g2'⟩ := diamond hc h1' h3'
      rw [g1] at g1'; cases g1'
      refine ⟨p', s2', m2', g2', hp', ?_⟩
      rw [Array.setIfInBounds_comm _ _ hji]
      exact h4'

theorem evAny_ok (hT : ∀ t tt, tab t = some tt → TtOk P t tt) (hP : SpPOk P spP) (hS : SpOk P sp) {w0 : World} {W : Addr → Prop} {ops : Array Oper} {ios gs : List IRO} (hcomp : compR tab isP ops gs ops.toList = some ios) {Q : Exit → Act → World → Prop} {K' : List Ent → Mem → Prop}
    (hK : ∀ sl' m' a' w', K' sl' m' → Sat w0 W sl' m' a' w' → Q .normal a' w') : ∀ (fuel : Nat) (listed : Array Bool) (sl : List Ent) (m : Mem) (a : Act) (w : World), Sat w0 W sl m a w →
      evAny sp spP ops ios fuel listed sl m K' → wpAny P .any ops Q fuel listed a w := by
  intro fuel
  induction fuel with
  | zero => intro listed sl m a w hs h; exact ⟨h.1, hK _ _ _ _ h.2 hs⟩
  | succ fuel ih =>
    intro listed sl m a w hs h
    refine ⟨fun h0 => hK _ _ _ _ (h.1 h0) hs, fun i hi => ?_⟩
    obtain ⟨_, o, ho, _⟩ := mem_ready.1 hi
    have hg := compR_get hcomp
    have hlt : i < ios.length := by rw [hg.1]; simpa using (Array.getElem?_eq_some_iff.1 ho).1
    obtain ⟨io, hio⟩ : ∃ io, ios[i]? = some io := ⟨_, List.getElem?_eq_getElem hlt⟩
    obtain ⟨o', g, ho', hc⟩ := hg.2 i io hio
    have : o' = o := by
      have h1 : ops[i]? = some o' := by simpa using ho'
      rw [ho] at h1; cases h1; rfl
    subst this
    exact evO_ok hT hP hS ho hc hs (evX_iff.2 (h.2 i hi io hio)) fun sl' m' a' w' h1 h2 => ih _ _ _ _ _ h2 h1

/-- The listing behind the first n. -/
def firstN (size n : Nat) : Array Bool := ((List.range size).map fun i => decide (i < n)).toArray
theorem firstN_getD {size n i : Nat} (d : Bool) : (firstN size n).getD i d = if i < size then decide (i < n) else d := by
  unfold firstN
  by_cases h : i < size
  · simp [h]
  · simp [h]
theorem firstN_zero (size : Nat) : firstN size 0 = Array.replicate size false := by
  apply Array.ext
  · simp [firstN]
  · intro i h1 h2; simp [firstN]
theorem firstN_succ (size n : Nat) : (firstN size n).setIfInBounds n true = firstN size (n + 1) := by
  apply Array.ext
  · simp [firstN]
  · intro i h1 h2
    simp [firstN, Array.getElem_setIfInBounds]
    by_cases e : n = i
    · subst e; simp
    · simp [e]; omega

theorem evAny_text {ops : Array Oper} {ios : List IRO} (hlen : ios.length = ops.size) (hback : ∀ b o, ops[b]? = some o → ∀ e ∈ o.after, Region.binds .any e = true → e.on < b)
    (hpairs : ∀ a b x y, a < b → ios[a]? = some x → ios[b]? = some y → Dep ops a b ∨ compat x y = true) :
    ∀ (rest : List IRO) (i : Nat) (sl : List Ent) (m : Mem) (K : List Ent → Mem → Prop), ios.drop i = rest → i ≤ ops.size → evR sp spP rest sl m K → evAny sp spP ops ios (ops.size - i) (firstN ops.size i) sl m K
  | [], i, sl, m, K, hr, hi, h => by
    have : i = ops.size := by
      have := congrArg List.length hr
      simp at this; omega
    subst this
    simp only [evR] at h
    rw [Nat.sub_self]
    refine ⟨?_, h⟩
    rw [List.eq_nil_iff_forall_not_mem]
    intro j hj
    have h0 := (mem_ready.1 hj).1
    rw [firstN_getD] at h0
    split at h0
    · rename_i hlt; simp at h0; omega
    · cases h0
  | io :: rest, i, sl, m, K, hr, hi, h => by
    have hlt : i < ios.length := by
      rcases Nat.lt_or_ge i ios.length with h | h
      · exact h
      · rw [List.drop_eq_nil_of_le h] at hr; cases hr
    have hio : ios[i]? = some io := by
      have := congrArg (fun l => l[0]?) hr
      simpa using this
    have hrest : ios.drop (i + 1) = rest := by
      have := congrArg List.tail hr
      simpa using this
    simp only [evR] at h
    have hx := evX_iff.1 h
    obtain ⟨o, ho⟩ : ∃ o, ops[i]? = some o := ⟨_, Array.getElem?_eq_getElem (by omega)⟩
    rw [show ops.size - i = (ops.size - (i + 1)) + 1 by omega]
    refine evAny_first hpairs hio _ _ sl m K ?_ ?_ ?_
    · -- what the first ones wait for is among them
      have hdep : ∀ a b, Dep ops a b → a < b := by
        intro a b hab
        induction hab with
        | one ho he hb ha => rw [← ha]; exact hback _ _ ho _ he hb
        | more ho he hb _ ih => have := hback _ _ ho _ he hb; omega
      intro a b hab hb
      rw [firstN_getD] at hb ⊢
      have := hdep a b hab
      split at hb
      · simp at hb
        rw [if_pos (by omega)]
        simp; omega
      · cases hb
    · rw [mem_ready]
      refine ⟨by rw [firstN_getD, if_pos (by omega)]; simp, o, ho, fun e he hb => ?_⟩
      have := hback i o ho e he hb
      rw [firstN_getD, if_pos (by omega)]
      simpa using this
    · intro x
      obtain ⟨p, sl', m', h1, h2, h3⟩ := hx x
      refine ⟨p, sl', m', h1, h2, ?_⟩
      rw [firstN_succ]
      exact evAny_text hlen hback hpairs rest (i + 1) sl' m' K hrest (by omega) h3

theorem draw_ok (hm : P.follows .mixedOrders = true) (hT : ∀ t tt, tab t = some tt → TtOk P t tt) (hP : SpPOk P spP) (hS : SpOk P sp) : DrawOk P tab isP sp spP chkAll := by
  intro ops ios gs hcomp hchk w0 W id sl m a w K' Q hK hs h
  have hg := compR_get hcomp
  have hlen : ios.length = ops.size := by rw [hg.1]; simp
  have hk := chkGo_ok (ops := ops) (ios0 := ios) ops.toList ios 0 [] [] (by simp) (by simp) rfl (by simp) (by simp) hchk
  refine wp_region_any hm ?_
  rw [← firstN_zero]
  have hs' : Sat w0 W sl m a w.drew := ⟨hs.defers, hs.size, hs.slots, hs.mem.drew, hs.kept.trans (Kept.drew w W) (fun _ h _ => h)⟩
  refine evAny_ok hT hP hS hcomp hK ops.size (firstN ops.size 0) sl m a w.drew hs' ?_
  exact evAny_text hlen (fun b o ho e he hb => hk.1 b o (by omega) (by simpa using (Array.getElem?_eq_some_iff.1 ho).1) ho e he hb)
    (fun a b x y hab hx hy => hk.2 a b x y hab (by omega) (by
      have := (List.getElem?_eq_some_iff.1 hy).1
      simp; omega) hx hy) ios 0 sl m K' (by simp) (by omega) h

end
end Go.Proofs.Ytnmbimhcfioeiaa.Xf
