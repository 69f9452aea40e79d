import Derived.Test.YtnmbimhcfioeiaaFr
set_option linter.unusedVariables false
set_option linter.unusedSimpArgs false
/-! Xf, part s: functions. -/
namespace Go.Proofs.Ytnmbimhcfioeiaa.Xf

inductive RV where
  | tmp (t : Nat)
  | cell (a : Nat) (n : Option Nat)

def compRV (tab : Tab) : List ResultVar → Option (List RV)
  | [] => some []
  | .tmp t :: l => match compRV tab l with | some r => some (.tmp t :: r) | none => none
  | .cell a t :: l => match tab t, compRV tab l with | some tt, some r => some (.cell a (bif tt.agg then some tt.size else none) :: r) | _, _ => none

def rv1 (sl : List Ent) (m : Mem) : RV → Option (Prop × SV)
  | .tmp t => match lk sl t with | some (c, v) => some (c = true, v) | none => none
  | .cell a n => match lk sl a with
    | some (c, .ptr cc L i s f) => match lk m cc with
      | some (_, L', ch) => match (match n with | none => rdc i s f ch | some n => rdn n i s f ch) with
        | some (p, v) => some (c = true ∧ L' = L ∧ p, v)
        | none => none
      | none => none
    | _ => none

def rvs (sl : List Ent) (m : Mem) : List RV → Option (Prop × List SV)
  | [] => some (True, [])
  | r :: rs => match rv1 sl m r, rvs sl m rs with
    | some (p, v), some (q, vs) => some (p ∧ q, v :: vs)
    | _, _ => none

def retV : List SV → SV
  | [v] => v
  | vs => .tup vs

/-- The end of a function: its results and memory meet post. -/
def retK (rs : List RV) (post : SV → Mem → Prop) : KT := fun sl m =>
  match rvs sl m rs with
  | some (p, vs) => p ∧ post (retV vs) m
  | none => False

def slots0 (args : List SV) (n : Nat) : List Ent := args.map (fun v => some (true, v)) ++ List.replicate (n - args.length) none

def lentW (m : Mem) : Addr → Prop := fun a => ∃ c L ch, lk m c = some (.lent, L, ch) ∧ ∃ o, o < ch.ext L ∧ a = L.ad o

/-- What is said of a function: of arguments and memory, of what comes back and memory behind it. -/
def Tri (P : Program) (f : FuncId) (args : List SV) (m : Mem) (post : SV → Mem → Prop) : Prop :=
  ∀ w vs, Dens args vs → MemSat w (lentW m) m w → Calls P f vs.toArray w fun e w' =>
    ∃ v m' rv, post v m' ∧ e = .returned rv ∧ Den v rv ∧ MemSat w (lentW m) m' w' ∧ Kept w (lentW m) w'

section
variable {P : Program} {sp : Sp} {spP : SpP} {tab : Tab} {isP : FuncId → Bool} {chk : Array Oper → List IRO → Bool}

theorem asAddr_ptr (x : Addr) : asAddr (.pointer (some x)) = pure x := rfl

theorem rv_run (hT : ∀ t tt, tab t = some tt → TtOk P t tt) {w0 w : World} {W : Addr → Prop} {sl : List Ent} {m : Mem} {a : Act} (hs : Sat w0 W sl m a w) :
    ∀ {R : List ResultVar} {rs : List RV} {p : Prop} {vs : List SV}, compRV tab R = some rs → rvs sl m rs = some (p, vs) → p →
      ∃ us, (R.mapM (fun r : ResultVar => match r with | .tmp t => pure (a.tmps.getD t undef) | .cell x t => do loadVar t (← asAddr (a.tmps.getD x undef))) : Sem (List Value)).run P w = .ok us w ∧ Dens vs us
  | [], rs, p, vs, hc, h, hp => by
    simp only [compRV] at hc; cases hc
    simp only [rvs] at h; cases h
    exact ⟨[], by simp, by simp [Dens]⟩
  | .tmp t :: R, rs, p, vs, hc, h, hp => by
    simp only [compRV] at hc
    split at hc
    case h_2 => cases hc
    rename_i r hr
    cases hc
    simp only [rvs] at h
    split at h
    case h_2 => cases h
    rename_i p1 v1 q vs' h1 h2
    cases h
    obtain ⟨us, hu, hd⟩ := rv_run hT hs hr h2 hp.2
    simp only [rv1] at h1
    split at h1
    case h_2 => cases h1
    rename_i c v hl
    cases h1
    have hc : c = true := hp.1
    subst hc
    refine ⟨_ :: us, ?_, by simp only [Dens]; exact ⟨_, _, rfl, hs.ok t true v1 hl rfl, hd⟩⟩
    simp only [List.mapM_cons, Sem.run_bind, Sem.run_pure, Result.andThen, hu]
  | .cell x t :: R, rs, p, vs, hc, h, hp => by
    simp only [compRV] at hc
    split at hc
    case h_2 => cases hc
    rename_i tt r htt hr
    cases hc
    simp only [rvs] at h
    split at h
    case h_2 => cases h
    rename_i p1 v1 q vs' h1 h2
    cases h
    obtain ⟨us, hu, hd⟩ := rv_run hT hs hr h2 hp.2
    simp only [rv1] at h1
    split at h1
    case h_2 => cases h1
    rename_i c cc L i s f hl
    split at h1
    case h_2 => cases h1
    rename_i own L' ch hm
    split at h1
    case h_2 => cases h1
    rename_i q' v' hq
    cases h1
    obtain ⟨⟨hc, hL, hq'⟩, _⟩ := hp
    subst hc hL
    have hptr := hs.ok x true _ hl rfl
    simp only [Den] at hptr
    have htk := hT t tt htt
    obtain ⟨i0, hi0, hsz, _⟩ := htk.info
    have hload : ∃ u, (loadVar t (L'.ad (i.toNat * s + f))).run P w = .ok u w ∧ Den v1 u := by
      cases hag : tt.agg with
      | false =>
        rw [hag] at hq
        obtain ⟨u, hu, hdu⟩ := rdc_ok hs.mem hm hq hq'
        exact ⟨u, by simp only [loadVar, Sem.run_bind, isAgg_run htk, hag, Result.andThen]; simp [hu, run_load], hdu⟩
      | true =>
        rw [hag] at hq
        obtain ⟨us, g1, g2, g3⟩ := rdn_ok hs.mem hm hq hq'
        refine ⟨_, ?_, g3⟩
        have := run_loadCells_list (P := P) (w := w) _ us g2
        rw [g1] at this
        simp only [loadVar, Sem.run_bind, isAgg_run htk, hag, Result.andThen]
        simp [size_run hi0, hsz, this, Result.andThen]
    obtain ⟨u, hu1, hdu⟩ := hload
    refine ⟨u :: us, ?_, by simp only [Dens]; exact ⟨_, _, rfl, hdu, hd⟩⟩
    simp only [List.mapM_cons, Sem.run_bind, Sem.run_pure, Result.andThen, hptr, asAddr_ptr, hu1, hu]

theorem tri_of_ev (H : Hyp P tab isP sp spP chk) {f : FuncId} {fn : Func} {code : Code} {ir gd : IR} {rs : List RV} {n : Nat} (hf : P.funcs[f]? = some fn) (hb : fn.body = some code)
    (hcomp : compC tab isP chk gd code = some ir) (hrv : compRV tab fn.results.toList = some rs) (hn : fn.ntmps = n) {args : List SV} {m : Mem} {post : SV → Mem → Prop} {k : Nat}
    (h : ev sp spP ir (retK rs post) (fun _ _ _ => False) (retK rs post) (slots0 args n) (m ++ List.replicate k none)) : Tri P f args m post := by
  intro w vs hds hm
  refine calls_of_wp hf hb ?_
  have hfin : ∀ sl' m' a' w', retK rs post sl' m' → Sat w (lentW m) sl' m' a' w' → a'.defers = [] ∧ ∃ v, (results fn a'.tmps).run P w' = .ok v w' ∧
      ∃ v0 m'' rv, post v0 m'' ∧ Ending.returned v = .returned rv ∧ Den v0 rv ∧ MemSat w (lentW m) m'' w' ∧ Kept w (lentW m) w' := by
    intro sl' m' a' w' hr hs
    unfold retK at hr
    split at hr
    case h_2 => exact hr.elim
    rename_i p vs' hrvs
    obtain ⟨hp, hpost⟩ := hr
    obtain ⟨us, hu, hd⟩ := rv_run (P := P) H.hT hs hrv hrvs hp
    refine ⟨hs.defers, if h : us.toArray.size = 1 then us.toArray[0] else .tuple us.toArray, ?_, retV vs', m', _, hpost, rfl, ?_, hs.mem, hs.kept⟩
    · unfold results
      simp only [Sem.run_bind]
      rw [Array.mapM_eq_mapM_toList]
      have : (List.toArray <$> (fn.results.toList.mapM (fun r : ResultVar => match r with | .tmp t => pure (a'.tmps.getD t undef) | .cell x t => do loadVar t (← asAddr (a'.tmps.getD x undef))) : Sem (List Value))).run P w' = .ok us.toArray w' := by
        show ((fn.results.toList.mapM (fun r : ResultVar => match r with | .tmp t => pure (a'.tmps.getD t undef) | .cell x t => do loadVar t (← asAddr (a'.tmps.getD x undef))) : Sem (List Value)) >>= fun l => pure l.toArray).run P w' = _
        rw [Sem.run_bind, hu]
        simp [Result.andThen]
      refine (congrArg (fun r : Result (Array Value) => r.andThen fun a w' => Sem.run P (pure (if h : a.size = 1 then a[0] else Value.tuple a)) w') this).trans ?_
      simp only [Result.andThen, Sem.run_pure]
    · have hl := hd.length
      cases vs' with
      | nil =>
        have : us = [] := by simpa using hl
        subst this
        simp [retV, Den, Dens]
      | cons v vs2 =>
        cases vs2 with
        | nil =>
          simp only [Dens] at hd
          obtain ⟨u, us', rfl, hv, rfl⟩ := hd
          simpa [retV] using hv
        | cons v2 vs3 =>
          have h1 : ¬ (us.toArray.size = 1) := by simp at hl ⊢; omega
          simp only [h1, dite_false, retV, Den]
          exact ⟨us, rfl, hd⟩
  have hsat : Sat w (lentW m) (slots0 args n) (m ++ List.replicate k none) { tmps := vs.toArray ++ Array.replicate (fn.ntmps - vs.toArray.size) undef, defers := [] } w := by
    have hl := hds.length
    refine ⟨rfl, by simp [slots0, hl, hn], fun i c v hi => ?_, ?_, Kept.refl _ _⟩
    · rw [lk_eq] at hi
      unfold slots0 at hi
      by_cases hlt : i < args.length
      · rw [List.getElem?_append_left (by simpa using hlt)] at hi
        simp only [List.getElem?_map, List.getElem?_eq_getElem hlt, Option.map_some, Option.getD_some] at hi
        cases hi
        obtain ⟨u, hu, hd⟩ := hds.get (List.getElem?_eq_getElem hlt)
        simp only [if_true]
        have : (vs.toArray ++ Array.replicate (fn.ntmps - vs.toArray.size) undef).getD i undef = u := by
          rw [Array.getD_eq_getD_getElem?, Array.getElem?_append_left (by simp [hl]; omega)]
          simp [hu]
        rw [this]
        exact hd
      · rw [List.getElem?_append_right (by simp; omega)] at hi
        simp only [List.getElem?_replicate] at hi
        split at hi <;> simp at hi
    · refine hm.sub fun c e he => ?_
      rw [lk_eq] at he ⊢
      by_cases hlt : c < m.length
      · rwa [List.getElem?_append_left hlt] at he
      · rw [List.getElem?_append_right (by omega)] at he
        simp only [List.getElem?_replicate] at he
        split at he <;> simp at he
  exact ev_ok (w0 := w) (W := lentW m) H ir code gd hcomp _ _ _ _ (fun sl' m' a' w' h1 h2 => hfin sl' m' a' w' h1 h2) ⟨fun _ _ _ _ _ h _ => h.elim, fun sl' m' a' w' h1 h2 => hfin sl' m' a' w' h1 h2⟩ _ _ _ _ hsat h

end
end Go.Proofs.Ytnmbimhcfioeiaa.Xf
