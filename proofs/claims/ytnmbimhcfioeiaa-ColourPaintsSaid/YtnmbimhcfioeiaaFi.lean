import Derived.Test.YtnmbimhcfioeiaaFh
set_option linter.unusedVariables false
set_option linter.unusedSimpArgs false
/-! Xf, part i: arrays, tuples, composite literals. -/
namespace Go.Proofs.Ytnmbimhcfioeiaa.Xf
variable {P : Program} {sp : Sp} {spP : SpP} {no : Lim} {sl : List Ent} {m : Mem} {w0 w : World} {W : Addr → Prop} {a : Act} {tab : Tab} {isP : FuncId → Bool}

theorem run_slcA (hT : ∀ t tt, tab t = some tt → TtOk P t tt) {t e : TypeId} {n : Nat} {tt te : TT} (htt : tab t = some tt) (hkind : tt.kind = .array n e) (hte : tab e = some te)
    {s : SV} {x : Value} (hd : Den s x) {p : Prop} {v : SV} {u : Upd}
    (hf : (match (generalizing := false) s with | .ptr c L i 0 0 => (some (L.nil = false ∧ L.cap = n, .sl c L te.size 0 n, []) : R) | _ => none) = some (p, v, u)) (hp : p) (w : World) :
    u = [] ∧ ∃ rv, (Instr.sliceAt t x none none none).run P w = .ok rv w ∧ Den v rv := by
  split at hf
  case h_2 => cases hf
  rename_i c L i
  cases hf
  obtain ⟨h1, h2⟩ := hp
  simp only [Den] at hd
  subst hd
  refine ⟨rfl, ?_⟩
  refine ⟨.slice (some (L.ad 0)) n n, ?_, ?_⟩
  · simp only [Instr.sliceAt, Sem.run_bind, run_underlying (desc_array hT htt hkind), Result.andThen, Instr.sureAddr, Sem.run_pure, Instr.sliceBounds, sizeOf_run hT hte]
    by_cases hn : n = 0
    · simp [hn]
    · simp [hn, Addr.add]
  · simp only [Den]
    refine ⟨by omega, by omega, by omega, by simp [h1], some (L.ad 0), ?_, by simp [h1], fun _ => by simp [h1]⟩
    simp [h2]

theorem run_idxP (hT : ∀ t tt, tab t = some tt → TtOk P t tt) {t e : TypeId} {n : Nat} {tt te : TT} (htt : tab t = some tt) (hkind : tt.kind = .array n e) (hte : tab e = some te)
    {s s' : SV} {x y : Value} (hd : Den s x) (hd' : Den s' y) {p : Prop} {v : SV} {u : Upd}
    (hf : (match (generalizing := false) s, s' with | .ptr c L i 0 f, .int _ j => (some (0 ≤ j ∧ j < n, .ptr c L j te.size f, []) : R) | _, _ => none) = some (p, v, u)) (hp : p) (w : World) :
    u = [] ∧ ∃ rv, (Instr.indexAt t x y).run P w = .ok rv w ∧ Den v rv := by
  split at hf
  case h_2 => cases hf
  rename_i c L i f k j
  cases hf
  simp only [Den] at hd hd'
  subst hd hd'
  refine ⟨rfl, ?_⟩
  refine ⟨.pointer (some ((L.ad f).add (j.toNat * te.size))), ?_, by simp only [Den, ad_add, Nat.add_comm]⟩
  simp only [Instr.indexAt, asIntOf, Sem.run_bind, Sem.run_pure, Result.andThen, run_underlying (desc_array hT htt hkind), Instr.sureAddr, if_pos hp, sizeOf_run hT hte]
  simp

theorem asInts_get {k : IntKind} : ∀ {cs : List SV} {xs : List Int}, asInts k cs = some xs → xs.length = cs.length ∧ ∀ i, i < cs.length → cs[i]? = some (.int k (xs.getD i 0))
  | [], xs, h => by simp [asInts] at h; simp [← h]
  | c :: cs, xs, h => by
    cases c <;> simp only [asInts] at h <;> first | (cases h; done) | skip
    rename_i k' n
    by_cases e : k = k'
    · subst e
      simp only [decide_true, cond_true] at h
      split at h
      · cases h
      · rename_i r hr
        cases h
        have ih := asInts_get hr
        refine ⟨by simp [ih.1], fun i hi => ?_⟩
        cases i with
        | zero => simp
        | succ i => simpa using ih.2 i (by simpa using hi)
    · simp [e] at h

theorem asBools_get : ∀ {cs : List SV} {xs : List Bool}, asBools cs = some xs → xs.length = cs.length ∧ ∀ i, i < cs.length → cs[i]? = some (.bool (xs.getD i false))
  | [], xs, h => by simp [asBools] at h; simp [← h]
  | c :: cs, xs, h => by
    cases c <;> simp only [asBools] at h <;> first | (cases h; done) | skip
    split at h
    · cases h
    · rename_i r hr
      cases h
      have ih := asBools_get hr
      refine ⟨by simp [ih.1], fun i hi => ?_⟩
      cases i with
      | zero => simp
      | succ i => simpa using ih.2 i (by simpa using hi)

theorem intOfs_get {cs : List SV} {k : IntKind} {xs : List Int} (h : intOfs cs = some (k, xs)) : xs.length = cs.length ∧ ∀ i, i < cs.length → cs[i]? = some (.int k (xs.getD i 0)) := by
  unfold intOfs at h
  split at h
  case h_2 => cases h
  split at h
  · cases h
  · rename_i r hr
    cases h
    exact asInts_get hr

theorem run_idxV (hT : ∀ t tt, tab t = some tt → TtOk P t tt) {t e : TypeId} {n : Nat} {tt te : TT} (htt : tab t = some tt) (hkind : tt.kind = .array n e) (hte : tab e = some te) (h1 : te.size = 1) (hag : te.agg = false)
    {s s' : SV} {x y : Value} (hd : Den s x) (hd' : Den s' y) {p : Prop} {v : SV} {u : Upd}
    (hf : (match (generalizing := false) s, s' with
    | .agg cs, .int _ j => match intOfs cs with
      | some (k, xs) => bif decide (xs.length = n) then (some (0 ≤ j ∧ j < n, .int k (rd xs j), []) : R) else none
      | none => none
    | _, _ => none) = some (p, v, u)) (hp : p) (w : World) :
    u = [] ∧ ∃ rv, (Instr.index t x y).run P w = .ok rv w ∧ Den v rv := by
  cases s <;> cases s' <;> simp only at hf <;> first | (cases hf; done) | skip
  rename_i cs k' j
  split at hf
  case h_2 => cases hf
  rename_i k xs hi
  by_cases hn : xs.length = n
  case neg => simp [hn] at hf
  simp only [hn, decide_true, cond_true] at hf
  cases hf
  have hg := intOfs_get hi
  simp only [Den] at hd hd'
  obtain ⟨vs, rfl, hds⟩ := hd
  subst hd'
  refine ⟨rfl, ?_⟩
  have hlt : j.toNat < cs.length := by omega
  obtain ⟨rv, hrv, hdv⟩ := hds.get (hg.2 j.toNat hlt)
  refine ⟨rv, ?_, by simpa [rd] using hdv⟩
  have hpart := part_run (P := P) (hT _ _ hte) vs.toArray (j.toNat * te.size) w
  rw [hag] at hpart
  simp only [Bool.false_eq_true, if_false] at hpart
  rw [h1] at hpart
  simp only [Nat.mul_one, List.getElem?_toArray, hrv] at hpart
  simp only [Instr.index, asIntOf, Sem.run_bind, Sem.run_pure, Result.andThen, run_underlying (desc_array hT htt hkind), if_pos hp, sizeOf_run hT hte, h1, Nat.mul_one, hpart]

theorem run_ext {i : Nat} {s : SV} {x : Value} (hd : Den s x) {p : Prop} {v : SV} {u : Upd}
    (hf : (match (generalizing := false) s with | .tup cs => (match getL cs i with | none => none | some v => (some (True, v, []) : R)) | _ => none) = some (p, v, u)) (w : World) :
    u = [] ∧ ∃ rv, (Instr.extract x i).run P w = .ok rv w ∧ Den v rv := by
  cases s <;> simp only at hf <;> first | (cases hf; done) | skip
  split at hf
  · cases hf
  · rename_i v' hv
    cases hf
    rw [getL_eq] at hv
    simp only [Den] at hd
    obtain ⟨vs, rfl, hds⟩ := hd
    obtain ⟨rv, hrv, hdv⟩ := hds.get hv
    exact ⟨rfl, rv, by simp [Instr.extract, hrv], hdv⟩

theorem Dens.set {cs : List SV} {vs : List Value} (h : Dens cs vs) {d : SV} {v : Value} (hd : Den d v) : ∀ (i : Nat), Dens (cs.set i d) (vs.set i v) := by
  intro i
  refine Dens.of_get (by simp [h.length]) fun j c u hc hu => ?_
  simp only [List.getElem?_set] at hc hu
  by_cases e : i = j
  · subst e
    simp only [if_true] at hc hu
    split at hc <;> split at hu <;> simp_all
  · simp only [e, if_false] at hc hu
    obtain ⟨u', h1, h2⟩ := h.get hc
    rw [hu] at h1; cases h1; exact h2

theorem fold_sets (off : Nat) : ∀ (l : List Value) (ds z : List SV) (n : Nat) (acc : Array Value), Dens z acc.toList → Dens ds l →
    Dens (setsL z (off + n) ds) ((l.zipIdx n).foldl (fun cs (c, j) => cs.setIfInBounds (off + j) c) acc).toList
  | [], ds, z, n, acc, hz, hd => by
    cases ds with
    | nil => simpa [setsL] using hz
    | cons d ds => simp only [Dens] at hd; obtain ⟨v, vs', h, _⟩ := hd; cases h
  | v :: l, ds, z, n, acc, hz, hd => by
    cases ds with
    | nil => simp only [Dens] at hd; cases hd
    | cons d ds =>
      simp only [Dens] at hd
      obtain ⟨v', vs', h, hv, hd⟩ := hd
      cases h
      simp only [List.zipIdx_cons, List.foldl_cons, setsL]
      have := fold_sets off l ds (setL z (off + n) d) (n + 1) (acc.setIfInBounds (off + n) v) (by
        rw [setL_eq]
        simpa using hz.set hv (off + n)) hd
      simpa [Nat.add_assoc] using this

theorem setsL_length : ∀ (vs : List SV) (z : List SV) (n : Nat), (setsL z n vs).length = z.length
  | [], z, n => by simp [setsL]
  | v :: vs, z, n => by simp [setsL, setsL_length vs, setL_eq]

theorem fill_ok (place : Nat → Option (Nat × Nat)) (fs : List (Nat × Nat)) (hpl : ∀ i y, fs[i]? = some y → place i = some y) (hs : SlotsOk sl a) :
    ∀ (xs : List (Nat × Operand)) (as : List (Nat × Nat × Opd)) (f : List (Nat × Nat × SV) → R) (p : Prop) (r : SV) (u : Upd),
      opdps fs xs = some as → onps sl as f = some (p, r, u) → p → ∃ vs p', f vs = some (p', r, u) ∧ p' ∧
        ∀ (z z' : List SV) (acc : Array Value), Dens z acc.toList → fillL z vs = some z' →
          ∃ acc', Instr.fill place acc (xs.map fun (i, x) => (i, a.eval x)) = some acc' ∧ Dens z' acc'.toList
  | [], as, f, p, r, u, hx, h, hp => by
    simp only [opdps] at hx; cases hx
    simp only [onps] at h
    exact ⟨[], p, h, hp, fun z z' acc hz hf => by simp only [fillL] at hf; cases hf; exact ⟨acc, rfl, hz⟩⟩
  | (i, x) :: xs, as, f, p, r, u, hx, h, hp => by
    simp only [opdps] at hx
    split at hx
    case h_2 => cases hx
    rename_i o s b as' h1 h2 h3
    cases hx
    simp only [onps] at h
    obtain ⟨v, p', hd, hf, hp'⟩ := o1_den h hp h2 hs
    obtain ⟨vs, p'', hf', hp'', hfill⟩ := fill_ok place fs hpl hs xs as' _ p' r u h3 hf hp'
    refine ⟨(o, s, v) :: vs, p'', hf', hp'', fun z z' acc hz hfl => ?_⟩
    simp only [fillL] at hfl
    split at hfl
    · cases hfl
    rename_i cs hcs
    by_cases hc : cs.length = s ∧ o + s ≤ z.length
    case neg => simp [hc] at hfl
    simp only [hc, and_self, decide_true, cond_true] at hfl
    have hds := hd.cells hcs
    have hl := hds.length
    have hzl := hz.length
    simp only [Array.length_toList] at hl hzl
    have := fold_sets o (a.eval x).cells.toList cs z 0 acc hz hds
    obtain ⟨acc', h4, h5⟩ := hfill _ z' _ (by simpa using this) hfl
    refine ⟨acc', ?_, h5⟩
    simp only [List.map_cons, Instr.fill, hpl _ _ h1]
    have hne : ¬ ((a.eval x).cells.size ≠ s) := by omega
    have hle : ¬ (o + (a.eval x).cells.size > acc.size) := by omega
    simp only [hne, hle, decide_false, Bool.or_self, Bool.false_eq_true, if_false]
    rw [← h4]
    congr 1
    rw [← Array.foldl_toList]
    simp

theorem places_run (hT : ∀ t tt, tab t = some tt → TtOk P t tt) (w : World) : ∀ (F : List Field) (szs : List (Nat × Nat)), sizesOf tab (F.map fun f => (f.offset, f.type)) = some szs →
    ((F.mapM fun f => do pure (f.offset, ← sizeOf f.type) : Sem (List (Nat × Nat)))).run P w = .ok szs w
  | [], szs, h => by simp only [List.map_nil, sizesOf] at h; cases h; simp
  | f :: F, szs, h => by
    simp only [List.map_cons, sizesOf] at h
    split at h
    case h_2 => cases h
    rename_i tt r h1 h2
    cases h
    have ih := places_run hT w F r h2
    simp only [List.mapM_cons, Sem.run_bind, sizeOf_run hT h1, Result.andThen, Sem.run_pure, ih]

theorem done_build (hT : ∀ t tt, tab t = some tt → TtOk P t tt) (hs : SlotsOk sl a) (hm : MemSat w0 W m w) (hk : Kept w0 W w)
    {t : TypeId} {tt : TT} (htt : tab t = some tt) {fs : List (Nat × TypeId)} (hkind : tt.kind = .struct fs) {szs : List (Nat × Nat)} (hszs : sizesOf tab fs = some szs)
    {ps : Array (Nat × Operand)} {as : List (Nat × Nat × Opd)} (has : opdps szs ps.toList = some as)
    (hx : ∀ x, ∃ p v u, stepF sp spP no x sl (lk m) (.build tt.zero as) = some (p, v, u) ∧ p) :
    Done P sp spP no sl m w0 W (.build tt.zero as) ((do pure (Next.value (← Instr.build t (ps.map fun (i, x) => (i, a.eval x)))) : Sem Next).run P w) := by
  refine done_of hm hk (fun x p v u h hp => ?_) hx
  simp only [stepF] at h
  obtain ⟨d, hdesc, hkd⟩ := (hT _ _ htt).desc
  rw [hkind] at hkd
  obtain ⟨F, rfl, hF⟩ := hkd
  obtain ⟨vs, p', hf, hp', hfill⟩ := fill_ok (fun i => szs.toArray[i]?) szs (fun i y h => by simpa using h) hs ps.toList as _ p v u has h hp
  split at hf
  · cases hf
  rename_i cs hcs
  cases hf
  obtain ⟨i0, hi0, hsz, _, z, hz, hds, _⟩ := (hT t tt htt).info
  obtain ⟨acc', h1, h2⟩ := hfill tt.zero cs z.cells hds hcs
  refine ⟨rfl, .agg acc', ?_, by simp only [Den]; exact ⟨acc'.toList, by simp, h2⟩⟩
  have hpl := places_run (P := P) hT w F.toList szs (by rw [hF]; exact hszs)
  have hpl' : ((F.mapM fun f => do pure (f.offset, ← sizeOf f.type) : Sem (Array (Nat × Nat)))).run P w = .ok szs.toArray w := by
    rw [Array.mapM_eq_mapM_toList]
    show (((F.toList.mapM fun f => do pure (f.offset, ← sizeOf f.type) : Sem (List (Nat × Nat)))) >>= fun l => pure l.toArray).run P w = _
    rw [Sem.run_bind, hpl]
    simp [Result.andThen]
  simp only [Sem.run_bind, Instr.build, zero_run hi0 hz, Result.andThen, run_underlying hdesc, hpl', Array.toList_map, h1, Sem.run_pure]

theorem done_buildA (hT : ∀ t tt, tab t = some tt → TtOk P t tt) (hs : SlotsOk sl a) (hm : MemSat w0 W m w) (hk : Kept w0 W w)
    {t e : TypeId} {tt te : TT} (htt : tab t = some tt) {n : Nat} (hkind : tt.kind = .array n e) (hte : tab e = some te)
    {ps : Array (Nat × Operand)} {as : List (Nat × Nat × Opd)} (has : opdps ((List.range n).map fun i => (i * te.size, te.size)) ps.toList = some as)
    (hx : ∀ x, ∃ p v u, stepF sp spP no x sl (lk m) (.build tt.zero as) = some (p, v, u) ∧ p) :
    Done P sp spP no sl m w0 W (.build tt.zero as) ((do pure (Next.value (← Instr.build t (ps.map fun (i, x) => (i, a.eval x)))) : Sem Next).run P w) := by
  refine done_of hm hk (fun x p v u h hp => ?_) hx
  simp only [stepF] at h
  obtain ⟨vs, p', hf, hp', hfill⟩ := fill_ok (fun i => some (i * te.size, te.size)) ((List.range n).map fun i => (i * te.size, te.size)) (fun i y h => by
    have hlt := (List.getElem?_eq_some_iff.1 h).1
    simp at hlt
    simp [hlt] at h
    simp [h]) hs ps.toList as _ p v u has h hp
  split at hf
  · cases hf
  rename_i cs hcs
  cases hf
  obtain ⟨i0, hi0, hsz, _, z, hz, hds, _⟩ := (hT t tt htt).info
  obtain ⟨acc', h1, h2⟩ := hfill tt.zero cs z.cells hds hcs
  refine ⟨rfl, .agg acc', ?_, by simp only [Den]; exact ⟨acc'.toList, by simp, h2⟩⟩
  simp only [Sem.run_bind, Instr.build, zero_run hi0 hz, Result.andThen, run_underlying (desc_array hT htt hkind), sizeOf_run hT hte, Array.toList_map, h1, Sem.run_pure]

end Go.Proofs.Ytnmbimhcfioeiaa.Xf
