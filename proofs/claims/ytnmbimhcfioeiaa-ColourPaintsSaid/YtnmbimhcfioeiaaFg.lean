import Derived.Test.YtnmbimhcfioeiaaFf
set_option linter.unusedVariables false
set_option linter.unusedSimpArgs false
/-! Xf, part g: plain operations, further. -/
namespace Go.Proofs.Ytnmbimhcfioeiaa.Xf
variable {P : Program} {sp : Sp} {spP : SpP} {no : Lim} {sl : List Ent} {m : Mem} {w0 w : World} {W : Addr → Prop} {a : Act} {tab : Tab} {isP : FuncId → Bool}

theorem eqGuard_run (op : BinOp) (t : TypeId) (x y : Operand) {u v : Value} (hu : u.oneCell' = true) (hu2 : u ≠ .nilIface) (w : World) : (eqGuard op t x y u v).run P w = .ok () w := by
  unfold eqGuard
  cases u <;> simp [Value.oneCell'] at hu hu2 <;> (simp only [Sem.run_bind]; split <;> simp [Result.andThen])

theorem sv_notNilIface {s : SV} {v : Value} (h : Den s v) (h1 : size1 s = true) : v ≠ .nilIface := by
  cases s <;> simp [size1] at h1 <;> simp only [Den] at h
  · subst h; simp
  · subst h; simp
  · subst h; simp
  · obtain ⟨_, _, _, _, A, rfl, _⟩ := h; simp
  · obtain ⟨vs, rfl, _⟩ := h; simp

theorem done_bin (hs : SlotsOk sl a) (hm : MemSat w0 W m w) (hk : Kept w0 W w) {t : TypeId} {g : Nat} {op : BinOp} {X Y : Operand} {ax ay : Opd} (hax : opd X = some ax) (hay : opd Y = some ay)
    (hx : ∀ x, ∃ p v u, stepF sp spP no x sl (lk m) (.bin g op ax ay) = some (p, v, u) ∧ p) :
    Done P sp spP no sl m w0 W (.bin g op ax ay) ((do let v ← (do eqGuard op t X Y (a.eval X) (a.eval Y); binOp op t (a.eval X) (a.eval Y)); pure (Next.value v) : Sem Next).run P w) := by
  refine done_of hm hk (fun x p v u h hp => ?_) hx
  simp only [stepF] at h
  obtain ⟨v0, p', hd, hf, hp'⟩ := o1_den h hp hax hs
  obtain ⟨v1, p'', hd1, hf1, hp''⟩ := o1_den hf hp' hay hs
  obtain ⟨hb, rfl⟩ := upTo_some hf1
  refine ⟨rfl, ?_⟩
  unfold binSV at hb
  split at hb
  case h_2 => cases hb
  rename_i k x k' y
  simp only [Den] at hd hd1
  have hg := eqGuard_run (P := P) op t X Y (u := .int k x) (v := .int k' y) rfl (by simp) w
  have key : ∃ rv, (binOp op t (.int k x) (.int k' y)).run P w = .ok rv w ∧ Den v rv := by
    split at hb
    · simp only [shInt] at hb
      split at hb <;> cases hb
      · obtain ⟨h0, h1, h2⟩ := hp''
        exact ⟨_, (run_shift .shl k x y k' h0 h1 w).1, by simp [Den, inR_wrap h2]⟩
      · obtain ⟨h0, h1⟩ := hp''
        exact ⟨_, (run_shift .shl k x y k' h0 h1 w).1, by simp [Den]⟩
    · simp only [shInt] at hb
      cases hb
      obtain ⟨h0, h1⟩ := hp''
      exact ⟨_, (run_shift .shr k x y k' h0 h1 w).2, by simp [Den]⟩
    · by_cases e : k = k'
      · subst e
        simp only [decide_true, cond_true] at hb
        exact binInt_run hb hp'' w
      · simp [e] at hb
  obtain ⟨rv, hr, hdv⟩ := key
  refine ⟨rv, ?_, hdv⟩
  simp only [Sem.run_bind, hd, hd1, hg, Result.andThen, hr, Sem.run_pure]

theorem equalIn_bool (d : Nat) {t : TypeId} (x y : Bool) (h : P.underlying t = some .bool) (w : World) : (Op.equalIn (d + 1) t (.bool x) (.bool y)).run P w = .ok (x == y) w := by
  simp [Op.equalIn, run_underlying h, Result.andThen]
theorem equalIn_nil (d : Nat) {t e : TypeId} (A : Option Addr) (n c l k : Nat) (h : P.underlying t = some (.slice e)) (w : World) : (Op.equalIn (d + 1) t (.slice A n c) (.slice none l k)).run P w = .ok A.isNone w := by
  cases A <;> simp [Op.equalIn, run_underlying h, Result.andThen]

theorem done_binB (hT : ∀ t tt, tab t = some tt → TtOk P t tt) (hs : SlotsOk sl a) (hm : MemSat w0 W m w) (hk : Kept w0 W w) {t : TypeId} {tt : TT} (htt : tab t = some tt) (hkind : tt.kind = .bool) {op : BinOp} {X Y : Operand} {ax ay : Opd} (hax : opd X = some ax) (hay : opd Y = some ay)
    (hx : ∀ x, ∃ p v u, stepF sp spP no x sl (lk m) (.binB op ax ay) = some (p, v, u) ∧ p) :
    Done P sp spP no sl m w0 W (.binB op ax ay) ((do let v ← (do eqGuard op t X Y (a.eval X) (a.eval Y); binOp op t (a.eval X) (a.eval Y)); pure (Next.value v) : Sem Next).run P w) := by
  refine done_of hm hk (fun x p v u h hp => ?_) hx
  simp only [stepF] at h
  obtain ⟨v0, p', hd, hf, hp'⟩ := o1_den h hp hax hs
  obtain ⟨v1, p'', hd1, hf1, hp''⟩ := o1_den hf hp' hay hs
  obtain ⟨hb, rfl⟩ := upTo_some hf1
  refine ⟨rfl, ?_⟩
  unfold binBSV at hb
  split at hb
  case h_2 => cases hb
  rename_i x y
  simp only [Den] at hd hd1
  have hg := eqGuard_run (P := P) op t X Y (u := .bool x) (v := .bool y) rfl (by simp) w
  obtain ⟨d, hdesc, hkd⟩ := (hT t tt htt).desc
  rw [hkind] at hkd
  simp only [TKOk] at hkd
  subst hkd
  have he : (Op.equal t (.bool x) (.bool y)).run P w = .ok (x == y) w := by
    exact equalIn_bool 9999 x y hdesc w
  split at hb <;> cases hb
  · refine ⟨.bool (x == y), ?_, by simp only [Den]⟩
    simp only [Sem.run_bind, hd, hd1, hg, Result.andThen, Sem.run_pure, binOp, he]
  · refine ⟨.bool (x != y), ?_, by simp only [Den]⟩
    simp only [Sem.run_bind, hd, hd1, hg, Result.andThen, Sem.run_pure, binOp, he]
    rfl

theorem done_binS (hT : ∀ t tt, tab t = some tt → TtOk P t tt) (hs : SlotsOk sl a) (hm : MemSat w0 W m w) (hk : Kept w0 W w) {t e : TypeId} {tt : TT} (htt : tab t = some tt) (hkind : tt.kind = .slice e) {op : BinOp} {X Y : Operand} {ax ay : Opd} (hax : opd X = some ax) (hay : opd Y = some ay)
    (hx : ∀ x, ∃ p v u, stepF sp spP no x sl (lk m) (.binS op ax ay) = some (p, v, u) ∧ p) :
    Done P sp spP no sl m w0 W (.binS op ax ay) ((do let v ← (do eqGuard op t X Y (a.eval X) (a.eval Y); binOp op t (a.eval X) (a.eval Y)); pure (Next.value v) : Sem Next).run P w) := by
  refine done_of hm hk (fun x p v u h hp => ?_) hx
  simp only [stepF] at h
  obtain ⟨v0, p', hd, hf, hp'⟩ := o1_den h hp hax hs
  obtain ⟨v1, p'', hd1, hf1, hp''⟩ := o1_den hf hp' hay hs
  obtain ⟨hb, rfl⟩ := upTo_some hf1
  refine ⟨rfl, ?_⟩
  unfold binSSV at hb
  split at hb
  case h_2 => cases hb
  rename_i c1 L s1 lo1 n1 c2 M s2 lo2 n2
  simp only [Den] at hd hd1
  obtain ⟨_, _, _, _, A, hA, hAn, _⟩ := hd
  obtain ⟨_, _, _, _, B, hB, hBn, _⟩ := hd1
  have hMn : M.nil = true := by split at hb <;> cases hb <;> exact hp''
  rw [hMn] at hBn
  obtain rfl : B = none := by cases B <;> simp at hBn ⊢
  obtain ⟨d, hdesc, hkd⟩ := (hT t tt htt).desc
  rw [hkind] at hkd
  simp only [TKOk] at hkd
  subst hkd
  have hg := eqGuard_run (P := P) op t X Y (u := a.eval X) (v := a.eval Y) (by rw [hA]; rfl) (by rw [hA]; simp) w
  have he : (Op.equal t (a.eval X) (a.eval Y)).run P w = .ok L.nil w := by
    rw [hA, hB, ← hAn]
    cases A <;> exact equalIn_nil 9999 _ _ _ _ _ hdesc w
  split at hb <;> cases hb
  · refine ⟨.bool L.nil, ?_, by simp only [Den]⟩
    simp only [Sem.run_bind, hg, Result.andThen, Sem.run_pure]
    have : binOp .eql t (a.eval X) (a.eval Y) = (do pure (.bool (← Op.equal t (a.eval X) (a.eval Y)))) := by rw [hA, hB]; rfl
    rw [this]
    simp [he, Result.andThen]
  · refine ⟨.bool (!L.nil), ?_, by simp only [Den]⟩
    simp only [Sem.run_bind, hg, Result.andThen, Sem.run_pure]
    have : binOp .neq t (a.eval X) (a.eval Y) = (do pure (.bool (!(← Op.equal t (a.eval X) (a.eval Y))))) := by rw [hA, hB]; rfl
    rw [this]
    simp [he, Result.andThen]

/-- Operations of one operand that only reckon. -/
theorem done_one (hs : SlotsOk sl a) (hm : MemSat w0 W m w) (hk : Kept w0 W w) {io : IROp} {X : Operand} {ax : Opd} (hax : opd X = some ax) {S : Sem Value} {f : SV → R}
    (hf : ∀ x, stepF sp spP no x sl (lk m) io = o1 sl ax f)
    (hr : ∀ s p v u, Den s (a.eval X) → f s = some (p, v, u) → p → u = [] ∧ ∃ rv, S.run P w = .ok rv w ∧ Den v rv)
    (hx : ∀ x, ∃ p v u, stepF sp spP no x sl (lk m) io = some (p, v, u) ∧ p) :
    Done P sp spP no sl m w0 W io ((do pure (Next.value (← S)) : Sem Next).run P w) := by
  refine done_of hm hk (fun x p v u h hp => ?_) hx
  rw [hf x] at h
  obtain ⟨v0, p', hd, h1, hp'⟩ := o1_den h hp hax hs
  obtain ⟨rfl, rv, hrun, hdv⟩ := hr _ _ _ _ hd h1 hp'
  exact ⟨rfl, rv, by simp [hrun, Result.andThen], hdv⟩

theorem done_two (hs : SlotsOk sl a) (hm : MemSat w0 W m w) (hk : Kept w0 W w) {io : IROp} {X Y : Operand} {ax ay : Opd} (hax : opd X = some ax) (hay : opd Y = some ay) {S : Sem Value} {f : SV → SV → R}
    (hf : ∀ x, stepF sp spP no x sl (lk m) io = o1 sl ax fun u => o1 sl ay fun v => f u v)
    (hr : ∀ s s' p v u, Den s (a.eval X) → Den s' (a.eval Y) → f s s' = some (p, v, u) → p → u = [] ∧ ∃ rv, S.run P w = .ok rv w ∧ Den v rv)
    (hx : ∀ x, ∃ p v u, stepF sp spP no x sl (lk m) io = some (p, v, u) ∧ p) :
    Done P sp spP no sl m w0 W io ((do pure (Next.value (← S)) : Sem Next).run P w) := by
  refine done_of hm hk (fun x p v u h hp => ?_) hx
  rw [hf x] at h
  obtain ⟨v0, p', hd, h1, hp'⟩ := o1_den h hp hax hs
  obtain ⟨v1, p'', hd1, h2, hp''⟩ := o1_den h1 hp' hay hs
  obtain ⟨rfl, rv, hrun, hdv⟩ := hr _ _ _ _ _ hd hd1 h2 hp''
  exact ⟨rfl, rv, by simp [hrun, Result.andThen], hdv⟩

theorem run_neg {g : Nat} {s : SV} {x : Value} {p : Prop} {v : SV} {u : Upd} (hd : Den s x) (h : upTo (negSV g s) = some (p, v, u)) (hp : p) (w : World) :
    u = [] ∧ ∃ rv, (Op.unary .neg x).run P w = .ok rv w ∧ Den v rv := by
  obtain ⟨hb, rfl⟩ := upTo_some h
  refine ⟨rfl, ?_⟩
  unfold negSV at hb
  split at hb
  case h_2 => cases hb
  simp only [Den] at hd
  subst hd
  split at hb <;> cases hb
  · exact ⟨_, by simp [Op.unary, Op.intArith]; rfl, by simp [Den, inR_wrap hp]⟩
  · exact ⟨_, by simp [Op.unary, Op.intArith]; rfl, by simp [Den]⟩

theorem run_not {s : SV} {x : Value} {p : Prop} {v : SV} {u : Upd} (hd : Den s x) (h : upTo (notSV s) = some (p, v, u)) (hp : p) (w : World) :
    u = [] ∧ ∃ rv, (Op.unary .not x).run P w = .ok rv w ∧ Den v rv := by
  obtain ⟨hb, rfl⟩ := upTo_some h
  refine ⟨rfl, ?_⟩
  unfold notSV at hb
  split at hb
  case h_2 => cases hb
  simp only [Den] at hd
  subst hd
  cases hb
  exact ⟨_, by simp [Op.unary]; rfl, by simp [Den]⟩

theorem run_cvt (hT : ∀ t tt, tab t = some tt → TtOk P t tt) {src dst : TypeId} {ts td : TT} (hts : tab src = some ts) (htd : tab dst = some td) {k0 k : IntKind} (hk0 : ts.kind = .int k0) (hk : td.kind = .int k)
    {g : Nat} {s : SV} {x : Value} {p : Prop} {v : SV} {u : Upd} (hd : Den s x) (h : upTo (cvtSV g k s) = some (p, v, u)) (hp : p) (w : World) :
    u = [] ∧ ∃ rv, (convert src dst x).run P w = .ok rv w ∧ Den v rv := by
  obtain ⟨hb, rfl⟩ := upTo_some h
  refine ⟨rfl, ?_⟩
  obtain ⟨d, hdesc, hkd⟩ := (hT _ _ hts).desc
  obtain ⟨d', hdesc', hkd'⟩ := (hT _ _ htd).desc
  rw [hk0] at hkd
  rw [hk] at hkd'
  simp only [TKOk] at hkd hkd'
  subst hkd hkd'
  unfold cvtSV at hb
  split at hb
  case h_2 => cases hb
  simp only [Den] at hd
  subst hd
  split at hb <;> cases hb
  · exact ⟨_, by simp [convert, run_underlying hdesc, run_underlying hdesc', Conv.intToInt, Result.andThen]; rfl, by simp [Den, inR_wrap hp]⟩
  · exact ⟨_, by simp [convert, run_underlying hdesc, run_underlying hdesc', Conv.intToInt, Result.andThen]; rfl, by simp [Den]⟩

theorem field_of (hT : ∀ t tt, tab t = some tt → TtOk P t tt) {t : TypeId} {tt : TT} (htt : tab t = some tt) {fs : List (Nat × TypeId)} (hkind : tt.kind = .struct fs) {f off : Nat} {ft : TypeId} (hf : fs[f]? = some (off, ft)) :
    ∃ F : Array Field, P.underlying t = some (.struct F) ∧ ∃ fd : Field, F[f]? = some fd ∧ fd.offset = off ∧ fd.type = ft := by
  obtain ⟨d, hdesc, hkd⟩ := (hT _ _ htt).desc
  rw [hkind] at hkd
  obtain ⟨F, rfl, hF⟩ := hkd
  refine ⟨F, hdesc, ?_⟩
  rw [← hF] at hf
  simp only [List.getElem?_map, Option.map_eq_some_iff] at hf
  obtain ⟨fd, h1, h2⟩ := hf
  exact ⟨fd, by simpa using h1, by simpa using (Prod.mk.inj h2).1, by simpa using (Prod.mk.inj h2).2⟩

theorem run_fld (hT : ∀ t tt, tab t = some tt → TtOk P t tt) {t : TypeId} {tt tu : TT} (htt : tab t = some tt) {fs : List (Nat × TypeId)} (hkind : tt.kind = .struct fs) {f off : Nat} {ft : TypeId} (hf : fs[f]? = some (off, ft)) (htu : tab ft = some tu) (hsz : tu.size ≠ 0)
    {s : SV} {x : Value} {p : Prop} {v : SV} {u : Upd} (hd : Den s x) (h : (match (generalizing := false) s with | .ptr c L i s f => (some (True, .ptr c L i s (f + off), []) : R) | _ => none) = some (p, v, u)) (hp : p) (w : World) :
    u = [] ∧ ∃ rv, (Instr.fieldAt t x f).run P w = .ok rv w ∧ Den v rv := by
  cases s <;> simp only at h <;> first | (cases h; done) | skip
  cases h
  refine ⟨rfl, ?_⟩
  obtain ⟨F, hdesc, fd, hfd, rfl, rfl⟩ := field_of hT htt hkind hf
  obtain ⟨i0, hi0, hs0, _⟩ := (hT _ _ htu).info
  simp only [Den] at hd
  refine ⟨_, by simp [Instr.fieldAt, run_underlying hdesc, hfd, hd, Instr.sureAddr, fieldPlace, size_run hi0, hs0, hsz, Result.andThen]; rfl, ?_⟩
  simp only [Den, ad_add]
  simp [Nat.add_assoc]

theorem part_run {t : TypeId} {tt : TT} (h : TtOk P t tt) (cs : Array Value) (off : Nat) (w : World) :
    (part t cs off).run P w = if tt.agg then .ok (.agg (cs.extract off (off + tt.size))) w else (match cs[off]? with | some v => .ok v w | none => (stuck "part: no such cell" : Sem Value).run P w) := by
  obtain ⟨i0, hi0, hsz, _⟩ := h.info
  unfold part
  simp only [Sem.run_bind, isAgg_run h, Result.andThen]
  cases tt.agg
  · simp; split <;> rename_i hh <;> simp [hh]
  · simp [size_run hi0, hsz, Result.andThen]

theorem Dens.drop : ∀ {cs : List SV} {vs : List Value} (n : Nat), Dens cs vs → Dens (cs.drop n) (vs.drop n)
  | cs, vs, 0, h => by simpa using h
  | [], vs, n + 1, h => by simp only [Dens] at h; subst h; simp [Dens]
  | c :: cs, vs, n + 1, h => by
    simp only [Dens] at h
    obtain ⟨v, vs', rfl, _, h⟩ := h
    simpa using Dens.drop n h
theorem Dens.take : ∀ {cs : List SV} {vs : List Value} (n : Nat), Dens cs vs → Dens (cs.take n) (vs.take n)
  | cs, vs, 0, h => by simp [Dens]
  | [], vs, n + 1, h => by simp only [Dens] at h; subst h; simp [Dens]
  | c :: cs, vs, n + 1, h => by
    simp only [Dens] at h
    obtain ⟨v, vs', rfl, hv, h⟩ := h
    simp only [List.take_succ_cons, Dens]
    exact ⟨_, _, rfl, hv, Dens.take n h⟩

theorem run_fldv (hT : ∀ t tt, tab t = some tt → TtOk P t tt) {t : TypeId} {tt tu : TT} (htt : tab t = some tt) {fs : List (Nat × TypeId)} (hkind : tt.kind = .struct fs) {f off : Nat} {ft : TypeId} (hf : fs[f]? = some (off, ft)) (htu : tab ft = some tu)
    {s : SV} {x : Value} {p : Prop} {v : SV} {u : Upd} (hd : Den s x)
    (h : (match (generalizing := false) s with
      | .agg cs => match (bif tu.agg then some tu.size else none) with
        | none => match getL cs off with | none => none | some v => some (True, v, [])
        | some n => match takeL (dropL cs off) n with | none => none | some l => some (True, .agg l, [])
      | _ => (none : R)) = some (p, v, u)) (hp : p) (w : World) :
    u = [] ∧ ∃ rv, (Instr.field t x f).run P w = .ok rv w ∧ Den v rv := by
  cases s <;> simp only at h <;> first | (cases h; done) | skip
  rename_i cs
  obtain ⟨F, hdesc, fd, hfd, rfl, rfl⟩ := field_of hT htt hkind hf
  simp only [Den] at hd
  obtain ⟨vs, rfl, hds⟩ := hd
  have hpart := part_run (P := P) (hT _ _ htu) vs.toArray fd.offset w
  cases hag : tu.agg with
  | false =>
    rw [hag] at h
    simp only [cond_false] at h
    split at h
    · cases h
    · rename_i v' hv
      cases h
      rw [getL_eq] at hv
      obtain ⟨rv, hrv, hdv⟩ := hds.get hv
      refine ⟨rfl, rv, ?_, hdv⟩
      rw [hag] at hpart
      simp only [Bool.false_eq_true, if_false] at hpart
      simp [Instr.field, run_underlying hdesc, hfd, asAgg, hpart, hrv, Result.andThen]
  | true =>
    rw [hag] at h
    simp only [cond_true] at h
    split at h
    · cases h
    · rename_i l hl
      cases h
      have ⟨h1, h2⟩ := takeL_some hl
      rw [dropL_eq] at h1 h2
      subst h1
      rw [hag] at hpart
      simp only [if_true] at hpart
      refine ⟨rfl, _, by simp [Instr.field, run_underlying hdesc, hfd, asAgg, hpart, Result.andThen]; rfl, ?_⟩
      simp only [Den]
      refine ⟨(vs.drop fd.offset).take tu.size, ?_, (hds.drop _).take _⟩
      simp [List.drop_take]

end Go.Proofs.Ytnmbimhcfioeiaa.Xf
