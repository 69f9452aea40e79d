import Derived.Test.YtnmbimhcfioeiaaFm
set_option linter.unusedVariables false
set_option linter.unusedSimpArgs false
/-! Xf, part n: one operation. -/
namespace Go.Proofs.Ytnmbimhcfioeiaa.Xf
variable {P : Program} {sp : Sp} {spP : SpP} {no : Lim} {sl : List Ent} {m : Mem} {w0 w : World} {W : Addr → Prop} {a : Act} {tab : Tab} {isP : FuncId → Bool}

theorem of_done {o : Oper} {io : IROp} {K : Act → World → Prop} {Q : Exit → Act → World → Prop} {r : Result Next}
    (h : Done P sp spP no sl m w0 W io r) (hr : (execOp a.eval o).run P w = r)
    (hK : ∀ x p v u rv w', stepF sp spP no x sl (lk m) io = some (p, v, u) → p → Den v rv → MemSat w0 W (apU m u) w' → Kept w0 W w' → K (a.put o.dst rv) w') : o.wp P a w K Q := by
  obtain ⟨x, p, v, u, rv, w', h1, h2, h3, h4, h5, h6⟩ := h
  unfold Oper.wp
  rw [hr]
  rcases h3 with rfl | ⟨rfl, rfl⟩
  · exact hK x p v u rv w' h1 h2 h4 h5 h6
  · exact hK x p v u undef w' h1 h2 h4 h5 h6

theorem opt_den (hs : SlotsOk sl a) {X : Option Operand} {ao : Option Opd} (h : opt X = some ao) {f : Option SV → R} {p : Prop} {r : SV} {u : Upd} (hf : o0 sl ao f = some (p, r, u)) (hp : p) :
    ∃ s p', DenO s (X.map a.eval) ∧ f s = some (p', r, u) ∧ p' := by
  cases X with
  | none =>
    simp only [opt] at h; cases h
    simp only [o0] at hf
    exact ⟨none, p, trivial, hf, hp⟩
  | some X =>
    simp only [opt] at h
    split at h
    · rename_i b hb
      cases h
      simp only [o0] at hf
      obtain ⟨v, p', hd, hf', hp'⟩ := o1_den hf hp hb hs
      exact ⟨some v, p', hd, hf', hp'⟩
    · cases h

theorem two_ops {xs : List Operand} {ax ay : Opd} (h : opds xs = some [ax, ay]) : ∃ X Y, xs = [X, Y] ∧ opd X = some ax ∧ opd Y = some ay := by
  match xs, h with
  | [], h => simp [opds] at h
  | [X], h => simp only [opds] at h; split at h <;> simp_all
  | [X, Y], h =>
    simp only [opds] at h
    cases hx : opd X <;> cases hy : opd Y <;> simp [hx, hy] at h
    exact ⟨X, Y, rfl, by rw [hx, h.1], by rw [hy, h.2]⟩
  | X :: Y :: Z :: r, h =>
    simp only [opds] at h
    cases hx : opd X <;> cases hy : opd Y <;> cases hz : opd Z <;> cases hr : opds r <;> simp [hx, hy, hz, hr] at h

theorem three_ops {xs : List Operand} {ax ay az : Opd} (h : opds xs = some [ax, ay, az]) : ∃ X Y Z, xs = [X, Y, Z] ∧ opd X = some ax ∧ opd Y = some ay ∧ opd Z = some az := by
  match xs, h with
  | [], h => simp [opds] at h
  | X :: r, h =>
    simp only [opds] at h
    cases hx : opd X <;> cases hr : opds r <;> simp [hx, hr] at h
    rename_i b bs
    obtain ⟨rfl, rfl⟩ := h
    obtain ⟨Y, Z, rfl, h1, h2⟩ := two_ops hr
    exact ⟨X, Y, Z, rfl, hx, h1, h2⟩

/-- The operands of a list, at once: what they are does not hang on where new chunks lie. -/
theorem ons_val (hs : SlotsOk sl a) : ∀ {xs : List Operand} {as : List Opd} {F : (Nat → Loc) → R} (f : List SV → (Nat → Loc) → R), opds xs = some as → (∀ x, F x = ons sl as fun vs => f vs x) →
    (∃ p v u, F (fun _ => default) = some (p, v, u) ∧ p) → ∃ vs c', Dens vs (xs.map a.eval) ∧ c' ∧ ∀ x, F x = match f vs x with | none => none | some (p, v, u) => some (c' ∧ p, v, u)
  | [], as, F, f, hx, hF, hp => by
    simp only [opds] at hx; cases hx
    refine ⟨[], True, by simp [Dens], trivial, fun x => ?_⟩
    rw [hF x]
    simp only [ons]
    cases f [] x with
    | none => rfl
    | some r => simp
  | X :: xs, as, F, f, hx, hF, hp => by
    simp only [opds] at hx
    split at hx
    case h_2 => cases hx
    rename_i b bs hb hbs
    cases hx
    obtain ⟨p, v, u, h, hpp⟩ := hp
    rw [hF] at h
    simp only [ons] at h
    obtain ⟨c0, s0, p0, e0, f0, rfl⟩ := o1_some h
    obtain ⟨hc0, hp0⟩ := hpp
    subst hc0
    obtain ⟨vs, c', h1, h2, h3⟩ := ons_val hs (F := fun x => ons sl bs fun vs => f (s0 :: vs) x) (fun vs x => f (s0 :: vs) x) hbs (fun x => rfl) ⟨_, _, _, f0, hp0⟩
    refine ⟨s0 :: vs, true = true ∧ c', ?_, ⟨rfl, h2⟩, fun x => ?_⟩
    · simp only [List.map_cons, Dens]
      exact ⟨_, _, rfl, opd_den hb hs e0 rfl, h1⟩
    · rw [hF x]
      simp only [ons, o1, e0]
      have := h3 x
      rw [this]
      cases f (s0 :: vs) x with
      | none => rfl
      | some r => simp [and_assoc]

theorem ons_none {sl : List Ent} : ∀ {as : List Opd} {p : Prop} {v : SV} {u : Upd}, ons sl as (fun _ => (none : R)) = some (p, v, u) → False
  | [], p, v, u, h => by simp [ons] at h
  | b :: as, p, v, u, h => by
    simp only [ons] at h
    obtain ⟨_, _, _, _, f0, _⟩ := o1_some h
    exact ons_none f0

theorem opOK (hT : ∀ t tt, tab t = some tt → TtOk P t tt) (hP : SpPOk P spP) (hS : SpOk P sp) {g io : IROp} {o : Oper} (hc : compO tab isP g o.op = some io)
    (hs : SlotsOk sl a) (hm : MemSat w0 W m w) (hk : Kept w0 W w)
    (hx : ∀ x, ∃ p v u, stepF sp spP no x sl (lk m) io = some (p, v, u) ∧ p) {K : Act → World → Prop} {Q : Exit → Act → World → Prop}
    (hK : ∀ x p v u rv w', stepF sp spP no x sl (lk m) io = some (p, v, u) → p → Den v rv → MemSat w0 W (apU m u) w' → Kept w0 W w' → K (a.put o.dst rv) w') : o.wp P a w K Q := by
  cases hop : o.op with
  | move X =>
    simp only [hop, compO, Option.map_eq_some_iff] at hc
    obtain ⟨ax, hax, rfl⟩ := hc
    exact of_done (done_mov hs hm hk hax hx) (by simp [execOp, hop]) hK
  | assign X =>
    simp only [hop, compO, Option.map_eq_some_iff] at hc
    obtain ⟨ax, hax, rfl⟩ := hc
    exact of_done (done_mov hs hm hk hax hx) (by simp [execOp, hop]) hK
  | pick C X Y =>
    simp only [hop, compO] at hc
    split at hc
    case h_2 => cases hc
    rename_i c ax ay h1 h2 h3
    cases hc
    exact of_done (done_pick hs hm hk h1 h2 h3 hx) (by rw [execOp, hop]) hK
  | box t X =>
    simp only [hop, compO, Option.map_eq_some_iff] at hc
    obtain ⟨ax, hax, rfl⟩ := hc
    exact of_done (done_box (t := t) hs hm hk hax hx) (by rw [execOp, hop]) hK
  | alloc t =>
    simp only [hop, compO] at hc
    split at hc
    case h_2 => cases hc
    rename_i tt htt
    split at hc
    · rename_i n e hkind
      split at hc
      case h_2 => cases hc
      rename_i te hte
      split at hc
      case h_2 => cases hc
      rename_i k hk'
      cases hzi : zeroI k n tt.zero with
      | false => simp [hzi] at hc
      | true =>
        simp only [hzi, cond_true] at hc
        cases hc
        exact of_done (done_allocI hT hm hk htt (zeroI_eq hzi) hx) (by rw [execOp, hop]) hK
    · cases hc
      exact of_done (done_alloc hT hm hk htt hx) (by rw [execOp, hop]) hK
  | build t ps =>
    simp only [hop, compO] at hc
    split at hc
    case h_2 => cases hc
    rename_i tt htt
    split at hc
    · rename_i fs hkind
      split at hc
      case h_2 => cases hc
      rename_i szs hszs
      split at hc
      case h_2 => cases hc
      rename_i as has
      cases hc
      exact of_done (done_build hT hs hm hk htt hkind hszs has hx) (by rw [execOp, hop]) hK
    · rename_i n e hkind
      split at hc
      case h_2 => cases hc
      rename_i te hte
      split at hc
      case h_2 => cases hc
      rename_i as has
      cases hc
      exact of_done (done_buildA hT hs hm hk htt hkind hte has hx) (by rw [execOp, hop]) hK
    · cases hc
  | buildSlice t len ps =>
    simp only [hop, compO] at hc
    split at hc
    case h_2 => cases hc
    rename_i tt htt
    split at hc
    case h_2 => cases hc
    rename_i e hkind
    split at hc
    case h_2 => cases hc
    rename_i te hte
    cases hir : g.isR with
    | true =>
      simp only [hir, cond_true] at hc
      cases hb : (ps.size == len && decide (0 < te.size) && decide (te.size * len ≤ 16777216)) with
      | false => simp [hb] at hc
      | true =>
        simp only [hb, cond_true] at hc
        simp only [Bool.and_eq_true, beq_iff_eq, decide_eq_true_eq] at hb
        split at hc
        case h_2 => cases hc
        rename_i xs hio
        split at hc
        case h_2 => cases hc
        rename_i as has
        cases hc
        exact of_done (done_brecs hT hs hm hk htt hkind hte hb.1.2 hio has hb.1.1 hb.2 hx) (by rw [execOp, hop]) hK
    | false =>
      simp only [hir, cond_false] at hc
      cases hb : (te.size == 1 && ps.size == len && simpleK te && decide (len ≤ 16777216)) with
      | false => simp [hb] at hc
      | true =>
        simp only [hb, cond_true] at hc
        simp only [Bool.and_eq_true, beq_iff_eq, decide_eq_true_eq] at hb
        split at hc
        case h_2 => cases hc
        rename_i xs hio
        split at hc
        case h_2 => cases hc
        rename_i as has
        cases hc
        exact of_done (done_bslice hT hs hm hk htt hkind hte hb.1.1.1 hio has hb.1.1.2 hb.2 hx) (by rw [execOp, hop]) hK
  | load t X =>
    simp only [hop, compO] at hc
    split at hc
    case h_2 => cases hc
    rename_i tt ax htt hax
    cases hc
    exact of_done (done_load hT hs hm hk htt hax hx) (by rw [execOp, hop]) hK
  | store t X Y =>
    simp only [hop, compO] at hc
    split at hc
    case h_2 => cases hc
    rename_i tt ax ay htt hax hay
    cases hc
    exact of_done (done_store hT hs hm hk htt hax hay hx) (by rw [execOp, hop]) hK
  | nilCheck X =>
    simp only [hop, compO, Option.map_eq_some_iff] at hc
    obtain ⟨ax, hax, rfl⟩ := hc
    have hd : Done P sp spP no sl m w0 W (.nilc ax) (.ok (.value (a.eval X)) w) ∧ ∃ b, a.eval X = .pointer (some b) := by
      obtain ⟨p, v, u, h, hp⟩ := hx (fun _ => default)
      have h0 := h
      simp only [stepF] at h
      obtain ⟨v0, p', hd, hf, hp'⟩ := o1_den h hp hax hs
      cases v0 <;> simp only at hf <;> first | (cases hf; done) | skip
      cases hf
      exact ⟨⟨_, _, _, _, _, _, h0, hp, .inl rfl, hd, hm, hk⟩, _, hd⟩
    obtain ⟨hd, b, hb⟩ := hd
    exact of_done hd (by rw [execOp, hop]; simp [hb]) hK
  | binOp op t X Y yt =>
    simp only [hop, compO] at hc
    split at hc
    case h_2 => cases hc
    rename_i tt ax ay htt hax hay
    split at hc
    · cases hc
      exact of_done (done_bin (t := t) hs hm hk hax hay hx) (by rw [execOp, hop]) hK
    · rename_i hkind
      cases hc
      exact of_done (done_binB hT hs hm hk htt hkind hax hay hx) (by rw [execOp, hop]) hK
    · rename_i e hkind
      cases hc
      exact of_done (done_binS hT hs hm hk htt hkind hax hay hx) (by rw [execOp, hop]) hK
    · split at hc
      case h_2 => cases hc
      rename_i ks hks
      cases hc
      exact of_done (done_binA hT hs hm hk htt hks hax hay hx) (by rw [execOp, hop]) hK
    · split at hc
      case h_2 => cases hc
      rename_i ks hks
      cases hc
      exact of_done (done_binA hT hs hm hk htt hks hax hay hx) (by rw [execOp, hop]) hK
    · rename_i hkind
      cases hc
      exact of_done (done_binN hT hs hm hk htt hkind hax hay hx) (by rw [execOp, hop]) hK
    · cases hc
  | unOp op t X =>
    simp only [hop, compO] at hc
    split at hc
    · rename_i ax hax
      cases hc
      exact of_done (done_one hs hm hk hax (f := fun v => upTo (negSV g.wOf v)) (fun x => rfl) (fun s p v u h1 h2 h3 => run_neg h1 h2 h3 w) hx) (by rw [execOp, hop]) hK
    · rename_i ax hax
      cases hc
      exact of_done (done_one hs hm hk hax (f := fun v => upTo (notSV v)) (fun x => rfl) (fun s p v u h1 h2 h3 => run_not h1 h2 h3 w) hx) (by rw [execOp, hop]) hK
    · cases hc
  | convert src dst X =>
    simp only [hop, compO] at hc
    split at hc
    case h_2 => cases hc
    rename_i ts td ax hts htd hax
    split at hc
    case h_2 => cases hc
    rename_i k0 k hk0 hk1
    cases hc
    exact of_done (done_one hs hm hk hax (f := fun v => upTo (cvtSV g.wOf k v)) (fun x => rfl) (fun s p v u h1 h2 h3 => run_cvt hT hts htd hk0 hk1 h1 h2 h3 w) hx) (by rw [execOp, hop]) hK
  | makeFunc fn first cs =>
    simp only [hop, compO] at hc
    split at hc
    case h_2 => cases hc
    rename_i f as hfirst has
    cases hc
    have hd : Done P sp spP no sl m w0 W (.mkf f as) (.ok (.value (.func (.func f) #[] (cs.map a.eval))) w) := by
      refine done_of hm hk (fun x p v u h hp => ?_) hx
      simp only [stepF] at h
      obtain ⟨vs, p', hds, hf, hp'⟩ := ons_den hs has h hp
      cases hf
      exact ⟨rfl, _, rfl, by simp only [Den]; exact ⟨cs.toList.map a.eval, by congr 1; apply Array.ext'; simp, hds⟩⟩
    have hfe : first = #[] := by apply Array.ext'; simpa using hfirst
    exact of_done hd (by rw [execOp, hop]; simp [Instr.makeFunc, hfe]) hK
  | makeSlice t l c =>
    simp only [hop, compO] at hc
    split at hc
    case h_2 => cases hc
    rename_i tt htt
    split at hc
    case h_2 => cases hc
    rename_i e hkind
    split at hc
    case h_2 => cases hc
    rename_i te ax ay hte hax hay
    cases hir : g.isR with
    | true =>
      simp only [hir, cond_true] at hc
      cases hb : (decide (te.bytes ≤ 100000) && decide (te.size ≤ 1000) && decide (0 < te.size)) with
      | false => simp [hb] at hc
      | true =>
        simp only [hb, cond_true] at hc
        simp only [Bool.and_eq_true, decide_eq_true_eq] at hb
        split at hc
        case h_2 => cases hc
        rename_i z hz'
        cases hc
        exact of_done (done_mksR hT hs hm hk htt hkind hte hb.2 hb.1.1 hz' hax hay hx) (by rw [execOp, hop]) hK
    | false =>
      simp only [hir, cond_false] at hc
      cases hb : (te.size == 1 && decide (te.bytes ≤ 100)) with
      | false => simp [hb] at hc
      | true =>
        simp only [hb, cond_true] at hc
        simp only [Bool.and_eq_true, beq_iff_eq, decide_eq_true_eq] at hb
        split at hc
        case h_2 => cases hc
        rename_i z hz'
        cases hc
        exact of_done (done_mks hT hs hm hk htt hkind hte hb.1 hb.2 hz' hax hay hx) (by rw [execOp, hop]) hK
  | slice t X lo hi mx =>
    simp only [hop, compO] at hc
    split at hc
    case h_2 => cases hc
    rename_i tt ax l h htt hax hl hh
    split at hc
    · rename_i e hkind
      split at hc
      case h_2 => cases hc
      rename_i te hte
      cases hc
      refine of_done (o := o) (r := ((do pure (Next.value (← Instr.sliceAt t (a.eval X) (lo.map a.eval) (hi.map a.eval) none)) : Sem Next).run P w)) (done_of hm hk (fun x p v u hst hp => ?_) hx) (by rw [execOp, hop]; rfl) hK
      simp only [stepF] at hst
      obtain ⟨v0, p0, hd0, hf0, hp0⟩ := o1_den hst hp hax hs
      obtain ⟨s1, p1, hd1, hf1, hp1⟩ := opt_den hs hl hf0 hp0
      obtain ⟨s2, p2, hd2, hf2, hp2⟩ := opt_den hs hh hf1 hp1
      obtain ⟨rfl, rv, hr, hdv⟩ := run_slc hT htt hkind hte hd0 hd1 hd2 hf2 hp2 w
      exact ⟨rfl, rv, by simp [hr, Result.andThen], hdv⟩
    · rename_i n e hkind
      split at hc
      case h_2 => cases hc
      rename_i te hte
      cases hc
      exact of_done (done_one hs hm hk hax (fun x => rfl) (fun s p v u h1 h2 h3 => run_slcA hT htt hkind hte h1 h2 h3 w) hx) (by rw [execOp, hop]; rfl) hK
    · cases hc
  | fieldAddr t X f =>
    simp only [hop, compO] at hc
    split at hc
    case h_2 => cases hc
    rename_i tt ax htt hax
    split at hc
    case h_2 => cases hc
    rename_i fs hkind
    split at hc
    case h_2 => cases hc
    rename_i off ft hf
    split at hc
    case h_2 => cases hc
    rename_i tu htu
    cases hb : (tu.size == 0) with
    | true => simp [hb] at hc
    | false =>
      simp only [hb, cond_false] at hc
      cases hc
      exact of_done (done_one hs hm hk hax (fun x => rfl) (fun s p v u h1 h2 h3 => run_fld hT htt hkind hf htu (by simpa using hb) h1 h2 h3 w) hx) (by rw [execOp, hop]) hK
  | field t X f =>
    simp only [hop, compO] at hc
    split at hc
    case h_2 => cases hc
    rename_i tt ax htt hax
    split at hc
    case h_2 => cases hc
    rename_i fs hkind
    split at hc
    case h_2 => cases hc
    rename_i off ft hf
    split at hc
    case h_2 => cases hc
    rename_i tu htu
    cases hc
    exact of_done (done_one hs hm hk hax (fun x => rfl) (fun s p v u h1 h2 h3 => run_fldv hT htt hkind hf htu h1 h2 h3 w) hx) (by rw [execOp, hop]) hK
  | indexAddr t X Y =>
    simp only [hop, compO] at hc
    split at hc
    case h_2 => cases hc
    rename_i tt ax ay htt hax hay
    split at hc
    · rename_i e hkind
      split at hc
      case h_2 => cases hc
      rename_i te hte
      cases hc
      exact of_done (done_two hs hm hk hax hay (fun x => rfl) (fun s s' p v u h1 h2 h3 h4 => run_idxS hT htt hkind hte h1 h2 h3 h4 w) hx) (by rw [execOp, hop]) hK
    · rename_i n e hkind
      split at hc
      case h_2 => cases hc
      rename_i te hte
      cases hc
      exact of_done (done_two hs hm hk hax hay (fun x => rfl) (fun s s' p v u h1 h2 h3 h4 => run_idxP hT htt hkind hte h1 h2 h3 h4 w) hx) (by rw [execOp, hop]) hK
    · cases hc
  | index t X Y =>
    simp only [hop, compO] at hc
    split at hc
    case h_2 => cases hc
    rename_i tt ax ay htt hax hay
    split at hc
    case h_2 => cases hc
    rename_i n e hkind
    split at hc
    case h_2 => cases hc
    rename_i te hte
    cases hb : (te.size == 1 && simpleK te) with
    | false => simp [hb] at hc
    | true =>
      simp only [hb, cond_true] at hc
      simp only [Bool.and_eq_true, beq_iff_eq] at hb
      cases hc
      exact of_done (done_two hs hm hk hax hay (fun x => rfl) (fun s s' p v u h1 h2 h3 h4 => run_idxV hT htt hkind hte hb.1 (by have := hb.2; unfold simpleK at this; unfold TT.agg; split at this <;> simp_all) h1 h2 h3 h4 w) hx) (by rw [execOp, hop]) hK
  | extract X i =>
    simp only [hop, compO, Option.map_eq_some_iff] at hc
    obtain ⟨ax, hax, rfl⟩ := hc
    exact of_done (done_one hs hm hk hax (fun x => rfl) (fun s p v u h1 h2 h3 => run_ext h1 h2 w) hx) (by rw [execOp, hop]) hK
  | call c =>
    simp only [hop, compO] at hc
    split at hc
    case h_1 => cases hc
    rename_i as has
    have hargs : c.args = c.args.toList.toArray := by simp
    have bi : ∀ (b : Builtin) (S : Sem Value) (io : IROp), c.callee = .builtin b → Done P sp spP no sl m w0 W io ((do pure (Next.value (← S)) : Sem Next).run P w) →
        (∀ consts, builtin b c.argTypes o.type consts (c.args.map a.eval) = (do pure (Next.value (← S)))) →
        (∀ x p v u rv w', stepF sp spP no x sl (lk m) io = some (p, v, u) → p → Den v rv → MemSat w0 W (apU m u) w' → Kept w0 W w' → K (a.put o.dst rv) w') → o.wp P a w K Q := by
      intro b S io hcal hd he hK
      refine of_done hd ?_ hK
      rw [execOp, hop]
      simp only [resolve, hcal, invoke, Sem.run_bind, Sem.run_pure, Result.andThen]
      rw [he]
      simp only [Sem.run_bind, Sem.run_pure, Result.andThen]
    split at hc
    · -- len
      rename_i hcal
      split at hc
      case h_2 => cases hc
      rename_i t ax hat
      split at hc
      case h_2 => cases hc
      rename_i tt htt
      have hat' : c.argTypes = #[t] := by apply Array.ext'; simpa using hat
      obtain ⟨X, hX⟩ : ∃ X, c.args.toList = [X] ∧ opd X = some ax := by
        cases hl : c.args.toList with
        | nil => rw [hl] at has; simp [opds] at has
        | cons X r =>
          rw [hl] at has
          simp only [opds] at has
          split at has
          · rename_i b bs hb hbs
            cases has
            cases r with
            | nil => exact ⟨X, rfl, hb⟩
            | cons Y r => simp only [opds] at hbs; split at hbs <;> cases hbs
          · cases has
      have hA : c.args.map a.eval = #[a.eval X] := by apply Array.ext'; simp [hX.1]
      split at hc
      · rename_i e hkind
        cases hc
        refine bi _ (Builtin.len_ #[t] o.type #[a.eval X]) _ hcal (done_one hs hm hk hX.2 (fun x => rfl) (fun s p v u h1 h2 h3 => ?_) hx) (fun _ => by rw [hat', hA]; rfl) hK
        cases s <;> simp only at h2 <;> first | (cases h2; done) | skip
        cases h2
        rename_i len
        simp only [Den] at h1
        obtain ⟨_, g1, _, _, A, hA', _⟩ := h1
        refine ⟨rfl, goInt len, ?_, by simp only [Den, goInt]⟩
        rw [hA', show goInt len = goInt (len.toNat : Int) by congr 1; omega]
        simp only [Builtin.len_, Sem.run_bind, Sem.run_pure, Result.andThen, run_underlying (desc_slice hT htt hkind)]
        simp [run_underlying (desc_slice hT htt hkind), Result.andThen]
      · rename_i n e hkind
        cases hc
        have hd : Done P sp spP no sl m w0 W (.lenK n) ((do pure (Next.value (← Builtin.len_ #[t] o.type #[a.eval X])) : Sem Next).run P w) := by
          refine done_of hm hk (fun x p v u h hp => ?_) hx
          simp only [stepF] at h
          cases h
          refine ⟨rfl, goInt n, ?_, by simp [Den, goInt]⟩
          simp [Builtin.len_, run_underlying (desc_array hT htt hkind), Result.andThen]
        exact bi _ (Builtin.len_ #[t] o.type #[a.eval X]) _ hcal hd (fun _ => by rw [hat', hA]; rfl) hK
      · cases hc
    · -- append
      rename_i hcal
      split at hc
      case h_2 => cases hc
      rename_i t u' ax ay hat
      split at hc
      case h_2 => cases hc
      rename_i tt tu htt htu
      split at hc
      case h_2 => cases hc
      rename_i e e' hkind hkind'
      split at hc
      case h_2 => cases hc
      rename_i te hte
      have hat' : c.argTypes = #[t, u'] := by apply Array.ext'; simpa using hat
      obtain ⟨X, Y, hX, hax, hay⟩ : ∃ X Y, c.args.toList = [X, Y] ∧ opd X = some ax ∧ opd Y = some ay := two_ops has
      have hA : c.args.map a.eval = #[a.eval X, a.eval Y] := by apply Array.ext'; simp [hX]
      cases hb : (decide (0 < te.size) && decide (te.size ≤ 1000) && decide (te.bytes ≤ 100) && (simpleK te || te.agg)) with
      | false => simp [hb] at hc
      | true =>
        simp only [hb, cond_true] at hc
        simp only [Bool.and_eq_true, decide_eq_true_eq] at hb
        cases hc
        exact bi _ (Builtin.append_ #[t, u'] o.type #[a.eval X, a.eval Y]) _ hcal (done_app hT hs hm hk htt hkind htu hkind' hte hb.1.1.1 hb.1.2 hax hay hx) (fun _ => by rw [hat', hA]; rfl) hK
    · -- copy
      rename_i hcal
      split at hc
      case h_2 => cases hc
      rename_i t u' ax ay hat
      split at hc
      case h_2 => cases hc
      rename_i tt tu htt htu
      split at hc
      case h_2 => cases hc
      rename_i e e' hkind hkind'
      split at hc
      case h_2 => cases hc
      rename_i te hte
      have hat' : c.argTypes = #[t, u'] := by apply Array.ext'; simpa using hat
      obtain ⟨X, Y, hX, hax, hay⟩ : ∃ X Y, c.args.toList = [X, Y] ∧ opd X = some ax ∧ opd Y = some ay := two_ops has
      have hA : c.args.map a.eval = #[a.eval X, a.eval Y] := by apply Array.ext'; simp [hX]
      cases hb : (te.size == 1) with
      | false => simp [hb] at hc
      | true =>
        simp only [hb, cond_true] at hc
        simp only [beq_iff_eq] at hb
        cases hc
        exact bi _ (Builtin.copy_ #[t, u'] o.type #[a.eval X, a.eval Y]) _ hcal (done_copy (e' := e') (tt' := tu) hT hs hm hk htt hkind hte hb hax hay hx) (fun _ => by rw [hat', hA]; rfl) hK
    · -- clear
      rename_i hcal
      split at hc
      case h_2 => cases hc
      rename_i t ax hat
      split at hc
      case h_2 => cases hc
      rename_i tt htt
      split at hc
      case h_2 => cases hc
      rename_i e hkind
      split at hc
      case h_2 => cases hc
      rename_i te hte
      split at hc
      case h_2 => cases hc
      rename_i z hz
      have hat' : c.argTypes = #[t] := by apply Array.ext'; simpa using hat
      obtain ⟨X, hX⟩ : ∃ X, c.args.toList = [X] ∧ opd X = some ax := by
        cases hl : c.args.toList with
        | nil => rw [hl] at has; simp [opds] at has
        | cons X r =>
          rw [hl] at has
          simp only [opds] at has
          split at has
          · rename_i b bs hb hbs
            cases has
            cases r with
            | nil => exact ⟨X, rfl, hb⟩
            | cons Y r => simp only [opds] at hbs; split at hbs <;> cases hbs
          · cases has
      have hA : c.args.map a.eval = #[a.eval X] := by apply Array.ext'; simp [hX.1]
      cases hc
      exact bi _ (Builtin.clear_ #[t] o.type #[a.eval X]) _ hcal (done_clear hT hs hm hk htt hkind hte hz hX.2 hx) (fun _ => by rw [hat', hA]; rfl) hK
    · -- min
      rename_i hcal
      split at hc
      · rename_i ax ay
        cases hc
        obtain ⟨X, Y, hX, hax, hay⟩ := two_ops has
        have hA : c.args.map a.eval = #[a.eval X, a.eval Y] := by apply Array.ext'; simp [hX]
        refine bi _ (Builtin.min_ c.argTypes o.type #[a.eval X, a.eval Y]) _ hcal (done_two hs hm hk hax hay (fun x => rfl) (fun s s' p v u h1 h2 h3 h4 => ?_) hx) (fun _ => by rw [hA]; rfl) hK
        cases s <;> cases s' <;> simp only at h3 <;> first | (cases h3; done) | skip
        cases h3
        simp only [Den] at h1 h2
        exact ⟨rfl, _, by rw [h1, h2]; exact run_mn _ _ w, by simp only [Den]⟩
      · rename_i ax ay az
        cases hc
        obtain ⟨X, Y, Z, hX, hax, hay, haz⟩ := three_ops has
        have hA : c.args.map a.eval = #[a.eval X, a.eval Y, a.eval Z] := by apply Array.ext'; simp [hX]
        refine bi _ (Builtin.min_ c.argTypes o.type #[a.eval X, a.eval Y, a.eval Z]) _ hcal (done_of hm hk (fun x p v u h hp => ?_) hx) (fun _ => by rw [hA]; rfl) hK
        simp only [stepF] at h
        obtain ⟨v0, p0, hd0, hf0, hp0⟩ := o1_den h hp hax hs
        obtain ⟨v1, p1, hd1, hf1, hp1⟩ := o1_den hf0 hp0 hay hs
        obtain ⟨v2, p2, hd2, hf2, hp2⟩ := o1_den hf1 hp1 haz hs
        cases v0 <;> cases v1 <;> cases v2 <;> simp only at hf2 <;> first | (cases hf2; done) | skip
        cases hf2
        simp only [Den] at hd0 hd1 hd2
        rename_i k0 n0 k1 n1 k2 n2
        refine ⟨rfl, .int k0 (min (min n0 n1) n2), ?_, by simp only [Den]⟩
        rw [hd0, hd1, hd2]
        simp only [Sem.run_bind, run_mn3, Result.andThen, Sem.run_pure]
      · cases hc
    · -- max
      rename_i hcal
      split at hc
      · rename_i ax ay
        cases hc
        obtain ⟨X, Y, hX, hax, hay⟩ := two_ops has
        have hA : c.args.map a.eval = #[a.eval X, a.eval Y] := by apply Array.ext'; simp [hX]
        refine bi _ (Builtin.max_ c.argTypes o.type #[a.eval X, a.eval Y]) _ hcal (done_two hs hm hk hax hay (fun x => rfl) (fun s s' p v u h1 h2 h3 h4 => ?_) hx) (fun _ => by rw [hA]; rfl) hK
        cases s <;> cases s' <;> simp only at h3 <;> first | (cases h3; done) | skip
        cases h3
        simp only [Den] at h1 h2
        exact ⟨rfl, _, by rw [h1, h2]; exact run_mx _ _ w, by simp only [Den]⟩
      · rename_i ax ay az
        cases hc
        obtain ⟨X, Y, Z, hX, hax, hay, haz⟩ := three_ops has
        have hA : c.args.map a.eval = #[a.eval X, a.eval Y, a.eval Z] := by apply Array.ext'; simp [hX]
        refine bi _ (Builtin.max_ c.argTypes o.type #[a.eval X, a.eval Y, a.eval Z]) _ hcal (done_of hm hk (fun x p v u h hp => ?_) hx) (fun _ => by rw [hA]; rfl) hK
        simp only [stepF] at h
        obtain ⟨v0, p0, hd0, hf0, hp0⟩ := o1_den h hp hax hs
        obtain ⟨v1, p1, hd1, hf1, hp1⟩ := o1_den hf0 hp0 hay hs
        obtain ⟨v2, p2, hd2, hf2, hp2⟩ := o1_den hf1 hp1 haz hs
        cases v0 <;> cases v1 <;> cases v2 <;> simp only at hf2 <;> first | (cases hf2; done) | skip
        cases hf2
        simp only [Den] at hd0 hd1 hd2
        rename_i k0 n0 k1 n1 k2 n2
        refine ⟨rfl, .int k0 (max (max n0 n1) n2), ?_, by simp only [Den]⟩
        rw [hd0, hd1, hd2]
        simp only [Sem.run_bind, run_mx3, Result.andThen, Sem.run_pure]
      · cases hc
    · -- a function of the program
      rename_i f hcal
      have ent : FnOk P f → (execOp a.eval o).run P w = .ok (.enter f (c.args.toList.map a.eval).toArray) w := fun hf => by
        have := call_enter (P := P) (a := a) (t := o.type) (cap := []) hcal rfl hf w
        rw [execOp, hop]
        simpa using this
      cases hpf : isP f with
      | true =>
        simp only [hpf, cond_true] at hc
        cases hc
        obtain ⟨p, v, u, h, hp⟩ := hx (fun _ => default)
        have h0 := h
        simp only [stepF] at h
        obtain ⟨vs, p', hds, hf, hp'⟩ := ons_den hs has h hp
        obtain ⟨hr, rfl⟩ := upTo_some hf
        unfold Oper.wp
        rw [ent (hP.fn _ _ _ hr), Oper.upon_enter]
        refine (hP.calls f vs _ p' v w hds hr hp').mono fun e w' hh => ?_
        obtain ⟨rv, rfl, hdv, hb⟩ := hh
        exact hK _ p v [] rv w' h0 hp hdv (hm.below hb) (hk.below' hb)
      | false =>
        simp only [hpf, cond_false] at hc
        cases hc
        have key : ∃ vs c', Dens vs (c.args.toList.map a.eval) ∧ c' ∧ ∀ x, stepF sp spP no x sl (lk m) (.call g.nOf g.kOf f as) = match spN sp no x (lk m) g.nOf g.kOf f vs with | none => none | some (p, v, u) => some (c' ∧ p, v, u) := ons_val hs (F := fun x => stepF sp spP no x sl (lk m) (.call g.nOf g.kOf f as)) (fun vs x => spN sp no x (lk m) g.nOf g.kOf f vs) has (fun x => rfl) (hx (fun _ => default))
        obtain ⟨vs, c', hds, hc', hst⟩ := key
        have hx' : ∀ x, ∃ p v u, spN sp no x (lk m) g.nOf g.kOf f vs = some (p, v, u) ∧ p := fun x => by
          obtain ⟨p, v, u, h, hp⟩ := hx x
          rw [hst x] at h
          split at h
          · cases h
          · rename_i q v' u' hq; cases h; exact ⟨q, _, _, hq, hp.2⟩
        obtain ⟨q, v, u, hq, -⟩ := hx' (fun _ => default)
        unfold Oper.wp
        rw [ent (spN_fn hS hq), Oper.upon_enter]
        refine (spN_calls hS hds hm hk hx').mono fun e w' hh => ?_
        obtain ⟨x, p, v, u, rv, h1, h2, rfl, h3, h4, h5⟩ := hh
        exact hK x (c' ∧ p) v u rv w' (by rw [hst x, h1]) ⟨hc', h2⟩ h3 h4 h5
    · -- a function value
      rename_i y hnf hcal
      split at hc
      case h_2 => cases hc
      rename_i ay hay
      cases hc
      obtain ⟨p, v, u, h, hp⟩ := hx (fun _ => default)
      simp only [stepF] at h
      obtain ⟨c0, s0, p0, e0, f0, rfl⟩ := o1_some h
      have hc0 : c0 = true := hp.1
      subst hc0
      have hd0 := opd_den hay hs e0 rfl
      cases s0
      case fn f cs =>
        simp only [Den] at hd0
        obtain ⟨cap, hcapv, hcaps⟩ := hd0
        have key : ∃ vs c', Dens vs (c.args.toList.map a.eval) ∧ c' ∧ ∀ x, stepF sp spP no x sl (lk m) (.callv g.nOf g.kOf ay as) = match spN sp no x (lk m) g.nOf g.kOf f (vs ++ cs) with | none => none | some (p, v, u) => some (true = true ∧ c' ∧ p, v, u) := by
          obtain ⟨vs, c', h1, h2, h3⟩ := ons_val hs (F := fun x => ons sl as fun vs => spN sp no x (lk m) g.nOf g.kOf f (vs ++ cs)) (fun vs x => spN sp no x (lk m) g.nOf g.kOf f (vs ++ cs)) has (fun x => rfl) ⟨_, _, _, f0, hp.2⟩
          refine ⟨vs, c', h1, h2, fun x => ?_⟩
          simp only [stepF, o1, e0]
          rw [h3 x]
          cases spN sp no x (lk m) g.nOf g.kOf f (vs ++ cs) with
          | none => rfl
          | some r => rfl
        obtain ⟨vs, c', hds, hc', hst⟩ := key
        have hx' : ∀ x, ∃ p v u, spN sp no x (lk m) g.nOf g.kOf f (vs ++ cs) = some (p, v, u) ∧ p := fun x => by
          obtain ⟨p, v, u, h, hp⟩ := hx x
          rw [hst x] at h
          split at h
          · cases h
          · rename_i q v' u' hq; cases h; exact ⟨q, _, _, hq, hp.2.2⟩
        obtain ⟨q, v, u, hq, -⟩ := hx' (fun _ => default)
        have ent := call_enter (P := P) (a := a) (t := o.type) hcal hcapv (spN_fn hS hq) w
        unfold Oper.wp
        rw [execOp, hop]
        simp only
        rw [ent, Oper.upon_enter]
        refine (spN_calls hS (hds.append hcaps) hm hk hx').mono fun e w' hh => ?_
        obtain ⟨x, p, v, u, rv, h1, h2, rfl, h3, h4, h5⟩ := hh
        exact hK x (true = true ∧ c' ∧ p) v u rv w' (by rw [hst x, h1]) ⟨rfl, hc', h2⟩ h3 h4 h5
      all_goals (exfalso; exact ons_none f0)
    · cases hc
  | _ => simp [hop, compO] at hc

end Go.Proofs.Ytnmbimhcfioeiaa.Xf
