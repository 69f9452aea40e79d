import Derived.Test.YtnmbimhcfioeiaaFq
set_option linter.unusedVariables false
set_option linter.unusedSimpArgs false
/-! Xf, part p: regions that draw: whatever order is drawn, it comes to what the order of the text comes to. -/
namespace Go.Proofs.Ytnmbimhcfioeiaa.Xf

/-- What of memory an operation looks at or turns: cells (S), rows (A); whether it makes a chunk; whether it is a call that may do anything. -/
structure Foot where
  rS : Bool
  wS : Bool
  rA : Bool
  wA : Bool
  mks : Bool
  all : Bool

def footOf : IROp → Foot
  | .ld r _ _ nv _ => ⟨!r, false, r, false, !(nv == 0), false⟩
  | .sto r _ _ _ _ => ⟨!r, !r, r, r, false, false⟩
  | .app .. | .brecs .. => ⟨false, false, true, true, true, false⟩
  | .copy .. | .clear .. => ⟨false, false, true, true, false, false⟩
  | .box .. | .alloc .. | .allocI .. | .bslice .. | .mks .. | .mksR .. => ⟨false, false, false, false, true, false⟩
  | .call n _ _ _ | .callv n _ _ _ => match n with | none => ⟨true, true, true, true, true, true⟩ | some _ => ⟨true, false, true, false, true, false⟩
  | _ => ⟨false, false, false, false, false, false⟩

def Foot.pure (f : Foot) : Bool := !(f.rS || f.wS || f.rA || f.wA || f.mks || f.all)
def Foot.looks (f : Foot) : Bool := f.rS || f.wS || f.rA || f.wA

def opdS : Opd → List Nat
  | .t n => [n]
  | .k _ => []
def opdsS : List Opd → List Nat
  | [] => []
  | a :: as => opdS a ++ opdsS as
def opdpsS : List (Nat × Nat × Opd) → List Nat
  | [] => []
  | (_, _, a) :: as => opdS a ++ opdpsS as
def optS : Option Opd → List Nat
  | none => []
  | some a => opdS a

def slotsOf : IROp → List Nat
  | .mov a | .box _ a | .nilc a | .neg _ a | .not a | .cvt _ _ a | .slcA a _ _ | .fld a _ | .fldv a _ _ | .ext a _ | .len a | .clear _ a | .ld _ _ _ _ a => opdS a
  | .pick c a b => opdS c ++ (opdS a ++ opdS b)
  | .alloc _ _ | .allocI _ _ _ | .lenK _ => []
  | .build _ ps => opdpsS ps
  | .bslice _ ps | .brecs _ _ _ ps => opdsS ps
  | .sto _ _ _ a b | .bin _ _ a b | .binB _ a b | .binS _ a b | .binA _ _ a b | .binN _ a b | .copy a b | .mks _ _ _ a b | .mksR _ _ _ a b | .idxS a b _ | .idxP a b _ _ | .idxV a b _ | .app _ _ _ a b | .mn a b | .mx a b => opdS a ++ opdS b
  | .mkf _ cs => opdsS cs
  | .slc a _ lo hi => opdS a ++ (optS lo ++ optS hi)
  | .mn3 a b c | .mx3 a b c => opdS a ++ (opdS b ++ opdS c)
  | .callp _ as | .call _ _ _ as => opdsS as
  | .callv _ _ g as => opdS g ++ opdsS as

def IRO.looks (o : IRO) : List Nat := (match o.guard with | none => [] | some (g, _) => [g]) ++ slotsOf o.op

/-- Are all n labels from k on refused? -/
def idsIn (l : Lim) (k : Nat) : Nat → Bool
  | 0 => true
  | n + 1 => refuses l (k + n) && idsIn l k n

def allRef (l : Lim) : List Nat → Bool
  | [] => true
  | c :: cs => refuses l c && allRef l cs

/-- The one looks at some labels alone that the other refuses. -/
def apartL (x y : Lim) : Bool := (match x.on with | [] => false | c :: cs => allRef y (c :: cs)) || (match y.on with | [] => false | c :: cs => allRef x (c :: cs))

theorem allRef_ok {l : Lim} : ∀ {cs : List Nat}, allRef l cs = true → ∀ c, noHas cs c = true → refuses l c = true
  | [], _, c, h => by simp [noHas] at h
  | d :: cs, h, c, hc => by
    simp only [allRef, Bool.and_eq_true] at h
    simp only [noHas, Bool.or_eq_true, beq_iff_eq] at hc
    rcases hc with rfl | hc
    · exact h.1
    · exact allRef_ok h.2 c hc
theorem apartL_ok {x y : Lim} (h : apartL x y = true) (c : Nat) (hx : refuses x c = false) (hy : refuses y c = false) : False := by
  have on : ∀ {l : Lim} {d : Nat} {ds : List Nat}, l.on = d :: ds → refuses l c = false → noHas (d :: ds) c = true := by
    intro l d ds hl hr
    unfold refuses at hr
    rw [hl] at hr
    simp only [Bool.or_eq_false_iff] at hr
    simpa using hr.2
  unfold apartL at h
  simp only [Bool.or_eq_true] at h
  rcases h with h | h
  · split at h
    · cases h
    · rename_i d ds he
      have := allRef_ok h c (on he hx)
      rw [hy] at this; cases this
  · split at h
    · cases h
    · rename_i d ds he
      have := allRef_ok h c (on he hy)
      rw [hx] at this; cases this
theorem idsIn_ok {l : Lim} {k : Nat} : ∀ {n : Nat}, idsIn l k n = true → ∀ c, k ≤ c → c < k + n → refuses l c = true
  | 0, _, c, h1, h2 => by omega
  | n + 1, h, c, h1, h2 => by
    simp only [idsIn, Bool.and_eq_true] at h
    by_cases e : c = k + n
    · subst e; exact h.1
    · exact idsIn_ok h.2 c h1 (by omega)

/-- May the two stand in either order? -/
def compat (x y : IRO) : Bool :=
  let f := footOf x.op
  let g := footOf y.op
  (match x.dst with | some d => !(noHas y.looks d) && (match y.dst with | some d' => !(d == d') | none => true) | none => true) &&
  (match y.dst with | some d => !(noHas x.looks d) | none => true) &&
  !(f.all && !g.pure) && !(g.all && !f.pure) &&
  (apartL x.no y.no || (!(f.wS && (g.rS || g.wS)) && !(f.wA && (g.rA || g.wA)) && !(g.wS && f.rS) && !(g.wA && f.rA))) &&
  !(f.mks && g.looks && !(idsIn y.no x.op.kOf (x.op.nOf.getD 0))) && !(g.mks && f.looks && !(idsIn x.no y.op.kOf (y.op.nOf.getD 0))) &&
  !(f.mks && g.mks && !(decide (x.op.kOf + x.op.nOf.getD 0 ≤ y.op.kOf) || decide (y.op.kOf + y.op.nOf.getD 0 ≤ x.op.kOf)))

section
variable {sp : Sp} {spP : SpP}

theorem en_congr {sl sl' : List Ent} {a : Opd} (h : ∀ n ∈ opdS a, lk sl n = lk sl' n) : en sl a = en sl' a := by
  cases a with
  | t n => exact h n (by simp [opdS])
  | k v => rfl
theorem o1_congr {sl sl' : List Ent} {a : Opd} {f g : SV → R} (h : ∀ n ∈ opdS a, lk sl n = lk sl' n) (hf : ∀ v, f v = g v) : o1 sl a f = o1 sl' a g := by
  unfold o1
  rw [en_congr h]
  have : f = g := funext hf
  rw [this]
theorem ons_congr {sl sl' : List Ent} : ∀ {as : List Opd} {f g : List SV → R}, (∀ n ∈ opdsS as, lk sl n = lk sl' n) → (∀ v, f v = g v) → ons sl as f = ons sl' as g
  | [], f, g, _, hf => hf []
  | a :: as, f, g, h, hf => o1_congr (fun n hn => h n (by simp [opdsS, hn])) fun v => ons_congr (fun n hn => h n (by simp [opdsS, hn])) fun vs => hf _
theorem onps_congr {sl sl' : List Ent} : ∀ {as : List (Nat × Nat × Opd)} {f g : List (Nat × Nat × SV) → R}, (∀ n ∈ opdpsS as, lk sl n = lk sl' n) → (∀ v, f v = g v) → onps sl as f = onps sl' as g
  | [], f, g, _, hf => hf []
  | (o, s, a) :: as, f, g, h, hf => o1_congr (fun n hn => h n (by simp [opdpsS, hn])) fun v => onps_congr (fun n hn => h n (by simp [opdpsS, hn])) fun vs => hf _
theorem o0_congr {sl sl' : List Ent} {a : Option Opd} {f g : Option SV → R} (h : ∀ n ∈ optS a, lk sl n = lk sl' n) (hf : ∀ v, f v = g v) : o0 sl a f = o0 sl' a g := by
  cases a with
  | none => exact hf none
  | some a => exact o1_congr h fun v => hf _

/-- An operation does not see slots that it does not name. -/
theorem stepF_slots {no : Lim} {x : Nat → Loc} {sl sl' : List Ent} {look : Look} {o : IROp} (h : ∀ n ∈ slotsOf o, lk sl n = lk sl' n) : stepF sp spP no x sl look o = stepF sp spP no x sl' look o := by
  cases o <;> simp only [slotsOf] at h <;> simp only [stepF]
  all_goals first
    | exact o1_congr h fun _ => rfl
    | exact o1_congr (fun n hn => h n (by simp [hn])) fun _ => o1_congr (fun n hn => h n (by simp [hn])) fun _ => rfl
    | exact o1_congr (fun n hn => h n (by simp [hn])) fun _ => o1_congr (fun n hn => h n (by simp [hn])) fun _ => o1_congr (fun n hn => h n (by simp [hn])) fun _ => rfl
    | exact ons_congr h fun _ => rfl
    | exact onps_congr h fun _ => rfl
    | exact o1_congr (fun n hn => h n (by simp [hn])) fun _ => ons_congr (fun n hn => h n (by simp [hn])) fun _ => rfl
    | exact o1_congr (fun n hn => h n (by simp [hn])) fun _ => o0_congr (fun n hn => h n (by simp [hn])) fun _ => o0_congr (fun n hn => h n (by simp [hn])) fun _ => rfl
    | skip
  rename_i c a b
  rw [en_congr (a := c) fun n hn => h n (by simp [hn]), en_congr (a := a) fun n hn => h n (by simp [hn]), en_congr (a := b) fun n hn => h n (by simp [hn])]

/-- The kind of chunk that an operation may look at. -/
def Foot.sees (f : Foot) (e : ME) : Bool := bif e.2.2.row then f.rA else f.rS

theorem o1_mono {sl : List Ent} {a : Opd} {f g : SV → R} {r : Prop × SV × Upd} (h : o1 sl a f = some r) (hf : ∀ v r, f v = some r → g v = some r) : o1 sl a g = some r := by
  obtain ⟨p, v, u⟩ := r
  obtain ⟨c, s, p', h1, h2, rfl⟩ := o1_some h
  unfold o1
  rw [h1]
  simp only
  rw [hf _ _ h2]

theorem lkK_mono {r : Bool} {no : Lim} {look look' : Look} {c : Nat} {e : ME} (h : lkK r no look c = some e) (hl : ∀ c e, refuses no c = false → e.2.2.row = r → look c = some e → look' c = some e) : lkK r no look' c = some e := by
  unfold lkK lkN at *
  cases hn : refuses no c with
  | true => rw [hn] at h; simp at h
  | false =>
    rw [hn] at h
    simp only [cond_false] at h ⊢
    split at h
    case h_2 => cases h
    rename_i own L ch hc
    cases hr : (ch.row == r) with
    | false => simp [hr] at h
    | true =>
      simp only [hr, cond_true] at h
      cases h
      rw [hl c _ hn (by simpa using hr) hc]
      simp [hr]

theorem chLen_row {ch : Chunk} {n : Int} (h : chLen ch = some n) : ch.row = true := by cases ch <;> simp [chLen] at h <;> rfl

/-- What is seen of rows of numbers, and of records. -/
def SeesRows (no : Lim) (look look' : Look) : Prop := ∀ c e, refuses no c = false → e.2.2.row = true → look c = some e → look' c = some e

theorem SeesRows.lkN {no : Lim} {look look' : Look} (hl : SeesRows no look look') {c : Nat} {e : ME} (hc : lkN no look c = some e) (hr : e.2.2.row = true) : lkN no look' c = some e := by
  unfold Xf.lkN at *
  cases hn : refuses no c with
  | true => rw [hn] at hc; simp at hc
  | false => rw [hn] at hc; simp only [cond_false] at hc ⊢; exact hl c e hn hr hc

theorem appF_mono {es : Nat} {no : Lim} {look look' : Look} {u v : SV} {r : Prop × Int × Option (Nat × Own) × Chunk} (h : appF es no look u v = some r) (hl : SeesRows no look look') : appF es no look' u v = some r := by
  unfold appF at h ⊢
  split at h
  case h_2 => cases h
  rename_i _ c L s lo n
  split at h
  case h_2 => cases h
  rename_i _ d M s' lo' m
  split at h
  case h_2 => cases h
  rename_i own' M' ch' hl2
  split at h
  case h_2 => cases h
  rename_i m' hm'
  rw [hl.lkN hl2 (chLen_row hm')]
  simp only [hm']
  cases hes : decide (chS ch' = es) with
  | false => rw [hes] at h; cases h
  | true =>
    rw [hes] at h
    simp only [cond_true] at h ⊢
    cases hc : (c == 4096) with
    | true => rw [hc] at h; simp only [cond_true] at h ⊢; exact h
    | false =>
      rw [hc] at h
      simp only [cond_false] at h ⊢
      split at h
      case h_2 => cases h
      rename_i own L' ch hl1
      have hrow : ch.row = true := by
        cases hcl : chLen ch with
        | none => rw [hcl] at h; cases h
        | some q => exact chLen_row hcl
      rw [hl.lkN hl1 hrow]
      exact h

theorem rcOf_mono {no : Lim} {look look' : Look} {nk : IntKind} {v : SV} {r : Prop × RC × Upd × Bool} (h : rcOf (lkN no look) nk v = some r) (hl : SeesRows no look look') : rcOf (lkN no look') nk v = some r := by
  unfold rcOf at h ⊢
  split at h
  · exact h
  · exact h
  · rename_i c L s lo n
    cases hc : (c == 4096) with
    | true => rw [hc] at h; exact h
    | false =>
      rw [hc] at h
      simp only [cond_false, hc] at h ⊢
      split at h
      case h_2 => cases h
      rename_i own L' k xs hl1
      rw [hl.lkN hl1 rfl]
      exact h
  · cases h
theorem rcsOf_mono {no : Lim} {look look' : Look} {nk : IntKind} (hl : SeesRows no look look') : ∀ {vs : List SV} {r : Prop × List RC × Upd × Bool}, rcsOf (lkN no look) nk vs = some r → rcsOf (lkN no look') nk vs = some r
  | [], r, h => h
  | v :: vs, r, h => by
    simp only [rcsOf] at h ⊢
    split at h
    case h_2 => cases h
    rename_i h1 h2
    rw [rcOf_mono h1 hl, rcsOf_mono hl h2]
    exact h
theorem recOf_mono {no : Lim} {look look' : Look} {nk : IntKind} {s : Nat} {v : SV} {r : Prop × List RC × Upd × Bool} (h : recOf (lkN no look) nk s v = some r) (hl : SeesRows no look look') : recOf (lkN no look') nk s v = some r := by
  unfold recOf at h ⊢
  split at h
  · rename_i cs
    cases hc : decide (cs.length = s) with
    | false => rw [hc] at h; cases h
    | true => rw [hc] at h; exact rcsOf_mono hl h
  · cases hc : decide (s = 1) with
    | false => rw [hc] at h; cases h
    | true => rw [hc] at h; simp only [cond_true] at h ⊢; exact rcsOf_mono hl h
theorem recsOf_mono {no : Lim} {look look' : Look} {nk : IntKind} {s : Nat} (hl : SeesRows no look look') : ∀ {vs : List SV} {r : Prop × List (List RC) × Upd × Bool}, recsOf (lkN no look) nk s vs = some r → recsOf (lkN no look') nk s vs = some r
  | [], r, h => h
  | v :: vs, r, h => by
    simp only [recsOf] at h ⊢
    split at h
    case h_2 => cases h
    rename_i h1 h2
    rw [recOf_mono h1 hl, recsOf_mono hl h2]
    exact h
theorem stR_mono {no : Lim} {look look' : Look} {nk : IntKind} {n s f s' : Nat} {i : Int} {z : List RC} {l : List (List RC)} {v : SV} {r : Prop × List (List RC) × Upd × Bool} (h : stR (lkN no look) nk n i s f s' z l v = some r) (hl : SeesRows no look look') : stR (lkN no look') nk n i s f s' z l v = some r := by
  unfold stR at h ⊢
  cases hc : (decide (s = s') && decide (f + n ≤ s)) with
  | false => rw [hc] at h; cases h
  | true =>
    rw [hc] at h
    simp only [cond_true] at h ⊢
    split at h
    · cases h
    · rename_i h1
      rw [recOf_mono h1 hl]
      exact h

theorem ons_mono {sl : List Ent} : ∀ {as : List Opd} {f g : List SV → R} {r : Prop × SV × Upd}, ons sl as f = some r → (∀ vs r, f vs = some r → g vs = some r) → ons sl as g = some r
  | [], f, g, r, h, hf => hf _ _ h
  | a :: as, f, g, r, h, hf => o1_mono h fun v r hv => ons_mono hv fun vs r h => hf _ _ h

theorem spN_look {no : Lim} {x : Nat → Loc} {look look' : Look} {n k : Nat} {f : FuncId} {vs : List SV} {r : Prop × SV × Upd} (h : spN sp no x look (some n) k f vs = some r) (he : lkN no look = lkN no look') : spN sp no x look' (some n) k f vs = some r := by
  simp only [spN] at h ⊢
  rw [← he]
  exact h

theorem lkK_row {r : Bool} {no : Lim} {look : Look} {c : Nat} {e : ME} (h : lkK r no look c = some e) : refuses no c = false ∧ e.2.2.row = r := by
  unfold lkK lkN at h
  cases hn : refuses no c with
  | true => rw [hn] at h; simp at h
  | false =>
    rw [hn] at h
    simp only [cond_false] at h
    split at h
    case h_2 => cases h
    rename_i own L ch hc
    cases hr : (ch.row == r) with
    | false => simp [hr] at h
    | true => simp only [hr, cond_true] at h; cases h; exact ⟨rfl, by simpa using hr⟩

/-- An operation sees of memory only chunks of its kinds, and none that it must not look at. -/
theorem stepF_look {no : Lim} {x : Nat → Loc} {sl : List Ent} {look look' : Look} {o : IROp} {r : Prop × SV × Upd} (hall : (footOf o).all = false) (h : stepF sp spP no x sl look o = some r)
    (hl : ∀ c e, refuses no c = false → (footOf o).sees e = true → look c = some e → look' c = some e)
    (hr : ∀ c e, refuses no c = false → (footOf o).sees e = true → look' c = some e → look c = some e) : stepF sp spP no x sl look' o = some r := by
  have hmask : (∀ e, (footOf o).sees e = true) → lkN no look = lkN no look' := by
    intro hs
    funext c
    unfold lkN
    cases hn : refuses no c with
    | true => rfl
    | false =>
      simp only [cond_false]
      cases h1 : look c with
      | none =>
        cases h2 : look' c with
        | none => rfl
        | some e => rw [hr c e hn (hs e) h2] at h1; cases h1
      | some e => rw [hl c e hn (hs e) h1]
  cases o
  case call n k f as =>
    cases n with
    | none => simp [footOf] at hall
    | some n =>
      simp only [stepF] at h ⊢
      exact ons_mono h fun vs r hv => spN_look hv (hmask fun e => by simp only [Foot.sees, footOf]; cases e.2.2.row <;> rfl)
  case callv n k g as =>
    cases n with
    | none => simp [footOf] at hall
    | some n =>
      simp only [stepF] at h ⊢
      refine o1_mono h fun v r hv => ons_mono hv fun vs r hv => ?_
      cases v <;> simp only at hv ⊢ <;> first | (cases hv; done) | skip
      exact spN_look hv (hmask fun e => by simp only [Foot.sees, footOf]; cases e.2.2.row <;> rfl)
  all_goals first | exact h | skip
  · -- brecs
    rename_i k s nk ps
    simp only [stepF] at h ⊢
    refine ons_mono h fun vs r hv => ?_
    split at hv
    · cases hv
    · rename_i h1
      rw [recsOf_mono (fun c e h1 h2 h3 => hl c e h1 (by simp only [Foot.sees, footOf]; rw [h2]; rfl) h3) h1]
      exact hv
  · -- ld
    rename_i rr n k nv a
    simp only [stepF] at h ⊢
    refine o1_mono h fun v r hv => ?_
    cases v <;> simp only at hv ⊢ <;> first | (cases hv; done) | skip
    rename_i c L i s f
    cases hc : lkK rr no look c with
    | none => rw [hc] at hv; cases hv
    | some e =>
      rw [lkK_mono hc fun c e h1 h2 h3 => hl c e h1 (by simp only [Foot.sees, footOf]; rw [h2]; cases rr <;> rfl) h3]
      rw [hc] at hv
      exact hv
  · -- sto
    rename_i rr n nk a b
    simp only [stepF] at h ⊢
    refine o1_mono h fun v r0 hv0 => o1_mono hv0 fun u r hv => ?_
    cases v <;> simp only at hv ⊢ <;> first | (cases hv; done) | skip
    rename_i c L i s f
    cases hc : lkK rr no look c with
    | none => rw [hc] at hv; cases hv
    | some e =>
      have hrow := (lkK_row hc).2
      rw [lkK_mono hc fun c e h1 h2 h3 => hl c e h1 (by simp only [Foot.sees, footOf]; rw [h2]; cases rr <;> rfl) h3]
      rw [hc] at hv
      obtain ⟨own, L', ch⟩ := e
      simp only at hv ⊢ hrow
      cases hw : own.wr <;> rw [hw] at hv <;> simp only at hv ⊢
      · cases hv
      all_goals
        cases ch <;> simp only at hv ⊢ <;> first | exact hv | skip
        rename_i s' fr z l
        have hrr : rr = true := by rw [← hrow]; rfl
        split at hv
        · cases hv
        · rename_i h1
          rw [stR_mono h1 (fun c e h1 h2 h3 => hl c e h1 (by simp only [Foot.sees, footOf]; rw [h2, hrr]; rfl) h3)]
          exact hv
  · -- app
    rename_i k es by' a b
    simp only [stepF] at h ⊢
    refine o1_mono h fun v r hv => o1_mono hv fun u r hv => ?_
    have key : ∀ q, appF es no look v u = some q → appF es no look' v u = some q := fun q hq => appF_mono hq fun c e h1 h2 h3 => hl c e h1 (by simp only [Foot.sees, footOf]; rw [h2]; rfl) h3
    split at hv
    · cases hv
    · rename_i h1; rw [key _ h1]; exact hv
    · rename_i h1; rw [key _ h1]; exact hv
  · -- copy
    rename_i a b
    have hsr : SeesRows no look look' := fun c e h1 h2 h3 => hl c e h1 (by simp only [Foot.sees, footOf]; rw [h2]; rfl) h3
    simp only [stepF] at h ⊢
    refine o1_mono h fun v r hv => o1_mono hv fun u r hv => ?_
    split at hv
    case h_2 => cases hv
    rename_i c L s lo n d M s' lo' mm _
    cases hss : (decide (s = 1) && decide (s' = 1)) with
    | false => rw [hss] at hv; cases hv
    | true =>
      rw [hss] at hv
      simp only [cond_true] at hv ⊢
      have hv0 := hv
      unfold copyF at hv
      split at hv
      case h_2 => cases hv
      rename_i h1 h2
      rw [h1, h2] at hv0
      rw [hsr.lkN h1 rfl, hsr.lkN h2 rfl]
      exact hv0
  · -- clear
    rename_i z a
    have hsr : SeesRows no look look' := fun c e h1 h2 h3 => hl c e h1 (by simp only [Foot.sees, footOf]; rw [h2]; rfl) h3
    simp only [stepF] at h ⊢
    refine o1_mono h fun v r hv => ?_
    split at hv
    case h_2 => cases hv
    split at hv
    case h_2 => cases hv
    rename_i h1
    rw [hsr.lkN h1 rfl]
    exact hv


def Foot.writes (f : Foot) (e : ME) : Bool := bif e.2.2.row then f.wA else f.wS

/-- What an operation turns. -/
def UpdOk (o : IROp) (no : Lim) (look : Look) (u : Upd) : Prop := ∀ c e, (c, e) ∈ u →
  (o.kOf ≤ c ∧ c < o.kOf + o.nOf.getD 0 ∧ (footOf o).mks = true) ∨ (refuses no c = false ∧ ∃ e0, look c = some e0 ∧ (footOf o).writes e0 = true ∧ (footOf o).looks = true ∧ ∀ e1, e = some e1 → e1.2.2.row = e0.2.2.row)

theorem wrc_row {i : Int} {s f : Nat} {v : SV} {ch ch' : Chunk} {p : Prop} (h : wrc i s f v ch = some (p, ch')) : ch'.row = ch.row := by
  cases ch with
  | ints k xs =>
    simp only [wrc] at h
    split at h
    · rename_i k' n
      by_cases e : k = k'
      · simp [e] at h; rw [← h.2]; rfl
      · simp [e] at h
    · cases h
  | bools xs =>
    simp only [wrc] at h
    split at h <;> cases h; rfl
  | cells cs =>
    simp only [wrc] at h
    split at h
    · cases h
    · cases hs : size1 v <;> simp [hs] at h
      rw [← h.2]; rfl
  | recs _ _ _ => simp [wrc] at h
theorem wrn_row {i : Int} {s f : Nat} {v : List SV} {ch ch' : Chunk} {p : Prop} (h : wrn i s f v ch = some (p, ch')) : ch'.row = ch.row := by
  cases ch <;> simp only [wrn] at h
  · split at h
    case h_2 => cases h
    split at h
    · cases h
    · cases h; rfl
  · cases h
  · split at h
    · cases h
    · cases hs : v.all size1 <;> simp [hs] at h
      rw [← h.2]; rfl
  · cases h

theorem lkN_no {no : Lim} {look : Look} {c : Nat} {e : ME} (h : lkN no look c = some e) : refuses no c = false := by
  unfold lkN at h
  cases hn : refuses no c with
  | true => rw [hn] at h; simp at h
  | false => rfl

theorem appF_upd {es : Nat} {no : Lim} {look : Look} {u v : SV} {p : Prop} {n : Int} {c : Nat} {own : Own} {r : Chunk} (h : appF es no look u v = some (p, n, some (c, own), r)) : refuses no c = false ∧ ∃ e0, look c = some e0 ∧ e0.2.2.row = true := by
  unfold appF at h
  split at h
  case h_2 => cases h
  rename_i _ c0 L s0 lo n0
  split at h
  case h_2 => cases h
  split at h
  case h_2 => cases h
  split at h
  case h_2 => cases h
  rename_i ch' _ _ m' _
  cases hes : decide (chS ch' = es) with
  | false => rw [hes] at h; cases h
  | true =>
    rw [hes] at h
    simp only [cond_true] at h
    cases hc : (c0 == 4096) with
    | true => rw [hc] at h; simp only [cond_true] at h; cases h
    | false =>
      rw [hc] at h
      simp only [cond_false] at h
      split at h
      case h_2 => cases h
      rename_i own L' ch hl1
      cases hcl : chLen ch with
      | none => rw [hcl] at h; cases h
      | some q =>
        cases hr : appCh ch ch' with
        | none => rw [hcl, hr] at h; cases h
        | some r' =>
          rw [hcl, hr] at h
          have hcc : c0 = c := by
            split at h
            · rename_i h1 h2 h3
              generalize (c0 == _ || !decide (chS ch = es)) = b at h
              cases b <;> simp at h
              exact h.2.2.1.1
            · cases h
          subst hcc
          exact ⟨lkN_no hl1, _, lkN_some hl1, chLen_row hcl⟩

/-- What making records of values turns. -/
def DemOk (no : Lim) (look : Look) (u : Upd) : Prop := ∀ c e, (c, e) ∈ u → refuses no c = false ∧ ∃ e0, look c = some e0 ∧ e0.2.2.row = true ∧ ∀ e1, e = some e1 → e1.2.2.row = true
theorem DemOk.append {no : Lim} {look : Look} {u v : Upd} (h : DemOk no look u) (k : DemOk no look v) : DemOk no look (u ++ v) := fun c e hm => by
  rcases List.mem_append.1 hm with hm | hm
  · exact h c e hm
  · exact k c e hm
theorem rcOf_upd {no : Lim} {look : Look} {nk : IntKind} {v : SV} {p : Prop} {r : RC} {u : Upd} {f : Bool} (h : rcOf (lkN no look) nk v = some (p, r, u, f)) : DemOk no look u := by
  unfold rcOf at h
  split at h
  · cases h; exact fun c e hm => by cases hm
  · cases h; exact fun c e hm => by cases hm
  · rename_i c L s lo n
    cases hc : (c == 4096) with
    | true => rw [hc] at h; simp only [cond_true] at h; cases h; exact fun c e hm => by cases hm
    | false =>
      rw [hc] at h
      simp only [cond_false] at h
      split at h
      case h_2 => cases h
      rename_i own L' k xs hl1
      split at h
      case h_2 => cases h
      cases hs : decide (s = 1) with
      | false => rw [hs] at h; cases h
      | true =>
        rw [hs] at h
        cases h
        intro c' e hm
        have : (c', e) = (c, some (.rof, L', .ints k xs)) := by cases own <;> simp [demote] at hm <;> simp [hm]
        cases this
        exact ⟨lkN_no hl1, _, lkN_some hl1, rfl, fun e1 he => by cases he; rfl⟩
  · cases h
theorem rcsOf_upd {no : Lim} {look : Look} {nk : IntKind} : ∀ {vs : List SV} {p : Prop} {r : List RC} {u : Upd} {f : Bool}, rcsOf (lkN no look) nk vs = some (p, r, u, f) → DemOk no look u
  | [], p, r, u, f, h => by simp only [rcsOf] at h; cases h; exact fun c e hm => by cases hm
  | v :: vs, p, r, u, f, h => by
    simp only [rcsOf] at h
    split at h
    case h_2 => cases h
    rename_i h1 h2
    cases h
    exact (rcOf_upd h1).append (rcsOf_upd h2)
theorem recOf_upd {no : Lim} {look : Look} {nk : IntKind} {s : Nat} {v : SV} {p : Prop} {r : List RC} {u : Upd} {f : Bool} (h : recOf (lkN no look) nk s v = some (p, r, u, f)) : DemOk no look u := by
  unfold recOf at h
  split at h
  · rename_i cs
    cases hc : decide (cs.length = s) with
    | false => rw [hc] at h; cases h
    | true => rw [hc] at h; exact rcsOf_upd h
  · cases hc : decide (s = 1) with
    | false => rw [hc] at h; cases h
    | true => rw [hc] at h; exact rcsOf_upd h
theorem recsOf_upd {no : Lim} {look : Look} {nk : IntKind} {s : Nat} : ∀ {vs : List SV} {p : Prop} {r : List (List RC)} {u : Upd} {f : Bool}, recsOf (lkN no look) nk s vs = some (p, r, u, f) → DemOk no look u
  | [], p, r, u, f, h => by simp only [recsOf] at h; cases h; exact fun c e hm => by cases hm
  | v :: vs, p, r, u, f, h => by
    simp only [recsOf] at h
    split at h
    case h_2 => cases h
    rename_i h1 h2
    cases h
    exact (recOf_upd h1).append (recsOf_upd h2)
theorem stR_upd {no : Lim} {look : Look} {nk : IntKind} {n s f s' : Nat} {i : Int} {z : List RC} {l : List (List RC)} {v : SV} {p : Prop} {r : List (List RC)} {u : Upd} {fr : Bool} (h : stR (lkN no look) nk n i s f s' z l v = some (p, r, u, fr)) : DemOk no look u := by
  unfold stR at h
  cases hc : (decide (s = s') && decide (f + n ≤ s)) with
  | false => rw [hc] at h; cases h
  | true =>
    rw [hc] at h
    simp only [cond_true] at h
    split at h
    · cases h
    · rename_i p1 r1 u1 f1 h1
      cases hn : decide (n = s) with
      | true => rw [hn] at h; cases h; exact recOf_upd h1
      | false =>
        rw [hn] at h
        simp only [cond_false] at h
        split at h
        · cases h; exact recOf_upd h1
        · cases h
theorem viewsU_in {fr : Bool} : ∀ {rs : List RC} {k : Nat} {c : Nat} {e : Option ME}, (c, e) ∈ viewsU fr k rs → k ≤ c ∧ c < k + viewsN rs
  | [], k, c, e, h => by cases h
  | .int _ _ :: rs, k, c, e, h => viewsU_in (rs := rs) h
  | .bool _ :: rs, k, c, e, h => viewsU_in (rs := rs) h
  | .row _ _ _ :: rs, k, c, e, h => by
    simp only [viewsU, List.mem_cons] at h
    rcases h with h | h
    · cases h; simp only [viewsN]; omega
    · have := viewsU_in h; simp only [viewsN]; omega

theorem ons_some {sl : List Ent} : ∀ {as : List Opd} {f : List SV → R} {p : Prop} {r : SV} {u : Upd}, ons sl as f = some (p, r, u) → ∃ vs p', f vs = some (p', r, u)
  | [], f, p, r, u, h => ⟨[], p, h⟩
  | a :: as, f, p, r, u, h => by
    obtain ⟨_, v, p', _, h, _⟩ := o1_some h
    obtain ⟨vs, p'', h⟩ := ons_some h
    exact ⟨_, _, h⟩
theorem onps_some {sl : List Ent} : ∀ {as : List (Nat × Nat × Opd)} {f : List (Nat × Nat × SV) → R} {p : Prop} {r : SV} {u : Upd}, onps sl as f = some (p, r, u) → ∃ vs p', f vs = some (p', r, u)
  | [], f, p, r, u, h => ⟨[], p, h⟩
  | (o, s, a) :: as, f, p, r, u, h => by
    obtain ⟨_, v, p', _, h, _⟩ := o1_some h
    obtain ⟨vs, p'', h⟩ := onps_some h
    exact ⟨_, _, h⟩
theorem o0_some {sl : List Ent} {a : Option Opd} {f : Option SV → R} {p : Prop} {r : SV} {u : Upd} (h : o0 sl a f = some (p, r, u)) : ∃ v p', f v = some (p', r, u) := by
  cases a with
  | none => exact ⟨_, _, h⟩
  | some a => obtain ⟨_, v, p', _, h, _⟩ := o1_some h; exact ⟨_, _, h⟩

theorem updNil {o : IROp} {no : Lim} {look : Look} : UpdOk o no look [] := fun c e h => by cases h
theorem updNew {o : IROp} {no : Lim} {look : Look} {k : Nat} {e : Option ME} (h : k = o.kOf ∧ o.nOf = some 1 ∧ (footOf o).mks = true) : UpdOk o no look [(k, e)] := fun c e hm => by
  simp at hm
  rw [hm.1]
  exact .inl ⟨by omega, by rw [h.2.1]; simp; omega, h.2.2⟩

theorem updIn_ok {k n : Nat} : ∀ {u : Upd}, updIn k n u = true → ∀ c e, (c, e) ∈ u → k ≤ c ∧ c < k + n
  | [], _, c, e, h => by simp at h
  | (d, x) :: u, h, c, e, hm => by
    simp only [updIn, Bool.and_eq_true, decide_eq_true_eq] at h
    simp only [List.mem_cons] at hm
    rcases hm with hm | hm
    · cases hm; exact h.1
    · exact updIn_ok h.2 c e hm

theorem spN_upd {no : Lim} {x : Nat → Loc} {look : Look} {n k : Nat} {f : FuncId} {vs : List SV} {p : Prop} {v : SV} {u : Upd} (h : spN sp no x look (some n) k f vs = some (p, v, u)) : updIn k n u = true := by
  simp only [spN] at h
  split at h
  · rename_i p' v' u' _
    cases hu : updIn k n u' with
    | false => simp [hu] at h
    | true => simp only [hu, cond_true] at h; cases h; exact hu
  · cases h

theorem bif_some {α : Type _} {b : Bool} {x y : α} (h : (bif b then some x else none) = some y) : x = y := by
  cases b with
  | true => simpa using h
  | false => simp at h
theorem bif_some2 {α : Type _} {b : Bool} {x : Option α} {y : α} (h : (bif b then x else none) = some y) : x = some y := by
  cases b with
  | true => simpa using h
  | false => simp at h

theorem bif_some3 {α : Type _} {b : Bool} {x : Option α} {y : α} (h : (bif b then x else none) = some y) : b = true ∧ x = some y := by
  cases b with
  | true => exact ⟨rfl, by simpa using h⟩
  | false => simp at h

theorem sto_row {i : Int} {s f n : Nat} {ch : Chunk} {v1 : SV} {q : Prop} {ch' : Chunk} (hh : (match (generalizing := false) v1 with
            | .agg us => bif decide (us.length = n) then wrn i s f us ch else none
            | u => bif decide (n = 1) then wrc i s f u ch else none) = some (q, ch')) : ch'.row = ch.row := by
  split at hh
  · exact wrn_row (bif_some2 hh)
  · exact wrc_row (bif_some2 hh)

theorem stepF_upd {no : Lim} {x : Nat → Loc} {sl : List Ent} {look : Look} {o : IROp} {p : Prop} {v : SV} {u : Upd} (hall : (footOf o).all = false) (h : stepF sp spP no x sl look o = some (p, v, u)) : UpdOk o no look u := by
  cases o
  case call n k f as =>
    cases n with
    | none => simp [footOf] at hall
    | some n =>
      simp only [stepF] at h
      obtain ⟨_, _, h⟩ := ons_some h
      intro c e hm
      have := updIn_ok (spN_upd h) c e hm
      exact .inl ⟨this.1, by simpa [IROp.kOf, IROp.nOf] using this.2, rfl⟩
  case callv n k g as =>
    cases n with
    | none => simp [footOf] at hall
    | some n =>
      simp only [stepF] at h
      obtain ⟨_, v0, _, -, h, -⟩ := o1_some h
      obtain ⟨_, _, h⟩ := ons_some h
      cases v0 <;> simp only at h <;> first | (cases h; done) | skip
      intro c e hm
      have := updIn_ok (spN_upd h) c e hm
      exact .inl ⟨this.1, by simpa [IROp.kOf, IROp.nOf] using this.2, rfl⟩
  case sto rr n nk a b =>
    simp only [stepF] at h
    obtain ⟨_, v0, _, -, h, -⟩ := o1_some h
    obtain ⟨_, v1, _, -, h, -⟩ := o1_some h
    cases v0 <;> simp only at h <;> first | (cases h; done) | skip
    rename_i c L i s f _
    split at h
    case h_2 => cases h
    rename_i own L' ch hl
    have hg := lkK_row hl
    have hl' := lkK_some hl
    have key := @sto_row i s f n ch v1
    have fin : ∀ (own : Own) (ch' : Chunk), ch'.row = ch.row → UpdOk (.sto rr n nk a b) no look [(c, some (own, L', ch'))] := by
      intro own' ch' hr c' e hm
      simp at hm
      obtain ⟨rfl, rfl⟩ := hm
      refine .inr ⟨hg.1, _, hl', ?_, ?_, fun e1 he => by cases he; exact hr⟩
      · have : ch.row = rr := hg.2
        simp only [Foot.writes, footOf, this]
        cases rr <;> rfl
      · simp only [Foot.looks, footOf]
        cases rr <;> rfl
    split at h
    · cases h
    · split at h
      · rename_i s' fr z l
        have hrr : rr = true := by rw [← hg.2]; rfl
        split at h
        · cases h
        · rename_i hst
          cases h
          have hd := stR_upd hst
          intro c' e hm
          rcases List.mem_append.1 hm with hm | hm
          · obtain ⟨g1, e0, g2, g3, g4⟩ := hd c' e hm
            refine .inr ⟨g1, e0, g2, ?_, ?_, fun e1 he => by rw [g3]; exact g4 e1 he⟩
            · simp only [Foot.writes, footOf, g3, hrr]; rfl
            · simp only [Foot.looks, footOf, hrr]; rfl
          · exact fin _ (.recs _ _ _ _) (by rfl) c' e hm
      · split at h
        · cases h
        · rename_i hh
          cases h
          exact fin _ _ (key hh)
  case app k es by' a b =>
    simp only [stepF] at h
    obtain ⟨_, v0, _, -, h, -⟩ := o1_some h
    obtain ⟨_, v1, _, -, h, -⟩ := o1_some h
    split at h
    · cases h
    · cases h; exact updNew ⟨rfl, rfl, rfl⟩
    · rename_i hF
      cases h
      obtain ⟨g1, e0, g2, g3⟩ := appF_upd hF
      intro c' e hm
      simp at hm
      rcases hm with ⟨rfl, rfl⟩ | ⟨rfl, rfl⟩
      · exact .inr ⟨g1, e0, g2, by simp only [Foot.writes, footOf, g3]; rfl, rfl, fun e1 he => by cases he⟩
      · exact .inl ⟨Nat.le_refl _, by simp [IROp.nOf, IROp.kOf], rfl⟩
  case brecs k s nk ps =>
    simp only [stepF] at h
    obtain ⟨_, _, h⟩ := ons_some h
    split at h
    · cases h
    · rename_i hr
      cases h
      have hd := recsOf_upd hr
      intro c' e hm
      rcases List.mem_append.1 hm with hm | hm
      · obtain ⟨g1, e0, g2, g3, g4⟩ := hd c' e hm
        exact .inr ⟨g1, e0, g2, by simp only [Foot.writes, footOf, g3]; rfl, rfl, fun e1 he => by rw [g3]; exact g4 e1 he⟩
      · simp at hm
        rw [hm.1]
        exact .inl ⟨Nat.le_refl _, by simp [IROp.nOf, IROp.kOf], rfl⟩
  case copy a b =>
    simp only [stepF] at h
    obtain ⟨_, v0, _, -, h, -⟩ := o1_some h
    obtain ⟨_, v1, _, -, h, -⟩ := o1_some h
    split at h
    case h_2 => cases h
    have h := bif_some2 h
    unfold copyF at h
    split at h
    case h_2 => cases h
    rename_i own L' k xs _ M' k' ys h1 h2
    cases bif_some h
    intro c' e hm
    simp at hm
    obtain ⟨rfl, rfl⟩ := hm
    exact .inr ⟨lkN_no h1, _, lkN_some h1, rfl, rfl, fun e1 he => by cases he; rfl⟩
  case clear z a =>
    simp only [stepF] at h
    obtain ⟨_, v0, _, -, h, -⟩ := o1_some h
    split at h
    case h_2 => cases h
    split at h
    case h_2 => cases h
    rename_i own L' s' fr z' l h1
    split at h
    · cases h
    · cases bif_some h
      intro c' e hm
      simp at hm
      obtain ⟨rfl, rfl⟩ := hm
      exact .inr ⟨lkN_no h1, _, lkN_some h1, rfl, rfl, fun e1 he => by cases he; rfl⟩
  case callp f as =>
    simp only [stepF] at h
    obtain ⟨_, _, h⟩ := ons_some h
    rw [(upTo_some h).2]
    exact updNil
  case pick c a b =>
    simp only [stepF] at h
    split at h
    · split at h
      · cases h
      · cases h; exact updNil
    · cases h
  case bslice k ps =>
    simp only [stepF] at h
    obtain ⟨_, _, h⟩ := ons_some h
    split at h <;> cases h
    exact updNew ⟨rfl, rfl, rfl⟩
  case mkf f cs =>
    simp only [stepF] at h
    obtain ⟨_, _, h⟩ := ons_some h
    cases h; exact updNil
  case build z ps =>
    simp only [stepF] at h
    obtain ⟨_, _, h⟩ := onps_some h
    split at h <;> cases h
    exact updNil
  case slc a s lo hi =>
    simp only [stepF] at h
    obtain ⟨_, v0, _, -, h, -⟩ := o1_some h
    obtain ⟨_, _, h⟩ := o0_some h
    obtain ⟨_, _, h⟩ := o0_some h
    split at h
    · split at h
      · cases bif_some h
        exact updNil
      · cases h
    · cases h
  case alloc => cases h; exact updNew ⟨rfl, rfl, rfl⟩
  case allocI => cases h; exact updNew ⟨rfl, rfl, rfl⟩
  case lenK => cases h; exact updNil
  case mov | nilc | neg | not | cvt | slcA | fld | ext | len =>
    simp only [stepF] at h
    obtain ⟨_, v0, _, -, h, -⟩ := o1_some h
    first
      | (rw [(upTo_some h).2]; exact updNil)
      | (cases h; exact updNil)
      | (split at h
         all_goals first | (cases h; exact updNil) | (cases h; done) | (split at h <;> cases h; exact updNil))
  case ld r n k nv a =>
    simp only [stepF] at h
    obtain ⟨_, v0, _, -, h, -⟩ := o1_some h
    cases v0 <;> simp only at h <;> first | (cases h; done) | skip
    have fin : ∀ (fr : Bool) (rs : List RC), viewsN rs ≤ nv → UpdOk (.ld r n k nv a) no look (viewsU fr k rs) := fun fr rs hn c' e hm => by
      have := viewsU_in hm
      refine .inl ⟨this.1, by simp only [IROp.kOf, IROp.nOf, Option.getD_some]; omega, ?_⟩
      have : nv ≠ 0 := by omega
      simp [footOf, this]
    split at h
    · unfold ldRec at h
      cases n with
      | none =>
        simp only at h
        obtain ⟨hc, hb⟩ := bif_some3 h
        simp only [Bool.and_eq_true, decide_eq_true_eq] at hc
        split at hb
        · cases hb
          exact fin _ _ hc.2
        · cases hb
      | some n =>
        simp only at h
        have hb := bif_some2 h
        have key : ∀ (fr : Bool) (rs : List RC) (P Q : Prop) (w : SV), (bif decide (viewsN rs ≤ nv) then (some (P, w, viewsU fr k rs) : R) else none) = some (Q, v, u) → UpdOk (.ld r (some n) k nv a) no look u := fun fr rs P Q w hh => by
          cases hc : decide (viewsN rs ≤ nv) with
          | false => rw [hc] at hh; cases hh
          | true => rw [hc] at hh; cases hh; exact fin fr rs (by simpa using hc)
        exact key _ _ _ _ _ hb
    · split at h <;> cases h
      exact updNil
    · cases h
  case fldv =>
    simp only [stepF] at h
    obtain ⟨_, v0, _, -, h, -⟩ := o1_some h
    cases v0 <;> simp only at h <;> first | (cases h; done) | skip
    split at h <;> split at h <;> cases h <;> exact updNil
  case box =>
    simp only [stepF] at h
    obtain ⟨_, v0, _, -, h, -⟩ := o1_some h
    split at h <;> cases h
    exact updNew ⟨rfl, rfl, rfl⟩
  case bin | binB | binS | binA | binN =>
    simp only [stepF] at h
    obtain ⟨_, v0, _, -, h, -⟩ := o1_some h
    obtain ⟨_, v1, _, -, h, -⟩ := o1_some h
    rw [(upTo_some h).2]; exact updNil
  case mks =>
    simp only [stepF] at h
    obtain ⟨_, v0, _, -, h, -⟩ := o1_some h
    obtain ⟨_, v1, _, -, h, -⟩ := o1_some h
    split at h
    · split at h <;> cases h
      exact updNew ⟨rfl, rfl, rfl⟩
    · cases h
  case mksR =>
    simp only [stepF] at h
    obtain ⟨_, v0, _, -, h, -⟩ := o1_some h
    obtain ⟨_, v1, _, -, h, -⟩ := o1_some h
    split at h <;> cases h
    exact updNew ⟨rfl, rfl, rfl⟩
  case idxS a b s =>
    simp only [stepF] at h
    obtain ⟨_, v0, _, -, h, -⟩ := o1_some h
    obtain ⟨_, v1, _, -, h, -⟩ := o1_some h
    split at h
    · cases bif_some h
      exact updNil
    · cases h
  case idxP =>
    simp only [stepF] at h
    obtain ⟨_, v0, _, -, h, -⟩ := o1_some h
    obtain ⟨_, v1, _, -, h, -⟩ := o1_some h
    split at h <;> cases h
    exact updNil
  case idxV =>
    simp only [stepF] at h
    obtain ⟨_, v0, _, -, h, -⟩ := o1_some h
    obtain ⟨_, v1, _, -, h, -⟩ := o1_some h
    split at h
    · split at h
      · cases bif_some h
        exact updNil
      · cases h
    · cases h
  case mn | mx =>
    simp only [stepF] at h
    obtain ⟨_, v0, _, -, h, -⟩ := o1_some h
    obtain ⟨_, v1, _, -, h, -⟩ := o1_some h
    split at h <;> cases h
    exact updNil
  case mn3 | mx3 =>
    simp only [stepF] at h
    obtain ⟨_, v0, _, -, h, -⟩ := o1_some h
    obtain ⟨_, v1, _, -, h, -⟩ := o1_some h
    obtain ⟨_, v2, _, -, h, -⟩ := o1_some h
    split at h <;> cases h
    exact updNil

end
end Go.Proofs.Ytnmbimhcfioeiaa.Xf
