import Derived.Test.YtnmbimhcfioeiaaFb
import GoSem.ClaimKeys
set_option linter.unusedVariables false
set_option linter.unusedSimpArgs false
/-! Xf, part c: the compact text of an operation, made out of the program's own; what each operation does to the world. -/
namespace Go.Proofs.Ytnmbimhcfioeiaa.Xf

inductive TK where
  | int (k : IntKind)
  | bool
  | slice (e : TypeId)
  | struct (fs : List (Nat × TypeId))
  | array (n : Nat) (e : TypeId)
  | pointer
  | other
  deriving Inhabited

structure TT where
  size : Nat
  bytes : Nat
  zero : List SV
  kind : TK
  cmp : Option (List Bool) := none
  deriving Inhabited

def TT.agg (t : TT) : Bool := match t.kind with | .struct _ => true | .array _ _ => true | _ => false

def TKOk (d : TypeDesc) : TK → Prop
  | .int k => d = .int k
  | .bool => d = .bool
  | .slice e => d = .slice e
  | .struct fs => ∃ F : Array Field, d = .struct F ∧ F.toList.map (fun f => (f.offset, f.type)) = fs
  | .array n e => d = .array n e
  | .pointer => ∃ e, d = .pointer e
  | .other => (match d with | .struct _ => false | .array _ _ => false | _ => true) = true

/-- A flat struct or array, whose values are compared cell by cell. -/
def cmpB (P : Program) (t : TypeId) (ks : List Bool) : Bool := !P.eqGuardType P.depth t && (match P.underlying t with
  | some (.struct F) => !P.stoodInHeld t && cmpF P 0 ks F.toList
  | some (.array m e) => decide (m = ks.length) && !ks.isEmpty && ks.all fun k => cmp1 P k e
  | _ => false)
where
  cmp1 (P : Program) (k : Bool) (t : TypeId) : Bool := decide (P.cellsOf t = 1) && P.plainKey t && (match P.underlying t with | some .bool => !k | some (.int _) => k | _ => false)
  cmpF (P : Program) : Nat → List Bool → List Field → Bool
    | _, [], [] => true
    | n, k :: ks, f :: fs => decide (f.offset = n) && f.name != "_" && cmp1 P k f.type && cmpF P (n + 1) ks fs
    | _, _, _ => false

structure TtOk (P : Program) (t : TypeId) (tt : TT) : Prop where
  info : ∃ i, P.info? t = some i ∧ i.size = tt.size ∧ i.bytes = tt.bytes ∧ ∃ z, i.zero = some z ∧ Dens tt.zero z.cells.toList ∧ (tt.agg = false → z.cells = #[z])
  desc : ∃ d, P.underlying t = some d ∧ TKOk d tt.kind
  cmp : ∀ ks, tt.cmp = some ks → cmpB P t ks = true
  len : tt.zero.length = tt.size

abbrev Tab := TypeId → Option TT

def nilSV : SV := .sl 4096 nilLoc 1 0 0

def constSV : Value → Option SV
  | .int k n => some (.int k n)
  | .bool b => some (.bool b)
  | .slice none 0 0 => some nilSV
  | .pointer none => some nilP
  | _ => none

def opd : Operand → Option Opd
  | .tmp t => some (.t t)
  | .const v => match constSV v with | some s => some (.k s) | none => none
  | .func f => some (.k (.fn f []))
  | .global _ => none

theorem den_nil : Den nilSV (.slice none 0 0) := by
  simp [nilSV, Den, nilLoc, nilLoc0]

theorem constSV_den {v : Value} {s : SV} (h : constSV v = some s) : Den s v := by
  unfold constSV at h
  split at h <;> first | (cases h; first | rfl | exact den_nil | simp [nilP, Den]) | cases h

def SlotsOk (sl : List Ent) (a : Act) : Prop := ∀ n c v, lk sl n = some (c, v) → c = true → Den v (a.tmps.getD n undef)

theorem opd_den {x : Operand} {o : Opd} (h : opd x = some o) {sl : List Ent} {a : Act} (hs : SlotsOk sl a) {c : Bool} {v : SV}
    (he : en sl o = some (c, v)) (hc : c = true) : Den v (a.eval x) := by
  cases x with
  | tmp t => simp only [opd] at h; cases h; exact hs t c v he hc
  | const u =>
    simp only [opd] at h
    split at h
    · rename_i s hs; cases h; simp only [en] at he; cases he; exact constSV_den hs
    · cases h
  | func f => simp only [opd] at h; cases h; simp only [en] at he; cases he; simp [Den, Dens, Act.eval]
  | global g => simp [opd] at h

theorem o1_some {sl : List Ent} {a : Opd} {f : SV → R} {p : Prop} {r : SV} {u : Upd} (h : o1 sl a f = some (p, r, u)) :
    ∃ c v p', en sl a = some (c, v) ∧ f v = some (p', r, u) ∧ p = (c = true ∧ p') := by
  unfold o1 at h
  split at h
  · cases h
  · rename_i c v hv
    split at h
    · cases h
    · rename_i p' r' u' hf
      cases h
      exact ⟨c, v, p', hv, hf, rfl⟩

/-- One operand, with its value. -/
theorem o1_den {sl : List Ent} {a : Opd} {f : SV → R} {p : Prop} {r : SV} {u : Upd} (h : o1 sl a f = some (p, r, u)) (hp : p)
    {x : Operand} (hx : opd x = some a) {A : Act} (hs : SlotsOk sl A) : ∃ v p', Den v (A.eval x) ∧ f v = some (p', r, u) ∧ p' := by
  obtain ⟨c, v, p', hv, hf, rfl⟩ := o1_some h
  exact ⟨v, p', opd_den hx hs hv hp.1, hf, hp.2⟩

def opds : List Operand → Option (List Opd)
  | [] => some []
  | x :: xs => match opd x, opds xs with | some a, some as => some (a :: as) | _, _ => none

theorem ons_den {sl : List Ent} {A : Act} (hs : SlotsOk sl A) : ∀ {xs : List Operand} {as : List Opd} {f : List SV → R} {p : Prop} {r : SV} {u : Upd},
    opds xs = some as → ons sl as f = some (p, r, u) → p → ∃ vs p', Dens vs (xs.map A.eval) ∧ f vs = some (p', r, u) ∧ p'
  | [], as, f, p, r, u, hx, h, hp => by
    simp only [opds] at hx; cases hx
    exact ⟨[], p, by simp [Dens], h, hp⟩
  | x :: xs, as, f, p, r, u, hx, h, hp => by
    simp only [opds] at hx
    split at hx
    · rename_i a as' ha has
      cases hx
      simp only [ons] at h
      obtain ⟨v, p', hd, hf, hp'⟩ := o1_den h hp ha hs
      obtain ⟨vs, p'', hds, hf', hp''⟩ := ons_den hs has hf hp'
      exact ⟨v :: vs, p'', by simp only [List.map_cons, Dens]; exact ⟨_, _, rfl, hd, hds⟩, hf', hp''⟩
    · cases hx

def opdps (fs : List (Nat × Nat)) : List (Nat × Operand) → Option (List (Nat × Nat × Opd))
  | [] => some []
  | (i, x) :: xs => match fs[i]?, opd x, opdps fs xs with | some (o, s), some a, some as => some ((o, s, a) :: as) | _, _, _ => none

def sizesOf (tab : Tab) : List (Nat × TypeId) → Option (List (Nat × Nat))
  | [] => some []
  | (o, t) :: l => match tab t, sizesOf tab l with | some tt, some r => some ((o, tt.size) :: r) | _, _ => none

def inOrder : Nat → List (Nat × Operand) → Option (List Operand)
  | _, [] => some []
  | n, (i, x) :: l => bif i == n then (match inOrder (n + 1) l with | some r => some (x :: r) | none => none) else none

def IROp.kOf : IROp → Nat
  | .box k _ | .alloc k _ | .allocI k _ _ | .bslice k _ | .brecs k _ _ _ | .mks k _ _ _ _ | .mksR k _ _ _ _ | .app k _ _ _ _ | .call _ k _ _ | .callv _ k _ _ | .ld _ _ k _ _ => k
  | _ => 0
def IROp.nOf : IROp → Option Nat
  | .call n _ _ _ | .callv n _ _ _ => n
  | .ld _ _ _ nv _ => some nv
  | _ => some 1
def IROp.rOf : IROp → Bool
  | .ld r _ _ _ _ | .sto r _ _ _ _ => r
  | _ => false
def IROp.nkOf : IROp → IntKind
  | .sto _ _ nk _ _ | .brecs _ _ nk _ => nk
  | .mksR _ (.row _ nk _ :: _) _ _ _ => nk
  | _ => .i64
/-- Is it one of the operations on records? -/
def IROp.isR : IROp → Bool
  | .brecs .. | .mksR .. => true
  | _ => false
def IROp.wOf : IROp → Nat
  | .bin w _ _ _ | .neg w _ | .cvt w _ _ => w
  | _ => 0

def opt (x : Option Operand) : Option (Option Opd) :=
  match x with
  | none => some none
  | some x => match opd x with | some a => some (some a) | none => none

def zero1 (tt : TT) : Option SV := match tt.zero with | [z] => some z | _ => none

/-- The zero of a type, as a record. -/
def zeroR (nk : IntKind) : List SV → Option (List RC)
  | [] => some []
  | .int k n :: l => match zeroR nk l with | some r => some (.int k n :: r) | none => none
  | .bool b :: l => match zeroR nk l with | some r => some (.bool b :: r) | none => none
  | .sl 4096 ⟨0, 0, true, 0⟩ 1 0 0 :: l => match zeroR nk l with | some r => some (.row nilLoc nk [] :: r) | none => none
  | _ => none

def simpleK (tt : TT) : Bool := match tt.kind with | .int _ => true | .bool => true | .slice _ => true | _ => false

def zeroI (k : IntKind) : Nat → List SV → Bool
  | 0, [] => true
  | n + 1, .int k' 0 :: l => decide (k = k') && zeroI k n l
  | _, _ => false
theorem zeroI_eq {k : IntKind} : ∀ {n : Nat} {l : List SV}, zeroI k n l = true → l = List.replicate n (.int k 0)
  | 0, [], _ => rfl
  | 0, _ :: _, h => by simp [zeroI] at h
  | n + 1, [], h => by simp [zeroI] at h
  | n + 1, c :: l, h => by
    unfold zeroI at h
    split at h
    · rename_i heq; cases heq
    · rename_i n' k' l' he hl
      cases he; cases hl
      simp only [Bool.and_eq_true, decide_eq_true_eq] at h
      rw [zeroI_eq h.2, ← h.1]
      rfl
    · cases h

/-- The compact text of an operation; g gives the free numbers (labels, ways of reckoning). -/
def compO (tab : Tab) (isP : FuncId → Bool) (g : IROp) : Op → Option IROp
  | .move x => (opd x).map .mov
  | .assign x => (opd x).map .mov
  | .pick c a b => match opd c, opd a, opd b with | some c, some a, some b => some (.pick c a b) | _, _, _ => none
  | .box _ x => (opd x).map (.box g.kOf)
  | .alloc t => match tab t with
    | some tt => match tt.kind with
      | .array n e => match tab e with
        | some te => match te.kind with | .int k => bif zeroI k n tt.zero then some (.allocI g.kOf k n) else none | _ => none
        | none => none
      | _ => some (.alloc g.kOf tt.zero)
    | none => none
  | .build t ps => match tab t with
    | some tt => match tt.kind with
      | .struct fs => match sizesOf tab fs with
        | some szs => match opdps szs ps.toList with | some as => some (.build tt.zero as) | none => none
        | none => none
      | .array n e => match tab e with
        | some te => match opdps ((List.range n).map fun i => (i * te.size, te.size)) ps.toList with | some as => some (.build tt.zero as) | none => none
        | none => none
      | _ => none
    | none => none
  | .buildSlice t len ps => match tab t with
    | some tt => match tt.kind with
      | .slice e => match tab e with
        | some te => bif g.isR then (bif ps.size == len && decide (0 < te.size) && decide (te.size * len ≤ 16777216) then (match inOrder 0 ps.toList with
          | some xs => match opds xs with | some as => some (.brecs g.kOf te.size g.nkOf as) | none => none
          | none => none) else none) else (bif te.size == 1 && ps.size == len && simpleK te && decide (len ≤ 16777216) then (match inOrder 0 ps.toList with
          | some xs => match opds xs with | some as => some (.bslice g.kOf as) | none => none
          | none => none) else none)
        | none => none
      | _ => none
    | none => none
  | .load t x => match tab t, opd x with
    | some tt, some a => some (.ld g.rOf (bif tt.agg then some tt.size else none) g.kOf (g.nOf.getD 0) a)
    | _, _ => none
  | .store t x y => match tab t, opd x, opd y with
    | some tt, some a, some b => some (.sto g.rOf tt.size g.nkOf a b)
    | _, _, _ => none
  | .nilCheck x => (opd x).map .nilc
  | .binOp op t x y _ => match tab t, opd x, opd y with
    | some tt, some a, some b => match tt.kind with
      | .int _ => some (.bin g.wOf op a b)
      | .bool => some (.binB op a b)
      | .slice _ => some (.binS op a b)
      | .struct _ => match tt.cmp with | some ks => some (.binA op ks a b) | none => none
      | .array _ _ => match tt.cmp with | some ks => some (.binA op ks a b) | none => none
      | .pointer => some (.binN op a b)
      | .other => none
    | _, _, _ => none
  | .unOp op _ x => match op, opd x with
    | .neg, some a => some (.neg g.wOf a)
    | .not, some a => some (.not a)
    | _, _ => none
  | .convert src dst x => match tab src, tab dst, opd x with
    | some ts, some td, some a => match ts.kind, td.kind with
      | .int _, .int k => some (.cvt g.wOf k a)
      | _, _ => none
    | _, _, _ => none
  | .makeFunc fn first cs => match fn, first.toList, opds cs.toList with
    | .func f, [], some as => some (.mkf f as)
    | _, _, _ => none
  | .makeSlice t l c => match tab t with
    | some tt => match tt.kind with
      | .slice e => match tab e, opd l, opd c with
        | some te, some a, some b => bif g.isR then (bif decide (te.bytes ≤ 100000) && decide (te.size ≤ 1000) && decide (0 < te.size) then (match zeroR g.nkOf te.zero with | some z => some (.mksR g.kOf z te.bytes a b) | none => none) else none) else bif te.size == 1 && decide (te.bytes ≤ 100) then (match zero1 te with | some z => some (.mks g.kOf z te.bytes a b) | none => none) else none
        | _, _, _ => none
      | _ => none
    | none => none
  | .slice t x lo hi mx => match tab t, opd x, opt lo, opt hi with
    | some tt, some a, some l, some h => match tt.kind, mx with
      | .slice e, none => match tab e with | some te => some (.slc a te.size l h) | none => none
      | .array n e, none => match tab e, lo, hi with | some te, none, none => some (.slcA a n te.size) | _, _, _ => none
      | _, _ => none
    | _, _, _, _ => none
  | .fieldAddr t x f => match tab t, opd x with
    | some tt, some a => match tt.kind with
      | .struct fs => match fs[f]? with
        | some (off, u) => match tab u with | some tu => bif tu.size == 0 then none else some (.fld a off) | none => none
        | none => none
      | _ => none
    | _, _ => none
  | .field t x f => match tab t, opd x with
    | some tt, some a => match tt.kind with
      | .struct fs => match fs[f]? with
        | some (off, u) => match tab u with | some tu => some (.fldv a off (bif tu.agg then some tu.size else none)) | none => none
        | none => none
      | _ => none
    | _, _ => none
  | .indexAddr t x i => match tab t, opd x, opd i with
    | some tt, some a, some b => match tt.kind with
      | .slice e => match tab e with | some te => some (.idxS a b te.size) | none => none
      | .array n e => match tab e with | some te => some (.idxP a b n te.size) | none => none
      | _ => none
    | _, _, _ => none
  | .index t x i => match tab t, opd x, opd i with
    | some tt, some a, some b => match tt.kind with
      | .array n e => match tab e with | some te => bif te.size == 1 && simpleK te then some (.idxV a b n) else none | none => none
      | _ => none
    | _, _, _ => none
  | .extract x i => (opd x).map fun a => .ext a i
  | .call c => match opds c.args.toList with
    | none => none
    | some as => match c.callee with
      | .builtin .len => match c.argTypes.toList, as with
        | [t], [a] => match tab t with
          | some tt => match tt.kind with | .slice _ => some (.len a) | .array n _ => some (.lenK n) | _ => none
          | none => none
        | _, _ => none
      | .builtin .append => match c.argTypes.toList, as with
        | [t, u], [a, b] => match tab t, tab u with
          | some tt, some tu => match tt.kind, tu.kind with
            | .slice e, .slice e' => match tab e with
              | some te => bif decide (0 < te.size) && decide (te.size ≤ 1000) && decide (te.bytes ≤ 100) && (simpleK te || te.agg) then some (.app g.kOf te.size te.bytes a b) else none
              | none => none
            | _, _ => none
          | _, _ => none
        | _, _ => none
      | .builtin .copy => match c.argTypes.toList, as with
        | [t, u], [a, b] => match tab t, tab u with
          | some tt, some tu => match tt.kind, tu.kind with
            | .slice e, .slice e' => match tab e with
              | some te => bif te.size == 1 then some (.copy a b) else none
              | none => none
            | _, _ => none
          | _, _ => none
        | _, _ => none
      | .builtin .clear => match c.argTypes.toList, as with
        | [t], [a] => match tab t with
          | some tt => match tt.kind with
            | .slice e => match tab e with
              | some te => match zeroR g.nkOf te.zero with | some z => some (.clear z a) | none => none
              | none => none
            | _ => none
          | none => none
        | _, _ => none
      | .builtin .min => match as with | [a, b] => some (.mn a b) | [a, b, c] => some (.mn3 a b c) | _ => none
      | .builtin .max => match as with | [a, b] => some (.mx a b) | [a, b, c] => some (.mx3 a b c) | _ => none
      | .value (.func f) => bif isP f then some (.callp f as) else some (.call g.nOf g.kOf f as)
      | .value y => match opd y with | some a => some (.callv g.nOf g.kOf a as) | none => none
      | _ => none
  | _ => none

end Go.Proofs.Ytnmbimhcfioeiaa.Xf
