import Derived.Test.YtnmbimhcfioeiaaFx
set_option linter.unusedVariables false
set_option linter.unusedSimpArgs false
/-! Xf, part y: the reckoning, as a machine over plain data (no continuation is looked into before it is its turn). -/
namespace Go.Proofs.Ytnmbimhcfioeiaa.Xf

abbrev En := Option (Bool × SV)
abbrev PV := Option (Prop × SV)

def k1 (c : Bool) : PV → R
  | some (p, v) => some (c = true ∧ p, v, [])
  | none => none
def k2 (c d : Bool) : PV → R
  | some (p, v) => some (c = true ∧ d = true ∧ p, v, [])
  | none => none
def x1 (f : SV → PV) : En → R
  | some (c, v) => k1 c (f v)
  | none => none

def vs2 : List En → Option (Prop × List SV)
  | [] => some (True, [])
  | some (c, v) :: l => match vs2 l with | some (p, vs) => some (c = true ∧ p, v :: vs) | none => none
  | none :: _ => none
def ens (sl : List Ent) : List Opd → List En
  | [] => []
  | a :: as => en sl a :: ens sl as

def andR (p : Prop) : R → R
  | some (q, v, u) => some (p ∧ q, v, u)
  | none => none

/-- All operands of a list at once. -/
def vsE (sl : List Ent) : List Opd → Option (Prop × List SV)
  | [] => some (True, [])
  | a :: as => vsE2 (en sl a) (vsE sl as)
where vsE2 : En → Option (Prop × List SV) → Option (Prop × List SV)
  | some (c, v), some (p, vs) => some (c = true ∧ p, v :: vs)
  | _, _ => none

theorem andR_and (p q : Prop) (r : R) : andR p (andR q r) = andR (p ∧ q) r := by
  cases r with
  | none => rfl
  | some r => simp [andR, and_assoc]
theorem andR_true (r : R) : andR True r = r := by
  cases r with
  | none => rfl
  | some r => simp [andR]

def fin1 (f : List SV → R) : Option (Prop × List SV) → R
  | some (p, vs) => andR p (f vs)
  | none => none

theorem ons_vsE {sl : List Ent} : ∀ (as : List Opd) (f : List SV → R), ons sl as f = fin1 f (vsE sl as)
  | [], f => by simp [ons, vsE, fin1, andR_true]
  | a :: as, f => by
    simp only [ons, o1, vsE]
    cases en sl a with
    | none => rfl
    | some e =>
      obtain ⟨c, v⟩ := e
      simp only [ons_vsE as]
      cases vsE sl as with
      | none => rfl
      | some q =>
        obtain ⟨p, vs⟩ := q
        simp only [vsE.vsE2, fin1]
        cases f (v :: vs) with
        | none => rfl
        | some r => simp [andR, and_assoc]

section
variable (sp : Sp) (spP : SpP) (no : Lim) (x : Nat → Loc) (sl : List Ent) (m : Mem)

@[push_cast] theorem st_mov (a : Opd) : stepF sp spP no x sl (lk m) (.mov a) = x1 (fun v => some (True, v)) (en sl a) := by
  simp only [stepF, o1]; cases en sl a with
  | none => rfl
  | some e => rfl
def xBox (x : Nat → Loc) (k : Nat) (c : Bool) : Option (List SV) → R
  | some cs => some (c = true ∧ True, .ptr k (x k) 0 0 0, [(k, some (.mine, x k, .cells cs))])
  | none => none
def xBox0 (x : Nat → Loc) (k : Nat) : En → R
  | some (c, v) => xBox x k c (cellsOf v)
  | none => none
@[push_cast] theorem st_box (k : Nat) (a : Opd) : stepF sp spP no x sl (lk m) (.box k a) = xBox0 x k (en sl a) := by
  simp only [stepF, o1]; cases en sl a with
  | none => rfl
  | some e => obtain ⟨c, v⟩ := e; simp only [xBox0]; cases cellsOf v <;> rfl
@[push_cast] theorem st_alloc (k : Nat) (z : List SV) : stepF sp spP no x sl (lk m) (.alloc k z) = some (True, .ptr k (x k) 0 0 0, [(k, some (.mine, x k, .cells z))]) := rfl
@[push_cast] theorem st_allocI (k : Nat) (ik : IntKind) (n : Nat) : stepF sp spP no x sl (lk m) (.allocI k ik n) =
    some (True, .ptr k ⟨(x k).b, (x k).o, false, n⟩ 0 0 0, [(k, some (.mine, ⟨(x k).b, (x k).o, false, n⟩, .ints ik (intsZ n)))]) := rfl

def xLd3 (c : Bool) (L L' : Loc) : PV → R
  | some (p, v) => some (c = true ∧ L' = L ∧ p, v, [])
  | none => none
def xLd2 (c : Bool) (n : Option Nat) (k nv : Nat) (L : Loc) (i : Int) (s f : Nat) : Option ME → R
  | some (_, L', .recs s' fr z l) => andR (c = true) (ldRec n k nv L L' i s f s' fr z l)
  | some (_, L', ch) => match n with | none => xLd3 c L L' (rdc i s f ch) | some n => xLd3 c L L' (rdn n i s f ch)
  | none => none
def xLd (r : Bool) (n : Option Nat) (k nv : Nat) (no : Lim) (m : Mem) : En → R
  | some (c, .ptr id L i s f) => xLd2 c n k nv L i s f (lkK r no (lk m) id)
  | _ => none
@[push_cast] theorem st_ld (r : Bool) (n : Option Nat) (k nv : Nat) (a : Opd) : stepF sp spP no x sl (lk m) (.ld r n k nv a) = xLd r n k nv no m (en sl a) := by
  simp only [stepF, o1]; cases en sl a with
  | none => rfl
  | some e =>
    obtain ⟨c, v⟩ := e
    cases v <;> try rfl
    simp only [xLd]
    cases lkK r no (lk m) _ with
    | none => rfl
    | some e =>
      obtain ⟨own, L', ch⟩ := e
      cases ch with
      | recs s' fr z l =>
        simp only [xLd2]
        cases ldRec n k nv _ L' _ _ _ s' fr z l <;> rfl
      | _ =>
        simp only [xLd2]
        cases n with
        | none => simp only; cases rdc _ _ _ _ <;> rfl
        | some n => simp only; cases rdn n _ _ _ _ <;> rfl

def xSt3 (id : Nat) (c d : Bool) (L L' : Loc) (own : Own) : Option (Prop × Chunk) → R
  | some (p, ch') => some (c = true ∧ d = true ∧ L' = L ∧ p, .val undef, [(id, some (own, L', ch'))])
  | none => none
def xStW (n : Nat) (i : Int) (s f : Nat) (u : SV) (ch : Chunk) : Option (Prop × Chunk) :=
  match u with
  | .agg us => bif decide (us.length = n) then wrn i s f us ch else none
  | u => bif decide (n = 1) then wrc i s f u ch else none
def xSt4 (id : Nat) (c d : Bool) (L L' : Loc) (own : Own) (s' : Nat) (fr : Bool) (z : List RC) : Option (Prop × List (List RC) × Upd × Bool) → R
  | some (p, l', u, fr') => some (c = true ∧ d = true ∧ L' = L ∧ p, .val undef, u ++ [(id, some (own, L', .recs s' (fr && fr') z l'))])
  | none => none
def xSt5 (nk : IntKind) (no : Lim) (m : Mem) (id n : Nat) (c d : Bool) (L : Loc) (i : Int) (s f : Nat) (u : SV) (own : Own) (L' : Loc) : Bool → Chunk → R
  | true, .recs s' fr z l => xSt4 id c d L L' own s' fr z (stR (lkN no (lk m)) nk n i s f s' z l u)
  | true, ch => xSt3 id c d L L' own (xStW n i s f u ch)
  | false, _ => none
def xSt2 (nk : IntKind) (no : Lim) (m : Mem) (id n : Nat) (c d : Bool) (L : Loc) (i : Int) (s f : Nat) (u : SV) : Option ME → R
  | some (own, L', ch) => xSt5 nk no m id n c d L i s f u own L' own.wr ch
  | _ => none
def xSt (r : Bool) (n : Nat) (nk : IntKind) (no : Lim) (m : Mem) : En → En → R
  | some (c, .ptr id L i s f), some (d, u) => xSt2 nk no m id n c d L i s f u (lkK r no (lk m) id)
  | _, _ => none
@[push_cast] theorem st_sto (r : Bool) (n : Nat) (nk : IntKind) (a b : Opd) : stepF sp spP no x sl (lk m) (.sto r n nk a b) = xSt r n nk no m (en sl a) (en sl b) := by
  simp only [stepF, o1]; cases en sl a with
  | none => rfl
  | some e =>
    obtain ⟨c, v⟩ := e
    cases en sl b with
    | none => cases v <;> rfl
    | some e' =>
      obtain ⟨d, u⟩ := e'
      cases v <;> try rfl
      rename_i id L i s f
      simp only [xSt]
      cases lkK r no (lk m) _ with
      | none => rfl
      | some e =>
        obtain ⟨own, L', ch⟩ := e
        simp only [xSt2]
        cases own.wr with
        | false => rfl
        | true =>
          cases ch with
          | recs s' fr z l =>
            simp only [xSt5]
            cases stR _ nk n i s f s' z l u with
            | none => rfl
            | some q => rfl
          | _ =>
            simp only [xSt5, xStW]
            cases u
            case agg us =>
              simp only
              cases decide (us.length = n)
              · rfl
              · simp only [cond_true]; cases wrn i s f us _ <;> rfl
            all_goals
              simp only
              cases decide (n = 1)
              · rfl
              · simp only [cond_true]; cases wrc i s f _ _ <;> rfl

def xNil : En → R
  | some (c, .ptr id L i s f) => some (c = true ∧ True, .ptr id L i s f, [])
  | _ => none
@[push_cast] theorem st_nilc (a : Opd) : stepF sp spP no x sl (lk m) (.nilc a) = xNil (en sl a) := by
  simp only [stepF, o1]; cases en sl a with
  | none => rfl
  | some e => obtain ⟨c, v⟩ := e; cases v <;> rfl

def x2 (f : SV → SV → PV) : En → En → R
  | some (c, u), some (d, v) => k2 c d (f u v)
  | _, _ => none
theorem o12 (sl : List Ent) (a b : Opd) (f : SV → SV → PV) : (o1 sl a fun u => o1 sl b fun v => upTo (f u v)) = x2 f (en sl a) (en sl b) := by
  simp only [o1]; cases en sl a with
  | none => rfl
  | some e => obtain ⟨c, u⟩ := e; cases en sl b with
    | none => rfl
    | some e' => obtain ⟨d, v⟩ := e'; simp only [x2]; cases f u v <;> rfl
theorem o11 (sl : List Ent) (a : Opd) (f : SV → PV) : (o1 sl a fun u => upTo (f u)) = x1 f (en sl a) := by
  simp only [o1]; cases en sl a with
  | none => rfl
  | some e => obtain ⟨c, u⟩ := e; simp only [x1]; cases f u <;> rfl
@[push_cast] theorem st_bin (w : Nat) (op : BinOp) (a b : Opd) : stepF sp spP no x sl (lk m) (.bin w op a b) = x2 (binSV w op) (en sl a) (en sl b) := o12 sl a b (binSV w op)
@[push_cast] theorem st_binB (op : BinOp) (a b : Opd) : stepF sp spP no x sl (lk m) (.binB op a b) = x2 (binBSV op) (en sl a) (en sl b) := o12 sl a b (binBSV op)
@[push_cast] theorem st_binS (op : BinOp) (a b : Opd) : stepF sp spP no x sl (lk m) (.binS op a b) = x2 (binSSV op) (en sl a) (en sl b) := o12 sl a b (binSSV op)
@[push_cast] theorem st_binA (op : BinOp) (ks : List Bool) (a b : Opd) : stepF sp spP no x sl (lk m) (.binA op ks a b) = x2 (binASV op ks) (en sl a) (en sl b) := o12 sl a b (binASV op ks)
@[push_cast] theorem st_binN (op : BinOp) (a b : Opd) : stepF sp spP no x sl (lk m) (.binN op a b) = x2 (binNSV op) (en sl a) (en sl b) := o12 sl a b (binNSV op)
@[push_cast] theorem st_neg (w : Nat) (a : Opd) : stepF sp spP no x sl (lk m) (.neg w a) = x1 (negSV w) (en sl a) := o11 sl a (negSV w)
@[push_cast] theorem st_not (a : Opd) : stepF sp spP no x sl (lk m) (.not a) = x1 notSV (en sl a) := o11 sl a notSV
@[push_cast] theorem st_cvt (w : Nat) (k : IntKind) (a : Opd) : stepF sp spP no x sl (lk m) (.cvt w k a) = x1 (cvtSV w k) (en sl a) := o11 sl a (cvtSV w k)

def xPick2 (cc ca cb g : Bool) : Option SV → R
  | some v => some (cc = true ∧ (g = true → ca = true) ∧ (g = false → cb = true), v, [])
  | none => none
def xPick : En → En → En → R
  | some (cc, .bool g), some (ca, va), some (cb, vb) => xPick2 cc ca cb g (pickSV g va vb)
  | _, _, _ => none
@[push_cast] theorem st_pick (c a b : Opd) : stepF sp spP no x sl (lk m) (.pick c a b) = xPick (en sl c) (en sl a) (en sl b) := by
  simp only [stepF]
  cases en sl c with
  | none => rfl
  | some e =>
    obtain ⟨cc, g⟩ := e
    cases g <;> try (cases en sl a <;> cases en sl b <;> rfl)
    cases en sl a with
    | none => rfl
    | some e => cases en sl b with
      | none => rfl
      | some e' =>
        obtain ⟨ca, va⟩ := e
        obtain ⟨cb, vb⟩ := e'
        simp only [xPick]
        cases pickSV _ va vb <;> rfl

def fldSV (off : Nat) : SV → PV
  | .ptr c L i s f => some (True, .ptr c L i s (f + off))
  | _ => none
@[push_cast] theorem st_fld (a : Opd) (off : Nat) : stepF sp spP no x sl (lk m) (.fld a off) = x1 (fldSV off) (en sl a) := by
  simp only [stepF, o1]; cases en sl a with
  | none => rfl
  | some e => obtain ⟨c, v⟩ := e; cases v <;> rfl
def optPV : Option SV → PV
  | some v => some (True, v)
  | none => none
def aggPV : Option (List SV) → PV
  | some l => some (True, .agg l)
  | none => none
def fldvSV (off : Nat) (n : Option Nat) : SV → PV
  | .agg cs => match n with | none => optPV (getL cs off) | some n => aggPV (takeL (dropL cs off) n)
  | _ => none
@[push_cast] theorem st_fldv (a : Opd) (off : Nat) (n : Option Nat) : stepF sp spP no x sl (lk m) (.fldv a off n) = x1 (fldvSV off n) (en sl a) := by
  simp only [stepF, o1]; cases en sl a with
  | none => rfl
  | some e =>
    obtain ⟨c, v⟩ := e
    cases v <;> try rfl
    cases n with
    | none => simp only [x1, fldvSV]; cases getL _ off <;> rfl
    | some n => simp only [x1, fldvSV]; cases takeL _ n <;> rfl
def extSV (i : Nat) : SV → PV
  | .tup cs => optPV (getL cs i)
  | _ => none
@[push_cast] theorem st_ext (a : Opd) (i : Nat) : stepF sp spP no x sl (lk m) (.ext a i) = x1 (extSV i) (en sl a) := by
  simp only [stepF, o1]; cases en sl a with
  | none => rfl
  | some e =>
    obtain ⟨c, v⟩ := e
    cases v <;> try rfl
    simp only [x1, extSV]; cases getL _ i <;> rfl
def lenSV : SV → PV
  | .sl _ _ _ _ n => some (True, .int .i64 n)
  | _ => none
@[push_cast] theorem st_len (a : Opd) : stepF sp spP no x sl (lk m) (.len a) = x1 lenSV (en sl a) := by
  simp only [stepF, o1]; cases en sl a with
  | none => rfl
  | some e => obtain ⟨c, v⟩ := e; cases v <;> rfl
@[push_cast] theorem st_lenK (n : Nat) : stepF sp spP no x sl (lk m) (.lenK n) = some (True, .int .i64 n, []) := rfl

def idxSSV (s : Nat) : SV → SV → PV
  | .sl c L s' lo len, .int _ i => bif decide (s = s') then some (0 ≤ i ∧ i < len, .ptr c L (lo + i) s 0) else none
  | _, _ => none
@[push_cast] theorem st_idxS (a b : Opd) (s : Nat) : stepF sp spP no x sl (lk m) (.idxS a b s) = x2 (idxSSV s) (en sl a) (en sl b) := by
  rw [← o12]
  simp only [stepF]
  congr 1; funext u; congr 1; funext v
  cases u <;> cases v <;> try rfl
  simp only [idxSSV]
  cases decide (s = _) <;> rfl
def idxPSV (len s : Nat) : SV → SV → PV
  | .ptr c L i 0 f, .int _ j => some (0 ≤ j ∧ j < len, .ptr c L j s f)
  | _, _ => none
@[push_cast] theorem st_idxP (a b : Opd) (len s : Nat) : stepF sp spP no x sl (lk m) (.idxP a b len s) = x2 (idxPSV len s) (en sl a) (en sl b) := by
  rw [← o12]
  simp only [stepF]
  congr 1; funext u; congr 1; funext v
  cases u <;> try rfl
  rename_i c L i s' f
  cases s' <;> cases v <;> rfl
def idxVk (len : Nat) (j : Int) : Option (IntKind × List Int) → PV
  | some (k, xs) => bif decide (xs.length = len) then some (0 ≤ j ∧ j < len, .int k (rd xs j)) else none
  | none => none
def idxVSV (len : Nat) : SV → SV → PV
  | .agg cs, .int _ j => idxVk len j (intOfs cs)
  | _, _ => none
@[push_cast] theorem st_idxV (a b : Opd) (len : Nat) : stepF sp spP no x sl (lk m) (.idxV a b len) = x2 (idxVSV len) (en sl a) (en sl b) := by
  rw [← o12]
  simp only [stepF]
  congr 1; funext u; congr 1; funext v
  cases u <;> cases v <;> try rfl
  simp only [idxVSV]
  cases intOfs _ with
  | none => rfl
  | some q => obtain ⟨k, xs⟩ := q; simp only [idxVk]; cases decide (xs.length = len) <;> rfl
def mnSV : SV → SV → PV
  | .int k n, .int _ m => some (True, .int k (min n m))
  | _, _ => none
def mxSV : SV → SV → PV
  | .int k n, .int _ m => some (True, .int k (max n m))
  | _, _ => none
@[push_cast] theorem st_mn (a b : Opd) : stepF sp spP no x sl (lk m) (.mn a b) = x2 mnSV (en sl a) (en sl b) := by
  rw [← o12]
  simp only [stepF]
  congr 1; funext u; congr 1; funext v
  cases u <;> cases v <;> rfl
@[push_cast] theorem st_mx (a b : Opd) : stepF sp spP no x sl (lk m) (.mx a b) = x2 mxSV (en sl a) (en sl b) := by
  rw [← o12]
  simp only [stepF]
  congr 1; funext u; congr 1; funext v
  cases u <;> cases v <;> rfl


theorem o13 (sl : List Ent) (a b c : Opd) (f : SV → SV → SV → R) : (o1 sl a fun u => o1 sl b fun v => o1 sl c fun w => f u v w) = ons sl [a, b, c] fun vs => match vs with | [u, v, w] => f u v w | _ => none := rfl
def mn3V : List SV → R
  | [.int k n, .int _ m, .int _ o] => some (True, .int k (min (min n m) o), [])
  | _ => none
def mx3V : List SV → R
  | [.int k n, .int _ m, .int _ o] => some (True, .int k (max (max n m) o), [])
  | _ => none
@[push_cast] theorem st_mn3 (a b c : Opd) : stepF sp spP no x sl (lk m) (.mn3 a b c) = fin1 mn3V (vsE sl [a, b, c]) := by
  rw [← ons_vsE]
  simp only [stepF]
  rw [o13]
  congr 1; funext vs
  unfold mn3V
  split
  · rename_i u v w
    cases u <;> cases v <;> cases w <;> rfl
  · rename_i h
    split
    · rename_i k n _ m' _ o; exact absurd rfl (h _ _ _)
    · rfl
@[push_cast] theorem st_mx3 (a b c : Opd) : stepF sp spP no x sl (lk m) (.mx3 a b c) = fin1 mx3V (vsE sl [a, b, c]) := by
  rw [← ons_vsE]
  simp only [stepF]
  rw [o13]
  congr 1; funext vs
  unfold mx3V
  split
  · rename_i u v w
    cases u <;> cases v <;> cases w <;> rfl
  · rename_i h
    split
    · rename_i k n _ m' _ o; exact absurd rfl (h _ _ _)
    · rfl

def bslV (x : Nat → Loc) (k : Nat) (n : Int) : Option Chunk → R
  | some ch => some (True, .sl k (x k) 1 0 n, [(k, some (.mine, x k, ch))])
  | none => none
@[push_cast] theorem st_bslice (k : Nat) (ps : List Opd) : stepF sp spP no x sl (lk m) (.bslice k ps) = fin1 (fun vs => bslV x k vs.length (rowOf vs)) (vsE sl ps) := by
  rw [← ons_vsE]
  simp only [stepF]
  congr 1; funext vs
  cases rowOf vs <;> rfl
def brecR (x : Nat → Loc) (k s : Nat) (n : Int) : Option (Prop × List (List RC) × Upd × Bool) → R
  | some (p, l, u, fr) => some (p, .sl k (x k) s 0 n, u ++ [(k, some (.mine, x k, .recs s fr [] l))])
  | none => none
@[push_cast] theorem st_brecs (k s : Nat) (nk : IntKind) (ps : List Opd) : stepF sp spP no x sl (lk m) (.brecs k s nk ps) = fin1 (fun vs => brecR x k s vs.length (recsOf (lkN no (lk m)) nk s vs)) (vsE sl ps) := by
  rw [← ons_vsE]
  simp only [stepF]
  congr 1; funext vs
  cases recsOf _ nk s vs with
  | none => rfl
  | some q => rfl
@[push_cast] theorem st_mkf (f : FuncId) (cs : List Opd) : stepF sp spP no x sl (lk m) (.mkf f cs) = fin1 (fun vs => some (True, .fn f vs, [])) (vsE sl cs) := by
  rw [← ons_vsE]; rfl

def psE (sl : List Ent) : List (Nat × Nat × Opd) → Option (Prop × List (Nat × Nat × SV))
  | [] => some (True, [])
  | (o, s, a) :: as => psE2 o s (en sl a) (psE sl as)
where psE2 (o s : Nat) : En → Option (Prop × List (Nat × Nat × SV)) → Option (Prop × List (Nat × Nat × SV))
  | some (c, v), some (p, vs) => some (c = true ∧ p, (o, s, v) :: vs)
  | _, _ => none
def aggR : Option (List SV) → R
  | some cs => some (True, .agg cs, [])
  | none => none
def finP (z : List SV) : Option (Prop × List (Nat × Nat × SV)) → R
  | some (p, vs) => andR p (aggR (fillL z vs))
  | none => none
@[push_cast] theorem st_build (z : List SV) (ps : List (Nat × Nat × Opd)) : stepF sp spP no x sl (lk m) (.build z ps) = finP z (psE sl ps) := by
  have key : ∀ (as : List (Nat × Nat × Opd)) (f : List (Nat × Nat × SV) → R), onps sl as f = (match psE sl as with | some (p, vs) => andR p (f vs) | none => none) := by
    intro as
    induction as with
    | nil => intro f; simp [onps, psE, andR_true]
    | cons a as ih =>
      intro f
      obtain ⟨o, s, a⟩ := a
      simp only [onps, o1, psE]
      cases en sl a with
      | none => rfl
      | some e =>
        obtain ⟨c, v⟩ := e
        simp only [ih]
        cases psE sl as with
        | none => rfl
        | some q =>
          obtain ⟨p, vs⟩ := q
          simp only [psE.psE2]
          cases f ((o, s, v) :: vs) with
          | none => rfl
          | some r => simp [andR, and_assoc]
  simp only [stepF]
  rw [key]
  cases psE sl ps with
  | none => rfl
  | some q =>
    obtain ⟨p, vs⟩ := q
    simp only [finP]
    cases fillL z vs <;> rfl

def mksV (x : Nat → Loc) (k : Nat) (n mm : Int) : Option Chunk → R
  | some ch => some (0 ≤ n ∧ n ≤ mm ∧ mm ≤ 1000000000000, .sl k (x k) 1 0 n, [(k, some (.mine, x k, ch))])
  | none => none
def xMks (x : Nat → Loc) (k : Nat) (z : SV) : List SV → R
  | [.int _ n, .int _ mm] => mksV x k n mm (rowRep z n)
  | _ => none
@[push_cast] theorem st_mks (k : Nat) (z : SV) (by' : Nat) (l c : Opd) : stepF sp spP no x sl (lk m) (.mks k z by' l c) = fin1 (xMks x k z) (vsE sl [l, c]) := by
  rw [← ons_vsE]
  simp only [stepF, ons]
  congr 1; funext u; congr 1; funext v
  cases u <;> cases v <;> try rfl
  simp only [xMks]
  cases rowRep z _ <;> rfl

def xMksR (x : Nat → Loc) (k : Nat) (z : List RC) : List SV → R
  | [.int _ n, .int _ mm] => some (0 ≤ n ∧ n ≤ mm ∧ mm ≤ 1000000000, .sl k (x k) z.length 0 n, [(k, some (.mine, x k, .recs z.length true z (List.replicate n.toNat z)))])
  | _ => none
@[push_cast] theorem st_mksR (k : Nat) (z : List RC) (by' : Nat) (l c : Opd) : stepF sp spP no x sl (lk m) (.mksR k z by' l c) = fin1 (xMksR x k z) (vsE sl [l, c]) := by
  rw [← ons_vsE]
  simp only [stepF, ons]
  congr 1; funext u; congr 1; funext v
  cases u <;> cases v <;> rfl

def xCopy (no : Lim) (m : Mem) : List SV → R
  | [.sl c L s lo n, .sl d M s' lo' mm] => bif decide (s = 1) && decide (s' = 1) then copyF c L M lo n lo' mm (lkN no (lk m) c) (lkN no (lk m) d) else none
  | _ => none
@[push_cast] theorem st_copy (a b : Opd) : stepF sp spP no x sl (lk m) (.copy a b) = fin1 (xCopy no m) (vsE sl [a, b]) := by
  rw [← ons_vsE]
  simp only [stepF, ons]
  congr 1; funext u; congr 1; funext v
  cases u <;> cases v <;> rfl
def xClear2 (z : List RC) (c : Nat) (L : Loc) (s : Nat) (lo n : Int) : Option ME → R
  | some (own, L', .recs s' fr z' l) => bif own.wr && (decide (s = s') && noRows z && decide (z.length = s)) then some (L' = L ∧ 0 ≤ lo ∧ 0 ≤ n ∧ lo + n = l.length, .tup [], [(c, some (own, L', .recs s' fr z' (l.take lo.toNat ++ List.replicate n.toNat z)))]) else none
  | _ => none
def xClear (z : List RC) (no : Lim) (m : Mem) : SV → R
  | .sl c L s lo n => xClear2 z c L s lo n (lkN no (lk m) c)
  | _ => none

def slcK (c : Nat) (L : Loc) (s : Nat) (lo0 len : Int) : Option Int → Option Int → R
  | some l, some h => some (0 ≤ l ∧ l ≤ h ∧ h ≤ len, .sl c L s (lo0 + l) (h - l), [])
  | _, _ => none
def slcV (s : Nat) (l h : Option SV) : SV → R
  | .sl c L s' lo0 len => bif decide (s = s') then slcK c L s lo0 len (slcLo l) (slcHi len h) else none
  | _ => none
def slc3 (s : Nat) : En → Option (Prop × Option SV) → Option (Prop × Option SV) → R
  | some (c, v), some (p, l), some (q, h) => andR (c = true ∧ p ∧ q) (slcV s l h v)
  | _, _, _ => none
def enO (sl : List Ent) : Option Opd → Option (Prop × Option SV)
  | none => some (True, none)
  | some a => enO2 (en sl a)
where enO2 : En → Option (Prop × Option SV)
  | some (c, v) => some (c = true, some v)
  | none => none
@[push_cast] theorem st_slc (a : Opd) (s : Nat) (lo hi : Option Opd) : stepF sp spP no x sl (lk m) (.slc a s lo hi) = slc3 s (en sl a) (enO sl lo) (enO sl hi) := by
  have h0 : ∀ (o : Option Opd) (f : Option SV → R), o0 sl o f = (match enO sl o with | some (p, l) => andR p (f l) | none => none) := by
    intro o f
    cases o with
    | none => simp [o0, enO, andR_true]
    | some a =>
      simp only [o0, o1, enO]
      cases en sl a with
      | none => rfl
      | some e => obtain ⟨c, v⟩ := e; simp only [enO.enO2]; cases f (some v) <;> rfl
  simp only [stepF, o1]
  cases en sl a with
  | none => rfl
  | some e =>
    obtain ⟨c, v⟩ := e
    simp only [h0]
    cases enO sl lo with
    | none => rfl
    | some q =>
      obtain ⟨p, l⟩ := q
      cases enO sl hi with
      | none => rfl
      | some q' =>
        obtain ⟨p', h⟩ := q'
        simp only [slc3, slcV]
        cases v <;> try rfl
        rename_i cc L s' lo0 len
        simp only
        cases decide (s = s') <;> cases slcLo l <;> cases slcHi len h <;> simp [andR, and_assoc, slcK]

def slcAV (n s : Nat) : SV → R
  | .ptr c L i 0 0 => some (L.nil = false ∧ L.cap = n, .sl c L s 0 n, [])
  | _ => none
def x1R (f : SV → R) : En → R
  | some (c, v) => andR (c = true) (f v)
  | none => none
theorem o1R (sl : List Ent) (a : Opd) (f : SV → R) : o1 sl a f = x1R f (en sl a) := by
  simp only [o1]
  cases en sl a with
  | none => rfl
  | some e => obtain ⟨c, v⟩ := e; simp only [x1R]; cases f v <;> rfl
@[push_cast] theorem st_slcA (a : Opd) (n s : Nat) : stepF sp spP no x sl (lk m) (.slcA a n s) = x1R (slcAV n s) (en sl a) := by
  rw [← o1R]; rfl

@[push_cast] theorem st_clear (z : List RC) (a : Opd) : stepF sp spP no x sl (lk m) (.clear z a) = x1R (xClear z no m) (en sl a) := by
  rw [← o1R]
  simp only [stepF]
  congr 1; funext v
  cases v <;> try rfl
  simp only [xClear]
  cases lkN no (lk m) _ with
  | none => rfl
  | some e =>
    obtain ⟨own, L', ch⟩ := e
    cases ch <;> try rfl
    simp only [xClear2]
    cases own.wr <;> simp

def appK (x : Nat → Loc) (k es : Nat) : Option (Prop × Int × Option (Nat × Own) × Chunk) → R
  | some (p, n, none, ch) => some (p, .sl k (x k) es 0 n, [(k, some (.mine, x k, ch))])
  | some (p, n, some (c, own), ch) => some (p, .sl k (x k) es 0 n, [(c, none), (k, some (own, x k, ch))])
  | none => none
def xApp (x : Nat → Loc) (k es : Nat) (no : Lim) (m : Mem) : List SV → R
  | [u, v] => appK x k es (appF es no (lk m) u v)
  | _ => none
@[push_cast] theorem st_app (k es by' : Nat) (a b : Opd) : stepF sp spP no x sl (lk m) (.app k es by' a b) = fin1 (xApp x k es no m) (vsE sl [a, b]) := by
  rw [← ons_vsE]
  simp only [stepF, ons]
  congr 1; funext u; congr 1; funext v
  simp only [xApp]
  cases appF es no (lk m) u v with
  | none => rfl
  | some r =>
    obtain ⟨p, n, f, ch⟩ := r
    cases f with
    | none => rfl
    | some f => rfl

@[push_cast] theorem st_callp (f : FuncId) (as : List Opd) : stepF sp spP no x sl (lk m) (.callp f as) = fin1 (fun vs => upTo (spP f vs)) (vsE sl as) := by
  rw [← ons_vsE]; rfl
def chkIn (k n : Nat) : R → R
  | some (p, v, u) => bif updIn k n u then some (p, v, u) else none
  | none => none
def xCall (sp : Sp) (no : Lim) (x : Nat → Loc) (m : Mem) (n : Option Nat) (k : Nat) (f : FuncId) (vs : List SV) : R :=
  match n with
  | none => sp f vs (lk m) x k
  | some n => chkIn k n (sp f vs (lkN no (lk m)) x k)
theorem spN_eq (n : Option Nat) (k : Nat) (f : FuncId) (vs : List SV) : spN sp no x (lk m) n k f vs = xCall sp no x m n k f vs := by
  cases n with
  | none => rfl
  | some n =>
    simp only [spN, xCall]
    cases sp f vs (lkN no (lk m)) x k <;> rfl
@[push_cast] theorem st_call (n : Option Nat) (k : Nat) (f : FuncId) (as : List Opd) : stepF sp spP no x sl (lk m) (.call n k f as) = fin1 (xCall sp no x m n k f) (vsE sl as) := by
  rw [← ons_vsE]
  simp only [stepF, spN_eq]
def xCallv (sp : Sp) (no : Lim) (x : Nat → Loc) (m : Mem) (n : Option Nat) (k : Nat) : List SV → R
  | .fn f cs :: vs => xCall sp no x m n k f (vs ++ cs)
  | _ => none
@[push_cast] theorem st_callv (n : Option Nat) (k : Nat) (g : Opd) (as : List Opd) : stepF sp spP no x sl (lk m) (.callv n k g as) = fin1 (xCallv sp no x m n k) (vsE sl (g :: as)) := by
  rw [← ons_vsE]
  simp only [stepF, ons, spN_eq]
  congr 1; funext v; congr 1; funext vs
  cases v <;> rfl

end

/-! The run of a region. -/
abbrev St := Option (Prop × List Ent × Mem)

def finO (P : Prop) (d : Option Nat) (sl : List Ent) (m : Mem) : Option Bool → R → St
  | some g, some (p, v, u) => some (P ∧ (g = true → p) ∧ (g = true ∨ u = []), putE sl d (some (g, v)), apU m u)
  | _, _ => none
def runO (sp : Sp) (spP : SpP) (o : IRO) (x : Nat → Loc) : St → St
  | some (P, sl, m) => finO P o.dst sl m (guardOf sl o.guard) (stepF sp spP o.no x sl (lk m) o.op)
  | none => none
def runR (sp : Sp) (spP : SpP) (X : Nat → Nat → Loc) : List IRO → Nat → St → St
  | [], _, s => s
  | o :: os, i, s => runR sp spP X os (i + 1) (runO sp spP o (X i) s)
def RunOk (K : KT) : St → Prop
  | some (P, sl, m) => P ∧ K sl m
  | none => False

theorem runR_none (sp : Sp) (spP : SpP) (X : Nat → Nat → Loc) : ∀ (os : List IRO) (i : Nat), runR sp spP X os i none = none
  | [], i => rfl
  | o :: os, i => by simp only [runR, runO]; exact runR_none sp spP X os (i + 1)
theorem runR_cong (sp : Sp) (spP : SpP) {X Y : Nat → Nat → Loc} : ∀ (os : List IRO) (i : Nat) (s : St), (∀ j, i ≤ j → X j = Y j) → runR sp spP X os i s = runR sp spP Y os i s
  | [], i, s, h => rfl
  | o :: os, i, s, h => by
    simp only [runR]
    rw [h i (Nat.le_refl i)]
    exact runR_cong sp spP os (i + 1) _ fun j hj => h j (by omega)

theorem runR_ok (sp : Sp) (spP : SpP) (K : KT) : ∀ (os : List IRO) (i : Nat) (P : Prop) (sl : List Ent) (m : Mem), (∀ X, RunOk K (runR sp spP X os i (some (P, sl, m)))) → P ∧ evR sp spP os sl m K
  | [], i, P, sl, m, h => by simpa [runR, RunOk, evR] using h (fun _ _ => default)
  | o :: os, i, P, sl, m, h => by
    have h1 : ∀ x : Nat → Loc, ∀ X, RunOk K (runR sp spP X os (i + 1) (runO sp spP o x (some (P, sl, m)))) := by
      intro x X
      have := h (fun j => if j = i then x else X j)
      simp only [runR, if_true] at this
      rwa [runR_cong sp spP (X := fun j => if j = i then x else X j) (Y := X) os (i + 1) _ (fun j hj => if_neg (by omega))] at this
    have h2 : ∀ x : Nat → Loc, P ∧ ∃ g, guardOf sl o.guard = some g ∧ stepK sp spP o g x sl m (fun sl m => evR sp spP os sl m K) := by
      intro x
      have hx := h1 x
      simp only [runO] at hx
      cases hg : guardOf sl o.guard with
      | none => rw [hg] at hx; simp only [finO, runR_none, RunOk] at hx; exact (hx (fun _ _ => default)).elim
      | some g =>
        rw [hg] at hx
        unfold stepK
        cases hs : stepF sp spP o.no x sl (lk m) o.op with
        | none => rw [hs] at hx; simp only [finO, runR_none, RunOk] at hx; exact (hx (fun _ _ => default)).elim
        | some r =>
          obtain ⟨p, v, u⟩ := r
          rw [hs] at hx
          simp only [finO] at hx
          have := runR_ok sp spP K os (i + 1) _ _ _ hx
          exact ⟨this.1.1, g, rfl, this.1.2.1, this.1.2.2, this.2⟩
    refine ⟨(h2 (fun _ => default)).1, ?_⟩
    simp only [evR, evO]
    obtain ⟨_, g, hg, hk⟩ := h2 (fun _ => default)
    simp only [hg]
    cases hm : o.op.makes with
    | false => simpa using hk
    | true =>
      simp only [cond_true]
      intro x
      obtain ⟨_, g', hg', hk'⟩ := h2 x
      rw [hg] at hg'
      cases hg'
      exact hk'

theorem runR_ok' (sp : Sp) (spP : SpP) (K : KT) (X : Nat → Nat → Loc) : ∀ (os : List IRO) (i : Nat) (P : Prop) (sl : List Ent) (m : Mem), P → evR sp spP os sl m K → RunOk K (runR sp spP X os i (some (P, sl, m)))
  | [], i, P, sl, m, hp, h => ⟨hp, h⟩
  | o :: os, i, P, sl, m, hp, h => by
    simp only [evR, evO] at h
    cases hg : guardOf sl o.guard with
    | none => simp [hg] at h
    | some g =>
      simp only [hg] at h
      have h2 : stepK sp spP o g (X i) sl m (fun sl m => evR sp spP os sl m K) := by
        cases hm : o.op.makes with
        | true => rw [hm] at h; exact h (X i)
        | false =>
          rw [hm] at h
          simp only [cond_false] at h
          unfold stepK at h ⊢
          rwa [stepF_same (fun _ => default) (X i) hm] at h
      unfold stepK at h2
      simp only [runR, runO, hg]
      cases hs : stepF sp spP o.no (X i) sl (lk m) o.op with
      | none => rw [hs] at h2; exact h2.elim
      | some r =>
        obtain ⟨p, v, u⟩ := r
        rw [hs] at h2
        simp only [finO]
        exact runR_ok' sp spP K X os (i + 1) _ _ _ ⟨hp, h2.1, h2.2.1⟩ h2.2.2

/-! Statements, as a heap of things still to be done. -/
structure LoopS where
  A : Type
  I : A → List Ent × Mem
  R : A → Prop
  mu : A → Nat

inductive Item where
  | code (ir : IR)
  | blk (id : Nat)
  | lp (K : KT)

section
variable (sp : Sp) (spP : SpP) (T : KT)

def lpK (l : LoopS) (x : l.A) : KT := fun sl m => ∃ y, l.R y ∧ l.mu y < l.mu x ∧ Sub sl m (l.I y).1 (l.I y).2

def contS : List Item → KT × (Nat → KT)
  | [] => (T, fun _ _ _ => False)
  | .code ir :: S => (fun sl m => ev sp spP ir (contS S).1 (contS S).2 T sl m, (contS S).2)
  | .lp K :: S => (K, (contS S).2)
  | .blk id :: S => ((contS S).1, extAdd id (contS S).1 (contS S).2)

def evS (S : List Item) (sl : List Ent) (m : Mem) : Prop := (contS sp spP T S).1 sl m
def exS (id : Nat) (S : List Item) (sl : List Ent) (m : Mem) : Prop := (contS sp spP T S).2 id sl m

def condS (a b : IR) (S : List Item) (sl : List Ent) (m : Mem) : En → Prop
  | some (cc, .bool t) => cc = true ∧ (t = true → evS sp spP T (.code a :: S) sl m) ∧ (t = false → evS sp spP T (.code b :: S) sl m)
  | _ => False
def endR (S : List Item) (ks km : List Nat) : St → Prop
  | some (P, sl, m) => P ∧ evS sp spP T S (killE sl ks) (killE m km)
  | none => False

theorem evS_nil (sl : List Ent) (m : Mem) : evS sp spP T [] sl m = T sl m := rfl
theorem evS_skip (S : List Item) (sl : List Ent) (m : Mem) : evS sp spP T (.code .skip :: S) sl m = evS sp spP T S sl m := rfl
theorem evS_seq (a b : IR) (S : List Item) (sl : List Ent) (m : Mem) : evS sp spP T (.code (.seq a b) :: S) sl m = evS sp spP T (.code a :: .code b :: S) sl m := rfl
theorem evS_block (id : Nat) (b : IR) (S : List Item) (sl : List Ent) (m : Mem) : evS sp spP T (.code (.block id b) :: S) sl m = evS sp spP T (.code b :: .blk id :: S) sl m := rfl
theorem evS_blk (id : Nat) (S : List Item) (sl : List Ent) (m : Mem) : evS sp spP T (.blk id :: S) sl m = evS sp spP T S sl m := rfl
theorem evS_ret (S : List Item) (sl : List Ent) (m : Mem) : evS sp spP T (.code .ret :: S) sl m = T sl m := rfl
theorem evS_exit (id : Nat) (S : List Item) (sl : List Ent) (m : Mem) : evS sp spP T (.code (.exit id) :: S) sl m = exS sp spP T id S sl m := rfl
theorem exS_code (id : Nat) (ir : IR) (S : List Item) (sl : List Ent) (m : Mem) : exS sp spP T id (.code ir :: S) sl m = exS sp spP T id S sl m := rfl
theorem exS_lp (id : Nat) (K : KT) (S : List Item) (sl : List Ent) (m : Mem) : exS sp spP T id (.lp K :: S) sl m = exS sp spP T id S sl m := rfl
theorem exS_blk (id i : Nat) (S : List Item) (sl : List Ent) (m : Mem) : exS sp spP T id (.blk i :: S) sl m = bif id == i then evS sp spP T S sl m else exS sp spP T id S sl m := by
  unfold exS evS
  simp only [contS, extAdd]
  by_cases h : id = i
  · subst h; simp
  · simp [h]
theorem evS_cond (c : Opd) (a b : IR) (S : List Item) (sl : List Ent) (m : Mem) : evS sp spP T (.code (.cond c a b) :: S) sl m = condS sp spP T a b S sl m (en sl c) := by
  unfold evS condS
  simp only [contS, ev]
  cases en sl c with
  | none => rfl
  | some e => obtain ⟨cc, v⟩ := e; cases v <;> rfl
theorem condS_t (a b : IR) (S : List Item) (sl : List Ent) (m : Mem) (cc : Bool) : condS sp spP T a b S sl m (some (cc, .bool true)) = (cc = true ∧ evS sp spP T (.code a :: S) sl m) := by
  simp [condS]
theorem condS_f (a b : IR) (S : List Item) (sl : List Ent) (m : Mem) (cc : Bool) : condS sp spP T a b S sl m (some (cc, .bool false)) = (cc = true ∧ evS sp spP T (.code b :: S) sl m) := by
  simp [condS]
theorem condS_d (a b : IR) (S : List Item) (sl : List Ent) (m : Mem) (cc : Bool) (p : Prop) [Decidable p] : condS sp spP T a b S sl m (some (cc, .bool (decide p))) =
    (cc = true ∧ (p → evS sp spP T (.code a :: S) sl m) ∧ (¬ p → evS sp spP T (.code b :: S) sl m)) := by
  simp [condS]
theorem condS_nd (a b : IR) (S : List Item) (sl : List Ent) (m : Mem) (cc : Bool) (p : Prop) [Decidable p] : condS sp spP T a b S sl m (some (cc, .bool (!decide p))) =
    (cc = true ∧ (¬ p → evS sp spP T (.code a :: S) sl m) ∧ (p → evS sp spP T (.code b :: S) sl m)) := by
  simp [condS]
theorem condS_b (a b : IR) (S : List Item) (sl : List Ent) (m : Mem) (cc t : Bool) : condS sp spP T a b S sl m (some (cc, .bool t)) =
    (cc = true ∧ (t = true → evS sp spP T (.code a :: S) sl m) ∧ (t = false → evS sp spP T (.code b :: S) sl m)) := rfl

theorem evS_reg (d : Bool) (ops : List IRO) (ks km : List Nat) (S : List Item) (sl : List Ent) (m : Mem) :
    evS sp spP T (.code (.reg d ops ks km) :: S) sl m = ∀ X, endR sp spP T S ks km (runR sp spP X ops 0 (some (True, sl, m))) := by
  have e : ∀ X, endR sp spP T S ks km (runR sp spP X ops 0 (some (True, sl, m))) = RunOk (fun sl m => evS sp spP T S (killE sl ks) (killE m km)) (runR sp spP X ops 0 (some (True, sl, m))) := by
    intro X
    cases runR sp spP X ops 0 (some (True, sl, m)) with
    | none => rfl
    | some r => rfl
  simp only [e]
  apply propext
  exact ⟨fun h X => runR_ok' sp spP _ X ops 0 True sl m trivial h, fun h => (runR_ok sp spP _ ops 0 True sl m h).2⟩

theorem evS_loop {b : IR} {S : List Item} {sl : List Ent} {m : Mem} (l : LoopS) (x : l.A) (h0 : l.R x) (hs : Sub sl m (l.I x).1 (l.I x).2)
    (h : ∀ x, l.R x → evS sp spP T (.code b :: .lp (lpK l x) :: S) (l.I x).1 (l.I x).2) : evS sp spP T (.code (.loop b) :: S) sl m :=
  ⟨l.A, l.I, l.R, l.mu, ⟨x, h0, hs⟩, h⟩
theorem evS_lp {S : List Item} {sl : List Ent} {m : Mem} {l : LoopS} {x : l.A} (y : l.A) (h0 : l.R y) (hm : l.mu y < l.mu x) (hs : Sub sl m (l.I y).1 (l.I y).2) : evS sp spP T (.lp (lpK l x) :: S) sl m :=
  ⟨y, h0, hm, hs⟩
end

attribute [push_cast] k1 k2 x1 fin1 vsE vsE.vsE2 andR xBox xBox0 xLd3 xLd2 xLd xSt3 xStW xSt4 xSt5 xSt2 xSt brecR xMksR copyF xCopy xClear2 xClear xNil x2 xPick2 xPick fldSV optPV aggPV fldvSV extSV lenSV idxSSV idxPSV idxVk idxVSV mnSV mxSV mn3V mx3V bslV
  psE psE.psE2 aggR finP mksV xMks slcK slcV slc3 enO enO.enO2 slcAV x1R appK xApp chkIn xCall xCallv finO runO runR endR
attribute [push_cast] evS_nil evS_skip evS_seq evS_block evS_blk evS_ret evS_exit exS_code exS_lp exS_blk evS_cond condS_t condS_f condS_d condS_nd condS_b evS_reg

theorem tri_evS {P : Program} {sp : Sp} {spP : SpP} {tab : Tab} {isP : FuncId → Bool} {chk : Array Oper → List IRO → Bool} (H : Hyp P tab isP sp spP chk) {f : FuncId} {fn : Func} {ir : IR} {rs : List RV} {n : Nat} (hf : P.funcs[f]? = some fn)
    (hcomp : (fn.body.bind fun c => compC tab isP chk ir c) = some ir) (hrv : compRV tab fn.results.toList = some rs) (hn : fn.ntmps = n) {args : List SV} {m : Mem} {post : SV → Mem → Prop} (k : Nat)
    (h : evS sp spP (retK rs post) [.code ir] (slots0 args n) (m ++ List.replicate k none)) : Tri P f args m post := by
  refine tri_ev H hf hcomp hrv hn k ?_
  exact h
end Go.Proofs.Ytnmbimhcfioeiaa.Xf
