import Derived.Test.YtnmbimhcfioeiaaFa
set_option linter.unusedVariables false
set_option linter.unusedSimpArgs false
/-! Xf, part b: a compact text of operations, what one does to a symbolic state, and how it is made out of the program's own. -/
namespace Go.Proofs.Ytnmbimhcfioeiaa.Xf

/-- A nil slice: where it lies, and its label. -/
abbrev nilLoc : Loc := nilLoc0

inductive Opd where
  | t (n : Nat)
  | k (v : SV)
  deriving Inhabited

inductive IROp where
  | mov (a : Opd)
  | pick (c a b : Opd)
  | box (k : Nat) (a : Opd)
  | alloc (k : Nat) (z : List SV)
  | allocI (k : Nat) (ik : IntKind) (n : Nat)
  | build (z : List SV) (ps : List (Nat × Nat × Opd))
  | bslice (k : Nat) (ps : List Opd)
  | brecs (k s : Nat) (nk : IntKind) (ps : List Opd)
  | ld (r : Bool) (n : Option Nat) (k nv : Nat) (a : Opd)
  | sto (r : Bool) (n : Nat) (nk : IntKind) (a v : Opd)
  | nilc (a : Opd)
  | bin (w : Nat) (op : BinOp) (x y : Opd)
  | binB (op : BinOp) (x y : Opd)
  | binS (op : BinOp) (x y : Opd)
  | binA (op : BinOp) (ks : List Bool) (x y : Opd)
  | binN (op : BinOp) (x y : Opd)
  | neg (w : Nat) (x : Opd)
  | not (x : Opd)
  | cvt (w : Nat) (k : IntKind) (x : Opd)
  | mkf (f : FuncId) (cs : List Opd)
  | mks (k : Nat) (z : SV) (bytes : Nat) (l c : Opd)
  | mksR (k : Nat) (z : List RC) (bytes : Nat) (l c : Opd)
  | slc (x : Opd) (s : Nat) (lo hi : Option Opd)
  | slcA (x : Opd) (n s : Nat)
  | fld (a : Opd) (off : Nat)
  | fldv (a : Opd) (off : Nat) (n : Option Nat)
  | idxS (x i : Opd) (s : Nat)
  | idxP (x i : Opd) (len s : Nat)
  | idxV (x i : Opd) (len : Nat)
  | ext (x : Opd) (i : Nat)
  | len (x : Opd)
  | lenK (n : Nat)
  | app (k : Nat) (es bytes : Nat) (x y : Opd)
  | mn (x y : Opd)
  | mx (x y : Opd)
  | mn3 (x y z : Opd)
  | mx3 (x y z : Opd)
  | copy (x y : Opd)
  | clear (z : List RC) (x : Opd)
  | callp (f : FuncId) (as : List Opd)
  | call (n : Option Nat) (k : Nat) (f : FuncId) (as : List Opd)
  | callv (n : Option Nat) (k : Nat) (f : Opd) (as : List Opd)
  deriving Inhabited

/-- Which labels an operation must not look at; and, where the second list is not empty, that it looks at these alone. -/
structure Lim where
  no : List Nat
  on : List Nat
  deriving Inhabited

structure IRO where
  dst : Option Nat
  guard : Option (Nat × Bool)
  no : Lim
  op : IROp
  deriving Inhabited

abbrev Ent := Option (Bool × SV)
abbrev Look := Nat → Option ME
abbrev Upd := List (Nat × Option ME)
abbrev R := Option (Prop × SV × Upd)
abbrev Sp := FuncId → List SV → Look → (Nat → Loc) → Nat → R
abbrev SpP := FuncId → List SV → Option (Prop × SV)

def en (sl : List Ent) : Opd → Option (Bool × SV)
  | .t n => lk sl n
  | .k v => some (true, v)

def o1 (sl : List Ent) (a : Opd) (f : SV → R) : R :=
  match en sl a with
  | none => none
  | some (c, v) => match f v with
    | none => none
    | some (p, r, u) => some (c = true ∧ p, r, u)

def ons (sl : List Ent) : List Opd → (List SV → R) → R
  | [], f => f []
  | a :: as, f => o1 sl a fun v => ons sl as fun vs => f (v :: vs)

def noHas : List Nat → Nat → Bool
  | [], _ => false
  | n :: l, c => n == c || noHas l c

def refuses (l : Lim) (c : Nat) : Bool := noHas l.no c || (match l.on with | [] => false | d :: on => !(noHas (d :: on) c))

def lkN (no : Lim) (look : Look) (c : Nat) : Option ME := bif refuses no c then none else look c

/-- Is it a row of numbers (or truths), not of cells? -/
def Chunk.row : Chunk → Bool
  | .cells _ => false
  | _ => true

/-- A chunk of one kind: rows, or cells. -/
def lkK (r : Bool) (no : Lim) (look : Look) (c : Nat) : Option ME :=
  match lkN no look c with
  | some (own, L, ch) => bif ch.row == r then some (own, L, ch) else none
  | none => none

def inR : IntKind → Int → Prop
  | .i64, n => -9223372036854775808 ≤ n ∧ n ≤ 9223372036854775807
  | .i32, n => -2147483648 ≤ n ∧ n ≤ 2147483647
  | .i16, n => -32768 ≤ n ∧ n ≤ 32767
  | .i8, n => -128 ≤ n ∧ n ≤ 127
  | .u64, n => 0 ≤ n ∧ n ≤ 18446744073709551615
  | .u32, n => 0 ≤ n ∧ n ≤ 4294967295
  | .u16, n => 0 ≤ n ∧ n ≤ 65535
  | .u8, n => 0 ≤ n ∧ n ≤ 255

def pickSV (g : Bool) : SV → SV → Option SV
  | .bool x, .bool y => some (.bool (bif g then x else y))
  | .int k x, .int k' y => bif decide (k = k') then some (.int k (bif g then x else y)) else none
  | _, _ => none

def cellsOf : SV → Option (List SV)
  | .agg cs => some cs
  | .tup _ => none
  | .val _ => none
  | v => some [v]

def size1 : SV → Bool
  | .agg _ => false
  | .tup _ => false
  | .val _ => false
  | _ => true

/-- Bits, as the model has them. -/
def bitop (op : BinOp) (k : IntKind) (x y : Int) : Int :=
  let a := BitVec.ofInt k.bits x
  let b := BitVec.ofInt k.bits y
  k.wrap (match op with | .and => a &&& b | .or => a ||| b | .xor => a ^^^ b | _ => a &&& ~~~b).toNat

def binInt (w : Nat) (k : IntKind) (a b : Int) : BinOp → Option (Prop × SV)
  | .add => match w with | 0 => some (inR k (a + b), .int k (a + b)) | _ => some (True, .int k (k.wrap (a + b)))
  | .sub => match w with | 0 => some (inR k (a - b), .int k (a - b)) | _ => some (True, .int k (k.wrap (a - b)))
  | .mul => match w with | 0 => some (inR k (a * b), .int k (a * b)) | _ => some (True, .int k (k.wrap (a * b)))
  | .quo => match w with | 0 => some (0 ≤ a ∧ 0 < b ∧ inR k (a / b), .int k (a / b)) | _ => some (b ≠ 0 ∧ inR k (a.tdiv b), .int k (a.tdiv b))
  | .rem => match w with | 0 => some (0 ≤ a ∧ 0 < b, .int k (a % b)) | _ => some (b ≠ 0, .int k (a.tmod b))
  | .and => some (True, .int k (bitop .and k a b))
  | .or => some (True, .int k (bitop .or k a b))
  | .xor => some (True, .int k (bitop .xor k a b))
  | .andNot => some (True, .int k (bitop .andNot k a b))
  | .eql => some (True, .bool (decide (a = b)))
  | .neq => some (True, .bool (!decide (a = b)))
  | .lss => some (True, .bool (decide (a < b)))
  | .leq => some (True, .bool (decide (a ≤ b)))
  | .gtr => some (True, .bool (decide (b < a)))
  | .geq => some (True, .bool (decide (b ≤ a)))
  | _ => none

def shInt (w : Nat) (k : IntKind) (a b : Int) : BinOp → Option (Prop × SV)
  | .shl => match w with | 0 => some (0 ≤ b ∧ b ≤ k.bits ∧ inR k (a * 2 ^ b.toNat), .int k (a * 2 ^ b.toNat)) | _ => some (0 ≤ b ∧ b ≤ k.bits, .int k (k.wrap (a * 2 ^ b.toNat)))
  | .shr => some (0 ≤ b ∧ b ≤ k.bits, .int k (a / 2 ^ b.toNat))
  | _ => none

def binSV (w : Nat) (op : BinOp) : SV → SV → Option (Prop × SV)
  | .int k a, .int k' b => match op with
    | .shl => shInt w k a b .shl
    | .shr => shInt w k a b .shr
    | op => bif decide (k = k') then binInt w k a b op else none
  | _, _ => none
def binBSV (op : BinOp) : SV → SV → Option (Prop × SV)
  | .bool a, .bool b => match op with
    | .eql => some (True, .bool (a == b))
    | .neq => some (True, .bool (a != b))
    | _ => none
  | _, _ => none
def binSSV (op : BinOp) : SV → SV → Option (Prop × SV)
  | .sl _ L _ _ _, .sl _ M _ _ _ => match op with
    | .eql => some (M.nil = true, .bool L.nil)
    | .neq => some (M.nil = true, .bool (!L.nil))
    | _ => none
  | _, _ => none

/-- Structs and arrays of numbers and truths: are they the same? -/
def eqL : List Bool → List SV → List SV → Option Bool
  | [], [], [] => some true
  | true :: ks, .int k a :: us, .int k' b :: vs => bif decide (k = k') then (match eqL ks us vs with | some r => some (decide (a = b) && r) | none => none) else none
  | false :: ks, .bool a :: us, .bool b :: vs => match eqL ks us vs with | some r => some ((a == b) && r) | none => none
  | _, _, _ => none
def eqA (op : BinOp) : Option Bool → Option (Prop × SV)
  | none => none
  | some r => match op with
    | .eql => some (True, .bool r)
    | .neq => some (True, .bool (!r))
    | _ => none
def binASV (op : BinOp) (ks : List Bool) : SV → SV → Option (Prop × SV)
  | .agg us, .agg vs => eqA op (eqL ks us vs)
  | _, _ => none
def nilP : SV := .val (.pointer none)
/-- Pointers against nil. -/
def binNSV (op : BinOp) : SV → SV → Option (Prop × SV)
  | .ptr _ _ _ _ _, .val (.pointer none) => match op with
    | .eql => some (True, .bool false)
    | .neq => some (True, .bool true)
    | _ => none
  | .val (.pointer none), .val (.pointer none) => match op with
    | .eql => some (True, .bool true)
    | .neq => some (True, .bool false)
    | _ => none
  | _, _ => none

def upTo (x : Option (Prop × SV)) : R := match x with | none => none | some (p, v) => some (p, v, [])

def negSV (w : Nat) : SV → Option (Prop × SV)
  | .int k a => match w with | 0 => some (inR k (-a), .int k (-a)) | _ => some (True, .int k (k.wrap (-a)))
  | _ => none
def notSV : SV → Option (Prop × SV)
  | .bool b => some (True, .bool (!b))
  | _ => none
def cvtSV (w : Nat) (k : IntKind) : SV → Option (Prop × SV)
  | .int _ a => match w with | 0 => some (inR k a, .int k a) | _ => some (True, .int k (k.wrap a))
  | _ => none

def getL : List SV → Nat → Option SV
  | [], _ => none
  | v :: _, 0 => some v
  | _ :: l, n + 1 => getL l n
def setL : List SV → Nat → SV → List SV
  | [], _, _ => []
  | _ :: l, 0, v => v :: l
  | a :: l, n + 1, v => a :: setL l n v
def takeL : List SV → Nat → Option (List SV)
  | _, 0 => some []
  | [], _ + 1 => none
  | v :: l, n + 1 => match takeL l n with | none => none | some r => some (v :: r)
def dropL : List SV → Nat → List SV
  | l, 0 => l
  | [], _ + 1 => []
  | _ :: l, n + 1 => dropL l n
def setsL : List SV → Nat → List SV → List SV
  | l, _, [] => l
  | l, n, v :: vs => setsL (setL l n v) (n + 1) vs
/-- The first n numbers of a list, as values. -/
def intsV (k : IntKind) (xs : List Int) : Nat → List SV
  | 0 => []
  | n + 1 => intsV k xs n ++ [.int k (xs.getD n 0)]

def intsZ : Nat → List Int
  | 0 => []
  | n + 1 => 0 :: intsZ n

/-- The records, cell by cell. -/
def getR : List RC → Nat → RC
  | [], _ => .int .i64 0
  | v :: _, 0 => v
  | _ :: l, n + 1 => getR l n
def setR : List RC → Nat → RC → List RC
  | [], _, _ => []
  | _ :: l, 0, v => v :: l
  | a :: l, n + 1, v => a :: setR l n v
def takeR : List RC → Nat → List RC
  | _, 0 => []
  | [], _ + 1 => []
  | v :: l, n + 1 => v :: takeR l n
def dropR : List RC → Nat → List RC
  | l, 0 => l
  | [], _ + 1 => []
  | _ :: l, n + 1 => dropR l n

/-- What is loaded out of records, with a label of its own for each row; the labels' chunks; how many. -/
def viewsV : Nat → List RC → List SV
  | _, [] => []
  | k, .row L _ xs :: l => .sl k L 1 0 xs.length :: viewsV (k + 1) l
  | k, .int kk n :: l => .int kk n :: viewsV k l
  | k, .bool b :: l => .bool b :: viewsV k l
def viewsU (fr : Bool) : Nat → List RC → Upd
  | _, [] => []
  | k, .row L kk xs :: l => (k, some (bif fr then .rof else .ro, L, .ints kk xs)) :: viewsU fr (k + 1) l
  | k, .int _ _ :: l => viewsU fr k l
  | k, .bool _ :: l => viewsU fr k l
def viewsN : List RC → Nat
  | [] => 0
  | .row _ _ _ :: l => viewsN l + 1
  | .int _ _ :: l => viewsN l
  | .bool _ :: l => viewsN l

/-- Which record, which of its cells. -/
def recAt (i : Int) (z : List RC) (l : List (List RC)) : List RC := l.getD i.toNat z

/-- A load out of records. -/
def ldRec (n : Option Nat) (k nv : Nat) (L L' : Loc) (i : Int) (s f s' : Nat) (fr : Bool) (z : List RC) (l : List (List RC)) : R :=
  match n with
  | none => bif decide (s = s') && decide (f < s) && decide (viewsN [getR (recAt i z l) f] ≤ nv) then
      (match viewsV k [getR (recAt i z l) f] with
        | [v] => some (L' = L ∧ 0 ≤ i ∧ i < l.length, v, viewsU fr k [getR (recAt i z l) f])
        | _ => none) else none
  | some n => bif decide (s = s') && decide (f + n ≤ s) then
      (match (bif decide (n = s) then recAt i z l else takeR (dropR (recAt i z l) f) n) with
        | rs => bif decide (viewsN rs ≤ nv) then some (L' = L ∧ 0 ≤ i ∧ i < l.length, .agg (viewsV k rs), viewsU fr k rs) else none) else none

/-- The part of a row from lo on. -/
def Loc.fr (L : Loc) (lo : Int) : Loc := ⟨L.b, L.o + lo.toNat, L.nil, L.cap - lo.toNat⟩
def sub (xs : List Int) (lo n : Int) : List Int := (xs.drop lo.toNat).take n.toNat

def demote (c : Nat) (L : Loc) (ch : Chunk) : Own → Upd
  | .mine => [(c, some (.rof, L, ch))]
  | _ => []
/-- May its cells be shown by records? And are they made by this call? -/
def showOk : Own → Option Bool
  | .ro => some false
  | .rof => some true
  | .mine => some true
  | _ => none

/-- A value, as a cell of a record: what has to hold; which rows nobody may write any more; whether they are made by this call. nk: of which kind a nil row is. -/
def rcOf (look : Look) (nk : IntKind) : SV → Option (Prop × RC × Upd × Bool)
  | .int k n => some (True, .int k n, [], true)
  | .bool b => some (True, .bool b, [], true)
  | .sl c L s lo n => bif c == 4096 then some (L = nilLoc ∧ lo = 0 ∧ n = 0, .row nilLoc nk [], [], true) else (match look c with
    | some (own, L', .ints k xs) => match showOk own with
      | some fr => bif decide (s = 1) then some (L' = L ∧ 0 ≤ lo ∧ 0 ≤ n ∧ lo + n ≤ xs.length, .row (L.fr lo) k (sub xs lo n), demote c L' (.ints k xs) own, fr) else none
      | none => none
    | _ => none)
  | _ => none
def rcsOf (look : Look) (nk : IntKind) : List SV → Option (Prop × List RC × Upd × Bool)
  | [] => some (True, [], [], true)
  | v :: vs => match rcOf look nk v, rcsOf look nk vs with
    | some (p, r, u, f), some (q, rs, us, g) => some (p ∧ q, r :: rs, u ++ us, f && g)
    | _, _ => none
def recOf (look : Look) (nk : IntKind) (s : Nat) (v : SV) : Option (Prop × List RC × Upd × Bool) :=
  match v with
  | .agg cs => bif decide (cs.length = s) then rcsOf look nk cs else none
  | v => bif decide (s = 1) then rcsOf look nk [v] else none
def recsOf (look : Look) (nk : IntKind) (s : Nat) : List SV → Option (Prop × List (List RC) × Upd × Bool)
  | [] => some (True, [], [], true)
  | v :: vs => match recOf look nk s v, recsOf look nk s vs with
    | some (p, r, u, f), some (q, rs, us, g) => some (p ∧ q, r :: rs, u ++ us, f && g)
    | _, _ => none

/-- What a load of one cell reads. -/
def rdc (i : Int) (s f : Nat) : Chunk → Option (Prop × SV)
  | .cells cs => match getL cs (i.toNat * s + f) with | none => none | some v => some (True, v)
  | .ints k xs => match s, f with | 1, 0 => some (0 ≤ i ∧ i < xs.length, .int k (rd xs i)) | _, _ => none
  | .bools xs => match s, f with | 1, 0 => some (0 ≤ i ∧ i < xs.length, .bool (rdB xs i)) | _, _ => none
  | .recs _ _ _ _ => none
/-- What a load of n cells reads. -/
def rdn (n : Nat) (i : Int) (s f : Nat) : Chunk → Option (Prop × SV)
  | .cells cs => match takeL (dropL cs (i.toNat * s + f)) n with | none => none | some l => some (True, .agg l)
  | .ints k xs => match s, f with | 0, 0 => some (xs.length = n, .agg (intsV k xs n)) | _, _ => none
  | .bools _ => none
  | .recs _ _ _ _ => none

/-- Numbers (or truths) of one kind, as a chunk. -/
def asInts (k : IntKind) : List SV → Option (List Int)
  | [] => some []
  | .int k' n :: l => bif decide (k = k') then (match asInts k l with | none => none | some r => some (n :: r)) else none
  | _ => none
def asBools : List SV → Option (List Bool)
  | [] => some []
  | .bool b :: l => match asBools l with | none => none | some r => some (b :: r)
  | _ => none

def wrc (i : Int) (s f : Nat) (v : SV) : Chunk → Option (Prop × Chunk)
  | .cells cs => match getL cs (i.toNat * s + f) with | none => none | some _ => bif size1 v then some (True, .cells (setL cs (i.toNat * s + f) v)) else none
  | .ints k xs => match s, f, v with
    | 1, 0, .int k' n => bif decide (k = k') then some (0 ≤ i ∧ i < xs.length, .ints k (xs.set i.toNat n)) else none
    | _, _, _ => none
  | .bools xs => match s, f, v with
    | 1, 0, .bool b => some (0 ≤ i ∧ i < xs.length, .bools (xs.set i.toNat b))
    | _, _, _ => none
  | .recs _ _ _ _ => none
def wrn (i : Int) (s f : Nat) (vs : List SV) : Chunk → Option (Prop × Chunk)
  | .cells cs => match takeL (dropL cs (i.toNat * s + f)) vs.length with | none => none | some _ => bif vs.all size1 then some (True, .cells (setsL cs (i.toNat * s + f) vs)) else none
  | .ints k xs => match s, f with
    | 0, 0 => match asInts k vs with | none => none | some ys => some (ys.length = xs.length, .ints k ys)
    | _, _ => none
  | _ => none
/-- A store into records. -/
def stR (look : Look) (nk : IntKind) (n : Nat) (i : Int) (s f s' : Nat) (z : List RC) (l : List (List RC)) (v : SV) : Option (Prop × List (List RC) × Upd × Bool) :=
  bif decide (s = s') && decide (f + n ≤ s) then (match recOf look nk n v with
    | none => none
    | some (p, r, u, fr) => bif decide (n = s) then some (p ∧ 0 ≤ i ∧ i < l.length, l.set i.toNat r, u, fr)
      else (match r with
        | [c] => some (p ∧ 0 ≤ i ∧ i < l.length, l.set i.toNat (setR (recAt i z l) f c), u, fr)
        | _ => none)) else none

def fillL : List SV → List (Nat × Nat × SV) → Option (List SV)
  | z, [] => some z
  | z, (off, size, v) :: ps => match cellsOf v with
    | none => none
    | some cs => bif decide (cs.length = size ∧ off + size ≤ z.length) then fillL (setsL z off cs) ps else none

def onps (sl : List Ent) : List (Nat × Nat × Opd) → (List (Nat × Nat × SV) → R) → R
  | [], f => f []
  | (o, s, a) :: as, f => o1 sl a fun v => onps sl as fun vs => f ((o, s, v) :: vs)

def rowOf : List SV → Option Chunk
  | .bool b :: l => match asBools (.bool b :: l) with | none => none | some r => some (.bools r)
  | .int k n :: l => match asInts k (.int k n :: l) with | none => none | some r => some (.ints k r)
  | [] => some (.ints .i64 [])
  | _ => none
def rowRep (z : SV) (n : Int) : Option Chunk :=
  match z with
  | .int k a => some (.ints k (List.replicate n.toNat a))
  | .bool b => some (.bools (List.replicate n.toNat b))
  | _ => none

def intOfs : List SV → Option (IntKind × List Int)
  | .int k n :: l => match asInts k (.int k n :: l) with | none => none | some r => some (k, r)
  | _ => none

/-- What append puts together. -/
def appCh : Chunk → Chunk → Option Chunk
  | .ints k xs, .ints k' ys => bif decide (k = k') then some (.ints k (xs ++ ys)) else (match xs with | [] => some (.ints k' ys) | _ => none)
  | .ints _ [], .bools ys => some (.bools ys)
  | .bools xs, .bools ys => some (.bools (xs ++ ys))
  | .recs s fr z l, .recs s' fr' _ l' => bif decide (s = s') then some (.recs s (fr && fr') z (l ++ l')) else none
  | _, _ => none
def chLen : Chunk → Option Int
  | .ints _ xs => some xs.length
  | .bools xs => some xs.length
  | .recs _ _ _ l => some l.length
  | .cells _ => none
/-- How many cells an element has. -/
def chS : Chunk → Nat
  | .recs s _ _ _ => s
  | _ => 1

/-- append: what has to hold, how long the result is, which chunk goes up in it, and what it holds. -/
def appO : Own → Own
  | .mine => .mine
  | _ => .got
def appF (es : Nat) (no : Lim) (look : Look) (u v : SV) : Option (Prop × Int × Option (Nat × Own) × Chunk) :=
  match u with
  | .sl c L _ lo n => match v with
    | .sl d M _ lo' m => match lkN no look d with
      | some (_, M', ch') => match chLen ch' with
        | some m' => bif decide (chS ch' = es) then (bif c == 4096 then some (L.nil = true ∧ lo = 0 ∧ n = 0 ∧ M' = M ∧ lo' = 0 ∧ m = m' ∧ m ≤ 1000000000000, m, none, ch') else (match lkN no look c with
          | some (own, L', ch) => match chLen ch, appCh ch ch', own.wr with
            | some n', some r, true => bif c == d || !(decide (chS ch = es)) then none else some (L' = L ∧ M' = M ∧ lo = 0 ∧ lo' = 0 ∧ n = n' ∧ m = m' ∧ n + m ≤ 1000000000000, n + m, some (c, appO own), r)
            | _, _, _ => none
          | _ => none)) else none
        | none => none
      | none => none
    | _ => none
  | _ => none

/-- A row over which a part is written. -/
def over (xs : List Int) (lo : Int) (ys : List Int) : List Int := xs.take lo.toNat ++ (ys ++ xs.drop (lo.toNat + ys.length))

def noRows : List RC → Bool
  | [] => true
  | .row _ _ _ :: _ => false
  | _ :: l => noRows l

def slcHi (len : Int) : Option SV → Option Int
  | none => some len
  | some (.int _ h) => some h
  | _ => none
def slcLo : Option SV → Option Int
  | none => some 0
  | some (.int _ l) => some l
  | _ => none
def o0 (sl : List Ent) (a : Option Opd) (f : Option SV → R) : R :=
  match a with
  | none => f none
  | some a => o1 sl a fun v => f (some v)

def lit0 (i : Int) : Bool := match i with | .ofNat 0 => true | _ => false

/-- Turns nothing but new chunks of n labels from k on. -/
def updIn (k n : Nat) : Upd → Bool
  | [] => true
  | (c, _) :: u => decide (k ≤ c) && decide (c < k + n) && updIn k n u

/-- A call: with n it only looks, and makes at most n chunks. -/
def spN (sp : Sp) (no : Lim) (x : Nat → Loc) (look : Look) (n : Option Nat) (k : Nat) (f : FuncId) (vs : List SV) : R :=
  match n with
  | none => sp f vs look x k
  | some n => match sp f vs (lkN no look) x k with
    | some (p, v, u) => bif updIn k n u then some (p, v, u) else none
    | none => none

def copyF (c : Nat) (L M : Loc) (lo n lo' mm : Int) : Option ME → Option ME → R
  | some (own, L', .ints k xs), some (_, M', .ints k' ys) => bif own.wr && decide (k = k') then some (L' = L ∧ M' = M ∧ 0 ≤ lo ∧ 0 ≤ n ∧ lo + n ≤ xs.length ∧ 0 ≤ lo' ∧ 0 ≤ mm ∧ lo' + mm ≤ ys.length, .int .i64 (min mm n), [(c, some (own, L', .ints k (over xs lo (sub ys lo' (min mm n)))))]) else none
  | _, _ => none

section
variable (sp : Sp) (spP : SpP) (no : Lim) (x : Nat → Loc) (sl : List Ent) (look : Look)
def stepF : IROp → R
  | .mov a => o1 sl a fun v => some (True, v, [])
  | .pick c a b => match en sl c, en sl a, en sl b with
    | some (cc, .bool g), some (ca, va), some (cb, vb) => match pickSV g va vb with
      | none => none
      | some v => some (cc = true ∧ (g = true → ca = true) ∧ (g = false → cb = true), v, [])
    | _, _, _ => none
  | .box k a => o1 sl a fun v => match cellsOf v with
    | none => none
    | some cs => some (True, .ptr k (x k) 0 0 0, [(k, some (.mine, x k, .cells cs))])
  | .alloc k z => some (True, .ptr k (x k) 0 0 0, [(k, some (.mine, x k, .cells z))])
  | .allocI k ik n => some (True, .ptr k ⟨(x k).b, (x k).o, false, n⟩ 0 0 0, [(k, some (.mine, ⟨(x k).b, (x k).o, false, n⟩, .ints ik (intsZ n)))])
  | .build z ps => onps sl ps fun vs => match fillL z vs with
    | none => none
    | some cs => some (True, .agg cs, [])
  | .bslice k ps => ons sl ps fun vs => match rowOf vs with
    | none => none
    | some ch => some (True, .sl k (x k) 1 0 vs.length, [(k, some (.mine, x k, ch))])
  | .brecs k s nk ps => ons sl ps fun vs => match recsOf (lkN no look) nk s vs with
    | none => none
    | some (p, l, u, fr) => some (p, .sl k (x k) s 0 vs.length, u ++ [(k, some (.mine, x k, .recs s fr [] l))])
  | .ld r n k nv a => o1 sl a fun v => match v with
    | .ptr c L i s f => match lkK r no look c with
      | some (_, L', .recs s' fr z l) => ldRec n k nv L L' i s f s' fr z l
      | some (_, L', ch) => match (match n with | none => rdc i s f ch | some n => rdn n i s f ch) with
        | none => none
        | some (p, v) => some (L' = L ∧ p, v, [])
      | none => none
    | _ => none
  | .sto r n nk a b => o1 sl a fun v => o1 sl b fun u => match v with
    | .ptr c L i s f => match lkK r no look c with
      | some (own, L', ch) => match own.wr with
        | false => none
        | true => match ch with
          | .recs s' fr z l => match stR (lkN no look) nk n i s f s' z l u with
            | none => none
            | some (p, l', d, fr') => some (L' = L ∧ p, .val undef, d ++ [(c, some (own, L', .recs s' (fr && fr') z l'))])
          | ch => match (match u with
            | .agg us => bif decide (us.length = n) then wrn i s f us ch else none
            | u => bif decide (n = 1) then wrc i s f u ch else none) with
          | none => none
          | some (p, ch') => some (L' = L ∧ p, .val undef, [(c, some (own, L', ch'))])
      | none => none
    | _ => none
  | .nilc a => o1 sl a fun v => match v with
    | .ptr c L i s f => some (True, .ptr c L i s f, [])
    | _ => none
  | .bin w op a b => o1 sl a fun u => o1 sl b fun v => upTo (binSV w op u v)
  | .binB op a b => o1 sl a fun u => o1 sl b fun v => upTo (binBSV op u v)
  | .binS op a b => o1 sl a fun u => o1 sl b fun v => upTo (binSSV op u v)
  | .binA op ks a b => o1 sl a fun u => o1 sl b fun v => upTo (binASV op ks u v)
  | .binN op a b => o1 sl a fun u => o1 sl b fun v => upTo (binNSV op u v)
  | .neg w a => o1 sl a fun v => upTo (negSV w v)
  | .not a => o1 sl a fun v => upTo (notSV v)
  | .cvt w k a => o1 sl a fun v => upTo (cvtSV w k v)
  | .mkf f cs => ons sl cs fun vs => some (True, .fn f vs, [])
  | .mks k z bytes l c => o1 sl l fun u => o1 sl c fun v => match u, v with
    | .int _ n, .int _ m => match rowRep z n with
      | none => none
      | some ch => some (0 ≤ n ∧ n ≤ m ∧ m ≤ 1000000000000, .sl k (x k) 1 0 n, [(k, some (.mine, x k, ch))])
    | _, _ => none
  | .mksR k z bytes l c => o1 sl l fun u => o1 sl c fun v => match u, v with
    | .int _ n, .int _ m => some (0 ≤ n ∧ n ≤ m ∧ m ≤ 1000000000, .sl k (x k) z.length 0 n, [(k, some (.mine, x k, .recs z.length true z (List.replicate n.toNat z)))])
    | _, _ => none
  | .slc a s lo hi => o1 sl a fun v => o0 sl lo fun l => o0 sl hi fun h => match v with
    | .sl c L s' lo0 len => match slcLo l, slcHi len h with
      | some l, some h => bif decide (s = s') then some (0 ≤ l ∧ l ≤ h ∧ h ≤ len, .sl c L s (lo0 + l) (h - l), []) else none
      | _, _ => none
    | _ => none
  | .slcA a n s => o1 sl a fun v => match v with
    | .ptr c L i 0 0 => some (L.nil = false ∧ L.cap = n, .sl c L s 0 n, [])
    | _ => none
  | .fld a off => o1 sl a fun v => match v with
    | .ptr c L i s f => some (True, .ptr c L i s (f + off), [])
    | _ => none
  | .fldv a off n => o1 sl a fun v => match v with
    | .agg cs => match n with
      | none => match getL cs off with | none => none | some v => some (True, v, [])
      | some n => match takeL (dropL cs off) n with | none => none | some l => some (True, .agg l, [])
    | _ => none
  | .idxS a b s => o1 sl a fun u => o1 sl b fun v => match u, v with
    | .sl c L s' lo len, .int _ i => bif decide (s = s') then some (0 ≤ i ∧ i < len, .ptr c L (lo + i) s 0, []) else none
    | _, _ => none
  | .idxP a b len s => o1 sl a fun u => o1 sl b fun v => match u, v with
    | .ptr c L i 0 f, .int _ j => some (0 ≤ j ∧ j < len, .ptr c L j s f, [])
    | _, _ => none
  | .idxV a b len => o1 sl a fun u => o1 sl b fun v => match u, v with
    | .agg cs, .int _ j => match intOfs cs with
      | some (k, xs) => bif decide (xs.length = len) then some (0 ≤ j ∧ j < len, .int k (rd xs j), []) else none
      | none => none
    | _, _ => none
  | .ext a i => o1 sl a fun v => match v with
    | .tup cs => match getL cs i with | none => none | some v => some (True, v, [])
    | _ => none
  | .len a => o1 sl a fun v => match v with
    | .sl _ _ _ _ n => some (True, .int .i64 n, [])
    | _ => none
  | .lenK n => some (True, .int .i64 n, [])
  | .app k es bytes a b => o1 sl a fun u => o1 sl b fun v => match appF es no look u v with
    | none => none
    | some (p, n, none, ch) => some (p, .sl k (x k) es 0 n, [(k, some (.mine, x k, ch))])
    | some (p, n, some (c, own), ch) => some (p, .sl k (x k) es 0 n, [(c, none), (k, some (own, x k, ch))])
  | .copy a b => o1 sl a fun u => o1 sl b fun v => match u, v with
    | .sl c L s lo n, .sl d M s' lo' m => bif decide (s = 1) && decide (s' = 1) then copyF c L M lo n lo' m (lkN no look c) (lkN no look d) else none
    | _, _ => none
  | .clear z a => o1 sl a fun u => match u with
    | .sl c L s lo n => match lkN no look c with
      | some (own, L', .recs s' fr z' l) => match own.wr with
        | false => none
        | true => bif decide (s = s') && noRows z && decide (z.length = s) then some (L' = L ∧ 0 ≤ lo ∧ 0 ≤ n ∧ lo + n = l.length, .tup [], [(c, some (own, L', .recs s' fr z' (l.take lo.toNat ++ List.replicate n.toNat z)))]) else none
      | _ => none
    | _ => none
  | .mn a b => o1 sl a fun u => o1 sl b fun v => match u, v with
    | .int k n, .int _ m => some (True, .int k (min n m), [])
    | _, _ => none
  | .mx a b => o1 sl a fun u => o1 sl b fun v => match u, v with
    | .int k n, .int _ m => some (True, .int k (max n m), [])
    | _, _ => none
  | .mn3 a b c => o1 sl a fun u => o1 sl b fun v => o1 sl c fun w => match u, v, w with
    | .int k n, .int _ m, .int _ o => some (True, .int k (min (min n m) o), [])
    | _, _, _ => none
  | .mx3 a b c => o1 sl a fun u => o1 sl b fun v => o1 sl c fun w => match u, v, w with
    | .int k n, .int _ m, .int _ o => some (True, .int k (max (max n m) o), [])
    | _, _, _ => none
  | .callp f as => ons sl as fun vs => upTo (spP f vs)
  | .call n k f as => ons sl as fun vs => spN sp no x look n k f vs
  | .callv n k g as => o1 sl g fun v => ons sl as fun vs => match v with
    | .fn f cs => spN sp no x look n k f (vs ++ cs)
    | _ => none
end

def apU (m : Mem) : Upd → Mem
  | [] => m
  | (c, e) :: u => apU (st m c e) u

def putE (sl : List Ent) (d : Option Nat) (e : Ent) : List Ent :=
  match d with
  | none => sl
  | some d => st sl d e

/-- Does the operation make chunks, so that where they lie is anybody's choice? -/
def IROp.makes : IROp → Bool
  | .box .. | .alloc .. | .allocI .. | .bslice .. | .brecs .. | .mks .. | .mksR .. | .app .. | .call .. | .callv .. => true
  | _ => false

def guardOf (sl : List Ent) : Option (Nat × Bool) → Option Bool
  | none => some true
  | some (g, pol) => match lk sl g with
    | some (c, .bool b) => some (bif pol then (c && b) else (c && !b))
    | _ => none

def stepK (sp : Sp) (spP : SpP) (o : IRO) (g : Bool) (x : Nat → Loc) (sl : List Ent) (m : Mem) (K : List Ent → Mem → Prop) : Prop :=
  match stepF sp spP o.no x sl (lk m) o.op with
  | none => False
  | some (p, v, u) => (g = true → p) ∧ (g = true ∨ u = []) ∧ K (putE sl o.dst (some (g, v))) (apU m u)

/-- One operation of a region. -/
def evO (sp : Sp) (spP : SpP) (o : IRO) (sl : List Ent) (m : Mem) (K : List Ent → Mem → Prop) : Prop :=
  match guardOf sl o.guard with
  | none => False
  | some g => bif o.op.makes then ∀ x, stepK sp spP o g x sl m K else stepK sp spP o g (fun _ => default) sl m K

def evR (sp : Sp) (spP : SpP) : List IRO → List Ent → Mem → (List Ent → Mem → Prop) → Prop
  | [], sl, m, K => K sl m
  | o :: os, sl, m, K => evO sp spP o sl m fun sl m => evR sp spP os sl m K

end Go.Proofs.Ytnmbimhcfioeiaa.Xf
