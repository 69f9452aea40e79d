import Derived.Orders
import Derived.Below
import Derived.KernelRfl
set_option linter.unusedVariables false
set_option linter.unusedSimpArgs false
/-! Xf, part a: symbolic values, chunks of memory, and what it means that a world meets them. -/
namespace Go.Proofs.Ytnmbimhcfioeiaa.Xf

/-- Where a row of cells begins; of a slice also whether it is nil, and its capacity. -/
structure Loc where
  b : Nat
  o : Nat
  nil : Bool
  cap : Nat
  deriving Inhabited

def nilLoc0 : Loc := ⟨0, 0, true, 0⟩
def Loc.ad (L : Loc) (k : Nat) : Addr := ⟨L.b, L.o + k, none⟩

/-- A symbolic value. The first number of ptr and sl is a label: where the chunk stands in the symbolic memory. -/
inductive SV where
  | int (k : IntKind) (n : Int)
  | bool (b : Bool)
  | ptr (c : Nat) (L : Loc) (i : Int) (s f : Nat)
  | sl (c : Nat) (L : Loc) (s : Nat) (lo len : Int)
  | agg (cs : List SV)
  | tup (cs : List SV)
  | fn (f : FuncId) (cs : List SV)
  | val (v : Value)
  deriving Inhabited

mutual
def Den : SV → Value → Prop
  | .int k n, v => v = .int k n
  | .bool b, v => v = .bool b
  | .ptr _ L i s f, v => v = .pointer (some (L.ad (i.toNat * s + f)))
  | .sl _ L s lo len, v => 0 ≤ lo ∧ 0 ≤ len ∧ lo + len ≤ L.cap ∧ (L.nil = true → L.cap = 0) ∧ ∃ A : Option Addr, v = .slice A len.toNat (L.cap - lo.toNat) ∧ A.isNone = L.nil ∧
      (L.cap - lo.toNat ≠ 0 → A = if L.nil then none else some (L.ad (lo.toNat * s)))
  | .agg cs, v => ∃ vs : List Value, v = .agg vs.toArray ∧ Dens cs vs
  | .tup cs, v => ∃ vs : List Value, v = .tuple vs.toArray ∧ Dens cs vs
  | .fn f cs, v => ∃ vs : List Value, v = .func (.func f) #[] vs.toArray ∧ Dens cs vs
  | .val x, v => v = x
def Dens : List SV → List Value → Prop
  | [], vs => vs = []
  | c :: cs, vs => ∃ v vs', vs = v :: vs' ∧ Den c v ∧ Dens cs vs'
end

theorem Dens.length : ∀ {cs : List SV} {vs : List Value}, Dens cs vs → vs.length = cs.length
  | [], vs, h => by simp [Dens] at h; simp [h]
  | c :: cs, vs, h => by
    simp only [Dens] at h
    obtain ⟨v, vs', rfl, _, h⟩ := h
    simp [Dens.length h]

theorem Dens.get : ∀ {cs : List SV} {vs : List Value}, Dens cs vs → ∀ {i : Nat} {c : SV}, cs[i]? = some c → ∃ v, vs[i]? = some v ∧ Den c v
  | [], vs, h, i, c, hc => by simp at hc
  | c :: cs, vs, h, i, d, hc => by
    simp only [Dens] at h
    obtain ⟨v, vs', rfl, hv, h⟩ := h
    cases i with
    | zero => simp at hc; subst hc; exact ⟨v, by simp, hv⟩
    | succ i => simp at hc; simpa using Dens.get h hc

theorem Dens.of_get : ∀ {cs : List SV} {vs : List Value}, vs.length = cs.length → (∀ (i : Nat) (c : SV) (v : Value), cs[i]? = some c → vs[i]? = some v → Den c v) → Dens cs vs
  | [], vs, h, _ => by simpa [Dens] using h
  | c :: cs, [], h, _ => by simp at h
  | c :: cs, v :: vs, h, H => by
    simp only [Dens]
    exact ⟨v, vs, rfl, H 0 c v (by simp) (by simp), Dens.of_get (by simpa using h) fun i c v hc hv => H (i + 1) c v (by simpa using hc) (by simpa using hv)⟩

theorem Dens.append {cs ds : List SV} {vs us : List Value} (h : Dens cs vs) (k : Dens ds us) : Dens (cs ++ ds) (vs ++ us) := by
  induction cs generalizing vs with
  | nil => simp only [Dens] at h; subst h; simpa using k
  | cons c cs ih =>
    simp only [Dens] at h
    obtain ⟨v, vs', rfl, hv, h⟩ := h
    simp only [List.cons_append, Dens]
    exact ⟨v, vs' ++ us, rfl, hv, ih h⟩

/-- Whose a chunk is: only read; made by this call and only read from now on; made by this call; handed over for writing; either of the two. -/
inductive Own where
  | ro | rof | mine | lent | got
  deriving DecidableEq

def Own.wr : Own → Bool
  | .ro => false
  | .rof => false
  | _ => true

/-- A cell of a record: a number, a truth, or a row of numbers that nobody writes any more. -/
inductive RC where
  | int (k : IntKind) (n : Int)
  | bool (b : Bool)
  | row (L : Loc) (k : IntKind) (xs : List Int)
  deriving Inhabited

def RC.sv : RC → SV
  | .int k n => .int k n
  | .bool b => .bool b
  | .row L _ xs => .sl 4095 L 1 0 xs.length

/-- What stands in a chunk. recs: records of s cells each; fr: all their rows are made by this call; z is what is read beyond them. -/
inductive Chunk where
  | ints (k : IntKind) (xs : List Int)
  | bools (xs : List Bool)
  | cells (cs : List SV)
  | recs (s : Nat) (fr : Bool) (z : List RC) (l : List (List RC))

def rd (xs : List Int) (i : Int) : Int := xs.getD i.toNat 0
def rdB (xs : List Bool) (i : Int) : Bool := xs.getD i.toNat false

def Chunk.len : Chunk → Nat
  | .ints _ xs => xs.length
  | .bools xs => xs.length
  | .cells cs => cs.length
  | .recs s _ _ l => l.length * s

def rcAt (l : List (List RC)) (s o : Nat) : RC := (l.getD (o / s) []).getD (o % s) (.int .i64 0)

def Chunk.cell : Chunk → Nat → SV
  | .ints k xs, o => .int k (xs.getD o 0)
  | .bools xs, o => .bool (xs.getD o false)
  | .cells cs, o => cs.getD o (.val undef)
  | .recs s _ _ l, o => (rcAt l s o).sv

/-- How many cells belong to it. -/
def Chunk.ext (L : Loc) : Chunk → Nat
  | .ints _ _ => L.cap
  | .bools _ => L.cap
  | .cells cs => cs.length
  | .recs s _ _ _ => L.cap * s

def Chunk.fits (L : Loc) : Chunk → Prop
  | .ints _ xs => xs.length ≤ L.cap ∧ (L.nil = true → L.cap = 0)
  | .bools xs => xs.length ≤ L.cap ∧ (L.nil = true → L.cap = 0)
  | .cells _ => L.nil = false
  | .recs s _ _ l => l.length ≤ L.cap ∧ (L.nil = true → L.cap = 0) ∧ 0 < s ∧ ∀ r ∈ l, r.length = s

/-- The rows that the records show. -/
def Chunk.rows : Chunk → Loc → IntKind → List Int → Prop
  | .recs _ _ _ l, L, k, xs => ∃ r ∈ l, RC.row L k xs ∈ r
  | _, _, _, _ => False

def Chunk.fr : Chunk → Bool
  | .recs _ fr _ _ => fr
  | _ => true

abbrev ME := Own × Loc × Chunk
abbrev Mem := List (Option ME)

def lk {α : Type} : List (Option α) → Nat → Option α
  | [], _ => none
  | a :: _, 0 => a
  | _ :: l, n + 1 => lk l n
def st {α : Type} : List (Option α) → Nat → Option α → List (Option α)
  | [], _, _ => []
  | _ :: l, 0, x => x :: l
  | a :: l, n + 1, x => a :: st l n x

theorem lk_eq {α : Type} : ∀ (l : List (Option α)) (n : Nat), lk l n = (l[n]?).getD none
  | [], n => by simp [lk]
  | a :: l, 0 => by simp [lk]
  | a :: l, n + 1 => by simp [lk, lk_eq l n]
theorem st_length {α : Type} : ∀ (l : List (Option α)) (n : Nat) (x : Option α), (st l n x).length = l.length
  | [], n, x => by simp [st]
  | a :: l, 0, x => by simp [st]
  | a :: l, n + 1, x => by simp [st, st_length l n]
theorem lk_st {α : Type} : ∀ (l : List (Option α)) (n m : Nat) (x : Option α), lk (st l n x) m = if n = m ∧ n < l.length then x else lk l m
  | [], n, m, x => by simp [st, lk]
  | a :: l, 0, 0, x => by simp [st, lk]
  | a :: l, 0, m + 1, x => by simp [st, lk]
  | a :: l, n + 1, 0, x => by simp [st, lk]
  | a :: l, n + 1, m + 1, x => by simp [st, lk, lk_st l n m x]
theorem lk_st_ne {α : Type} {l : List (Option α)} {n m : Nat} {x : Option α} (h : n ≠ m) : lk (st l n x) m = lk l m := by simp [lk_st, h]
theorem lk_lt {α : Type} : ∀ {l : List (Option α)} {n : Nat} {x : α}, lk l n = some x → n < l.length
  | [], n, x, h => by simp [lk] at h
  | a :: l, 0, x, h => by simp
  | a :: l, n + 1, x, h => by simp [lk] at h; simpa using lk_lt h
theorem st_comm {α : Type} : ∀ (l : List (Option α)) (n m : Nat) (x y : Option α), n ≠ m → st (st l n x) m y = st (st l m y) n x
  | [], n, m, x, y, h => by simp [st]
  | a :: l, 0, 0, x, y, h => by simp at h
  | a :: l, 0, m + 1, x, y, h => by simp [st]
  | a :: l, n + 1, 0, x, y, h => by simp [st]
  | a :: l, n + 1, m + 1, x, y, h => by simp [st, st_comm l n m x y (by omega)]

def reg (e : ME) : Nat := bif e.1.wr then e.2.2.ext e.2.1 else e.2.2.len

/-- What may be written of it, and what it stands on. -/
def wf (e : ME) (a : Addr) : Prop := e.1.wr = true ∧ ∃ o, o < e.2.2.ext e.2.1 ∧ a = e.2.1.ad o
def rows (ch : Chunk) (a : Addr) : Prop := ∃ L k xs, ch.rows L k xs ∧ ∃ o, o < xs.length ∧ a = L.ad o
def rf (e : ME) (a : Addr) : Prop := (∃ o, o < reg e ∧ a = e.2.1.ad o) ∨ rows e.2.2 a

/-- Where its cells lie. w0 is the world in which the call began, W what it may write of that. -/
def homeOk (w0 : World) (W : Addr → Prop) (own : Own) (a : Addr) : Prop :=
  match own with
  | .ro => True
  | .rof => w0.heap.size ≤ a.block
  | .mine => w0.heap.size ≤ a.block
  | .lent => W a
  | .got => w0.heap.size ≤ a.block ∨ W a

theorem homeOk.got {w0 : World} {W : Addr → Prop} {own : Own} {a : Addr} (h : homeOk w0 W own a) (ho : own.wr = true) : w0.heap.size ≤ a.block ∨ W a := by
  cases own
  · cases ho
  · cases ho
  · exact .inl h
  · exact .inr h
  · exact h

/-- One chunk stands in the world. -/
structure ChunkSat (w0 : World) (W : Addr → Prop) (e : ME) (w : World) : Prop where
  cell : ∀ o, o < e.2.2.len → ∃ v, w.cell? (e.2.1.ad o) = some v ∧ Den (e.2.2.cell o) v
  row : ∀ L k xs, e.2.2.rows L k xs → xs.length ≤ L.cap ∧ (L.nil = true → L.cap = 0) ∧ (∀ o, o < xs.length → w.cell? (L.ad o) = some (.int k (xs.getD o 0))) ∧ (e.2.2.fr = true → 0 < xs.length → w0.heap.size ≤ L.b)
  self : ∀ a, wf e a → ¬ rows e.2.2 a
  mineW : e.1.wr = true → ∀ o, o < e.2.2.ext e.2.1 → (w.cell? (e.2.1.ad o)).isSome = true ∧ w.frozen? (e.2.1.ad o) = false
  fits : e.2.2.fits e.2.1
  home : ∀ o, o < reg e → homeOk w0 W e.1 (e.2.1.ad o)

structure MemSat (w0 : World) (W : Addr → Prop) (m : Mem) (w : World) : Prop where
  chunk : ∀ c e, lk m c = some e → ChunkSat w0 W e w
  sep : ∀ c d e f, c ≠ d → lk m c = some e → lk m d = some f → ∀ a, wf e a → ¬ rf f a

/-- Nothing that was there has turned but what W tells. -/
structure Kept (w0 : World) (W : Addr → Prop) (w : World) : Prop where
  os : w.os = w0.os
  tape : w.tape = w0.tape
  output : w.output = w0.output
  size : w0.heap.size ≤ w.heap.size
  cell : ∀ a, a.block < w0.heap.size → ¬ W a → w.cell? a = w0.cell? a
  frozen : ∀ a, a.block < w0.heap.size → w.frozen? a = w0.frozen? a
  block : ∀ b, b < w0.heap.size → (∀ o, ¬ W ⟨b, o, none⟩) → w.heap[b]? = w0.heap[b]?

theorem Kept.refl (w : World) (W : Addr → Prop) : Kept w W w := ⟨rfl, rfl, rfl, Nat.le_refl _, fun _ _ _ => rfl, fun _ _ => rfl, fun _ _ _ => rfl⟩
theorem Kept.trans {w0 w1 w2 : World} {W W' : Addr → Prop} (h : Kept w0 W w1) (k : Kept w1 W' w2) (hW : ∀ a, W' a → a.block < w0.heap.size → W a) : Kept w0 W w2 where
  os := k.os.trans h.os
  tape := k.tape.trans h.tape
  output := k.output.trans h.output
  size := Nat.le_trans h.size k.size
  cell a ha hn := (k.cell a (Nat.lt_of_lt_of_le ha h.size) fun hw => hn (hW a hw ha)).trans (h.cell a ha hn)
  frozen a ha := (k.frozen a (Nat.lt_of_lt_of_le ha h.size)).trans (h.frozen a ha)
  block b hb hn := (k.block b (Nat.lt_of_lt_of_le hb h.size) fun o hw => hn o (hW _ hw hb)).trans (h.block b hb hn)
theorem Kept.mono {w0 w : World} {W W' : Addr → Prop} (h : Kept w0 W w) (hW : ∀ a, W a → W' a) : Kept w0 W' w :=
  (Kept.refl w0 W').trans h fun a ha _ => hW a ha
theorem Kept.below {w0 w : World} (h : Kept w0 (fun _ => False) w) : RowKit.Below w0.heap.size w0 w :=
  ⟨h.os, h.tape, h.output, h.size, fun b hb => h.block b hb fun _ h => h⟩
theorem Kept.of_below {w0 w : World} (h : RowKit.Below w0.heap.size w0 w) (W : Addr → Prop) : Kept w0 W w :=
  ⟨h.os, h.tape, h.output, h.size, fun a ha _ => h.cell ha, fun a ha => h.frozen ha, fun b hb _ => h.block b hb⟩
theorem Kept.alloc (w : World) (o : Obj) (W : Addr → Prop) : Kept w W (w.alloc o) :=
  Kept.of_below ((RowKit.Below.refl _ _).alloc (Nat.le_refl _) _) W
theorem Kept.drew (w : World) (W : Addr → Prop) : Kept w W w.drew := Kept.of_below (RowKit.Below.refl _ _).drew W
theorem Kept.setCell (w : World) (a : Addr) (v : Value) (ha : a.spot = none) : Kept w (fun x => x = a) (w.setCell a v) where
  os := rfl
  tape := rfl
  output := rfl
  size := by simp
  cell b _ hn := World.cell?_setCell_other w a b v (fun e => hn e.symm)
  frozen b _ := by simp
  block b _ hn := RowKit.Below.heap_setCell w a v b (fun e => hn a.off (by cases a; simp_all))

theorem ad_ne_of_size {w : World} {L M : Loc} {i j : Nat} {v : Value} (h : w.cell? (L.ad i) = some v) (hM : w.heap.size ≤ M.b) : L.ad i ≠ M.ad j := by
  intro e
  have := World.block_lt_of_cell? _ _ h
  have e2 : L.b = M.b := by simpa [Loc.ad] using congrArg Addr.block e
  simp [Loc.ad] at this
  omega

theorem reg_eq {own : Own} {L : Loc} {ch : Chunk} (h : own.wr = true) : reg (own, L, ch) = ch.ext L := by simp [reg, h]

theorem Chunk.len_le_ext {L : Loc} {ch : Chunk} (h : ch.fits L) : ch.len ≤ ch.ext L := by
  cases ch <;> simp only [Chunk.fits] at h <;> simp only [Chunk.len, Chunk.ext]
  · exact h.1
  · exact h.1
  · exact Nat.le_refl _
  · exact Nat.mul_le_mul_right _ h.1

theorem Chunk.len_le_reg {w0 : World} {W : Addr → Prop} {e : ME} {w : World} (h : ChunkSat w0 W e w) : e.2.2.len ≤ reg e := by
  obtain ⟨own, L, ch⟩ := e
  have := Chunk.len_le_ext h.fits
  unfold reg
  cases own.wr
  · exact Nat.le_refl _
  · exact this

/-- A chunk whose cells are as they were is as it was. -/
theorem ChunkSat.keep {w0 : World} {W : Addr → Prop} {e : ME} {w w' : World} (h : ChunkSat w0 W e w)
    (hc : ∀ a, rf e a → w'.cell? a = w.cell? a) (hf : ∀ a, a.block < w.heap.size → w'.frozen? a = w.frozen? a) : ChunkSat w0 W e w' := by
  obtain ⟨own, L, ch⟩ := e
  have hle := Chunk.len_le_reg h
  refine ⟨fun o ho => ?_, fun L' k xs hr => ?_, h.self, fun hne o ho => ?_, h.fits, h.home⟩
  · obtain ⟨v, hv, hd⟩ := h.cell o ho
    refine ⟨v, ?_, hd⟩
    rw [← hv]
    exact hc _ (.inl ⟨o, Nat.lt_of_lt_of_le ho hle, rfl⟩)
  · obtain ⟨h1, h2, h3, h4⟩ := h.row L' k xs hr
    refine ⟨h1, h2, fun o ho => ?_, h4⟩
    rw [hc _ (.inr ⟨L', k, xs, hr, o, ho, rfl⟩)]
    exact h3 o ho
  · have := h.mineW hne o ho
    obtain ⟨v, hv⟩ := Option.isSome_iff_exists.1 this.1
    exact ⟨by rw [hc _ (.inl ⟨o, by rw [reg_eq hne]; exact ho, rfl⟩)]; exact this.1, by rw [hf _ (World.block_lt_of_cell? _ _ hv)]; exact this.2⟩

theorem ChunkSat.regSome {w0 : World} {W : Addr → Prop} {e : ME} {w : World} (h : ChunkSat w0 W e w) {a : Addr} (ha : rf e a) : ∃ v, w.cell? a = some v := by
  obtain ⟨own, L, ch⟩ := e
  rcases ha with ⟨o, ho, rfl⟩ | ⟨L', k, xs, hr, o, ho, rfl⟩
  · cases hw : own.wr with
    | false => obtain ⟨v, hv, _⟩ := h.cell o (by simpa [reg, hw] using ho); exact ⟨v, hv⟩
    | true => exact Option.isSome_iff_exists.1 (h.mineW hw o (by simpa [reg, hw] using ho)).1
  · exact ⟨_, (h.row L' k xs hr).2.2.1 o ho⟩

theorem wf_rf {e : ME} {a : Addr} (h : wf e a) : rf e a := by
  obtain ⟨own, L, ch⟩ := e
  obtain ⟨h1, o, h2, h3⟩ := h
  exact .inl ⟨o, by rw [reg_eq h1]; exact h2, h3⟩

/-- Anything that keeps all cells that there are (a draw, a new block) keeps the memory. -/
theorem MemSat.keep {w0 : World} {W : Addr → Prop} {m : Mem} {w w' : World} (h : MemSat w0 W m w)
    (hc : ∀ a v, w.cell? a = some v → w'.cell? a = some v) (hf : ∀ a, a.block < w.heap.size → w'.frozen? a = w.frozen? a) : MemSat w0 W m w' := by
  refine ⟨fun c e he => (h.chunk c e he).keep (fun a ha => ?_) hf, h.sep⟩
  obtain ⟨v, hv⟩ := (h.chunk c e he).regSome ha
  rw [hv, hc _ _ hv]

theorem MemSat.alloc {w0 : World} {W : Addr → Prop} {m : Mem} {w : World} (h : MemSat w0 W m w) (o : Obj) : MemSat w0 W m (w.alloc o) :=
  h.keep (fun a v hv => by rw [World.cell?_alloc_lt w o a (World.block_lt_of_cell? _ _ hv)]; exact hv) (fun a ha => World.frozen?_alloc_old w o a (Nat.ne_of_lt ha))
theorem MemSat.drew {w0 : World} {W : Addr → Prop} {m : Mem} {w : World} (h : MemSat w0 W m w) : MemSat w0 W m w.drew :=
  h.keep (fun a v hv => by simpa using hv) (fun a ha => by simp)

/-- Fewer chunks. -/
theorem MemSat.sub {w0 : World} {W : Addr → Prop} {m m' : Mem} {w : World} (h : MemSat w0 W m w) (hs : ∀ c e, lk m' c = some e → lk m c = some e) : MemSat w0 W m' w :=
  ⟨fun c e he => h.chunk c e (hs c e he), fun c d e f hn he hf => h.sep c d e f hn (hs c e he) (hs d f hf)⟩

theorem MemSat.forget {w0 : World} {W : Addr → Prop} {m : Mem} {w : World} (h : MemSat w0 W m w) (c : Nat) : MemSat w0 W (st m c none) w :=
  h.sub fun d e he => by
    rw [lk_st] at he
    split at he
    · cases he
    · exact he

/-- A chunk in a place of the list, that stands apart from the others. -/
theorem MemSat.put {w0 : World} {W : Addr → Prop} {m : Mem} {w : World} (h : MemSat w0 W m w) (c : Nat) (e : ME) (he : ChunkSat w0 W e w)
    (hs : ∀ d f, d ≠ c → lk m d = some f → ∀ a, (wf e a → ¬ rf f a) ∧ (wf f a → ¬ rf e a)) : MemSat w0 W (st m c (some e)) w := by
  refine ⟨fun d f hf => ?_, fun d d' f f' hn hf hf' a ho => ?_⟩
  · rw [lk_st] at hf
    split at hf
    · cases hf; exact he
    · exact h.chunk d f hf
  · rw [lk_st] at hf hf'
    split at hf
    · rename_i h1
      cases hf
      split at hf'
      · rename_i h2; exact absurd (h1.1.symm.trans h2.1) hn
      · exact (hs d' f' (fun x => hn (h1.1.symm.trans x.symm)) hf' a).1 ho
    · split at hf'
      · rename_i h1 h2
        cases hf'
        exact (hs d f (fun x => hn (x.trans h2.1)) hf a).2 ho
      · exact h.sep d d' f f' hn hf hf' a ho

theorem st_st (m : Mem) (c : Nat) (x y : Option ME) : st (st m c x) c y = st m c y := by
  have : ∀ (l : Mem) (n : Nat), st (st l n x) n y = st l n y := by
    intro l
    induction l with
    | nil => intro n; simp [st]
    | cons a l ih => intro n; cases n <;> simp [st, ih]
  exact this _ _

/-- A chunk is put in the place of another one that it stands on no more than. -/
theorem MemSat.turn {w0 : World} {W : Addr → Prop} {m : Mem} {w : World} (h : MemSat w0 W m w) {c : Nat} {e e' : ME} (hc : lk m c = some e) (he : ChunkSat w0 W e' w)
    (hw : ∀ a, wf e' a → wf e a) (hr : ∀ a, rf e' a → rf e a) : MemSat w0 W (st m c (some e')) w := by
  have h1 := (h.forget c).put c e' he (fun d f hd hf a => by
    rw [lk_st_ne (Ne.symm hd)] at hf
    exact ⟨fun ha => h.sep c d e f (Ne.symm hd) hc hf a (hw a ha), fun ha hra => h.sep d c f e hd hf hc a ha (hr a hra)⟩)
  rwa [st_st] at h1

/-- A row that is shown: what it holds stands, and nobody may write it; fr: it is made by this call. -/
structure Shown (w0 : World) (fr : Bool) (m : Mem) (w : World) (L : Loc) (k : IntKind) (xs : List Int) : Prop where
  cap : xs.length ≤ L.cap
  nil : L.nil = true → L.cap = 0
  cell : ∀ o, o < xs.length → w.cell? (L.ad o) = some (.int k (xs.getD o 0))
  far : ∀ d f, lk m d = some f → ∀ o, o < xs.length → ¬ wf f (L.ad o)
  fresh : fr = true → 0 < xs.length → w0.heap.size ≤ L.b

theorem Shown.le {w0 : World} {fr fr' : Bool} {m : Mem} {w : World} {L : Loc} {k : IntKind} {xs : List Int} (h : Shown w0 fr m w L k xs) (hf : fr' = true → fr = true) : Shown w0 fr' m w L k xs :=
  ⟨h.cap, h.nil, h.cell, h.far, fun h1 h2 => h.fresh (hf h1) h2⟩

theorem shown_row {w0 : World} {W : Addr → Prop} {m : Mem} {w : World} (hm : MemSat w0 W m w) {c : Nat} {e : ME} (hc : lk m c = some e) {L : Loc} {k : IntKind} {xs : List Int} (hr : e.2.2.rows L k xs) : Shown w0 e.2.2.fr m w L k xs := by
  obtain ⟨h1, h2, h3, h4⟩ := (hm.chunk c e hc).row L k xs hr
  refine ⟨h1, h2, h3, fun d f hf o ho hw => ?_, h4⟩
  have hrow : rows e.2.2 (L.ad o) := ⟨L, k, xs, hr, o, ho, rfl⟩
  by_cases hdc : d = c
  · subst hdc
    rw [hc] at hf; cases hf
    exact (hm.chunk d e hc).self _ hw hrow
  · exact hm.sep d c f e hdc hf hc _ hw (.inr hrow)
theorem shown_nil {w0 : World} {fr : Bool} {m : Mem} {w : World} (k : IntKind) : Shown w0 fr m w nilLoc0 k [] := ⟨by simp, by simp [nilLoc0], by simp, by simp, by simp⟩

/-- A cell of a chunk is written. -/
theorem MemSat.write {w0 : World} {W : Addr → Prop} {m : Mem} {w : World} (h : MemSat w0 W m w) {c : Nat} {own : Own} {L : Loc} {ch ch' : Chunk}
    (hc : lk m c = some (own, L, ch)) (ho : own.wr = true) {o : Nat} (hlt : o < ch.len) {v : Value} {sv : SV} (hv : Den sv v)
    (hlen : ch'.len = ch.len) (hext : ch'.ext L = ch.ext L) (hfit : ch'.fits L) (hcell : ∀ i, i < ch.len → ch'.cell i = if i = o then sv else ch.cell i)
    (hrow : ∀ L' k xs, ch'.rows L' k xs → Shown w0 ch'.fr m w L' k xs) :
    (w.cell? (L.ad o)).isSome = true ∧ w.frozen? (L.ad o) = false ∧ MemSat w0 W (st m c (some (own, L, ch'))) (w.setCell (L.ad o) v) ∧ wf (own, L, ch) (L.ad o) := by
  have hk := h.chunk c _ hc
  have hle := Chunk.len_le_reg hk
  rw [reg_eq ho] at hle
  have hmw := hk.mineW ho o (Nat.lt_of_lt_of_le hlt hle)
  obtain ⟨u, hu⟩ := Option.isSome_iff_exists.1 hmw.1
  have hwo : wf (own, L, ch) (L.ad o) := ⟨ho, o, Nat.lt_of_lt_of_le hlt hle, rfl⟩
  refine ⟨hmw.1, hmw.2, ?_, hwo⟩
  have hself : ∀ i, i < ch.ext L → i ≠ o → (w.setCell (L.ad o) v).cell? (L.ad i) = w.cell? (L.ad i) := fun i hi hne =>
    World.cell?_setCell_other _ _ _ _ (fun e => hne (by simp [Loc.ad] at e; omega))
  have hww : ∀ a, wf (own, L, ch') a → wf (own, L, ch) a := fun a ⟨_, i, hi, e⟩ => ⟨ho, i, by simpa [hext] using hi, e⟩
  have hnew : ChunkSat w0 W (own, L, ch') (w.setCell (L.ad o) v) := by
    refine ⟨fun i hi => ?_, fun L' k xs hr => ?_, fun a ha ⟨L', k, xs, hr, i, hi, e⟩ => ?_, fun _ i hi => ?_, hfit, fun i hi => hk.home i (by rw [reg_eq ho] at hi ⊢; simpa [hext] using hi)⟩
    · simp only [hlen] at hi
      simp only [hcell i hi]
      by_cases hio : i = o
      · subst hio
        exact ⟨v, World.cell?_setCell_same _ _ _ hu, by simpa using hv⟩
      · obtain ⟨v', hv', hd⟩ := hk.cell i hi
        exact ⟨v', by rw [hself i (Nat.lt_of_lt_of_le hi hle) hio]; exact hv', by simpa [hio] using hd⟩
    · have hs := hrow _ _ _ hr
      refine ⟨hs.cap, hs.nil, fun i hi => ?_, hs.fresh⟩
      rw [World.cell?_setCell_other _ _ _ _ (fun (e : L.ad o = L'.ad i) => hs.far c _ hc i hi (e ▸ hwo))]
      exact hs.cell i hi
    · exact (hrow _ _ _ hr).far c _ hc i hi (e ▸ hww a ha)
    · simp only [hext] at hi
      have := hk.mineW ho i hi
      refine ⟨?_, by simpa using this.2⟩
      by_cases hio : i = o
      · subst hio; simp only [World.cell?_setCell_same _ _ _ hu]; rfl
      · simp only [hself i hi hio]; exact this.1
  have hrest : MemSat w0 W (st m c none) (w.setCell (L.ad o) v) := by
    refine ⟨fun d f hf => ?_, (h.forget c).sep⟩
    rw [lk_st] at hf
    have hdc : d ≠ c := by
      intro e
      subst e
      rw [if_pos ⟨rfl, lk_lt hc⟩] at hf
      cases hf
    rw [if_neg (fun e => hdc e.1.symm)] at hf
    refine (h.chunk d f hf).keep (fun a ha => ?_) (fun a _ => by simp)
    exact World.cell?_setCell_other _ _ _ _ (fun e => h.sep c d _ f (Ne.symm hdc) hc hf _ hwo (e ▸ ha))
  have := hrest.put c (own, L, ch') hnew (fun d f hdc hf a => by
    rw [lk_st_ne (Ne.symm hdc)] at hf
    refine ⟨fun ha => h.sep c d _ f (Ne.symm hdc) hc hf a (hww a ha), fun ha hra => ?_⟩
    rcases hra with ⟨i, hi, e⟩ | ⟨L', k, xs, hr, i, hi, e⟩
    · refine h.sep d c f _ hdc hf hc a ha (.inl ⟨i, ?_, e⟩)
      rw [reg_eq ho] at hi ⊢; simpa [hext] using hi
    · exact (hrow _ _ _ hr).far d f hf i hi (e ▸ ha))
  rwa [st_st] at this

/-- What is shown stays so behind a write into a chunk. -/
theorem Shown.write {w0 : World} {fr : Bool} {m : Mem} {w : World} {L' : Loc} {k : IntKind} {xs : List Int} (h : Shown w0 fr m w L' k xs) {c : Nat} {own : Own} {L : Loc} {ch ch' : Chunk} (hc : lk m c = some (own, L, ch)) (hext : ch'.ext L = ch.ext L)
    {a : Addr} (ha : wf (own, L, ch) a) (v : Value) : Shown w0 fr (st m c (some (own, L, ch'))) (w.setCell a v) L' k xs := by
  refine ⟨h.cap, h.nil, fun o ho => ?_, fun d f hf o ho hw => ?_, h.fresh⟩
  · rw [World.cell?_setCell_other _ _ _ _ (fun (e : a = L'.ad o) => h.far c _ hc o ho (e ▸ ha))]; exact h.cell o ho
  · rw [lk_st] at hf
    split at hf
    · rename_i e
      cases hf
      obtain ⟨g1, i, g2, g3⟩ := hw
      exact h.far c _ hc o ho ⟨g1, i, by simpa [hext] using g2, g3⟩
    · exact h.far d f hf o ho hw

end Go.Proofs.Ytnmbimhcfioeiaa.Xf
