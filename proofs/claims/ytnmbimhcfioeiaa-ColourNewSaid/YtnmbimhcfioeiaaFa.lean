import Derived.Orders
import Derived.Below
import Derived.KernelRfl
set_option linter.unusedVariables false
set_option linter.unusedSimpArgs false
/-! Xf, part a: symbolic values, chunks of memory, and what it means that a world meets them. -/
namespace Go.Proofs.Ytnmbimhcfioeiaa.Xf

/-- Where a row of cells begins; of a slice also whether it is nil, and its capacity. -/
structure Loc where
  b : Nat
  o : Nat
  nil : Bool
  cap : Nat
  deriving Inhabited

def Loc.ad (L : Loc) (k : Nat) : Addr := ⟨L.b, L.o + k, none⟩

/-- A symbolic value. The first number of ptr and sl is a label: where the chunk stands in the symbolic memory. -/
inductive SV where
  | int (k : IntKind) (n : Int)
  | bool (b : Bool)
  | ptr (c : Nat) (L : Loc) (i : Int) (s f : Nat)
  | sl (c : Nat) (L : Loc) (s : Nat) (lo len : Int)
  | agg (cs : List SV)
  | tup (cs : List SV)
  | fn (f : FuncId) (cs : List SV)
  | val (v : Value)
  deriving Inhabited

mutual
def Den : SV → Value → Prop
  | .int k n, v => v = .int k n
  | .bool b, v => v = .bool b
  | .ptr _ L i s f, v => v = .pointer (some (L.ad (i.toNat * s + f)))
  | .sl _ L s lo len, v => 0 ≤ lo ∧ 0 ≤ len ∧ lo + len ≤ L.cap ∧ (L.nil = true → L.cap = 0) ∧ ∃ A : Option Addr, v = .slice A len.toNat (L.cap - lo.toNat) ∧ A.isNone = L.nil ∧
      (L.cap - lo.toNat ≠ 0 → A = if L.nil then none else some (L.ad (lo.toNat * s)))
  | .agg cs, v => ∃ vs : List Value, v = .agg vs.toArray ∧ Dens cs vs
  | .tup cs, v => ∃ vs : List Value, v = .tuple vs.toArray ∧ Dens cs vs
  | .fn f cs, v => ∃ vs : List Value, v = .func (.func f) #[] vs.toArray ∧ Dens cs vs
  | .val x, v => v = x
def Dens : List SV → List Value → Prop
  | [], vs => vs = []
  | c :: cs, vs => ∃ v vs', vs = v :: vs' ∧ Den c v ∧ Dens cs vs'
end

theorem Dens.length : ∀ {cs : List SV} {vs : List Value}, Dens cs vs → vs.length = cs.length
  | [], vs, h => by simp [Dens] at h; simp [h]
  | c :: cs, vs, h => by
    simp only [Dens] at h
    obtain ⟨v, vs', rfl, _, h⟩ := h
    simp [Dens.length h]

theorem Dens.get : ∀ {cs : List SV} {vs : List Value}, Dens cs vs → ∀ {i : Nat} {c : SV}, cs[i]? = some c → ∃ v, vs[i]? = some v ∧ Den c v
  | [], vs, h, i, c, hc => by simp at hc
  | c :: cs, vs, h, i, d, hc => by
    simp only [Dens] at h
    obtain ⟨v, vs', rfl, hv, h⟩ := h
    cases i with
    | zero => simp at hc; subst hc; exact ⟨v, by simp, hv⟩
    | succ i => simp at hc; simpa using Dens.get h hc

theorem Dens.of_get : ∀ {cs : List SV} {vs : List Value}, vs.length = cs.length → (∀ (i : Nat) (c : SV) (v : Value), cs[i]? = some c → vs[i]? = some v → Den c v) → Dens cs vs
  | [], vs, h, _ => by simpa [Dens] using h
  | c :: cs, [], h, _ => by simp at h
  | c :: cs, v :: vs, h, H => by
    simp only [Dens]
    exact ⟨v, vs, rfl, H 0 c v (by simp) (by simp), Dens.of_get (by simpa using h) fun i c v hc hv => H (i + 1) c v (by simpa using hc) (by simpa using hv)⟩

theorem Dens.append {cs ds : List SV} {vs us : List Value} (h : Dens cs vs) (k : Dens ds us) : Dens (cs ++ ds) (vs ++ us) := by
  induction cs generalizing vs with
  | nil => simp only [Dens] at h; subst h; simpa using k
  | cons c cs ih =>
    simp only [Dens] at h
    obtain ⟨v, vs', rfl, hv, h⟩ := h
    simp only [List.cons_append, Dens]
    exact ⟨v, vs' ++ us, rfl, hv, ih h⟩

/-- Whose a chunk is: only read, made by this call, or handed over for writing. -/
inductive Own where
  | ro | mine | lent
  deriving DecidableEq

/-- What stands in a chunk. -/
inductive Chunk where
  | ints (k : IntKind) (xs : List Int)
  | bools (xs : List Bool)
  | cells (cs : List SV)

def rd (xs : List Int) (i : Int) : Int := xs.getD i.toNat 0
def rdB (xs : List Bool) (i : Int) : Bool := xs.getD i.toNat false

def Chunk.len : Chunk → Nat
  | .ints _ xs => xs.length
  | .bools xs => xs.length
  | .cells cs => cs.length

def Chunk.cell : Chunk → Nat → SV
  | .ints k xs, o => .int k (xs.getD o 0)
  | .bools xs, o => .bool (xs.getD o false)
  | .cells cs, o => cs.getD o (.val undef)

/-- How many cells belong to it. -/
def Chunk.ext (L : Loc) : Chunk → Nat
  | .ints _ _ => L.cap
  | .bools _ => L.cap
  | .cells cs => cs.length

def Chunk.fits (L : Loc) : Chunk → Prop
  | .ints _ xs => xs.length ≤ L.cap ∧ (L.nil = true → L.cap = 0)
  | .bools xs => xs.length ≤ L.cap ∧ (L.nil = true → L.cap = 0)
  | .cells _ => L.nil = false

abbrev ME := Own × Loc × Chunk
abbrev Mem := List (Option ME)

def lk {α : Type} : List (Option α) → Nat → Option α
  | [], _ => none
  | a :: _, 0 => a
  | _ :: l, n + 1 => lk l n
def st {α : Type} : List (Option α) → Nat → Option α → List (Option α)
  | [], _, _ => []
  | _ :: l, 0, x => x :: l
  | a :: l, n + 1, x => a :: st l n x

theorem lk_eq {α : Type} : ∀ (l : List (Option α)) (n : Nat), lk l n = (l[n]?).getD none
  | [], n => by simp [lk]
  | a :: l, 0 => by simp [lk]
  | a :: l, n + 1 => by simp [lk, lk_eq l n]
theorem st_length {α : Type} : ∀ (l : List (Option α)) (n : Nat) (x : Option α), (st l n x).length = l.length
  | [], n, x => by simp [st]
  | a :: l, 0, x => by simp [st]
  | a :: l, n + 1, x => by simp [st, st_length l n]
theorem lk_st {α : Type} : ∀ (l : List (Option α)) (n m : Nat) (x : Option α), lk (st l n x) m = if n = m ∧ n < l.length then x else lk l m
  | [], n, m, x => by simp [st, lk]
  | a :: l, 0, 0, x => by simp [st, lk]
  | a :: l, 0, m + 1, x => by simp [st, lk]
  | a :: l, n + 1, 0, x => by simp [st, lk]
  | a :: l, n + 1, m + 1, x => by simp [st, lk, lk_st l n m x]
theorem lk_st_ne {α : Type} {l : List (Option α)} {n m : Nat} {x : Option α} (h : n ≠ m) : lk (st l n x) m = lk l m := by simp [lk_st, h]
theorem lk_lt {α : Type} : ∀ {l : List (Option α)} {n : Nat} {x : α}, lk l n = some x → n < l.length
  | [], n, x, h => by simp [lk] at h
  | a :: l, 0, x, h => by simp
  | a :: l, n + 1, x, h => by simp [lk] at h; simpa using lk_lt h
theorem st_comm {α : Type} : ∀ (l : List (Option α)) (n m : Nat) (x y : Option α), n ≠ m → st (st l n x) m y = st (st l m y) n x
  | [], n, m, x, y, h => by simp [st]
  | a :: l, 0, 0, x, y, h => by simp at h
  | a :: l, 0, m + 1, x, y, h => by simp [st]
  | a :: l, n + 1, 0, x, y, h => by simp [st]
  | a :: l, n + 1, m + 1, x, y, h => by simp [st, st_comm l n m x y (by omega)]

def Sep (L : Loc) (n : Nat) (M : Loc) (m : Nat) : Prop := ∀ i, i < n → ∀ j, j < m → L.ad i ≠ M.ad j
theorem Sep.symm {L M : Loc} {n m : Nat} (h : Sep L n M m) : Sep M m L n := fun i hi j hj e => h j hj i hi e.symm

def reg : ME → Nat
  | (.ro, _, ch) => ch.len
  | (_, L, ch) => ch.ext L

/-- One chunk stands in the world. w0 is the world in which the call began, W what it may write of that. -/
structure ChunkSat (w0 : World) (W : Addr → Prop) (e : ME) (w : World) : Prop where
  cell : ∀ o, o < e.2.2.len → ∃ v, w.cell? (e.2.1.ad o) = some v ∧ Den (e.2.2.cell o) v
  mineW : e.1 ≠ .ro → ∀ o, o < e.2.2.ext e.2.1 → (w.cell? (e.2.1.ad o)).isSome = true ∧ w.frozen? (e.2.1.ad o) = false
  fits : e.2.2.fits e.2.1
  fresh : e.1 = .mine → 0 < e.2.2.ext e.2.1 → w0.heap.size ≤ e.2.1.b
  lent : e.1 = .lent → ∀ o, o < e.2.2.ext e.2.1 → W (e.2.1.ad o)

structure MemSat (w0 : World) (W : Addr → Prop) (m : Mem) (w : World) : Prop where
  chunk : ∀ c e, lk m c = some e → ChunkSat w0 W e w
  sep : ∀ c d e f, c ≠ d → lk m c = some e → lk m d = some f → e.1 ≠ .ro → Sep e.2.1 (reg e) f.2.1 (reg f)

/-- Nothing that was there has turned but what W tells. -/
structure Kept (w0 : World) (W : Addr → Prop) (w : World) : Prop where
  os : w.os = w0.os
  tape : w.tape = w0.tape
  output : w.output = w0.output
  size : w0.heap.size ≤ w.heap.size
  cell : ∀ a, a.block < w0.heap.size → ¬ W a → w.cell? a = w0.cell? a
  frozen : ∀ a, a.block < w0.heap.size → w.frozen? a = w0.frozen? a
  block : ∀ b, b < w0.heap.size → (∀ o, ¬ W ⟨b, o, none⟩) → w.heap[b]? = w0.heap[b]?

theorem Kept.refl (w : World) (W : Addr → Prop) : Kept w W w := ⟨rfl, rfl, rfl, Nat.le_refl _, fun _ _ _ => rfl, fun _ _ => rfl, fun _ _ _ => rfl⟩
theorem Kept.trans {w0 w1 w2 : World} {W W' : Addr → Prop} (h : Kept w0 W w1) (k : Kept w1 W' w2) (hW : ∀ a, W' a → a.block < w0.heap.size → W a) : Kept w0 W w2 where
  os := k.os.trans h.os
  tape := k.tape.trans h.tape
  output := k.output.trans h.output
  size := Nat.le_trans h.size k.size
  cell a ha hn := (k.cell a (Nat.lt_of_lt_of_le ha h.size) fun hw => hn (hW a hw ha)).trans (h.cell a ha hn)
  frozen a ha := (k.frozen a (Nat.lt_of_lt_of_le ha h.size)).trans (h.frozen a ha)
  block b hb hn := (k.block b (Nat.lt_of_lt_of_le hb h.size) fun o hw => hn o (hW _ hw hb)).trans (h.block b hb hn)
theorem Kept.mono {w0 w : World} {W W' : Addr → Prop} (h : Kept w0 W w) (hW : ∀ a, W a → W' a) : Kept w0 W' w :=
  (Kept.refl w0 W').trans h fun a ha _ => hW a ha
theorem Kept.below {w0 w : World} (h : Kept w0 (fun _ => False) w) : RowKit.Below w0.heap.size w0 w :=
  ⟨h.os, h.tape, h.output, h.size, fun b hb => h.block b hb fun _ h => h⟩
theorem Kept.of_below {w0 w : World} (h : RowKit.Below w0.heap.size w0 w) (W : Addr → Prop) : Kept w0 W w :=
  ⟨h.os, h.tape, h.output, h.size, fun a ha _ => h.cell ha, fun a ha => h.frozen ha, fun b hb _ => h.block b hb⟩
theorem Kept.alloc (w : World) (o : Obj) (W : Addr → Prop) : Kept w W (w.alloc o) :=
  Kept.of_below ((RowKit.Below.refl _ _).alloc (Nat.le_refl _) _) W
theorem Kept.drew (w : World) (W : Addr → Prop) : Kept w W w.drew := Kept.of_below (RowKit.Below.refl _ _).drew W
theorem Kept.setCell (w : World) (a : Addr) (v : Value) (ha : a.spot = none) : Kept w (fun x => x = a) (w.setCell a v) where
  os := rfl
  tape := rfl
  output := rfl
  size := by simp
  cell b _ hn := World.cell?_setCell_other w a b v (fun e => hn e.symm)
  frozen b _ := by simp
  block b _ hn := RowKit.Below.heap_setCell w a v b (fun e => hn a.off (by cases a; simp_all))

theorem ad_ne_of_size {w : World} {L M : Loc} {i j : Nat} {v : Value} (h : w.cell? (L.ad i) = some v) (hM : w.heap.size ≤ M.b) : L.ad i ≠ M.ad j := by
  intro e
  have := World.block_lt_of_cell? _ _ h
  have e2 : L.b = M.b := by simpa [Loc.ad] using congrArg Addr.block e
  simp [Loc.ad] at this
  omega

/-- A chunk whose cells are as they were is as it was. -/
theorem ChunkSat.keep {w0 : World} {W : Addr → Prop} {e : ME} {w w' : World} (h : ChunkSat w0 W e w)
    (hc : ∀ o, o < reg e → w'.cell? (e.2.1.ad o) = w.cell? (e.2.1.ad o)) (hf : ∀ a, a.block < w.heap.size → w'.frozen? a = w.frozen? a) : ChunkSat w0 W e w' := by
  obtain ⟨own, L, ch⟩ := e
  refine ⟨fun o ho => ?_, fun hne o ho => ?_, h.fits, h.fresh, h.lent⟩
  · obtain ⟨v, hv, hd⟩ := h.cell o ho
    refine ⟨v, ?_, hd⟩
    rw [← hv]
    apply hc
    have hfit := h.fits
    cases own <;> cases ch <;> simp_all [reg, Chunk.len, Chunk.ext, Chunk.fits] <;> omega
  · have := h.mineW hne o ho
    have hr : reg (own, L, ch) = ch.ext L := by cases own <;> simp_all [reg]
    obtain ⟨v, hv⟩ := Option.isSome_iff_exists.1 this.1
    exact ⟨by rw [hc o (by rw [hr]; exact ho)]; exact this.1, by rw [hf _ (World.block_lt_of_cell? _ _ hv)]; exact this.2⟩

theorem Chunk.len_le_reg {w0 : World} {W : Addr → Prop} {e : ME} {w : World} (h : ChunkSat w0 W e w) : e.2.2.len ≤ reg e := by
  obtain ⟨own, L, ch⟩ := e
  have hfit := h.fits
  cases own <;> cases ch <;> simp_all [reg, Chunk.len, Chunk.ext, Chunk.fits]

theorem ChunkSat.regSome {w0 : World} {W : Addr → Prop} {e : ME} {w : World} (h : ChunkSat w0 W e w) {o : Nat} (ho : o < reg e) : ∃ v, w.cell? (e.2.1.ad o) = some v := by
  obtain ⟨own, L, ch⟩ := e
  cases own with
  | ro => obtain ⟨v, hv, _⟩ := h.cell o ho; exact ⟨v, hv⟩
  | mine => exact Option.isSome_iff_exists.1 (h.mineW (by simp) o ho).1
  | lent => exact Option.isSome_iff_exists.1 (h.mineW (by simp) o ho).1

/-- Anything that keeps all cells that there are (a draw, a new block) keeps the memory. -/
theorem MemSat.keep {w0 : World} {W : Addr → Prop} {m : Mem} {w w' : World} (h : MemSat w0 W m w)
    (hc : ∀ a v, w.cell? a = some v → w'.cell? a = some v) (hf : ∀ a, a.block < w.heap.size → w'.frozen? a = w.frozen? a) : MemSat w0 W m w' := by
  refine ⟨fun c e he => (h.chunk c e he).keep (fun o ho => ?_) hf, h.sep⟩
  obtain ⟨v, hv⟩ := (h.chunk c e he).regSome ho
  rw [hv, hc _ _ hv]

theorem MemSat.alloc {w0 : World} {W : Addr → Prop} {m : Mem} {w : World} (h : MemSat w0 W m w) (o : Obj) : MemSat w0 W m (w.alloc o) :=
  h.keep (fun a v hv => by rw [World.cell?_alloc_lt w o a (World.block_lt_of_cell? _ _ hv)]; exact hv) (fun a ha => World.frozen?_alloc_old w o a (Nat.ne_of_lt ha))
theorem MemSat.drew {w0 : World} {W : Addr → Prop} {m : Mem} {w : World} (h : MemSat w0 W m w) : MemSat w0 W m w.drew :=
  h.keep (fun a v hv => by simpa using hv) (fun a ha => by simp)

/-- Fewer chunks. -/
theorem MemSat.sub {w0 : World} {W : Addr → Prop} {m m' : Mem} {w : World} (h : MemSat w0 W m w) (hs : ∀ c e, lk m' c = some e → lk m c = some e) : MemSat w0 W m' w :=
  ⟨fun c e he => h.chunk c e (hs c e he), fun c d e f hn he hf ho => h.sep c d e f hn (hs c e he) (hs d f hf) ho⟩

theorem MemSat.forget {w0 : World} {W : Addr → Prop} {m : Mem} {w : World} (h : MemSat w0 W m w) (c : Nat) : MemSat w0 W (st m c none) w :=
  h.sub fun d e he => by
    rw [lk_st] at he
    split at he
    · cases he
    · exact he

/-- A new chunk in a fresh place of the list, whose block is new. -/
theorem MemSat.put {w0 : World} {W : Addr → Prop} {m : Mem} {w : World} (h : MemSat w0 W m w) (c : Nat) (e : ME) (he : ChunkSat w0 W e w)
    (hs : ∀ d f, d ≠ c → lk m d = some f → (e.1 ≠ .ro ∨ f.1 ≠ .ro) → Sep e.2.1 (reg e) f.2.1 (reg f)) : MemSat w0 W (st m c (some e)) w := by
  refine ⟨fun d f hf => ?_, fun d d' f f' hn hf hf' ho => ?_⟩
  · rw [lk_st] at hf
    split at hf
    · cases hf; exact he
    · exact h.chunk d f hf
  · rw [lk_st] at hf hf'
    split at hf
    · rename_i h1
      cases hf
      split at hf'
      · rename_i h2; exact absurd (h1.1.symm.trans h2.1) hn
      · exact hs d' f' (fun x => hn (h1.1.symm.trans x.symm)) hf' (.inl ho)
    · split at hf'
      · rename_i h1 h2
        cases hf'
        exact (hs d f (fun x => hn (x.trans h2.1)) hf (.inr ho)).symm
      · exact h.sep d d' f f' hn hf hf' ho

/-- A cell of a chunk is written. -/
theorem MemSat.write {w0 : World} {W : Addr → Prop} {m : Mem} {w : World} (h : MemSat w0 W m w) {c : Nat} {own : Own} {L : Loc} {ch ch' : Chunk}
    (hc : lk m c = some (own, L, ch)) (ho : own ≠ .ro) {o : Nat} (hlt : o < ch.len) {v : Value} {sv : SV} (hv : Den sv v)
    (hlen : ch'.len = ch.len) (hext : ch'.ext L = ch.ext L) (hfit : ch'.fits L) (hcell : ∀ i, i < ch.len → ch'.cell i = if i = o then sv else ch.cell i) :
    (w.cell? (L.ad o)).isSome = true ∧ w.frozen? (L.ad o) = false ∧ MemSat w0 W (st m c (some (own, L, ch'))) (w.setCell (L.ad o) v) := by
  have hk := h.chunk c _ hc
  have hle := Chunk.len_le_reg hk
  have hr : reg (own, L, ch) = ch.ext L := by cases own <;> simp_all [reg]
  have hr' : reg (own, L, ch') = ch'.ext L := by cases own <;> simp_all [reg]
  simp only [hr] at hle
  have hmw := hk.mineW ho o (Nat.lt_of_lt_of_le hlt hle)
  refine ⟨hmw.1, hmw.2, ?_⟩
  obtain ⟨u, hu⟩ := Option.isSome_iff_exists.1 hmw.1
  have hself : ∀ i, i < ch.ext L → i ≠ o → (w.setCell (L.ad o) v).cell? (L.ad i) = w.cell? (L.ad i) := fun i hi hne =>
    World.cell?_setCell_other _ _ _ _ (fun e => hne (by simp [Loc.ad] at e; omega))
  have hnew : ChunkSat w0 W (own, L, ch') (w.setCell (L.ad o) v) := by
    refine ⟨fun i hi => ?_, fun _ i hi => ?_, hfit, fun hm hp => hk.fresh hm (by simpa [hext] using hp), fun hm i hi => hk.lent hm i (by simpa [hext] using hi)⟩
    · simp only [hlen] at hi
      simp only [hcell i hi]
      by_cases hio : i = o
      · subst hio
        exact ⟨v, World.cell?_setCell_same _ _ _ hu, by simpa using hv⟩
      · obtain ⟨v', hv', hd⟩ := hk.cell i hi
        exact ⟨v', by rw [hself i (Nat.lt_of_lt_of_le hi hle) hio]; exact hv', by simpa [hio] using hd⟩
    · simp only [hext] at hi
      have := hk.mineW ho i hi
      refine ⟨?_, by simpa using this.2⟩
      by_cases hio : i = o
      · subst hio; simp only [World.cell?_setCell_same _ _ _ hu]; rfl
      · simp only [hself i hi hio]; exact this.1
  -- the other chunks
  have hrest : MemSat w0 W (st m c none) (w.setCell (L.ad o) v) := by
    refine ⟨fun d f hf => ?_, (h.forget c).sep⟩
    have hf0 := hf
    rw [lk_st] at hf
    have hdc : d ≠ c := by
      intro e
      subst e
      rw [if_pos ⟨rfl, lk_lt hc⟩] at hf
      cases hf
    rw [if_neg (fun e => hdc e.1.symm)] at hf
    refine (h.chunk d f hf).keep (fun i hi => ?_) (fun a _ => by simp)
    exact World.cell?_setCell_other _ _ _ _ (h.sep c d _ f (Ne.symm hdc) hc hf ho o (by rw [hr]; exact Nat.lt_of_lt_of_le hlt hle) i hi)
  have := hrest.put c (own, L, ch') hnew (fun d f hdc hf _ => by
    rw [lk_st_ne (Ne.symm hdc)] at hf
    have := h.sep c d _ f (Ne.symm hdc) hc hf ho
    rw [hr, ← hext, ← hr'] at this
    exact this)
  have e : st (st m c none) c (some (own, L, ch')) = st m c (some (own, L, ch')) := by
    have : ∀ (l : Mem) (n : Nat) (x y : Option ME), st (st l n x) n y = st l n y := by
      intro l
      induction l with
      | nil => intro n x y; simp [st]
      | cons a l ih => intro n x y; cases n <;> simp [st, ih]
    exact this _ _ _ _
  rw [e] at this
  exact this

end Go.Proofs.Ytnmbimhcfioeiaa.Xf
