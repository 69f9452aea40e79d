import Derived.Test.YtnmbimhcfioeiaaFv
set_option linter.unusedVariables false
set_option linter.unusedSimpArgs false
/-! Xf, part w: what is said of a function, as what a call of it does. -/
namespace Go.Proofs.Ytnmbimhcfioeiaa.Xf

mutual
def relab (r : Nat → Nat) : SV → SV
  | .int k n => .int k n
  | .bool b => .bool b
  | .ptr c L i s f => .ptr (r c) L i s f
  | .sl c L s lo n => .sl (bif c == 4096 then 4096 else r c) L s lo n
  | .agg cs => .agg (relabs r cs)
  | .tup cs => .tup (relabs r cs)
  | .fn f cs => .fn f (relabs r cs)
  | .val v => .val v
def relabs (r : Nat → Nat) : List SV → List SV
  | [] => []
  | c :: cs => relab r c :: relabs r cs
end

mutual
theorem relab_eqv (r : Nat → Nat) : ∀ v, eqv (relab r v) v
  | .int k n => by simp only [relab, eqv]
  | .bool b => by simp only [relab, eqv]
  | .ptr c L i s f => by simp only [relab, eqv, and_self]
  | .sl c L s lo n => by simp only [relab, eqv, and_self]
  | .agg cs => by simp only [relab, eqv]; exact relabs_eqv r cs
  | .tup cs => by simp only [relab, eqv]; exact relabs_eqv r cs
  | .fn f cs => by simp only [relab, eqv, true_and]; exact relabs_eqv r cs
  | .val v => by simp only [relab, eqv]
theorem relabs_eqv (r : Nat → Nat) : ∀ cs, eqvs (relabs r cs) cs
  | [] => by simp only [relabs, eqvs]
  | c :: cs => by simp only [relabs, eqvs]; exact ⟨relab_eqv r c, relabs_eqv r cs⟩
end

def relabC (r : Nat → Nat) : Chunk → Chunk
  | .ints k xs => .ints k xs
  | .bools xs => .bools xs
  | .cells cs => .cells (relabs r cs)
  | .recs s fr z l => .recs s fr z l

theorem relabC_ok (r : Nat → Nat) (ch : Chunk) : chEq (relabC r ch) ch := by
  cases ch with
  | ints k xs => exact ⟨rfl, rfl⟩
  | bools xs => rfl
  | cells cs => exact relabs_eqv r cs
  | recs s fr z l => exact ⟨rfl, rfl, id⟩

theorem relabC_ok' (r : Nat → Nat) (ch : Chunk) : chEq ch (relabC r ch) := by
  cases ch with
  | ints k xs => exact ⟨rfl, rfl⟩
  | bools xs => rfl
  | cells cs => exact eqvs_symm (relabs_eqv r cs)
  | recs s fr z l => exact ⟨rfl, rfl, id⟩

/-- What is said of a function. out: of each chunk that is handed over for writing what it holds behind the call; some none: it is gone. shr: which chunks the results may show. newGot: what is made may lie in what was handed over for writing. -/
structure FS where
  A : Type
  args : A → List SV
  mem : A → Mem
  pre : A → Prop
  res : A → (Nat → Loc) → SV
  out : A → (Nat → Loc) → List (Option (Option Chunk))
  new : A → (Nat → Loc) → List (Loc × Chunk)
  shr : List Nat := []
  newGot : Bool := false

def outs : Mem → List (Option (Option Chunk)) → Mem
  | [], _ => []
  | e :: m, [] => e :: m
  | none :: m, _ :: o => none :: outs m o
  | some (own, L, _) :: m, some (some ch') :: o => some (own, L, ch') :: outs m o
  | some _ :: m, some none :: o => none :: outs m o
  | some e :: m, none :: o => some e :: outs m o

def news (own : Own) : List (Loc × Chunk) → Mem
  | [] => []
  | (L, ch) :: l => some (own, L, ch) :: news own l

def newOwn : Bool → Own
  | false => .mine
  | true => .got

def memAfter (m : Mem) (o : List (Option (Option Chunk))) (ng : Bool) (n : List (Loc × Chunk)) : Mem := outs m o ++ news (newOwn ng) n

/-- Behind a function: results and memory, up to labels. -/
def postF (fs : FS) (a : fs.A) (v : SV) (m' : Mem) : Prop :=
  ∃ x g, eqv v (fs.res a x) ∧ memC m' g (memAfter (fs.mem a) (fs.out a x) fs.newGot (fs.new a x)) ∧ idNodup (used g (memAfter (fs.mem a) (fs.out a x) fs.newGot (fs.new a x))) = true

def outOk : Mem → List (Option (Option Chunk)) → Prop
  | [], _ => True
  | _ :: _, [] => True
  | none :: m, _ :: o => outOk m o
  | some (own, L, ch) :: m, some (some ch') :: o => own = .lent ∧ ch'.ext L = ch.ext L ∧ outOk m o
  | some (own, _, _) :: m, some none :: o => own = .lent ∧ outOk m o
  | some _ :: m, none :: o => outOk m o
def Chunk.frArg : Chunk → Prop
  | .recs _ fr _ _ => fr = false
  | _ => True
def argOwn : Own → Prop
  | .ro => True
  | .lent => True
  | _ => False
def noMine : Mem → Prop
  | [] => True
  | none :: m => noMine m
  | some (own, _, ch) :: m => argOwn own ∧ ch.frArg ∧ noMine m

def frNew : List (Loc × Chunk) → Prop
  | [] => True
  | (_, ch) :: l => ch.fr = true ∧ frNew l
def frOut : List (Option (Option Chunk)) → Prop
  | [] => True
  | some (some ch) :: l => ch.fr = true ∧ frOut l
  | some none :: l => frOut l
  | none :: l => frOut l
def shrd (fs : FS) (a : fs.A) (y : Addr) : Prop := ∃ c, c ∈ fs.shr ∧ ∃ e, lk (fs.mem a) c = some e ∧ rf e y
/-- Which rows the results may show: those that are made by the call, those of the chunks shr, and those that were there. -/
def rowsOk (fs : FS) (a : fs.A) (x : Nat → Loc) : Prop := (frNew (fs.new a x) ∧ frOut (fs.out a x)) ∨
  ((∀ (j : Nat) (L : Loc) (ch : Chunk), (fs.new a x)[j]? = some (L, ch) → ch.fr = true ∨ ∀ y, rows ch y → shrd fs a y) ∧
   (∀ c ch, lk (fs.out a x) c = some (some ch) → ch.fr = true ∨ ∀ y, rows ch y → shrd fs a y ∨ ∃ e, lk (fs.mem a) c = some e ∧ rows e.2.2 y))

theorem frNew_get : ∀ {l : List (Loc × Chunk)}, frNew l → ∀ {j : Nat} {L : Loc} {ch : Chunk}, l[j]? = some (L, ch) → ch.fr = true
  | [], _, j, L, ch, h => by simp at h
  | (M, c) :: l, hf, 0, L, ch, h => by simp at h; obtain ⟨rfl, rfl⟩ := h; exact hf.1
  | (M, c) :: l, hf, j + 1, L, ch, h => frNew_get hf.2 (by simpa using h)
theorem frOut_get : ∀ {l : List (Option (Option Chunk))}, frOut l → ∀ {c : Nat} {ch : Chunk}, lk l c = some (some ch) → ch.fr = true
  | [], _, c, ch, h => by simp [lk] at h
  | none :: l, hf, c, ch, h => by
    cases c with
    | zero => simp [lk] at h
    | succ c => exact frOut_get (l := l) hf (by simpa [lk] using h)
  | some none :: l, hf, c, ch, h => by
    cases c with
    | zero => simp [lk] at h
    | succ c => exact frOut_get (l := l) hf (by simpa [lk] using h)
  | some (some ch0) :: l, hf, c, ch, h => by
    cases c with
    | zero => simp only [lk] at h; cases h; exact hf.1
    | succ c => exact frOut_get (l := l) hf.2 (by simpa [lk] using h)
theorem rowsOk.all {fs : FS} {a : fs.A} {x : Nat → Loc} (h : rowsOk fs a x) : (∀ (j : Nat) (L : Loc) (ch : Chunk), (fs.new a x)[j]? = some (L, ch) → ch.fr = true ∨ ∀ y, rows ch y → shrd fs a y) ∧
   (∀ c ch, lk (fs.out a x) c = some (some ch) → ch.fr = true ∨ ∀ y, rows ch y → shrd fs a y ∨ ∃ e, lk (fs.mem a) c = some e ∧ rows e.2.2 y) := by
  rcases h with ⟨h1, h2⟩ | h
  · exact ⟨fun j L ch h => .inl (frNew_get h1 h), fun c ch h => .inl (frOut_get h2 h)⟩
  · exact h

structure FSOk (P : Program) (f : FuncId) (fs : FS) : Prop where
  fn : FnOk P f
  mem : ∀ a, noMine (fs.mem a) ∧ (∀ x, outOk (fs.mem a) (fs.out a x)) ∧ ∀ x, rowsOk fs a x
  calls : ∀ a, fs.pre a → Tri P f (fs.args a) (fs.mem a) (postF fs a)

def ownOk : Own → Own → Prop
  | .ro, _ => True
  | .lent, own => own.wr = true
  | _, _ => False

/-- The chunks of the callee are the caller's at the places g; 4096: a nil slice's. -/
def inMem (look : Look) : List Nat → Mem → Prop
  | _, [] => True
  | g, none :: m => inMem look g.tail m
  | d :: g, some (own, L, ch) :: m => (bif d == 4096 then L = nilLoc ∧ chNil ch else match look d with | some (own', L', ch') => L' = L ∧ chEq ch' ch ∧ ownOk own own' | none => False) ∧ inMem look g m
  | [], some _ :: _ => False

def isLent : Own → Bool | .lent => true | _ => false
/-- A chunk that is handed over for writing is no other one too. -/
def farOf (d : Nat) (b : Bool) : List Nat → Mem → Bool
  | _, [] => true
  | g, none :: m => farOf d b g.tail m
  | d' :: g, some (own, _, _) :: m => (!(b || isLent own) || !(d == d') || d == 4096) && farOf d b g m
  | [], some _ :: _ => false
def lentOk : List Nat → Mem → Bool
  | _, [] => true
  | g, none :: m => lentOk g.tail m
  | d :: g, some (own, _, _) :: m => farOf d (isLent own) g m && lentOk g m
  | [], some _ :: _ => false

def gAt : List Nat → Nat → Nat
  | [], _ => 4096
  | d :: _, 0 => d
  | _ :: g, n + 1 => gAt g n
/-- What the results may show nobody may write. -/
def shrOk (look : Look) (g : List Nat) : List Nat → Prop
  | [] => True
  | c :: cs => (bif gAt g c == 4096 then True else match look (gAt g c) with | some (own, _, _) => own.wr = false | none => False) ∧ shrOk look g cs

def rho : List Nat → Nat → Nat → Nat
  | [], k, i => k + i
  | d :: _, _, 0 => d
  | _ :: g, k, i + 1 => rho g k i

def updO1 (look : Look) (r : Nat → Nat) (d : Nat) : Option Chunk → Option ME
  | some ch' => match look d with | some (own, L, _) => some (own, L, relabC r ch') | none => none
  | none => none
def updO (look : Look) (r : Nat → Nat) : List Nat → Mem → List (Option (Option Chunk)) → Upd
  | _, [], _ => []
  | _, _ :: _, [] => []
  | g, none :: m, _ :: o => updO look r g.tail m o
  | d :: g, some _ :: m, some y :: o => bif d == 4096 then updO look r g m o else (d, updO1 look r d y) :: updO look r g m o
  | g, some _ :: m, none :: o => updO look r g.tail m o
  | [], some _ :: _, some _ :: _ => []
def updN (own : Own) (r : Nat → Nat) (k : Nat) : List (Loc × Chunk) → Upd
  | [] => []
  | (L, ch) :: l => (k, some (own, L, relabC r ch)) :: updN own r (k + 1) l

/-- To whom belongs what may lie in what was handed over. -/
def joinO (look : Look) : List Nat → Mem → Own
  | _, [] => .mine
  | g, none :: m => joinO look g.tail m
  | d :: g, some (own, _, _) :: m => bif isLent own then (bif d == 4096 then joinO look g m else match look d with | some (.mine, _, _) => joinO look g m | _ => .got) else joinO look g m
  | [], some _ :: _ => .got
def newOwnC (look : Look) (g : List Nat) (m : Mem) : Bool → Own
  | false => .mine
  | true => joinO look g m

def apnd (u v : Upd) : Upd := match u with | [] => v | a :: u => a :: apnd u v

def spOf (fs : FS) (inv : List SV → Look → Option (fs.A × List Nat)) (as : List SV) (look : Look) (x : Nat → Loc) (k : Nat) : R :=
  match inv as look with
  | none => none
  | some (a, g) => some (eqvs as (fs.args a) ∧ inMem look g (fs.mem a) ∧ lentOk g (fs.mem a) = true ∧ shrOk look g fs.shr ∧ g.length = (fs.mem a).length ∧ fs.pre a,
      relab (rho g k) (fs.res a (fun j => x (k + j))),
      apnd (updO look (rho g k) g (fs.mem a) (fs.out a (fun j => x (k + j)))) (updN (newOwnC look g (fs.mem a) fs.newGot) (rho g k) k (fs.new a (fun j => x (k + j)))))

abbrev Entry := List SV → Look → (Nat → Loc) → Nat → R

structure EntryOk (P : Program) (f : FuncId) (F : Entry) : Prop where
  fn : FnOk P f
  calls : ∀ as vs k w0 W m look w, Dens as vs → MemSat w0 W m w → Kept w0 W w → (∀ c e, look c = some e → lk m c = some e) → (∀ x, ∃ p v u, F as look x k = some (p, v, u) ∧ p) →
    Calls P f vs.toArray w fun e w' => ∃ x p v u rv, F as look x k = some (p, v, u) ∧ p ∧ e = .returned rv ∧ Den v rv ∧ MemSat w0 W (apU m u) w' ∧ Kept w0 W w'

def spList : List (FuncId × Entry) → Sp
  | [], _ => fun _ _ _ _ => none
  | (g, F) :: l, f => bif g == f then F else spList l f

def allOk (P : Program) : List (FuncId × Entry) → Prop
  | [] => True
  | (g, F) :: l => EntryOk P g F ∧ allOk P l

theorem spList_ok {P : Program} : ∀ {l : List (FuncId × Entry)}, allOk P l → SpOk P (spList l)
  | [], _ => ⟨fun f as look x k r h => by simp [spList] at h, fun f as vs k w0 W m look w _ _ _ _ h => by
      obtain ⟨p, v, u, h, _⟩ := h (fun _ => default); simp [spList] at h⟩
  | (g, F) :: l, h => by
    have ih := spList_ok h.2
    refine ⟨fun f as look x k r hh => ?_, fun f as vs k w0 W m look w h1 h2 h3 h4 h5 => ?_⟩
    · simp only [spList] at hh
      cases e : (g == f) with
      | true => have : g = f := by simpa using e
                subst this; exact h.1.fn
      | false => rw [e] at hh; exact ih.fn _ _ _ _ _ _ hh
    · simp only [spList] at h5 ⊢
      cases e : (g == f) with
      | true =>
        have : g = f := by simpa using e
        subst this
        rw [e] at h5
        exact h.1.calls as vs k w0 W m look w h1 h2 h3 h4 h5
      | false =>
        rw [e] at h5
        exact ih.calls f as vs k w0 W m look w h1 h2 h3 h4 h5

abbrev EntryP := List SV → Option (Prop × SV)
def EntryPOk (P : Program) (f : FuncId) (F : EntryP) : Prop := FnOk P f ∧ ∀ as p v, F as = some (p, v) → p → Tri P f as [] fun v' _ => v' = v
def spPList : List (FuncId × EntryP) → SpP
  | [], _ => fun _ => none
  | (g, F) :: l, f => bif g == f then F else spPList l f
def allPOk (P : Program) : List (FuncId × EntryP) → Prop
  | [] => True
  | (g, F) :: l => EntryPOk P g F ∧ allPOk P l

theorem lentW_nil (a : Addr) : ¬ lentW [] a := by
  rintro ⟨c, L, ch, h, _⟩
  simp [lk] at h

theorem spPList_ok {P : Program} : ∀ {l : List (FuncId × EntryP)}, allPOk P l → SpPOk P (spPList l)
  | [], _ => ⟨fun f as r h => by simp [spPList] at h, fun f as vs p v w _ h => by simp [spPList] at h⟩
  | (g, F) :: l, h => by
    have ih := spPList_ok h.2
    refine ⟨fun f as r hh => ?_, fun f as vs p v w h1 h2 h3 => ?_⟩
    · simp only [spPList] at hh
      cases e : (g == f) with
      | true => have : g = f := by simpa using e
                subst this; exact h.1.1
      | false => rw [e] at hh; exact ih.fn _ _ _ hh
    · simp only [spPList] at h2
      cases e : (g == f) with
      | true =>
        have : g = f := by simpa using e
        subst this
        rw [e] at h2
        have := h.1.2 as p v h2 h3 w vs h1 ⟨fun c e he => by simp [lk] at he, fun c d e f _ he => by simp [lk] at he⟩
        refine this.mono fun e w' hh => ?_
        obtain ⟨v', m', rv, rfl, rfl, hd, _, hk⟩ := hh
        refine ⟨rv, rfl, hd, ⟨hk.os, hk.tape, hk.output, hk.size, fun b hb => hk.block b hb fun o => lentW_nil _⟩⟩
      | false =>
        rw [e] at h2
        exact ih.calls f as vs p v w h1 h2 h3

end Go.Proofs.Ytnmbimhcfioeiaa.Xf
