import Derived.Test.YtnmbimhcfioeiaaFv
set_option linter.unusedVariables false
set_option linter.unusedSimpArgs false
/-! Xf, part w: what is said of a function, as what a call of it does. -/
namespace Go.Proofs.Ytnmbimhcfioeiaa.Xf

mutual
def relab (r : Nat → Nat) : SV → SV
  | .int k n => .int k n
  | .bool b => .bool b
  | .ptr c L i s f => .ptr (r c) L i s f
  | .sl c L s lo n => .sl (bif c == 4096 then 4096 else r c) L s lo n
  | .agg cs => .agg (relabs r cs)
  | .tup cs => .tup (relabs r cs)
  | .fn f cs => .fn f (relabs r cs)
  | .val v => .val v
def relabs (r : Nat → Nat) : List SV → List SV
  | [] => []
  | c :: cs => relab r c :: relabs r cs
end

mutual
theorem relab_eqv (r : Nat → Nat) : ∀ v, eqv (relab r v) v
  | .int k n => by simp only [relab, eqv]
  | .bool b => by simp only [relab, eqv]
  | .ptr c L i s f => by simp only [relab, eqv, and_self]
  | .sl c L s lo n => by simp only [relab, eqv, and_self]
  | .agg cs => by simp only [relab, eqv]; exact relabs_eqv r cs
  | .tup cs => by simp only [relab, eqv]; exact relabs_eqv r cs
  | .fn f cs => by simp only [relab, eqv, true_and]; exact relabs_eqv r cs
  | .val v => by simp only [relab, eqv]
theorem relabs_eqv (r : Nat → Nat) : ∀ cs, eqvs (relabs r cs) cs
  | [] => by simp only [relabs, eqvs]
  | c :: cs => by simp only [relabs, eqvs]; exact ⟨relab_eqv r c, relabs_eqv r cs⟩
end

def relabC (r : Nat → Nat) : Chunk → Chunk
  | .ints k xs => .ints k xs
  | .bools xs => .bools xs
  | .cells cs => .cells (relabs r cs)

theorem relabC_ok (r : Nat → Nat) (ch : Chunk) : chEq (relabC r ch) ch := by
  cases ch with
  | ints k xs => exact ⟨rfl, rfl⟩
  | bools xs => rfl
  | cells cs => exact relabs_eqv r cs

/-- What is said of a function. -/
structure FS where
  A : Type
  args : A → List SV
  mem : A → Mem
  pre : A → Prop
  res : A → (Nat → Loc) → SV
  out : A → List (Option Chunk)
  new : A → (Nat → Loc) → List (Loc × Chunk)

def outs : Mem → List (Option Chunk) → Mem
  | [], _ => []
  | e :: m, [] => e :: m
  | none :: m, _ :: o => none :: outs m o
  | some (own, L, ch) :: m, some ch' :: o => some (own, L, ch') :: outs m o
  | some e :: m, none :: o => some e :: outs m o

def news : List (Loc × Chunk) → Mem
  | [] => []
  | (L, ch) :: l => some (.mine, L, ch) :: news l

def memAfter (m : Mem) (o : List (Option Chunk)) (n : List (Loc × Chunk)) : Mem := outs m o ++ news n

/-- Behind a function: results and memory, up to labels. -/
def postF (fs : FS) (a : fs.A) (v : SV) (m' : Mem) : Prop :=
  ∃ x g, eqv v (fs.res a x) ∧ memC m' g (memAfter (fs.mem a) (fs.out a) (fs.new a x)) ∧ idNodup (used g (memAfter (fs.mem a) (fs.out a) (fs.new a x))) = true

def outOk : Mem → List (Option Chunk) → Prop
  | [], _ => True
  | _ :: _, [] => True
  | none :: m, _ :: o => outOk m o
  | some (own, L, ch) :: m, some ch' :: o => own = .lent ∧ ch'.ext L = ch.ext L ∧ outOk m o
  | some _ :: m, none :: o => outOk m o
def noMine : Mem → Prop
  | [] => True
  | none :: m => noMine m
  | some (own, _, _) :: m => own ≠ .mine ∧ noMine m

structure FSOk (P : Program) (f : FuncId) (fs : FS) : Prop where
  fn : FnOk P f
  mem : ∀ a, noMine (fs.mem a) ∧ outOk (fs.mem a) (fs.out a)
  calls : ∀ a, fs.pre a → Tri P f (fs.args a) (fs.mem a) (postF fs a)

def ownOk : Own → Own → Prop
  | .ro, _ => True
  | .lent, .ro => False
  | .lent, _ => True
  | .mine, _ => False

def inMem (look : Look) : List Nat → Mem → Prop
  | _, [] => True
  | g, none :: m => inMem look g.tail m
  | d :: g, some (own, L, ch) :: m => (match look d with | some (own', L', ch') => L' = L ∧ chEq ch' ch ∧ ownOk own own' | none => False) ∧ inMem look g m
  | [], some _ :: _ => False

def isLent : Own → Bool | .lent => true | _ => false
/-- A chunk that is handed over for writing is no other one too. -/
def farOf (d : Nat) (b : Bool) : List Nat → Mem → Bool
  | _, [] => true
  | g, none :: m => farOf d b g.tail m
  | d' :: g, some (own, _, _) :: m => (!(b || isLent own) || !(d == d')) && farOf d b g m
  | [], some _ :: _ => false
def lentOk : List Nat → Mem → Bool
  | _, [] => true
  | g, none :: m => lentOk g.tail m
  | d :: g, some (own, _, _) :: m => farOf d (isLent own) g m && lentOk g m
  | [], some _ :: _ => false

def rho : List Nat → Nat → Nat → Nat
  | [], k, i => k + i
  | d :: _, _, 0 => d
  | _ :: g, k, i + 1 => rho g k i

def updO (look : Look) (r : Nat → Nat) : List Nat → Mem → List (Option Chunk) → Upd
  | _, [], _ => []
  | _, _ :: _, [] => []
  | g, none :: m, _ :: o => updO look r g.tail m o
  | d :: g, some _ :: m, some ch' :: o => (d, match look d with | some (own, L, _) => some (own, L, relabC r ch') | none => none) :: updO look r g m o
  | g, some _ :: m, none :: o => updO look r g.tail m o
  | [], some _ :: _, some _ :: _ => []
def updN (r : Nat → Nat) (k : Nat) : List (Loc × Chunk) → Upd
  | [] => []
  | (L, ch) :: l => (k, some (.mine, L, relabC r ch)) :: updN r (k + 1) l

def apnd (u v : Upd) : Upd := match u with | [] => v | a :: u => a :: apnd u v

def spOf (fs : FS) (inv : List SV → Look → Option (fs.A × List Nat)) (as : List SV) (look : Look) (x : Nat → Loc) (k : Nat) : R :=
  match inv as look with
  | none => none
  | some (a, g) => some (eqvs as (fs.args a) ∧ inMem look g (fs.mem a) ∧ lentOk g (fs.mem a) = true ∧ g.length = (fs.mem a).length ∧ fs.pre a,
      relab (rho g k) (fs.res a (fun j => x (k + j))),
      apnd (updO look (rho g k) g (fs.mem a) (fs.out a)) (updN (rho g k) k (fs.new a (fun j => x (k + j)))))

abbrev Entry := List SV → Look → (Nat → Loc) → Nat → R

structure EntryOk (P : Program) (f : FuncId) (F : Entry) : Prop where
  fn : FnOk P f
  calls : ∀ as vs k w0 W m look w, Dens as vs → MemSat w0 W m w → Kept w0 W w → (∀ c e, look c = some e → lk m c = some e) → (∀ x, ∃ p v u, F as look x k = some (p, v, u) ∧ p) →
    Calls P f vs.toArray w fun e w' => ∃ x p v u rv, F as look x k = some (p, v, u) ∧ p ∧ e = .returned rv ∧ Den v rv ∧ MemSat w0 W (apU m u) w' ∧ Kept w0 W w'

def spList : List (FuncId × Entry) → Sp
  | [], _ => fun _ _ _ _ => none
  | (g, F) :: l, f => bif g == f then F else spList l f

def allOk (P : Program) : List (FuncId × Entry) → Prop
  | [] => True
  | (g, F) :: l => EntryOk P g F ∧ allOk P l

theorem spList_ok {P : Program} : ∀ {l : List (FuncId × Entry)}, allOk P l → SpOk P (spList l)
  | [], _ => ⟨fun f as look x k r h => by simp [spList] at h, fun f as vs k w0 W m look w _ _ _ _ h => by
      obtain ⟨p, v, u, h, _⟩ := h (fun _ => default); simp [spList] at h⟩
  | (g, F) :: l, h => by
    have ih := spList_ok h.2
    refine ⟨fun f as look x k r hh => ?_, fun f as vs k w0 W m look w h1 h2 h3 h4 h5 => ?_⟩
    · simp only [spList] at hh
      cases e : (g == f) with
      | true => have : g = f := by simpa using e
                subst this; exact h.1.fn
      | false => rw [e] at hh; exact ih.fn _ _ _ _ _ _ hh
    · simp only [spList] at h5 ⊢
      cases e : (g == f) with
      | true =>
        have : g = f := by simpa using e
        subst this
        rw [e] at h5
        exact h.1.calls as vs k w0 W m look w h1 h2 h3 h4 h5
      | false =>
        rw [e] at h5
        exact ih.calls f as vs k w0 W m look w h1 h2 h3 h4 h5

abbrev EntryP := List SV → Option (Prop × SV)
def EntryPOk (P : Program) (f : FuncId) (F : EntryP) : Prop := FnOk P f ∧ ∀ as p v, F as = some (p, v) → p → Tri P f as [] fun v' _ => v' = v
def spPList : List (FuncId × EntryP) → SpP
  | [], _ => fun _ => none
  | (g, F) :: l, f => bif g == f then F else spPList l f
def allPOk (P : Program) : List (FuncId × EntryP) → Prop
  | [] => True
  | (g, F) :: l => EntryPOk P g F ∧ allPOk P l

theorem lentW_nil (a : Addr) : ¬ lentW [] a := by
  rintro ⟨c, L, ch, h, _⟩
  simp [lk] at h

theorem spPList_ok {P : Program} : ∀ {l : List (FuncId × EntryP)}, allPOk P l → SpPOk P (spPList l)
  | [], _ => ⟨fun f as r h => by simp [spPList] at h, fun f as vs p v w _ h => by simp [spPList] at h⟩
  | (g, F) :: l, h => by
    have ih := spPList_ok h.2
    refine ⟨fun f as r hh => ?_, fun f as vs p v w h1 h2 h3 => ?_⟩
    · simp only [spPList] at hh
      cases e : (g == f) with
      | true => have : g = f := by simpa using e
                subst this; exact h.1.1
      | false => rw [e] at hh; exact ih.fn _ _ _ hh
    · simp only [spPList] at h2
      cases e : (g == f) with
      | true =>
        have : g = f := by simpa using e
        subst this
        rw [e] at h2
        have := h.1.2 as p v h2 h3 w vs h1 ⟨fun c e he => by simp [lk] at he, fun c d e f _ he => by simp [lk] at he⟩
        refine this.mono fun e w' hh => ?_
        obtain ⟨v', m', rv, rfl, rfl, hd, _, hk⟩ := hh
        refine ⟨rv, rfl, hd, ⟨hk.os, hk.tape, hk.output, hk.size, fun b hb => hk.block b hb fun o => lentW_nil _⟩⟩
      | false =>
        rw [e] at h2
        exact ih.calls f as vs p v w h1 h2 h3

end Go.Proofs.Ytnmbimhcfioeiaa.Xf
