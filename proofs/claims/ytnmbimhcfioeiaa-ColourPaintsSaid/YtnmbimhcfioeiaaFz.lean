import Derived.Test.YtnmbimhcfioeiaaFy
set_option linter.unusedVariables false
set_option linter.unusedSimpArgs false
/-! Xf, prt z: the rules for calls, and small words for the texts of a seat. -/
namespace Go.Proofs.Ytnmbimhcfioeiaa.Xf

def locs (l : List Loc) : Nat → Loc := fun i => l.getD i default
@[push_cast] theorem locs_0 (a : Loc) (l : List Loc) : locs (a :: l) 0 = a := rfl
@[push_cast] theorem locs_s (a : Loc) (l : List Loc) (n : Nat) : locs (a :: l) (n + 1) = locs l n := rfl

@[push_cast] theorem spList_app (g : FuncId) (F : Entry) (l : List (FuncId × Entry)) (f : FuncId) (vs : List SV) (look : Look) (x : Nat → Loc) (k : Nat) : spList ((g, F) :: l) f vs look x k = bif g == f then F vs look x k else spList l f vs look x k := by
  simp only [spList]; cases g == f <;> rfl
@[push_cast] theorem spPList_app (g : FuncId) (F : EntryP) (l : List (FuncId × EntryP)) (f : FuncId) (vs : List SV) : spPList ((g, F) :: l) f vs = bif g == f then F vs else spPList l f vs := by
  simp only [spPList]; cases g == f <;> rfl
attribute [push_cast] spOf inMem ownOk isLent farOf lentOk rho gAt shrOk updO updO1 updN joinO newOwn newOwnC apnd relab relabs relabC memAfter outs news noMine argOwn Chunk.frArg outOk slotC

/-- What a label shows; of a nil slice nothing of some kind. -/
def lkZ (look : Look) (ch : Chunk) (c : Nat) : Option ME := bif c == 4096 then some (.ro, nilLoc, ch) else look c
attribute [push_cast] lkZ
/-- Records that a label shows. -/
def rowR : Option ME → Option (Loc × Nat × List RC × List (List RC))
  | some (_, L, .recs s _ z l) => some (L, s, z, l)
  | _ => none
attribute [push_cast] rowR
/-- A row that a label shows: numbers; truths; cells. -/
def rowI : Option ME → Option (Loc × IntKind × List Int)
  | some (_, L, .ints k xs) => some (L, k, xs)
  | _ => none
def rowC : Option ME → Option (Loc × List SV)
  | some (_, L, .cells cs) => some (L, cs)
  | _ => none
attribute [push_cast] rowI rowC

theorem mul_bd {a b A B : Int} (h1 : 0 ≤ a) (h2 : a ≤ A) (h3 : 0 ≤ b) (h4 : b ≤ B) : 0 ≤ a * b ∧ a * b ≤ A * B :=
  ⟨Int.mul_nonneg h1 h3, Int.mul_le_mul h2 h4 h3 (Int.le_trans h1 h2)⟩

theorem postF.mk' {fs : FS} {a : fs.A} {v : SV} {m' : Mem} (x : Nat → Loc) (g : List (Option Nat)) (h : eqv v (fs.res a x) ∧ memC m' g (memAfter (fs.mem a) (fs.out a x) fs.newGot (fs.new a x)) ∧ idNodup (used g (memAfter (fs.mem a) (fs.out a x) fs.newGot (fs.new a x))) = true) :
    postF fs a v m' := ⟨x, g, h⟩

def liftP (F : EntryP) : Entry := fun vs _ _ _ => upTo (F vs)
attribute [push_cast] liftP
theorem EntryPOk.lift {P : Program} {f : FuncId} {F : EntryP} (h : EntryPOk P f F) : EntryOk P f (liftP F) := by
  refine ⟨h.1, fun us vs k w0 W m look w hd hm hk hl hx => ?_⟩
  obtain ⟨p, v, u, h1, h2⟩ := hx (fun _ => default)
  unfold liftP at h1
  cases hF : F us with
  | none => rw [hF] at h1; cases h1
  | some r =>
    obtain ⟨p', v'⟩ := r
    rw [hF] at h1
    cases h1
    have := h.2 us p v hF h2 w vs hd ⟨fun c e he => by simp [lk] at he, fun c d e f _ he => by simp [lk] at he⟩
    refine this.mono fun e w' hh => ?_
    obtain ⟨v1, m', rv, rfl, rfl, hdv, _, hkk⟩ := hh
    have hb : RowKit.Below w.heap.size w w' := ⟨hkk.os, hkk.tape, hkk.output, hkk.size, fun b hb => hkk.block b hb fun o => lentW_nil _⟩
    refine ⟨fun _ => default, p, v1, [], rv, ?_, h2, rfl, hdv, hm.below hb, hk.below' hb⟩
    unfold liftP
    rw [hF]; rfl
theorem Sub.refl (sl : List Ent) (m : Mem) : Sub sl m sl m := fun _ _ _ _ h => h

/-- What a pure function answers. -/
theorem EntryPOk.of {P : Program} {f : FuncId} {F : EntryP} (h : FnOk P f) (hc : ∀ as p v, F as = some (p, v) → p → Tri P f as [] fun v' _ => v' = v) : EntryPOk P f F := ⟨h, hc⟩

@[push_cast] theorem dec_and {p q : Prop} [Decidable p] [Decidable q] : (decide p && decide q) = decide (p ∧ q) := by simp [Bool.decide_and]
@[push_cast] theorem dec_or {p q : Prop} [Decidable p] [Decidable q] : (decide p || decide q) = decide (p ∨ q) := by simp [Bool.decide_or]
@[push_cast] theorem dec_not {p : Prop} [Decidable p] : (!decide p) = decide (¬ p) := by simp
theorem bool_congr {p q : Prop} [Decidable p] [Decidable q] (h : p ↔ q) : SV.bool (decide p) = SV.bool (decide q) := by
  congr 1; exact decide_eq_decide.2 h
@[push_cast] theorem eqv_bool {p q : Prop} [Decidable p] [Decidable q] : (SV.bool (decide p) = SV.bool (decide q)) = (p ↔ q) := by
  simp
@[push_cast] theorem dec_t {p : Prop} [Decidable p] : (decide p = true) = p := by simp
@[push_cast] theorem dec_f {p : Prop} [Decidable p] : (decide p = false) = ¬ p := by simp
/-- bif over a test. -/
@[push_cast] theorem cond_d {α : Type} {p : Prop} [Decidable p] (a : α) : (bif decide p then a else a) = a := by cases decide p <;> rfl

theorem rd_nat (xs : List Int) (i : Nat) : rd xs (i : Int) = xs.getD i 0 := by simp [rd]
theorem rd_lt (xs : List Int) (i : Nat) (h : i < xs.length) : rd xs (i : Int) = xs[i] := by simp [rd, h]

/-- States, by what they hold. -/
def mkS (n : Nat) : List (Nat × SV) → List Ent
  | [] => List.replicate n none
  | (k, v) :: l => st (mkS n l) k (some (true, v))
def mkM (n : Nat) : List (Nat × Own × Loc × Chunk) → Mem
  | [] => List.replicate n none
  | (k, e) :: l => st (mkM n l) k (some e)
attribute [push_cast] mkS mkM

def mkG (n : Nat) : List (Nat × Nat) → List (Option Nat)
  | [] => List.replicate n none
  | (k, d) :: l => st (mkG n l) k (some d)
attribute [push_cast] mkG

/-- States, turned at some slots and labels. -/
def upS (sl : List Ent) : List (Nat × SV) → List Ent
  | [] => sl
  | (k, v) :: l => st (upS sl l) k (some (true, v))
def upM (m : Mem) : List (Nat × Own × Loc × Chunk) → Mem
  | [] => m
  | (k, e) :: l => st (upM m l) k (some e)
def keepE (keep : List Nat) : Nat → List Ent → List Ent
  | _, [] => []
  | i, e :: sl => (bif noHas keep i then e else none) :: keepE keep (i + 1) sl
attribute [push_cast] upS upM keepE

/-- A loop, by what a round turns: keep, the slots that live at its head; kl, the labels that a round makes; u, um: what stands in slots and labels at its head. -/
theorem evS_loopU {sp : Sp} {spP : SpP} {T : KT} {b : IR} {S : List Item} {sl : List Ent} {m : Mem} {A : Type} (keep kl : List Nat) (u : A → List (Nat × SV)) (um : A → List (Nat × Own × Loc × Chunk)) (R : A → Prop) (mu : A → Nat) (x0 : A) (h0 : R x0)
    (hs : Sub sl m (upS (keepE keep 0 sl) (u x0)) (upM (killE m kl) (um x0)))
    (h : ∀ x, R x → ∀ K : KT, (∀ y, R y → mu y < mu x → ∀ sl' m', Sub sl' m' (upS (keepE keep 0 sl) (u y)) (upM (killE m kl) (um y)) → K sl' m') →
      evS sp spP T (.code b :: .lp K :: S) (upS (keepE keep 0 sl) (u x)) (upM (killE m kl) (um x))) : evS sp spP T (.code (.loop b) :: S) sl m := by
  refine evS_loop sp spP T ⟨A, fun x => (upS (keepE keep 0 sl) (u x), upM (killE m kl) (um x)), R, mu⟩ x0 h0 hs fun x hx => ?_
  exact h x hx _ fun y hy hm sl' m' hsub => ⟨y, hy, hm, hsub⟩
@[push_cast] theorem evS_lpK (sp : Sp) (spP : SpP) (T : KT) (K : KT) (S : List Item) (sl : List Ent) (m : Mem) : evS sp spP T (.lp K :: S) sl m = K sl m := rfl

theorem lpK_mk {sl : List Ent} {m : Mem} {l : LoopS} {x : l.A} (y : l.A) (h0 : l.R y) (hm : l.mu y < l.mu x) (hs : Sub sl m (l.I y).1 (l.I y).2) : lpK l x sl m := ⟨y, h0, hm, hs⟩

/-- Memory that tells no more, label by label. -/
def memI : Mem → Mem → Prop
  | _, [] => True
  | [], none :: m' => memI [] m'
  | _ :: m, none :: m' => memI m m'
  | some (own, L, ch) :: m, some (own', L', ch') :: m' => ownLe own own' ∧ L = L' ∧ chEq ch ch' ∧ memI m m'
  | none :: m, some (_, L', ch') :: m' => L' = nilLoc ∧ chNil ch' ∧ memI m m'
  | [], some _ :: _ => False
attribute [push_cast] memI
theorem memI_get : ∀ {m m' : Mem}, memI m m' → ∀ {c : Nat} {own' : Own} {L' : Loc} {ch' : Chunk}, lk m' c = some (own', L', ch') → (∃ own ch, lk m c = some (own, L', ch) ∧ ownLe own own' ∧ chEq ch ch') ∨ (L' = nilLoc ∧ chNil ch')
  | m, [], h, c, own', L', ch', hc => by simp [lk] at hc
  | [], none :: m', h, c, own', L', ch', hc => by
    cases c with
    | zero => simp [lk] at hc
    | succ c => rcases memI_get (m := []) (by simpa [memI] using h) (by simpa [lk] using hc) with ⟨own, ch, h1, _⟩ | h; simp [lk] at h1; exact .inr h
  | [], some _ :: m', h, c, own', L', ch', hc => h.elim
  | x :: m, none :: m', h, c, own', L', ch', hc => by
    cases c with
    | zero => simp [lk] at hc
    | succ c => simp only [lk] at hc ⊢; exact memI_get (by simpa [memI] using h) hc
  | none :: m, some (ow, L2, c2) :: m', h, c, own', L', ch', hc => by
    simp only [memI] at h
    cases c with
    | zero => simp only [lk] at hc; cases hc; exact .inr ⟨h.1, h.2.1⟩
    | succ c => simp only [lk] at hc ⊢; exact memI_get h.2.2 hc
  | some (ow1, L1, c1) :: m, some (ow, L2, c2) :: m', h, c, own', L', ch', hc => by
    simp only [memI] at h
    cases c with
    | zero => simp only [lk] at hc ⊢; cases hc; obtain ⟨h1, rfl, h3, _⟩ := h; exact .inl ⟨ow1, c1, rfl, h1, h3⟩
    | succ c => simp only [lk] at hc ⊢; exact memI_get h.2.2.2 hc
theorem MemSat.memI {w0 w : World} {W : Addr → Prop} {m m' : Mem} (h : MemSat w0 W m w) (hc : memI m m') : MemSat w0 W m' w := by
  refine ⟨fun c e he => ?_, fun c d e f hcd he hf a ha hra => ?_⟩
  · obtain ⟨own, L, ch⟩ := e
    rcases memI_get hc he with ⟨own0, ch0, h1, h2, h3⟩ | ⟨rfl, h3⟩
    · exact (h.chunk c _ h1).eq h3 h2
    · exact nil_sat h3 own
  · obtain ⟨own, L, ch⟩ := e
    obtain ⟨own', L', ch'⟩ := f
    rcases memI_get hc he with ⟨own0, ch0, h1, h2, h3⟩ | ⟨rfl, h3⟩
    · rcases memI_get hc hf with ⟨own1, ch1, k1, k2, k3⟩ | ⟨rfl, k3⟩
      · exact h.sep c d _ _ hcd h1 k1 a ((eq_feet h3 h2 (h.chunk c _ h1).fits).1 a ha) ((eq_feet k3 k2 (h.chunk d _ k1).fits).2.1 a hra)
      · exact (nil_feet k3 _ a).2 hra
    · exact (nil_feet h3 _ a).1 ha
theorem Sub.pt {sl sl' : List Ent} {m m' : Mem} (h : slotC sl sl' ∧ memI m m') : Sub sl m sl' m' := by
  intro w0 W a w hs
  obtain ⟨h1, h2⟩ := h
  have hg := slotC_get h1
  refine ⟨hs.defers, by rw [hs.size, hg.1], fun n c v hl => ?_, hs.mem.memI h2, hs.kept⟩
  obtain ⟨rfl, v0, hl0, he⟩ := hg.2 n c v hl
  have := hs.slots n true v0 hl0
  simp only [if_true] at this ⊢
  exact (eqv_den he).1 this

/-- The first i are a, the others are b. -/
def fillTo (n i : Nat) (a b : Int) : List Int := List.replicate i a ++ List.replicate (n - i) b
theorem fillTo_length {n i : Nat} (h : i ≤ n) (a b : Int) : (fillTo n i a b).length = n := by simp [fillTo]; omega
theorem fillTo_set {n i : Nat} (h : i < n) (a b : Int) : (fillTo n i a b).set i a = fillTo n (i + 1) a b := by
  unfold fillTo
  rw [List.set_append_right _ _ (by simp)]
  have : n - i = (n - (i + 1)) + 1 := by omega
  rw [this]
  rw [List.replicate_succ, List.replicate_succ' (n := i)]
  simp
theorem fillTo_zero (n : Nat) (a b : Int) : fillTo n 0 a b = List.replicate n b := by simp [fillTo]
theorem fillTo_all (n : Nat) (a b : Int) : fillTo n n a b = List.replicate n a := by simp [fillTo]

theorem rep_snoc (i : Nat) (a : Int) : List.replicate i a ++ [a] = a :: List.replicate i a := by
  rw [← List.replicate_succ', List.replicate_succ]

theorem eq_of_rd {xs ys : List Int} (h : xs.length = ys.length) (hj : ∀ j : Nat, j < xs.length → rd xs j = rd ys j) : xs = ys := by
  apply List.ext_getElem h
  intro i h1 h2
  have := hj i h1
  rwa [rd_lt xs i h1, rd_lt ys i h2] at this

/-- A list by its elements; and one of which the first i are there. -/
def tabl (n : Nat) (f : Nat → Int) : List Int := (List.range n).map f
def prt (n i : Nat) (f : Nat → Int) : List Int := tabl i f ++ List.replicate (n - i) 0
theorem tabl_length (n : Nat) (f : Nat → Int) : (tabl n f).length = n := by simp [tabl]
theorem tabl_zero (f : Nat → Int) : tabl 0 f = [] := rfl
theorem tabl_snoc (n : Nat) (f : Nat → Int) : tabl n f ++ [f n] = tabl (n + 1) f := by simp [tabl, List.range_succ]
theorem prt_length {n i : Nat} (h : i ≤ n) (f : Nat → Int) : (prt n i f).length = n := by simp [prt, tabl_length]; omega
theorem prt_zero (n : Nat) (f : Nat → Int) : prt n 0 f = List.replicate n 0 := by simp [prt, tabl]
theorem prt_all (n : Nat) (f : Nat → Int) : prt n n f = tabl n f := by simp [prt]
theorem prt_set {n i : Nat} (h : i < n) (f : Nat → Int) : (prt n i f).set i (f i) = prt n (i + 1) f := by
  unfold prt
  rw [List.set_append_right _ _ (by simp [tabl_length])]
  have : n - i = (n - (i + 1)) + 1 := by omega
  rw [this, ← tabl_snoc]
  simp [List.replicate_succ, tabl_length]
theorem rd_tabl {n j : Nat} (h : j < n) (f : Nat → Int) : rd (tabl n f) (j : Int) = f j := by
  rw [rd_lt _ _ (by rw [tabl_length]; exact h)]; simp [tabl]
theorem tabl_congr {n : Nat} {f g : Nat → Int} (h : ∀ j, j < n → f j = g j) : tabl n f = tabl n g := by
  unfold tabl
  exact List.map_congr_left fun j hj => h j (by simpa using hj)

end Go.Proofs.Ytnmbimhcfioeiaa.Xf
