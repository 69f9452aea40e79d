import Derived.Test.YtnmbimhcfioeiaaFy
set_option linter.unusedVariables false
set_option linter.unusedSimpArgs false
/-! Xf, prt z: the rules for calls, and small words for the texts of a seat. -/
namespace Go.Proofs.Ytnmbimhcfioeiaa.Xf

def locs (l : List Loc) : Nat → Loc := fun i => l.getD i default
@[push_cast] theorem locs_0 (a : Loc) (l : List Loc) : locs (a :: l) 0 = a := rfl
@[push_cast] theorem locs_s (a : Loc) (l : List Loc) (n : Nat) : locs (a :: l) (n + 1) = locs l n := rfl

@[push_cast] theorem spList_app (g : FuncId) (F : Entry) (l : List (FuncId × Entry)) (f : FuncId) (vs : List SV) (look : Look) (x : Nat → Loc) (k : Nat) : spList ((g, F) :: l) f vs look x k = bif g == f then F vs look x k else spList l f vs look x k := by
  simp only [spList]; cases g == f <;> rfl
@[push_cast] theorem spPList_app (g : FuncId) (F : EntryP) (l : List (FuncId × EntryP)) (f : FuncId) (vs : List SV) : spPList ((g, F) :: l) f vs = bif g == f then F vs else spPList l f vs := by
  simp only [spPList]; cases g == f <;> rfl
attribute [push_cast] spOf inMem ownOk isLent farOf lentOk rho updO updN apnd relab relabs relabC memAfter outs news noMine outOk slotC

/-- A row that a label shows: numbers; truths; cells. -/
def rowI : Option ME → Option (Loc × IntKind × List Int)
  | some (_, L, .ints k xs) => some (L, k, xs)
  | _ => none
def rowC : Option ME → Option (Loc × List SV)
  | some (_, L, .cells cs) => some (L, cs)
  | _ => none
attribute [push_cast] rowI rowC

theorem mul_bd {a b A B : Int} (h1 : 0 ≤ a) (h2 : a ≤ A) (h3 : 0 ≤ b) (h4 : b ≤ B) : 0 ≤ a * b ∧ a * b ≤ A * B :=
  ⟨Int.mul_nonneg h1 h3, Int.mul_le_mul h2 h4 h3 (Int.le_trans h1 h2)⟩

theorem postF.mk' {fs : FS} {a : fs.A} {v : SV} {m' : Mem} (x : Nat → Loc) (g : List (Option Nat)) (h : eqv v (fs.res a x) ∧ memC m' g (memAfter (fs.mem a) (fs.out a) (fs.new a x)) ∧ idNodup (used g (memAfter (fs.mem a) (fs.out a) (fs.new a x))) = true) :
    postF fs a v m' := ⟨x, g, h⟩

def liftP (F : EntryP) : Entry := fun vs _ _ _ => upTo (F vs)
attribute [push_cast] liftP
theorem EntryPOk.lift {P : Program} {f : FuncId} {F : EntryP} (h : EntryPOk P f F) : EntryOk P f (liftP F) := by
  refine ⟨h.1, fun us vs k w0 W m look w hd hm hk hl hx => ?_⟩
  obtain ⟨p, v, u, h1, h2⟩ := hx (fun _ => default)
  unfold liftP at h1
  cases hF : F us with
  | none => rw [hF] at h1; cases h1
  | some r =>
    obtain ⟨p', v'⟩ := r
    rw [hF] at h1
    cases h1
    have := h.2 us p v hF h2 w vs hd ⟨fun c e he => by simp [lk] at he, fun c d e f _ he => by simp [lk] at he⟩
    refine this.mono fun e w' hh => ?_
    obtain ⟨v1, m', rv, rfl, rfl, hdv, _, hkk⟩ := hh
    have hb : RowKit.Below w.heap.size w w' := ⟨hkk.os, hkk.tape, hkk.output, hkk.size, fun b hb => hkk.block b hb fun o => lentW_nil _⟩
    refine ⟨fun _ => default, p, v1, [], rv, ?_, h2, rfl, hdv, hm.below hb, hk.below' hb⟩
    unfold liftP
    rw [hF]; rfl
theorem Sub.refl (sl : List Ent) (m : Mem) : Sub sl m sl m := fun _ _ _ _ h => h

/-- What a pure function answers. -/
theorem EntryPOk.of {P : Program} {f : FuncId} {F : EntryP} (h : FnOk P f) (hc : ∀ as p v, F as = some (p, v) → p → Tri P f as [] fun v' _ => v' = v) : EntryPOk P f F := ⟨h, hc⟩

@[push_cast] theorem dec_and {p q : Prop} [Decidable p] [Decidable q] : (decide p && decide q) = decide (p ∧ q) := by simp [Bool.decide_and]
@[push_cast] theorem dec_or {p q : Prop} [Decidable p] [Decidable q] : (decide p || decide q) = decide (p ∨ q) := by simp [Bool.decide_or]
@[push_cast] theorem dec_not {p : Prop} [Decidable p] : (!decide p) = decide (¬ p) := by simp
theorem bool_congr {p q : Prop} [Decidable p] [Decidable q] (h : p ↔ q) : SV.bool (decide p) = SV.bool (decide q) := by
  congr 1; exact decide_eq_decide.2 h
@[push_cast] theorem eqv_bool {p q : Prop} [Decidable p] [Decidable q] : (SV.bool (decide p) = SV.bool (decide q)) = (p ↔ q) := by
  simp
@[push_cast] theorem dec_t {p : Prop} [Decidable p] : (decide p = true) = p := by simp
@[push_cast] theorem dec_f {p : Prop} [Decidable p] : (decide p = false) = ¬ p := by simp
/-- bif over a test. -/
@[push_cast] theorem cond_d {α : Type} {p : Prop} [Decidable p] (a : α) : (bif decide p then a else a) = a := by cases decide p <;> rfl

theorem rd_nat (xs : List Int) (i : Nat) : rd xs (i : Int) = xs.getD i 0 := by simp [rd]
theorem rd_lt (xs : List Int) (i : Nat) (h : i < xs.length) : rd xs (i : Int) = xs[i] := by simp [rd, h]

/-- States, by what they hold. -/
def mkS (n : Nat) : List (Nat × SV) → List Ent
  | [] => List.replicate n none
  | (k, v) :: l => st (mkS n l) k (some (true, v))
def mkM (n : Nat) : List (Nat × Own × Loc × Chunk) → Mem
  | [] => List.replicate n none
  | (k, e) :: l => st (mkM n l) k (some e)
attribute [push_cast] mkS mkM

def mkG (n : Nat) : List (Nat × Nat) → List (Option Nat)
  | [] => List.replicate n none
  | (k, d) :: l => st (mkG n l) k (some d)
attribute [push_cast] mkG

/-- The first i are a, the others are b. -/
def fillTo (n i : Nat) (a b : Int) : List Int := List.replicate i a ++ List.replicate (n - i) b
theorem fillTo_length {n i : Nat} (h : i ≤ n) (a b : Int) : (fillTo n i a b).length = n := by simp [fillTo]; omega
theorem fillTo_set {n i : Nat} (h : i < n) (a b : Int) : (fillTo n i a b).set i a = fillTo n (i + 1) a b := by
  unfold fillTo
  rw [List.set_append_right _ _ (by simp)]
  have : n - i = (n - (i + 1)) + 1 := by omega
  rw [this]
  rw [List.replicate_succ, List.replicate_succ' (n := i)]
  simp
theorem fillTo_zero (n : Nat) (a b : Int) : fillTo n 0 a b = List.replicate n b := by simp [fillTo]
theorem fillTo_all (n : Nat) (a b : Int) : fillTo n n a b = List.replicate n a := by simp [fillTo]

theorem rep_snoc (i : Nat) (a : Int) : List.replicate i a ++ [a] = a :: List.replicate i a := by
  rw [← List.replicate_succ', List.replicate_succ]

theorem eq_of_rd {xs ys : List Int} (h : xs.length = ys.length) (hj : ∀ j : Nat, j < xs.length → rd xs j = rd ys j) : xs = ys := by
  apply List.ext_getElem h
  intro i h1 h2
  have := hj i h1
  rwa [rd_lt xs i h1, rd_lt ys i h2] at this

/-- A list by its elements; and one of which the first i are there. -/
def tabl (n : Nat) (f : Nat → Int) : List Int := (List.range n).map f
def prt (n i : Nat) (f : Nat → Int) : List Int := tabl i f ++ List.replicate (n - i) 0
theorem tabl_length (n : Nat) (f : Nat → Int) : (tabl n f).length = n := by simp [tabl]
theorem tabl_zero (f : Nat → Int) : tabl 0 f = [] := rfl
theorem tabl_snoc (n : Nat) (f : Nat → Int) : tabl n f ++ [f n] = tabl (n + 1) f := by simp [tabl, List.range_succ]
theorem prt_length {n i : Nat} (h : i ≤ n) (f : Nat → Int) : (prt n i f).length = n := by simp [prt, tabl_length]; omega
theorem prt_zero (n : Nat) (f : Nat → Int) : prt n 0 f = List.replicate n 0 := by simp [prt, tabl]
theorem prt_all (n : Nat) (f : Nat → Int) : prt n n f = tabl n f := by simp [prt]
theorem prt_set {n i : Nat} (h : i < n) (f : Nat → Int) : (prt n i f).set i (f i) = prt n (i + 1) f := by
  unfold prt
  rw [List.set_append_right _ _ (by simp [tabl_length])]
  have : n - i = (n - (i + 1)) + 1 := by omega
  rw [this, ← tabl_snoc]
  simp [List.replicate_succ, tabl_length]
theorem rd_tabl {n j : Nat} (h : j < n) (f : Nat → Int) : rd (tabl n f) (j : Int) = f j := by
  rw [rd_lt _ _ (by rw [tabl_length]; exact h)]; simp [tabl]
theorem tabl_congr {n : Nat} {f g : Nat → Int} (h : ∀ j, j < n → f j = g j) : tabl n f = tabl n g := by
  unfold tabl
  exact List.map_congr_left fun j hj => h j (by simpa using hj)

end Go.Proofs.Ytnmbimhcfioeiaa.Xf
