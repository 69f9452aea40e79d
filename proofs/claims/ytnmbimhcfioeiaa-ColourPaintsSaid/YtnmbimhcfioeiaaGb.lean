import Derived.Test.YtnmbimhcfioeiaaGa
set_option linter.unusedVariables false
set_option linter.unusedSimpArgs false
/-! Xf: from what is said of a law's function to its row. -/
namespace Go.Proofs.Ytnmbimhcfioeiaa.Xf

theorem LeafsOk.int {w : World} {k : IntKind} {ks : List LK} {ls : List Leaf} {vs : List Value} (h : LeafsOk w (.int k :: ks) ls vs) : ∃ n ls' vs', ls = .int k n :: ls' ∧ vs = .int k n :: vs' ∧ (Lit.int k n).wf = true ∧ LeafsOk w ks ls' vs' := by
  cases ls with
  | nil => cases vs <;> exact h.elim
  | cons l ls =>
    cases vs with
    | nil => exact h.elim
    | cons v vs =>
      cases l with
      | int k' n => obtain ⟨⟨rfl, h1, rfl⟩, h2⟩ := h; exact ⟨n, ls, vs, rfl, rfl, h1, h2⟩
      | bool b => exact h.1.elim
      | row L k' xs => exact h.1.elim
theorem LeafsOk.row {w : World} {k : IntKind} {ks : List LK} {ls : List Leaf} {vs : List Value} (h : LeafsOk w (.row k :: ks) ls vs) :
    ∃ L xs ls' v vs', ls = .row L k xs :: ls' ∧ vs = v :: vs' ∧ (∀ c, Den (.sl c L 1 0 xs.length) v) ∧ (∀ W, ChunkSat w W (.ro, L, .ints k xs) w) ∧ xs.length ≤ 140737488355328 ∧ wfAll k xs ∧ LeafsOk w ks ls' vs' := by
  cases ls with
  | nil => cases vs <;> exact h.elim
  | cons l ls =>
    cases vs with
    | nil => exact h.elim
    | cons v vs =>
      cases l with
      | int k' n => exact h.1.elim
      | bool b => exact h.1.elim
      | row L k' xs => obtain ⟨⟨rfl, h1, h2, h3, h4⟩, h5⟩ := h; exact ⟨L, xs, ls, v, vs, rfl, rfl, h1, h2, h3, h4, h5⟩
theorem LeafsOk.nil {w : World} {ls : List Leaf} {vs : List Value} (h : LeafsOk w [] ls vs) : ls = [] ∧ vs = [] := by
  cases ls <;> cases vs <;> first | exact ⟨rfl, rfl⟩ | exact h.elim

def AllRo (w : World) (m : Mem) : Prop := ∀ c e, lk m c = some e → e.1 = .ro ∧ ∀ W, ChunkSat w W e w
theorem AllRo.nil (w : World) : AllRo w [] := fun c e h => by simp [lk] at h
theorem AllRo.cons {w : World} {L : Loc} {ch : Chunk} {m : Mem} (h : ∀ W, ChunkSat w W (.ro, L, ch) w) (hm : AllRo w m) : AllRo w (some (.ro, L, ch) :: m) := by
  intro c e he
  cases c with
  | zero => simp only [lk] at he; cases he; exact ⟨rfl, h⟩
  | succ c => simp only [lk] at he; exact hm c e he
theorem AllRo.sat {w : World} {m : Mem} (h : AllRo w m) (W : Addr → Prop) : MemSat w W m w :=
  ⟨fun c e he => (h c e he).2 W, fun c d e f _ he _ a ha => by have h1 := (h c e he).1; have h2 := ha.1; rw [h1] at h2; cases h2⟩
theorem AllRo.lent {w : World} {m : Mem} (h : AllRo w m) (a : Addr) : ¬ lentW m a := by
  rintro ⟨c, L, ch, hl, _⟩
  have := (h c _ hl).1
  simp at this

/-- A law's function that hands back true, over memory that it only reads. -/
theorem law_calls {P : Program} {f : FuncId} {args : List SV} {m : Mem} (h : Tri P f args m fun v _ => v = .bool true) {w : World} (hm : AllRo w m) {vs : List Value} (hd : Dens args vs) :
    Calls P f vs.toArray w fun e w' => e = .returned (.bool true) ∧ RowKit.Below w.heap.size w w' := by
  refine (h w vs hd (hm.sat _)).mono fun e w' hh => ?_
  obtain ⟨v, m', rv, rfl, rfl, hdv, _, hk⟩ := hh
  simp only [Den] at hdv
  exact ⟨by rw [hdv], (hk.mono fun a ha => (hm.lent a ha).elim).below⟩

/-- A struct's value, off its reading. -/
theorem struct_open {H : Type} {enc : TypeId × Value → H} {P : Program} {w : World} {held : Bool} {r : Reach} {b0 : Nat} {t : TypeId} {fs : Array Field} {v : Value} {d : DataW H} {p : List MemPlace} {n : Nat} {ks : List LK} (hs : P.underlying t = some (.struct fs))
    (hf : flatF P n t = some ks) (hv : Value.okWide P w r b0 t v) (h : DataW.Trod enc P w 0 (fun _ => true) held t v d p) (hw : ∀ n ∈ d.weights P t, n ≤ reachBytes) : ∃ ls vs, v = .agg vs.toArray ∧ LeafsOk w ks ls vs := by
  obtain ⟨cs, rfl, _⟩ := WideShapes.okWide_struct hs hv
  obtain ⟨fuel, hx⟩ := h
  obtain ⟨ls, hl⟩ := flat_open n t ks hf fuel _ _ hx hw
  exact ⟨ls, cs.toList, by simp, by simpa [Value.cells] using hl⟩

/-- An argument that is no struct, off its reading. -/
theorem one_open {H : Type} {enc : TypeId × Value → H} {P : Program} {w : World} {held : Bool} {r : Reach} {b0 : Nat} {t : TypeId} {v : Value} {d : DataW H} {p : List MemPlace} {n : Nat} {k : LK} (hs : (match P.underlying t with | some (.int _) => true | some .bool => true | some (.slice _) => true | _ => false) = true)
    (hf : flatF P n t = some [k]) (hv : Value.okWide P w r b0 t v) (h : DataW.Trod enc P w 0 (fun _ => true) held t v d p) (hw : ∀ n ∈ d.weights P t, n ≤ reachBytes) : ∃ l, LeafOk w k l v := by
  obtain ⟨fuel, hx⟩ := h
  have hc : v.cells.toList = [v] := by
    split at hs
    · rename_i hu; obtain ⟨n, rfl⟩ := WideShapes.okWide_int hu hv; rfl
    · rename_i hu; obtain ⟨n, rfl⟩ := WideShapes.okWide_bool hu hv; rfl
    · rename_i hu; obtain ⟨a, n, c, rfl⟩ := WideShapes.okWide_slice hu hv; rfl
    · cases hs
  obtain ⟨ls, hl⟩ := flat_open n t [k] hf fuel _ _ hx hw
  rw [hc] at hl
  cases ls with
  | nil => exact hl.elim
  | cons l ls => exact ⟨l, hl.1⟩
theorem LeafOk.toList {w : World} {k : LK} {l : Leaf} {v : Value} (h : LeafOk w k l v) : LeafsOk w [k] [l] [v] := ⟨h, trivial⟩
theorem LeafsOk.bool {w : World} {ks : List LK} {ls : List Leaf} {vs : List Value} (h : LeafsOk w (.bool :: ks) ls vs) : ∃ n ls' vs', ls = .bool n :: ls' ∧ vs = .bool n :: vs' ∧ LeafsOk w ks ls' vs' := by
  cases ls with
  | nil => cases vs <;> exact h.elim
  | cons l ls =>
    cases vs with
    | nil => exact h.elim
    | cons v vs =>
      cases l with
      | int k' n => exact h.1.elim
      | bool b => obtain ⟨h1, h2⟩ := h; simp only [LeafOk] at h1; subst h1; exact ⟨b, ls, vs, rfl, rfl, h2⟩
      | row L k' xs => exact h.1.elim
theorem Den.bool' (b : Bool) : Den (.bool b) (.bool b) := by simp [Den]

theorem Dens.cons {v : SV} {vs : List SV} {x : Value} {xs : List Value} (h : Den v x) (hs : Dens vs xs) : Dens (v :: vs) (x :: xs) := by
  simp only [Dens]; exact ⟨x, xs, rfl, h, hs⟩
theorem Dens.nil : Dens [] [] := by simp [Dens]
theorem Den.agg {cs : List SV} {vs : List Value} (h : Dens cs vs) : Den (.agg cs) (.agg vs.toArray) := by
  simp only [Den]; exact ⟨vs, rfl, h⟩
theorem Den.int (k : IntKind) (n : Int) : Den (.int k n) (.int k n) := by simp [Den]

end Go.Proofs.Ytnmbimhcfioeiaa.Xf
