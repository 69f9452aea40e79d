import Derived.Test.YtnmbimhcfioeiaaFz
import Derived.ProofKit
import Derived.ChangeArms
import Derived.ChangeSlices
import Derived.SizedLaws
set_option linter.unusedVariables false
set_option linter.unusedSimpArgs false
/-! Xf: how inputs read: plain values and rows of numbers, in structs. -/
namespace Go.Proofs.Ytnmbimhcfioeiaa.Xf
open Go.ChangeShapes Go.WideShapes Go.ChangeAt

inductive LK where
  | int (k : IntKind)
  | bool
  | row (k : IntKind)

inductive Leaf where
  | int (k : IntKind) (n : Int)
  | bool (b : Bool)
  | row (L : Loc) (k : IntKind) (xs : List Int)

def Leaf.sv (c : Nat) : Leaf → SV
  | .int k n => .int k n
  | .bool b => .bool b
  | .row L k xs => .sl c L 1 0 xs.length

def wfAll (k : IntKind) (xs : List Int) : Prop := ∀ n ∈ xs, (Lit.int k n).wf = true

def LeafOk (w : World) : LK → Leaf → Value → Prop
  | .int k, .int k' n, v => k' = k ∧ (Lit.int k n).wf = true ∧ v = .int k n
  | .bool, .bool b, v => v = .bool b
  | .row k, .row L k' xs, v => k' = k ∧ (∀ c, Den (.sl c L 1 0 xs.length) v) ∧ (∀ W, ChunkSat w W (.ro, L, .ints k xs) w) ∧ xs.length ≤ 140737488355328 ∧ wfAll k xs
  | _, _, _ => False

def LeafsOk (w : World) : List LK → List Leaf → List Value → Prop
  | [], [], [] => True
  | k :: ks, l :: ls, v :: vs => LeafOk w k l v ∧ LeafsOk w ks ls vs
  | _, _, _ => False

theorem LeafsOk.append {w : World} : ∀ {ks : List LK} {ls : List Leaf} {vs : List Value} {ks' : List LK} {ls' : List Leaf} {vs' : List Value}, LeafsOk w ks ls vs → LeafsOk w ks' ls' vs' → LeafsOk w (ks ++ ks') (ls ++ ls') (vs ++ vs')
  | [], [], [], _, _, _, _, h => h
  | k :: ks, l :: ls, v :: vs, _, _, _, h, h' => ⟨h.1, LeafsOk.append h.2 h'⟩
  | [], [], _ :: _, _, _, _, h, _ => h.elim
  | [], _ :: _, [], _, _, _, h, _ => h.elim
  | [], _ :: _, _ :: _, _, _, _, h, _ => h.elim
  | _ :: _, [], _, _, _, _, h, _ => by cases h
  | _ :: _, _ :: _, [], _, _, _, h, _ => h.elim

def flatFs (P : Program) (g : TypeId → Option (List LK)) (tot : Nat) : Nat → List Field → Option (List LK)
  | off, [] => if off = tot then some [] else none
  | off, f :: fs => if f.offset = off then (match g f.type, flatFs P g tot (off + P.cellsOf f.type) fs with | some a, some b => some (a ++ b) | _, _ => none) else none

def flatF (P : Program) : Nat → TypeId → Option (List LK)
  | 0, _ => none
  | n + 1, t => match P.underlying t with
    | some (.int k) => some [.int k]
    | some .bool => some [.bool]
    | some (.slice e) => match P.underlying e with
      | some (.int k) => if P.cellsOf e = 1 ∧ 0 < P.bytesOf e then some [.row k] else none
      | _ => none
    | some (.struct fs) => flatFs P (flatF P n) (P.cellsOf t) 0 fs.toList
    | _ => none

section
variable {H : Type} {enc : TypeId × Value → H} {P : Program} {w : World} {held : Bool}

theorem row_open {t e : TypeId} {k : IntKind} {fuel : Nat} {cs : List Value} {x : DataW H × List MemPlace} (ht : P.underlying t = some (.slice e)) (he : P.underlying e = some (.int k)) (hc : P.cellsOf e = 1) (hb : 0 < P.bytesOf e)
    (h : DataW.trod enc P w 0 (fun _ => true) held fuel t cs = some x) (hw : ∀ n ∈ x.1.weights P t, n ≤ reachBytes) : ∃ l v, cs = [v] ∧ LeafOk w (.row k) l v := by
  rcases open_ints ht he hc h with ⟨rfl, _⟩ | ⟨a, len, cap, zs, rfl, _, hl, hm, hz, hx, hcell, hwf⟩
  · refine ⟨.row nilLoc k [], _, rfl, rfl, fun c => ?_, fun W => ?_, by simp, by simp [wfAll]⟩
    · simp only [Den, nilLoc0]
      refine ⟨by omega, by simp, by simp, by simp, none, by simp, by simp, by simp⟩
    · exact nil_sat (show chNil (.ints k []) from rfl) .ro
  · simp only [if_true] at hz
    have hlen : cap ≤ 140737488355328 := by
      have hx1 : x.1 = .slice (lits k (zs.take len)) (lits k (zs.drop len)) := by rw [hx]
      rw [hx1] at hw
      unfold DataW.weights at hw
      rw [ht] at hw
      have h1 := hw _ (List.mem_cons_self ..)
      have h2 : (lits (H := H) k (zs.take len)).length + (lits (H := H) k (zs.drop len)).length = cap := by simp [lits]; omega
      rw [h2] at h1
      have h3 : cap ≤ cap * P.bytesOf e := Nat.le_mul_of_pos_right _ hb
      have h4 : reachBytes ≤ 140737488355328 := by decide
      omega
    obtain ⟨b, o, spot⟩ := a
    have hspot : cap ≠ 0 → spot = none := by
      intro hc0
      have := hcell 0 (by omega)
      simpa [Addr.add] using World.cell?_spot this
    refine ⟨.row ⟨b, o, false, cap⟩ k (zs.take len), _, rfl, rfl, fun c => ?_, fun W => ?_, by simp; omega, fun n hn => hwf n (List.mem_of_mem_take hn)⟩
    · simp only [Den]
      have e : (zs.take len).length = len := by simp; omega
      rw [e]
      refine ⟨by omega, by omega, by omega, by simp, some ⟨b, o, spot⟩, by simp, by simp, fun h => ?_⟩
      have : spot = none := hspot (by simpa using h)
      subst this
      simp [Loc.ad]
    · refine ⟨fun o' ho => ?_, fun _ _ _ h => h.elim, fun a ha => (wf_no rfl _ _ a ha).elim, fun h => (by cases h), ⟨by simp; omega, by simp⟩, fun _ _ => trivial⟩
      simp only [Chunk.len, List.length_take] at ho
      have hlt : o' < zs.length := by omega
      have hs : spot = none := hspot (by omega)
      subst hs
      have := hcell o' hlt
      have e2 : (⟨b, o, none⟩ : Addr).add o' = ⟨b, o + o', none⟩ := by by_cases h0 : o' = 0 <;> simp [Addr.add, h0]
      rw [e2] at this
      refine ⟨_, this, ?_⟩
      simp only [Chunk.cell, Den]
      congr 1
      simp only [List.getD_eq_getElem?_getD, List.getElem?_take]
      rw [if_pos (by omega)]

theorem flat_open : ∀ (n : Nat) (t : TypeId) (ks : List LK), flatF P n t = some ks → ∀ (fuel : Nat) (cs : List Value) (x : DataW H × List MemPlace), DataW.trod enc P w 0 (fun _ => true) held fuel t cs = some x → (∀ n ∈ x.1.weights P t, n ≤ reachBytes) → ∃ ls, LeafsOk w ks ls cs
  | 0, t, ks, h, fuel, cs, x, hx, hw => by simp [flatF] at h
  | n + 1, t, ks, h, fuel, cs, x, hx, hw => by
    simp only [flatF] at h
    split at h
    · rename_i k hu
      cases h
      obtain ⟨a, rfl, _, wf⟩ := DataW.trod_int hu hx
      exact ⟨[.int k a], ⟨rfl, wf, rfl⟩, trivial⟩
    · rename_i hu
      cases h
      obtain ⟨b, rfl, _⟩ := DataW.trod_bool hu hx
      exact ⟨[.bool b], rfl, trivial⟩
    · rename_i e hu
      split at h
      case h_2 => cases h
      rename_i k he
      split at h
      case isFalse => cases h
      rename_i hc
      cases h
      obtain ⟨l, v, rfl, hl⟩ := row_open hu he hc.1 hc.2 hx hw
      exact ⟨[l], hl, trivial⟩
    · rename_i fs hu
      obtain ⟨xs, m, _, hxe, hlen, hxl, hf⟩ := DataW.trod_struct hu hx
      have key : ∀ (l : List Field) (off : Nat) (ks : List LK), flatFs P (flatF P n) (P.cellsOf t) off l = some ks → (∀ f ∈ l, ∃ y, DataW.trod enc P w 0 (fun _ => true) held m f.type ((cs.drop f.offset).take (P.cellsOf f.type)) = some y ∧ ∀ n ∈ y.1.weights P f.type, n ≤ reachBytes) → ∃ ls, LeafsOk w ks ls (cs.drop off) := by
        intro l
        induction l with
        | nil =>
          intro off ks hk _
          simp only [flatFs] at hk
          split at hk
          case isFalse => cases hk
          rename_i ho
          cases hk
          refine ⟨[], ?_⟩
          rw [List.drop_eq_nil_of_le (by omega)]
          trivial
        | cons f l ih =>
          intro off ks hk hall
          simp only [flatFs] at hk
          split at hk
          case isFalse => cases hk
          rename_i ho
          split at hk
          case h_2 => cases hk
          rename_i a b h1 h2
          cases hk
          obtain ⟨y, hy, hyw⟩ := hall f (by simp)
          obtain ⟨l1, o1⟩ := flat_open n f.type a h1 m _ y hy hyw
          obtain ⟨l2, o2⟩ := ih _ b h2 (fun g hg => hall g (by simp [hg]))
          refine ⟨l1 ++ l2, ?_⟩
          have e : cs.drop off = (cs.drop f.offset).take (P.cellsOf f.type) ++ cs.drop (off + P.cellsOf f.type) := by
            rw [ho, ← List.drop_drop, List.take_append_drop]
          rw [e]
          exact o1.append o2
      have := key fs.toList 0 ks h (fun f hf' => by
        obtain ⟨i, hi, he⟩ := List.getElem_of_mem hf'
        have hi' : i < fs.size := by simpa using hi
        have := hf i f (by rw [Array.getElem?_eq_getElem hi']; congr 1)
        rw [List.getElem?_eq_getElem (by omega)] at this
        refine ⟨_, this, fun q hq => hw q ?_⟩
        rw [hxe]
        simp only
        unfold DataW.weights
        rw [hu]
        refine DataW.weights_mem_each (j := i) (t := f.type) ?_ ?_ q hq
        · rw [List.getElem?_map, List.getElem?_eq_getElem hi, he]; rfl
        · rw [List.getElem?_map, List.getElem?_eq_getElem (by omega)]; rfl)
      simpa using this
    · cases h
end

end Go.Proofs.Ytnmbimhcfioeiaa.Xf
