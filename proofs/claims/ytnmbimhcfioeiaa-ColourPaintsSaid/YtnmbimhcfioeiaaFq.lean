import Derived.Test.YtnmbimhcfioeiaaFo
import Derived.LoopN
set_option linter.unusedVariables false
set_option linter.unusedSimpArgs false
/-! Xf, part q: statements. -/
namespace Go.Proofs.Ytnmbimhcfioeiaa.Xf

inductive IR where
  | skip
  | reg (draw : Bool) (ops : List IRO) (kill : List Nat) (km : List Nat)
  | seq (a b : IR)
  | cond (c : Opd) (a b : IR)
  | block (id : Nat) (b : IR)
  | loop (b : IR)
  | exit (id : Nat)
  | ret
  deriving Inhabited

def killE {α : Type} (sl : List (Option α)) : List Nat → List (Option α)
  | [] => sl
  | n :: l => killE (st sl n none) l

theorem killE_lk {α : Type} : ∀ (l : List Nat) (sl : List (Option α)) (n : Nat) (e : α), lk (killE sl l) n = some e → lk sl n = some e
  | [], sl, n, e, h => h
  | k :: l, sl, n, e, h => by
    have := killE_lk l _ n e h
    rw [lk_st] at this
    split at this
    · cases this
    · exact this
theorem killE_length {α : Type} : ∀ (l : List Nat) (sl : List (Option α)), (killE sl l).length = sl.length
  | [], sl => rfl
  | k :: l, sl => by rw [killE, killE_length l, st_length]

theorem Sat.kill {w0 w : World} {W : Addr → Prop} {sl : List Ent} {m : Mem} {a : Act} (h : Sat w0 W sl m a w) (l k : List Nat) : Sat w0 W (killE sl l) (killE m k) a w :=
  ⟨h.defers, by rw [killE_length]; exact h.size, fun n c v hl => h.slots n c v (killE_lk l _ _ _ hl), h.mem.sub fun c e he => killE_lk k _ _ _ he, h.kept⟩

/-- One state tells no more than another. -/
def Sub (sl : List Ent) (m : Mem) (sl' : List Ent) (m' : Mem) : Prop := ∀ w0 W a w, Sat w0 W sl m a w → Sat w0 W sl' m' a w

abbrev KT := List Ent → Mem → Prop

def extAdd (id : Nat) (N : KT) (E : Nat → KT) : Nat → KT := fun i => if i = id then N else E i

def ev (sp : Sp) (spP : SpP) : IR → KT → (Nat → KT) → KT → List Ent → Mem → Prop
  | .skip, N, _, _, sl, m => N sl m
  | .reg _ ops ks km, N, _, _, sl, m => evR sp spP ops sl m fun sl m => N (killE sl ks) (killE m km)
  | .seq a b, N, E, T, sl, m => ev sp spP a (fun sl m => ev sp spP b N E T sl m) E T sl m
  | .cond c a b, N, E, T, sl, m => match en sl c with
    | some (cc, .bool t) => cc = true ∧ (t = true → ev sp spP a N E T sl m) ∧ (t = false → ev sp spP b N E T sl m)
    | _ => False
  | .block id b, N, E, T, sl, m => ev sp spP b N (extAdd id N E) T sl m
  | .loop b, _, E, T, sl, m => ∃ (α : Type) (I : α → List Ent × Mem) (R : α → Prop) (μ : α → Nat), (∃ x, R x ∧ Sub sl m (I x).1 (I x).2) ∧
      ∀ x, R x → ev sp spP b (fun sl m => ∃ y, R y ∧ μ y < μ x ∧ Sub sl m (I y).1 (I y).2) E T (I x).1 (I x).2
  | .exit id, _, E, _, sl, m => E id sl m
  | .ret, _, _, T, sl, m => T sl m

def compC (tab : Tab) (isP : FuncId → Bool) (chk : Array Oper → List IRO → Bool) : IR → Code → Option IR
  | .skip, .skip => some .skip
  | .reg d gs ks km, .region _ ops draw => match compR tab isP ops gs ops.toList with
    | some ios => bif draw && !(chk ops ios) then none else some (.reg draw ios ks km)
    | none => none
  | .seq x y, .seq a b => match compC tab isP chk x a, compC tab isP chk y b with | some x, some y => some (.seq x y) | _, _ => none
  | .cond _ x y, .cond c a b => match opd c, compC tab isP chk x a, compC tab isP chk y b with | some c, some x, some y => some (.cond c x y) | _, _, _ => none
  | .block _ x, .block id a => match compC tab isP chk x a with | some x => some (.block id x) | none => none
  | .loop x, .loop a => match compC tab isP chk x a with | some x => some (.loop x) | none => none
  | .exit _, .exit id => some (.exit id)
  | .ret, .ret => some .ret
  | _, _ => none

section
variable {P : Program} {sp : Sp} {spP : SpP} {w0 : World} {W : Addr → Prop} {tab : Tab} {isP : FuncId → Bool} {chk : Array Oper → List IRO → Bool}

/-- What a drawn region owes. -/
def DrawOk (P : Program) (tab : Tab) (isP : FuncId → Bool) (sp : Sp) (spP : SpP) (chk : Array Oper → List IRO → Bool) : Prop :=
  ∀ (ops : Array Oper) (ios gs : List IRO), compR tab isP ops gs ops.toList = some ios → chk ops ios = true → ∀ (w0 : World) (W : Addr → Prop) (id : Nat) (sl : List Ent) (m : Mem) (a : Act) (w : World) (K' : KT) (Q : Exit → Act → World → Prop),
    (∀ sl' m' a' w', K' sl' m' → Sat w0 W sl' m' a' w' → Q .normal a' w') → Sat w0 W sl m a w → evR sp spP ios sl m K' → (Code.region id ops true).wp P Q a w

structure Hyp (P : Program) (tab : Tab) (isP : FuncId → Bool) (sp : Sp) (spP : SpP) (chk : Array Oper → List IRO → Bool) : Prop where
  hT : ∀ t tt, tab t = some tt → TtOk P t tt
  hP : SpPOk P spP
  hS : SpOk P sp
  hD : DrawOk P tab isP sp spP chk

/-- How the ends of a statement go with what is to be shown behind it. -/
structure Ends (w0 : World) (W : Addr → Prop) (Q : Exit → Act → World → Prop) (E : Nat → KT) (T : KT) : Prop where
  ext : ∀ id sl m a w, E id sl m → Sat w0 W sl m a w → Q (.exit id) a w
  ret : ∀ sl m a w, T sl m → Sat w0 W sl m a w → Q .ret a w

theorem comp_skip {gd : IR} {code : Code} (h : compC tab isP chk gd code = some .skip) : code = .skip := by
  cases gd <;> cases code <;> simp only [compC] at h <;> first | rfl | (cases h; done) | (split at h <;> cases h; done) | skip
  rename_i id ops draw
  split at h
  · rename_i ios _
    cases hd : (draw && !(chk ops ios)) <;> simp [hd] at h
  · cases h
theorem comp_reg {gd : IR} {code : Code} {d : Bool} {ios : List IRO} {ks km : List Nat} (h : compC tab isP chk gd code = some (.reg d ios ks km)) :
    ∃ id ops gs, code = .region id ops d ∧ compR tab isP ops gs ops.toList = some ios ∧ (d = true → chk ops ios = true) := by
  cases gd <;> cases code <;> simp only [compC] at h <;> first | (cases h; done) | (split at h <;> cases h; done) | skip
  rename_i id ops draw
  split at h
  · rename_i ios' hh
    cases hd : (draw && !(chk ops ios')) with
    | true => simp [hd] at h
    | false =>
      simp only [hd, cond_false] at h
      cases h
      exact ⟨_, _, _, rfl, hh, by simpa using hd⟩
  · cases h
theorem comp_seq {gd : IR} {code : Code} {x y : IR} (h : compC tab isP chk gd code = some (.seq x y)) :
    ∃ a b ga gb, code = .seq a b ∧ compC tab isP chk ga a = some x ∧ compC tab isP chk gb b = some y := by
  cases gd <;> cases code <;> simp only [compC] at h <;> first | (cases h; done) | skip
  · rename_i id ops draw
    split at h
    · rename_i ios' hh
      cases hd : (draw && !(chk ops ios')) <;> simp [hd] at h
    · cases h
  all_goals first | (split at h <;> cases h; done) | skip
  split at h
  · rename_i h1 h2; cases h; exact ⟨_, _, _, _, rfl, h1, h2⟩
  · cases h
theorem comp_cond {gd : IR} {code : Code} {c : Opd} {x y : IR} (h : compC tab isP chk gd code = some (.cond c x y)) :
    ∃ C a b ga gb, code = .cond C a b ∧ opd C = some c ∧ compC tab isP chk ga a = some x ∧ compC tab isP chk gb b = some y := by
  cases gd <;> cases code <;> simp only [compC] at h <;> first | (cases h; done) | skip
  · rename_i id ops draw
    split at h
    · rename_i ios' hh
      cases hd : (draw && !(chk ops ios')) <;> simp [hd] at h
    · cases h
  all_goals first | (split at h <;> cases h; done) | skip
  split at h
  · rename_i h0 h1 h2; cases h; exact ⟨_, _, _, _, _, rfl, h0, h1, h2⟩
  · cases h
theorem comp_block {gd : IR} {code : Code} {id : Nat} {x : IR} (h : compC tab isP chk gd code = some (.block id x)) : ∃ a ga, code = .block id a ∧ compC tab isP chk ga a = some x := by
  cases gd <;> cases code <;> simp only [compC] at h <;> first | (cases h; done) | skip
  · rename_i id ops draw
    split at h
    · rename_i ios' hh
      cases hd : (draw && !(chk ops ios')) <;> simp [hd] at h
    · cases h
  all_goals first | (split at h <;> cases h; done) | skip
  split at h
  · rename_i h1; cases h; exact ⟨_, _, rfl, h1⟩
  · cases h
theorem comp_loop {gd : IR} {code : Code} {x : IR} (h : compC tab isP chk gd code = some (.loop x)) : ∃ a ga, code = .loop a ∧ compC tab isP chk ga a = some x := by
  cases gd <;> cases code <;> simp only [compC] at h <;> first | (cases h; done) | skip
  · rename_i id ops draw
    split at h
    · rename_i ios' hh
      cases hd : (draw && !(chk ops ios')) <;> simp [hd] at h
    · cases h
  all_goals first | (split at h <;> cases h; done) | skip
  split at h
  · rename_i h1; cases h; exact ⟨_, _, rfl, h1⟩
  · cases h
theorem comp_exit {gd : IR} {code : Code} {id : Nat} (h : compC tab isP chk gd code = some (.exit id)) : code = .exit id := by
  cases gd <;> cases code <;> simp only [compC] at h <;> first | (cases h; rfl) | (cases h; done) | (split at h <;> cases h; done) | skip
  rename_i id ops draw
  split at h
  · rename_i ios _
    cases hd : (draw && !(chk ops ios)) <;> simp [hd] at h
  · cases h
theorem comp_ret {gd : IR} {code : Code} (h : compC tab isP chk gd code = some .ret) : code = .ret := by
  cases gd <;> cases code <;> simp only [compC] at h <;> first | rfl | (cases h; done) | (split at h <;> cases h; done) | skip
  rename_i id ops draw
  split at h
  · rename_i ios _
    cases hd : (draw && !(chk ops ios)) <;> simp [hd] at h
  · cases h

theorem ev_ok (H : Hyp P tab isP sp spP chk) : ∀ (ir : IR) (code : Code) (gd : IR), compC tab isP chk gd code = some ir → ∀ (N : KT) (E : Nat → KT) (T : KT) (Q : Exit → Act → World → Prop),
    (∀ sl m a w, N sl m → Sat w0 W sl m a w → Q .normal a w) → Ends w0 W Q E T → ∀ (sl : List Ent) (m : Mem) (a : Act) (w : World), Sat w0 W sl m a w → ev sp spP ir N E T sl m → code.wp P Q a w := by
  intro ir
  induction ir with
  | skip =>
    intro code gd hc N E T Q hN hE sl m a w hs h
    obtain rfl := comp_skip hc
    exact wp_skip (hN _ _ _ _ h hs)
  | reg d ios ks km =>
    intro code gd hc N E T Q hN hE sl m a w hs h
    obtain ⟨id, ops, gs, rfl, hcomp, hd⟩ := comp_reg hc
    simp only [ev] at h
    have hQ : ∀ sl' m' a' w', (fun sl m => N (killE sl ks) (killE m km)) sl' m' → Sat w0 W sl' m' a' w' → Q .normal a' w' := fun sl' m' a' w' h1 h2 => hN _ _ _ _ h1 (h2.kill ks km)
    cases d with
    | true => exact H.hD ops _ _ hcomp (hd rfl) w0 W id sl m a w _ Q hQ hs h
    | false =>
      have hg := compR_get hcomp
      have := evR_ok (P := P) (Q := Q) H.hT H.hP H.hS hQ _ 0 sl m a w (fun j io hj => by
        obtain ⟨o, g, h1, h2⟩ := hg.2 j io hj
        exact ⟨o, g, by simpa using h1, h2⟩) hs h
      refine wp_region ?_
      rw [hg.1, ← List.range_eq_range'] at this
      simpa using this
  | seq x y ihx ihy =>
    intro code gd hc N E T Q hN hE sl m a w hs h
    obtain ⟨c1, c2, g1, g2, rfl, h1, h2⟩ := comp_seq hc
    simp only [ev] at h
    exact wp_seq (ihx _ _ h1 (fun sl m => ev sp spP y N E T sl m) E T (Exit.then (c2.wp P Q) Q) (fun sl m a w hn hs => ihy _ _ h2 N E T Q hN hE sl m a w hs hn)
      ⟨fun id sl m a w he hs => hE.ext id sl m a w he hs, fun sl m a w he hs => hE.ret sl m a w he hs⟩ sl m a w hs h)
  | cond c x y ihx ihy =>
    intro code gd hc N E T Q hN hE sl m a w hs h
    obtain ⟨C, c1, c2, g1, g2, rfl, hcc, h1, h2⟩ := comp_cond hc
    simp only [ev] at h
    split at h
    case h_2 => exact h.elim
    rename_i cc t hen
    obtain ⟨k1, k2, k3⟩ := h
    have hd := opd_den hcc hs.ok hen k1
    simp only [Den] at hd
    exact wp_cond_split hd (fun ht => ihx _ _ h1 N E T Q hN hE sl m a w hs (k2 ht)) (fun ht => ihy _ _ h2 N E T Q hN hE sl m a w hs (k3 ht))
  | block id x ih =>
    intro code gd hc N E T Q hN hE sl m a w hs h
    obtain ⟨c1, g1, rfl, h1⟩ := comp_block hc
    simp only [ev] at h
    refine wp_block (ih _ _ h1 N _ T (Exit.inBlock id Q) (fun sl m a w hn hs => hN sl m a w hn hs) ⟨fun i sl m a w he hs => ?_, fun sl m a w he hs => hE.ret sl m a w he hs⟩ sl m a w hs h)
    unfold extAdd at he
    simp only [Exit.inBlock]
    split at he
    · rename_i e; rw [if_pos e]; exact hN sl m a w he hs
    · rename_i e; rw [if_neg e]; exact hE.ext i sl m a w he hs
  | loop x ih =>
    intro code gd hc N E T Q hN hE sl m a w hs h
    obtain ⟨c1, g1, rfl, h1⟩ := comp_loop hc
    simp only [ev] at h
    obtain ⟨α, I, R, μ, ⟨x0, hR0, hsub⟩, hround⟩ := h
    have key : ∀ (n : Nat) (y : α), μ y < n → R y → ∀ a w, Sat w0 W (I y).1 (I y).2 a w → Code.rounds P c1 Q n a w := by
      intro n
      induction n with
      | zero => intro y hy; omega
      | succ n ihn =>
        intro y hy hR a w hs
        rw [rounds_succ]
        exact ih _ _ h1 (fun sl m => ∃ z, R z ∧ μ z < μ y ∧ Sub sl m (I z).1 (I z).2) E T
          (Exit.then (Code.rounds P c1 Q n) Q)
          (fun sl m a w hn hs => by
            obtain ⟨z, hz, hlt, hsb⟩ := hn
            exact ihn z (by omega) hz a w (hsb _ _ _ _ hs))
          ⟨fun id sl m a w he hs => hE.ext id sl m a w he hs, fun sl m a w he hs => hE.ret sl m a w he hs⟩ _ _ a w hs (hround y hR)
    exact wp_loop_rounds (μ x0 + 1) (key _ x0 (by omega) hR0 a w (hsub _ _ _ _ hs))
  | exit id =>
    intro code gd hc N E T Q hN hE sl m a w hs h
    obtain rfl := comp_exit hc
    exact wp_exit (hE.ext _ _ _ _ _ h hs)
  | ret =>
    intro code gd hc N E T Q hN hE sl m a w hs h
    obtain rfl := comp_ret hc
    exact wp_ret (hE.ret _ _ _ _ h hs)

end
end Go.Proofs.Ytnmbimhcfioeiaa.Xf
