import Derived.Test.YtnmbimhcfioeiaaFs
import Derived.Test.YtnmbimhcfioeiaaFu
set_option linter.unusedVariables false
set_option linter.unusedSimpArgs false
/-! Xf, part v: the rules by which a text is reckoned through (all under push_cast, so that one word calls them). -/
namespace Go.Proofs.Ytnmbimhcfioeiaa.Xf
section
variable (sp : Sp) (spP : SpP)

theorem ev_skip (N : KT) (E : Nat → KT) (T : KT) (sl : List Ent) (m : Mem) : ev sp spP .skip N E T sl m = N sl m := rfl
theorem ev_reg (d : Bool) (ops : List IRO) (ks km : List Nat) (N : KT) (E : Nat → KT) (T : KT) (sl : List Ent) (m : Mem) :
    ev sp spP (.reg d ops ks km) N E T sl m = evR sp spP ops sl m fun sl m => N (killE sl ks) (killE m km) := rfl
theorem ev_seq (a b : IR) (N : KT) (E : Nat → KT) (T : KT) (sl : List Ent) (m : Mem) : ev sp spP (.seq a b) N E T sl m = ev sp spP a (fun sl m => ev sp spP b N E T sl m) E T sl m := rfl
theorem ev_cond (c : Opd) (a b : IR) (N : KT) (E : Nat → KT) (T : KT) (sl : List Ent) (m : Mem) : ev sp spP (.cond c a b) N E T sl m = match en sl c with
    | some (cc, .bool t) => cc = true ∧ (t = true → ev sp spP a N E T sl m) ∧ (t = false → ev sp spP b N E T sl m)
    | _ => False := rfl
theorem ev_block (id : Nat) (b : IR) (N : KT) (E : Nat → KT) (T : KT) (sl : List Ent) (m : Mem) : ev sp spP (.block id b) N E T sl m = ev sp spP b N (extAdd id N E) T sl m := rfl
theorem ev_exit (id : Nat) (N : KT) (E : Nat → KT) (T : KT) (sl : List Ent) (m : Mem) : ev sp spP (.exit id) N E T sl m = E id sl m := rfl
theorem ev_ret (N : KT) (E : Nat → KT) (T : KT) (sl : List Ent) (m : Mem) : ev sp spP .ret N E T sl m = T sl m := rfl

/-- A loop: its reading at the head, what holds there, and what goes down. -/
theorem ev_loop {b : IR} {N : KT} {E : Nat → KT} {T : KT} {sl : List Ent} {m : Mem} {α : Type} (I : α → List Ent × Mem) (R : α → Prop) (μ : α → Nat) (x : α) (h0 : R x) (hs : Sub sl m (I x).1 (I x).2)
    (h : ∀ x, R x → ev sp spP b (fun sl m => ∃ y, R y ∧ μ y < μ x ∧ Sub sl m (I y).1 (I y).2) E T (I x).1 (I x).2) : ev sp spP (.loop b) N E T sl m := ⟨α, I, R, μ, ⟨x, h0, hs⟩, h⟩

theorem evR_nil (sl : List Ent) (m : Mem) (K : List Ent → Mem → Prop) : evR sp spP [] sl m K = K sl m := rfl
theorem evR_cons (o : IRO) (os : List IRO) (sl : List Ent) (m : Mem) (K : List Ent → Mem → Prop) : evR sp spP (o :: os) sl m K = evO sp spP o sl m fun sl m => evR sp spP os sl m K := rfl

theorem evO_none (d : Option Nat) (no : Lim) (op : IROp) (sl : List Ent) (m : Mem) (K : List Ent → Mem → Prop) : evO sp spP ⟨d, none, no, op⟩ sl m K =
    bif op.makes then (∀ x, match stepF sp spP no x sl (lk m) op with | none => False | some (p, v, u) => p ∧ K (putE sl d (some (true, v))) (apU m u))
    else (match stepF sp spP no (fun _ => default) sl (lk m) op with | none => False | some (p, v, u) => p ∧ K (putE sl d (some (true, v))) (apU m u)) := by
  have e : ∀ x, stepK sp spP ⟨d, none, no, op⟩ true x sl m K = (match stepF sp spP no x sl (lk m) op with | none => False | some (p, v, u) => p ∧ K (putE sl d (some (true, v))) (apU m u)) := by
    intro x
    unfold stepK
    simp only
    cases stepF sp spP no x sl (lk m) op with
    | none => rfl
    | some r => simp
  simp only [evO, guardOf, e]
theorem evO_some (d : Option Nat) (gd : Nat × Bool) (no : Lim) (op : IROp) (sl : List Ent) (m : Mem) (K : List Ent → Mem → Prop) : evO sp spP ⟨d, some gd, no, op⟩ sl m K =
    match guardOf sl (some gd) with
    | none => False
    | some g => bif op.makes then (∀ x, match stepF sp spP no x sl (lk m) op with | none => False | some (p, v, u) => (g = true → p) ∧ (g = true ∨ u = []) ∧ K (putE sl d (some (g, v))) (apU m u))
      else (match stepF sp spP no (fun _ => default) sl (lk m) op with | none => False | some (p, v, u) => (g = true → p) ∧ (g = true ∨ u = []) ∧ K (putE sl d (some (g, v))) (apU m u)) := rfl

attribute [push_cast] guardOf IROp.makes en noHas refuses lkN lkK pickSV cellsOf size1 binInt shInt binSV binBSV binSSV upTo negSV notSV cvtSV getL setL takeL dropL setsL intsV rdc rdn wrc wrn fillL
  asInts asBools rowOf rowRep intOfs intsZ appCh chLen appF slcHi slcLo noRows chS appO ownLe Own.wr getR setR takeR dropR viewsV viewsU viewsN ldRec demote showOk rcOf rcsOf recOf recsOf stR eqL eqA binASV binNSV nilP updIn apU putE killE lk st inR Chunk.row rv1 rvs retV retK slots0 eqv eqvs chEq chNil idHas idNodup memC used slotC nilSV nilLoc extAdd
attribute [push_cast] cond_true cond_false decide_true decide_false List.length_nil List.length_cons List.map_nil List.map_cons List.nil_append List.cons_append List.replicate List.tail_cons List.tail_nil
  eq_self true_and and_true and_self forall_const Bool.true_and Bool.and_true Bool.false_and Bool.and_false Bool.not_true Bool.not_false Int.zero_add Int.add_zero Nat.add_zero Nat.zero_add
  true_implies implies_true imp_self or_false or_true true_or false_or Bool.cond_false_right Bool.cond_true_left List.all_cons List.all_nil Bool.false_eq_true Bool.true_eq_false
end

theorem TtOk.of {P : Program} {t : TypeId} {tt : TT} {z : Value} {d : TypeDesc} (h1 : (P.info? t).map (fun i => (i.size, i.bytes)) = some (tt.size, tt.bytes)) (h2 : (P.info? t).bind (·.zero) = some z)
    (h3 : Dens tt.zero z.cells.toList) (h4 : tt.agg = false → z.cells = #[z]) (h5 : P.underlying t = some d) (h6 : TKOk d tt.kind) (h7 : (match tt.cmp with | some ks => cmpB P t ks | none => true) = true) (h8 : tt.zero.length = tt.size) : TtOk P t tt := by
  cases hi : P.info? t with
  | none => rw [hi] at h1; cases h1
  | some i =>
    rw [hi] at h1 h2
    simp at h1 h2
    exact ⟨⟨i, hi, h1.1, h1.2, z, h2, h3, h4⟩, ⟨d, h5, h6⟩, fun ks hk => by rw [hk] at h7; exact h7, h8⟩

theorem tri_ev {P : Program} {sp : Sp} {spP : SpP} {tab : Tab} {isP : FuncId → Bool} {chk : Array Oper → List IRO → Bool} (H : Hyp P tab isP sp spP chk) {f : FuncId} {fn : Func} {ir : IR} {rs : List RV} {n : Nat} (hf : P.funcs[f]? = some fn)
    (hcomp : (fn.body.bind fun c => compC tab isP chk ir c) = some ir) (hrv : compRV tab fn.results.toList = some rs) (hn : fn.ntmps = n) {args : List SV} {m : Mem} {post : SV → Mem → Prop} (k : Nat)
    (h : ev sp spP ir (retK rs post) (fun _ _ _ => False) (retK rs post) (slots0 args n) (m ++ List.replicate k none)) : Tri P f args m post := by
  cases hb : fn.body with
  | none => rw [hb] at hcomp; cases hcomp
  | some code => rw [hb] at hcomp; exact tri_of_ev H hf hb hcomp hrv hn h

end Go.Proofs.Ytnmbimhcfioeiaa.Xf
