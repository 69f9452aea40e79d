import Derived.Test.YtnmbimhcfioeiaaFe
set_option linter.unusedVariables false
set_option linter.unusedSimpArgs false
/-! Xf, part f: plain operations. -/
namespace Go.Proofs.Ytnmbimhcfioeiaa.Xf
variable {P : Program} {sp : Sp} {spP : SpP} {no : Lim} {sl : List Ent} {m : Mem} {w0 w : World} {W : Addr → Prop} {a : Act} {tab : Tab} {isP : FuncId → Bool}

theorem done_mov (hs : SlotsOk sl a) (hm : MemSat w0 W m w) (hk : Kept w0 W w) {X : Operand} {ax : Opd} (hax : opd X = some ax)
    (hx : ∀ x, ∃ p v u, stepF sp spP no x sl (lk m) (.mov ax) = some (p, v, u) ∧ p) :
    Done P sp spP no sl m w0 W (.mov ax) (.ok (.value (a.eval X)) w) := by
  refine done_of hm hk (fun x p v u h hp => ?_) hx
  simp only [stepF] at h
  obtain ⟨v0, p', hd, hf, hp'⟩ := o1_den h hp hax hs
  cases hf
  exact ⟨rfl, _, rfl, hd⟩

theorem en_den (hs : SlotsOk sl a) {X : Operand} {ax : Opd} (hax : opd X = some ax) {c : Bool} {v : SV} (h : en sl ax = some (c, v)) (hc : c = true) : Den v (a.eval X) :=
  opd_den hax hs h hc

theorem done_pick (hs : SlotsOk sl a) (hm : MemSat w0 W m w) (hk : Kept w0 W w) {C X Y : Operand} {c ax ay : Opd} (hc : opd C = some c) (hax : opd X = some ax) (hay : opd Y = some ay)
    (hx : ∀ x, ∃ p v u, stepF sp spP no x sl (lk m) (.pick c ax ay) = some (p, v, u) ∧ p) :
    Done P sp spP no sl m w0 W (.pick c ax ay) ((do pure (Next.value (if ← asBool (a.eval C) then a.eval X else a.eval Y)) : Sem Next).run P w) := by
  refine done_of hm hk (fun x p v u h hp => ?_) hx
  simp only [stepF] at h
  split at h
  case h_2 => cases h
  rename_i cc g ca va cb vb h1 h2 h3
  split at h
  · cases h
  rename_i v' hv
  cases h
  obtain ⟨hcc, hca, hcb⟩ := hp
  have hd := en_den hs hc h1 hcc
  simp only [Den] at hd
  refine ⟨rfl, if g then a.eval X else a.eval Y, by cases g <;> simp [hd, asBool], ?_⟩
  cases g with
  | true =>
    have hdx := en_den hs hax h2 (hca rfl)
    unfold pickSV at hv
    split at hv
    · cases hv; simpa using hdx
    · rename_i k x k' y
      by_cases e : k = k' <;> simp [e] at hv
      subst hv; subst e
      simpa using hdx
    · cases hv
  | false =>
    have hdy := en_den hs hay h3 (hcb rfl)
    unfold pickSV at hv
    split at hv
    · cases hv; simpa using hdy
    · rename_i k x k' y
      by_cases e : k = k' <;> simp [e] at hv
      subst hv; subst e
      simpa using hdy
    · cases hv

theorem inR_wrap {k : IntKind} {n : Int} (h : inR k n) : k.wrap n = n := by
  cases k <;> simp only [inR] at h <;> simp [IntKind.wrap, IntKind.bits, IntKind.signed] <;> omega

theorem upTo_some {x : Option (Prop × SV)} {p : Prop} {v : SV} {u : Upd} (h : upTo x = some (p, v, u)) : x = some (p, v) ∧ u = [] := by
  unfold upTo at h
  split at h
  · cases h
  · cases h; exact ⟨rfl, rfl⟩

theorem run_shift (op : BinOp) (k : IntKind) (x y : Int) (yk : IntKind) (h0 : 0 ≤ y) (h1 : y ≤ k.bits) (w : World) :
    (Op.shift .shl k x yk y).run P w = .ok (.int k (k.wrap (x * 2 ^ y.toNat))) w ∧ (Op.shift .shr k x yk y).run P w = .ok (.int k (x / 2 ^ y.toNat)) w := by
  have hn : ¬ y < 0 := by omega
  have hm : min y.toNat k.bits = y.toNat := by omega
  refine ⟨by simp [Op.shift, hn, hm], ?_⟩
  simp only [Op.shift, hn, if_false, hm]
  have : x.fdiv (2 ^ y.toNat) = x / 2 ^ y.toNat := Int.fdiv_eq_ediv_of_nonneg x (by exact Int.le_of_lt (Int.pow_pos (by omega)))
  simp [this]

theorem binInt_run {t : TypeId} {w' : Nat} {op : BinOp} {k : IntKind} {x y : Int} {p : Prop} {v : SV} (h : binInt w' k x y op = some (p, v)) (hp : p) (w : World) :
    ∃ rv, (binOp op t (.int k x) (.int k y)).run P w = .ok rv w ∧ Den v rv := by
  cases op <;> simp only [binInt] at h
  case and => cases h; exact ⟨_, by simp [binOp, Op.intBits]; rfl, by simp [Den, bitop]⟩
  case or => cases h; exact ⟨_, by simp [binOp, Op.intBits]; rfl, by simp [Den, bitop]⟩
  case xor => cases h; exact ⟨_, by simp [binOp, Op.intBits]; rfl, by simp [Den, bitop]⟩
  case andNot => cases h; exact ⟨_, by simp [binOp, Op.intBits]; rfl, by simp [Den, bitop]⟩
  case eql => cases h; exact ⟨.bool (x == y), by simp [binOp, Op.intCmp], by simp only [Den]; congr 1⟩
  case neq => cases h; exact ⟨.bool (x != y), by simp [binOp, Op.intCmp], by simp only [Den]; congr 1⟩
  case lss => cases h; exact ⟨.bool (decide (x < y)), by simp [binOp, Op.intCmp], by simp only [Den]⟩
  case leq => cases h; exact ⟨.bool (decide (x ≤ y)), by simp [binOp, Op.intCmp], by simp only [Den]⟩
  case gtr => cases h; exact ⟨.bool (decide (x > y)), by simp [binOp, Op.intCmp], by simp only [Den, GT.gt]⟩
  case geq => cases h; exact ⟨.bool (decide (x ≥ y)), by simp [binOp, Op.intCmp], by simp only [Den, GE.ge]⟩
  case add =>
    split at h <;> cases h
    · exact ⟨_, by simp [binOp, Op.intArith]; rfl, by simp [Den, inR_wrap hp]⟩
    · exact ⟨_, by simp [binOp, Op.intArith]; rfl, by simp [Den]⟩
  case sub =>
    split at h <;> cases h
    · exact ⟨_, by simp [binOp, Op.intArith]; rfl, by simp [Den, inR_wrap hp]⟩
    · exact ⟨_, by simp [binOp, Op.intArith]; rfl, by simp [Den]⟩
  case mul =>
    split at h <;> cases h
    · exact ⟨_, by simp [binOp, Op.intArith]; rfl, by simp [Den, inR_wrap hp]⟩
    · exact ⟨_, by simp [binOp, Op.intArith]; rfl, by simp [Den]⟩
  case quo =>
    split at h <;> cases h
    · obtain ⟨h0, h1, h2⟩ := hp
      have e : x.tdiv y = x / y := Int.tdiv_eq_ediv_of_nonneg h0
      exact ⟨_, by simp [binOp, Op.intDiv, show y ≠ 0 by omega, e]; rfl, by simp [Den, inR_wrap h2]⟩
    · obtain ⟨h1, h2⟩ := hp
      exact ⟨_, by simp [binOp, Op.intDiv, h1]; rfl, by simp [Den, inR_wrap h2]⟩
  case rem =>
    split at h <;> cases h
    · obtain ⟨h0, h1⟩ := hp
      have e : x.tmod y = x % y := Int.tmod_eq_emod_of_nonneg h0
      exact ⟨_, by simp [binOp, Op.intDiv, show y ≠ 0 by omega, e]; rfl, by simp [Den]⟩
    · exact ⟨_, by simp [binOp, Op.intDiv, hp]; rfl, by simp [Den]⟩
  all_goals cases h

end Go.Proofs.Ytnmbimhcfioeiaa.Xf
