import Derived.Test.YtefggfjblhniaaaPInverse0
set_option linter.unusedVariables false
set_option linter.unusedSimpArgs false
set_option maxRecDepth 1000
namespace Go.Proofs.Ytefggfjblhniaaa
open Xf
theorem rwL_length (T : LT) (kind : Int) (W w : Nat) (ws : List Int) : ∀ m, (rwL T kind W w ws m).length = ws.length
  | 0 => rfl
  | m + 1 => by rw [rwL, alL_length, rwL_length T kind W w ws m]
theorem clL_length (T : LT) (kind : Int) (W h : Nat) (ws : List Int) : ∀ m, (clL T kind W h ws m).length = ws.length
  | 0 => rfl
  | m + 1 => by rw [clL, alL_length, clL_length T kind W h ws m]
/-- Where a number stands: row and column. -/
theorem place {W k : Nat} : k = k / W * W + k % W := by
  have := Nat.div_add_mod k W
  rw [Nat.mul_comm] at this; exact this.symm
theorem row_le {W k m : Nat} (h : k / W < m) (h2 : k % W < W) : k < m * W := by
  have e := place (W := W) (k := k)
  have : (k / W + 1) * W ≤ m * W := Nat.mul_le_mul_right _ h
  rw [Nat.add_mul] at this
  omega
theorem rwL_at {T : LT} (hT : Trn T) {kind : Int} {W w : Nat} (hw : w ≤ W) (ws : List Int) : ∀ (m : Nat), m * W ≤ ws.length → ∀ k : Nat,
    rd (rwL T kind W w ws m) (k : Int) = if k / W < m ∧ k % W < w then rd (T kind w (rowF ws (((k / W * W : Nat)) : Int) 1 w)) ((k % W : Nat) : Int) else rd ws (k : Int)
  | 0, _, k => by rw [if_neg (fun q => absurd q.1 (Nat.not_lt_zero _))]; rfl
  | m + 1, hm, k => by
    have hm' : m * W + W ≤ ws.length := by rw [Nat.add_mul] at hm; omega
    have ih := rwL_at hT (kind := kind) hw ws m (by omega)
    have eR : rowF (rwL T kind W w ws m) ((m : Int) * W) 1 w = rowF ws ((m * W : Nat) : Int) 1 w := by
      have ec : ((m * W : Nat) : Int) = (m : Int) * W := by simp
      rw [ec]
      refine rowF_congr fun i hi => ?_
      have e : (m : Int) * W + i * 1 = ((m * W + i : Nat) : Int) := by simp
      rw [e, ih, if_neg]
      rintro ⟨q, _⟩
      have : (m * W + i) / W = m := by
        rw [Nat.mul_comm, Nat.mul_add_div (by omega), Nat.div_eq_of_lt (by omega), Nat.add_zero]
      omega
    rw [rwL, alL, eR]
    by_cases hh : k / W = m ∧ k % W < w
    · obtain ⟨h1, h2⟩ := hh
      have ep := place (W := W) (k := k)
      rw [h1] at ep
      have e : ((m : Int) * W + ((k % W : Nat) : Int) * 1).toNat = k := by
        have : ((m * W : Nat) : Int) = (m : Int) * W := by simp
        omega
      have hkl : k < ws.length := by omega
      have hp : (0 : Int) ≤ (m : Int) * W := Int.mul_nonneg (by omega) (by omega)
      have := alS_hit (res := T kind w (rowF ws ((m * W : Nat) : Int) 1 w)) (ws := rwL T kind W w ws m) (a := (m : Int) * W) (b := 1) hp (by omega) (i := k % W) (by rw [e, rwL_length]; exact hkl) (n := w) h2
      rw [e] at this
      rw [this, if_pos ⟨by omega, h2⟩, h1]
    · rw [alS_miss, ih]
      · by_cases c : k / W < m ∧ k % W < w
        · rw [if_pos c, if_pos ⟨by omega, c.2⟩]
        · rw [if_neg c, if_neg]
          rintro ⟨q1, q2⟩
          by_cases e : k / W = m
          · exact hh ⟨e, q2⟩
          · exact c ⟨by omega, q2⟩
      · intro i hi e
        have : ((m * W : Nat) : Int) = (m : Int) * W := by simp
        have ek : k = m * W + i := by omega
        apply hh
        have hd : (m * W + i) / W = m := by
          rw [Nat.mul_comm, Nat.mul_add_div (by omega), Nat.div_eq_of_lt (by omega), Nat.add_zero]
        have hr : (m * W + i) % W = i := by
          rw [Nat.mul_comm, Nat.mul_add_mod, Nat.mod_eq_of_lt (by omega)]
        rw [ek]
        exact ⟨hd, by omega⟩
theorem clL_at {T : LT} (hT : Trn T) {kind : Int} {W h : Nat} (ws : List Int) (hh : h * W ≤ ws.length) : ∀ (m : Nat), m ≤ W → ∀ k : Nat,
    rd (clL T kind W h ws m) (k : Int) = if k % W < m ∧ k / W < h then rd (T kind h (rowF ws ((k % W : Nat) : Int) W h)) ((k / W : Nat) : Int) else rd ws (k : Int)
  | 0, _, k => by rw [if_neg (fun q => absurd q.1 (Nat.not_lt_zero _))]; rfl
  | m + 1, hm, k => by
    have ih := clL_at hT (kind := kind) ws hh m (by omega)
    have hd : ∀ i : Nat, (m + i * W) / W = i ∧ (m + i * W) % W = m := fun i => by
      rw [Nat.add_mul_div_right _ _ (by omega), Nat.div_eq_of_lt (by omega), Nat.zero_add, Nat.add_mul_mod_self_right, Nat.mod_eq_of_lt (by omega)]
      exact ⟨rfl, rfl⟩
    have eR : rowF (clL T kind W h ws m) (m : Int) W h = rowF ws ((m : Nat) : Int) W h := by
      refine rowF_congr fun i hi => ?_
      have e : (m : Int) + i * W = ((m + i * W : Nat) : Int) := by simp
      rw [e, ih, if_neg]
      rintro ⟨q, _⟩
      rw [(hd i).2] at q
      omega
    rw [clL, alL, eR]
    by_cases hc : k % W = m ∧ k / W < h
    · obtain ⟨h1, h2⟩ := hc
      have ep := place (W := W) (k := k)
      rw [h1] at ep
      have e : ((m : Int) + ((k / W : Nat) : Int) * W).toNat = k := by
        have : ((k / W * W : Nat) : Int) = ((k / W : Nat) : Int) * W := by simp
        omega
      have hkl : k < ws.length := Nat.lt_of_lt_of_le (row_le h2 (by omega)) hh
      have := alS_hit (res := T kind h (rowF ws ((m : Nat) : Int) W h)) (ws := clL T kind W h ws m) (a := (m : Int)) (b := W) (by omega) (by omega) (i := k / W) (by rw [e, clL_length]; exact hkl) (n := h) h2
      rw [e] at this
      rw [this, if_pos ⟨by omega, h2⟩, h1]
    · rw [alS_miss, ih]
      · by_cases c : k % W < m ∧ k / W < h
        · rw [if_pos c, if_pos ⟨by omega, c.2⟩]
        · rw [if_neg c, if_neg]
          rintro ⟨q1, q2⟩
          by_cases e : k % W = m
          · exact hc ⟨e, q2⟩
          · exact c ⟨by omega, q2⟩
      · intro i hi e
        have ek : k = m + i * W := by
          have : ((i * W : Nat) : Int) = (i : Int) * W := by simp
          omega
        apply hc
        rw [ek]
        exact ⟨(hd i).2, by rw [(hd i).1]; exact hi⟩
theorem rwL_bd {T : LT} (hT : Trn T) {kind : Int} {W w : Nat} (hw : w ≤ W) {ws : List Int} {m : Nat} (hm : m * W ≤ ws.length) {B : Int} (hB : AllIn (-B) B ws) (h0 : 0 ≤ B) : AllIn (-(3 * B + 1)) (3 * B + 1) (rwL T kind W w ws m) := by
  rw [allIn_rd]
  intro k hk
  rw [rwL_at hT hw ws m hm]
  split
  · exact rd_bd (hT.bd _ _ _ B (rowF_bd hB h0) h0) (by omega) (by omega) _
  · have := rd_bd hB (by omega) h0 (k : Int); omega
theorem clL_bd {T : LT} (hT : Trn T) {kind : Int} {W h : Nat} {ws : List Int} (hh : h * W ≤ ws.length) {m : Nat} (hm : m ≤ W) {B : Int} (hB : AllIn (-B) B ws) (h0 : 0 ≤ B) : AllIn (-(3 * B + 1)) (3 * B + 1) (clL T kind W h ws m) := by
  rw [allIn_rd]
  intro k hk
  rw [clL_at hT ws hh m hm]
  split
  · exact rd_bd (hT.bd _ _ _ B (rowF_bd hB h0) h0) (by omega) (by omega) _
  · have := rd_bd hB (by omega) h0 (k : Int); omega
def stI (T : LT) (kind : Int) (W : Nat) (ws : List Int) (w h : Nat) : List Int := rwL T kind W w (clL T kind W h ws w) h
def hlf (w : Nat) : Nat → Nat
  | 0 => w
  | i + 1 => (hlf w i + 1) / 2
theorem hlf_le (w : Nat) : ∀ i, hlf w i ≤ w
  | 0 => Nat.le_refl _
  | i + 1 => by have := hlf_le w i; simp only [hlf]; omega
def bwd (T : LT) (kind : Int) (W h n : Nat) (ws : List Int) : Nat → List Int
  | 0 => ws
  | i + 1 => stI T kind W (bwd T kind W h n ws i) (hlf W (n - 1 - i)) (hlf h (n - 1 - i))
theorem stI_length (T : LT) (kind : Int) (W : Nat) (ws : List Int) (w h : Nat) : (stI T kind W ws w h).length = ws.length := by rw [stI, rwL_length, clL_length]
theorem bwd_length (T : LT) (kind : Int) (W h n : Nat) (ws : List Int) : ∀ i, (bwd T kind W h n ws i).length = ws.length
  | 0 => rfl
  | i + 1 => by rw [bwd, stI_length, bwd_length T kind W h n ws i]
theorem stI_bd {T : LT} (hT : Trn T) {kind : Int} {W w h : Nat} (hw : w ≤ W) {ws : List Int} (hh : h * W ≤ ws.length) {B : Int} (hB : AllIn (-B) B ws) (h0 : 0 ≤ B) : AllIn (-(9 * B + 4)) (9 * B + 4) (stI T kind W ws w h) := by
  have h1 := rwL_bd hT (kind := kind) hw (by rw [clL_length]; exact hh) (clL_bd hT (kind := kind) hh hw hB h0) (by omega)
  unfold stI
  rw [show 9 * B + 4 = 3 * (3 * B + 1) + 1 by omega]; exact h1
def bnd (B : Int) : Nat → Int
  | 0 => B
  | i + 1 => 9 * bnd B i + 4
theorem bnd_pos {B : Int} (h : 0 ≤ B) : ∀ i, 0 ≤ bnd B i
  | 0 => h
  | i + 1 => by have := bnd_pos h i; simp only [bnd]; omega
theorem hh_len {W h n : Nat} (hn : h * W ≤ n) (i : Nat) : hlf h i * W ≤ n := Nat.le_trans (Nat.mul_le_mul_right _ (hlf_le h i)) hn
theorem bwd_bd {T : LT} (hT : Trn T) {kind : Int} {W h n : Nat} {ws : List Int} (hh : h * W ≤ ws.length) {B : Int} (hB : AllIn (-B) B ws) (h0 : 0 ≤ B) : ∀ i, AllIn (-(bnd B i)) (bnd B i) (bwd T kind W h n ws i)
  | 0 => hB
  | i + 1 => stI_bd hT (hlf_le W _) (by rw [bwd_length]; exact hh_len hh _) (bwd_bd hT hh hB h0 i) (bnd_pos h0 i)
def b53_1 : IR :=
  .seq (.reg false [⟨some 11, none, ⟨[], []⟩, .bin 0 .lss (.t 10) (.t 9)⟩] [] []) (.seq (.cond (.t 11) (.skip) (.exit 0)) (.seq (.block 1 (.seq (.reg false [⟨some 12, none, ⟨[], []⟩, .mov (.t 10)⟩,
    ⟨some 8, none, ⟨[], []⟩, .mov (.t 12)⟩] [11, 12] []) (.reg false [⟨some 13, none, ⟨[], []⟩, .mov (.t 0)⟩,
    ⟨some 14, none, ⟨[], []⟩, .mov (.t 8)⟩,
    ⟨some 15, none, ⟨[], []⟩, .mov (.t 0)⟩,
    ⟨some 16, none, ⟨[], []⟩, .nilc (.t 15)⟩,
    ⟨some 17, none, ⟨[], []⟩, .fld (.t 16) 0⟩,
    ⟨some 18, none, ⟨[], []⟩, .ld false none 0 0 (.t 17)⟩,
    ⟨some 19, none, ⟨[], []⟩, .bin 0 .mul (.t 14) (.t 18)⟩,
    ⟨some 20, none, ⟨[], []⟩, .mov (.t 1)⟩,
    ⟨some 21, none, ⟨[], []⟩, .mov (.t 3)⟩,
    ⟨some 22, none, ⟨[], []⟩, .call none 10 68 [.t 13, .t 19, .k (.int .i64 1), .t 20, .t 21]⟩] [8, 13, 14, 15, 16, 17, 18, 19, 20, 21, 22] []))) (.reg false [⟨some 23, none, ⟨[], []⟩, .bin 0 .add (.t 10) (.k (.int .i64 1))⟩,
    ⟨some 10, none, ⟨[], []⟩, .mov (.t 23)⟩] [23] [])))
def ir53 : IR :=
  .seq (.reg false [⟨some 9, none, ⟨[], []⟩, .mov (.t 2)⟩,
    ⟨some 10, none, ⟨[], []⟩, .mov (.k (.int .i64 0))⟩] [2] []) (.block 0 (.loop b53_1))
def kp53_1 : List Nat := [0, 1, 3, 9, 10]
def kl53_1 : List Nat := [10, 11, 12, 13]
attribute [push_cast] kp53_1 kl53_1
set_option maxRecDepth 4000 in
theorem comp53 : (Try.f53.body.bind fun c => compC tab isP chkAll ir53 c) = some ir53 := by kernel_rfl
def b54_1 : IR :=
  .seq (.reg false [⟨some 11, none, ⟨[], []⟩, .bin 0 .lss (.t 10) (.t 9)⟩] [] []) (.seq (.cond (.t 11) (.skip) (.exit 0)) (.seq (.block 1 (.seq (.reg false [⟨some 12, none, ⟨[], []⟩, .mov (.t 10)⟩,
    ⟨some 8, none, ⟨[], []⟩, .mov (.t 12)⟩] [11, 12] []) (.reg false [⟨some 13, none, ⟨[], []⟩, .mov (.t 0)⟩,
    ⟨some 14, none, ⟨[], []⟩, .mov (.t 8)⟩,
    ⟨some 15, none, ⟨[], []⟩, .mov (.t 0)⟩,
    ⟨some 16, none, ⟨[], []⟩, .nilc (.t 15)⟩,
    ⟨some 17, none, ⟨[], []⟩, .fld (.t 16) 0⟩,
    ⟨some 18, none, ⟨[], []⟩, .ld false none 0 0 (.t 17)⟩,
    ⟨some 19, none, ⟨[], []⟩, .mov (.t 2)⟩,
    ⟨some 20, none, ⟨[], []⟩, .mov (.t 3)⟩,
    ⟨some 21, none, ⟨[], []⟩, .call none 10 68 [.t 13, .t 14, .t 18, .t 19, .t 20]⟩] [8, 13, 14, 15, 16, 17, 18, 19, 20, 21] []))) (.reg false [⟨some 22, none, ⟨[], []⟩, .bin 0 .add (.t 10) (.k (.int .i64 1))⟩,
    ⟨some 10, none, ⟨[], []⟩, .mov (.t 22)⟩] [22] [])))
def ir54 : IR :=
  .seq (.reg false [⟨some 9, none, ⟨[], []⟩, .mov (.t 1)⟩,
    ⟨some 10, none, ⟨[], []⟩, .mov (.k (.int .i64 0))⟩] [1] []) (.block 0 (.loop b54_1))
def kp54_1 : List Nat := [0, 2, 3, 9, 10]
def kl54_1 : List Nat := [10, 11, 12, 13]
attribute [push_cast] kp54_1 kl54_1
set_option maxRecDepth 4000 in
theorem comp54 : (Try.f54.body.bind fun c => compC tab isP chkAll ir54 c) = some ir54 := by kernel_rfl
structure RwA where
  F : Xf.Loc
  LP : Xf.Loc
  W : Nat
  kind : Int
  ws : List Int
  w : Nat
  h : Nat
def fs53u : FS where
  A := RwA
  args := fun a => [.ptr 0 a.F 0 0 0, .int .i64 a.w, .int .i64 a.h, .fn 39 []]
  mem := fun a => [some (.ro, a.F, .cells [.int .i64 a.W, .sl 1 a.LP 1 0 a.ws.length, .int .i64 a.kind]), some (.lent, a.LP, .ints .i64 a.ws)]
  pre := fun a => (a.kind = 0 ∨ a.kind = 1) ∧ a.ws.length ≤ 8192 ∧ a.W ≤ 200 ∧ a.w ≤ a.W ∧ a.h ≤ 200 ∧ a.h * a.W ≤ a.ws.length ∧ AllIn (-375299968947541) 375299968947541 a.ws
  res := fun a x => .tup []
  out := fun a _ => [none, some (some (.ints .i64 (rwL unL a.kind a.W a.w a.ws a.h)))]
  new := fun _ _ => []
def inv53u : List SV → Look → Option (RwA × List Nat)
  | [.ptr c _ _ _ _, .int .i64 w, .int .i64 h, .fn 39 []], look => match rowC (look c) with
    | some (F, [.int .i64 W, .sl c1 _ 1 0 _, .int .i64 kind]) => match rowI (look c1) with
      | some (LP, .i64, ws) => some (⟨F, LP, W.toNat, kind, ws, w.toNat, h.toNat⟩, [c, c1])
      | _ => none
    | _ => none
  | _, _ => none
attribute [push_cast] inv53u
theorem ok53u : FSOk Try.prog 53 fs53u := by
  refine ⟨⟨_, Try.func53, by kernel_rfl, by kernel_rfl⟩, fun a => ⟨by simp [fs53u, push_cast, noMine, argOwn, Chunk.frArg], by simp [fs53u, push_cast, outOk, Chunk.ext], fun x => .inl (by simp [fs53u, push_cast, frNew, frOut, Chunk.fr])⟩, fun a hp => ?_⟩
  obtain ⟨F, LP, W, kind, ws, w, h⟩ := a
  obtain ⟨hk, h1, h2, h3, h4, h5, h6⟩ : (kind = 0 ∨ kind = 1) ∧ ws.length ≤ 8192 ∧ W ≤ 200 ∧ w ≤ W ∧ h ≤ 200 ∧ h * W ≤ ws.length ∧ AllIn (-375299968947541) 375299968947541 ws := hp
  change Tri Try.prog 53 [.ptr 0 F 0 0 0, .int .i64 w, .int .i64 h, .fn 39 []] [some (.ro, F, .cells [.int .i64 W, .sl 1 LP 1 0 ws.length, .int .i64 kind]), some (.lent, LP, .ints .i64 ws)] (postF fs53u ⟨F, LP, W, kind, ws, w, h⟩)
  refine tri_evS (hyp (l := [(68, ent68u)]) (lp := []) ⟨e68u, trivial⟩ trivial) Try.func53 comp53 (rs := []) (by rfl) Try.ntmps53 14 ?_
  simp -implicitDefEqProofs only [push_cast, false_implies, reduceCtorEq, Classical.not_not, Nat.reduceAdd, Nat.reduceSub, Nat.reduceMul, Nat.reduceLeDiff, Nat.reduceLT, Nat.reduceEqDiff, Nat.reduceBEq, Nat.reduceBNe, Int.reduceNeg, Int.reduceToNat, Bool.or_false, Bool.false_or, Bool.or_true, Bool.true_or, BEq.rfl, Bool.not_eq_true, Bool.not_eq_false, decide_eq_true_eq, not_true_eq_false, not_false_eq_true, ite_true, ite_false, List.append_nil, and_assoc, Nat.mul_zero, Nat.zero_mul, ir53]
  refine evS_loopU (A := Nat) kp53_1 kl53_1 (fun y => [(10, .int .i64 y)]) (fun y => [(1, .lent, LP, .ints .i64 (rwL unL kind W w ws y))]) (fun y => y ≤ h) (fun y => h - y) 0 (by omega) (Sub.pt ?_) ?_
  · simp -implicitDefEqProofs only [push_cast, false_implies, reduceCtorEq, Classical.not_not, Nat.reduceAdd, Nat.reduceSub, Nat.reduceMul, Nat.reduceLeDiff, Nat.reduceLT, Nat.reduceEqDiff, Nat.reduceBEq, Nat.reduceBNe, Int.reduceNeg, Int.reduceToNat, Bool.or_false, Bool.false_or, Bool.or_true, Bool.true_or, BEq.rfl, Bool.not_eq_true, Bool.not_eq_false, decide_eq_true_eq, not_true_eq_false, not_false_eq_true, ite_true, ite_false, List.append_nil, and_assoc, Nat.mul_zero, Nat.zero_mul, rwL]
  intro y (hy : y ≤ h) K hK
  have lQ : (rwL unL kind W w ws y).length = ws.length := rwL_length ..
  have hB := rwL_bd trn_unline (kind := kind) h3 (m := y) (Nat.le_trans (Nat.mul_le_mul_right _ hy) h5) h6 (by omega)
  rw [show (3 * 375299968947541 + 1 : Int) = 1125899906842624 by decide] at hB
  simp -implicitDefEqProofs only [push_cast, false_implies, reduceCtorEq, Classical.not_not, Nat.reduceAdd, Nat.reduceSub, Nat.reduceMul, Nat.reduceLeDiff, Nat.reduceLT, Nat.reduceEqDiff, Nat.reduceBEq, Nat.reduceBNe, Int.reduceNeg, Int.reduceToNat, Bool.or_false, Bool.false_or, Bool.or_true, Bool.true_or, BEq.rfl, Bool.not_eq_true, Bool.not_eq_false, decide_eq_true_eq, not_true_eq_false, not_false_eq_true, ite_true, ite_false, List.append_nil, and_assoc, Nat.mul_zero, Nat.zero_mul, b53_1, fs68u, lQ]
  refine ⟨fun hl => ?_, fun hl => ?_⟩
  · have hy' : y < h := by omega
    have hm := mul_bd (a := (y : Int)) (b := (W : Int)) (A := 200) (B := 200) (by omega) (by omega) (by omega) (by omega)
    have hyW : ((y : Int) + 1) * W ≤ ws.length := by
      have h7 : (y + 1) * W ≤ ws.length := Nat.le_trans (Nat.mul_le_mul_right _ hy') h5
      have h8 : (((y + 1) * W : Nat) : Int) = ((y : Int) + 1) * W := by simp
      omega
    rw [Int.add_mul] at hyW
    have q : alS (unL kind w (fun j => rd (tabl w (alG (rwL unL kind W w ws y) ((y : Int) * W) 1)) j)) (rwL unL kind W w ws y) ((y : Int) * W) 1 w = rwL unL kind W w ws (y + 1) := rfl
    simp only [Int.toNat_natCast, q]
    repeat (refine And.intro (by first | omega | trivial | (intros; omega)) ?_)
    refine hK (y + 1) (by omega) (by omega) _ _ (Sub.pt ?_)
    simp -implicitDefEqProofs only [push_cast, false_implies, reduceCtorEq, Classical.not_not, Nat.reduceAdd, Nat.reduceSub, Nat.reduceMul, Nat.reduceLeDiff, Nat.reduceLT, Nat.reduceEqDiff, Nat.reduceBEq, Nat.reduceBNe, Int.reduceNeg, Int.reduceToNat, Bool.or_false, Bool.false_or, Bool.or_true, Bool.true_or, BEq.rfl, Bool.not_eq_true, Bool.not_eq_false, decide_eq_true_eq, not_true_eq_false, not_false_eq_true, ite_true, ite_false, List.append_nil, and_assoc, Nat.mul_zero, Nat.zero_mul]
  · obtain rfl : y = h := by omega
    refine postF.mk' (fun _ => default) [some 0, some 1] ?_
    simp -implicitDefEqProofs only [push_cast, false_implies, reduceCtorEq, Classical.not_not, Nat.reduceAdd, Nat.reduceSub, Nat.reduceMul, Nat.reduceLeDiff, Nat.reduceLT, Nat.reduceEqDiff, Nat.reduceBEq, Nat.reduceBNe, Int.reduceNeg, Int.reduceToNat, Bool.or_false, Bool.false_or, Bool.or_true, Bool.true_or, BEq.rfl, Bool.not_eq_true, Bool.not_eq_false, decide_eq_true_eq, not_true_eq_false, not_false_eq_true, ite_true, ite_false, List.append_nil, and_assoc, Nat.mul_zero, Nat.zero_mul, fs53u]
def ent53u : Entry := spOf fs53u inv53u
theorem e53u : EntryOk Try.prog 53 ent53u := entry_of ok53u inv53u
@[push_cast] theorem ent53u_app (us : List SV) (look : Look) (x : Nat → Xf.Loc) (k : Nat) : ent53u us look x k = spOf fs53u inv53u us look x k := rfl
def fs54u : FS where
  A := RwA
  args := fun a => [.ptr 0 a.F 0 0 0, .int .i64 a.w, .int .i64 a.h, .fn 39 []]
  mem := fun a => [some (.ro, a.F, .cells [.int .i64 a.W, .sl 1 a.LP 1 0 a.ws.length, .int .i64 a.kind]), some (.lent, a.LP, .ints .i64 a.ws)]
  pre := fun a => (a.kind = 0 ∨ a.kind = 1) ∧ a.ws.length ≤ 8192 ∧ a.W ≤ 200 ∧ a.w ≤ a.W ∧ a.h ≤ 200 ∧ a.h * a.W ≤ a.ws.length ∧ AllIn (-375299968947541) 375299968947541 a.ws
  res := fun a x => .tup []
  out := fun a _ => [none, some (some (.ints .i64 (clL unL a.kind a.W a.h a.ws a.w)))]
  new := fun _ _ => []
def inv54u : List SV → Look → Option (RwA × List Nat)
  | [.ptr c _ _ _ _, .int .i64 w, .int .i64 h, .fn 39 []], look => match rowC (look c) with
    | some (F, [.int .i64 W, .sl c1 _ 1 0 _, .int .i64 kind]) => match rowI (look c1) with
      | some (LP, .i64, ws) => some (⟨F, LP, W.toNat, kind, ws, w.toNat, h.toNat⟩, [c, c1])
      | _ => none
    | _ => none
  | _, _ => none
attribute [push_cast] inv54u
theorem ok54u : FSOk Try.prog 54 fs54u := by
  refine ⟨⟨_, Try.func54, by kernel_rfl, by kernel_rfl⟩, fun a => ⟨by simp [fs54u, push_cast, noMine, argOwn, Chunk.frArg], by simp [fs54u, push_cast, outOk, Chunk.ext], fun x => .inl (by simp [fs54u, push_cast, frNew, frOut, Chunk.fr])⟩, fun a hp => ?_⟩
  obtain ⟨F, LP, W, kind, ws, w, h⟩ := a
  obtain ⟨hk, h1, h2, h3, h4, h5, h6⟩ : (kind = 0 ∨ kind = 1) ∧ ws.length ≤ 8192 ∧ W ≤ 200 ∧ w ≤ W ∧ h ≤ 200 ∧ h * W ≤ ws.length ∧ AllIn (-375299968947541) 375299968947541 ws := hp
  change Tri Try.prog 54 [.ptr 0 F 0 0 0, .int .i64 w, .int .i64 h, .fn 39 []] [some (.ro, F, .cells [.int .i64 W, .sl 1 LP 1 0 ws.length, .int .i64 kind]), some (.lent, LP, .ints .i64 ws)] (postF fs54u ⟨F, LP, W, kind, ws, w, h⟩)
  refine tri_evS (hyp (l := [(68, ent68u)]) (lp := []) ⟨e68u, trivial⟩ trivial) Try.func54 comp54 (rs := []) (by rfl) Try.ntmps54 14 ?_
  simp -implicitDefEqProofs only [push_cast, false_implies, reduceCtorEq, Classical.not_not, Nat.reduceAdd, Nat.reduceSub, Nat.reduceMul, Nat.reduceLeDiff, Nat.reduceLT, Nat.reduceEqDiff, Nat.reduceBEq, Nat.reduceBNe, Int.reduceNeg, Int.reduceToNat, Bool.or_false, Bool.false_or, Bool.or_true, Bool.true_or, BEq.rfl, Bool.not_eq_true, Bool.not_eq_false, decide_eq_true_eq, not_true_eq_false, not_false_eq_true, ite_true, ite_false, List.append_nil, and_assoc, Nat.mul_zero, Nat.zero_mul, ir54]
  refine evS_loopU (A := Nat) kp54_1 kl54_1 (fun y => [(10, .int .i64 y)]) (fun y => [(1, .lent, LP, .ints .i64 (clL unL kind W h ws y))]) (fun y => y ≤ w) (fun y => w - y) 0 (by omega) (Sub.pt ?_) ?_
  · simp -implicitDefEqProofs only [push_cast, false_implies, reduceCtorEq, Classical.not_not, Nat.reduceAdd, Nat.reduceSub, Nat.reduceMul, Nat.reduceLeDiff, Nat.reduceLT, Nat.reduceEqDiff, Nat.reduceBEq, Nat.reduceBNe, Int.reduceNeg, Int.reduceToNat, Bool.or_false, Bool.false_or, Bool.or_true, Bool.true_or, BEq.rfl, Bool.not_eq_true, Bool.not_eq_false, decide_eq_true_eq, not_true_eq_false, not_false_eq_true, ite_true, ite_false, List.append_nil, and_assoc, Nat.mul_zero, Nat.zero_mul, clL]
  intro y (hy : y ≤ w) K hK
  have lQ : (clL unL kind W h ws y).length = ws.length := clL_length ..
  have hB := clL_bd trn_unline (kind := kind) h5 (m := y) (Nat.le_trans hy h3) h6 (by omega)
  rw [show (3 * 375299968947541 + 1 : Int) = 1125899906842624 by decide] at hB
  simp -implicitDefEqProofs only [push_cast, false_implies, reduceCtorEq, Classical.not_not, Nat.reduceAdd, Nat.reduceSub, Nat.reduceMul, Nat.reduceLeDiff, Nat.reduceLT, Nat.reduceEqDiff, Nat.reduceBEq, Nat.reduceBNe, Int.reduceNeg, Int.reduceToNat, Bool.or_false, Bool.false_or, Bool.or_true, Bool.true_or, BEq.rfl, Bool.not_eq_true, Bool.not_eq_false, decide_eq_true_eq, not_true_eq_false, not_false_eq_true, ite_true, ite_false, List.append_nil, and_assoc, Nat.mul_zero, Nat.zero_mul, b54_1, fs68u, lQ]
  refine ⟨fun hl => ?_, fun hl => ?_⟩
  · have hy' : y < w := by omega
    have hin : ∀ i : Nat, i < h → (y : Int) + i * W < ws.length := fun i hi => by
      have h7 : (i + 1) * W ≤ ws.length := Nat.le_trans (Nat.mul_le_mul_right _ hi) h5
      have h8 : (((i + 1) * W : Nat) : Int) = (i : Int) * W + W := by rw [Nat.add_mul]; simp
      omega
    have q : alS (unL kind h (fun j => rd (tabl h (alG (clL unL kind W h ws y) (y : Int) W)) j)) (clL unL kind W h ws y) (y : Int) W h = clL unL kind W h ws (y + 1) := rfl
    simp only [Int.toNat_natCast, q]
    repeat (refine And.intro (by first | omega | trivial | (intros; omega)) ?_)
    refine hK (y + 1) (by omega) (by omega) _ _ (Sub.pt ?_)
    simp -implicitDefEqProofs only [push_cast, false_implies, reduceCtorEq, Classical.not_not, Nat.reduceAdd, Nat.reduceSub, Nat.reduceMul, Nat.reduceLeDiff, Nat.reduceLT, Nat.reduceEqDiff, Nat.reduceBEq, Nat.reduceBNe, Int.reduceNeg, Int.reduceToNat, Bool.or_false, Bool.false_or, Bool.or_true, Bool.true_or, BEq.rfl, Bool.not_eq_true, Bool.not_eq_false, decide_eq_true_eq, not_true_eq_false, not_false_eq_true, ite_true, ite_false, List.append_nil, and_assoc, Nat.mul_zero, Nat.zero_mul]
  · obtain rfl : y = w := by omega
    refine postF.mk' (fun _ => default) [some 0, some 1] ?_
    simp -implicitDefEqProofs only [push_cast, false_implies, reduceCtorEq, Classical.not_not, Nat.reduceAdd, Nat.reduceSub, Nat.reduceMul, Nat.reduceLeDiff, Nat.reduceLT, Nat.reduceEqDiff, Nat.reduceBEq, Nat.reduceBNe, Int.reduceNeg, Int.reduceToNat, Bool.or_false, Bool.false_or, Bool.or_true, Bool.true_or, BEq.rfl, Bool.not_eq_true, Bool.not_eq_false, decide_eq_true_eq, not_true_eq_false, not_false_eq_true, ite_true, ite_false, List.append_nil, and_assoc, Nat.mul_zero, Nat.zero_mul, fs54u]
def ent54u : Entry := spOf fs54u inv54u
theorem e54u : EntryOk Try.prog 54 ent54u := entry_of ok54u inv54u
@[push_cast] theorem ent54u_app (us : List SV) (look : Look) (x : Nat → Xf.Loc) (k : Nat) : ent54u us look x k = spOf fs54u inv54u us look x k := rfl
def b47_1 : IR :=
  .seq (.reg false [⟨some 10, none, ⟨[], []⟩, .bin 0 .lss (.t 9) (.t 8)⟩] [] []) (.seq (.cond (.t 10) (.skip) (.exit 0)) (.seq (.block 1 (.seq (.reg false [⟨some 11, none, ⟨[], []⟩, .mov (.t 7)⟩,
    ⟨some 12, none, ⟨[], []⟩, .mov (.t 0)⟩,
    ⟨some 13, none, ⟨[], []⟩, .mov (.t 1)⟩,
    ⟨some 14, none, ⟨[], []⟩, .build [.int .i64 0, .int .i64 0] [(0, 1, .t 12), (1, 1, .t 13)]⟩,
    ⟨some 15, none, ⟨[], []⟩, .brecs 10 2 .i64 [.t 14]⟩,
    ⟨some 16, none, ⟨[], []⟩, .app 11 2 16 (.t 11) (.t 15)⟩,
    ⟨some 7, none, ⟨[], []⟩, .mov (.t 16)⟩] [10, 11, 12, 13, 14, 15, 16] []) (.reg false [⟨some 17, none, ⟨[], []⟩, .mov (.t 0)⟩,
    ⟨some 18, none, ⟨[], []⟩, .bin 0 .add (.t 17) (.k (.int .i64 1))⟩,
    ⟨some 19, none, ⟨[], []⟩, .bin 0 .quo (.t 18) (.k (.int .i64 2))⟩,
    ⟨some 20, none, ⟨[], []⟩, .mov (.t 1)⟩,
    ⟨some 21, none, ⟨[], []⟩, .bin 0 .add (.t 20) (.k (.int .i64 1))⟩,
    ⟨some 22, none, ⟨[], []⟩, .bin 0 .quo (.t 21) (.k (.int .i64 2))⟩,
    ⟨some 0, none, ⟨[], []⟩, .mov (.t 19)⟩,
    ⟨some 1, none, ⟨[], []⟩, .mov (.t 22)⟩] [17, 18, 19, 20, 21, 22] []))) (.reg false [⟨some 23, none, ⟨[], []⟩, .bin 0 .add (.t 9) (.k (.int .i64 1))⟩,
    ⟨some 9, none, ⟨[], []⟩, .mov (.t 23)⟩] [23] [])))
def r47_2 : IR :=
  .seq (.reg false [⟨some 24, none, ⟨[], []⟩, .mov (.t 7)⟩,
    ⟨some 6, none, ⟨[], []⟩, .mov (.t 24)⟩] [0, 1, 7, 8, 9, 24] []) (.ret)
def ir47 : IR :=
  .seq (.reg false [⟨some 6, none, ⟨[], []⟩, .mov (.k nilSV)⟩] [6] []) (.seq (.reg false [⟨some 7, none, ⟨[], []⟩, .mov (.k nilSV)⟩] [] []) (.seq (.seq (.reg false [⟨some 8, none, ⟨[], []⟩, .mov (.t 2)⟩,
    ⟨some 9, none, ⟨[], []⟩, .mov (.k (.int .i64 0))⟩] [2] []) (.block 0 (.loop b47_1))) (r47_2)))
def kp47_1 : List Nat := [0, 1, 7, 8, 9]
def kl47_1 : List Nat := [10, 11]
attribute [push_cast] kp47_1 kl47_1
set_option maxRecDepth 4000 in
theorem comp47 : (Try.f47.body.bind fun c => compC tab isP chkAll ir47 c) = some ir47 := by kernel_rfl
/-- Records by their places. -/
def tabR (n : Nat) (g : Nat → List RC) : List (List RC) := (List.range n).map g
theorem tabR_length (n : Nat) (g : Nat → List RC) : (tabR n g).length = n := by simp [tabR]
theorem tabR_zero (g : Nat → List RC) : tabR 0 g = [] := rfl
theorem tabR_snoc (n : Nat) (g : Nat → List RC) : tabR n g ++ [g n] = tabR (n + 1) g := by simp [tabR, List.range_succ]
theorem recAt_tabR {n i : Nat} (h : i < n) (g : Nat → List RC) (z : List RC) : recAt (i : Int) z (tabR n g) = g i := by
  simp [recAt, tabR, h]
/-- How many cells an element of a slice has that is nil at first. -/
def esz (s : Nat) : Nat → Nat
  | 0 => 1
  | _ + 1 => s
theorem esz_pos {s n : Nat} (h : 0 < n) : esz s n = s := by cases n; omega; rfl
def sdR (w h : Nat) (i : Nat) : List RC := [.int .i64 (hlf w i), .int .i64 (hlf h i)]
structure SdA where
  w : Nat
  h : Nat
  n : Nat
def fs47 : FS where
  A := SdA
  args := fun a => [.int .i64 a.w, .int .i64 a.h, .int .i64 a.n]
  mem := fun _ => []
  pre := fun a => a.w ≤ 200 ∧ a.h ≤ 200 ∧ a.n ≤ 7
  res := fun a x => .sl 0 (lx (0 < a.n) x 0) (esz 2 a.n) 0 a.n
  out := fun _ _ => []
  new := fun a x => [(lx (0 < a.n) x 0, .recs 2 true [] (tabR a.n (sdR a.w a.h)))]
def inv47 : List SV → Look → Option (SdA × List Nat)
  | [.int .i64 w, .int .i64 h, .int .i64 n], look => some (⟨w.toNat, h.toNat, n.toNat⟩, [])
  | _, _ => none
attribute [push_cast] inv47
theorem hlf_succ (w i : Nat) : ((hlf w i : Int) + 1) / 2 = (hlf w (i + 1) : Int) := by simp only [hlf]; omega
theorem ok47 : FSOk Try.prog 47 fs47 := by
  refine ⟨⟨_, Try.func47, by kernel_rfl, by kernel_rfl⟩, fun a => ⟨by simp [fs47, push_cast, noMine, argOwn, Chunk.frArg], by simp [fs47, push_cast, outOk, Chunk.ext], fun x => .inl (by simp [fs47, push_cast, frNew, frOut, Chunk.fr])⟩, fun a hp => ?_⟩
  obtain ⟨w, h, n⟩ := a
  obtain ⟨h1, h2, h3⟩ : w ≤ 200 ∧ h ≤ 200 ∧ n ≤ 7 := hp
  change Tri Try.prog 47 [.int .i64 w, .int .i64 h, .int .i64 n] [] (postF fs47 ⟨w, h, n⟩)
  refine tri_evS (hyp (l := []) (lp := []) trivial trivial) Try.func47 comp47 (rs := [.tmp 6]) (by rfl) Try.ntmps47 12 ?_
  simp -implicitDefEqProofs only [push_cast, false_implies, reduceCtorEq, Classical.not_not, Nat.reduceAdd, Nat.reduceSub, Nat.reduceMul, Nat.reduceLeDiff, Nat.reduceLT, Nat.reduceEqDiff, Nat.reduceBEq, Nat.reduceBNe, Int.reduceNeg, Int.reduceToNat, Bool.or_false, Bool.false_or, Bool.or_true, Bool.true_or, BEq.rfl, Bool.not_eq_true, Bool.not_eq_false, decide_eq_true_eq, not_true_eq_false, not_false_eq_true, ite_true, ite_false, List.append_nil, and_assoc, Nat.mul_zero, Nat.zero_mul, ir47]
  refine evS_loopU (A := Nat × Xf.Loc) kp47_1 kl47_1 (fun y => [(0, .int .i64 (hlf w y.1)), (1, .int .i64 (hlf h y.1)), (7, .sl 11 y.2 (esz 2 y.1) 0 y.1), (9, .int .i64 y.1)]) (fun y => [(11, .mine, y.2, .recs 2 true [] (tabR y.1 (sdR w h)))])
    (fun y => y.1 ≤ n ∧ (y.1 = 0 → y.2 = nilLoc)) (fun y => n - y.1) (0, nilLoc) ⟨Nat.zero_le _, fun _ => rfl⟩ (Sub.pt ?_) ?_
  · simp -implicitDefEqProofs only [push_cast, false_implies, reduceCtorEq, Classical.not_not, Nat.reduceAdd, Nat.reduceSub, Nat.reduceMul, Nat.reduceLeDiff, Nat.reduceLT, Nat.reduceEqDiff, Nat.reduceBEq, Nat.reduceBNe, Int.reduceNeg, Int.reduceToNat, Bool.or_false, Bool.false_or, Bool.or_true, Bool.true_or, BEq.rfl, Bool.not_eq_true, Bool.not_eq_false, decide_eq_true_eq, not_true_eq_false, not_false_eq_true, ite_true, ite_false, List.append_nil, and_assoc, Nat.mul_zero, Nat.zero_mul, hlf, esz, tabR_zero]
  intro ⟨i, N⟩ ⟨(hi : i ≤ n), (hN : i = 0 → N = nilLoc)⟩ K hK
  simp -implicitDefEqProofs only [push_cast, false_implies, reduceCtorEq, Classical.not_not, Nat.reduceAdd, Nat.reduceSub, Nat.reduceMul, Nat.reduceLeDiff, Nat.reduceLT, Nat.reduceEqDiff, Nat.reduceBEq, Nat.reduceBNe, Int.reduceNeg, Int.reduceToNat, Bool.or_false, Bool.false_or, Bool.or_true, Bool.true_or, BEq.rfl, Bool.not_eq_true, Bool.not_eq_false, decide_eq_true_eq, not_true_eq_false, not_false_eq_true, ite_true, ite_false, List.append_nil, and_assoc, Nat.mul_zero, Nat.zero_mul, b47_1, r47_2]
  have b1 := hlf_le w i
  have b2 := hlf_le h i
  have b3 := hlf_succ w i
  have b4 := hlf_succ h i
  refine ⟨fun hl => ?_, fun hl => ?_⟩
  · simp only [tabR_length]
    intro X
    repeat (refine And.intro (by first | omega | trivial | (intros; omega)) ?_)
    rw [b3, b4]
    refine hK (i + 1, X 5 11) ⟨show i + 1 ≤ n by omega, fun q => absurd q (Nat.succ_ne_zero i)⟩ (show n - (i + 1) < n - i by omega) _ _ (Sub.pt ?_)
    have q : tabR i (sdR w h) ++ [[.int .i64 (hlf w i), .int .i64 (hlf h i)]] = tabR (i + 1) (sdR w h) := tabR_snoc i (sdR w h)
    simp -implicitDefEqProofs only [push_cast, false_implies, reduceCtorEq, Classical.not_not, Nat.reduceAdd, Nat.reduceSub, Nat.reduceMul, Nat.reduceLeDiff, Nat.reduceLT, Nat.reduceEqDiff, Nat.reduceBEq, Nat.reduceBNe, Int.reduceNeg, Int.reduceToNat, Bool.or_false, Bool.false_or, Bool.or_true, Bool.true_or, BEq.rfl, Bool.not_eq_true, Bool.not_eq_false, decide_eq_true_eq, not_true_eq_false, not_false_eq_true, ite_true, ite_false, List.append_nil, and_assoc, Nat.mul_zero, Nat.zero_mul, esz, q]
  · obtain rfl : i = n := by omega
    refine postF.mk' (fun _ => N) [some 11] ?_
    by_cases h0 : 0 < i
    · simp -implicitDefEqProofs only [push_cast, false_implies, reduceCtorEq, Classical.not_not, Nat.reduceAdd, Nat.reduceSub, Nat.reduceMul, Nat.reduceLeDiff, Nat.reduceLT, Nat.reduceEqDiff, Nat.reduceBEq, Nat.reduceBNe, Int.reduceNeg, Int.reduceToNat, Bool.or_false, Bool.false_or, Bool.or_true, Bool.true_or, BEq.rfl, Bool.not_eq_true, Bool.not_eq_false, decide_eq_true_eq, not_true_eq_false, not_false_eq_true, ite_true, ite_false, List.append_nil, and_assoc, Nat.mul_zero, Nat.zero_mul, fs47, h0, if_true, lx]
    · obtain rfl : i = 0 := by omega
      obtain rfl := hN rfl
      simp -implicitDefEqProofs only [push_cast, false_implies, reduceCtorEq, Classical.not_not, Nat.reduceAdd, Nat.reduceSub, Nat.reduceMul, Nat.reduceLeDiff, Nat.reduceLT, Nat.reduceEqDiff, Nat.reduceBEq, Nat.reduceBNe, Int.reduceNeg, Int.reduceToNat, Bool.or_false, Bool.false_or, Bool.or_true, Bool.true_or, BEq.rfl, Bool.not_eq_true, Bool.not_eq_false, decide_eq_true_eq, not_true_eq_false, not_false_eq_true, ite_true, ite_false, List.append_nil, and_assoc, Nat.mul_zero, Nat.zero_mul, fs47, h0, if_false, lx]
def ent47 : Entry := spOf fs47 inv47
theorem e47 : EntryOk Try.prog 47 ent47 := entry_of ok47 inv47
@[push_cast] theorem ent47_app (us : List SV) (look : Look) (x : Nat → Xf.Loc) (k : Nat) : ent47 us look x k = spOf fs47 inv47 us look x k := rfl
def ir51 : IR :=
  .seq (.reg false [⟨some 3, none, ⟨[], []⟩, .box 10 (.t 0)⟩,
    ⟨some 6, none, ⟨[], []⟩, .mov (.k (.int .i64 0))⟩] [0, 6] []) (.seq (.block 0 (.seq (.reg false [⟨some 8, none, ⟨[], []⟩, .ld false (some 3) 0 0 (.t 3)⟩,
    ⟨some 9, none, ⟨[], []⟩, .call (some 4) 11 60 [.t 8]⟩,
    ⟨some 10, none, ⟨[], []⟩, .not (.t 9)⟩,
    ⟨some 7, none, ⟨[], []⟩, .mov (.t 10)⟩] [3, 8, 9, 10] []) (.cond (.t 7) (.seq (.reg false [⟨some 6, none, ⟨[], []⟩, .mov (.k (.int .i64 70))⟩] [1, 2, 7] []) (.ret)) (.seq (.reg false [⟨some 12, none, ⟨[], []⟩, .mov (.t 1)⟩,
    ⟨some 13, none, ⟨[], []⟩, .callp 36 [.t 12]⟩,
    ⟨some 14, none, ⟨[], []⟩, .not (.t 13)⟩,
    ⟨some 15, none, ⟨[], []⟩, .mov (.t 14)⟩,
    ⟨some 16, some (15, false), ⟨[], []⟩, .mov (.t 2)⟩,
    ⟨some 17, some (15, false), ⟨[], []⟩, .bin 0 .lss (.t 16) (.k (.int .i64 0))⟩,
    ⟨some 18, none, ⟨[], []⟩, .pick (.t 15) (.k (.bool true)) (.t 17)⟩,
    ⟨some 19, none, ⟨[], []⟩, .mov (.t 18)⟩,
    ⟨some 20, some (19, false), ⟨[], []⟩, .mov (.t 2)⟩,
    ⟨some 21, some (19, false), ⟨[], []⟩, .bin 0 .gtr (.t 20) (.k (.int .i64 6))⟩,
    ⟨some 22, none, ⟨[], []⟩, .pick (.t 19) (.k (.bool true)) (.t 21)⟩,
    ⟨some 11, none, ⟨[], []⟩, .mov (.t 22)⟩] [1, 2, 7, 12, 13, 14, 15, 16, 17, 18, 19, 20, 21, 22] []) (.cond (.t 11) (.seq (.reg false [⟨some 6, none, ⟨[], []⟩, .mov (.k (.int .i64 2))⟩] [11] []) (.ret)) (.skip)))))) (.seq (.reg false [⟨some 6, none, ⟨[], []⟩, .mov (.k (.int .i64 0))⟩] [11] []) (.ret)))
set_option maxRecDepth 4000 in
theorem comp51 : (Try.f51.body.bind fun c => compC tab isP chkAll ir51 c) = some ir51 := by kernel_rfl
def stOk (kind n : Int) : Prop := (kind = 0 ∨ kind = 1) ∧ 0 ≤ n ∧ n ≤ 6
instance (kind n : Int) : Decidable (stOk kind n) := by unfold stOk; infer_instance
structure AskA where
  a : PlA
  kind : Int
  n : Int
def askE (p : Pl) (kind n : Int) : Int := if p.Ok then if stOk kind n then 0 else 2 else 70
def fs51 : FS where
  A := AskA
  args := fun a => [plV a.a.p a.a.L 0, .int .i64 a.kind, .int .i64 a.n]
  mem := fun a => [some (.ro, a.a.L, .ints .i64 a.a.p.xs)]
  pre := fun a => a.a.p.xs.length ≤ 140737488355328
  res := fun a x => .int .i64 (askE a.a.p a.kind a.n)
  out := fun _ _ => []
  new := fun _ _ => []
def inv51 : List SV → Look → Option (AskA × List Nat)
  | [v, .int .i64 k, .int .i64 n], look => match getP look v with
    | some (a, g) => some (⟨a, k, n⟩, g)
    | _ => none
  | _, _ => none
attribute [push_cast] inv51
theorem ok51 : FSOk Try.prog 51 fs51 := by
  refine ⟨⟨_, Try.func51, by kernel_rfl, by kernel_rfl⟩, fun a => ⟨by simp [fs51, push_cast, noMine, argOwn, Chunk.frArg], by simp [fs51, push_cast, outOk, Chunk.ext], fun x => .inl (by simp [fs51, push_cast, frNew, frOut, Chunk.fr])⟩, fun a hp => ?_⟩
  obtain ⟨⟨⟨w, h, xs⟩, L⟩, kind, n⟩ := a
  change xs.length ≤ 140737488355328 at hp
  change Tri Try.prog 51 [plV ⟨w, h, xs⟩ L 0, .int .i64 kind, .int .i64 n] [some (.ro, L, .ints .i64 xs)] (postF fs51 ⟨⟨⟨w, h, xs⟩, L⟩, kind, n⟩)
  refine tri_evS (hyp (l := [(60, ent60)]) (lp := [(36, kindF)]) ⟨e60, trivial⟩ ⟨p36, trivial⟩) Try.func51 comp51 (rs := [.tmp 6]) (by rfl) Try.ntmps51 15 ?_
  simp -implicitDefEqProofs only [push_cast, false_implies, reduceCtorEq, Classical.not_not, Nat.reduceAdd, Nat.reduceSub, Nat.reduceMul, Nat.reduceLeDiff, Nat.reduceLT, Nat.reduceEqDiff, Nat.reduceBEq, Nat.reduceBNe, Int.reduceNeg, Int.reduceToNat, Bool.or_false, Bool.false_or, Bool.or_true, Bool.true_or, BEq.rfl, Bool.not_eq_true, Bool.not_eq_false, decide_eq_true_eq, not_true_eq_false, not_false_eq_true, ite_true, ite_false, List.append_nil, and_assoc, Nat.mul_zero, Nat.zero_mul, ir51, fs60]
  refine fun X => ⟨hp, fun hn => ?_, fun hy => ⟨fun hb => ?_, fun hg => ?_⟩⟩
  · refine postF.mk' (fun _ => default) [some 0] ?_
    simp -implicitDefEqProofs only [push_cast, false_implies, reduceCtorEq, Classical.not_not, Nat.reduceAdd, Nat.reduceSub, Nat.reduceMul, Nat.reduceLeDiff, Nat.reduceLT, Nat.reduceEqDiff, Nat.reduceBEq, Nat.reduceBNe, Int.reduceNeg, Int.reduceToNat, Bool.or_false, Bool.false_or, Bool.or_true, Bool.true_or, BEq.rfl, Bool.not_eq_true, Bool.not_eq_false, decide_eq_true_eq, not_true_eq_false, not_false_eq_true, ite_true, ite_false, List.append_nil, and_assoc, Nat.mul_zero, Nat.zero_mul, fs51, askE, hn, if_false]
  · have e : ¬ stOk kind n := fun H => by obtain ⟨q1, q2, q3⟩ := H; simp [q1] at hb; omega
    refine postF.mk' (fun _ => default) [some 0] ?_
    simp -implicitDefEqProofs only [push_cast, false_implies, reduceCtorEq, Classical.not_not, Nat.reduceAdd, Nat.reduceSub, Nat.reduceMul, Nat.reduceLeDiff, Nat.reduceLT, Nat.reduceEqDiff, Nat.reduceBEq, Nat.reduceBNe, Int.reduceNeg, Int.reduceToNat, Bool.or_false, Bool.false_or, Bool.or_true, Bool.true_or, BEq.rfl, Bool.not_eq_true, Bool.not_eq_false, decide_eq_true_eq, not_true_eq_false, not_false_eq_true, ite_true, ite_false, List.append_nil, and_assoc, Nat.mul_zero, Nat.zero_mul, fs51, askE, hy, e, if_false, if_true]
  · have e : stOk kind n := ⟨Classical.byContradiction fun q => hg (.inl (.inl q)), Classical.byContradiction fun q => hg (.inl (.inr (by omega))), Classical.byContradiction fun q => hg (.inr (by omega))⟩
    refine postF.mk' (fun _ => default) [some 0] ?_
    simp -implicitDefEqProofs only [push_cast, false_implies, reduceCtorEq, Classical.not_not, Nat.reduceAdd, Nat.reduceSub, Nat.reduceMul, Nat.reduceLeDiff, Nat.reduceLT, Nat.reduceEqDiff, Nat.reduceBEq, Nat.reduceBNe, Int.reduceNeg, Int.reduceToNat, Bool.or_false, Bool.false_or, Bool.or_true, Bool.true_or, BEq.rfl, Bool.not_eq_true, Bool.not_eq_false, decide_eq_true_eq, not_true_eq_false, not_false_eq_true, ite_true, ite_false, List.append_nil, and_assoc, Nat.mul_zero, Nat.zero_mul, fs51, askE, hy, e, if_true]
def ent51 : Entry := spOf fs51 inv51
theorem e51 : EntryOk Try.prog 51 ent51 := entry_of ok51 inv51
@[push_cast] theorem ent51_app (us : List SV) (look : Look) (x : Nat → Xf.Loc) (k : Nat) : ent51 us look x k = spOf fs51 inv51 us look x k := rfl
/-- The sides, as natural numbers. -/
theorem Pl.nat {w h : Int} {xs : List Int} (hs : SidesOk w h) (hl : (xs.length : Int) = w * h) : ∃ W H : Nat, w = W ∧ h = H ∧ W ≤ 200 ∧ H ≤ 200 ∧ xs.length = H * W ∧ xs.length ≤ 8192 := by
  obtain ⟨a1, a2, a3, a4, a5⟩ := id hs
  obtain ⟨W, rfl⟩ : ∃ n : Nat, w = (n : Int) := ⟨w.toNat, by omega⟩
  obtain ⟨H, rfl⟩ : ∃ n : Nat, h = (n : Int) := ⟨h.toNat, by omega⟩
  refine ⟨W, H, rfl, rfl, by omega, by omega, ?_, by omega⟩
  rw [Nat.mul_comm, ← Int.ofNat_inj]; simp only [Int.natCast_mul]; exact hl
def ir69 : IR :=
  .seq (.reg false [⟨some 6, none, ⟨[], []⟩, .mov (.k nilSV)⟩] [6] []) (.seq (.seq (.reg false [⟨some 7, none, ⟨[], []⟩, .mov (.t 2)⟩] [2] []) (.cond (.t 7) (.seq (.reg false [⟨some 8, none, ⟨[], []⟩, .mov (.t 0)⟩,
    ⟨some 9, none, ⟨[], []⟩, .mov (.t 1)⟩,
    ⟨some 10, none, ⟨[], []⟩, .call (some 4) 10 19 [.t 8, .t 9]⟩,
    ⟨some 6, none, ⟨[], []⟩, .mov (.t 10)⟩] [0, 1, 7, 8, 9, 10] []) (.ret)) (.skip))) (.seq (.reg false [⟨some 11, none, ⟨[], []⟩, .mov (.t 0)⟩,
    ⟨some 12, none, ⟨[], []⟩, .mov (.t 1)⟩,
    ⟨some 13, none, ⟨[], []⟩, .call (some 4) 14 18 [.t 11, .t 12]⟩,
    ⟨some 6, none, ⟨[], []⟩, .mov (.t 13)⟩] [0, 1, 7, 11, 12, 13] []) (.ret)))
set_option maxRecDepth 4000 in
theorem comp69 : (Try.f69.body.bind fun c => compC tab isP chkAll ir69 c) = some ir69 := by kernel_rfl
def b55_1 : IR :=
  .seq (.seq (.reg false [⟨some 11, none, ⟨[], []⟩, .mov (.t 10)⟩,
    ⟨some 12, none, ⟨[], []⟩, .mov (.t 2)⟩,
    ⟨some 13, none, ⟨[], []⟩, .bin 0 .lss (.t 11) (.t 12)⟩] [11, 12] []) (.cond (.t 13) (.skip) (.exit 0))) (.seq (.block 1 (.reg true [⟨some 16, none, ⟨[], []⟩, .fld (.t 5) 2⟩,
    ⟨some 17, none, ⟨[11, 12, 13, 14], []⟩, .ld false none 0 0 (.t 16)⟩,
    ⟨some 18, none, ⟨[], []⟩, .mov (.t 10)⟩,
    ⟨some 19, none, ⟨[], []⟩, .fld (.t 5) 0⟩,
    ⟨some 20, none, ⟨[11, 12, 13, 14], []⟩, .ld false none 0 0 (.t 19)⟩,
    ⟨some 21, none, ⟨[], []⟩, .bin 0 .mul (.t 18) (.t 20)⟩,
    ⟨some 22, none, ⟨[], []⟩, .mov (.t 10)⟩,
    ⟨some 23, none, ⟨[], []⟩, .fld (.t 5) 0⟩,
    ⟨some 24, none, ⟨[11, 12, 13, 14], []⟩, .ld false none 0 0 (.t 23)⟩,
    ⟨some 25, none, ⟨[], []⟩, .bin 0 .mul (.t 22) (.t 24)⟩,
    ⟨some 26, none, ⟨[], []⟩, .mov (.t 1)⟩,
    ⟨some 27, none, ⟨[], []⟩, .bin 0 .add (.t 25) (.t 26)⟩,
    ⟨some 28, none, ⟨[], []⟩, .slc (.t 17) 1 (some (.t 21)) (some (.t 27))⟩,
    ⟨some 29, none, ⟨[], []⟩, .mov (.t 3)⟩,
    ⟨some 30, none, ⟨[], []⟩, .fld (.t 5) 2⟩,
    ⟨some 31, none, ⟨[], []⟩, .ld false none 0 0 (.t 30)⟩,
    ⟨some 32, none, ⟨[], []⟩, .mov (.t 10)⟩,
    ⟨some 33, none, ⟨[], []⟩, .fld (.t 5) 0⟩,
    ⟨some 34, none, ⟨[], []⟩, .ld false none 0 0 (.t 33)⟩,
    ⟨some 35, none, ⟨[], []⟩, .bin 0 .mul (.t 32) (.t 34)⟩,
    ⟨some 36, none, ⟨[], []⟩, .mov (.t 10)⟩,
    ⟨some 37, none, ⟨[], []⟩, .fld (.t 5) 0⟩,
    ⟨some 38, none, ⟨[], []⟩, .ld false none 0 0 (.t 37)⟩,
    ⟨some 39, none, ⟨[], []⟩, .bin 0 .mul (.t 36) (.t 38)⟩,
    ⟨some 40, none, ⟨[], []⟩, .mov (.t 1)⟩,
    ⟨some 41, none, ⟨[], []⟩, .bin 0 .add (.t 39) (.t 40)⟩,
    ⟨some 42, none, ⟨[], []⟩, .slc (.t 31) 1 (some (.t 35)) (some (.t 41))⟩,
    ⟨some 43, none, ⟨[], []⟩, .mov (.t 4)⟩,
    ⟨some 44, none, ⟨[], []⟩, .call (some 4) 11 69 [.t 29, .t 42, .t 43]⟩,
    ⟨some 45, none, ⟨[], []⟩, .copy (.t 28) (.t 44)⟩] [13, 16, 17, 18, 19, 20, 21, 22, 23, 24, 25, 26, 27, 28, 29, 30, 31, 32, 33, 34, 35, 36, 37, 38, 39, 40, 41, 42, 43, 44, 45] [])) (.reg false [⟨some 14, none, ⟨[], []⟩, .mov (.t 10)⟩,
    ⟨some 15, none, ⟨[], []⟩, .bin 0 .add (.t 14) (.k (.int .i64 1))⟩,
    ⟨some 10, none, ⟨[], []⟩, .mov (.t 15)⟩] [14, 15] []))
def ir55 : IR :=
  .seq (.reg false [⟨some 5, none, ⟨[], []⟩, .box 10 (.t 0)⟩] [0] []) (.seq (.reg false [⟨some 10, none, ⟨[], []⟩, .mov (.k (.int .i64 0))⟩] [] []) (.block 0 (.loop b55_1)))
def kp55_1 : List Nat := [1, 2, 3, 4, 5, 10]
def kl55_1 : List Nat := [11, 12, 13, 14]
attribute [push_cast] kp55_1 kl55_1
set_option maxRecDepth 4000 in
theorem comp55 : (Try.f55.body.bind fun c => compC tab isP chkAll ir55 c) = some ir55 := by kernel_rfl
def b56_2 : IR :=
  .seq (.seq (.reg false [⟨some 20, none, ⟨[], []⟩, .mov (.t 12)⟩,
    ⟨some 21, none, ⟨[], []⟩, .mov (.t 2)⟩,
    ⟨some 22, none, ⟨[], []⟩, .bin 0 .lss (.t 20) (.t 21)⟩] [20, 21] []) (.cond (.t 22) (.skip) (.exit 2))) (.seq (.block 3 (.reg false [⟨some 25, none, ⟨[], []⟩, .mov (.t 11)⟩,
    ⟨some 26, none, ⟨[], []⟩, .fld (.t 5) 2⟩,
    ⟨some 27, none, ⟨[], []⟩, .ld false none 0 0 (.t 26)⟩,
    ⟨some 28, none, ⟨[], []⟩, .mov (.t 12)⟩,
    ⟨some 29, none, ⟨[], []⟩, .fld (.t 5) 0⟩,
    ⟨some 30, none, ⟨[], []⟩, .ld false none 0 0 (.t 29)⟩,
    ⟨some 31, none, ⟨[], []⟩, .bin 0 .mul (.t 28) (.t 30)⟩,
    ⟨some 32, none, ⟨[], []⟩, .mov (.t 10)⟩,
    ⟨some 33, none, ⟨[], []⟩, .bin 0 .add (.t 31) (.t 32)⟩,
    ⟨some 34, none, ⟨[], []⟩, .idxS (.t 27) (.t 33) 1⟩,
    ⟨some 35, none, ⟨[], []⟩, .ld true none 0 0 (.t 34)⟩,
    ⟨some 36, none, ⟨[], []⟩, .bslice 11 [.t 35]⟩,
    ⟨some 37, none, ⟨[], []⟩, .app 12 1 8 (.t 25) (.t 36)⟩,
    ⟨some 11, none, ⟨[], []⟩, .mov (.t 37)⟩] [22, 25, 26, 27, 28, 29, 30, 31, 32, 33, 34, 35, 36, 37] [])) (.reg false [⟨some 23, none, ⟨[], []⟩, .mov (.t 12)⟩,
    ⟨some 24, none, ⟨[], []⟩, .bin 0 .add (.t 23) (.k (.int .i64 1))⟩,
    ⟨some 12, none, ⟨[], []⟩, .mov (.t 24)⟩] [23, 24] []))
def b56_3 : IR :=
  .seq (.reg false [⟨some 44, none, ⟨[], []⟩, .bin 0 .lss (.t 43) (.t 42)⟩] [] []) (.seq (.cond (.t 44) (.skip) (.exit 4)) (.seq (.block 5 (.seq (.reg false [⟨some 45, none, ⟨[], []⟩, .mov (.t 43)⟩,
    ⟨some 46, none, ⟨[], []⟩, .idxS (.t 41) (.t 43) 1⟩,
    ⟨some 47, none, ⟨[], []⟩, .ld true none 0 0 (.t 46)⟩,
    ⟨some 13, none, ⟨[], []⟩, .mov (.t 45)⟩,
    ⟨some 14, none, ⟨[], []⟩, .mov (.t 47)⟩] [44, 45, 46, 47] []) (.reg false [⟨some 48, none, ⟨[], []⟩, .fld (.t 5) 2⟩,
    ⟨some 49, none, ⟨[], []⟩, .ld false none 0 0 (.t 48)⟩,
    ⟨some 50, none, ⟨[], []⟩, .mov (.t 13)⟩,
    ⟨some 51, none, ⟨[], []⟩, .fld (.t 5) 0⟩,
    ⟨some 52, none, ⟨[], []⟩, .ld false none 0 0 (.t 51)⟩,
    ⟨some 53, none, ⟨[], []⟩, .bin 0 .mul (.t 50) (.t 52)⟩,
    ⟨some 54, none, ⟨[], []⟩, .mov (.t 10)⟩,
    ⟨some 55, none, ⟨[], []⟩, .bin 0 .add (.t 53) (.t 54)⟩,
    ⟨some 56, none, ⟨[], []⟩, .mov (.t 14)⟩,
    ⟨some 57, none, ⟨[], []⟩, .idxS (.t 49) (.t 55) 1⟩,
    ⟨none, none, ⟨[], []⟩, .sto true 1 .i64 (.t 57) (.t 56)⟩] [13, 14, 48, 49, 50, 51, 52, 53, 54, 55, 56, 57] []))) (.reg false [⟨some 58, none, ⟨[], []⟩, .bin 0 .add (.t 43) (.k (.int .i64 1))⟩,
    ⟨some 43, none, ⟨[], []⟩, .mov (.t 58)⟩] [58] [])))
def r56_4 : IR :=
  .seq (.reg false [⟨some 38, none, ⟨[], []⟩, .mov (.t 3)⟩,
    ⟨some 39, none, ⟨[], []⟩, .mov (.t 11)⟩,
    ⟨some 40, none, ⟨[], []⟩, .mov (.t 4)⟩,
    ⟨some 41, none, ⟨[], []⟩, .call (some 4) 13 69 [.t 38, .t 39, .t 40]⟩,
    ⟨some 42, none, ⟨[], []⟩, .len (.t 41)⟩,
    ⟨some 43, none, ⟨[], []⟩, .mov (.k (.int .i64 0))⟩] [11, 12, 38, 39, 40] []) (.block 4 (.loop b56_3))
def r56_5 : IR :=
  .reg false [⟨some 18, none, ⟨[], []⟩, .mov (.t 10)⟩,
    ⟨some 19, none, ⟨[], []⟩, .bin 0 .add (.t 18) (.k (.int .i64 1))⟩,
    ⟨some 10, none, ⟨[], []⟩, .mov (.t 19)⟩] [18, 19, 41, 42, 43] []
def b56_1 : IR :=
  .seq (.seq (.reg false [⟨some 15, none, ⟨[], []⟩, .mov (.t 10)⟩,
    ⟨some 16, none, ⟨[], []⟩, .mov (.t 1)⟩,
    ⟨some 17, none, ⟨[], []⟩, .bin 0 .lss (.t 15) (.t 16)⟩] [15, 16] []) (.cond (.t 17) (.skip) (.exit 0))) (.seq (.block 1 (.seq (.reg false [⟨some 11, none, ⟨[], []⟩, .mov (.k nilSV)⟩] [17] []) (.seq (.seq (.reg false [⟨some 12, none, ⟨[], []⟩, .mov (.k (.int .i64 0))⟩] [] []) (.block 2 (.loop b56_2))) (r56_4)))) (r56_5))
def ir56 : IR :=
  .seq (.reg false [⟨some 5, none, ⟨[], []⟩, .box 10 (.t 0)⟩] [0] []) (.seq (.reg false [⟨some 10, none, ⟨[], []⟩, .mov (.k (.int .i64 0))⟩] [] []) (.block 0 (.loop b56_1)))
def kp56_2 : List Nat := [1, 2, 3, 4, 5, 10, 11, 12]
def kl56_2 : List Nat := [11, 12]
attribute [push_cast] kp56_2 kl56_2
def kp56_3 : List Nat := [1, 2, 3, 4, 5, 10, 41, 42, 43]
def kl56_3 : List Nat := []
attribute [push_cast] kp56_3 kl56_3
def kp56_1 : List Nat := [1, 2, 3, 4, 5, 10]
def kl56_1 : List Nat := [11, 12, 13, 14, 15, 16]
attribute [push_cast] kp56_1 kl56_1
set_option maxRecDepth 4000 in
theorem comp56 : (Try.f56.body.bind fun c => compC tab isP chkAll ir56 c) = some ir56 := by kernel_rfl
def TB : Bool → LT
  | true => unL
  | false => lineL
def BB : Bool → Int
  | true => 1125899906842624
  | false => 1073741824
theorem trn_TB : ∀ b, Trn (TB b)
  | true => trn_unline
  | false => trn_line
structure TurnA where
  a : LineA
  b : Bool
def fs69 : FS where
  A := TurnA
  args := fun a => [.int .i64 a.a.kind, .sl 0 a.a.L 1 a.a.lo a.a.n, .bool a.b]
  mem := fun a => [some (.ro, a.a.L, .ints .i64 a.a.xs)]
  pre := fun a => (a.a.kind = 0 ∨ a.a.kind = 1) ∧ a.a.xs.length ≤ 140737488355328 ∧ 0 ≤ a.a.lo ∧ a.a.lo + a.a.n ≤ a.a.xs.length ∧ a.a.n ≤ 1000000 ∧ AllIn (-BB a.b) (BB a.b) a.a.xs
  res := fun a x => .sl 1 (x 0) 1 0 a.a.n
  out := fun _ _ => []
  new := fun a x => [(x 0, .ints .i64 (TB a.b a.a.kind a.a.n (fun j => rd a.a.xs (a.a.lo + j))))]
def inv69 : List SV → Look → Option (TurnA × List Nat)
  | [.int .i64 k, .sl c _ 1 lo n, .bool b], look => match rowI (lkZ look (.ints .i64 []) c) with
    | some (L, .i64, xs) => some (⟨⟨k, L, xs, lo, n.toNat⟩, b⟩, [c])
    | _ => none
  | _, _ => none
attribute [push_cast] inv69
theorem ok69 : FSOk Try.prog 69 fs69 := by
  refine ⟨⟨_, Try.func69, by kernel_rfl, by kernel_rfl⟩, fun a => ⟨by simp [fs69, push_cast, noMine, argOwn, Chunk.frArg], by simp [fs69, push_cast, outOk, Chunk.ext], fun x => .inl (by simp [fs69, push_cast, frNew, frOut, Chunk.fr])⟩, fun a hp => ?_⟩
  obtain ⟨⟨kind, L, xs, lo, n⟩, b⟩ := a
  obtain ⟨hk, h1, h2, h3, h4, h5⟩ : (kind = 0 ∨ kind = 1) ∧ xs.length ≤ 140737488355328 ∧ 0 ≤ lo ∧ lo + n ≤ xs.length ∧ n ≤ 1000000 ∧ AllIn (-BB b) (BB b) xs := hp
  change Tri Try.prog 69 [.int .i64 kind, .sl 0 L 1 lo n, .bool b] [some (.ro, L, .ints .i64 xs)] (postF fs69 ⟨⟨kind, L, xs, lo, n⟩, b⟩)
  refine tri_evS (hyp (l := [(18, ent18), (19, ent19)]) (lp := []) ⟨e18, e19, trivial⟩ trivial) Try.func69 comp69 (rs := [.tmp 6]) (by rfl) Try.ntmps69 18 ?_
  cases b
  · have h5 : AllIn (-1073741824) 1073741824 xs := h5
    simp -implicitDefEqProofs only [push_cast, false_implies, reduceCtorEq, Classical.not_not, Nat.reduceAdd, Nat.reduceSub, Nat.reduceMul, Nat.reduceLeDiff, Nat.reduceLT, Nat.reduceEqDiff, Nat.reduceBEq, Nat.reduceBNe, Int.reduceNeg, Int.reduceToNat, Bool.or_false, Bool.false_or, Bool.or_true, Bool.true_or, BEq.rfl, Bool.not_eq_true, Bool.not_eq_false, decide_eq_true_eq, not_true_eq_false, not_false_eq_true, ite_true, ite_false, List.append_nil, and_assoc, Nat.mul_zero, Nat.zero_mul, ir69, fs38, fs39, Int.toNat_natCast]
    intro X
    repeat (refine And.intro (by first | omega | trivial | (intros; omega)) ?_)
    refine postF.mk' (fun _ => X 2 14) [some 0, some 14] ?_
    simp -implicitDefEqProofs only [push_cast, false_implies, reduceCtorEq, Classical.not_not, Nat.reduceAdd, Nat.reduceSub, Nat.reduceMul, Nat.reduceLeDiff, Nat.reduceLT, Nat.reduceEqDiff, Nat.reduceBEq, Nat.reduceBNe, Int.reduceNeg, Int.reduceToNat, Bool.or_false, Bool.false_or, Bool.or_true, Bool.true_or, BEq.rfl, Bool.not_eq_true, Bool.not_eq_false, decide_eq_true_eq, not_true_eq_false, not_false_eq_true, ite_true, ite_false, List.append_nil, and_assoc, Nat.mul_zero, Nat.zero_mul, fs69, TB, lineL_length]
  · have h5 : AllIn (-1125899906842624) 1125899906842624 xs := h5
    simp -implicitDefEqProofs only [push_cast, false_implies, reduceCtorEq, Classical.not_not, Nat.reduceAdd, Nat.reduceSub, Nat.reduceMul, Nat.reduceLeDiff, Nat.reduceLT, Nat.reduceEqDiff, Nat.reduceBEq, Nat.reduceBNe, Int.reduceNeg, Int.reduceToNat, Bool.or_false, Bool.false_or, Bool.or_true, Bool.true_or, BEq.rfl, Bool.not_eq_true, Bool.not_eq_false, decide_eq_true_eq, not_true_eq_false, not_false_eq_true, ite_true, ite_false, List.append_nil, and_assoc, Nat.mul_zero, Nat.zero_mul, ir69, fs38, fs39, Int.toNat_natCast]
    intro X
    repeat (refine And.intro (by first | omega | trivial | (intros; omega)) ?_)
    refine postF.mk' (fun _ => X 2 10) [some 0, some 10] ?_
    simp -implicitDefEqProofs only [push_cast, false_implies, reduceCtorEq, Classical.not_not, Nat.reduceAdd, Nat.reduceSub, Nat.reduceMul, Nat.reduceLeDiff, Nat.reduceLT, Nat.reduceEqDiff, Nat.reduceBEq, Nat.reduceBNe, Int.reduceNeg, Int.reduceToNat, Bool.or_false, Bool.false_or, Bool.or_true, Bool.true_or, BEq.rfl, Bool.not_eq_true, Bool.not_eq_false, decide_eq_true_eq, not_true_eq_false, not_false_eq_true, ite_true, ite_false, List.append_nil, and_assoc, Nat.mul_zero, Nat.zero_mul, fs69, TB, unL_length]
def ent69 : Entry := spOf fs69 inv69
theorem e69 : EntryOk Try.prog 69 ent69 := entry_of ok69 inv69
@[push_cast] theorem ent69_app (us : List SV) (look : Look) (x : Nat → Xf.Loc) (k : Nat) : ent69 us look x k = spOf fs69 inv69 us look x k := rfl
/-- A part of a row that is written over is a row that is turned in place. -/
theorem over_line {T : LT} (hT : Trn T) {kind : Int} {ws : List Int} {a : Int} {n : Nat} (h0 : 0 ≤ a) (h : a + n ≤ ws.length) {m : Int} (hm : m = n) :
    over ws a (sub (T kind n (fun j => rd ws (a + j))) 0 m) = alL T kind ws a 1 n := by
  subst hm
  have e : T kind n (fun j => rd ws (a + j)) = T kind n (rowF ws a 1 n) := hT.congr _ _ _ _ fun j hj => by rw [rowF_at hj, Int.mul_one]
  unfold alL
  rw [e]
  have hl : (T kind n (rowF ws a 1 n)).length = n := hT.len _ _ _
  generalize T kind n (rowF ws a 1 n) = res at hl
  have e2 : sub res 0 (n : Int) = res := by unfold sub; simp [hl]; exact List.take_of_length_le (by omega)
  rw [e2]
  obtain ⟨a, rfl⟩ : ∃ k : Nat, a = (k : Int) := ⟨a.toNat, by omega⟩
  have hl2 : (over ws a res).length = ws.length := by unfold over; simp; omega
  refine eq_of_rd (by rw [hl2, alS_length]) fun k hk => ?_
  rw [hl2] at hk
  by_cases h1 : k < a
  · rw [alS_miss (fun i hi => by omega)]
    rw [rd_lt _ _ (by omega), rd_lt _ _ (by omega)]
    unfold over
    rw [List.getElem_append_left (by simp; omega)]
    simp
  · by_cases h2 : k < a + n
    · have := alS_hit (res := res) (ws := ws) (a := (a : Int)) (b := 1) (by omega) (by omega) (i := k - a) (by omega) (n := n) (by omega)
      rw [show ((a : Int) + ((k - a : Nat) : Int) * 1).toNat = k by omega] at this
      rw [this, rd_lt _ _ (by omega), rd_lt _ _ (by omega)]
      unfold over
      rw [List.getElem_append_right (by simp; omega), List.getElem_append_left (by simp; omega)]
      congr 1; simp; omega
    · rw [alS_miss (fun i hi => by omega)]
      rw [rd_lt _ _ (by omega), rd_lt _ _ (by omega)]
      unfold over
      rw [List.getElem_append_right (by simp; omega), List.getElem_append_right (by simp; omega)]
      simp only [List.getElem_drop]
      congr 1; simp; omega
structure RrA where
  L : Xf.Loc
  W : Nat
  H : Int
  ws : List Int
  w : Nat
  h : Nat
  kind : Int
  b : Bool
def rrPre (a : RrA) : Prop := (a.kind = 0 ∨ a.kind = 1) ∧ a.ws.length ≤ 8192 ∧ a.W ≤ 200 ∧ a.w ≤ a.W ∧ a.h ≤ 200 ∧ a.h * a.W ≤ a.ws.length ∧ ∃ B : Int, 0 ≤ B ∧ 3 * B + 1 ≤ BB a.b ∧ AllIn (-B) B a.ws
def fs55 : FS where
  A := RrA
  args := fun a => [.agg [.int .i64 a.W, .int .i64 a.H, .sl 0 a.L 1 0 a.ws.length], .int .i64 a.w, .int .i64 a.h, .int .i64 a.kind, .bool a.b]
  mem := fun a => [some (.lent, a.L, .ints .i64 a.ws)]
  pre := rrPre
  res := fun a x => .tup []
  out := fun a _ => [some (some (.ints .i64 (rwL (TB a.b) a.kind a.W a.w a.ws a.h)))]
  new := fun _ _ => []
def inv55 : List SV → Look → Option (RrA × List Nat)
  | [.agg [.int .i64 W, .int .i64 H, .sl c _ 1 0 _], .int .i64 w, .int .i64 h, .int .i64 k, .bool b], look => match rowI (lkZ look (.ints .i64 []) c) with
    | some (L, .i64, ws) => some (⟨L, W.toNat, H, ws, w.toNat, h.toNat, k, b⟩, [c])
    | _ => none
  | _, _ => none
attribute [push_cast] inv55
theorem allIn_up {B C : Int} {xs : List Int} (h : AllIn (-B) B xs) (hB : B ≤ C) : AllIn (-C) C xs := fun n hn => by have := h n hn; omega
theorem TB_at {b : Bool} {kind : Int} {n : Nat} {f : Int → Int} : (TB b kind n f).length = n := (trn_TB b).len _ _ _
theorem ok55 : FSOk Try.prog 55 fs55 := by
  refine ⟨⟨_, Try.func55, by kernel_rfl, by kernel_rfl⟩, fun a => ⟨by simp [fs55, push_cast, noMine, argOwn, Chunk.frArg], by simp [fs55, push_cast, outOk, Chunk.ext], fun x => .inl (by simp [fs55, push_cast, frNew, frOut, Chunk.fr])⟩, fun a hp => ?_⟩
  obtain ⟨L, W, H, ws, w, h, kind, b⟩ := a
  obtain ⟨hk, h1, h2, h3, h4, h5, B, hB0, hB1, h6⟩ : (kind = 0 ∨ kind = 1) ∧ ws.length ≤ 8192 ∧ W ≤ 200 ∧ w ≤ W ∧ h ≤ 200 ∧ h * W ≤ ws.length ∧ ∃ B : Int, 0 ≤ B ∧ 3 * B + 1 ≤ BB b ∧ AllIn (-B) B ws := hp
  change Tri Try.prog 55 [.agg [.int .i64 W, .int .i64 H, .sl 0 L 1 0 ws.length], .int .i64 w, .int .i64 h, .int .i64 kind, .bool b] [some (.lent, L, .ints .i64 ws)] (postF fs55 ⟨L, W, H, ws, w, h, kind, b⟩)
  refine tri_evS (hyp (l := [(69, ent69)]) (lp := []) ⟨e69, trivial⟩ trivial) Try.func55 comp55 (rs := []) (by rfl) Try.ntmps55 14 ?_
  simp -implicitDefEqProofs only [push_cast, false_implies, reduceCtorEq, Classical.not_not, Nat.reduceAdd, Nat.reduceSub, Nat.reduceMul, Nat.reduceLeDiff, Nat.reduceLT, Nat.reduceEqDiff, Nat.reduceBEq, Nat.reduceBNe, Int.reduceNeg, Int.reduceToNat, Bool.or_false, Bool.false_or, Bool.or_true, Bool.true_or, BEq.rfl, Bool.not_eq_true, Bool.not_eq_false, decide_eq_true_eq, not_true_eq_false, not_false_eq_true, ite_true, ite_false, List.append_nil, and_assoc, Nat.mul_zero, Nat.zero_mul, ir55]
  intro X
  refine evS_loopU (A := Nat) kp55_1 kl55_1 (fun y => [(10, .int .i64 y)]) (fun y => [(0, .lent, L, .ints .i64 (rwL (TB b) kind W w ws y))]) (fun y => y ≤ h) (fun y => h - y) 0 (by omega) (Sub.pt ?_) ?_
  · simp -implicitDefEqProofs only [push_cast, false_implies, reduceCtorEq, Classical.not_not, Nat.reduceAdd, Nat.reduceSub, Nat.reduceMul, Nat.reduceLeDiff, Nat.reduceLT, Nat.reduceEqDiff, Nat.reduceBEq, Nat.reduceBNe, Int.reduceNeg, Int.reduceToNat, Bool.or_false, Bool.false_or, Bool.or_true, Bool.true_or, BEq.rfl, Bool.not_eq_true, Bool.not_eq_false, decide_eq_true_eq, not_true_eq_false, not_false_eq_true, ite_true, ite_false, List.append_nil, and_assoc, Nat.mul_zero, Nat.zero_mul, rwL]
  intro y (hy : y ≤ h) K hK
  have lQ := rwL_length (TB b) kind W w ws y
  have hB : AllIn (-BB b) (BB b) (rwL (TB b) kind W w ws y) := allIn_up (rwL_bd (trn_TB b) h3 (Nat.le_trans (Nat.mul_le_mul_right _ hy) h5) h6 hB0) hB1
  have lT : ∀ f, (TB b kind w f).length = w := fun f => TB_at
  simp -implicitDefEqProofs only [push_cast, false_implies, reduceCtorEq, Classical.not_not, Nat.reduceAdd, Nat.reduceSub, Nat.reduceMul, Nat.reduceLeDiff, Nat.reduceLT, Nat.reduceEqDiff, Nat.reduceBEq, Nat.reduceBNe, Int.reduceNeg, Int.reduceToNat, Bool.or_false, Bool.false_or, Bool.or_true, Bool.true_or, BEq.rfl, Bool.not_eq_true, Bool.not_eq_false, decide_eq_true_eq, not_true_eq_false, not_false_eq_true, ite_true, ite_false, List.append_nil, and_assoc, Nat.mul_zero, Nat.zero_mul, b55_1, fs69, lQ, Int.toNat_natCast]
  refine ⟨fun hl => ?_, fun hl => ?_⟩
  · have hy' : y < h := by omega
    have hm := mul_bd (a := (y : Int)) (b := (W : Int)) (A := 200) (B := 200) (by omega) (by omega) (by omega) (by omega)
    have hyW : ((y : Int) + 1) * W ≤ ws.length := by
      have h7 : (y + 1) * W ≤ ws.length := Nat.le_trans (Nat.mul_le_mul_right _ hy') h5
      have h8 : (((y + 1) * W : Nat) : Int) = ((y : Int) + 1) * W := by simp
      omega
    rw [Int.add_mul] at hyW
    have e1 : (y : Int) * W + w - (y : Int) * W = w := by omega
    simp only [e1, Int.toNat_natCast, lT]
    repeat (refine And.intro (by first | omega | trivial | (intros; omega)) ?_)
    intro X2
    repeat (refine And.intro (by first | omega | trivial | (intros; omega)) ?_)
    have q := over_line (trn_TB b) (kind := kind) (ws := rwL (TB b) kind W w ws y) (a := (y : Int) * W) (n := w) (by omega) (by rw [lQ]; omega) (m := min (w : Int) w) (by omega)
    have q2 : alL (TB b) kind (rwL (TB b) kind W w ws y) ((y : Int) * W) 1 w = rwL (TB b) kind W w ws (y + 1) := rfl
    rw [q2] at q
    refine hK (y + 1) (by omega) (by omega) _ _ (Sub.pt ?_)
    simp -implicitDefEqProofs only [push_cast, false_implies, reduceCtorEq, Classical.not_not, Nat.reduceAdd, Nat.reduceSub, Nat.reduceMul, Nat.reduceLeDiff, Nat.reduceLT, Nat.reduceEqDiff, Nat.reduceBEq, Nat.reduceBNe, Int.reduceNeg, Int.reduceToNat, Bool.or_false, Bool.false_or, Bool.or_true, Bool.true_or, BEq.rfl, Bool.not_eq_true, Bool.not_eq_false, decide_eq_true_eq, not_true_eq_false, not_false_eq_true, ite_true, ite_false, List.append_nil, and_assoc, Nat.mul_zero, Nat.zero_mul, q]
  · obtain rfl : y = h := by omega
    refine postF.mk' (fun _ => default) [some 0] ?_
    simp -implicitDefEqProofs only [push_cast, false_implies, reduceCtorEq, Classical.not_not, Nat.reduceAdd, Nat.reduceSub, Nat.reduceMul, Nat.reduceLeDiff, Nat.reduceLT, Nat.reduceEqDiff, Nat.reduceBEq, Nat.reduceBNe, Int.reduceNeg, Int.reduceToNat, Bool.or_false, Bool.false_or, Bool.or_true, Bool.true_or, BEq.rfl, Bool.not_eq_true, Bool.not_eq_false, decide_eq_true_eq, not_true_eq_false, not_false_eq_true, ite_true, ite_false, List.append_nil, and_assoc, Nat.mul_zero, Nat.zero_mul, fs55]
def ent55 : Entry := spOf fs55 inv55
theorem e55 : EntryOk Try.prog 55 ent55 := entry_of ok55 inv55
@[push_cast] theorem ent55_app (us : List SV) (look : Look) (x : Nat → Xf.Loc) (k : Nat) : ent55 us look x k = spOf fs55 inv55 us look x k := rfl
def fs56 : FS := { fs55 with out := fun a _ => [some (some (.ints .i64 (clL (TB a.b) a.kind a.W a.h a.ws a.w)))] }
theorem ok56 : FSOk Try.prog 56 fs56 := by
  refine ⟨⟨_, Try.func56, by kernel_rfl, by kernel_rfl⟩, fun a => ⟨by simp [fs56, fs55, push_cast, noMine, argOwn, Chunk.frArg], by simp [fs56, fs55, push_cast, outOk, Chunk.ext], fun x => .inl (by simp [fs56, fs55, push_cast, frNew, frOut, Chunk.fr])⟩, fun a hp => ?_⟩
  obtain ⟨L, W, H, ws, w, h, kind, b⟩ := a
  obtain ⟨hk, h1, h2, h3, h4, h5, B, hB0, hB1, h6⟩ : (kind = 0 ∨ kind = 1) ∧ ws.length ≤ 8192 ∧ W ≤ 200 ∧ w ≤ W ∧ h ≤ 200 ∧ h * W ≤ ws.length ∧ ∃ B : Int, 0 ≤ B ∧ 3 * B + 1 ≤ BB b ∧ AllIn (-B) B ws := hp
  change Tri Try.prog 56 [.agg [.int .i64 W, .int .i64 H, .sl 0 L 1 0 ws.length], .int .i64 w, .int .i64 h, .int .i64 kind, .bool b] [some (.lent, L, .ints .i64 ws)] (postF fs56 ⟨L, W, H, ws, w, h, kind, b⟩)
  refine tri_evS (hyp (l := [(69, ent69)]) (lp := []) ⟨e69, trivial⟩ trivial) Try.func56 comp56 (rs := []) (by rfl) Try.ntmps56 16 ?_
  simp -implicitDefEqProofs only [push_cast, false_implies, reduceCtorEq, Classical.not_not, Nat.reduceAdd, Nat.reduceSub, Nat.reduceMul, Nat.reduceLeDiff, Nat.reduceLT, Nat.reduceEqDiff, Nat.reduceBEq, Nat.reduceBNe, Int.reduceNeg, Int.reduceToNat, Bool.or_false, Bool.false_or, Bool.or_true, Bool.true_or, BEq.rfl, Bool.not_eq_true, Bool.not_eq_false, decide_eq_true_eq, not_true_eq_false, not_false_eq_true, ite_true, ite_false, List.append_nil, and_assoc, Nat.mul_zero, Nat.zero_mul, ir56]
  intro X
  refine evS_loopU (A := Nat) kp56_1 kl56_1 (fun y => [(10, .int .i64 y)]) (fun y => [(0, .lent, L, .ints .i64 (clL (TB b) kind W h ws y))]) (fun y => y ≤ w) (fun y => w - y) 0 (by omega) (Sub.pt ?_) ?_
  · simp -implicitDefEqProofs only [push_cast, false_implies, reduceCtorEq, Classical.not_not, Nat.reduceAdd, Nat.reduceSub, Nat.reduceMul, Nat.reduceLeDiff, Nat.reduceLT, Nat.reduceEqDiff, Nat.reduceBEq, Nat.reduceBNe, Int.reduceNeg, Int.reduceToNat, Bool.or_false, Bool.false_or, Bool.or_true, Bool.true_or, BEq.rfl, Bool.not_eq_true, Bool.not_eq_false, decide_eq_true_eq, not_true_eq_false, not_false_eq_true, ite_true, ite_false, List.append_nil, and_assoc, Nat.mul_zero, Nat.zero_mul, clL]
  intro x (hx : x ≤ w) K hK
  have lQ := clL_length (TB b) kind W h ws x
  have hB : AllIn (-BB b) (BB b) (clL (TB b) kind W h ws x) := allIn_up (clL_bd (trn_TB b) h5 (Nat.le_trans hx h3) h6 hB0) hB1
  have lT : ∀ f, (TB b kind h f).length = h := fun f => TB_at
  have q2 : alL (TB b) kind (clL (TB b) kind W h ws x) (x : Int) W h = clL (TB b) kind W h ws (x + 1) := rfl
  generalize hvs : clL (TB b) kind W h ws x = vs at lQ hB q2 ⊢
  have hin : ∀ i : Nat, i < h → 0 ≤ (i : Int) * W ∧ (i : Int) * W + W ≤ ws.length := fun i hi => by
    have h7 : (i + 1) * W ≤ ws.length := Nat.le_trans (Nat.mul_le_mul_right _ hi) h5
    have h8 : (((i + 1) * W : Nat) : Int) = (i : Int) * W + W := by rw [Nat.add_mul]; simp
    have h9 : (0 : Int) ≤ (i : Int) * W := Int.mul_nonneg (by omega) (by omega)
    omega
  simp -implicitDefEqProofs only [push_cast, false_implies, reduceCtorEq, Classical.not_not, Nat.reduceAdd, Nat.reduceSub, Nat.reduceMul, Nat.reduceLeDiff, Nat.reduceLT, Nat.reduceEqDiff, Nat.reduceBEq, Nat.reduceBNe, Int.reduceNeg, Int.reduceToNat, Bool.or_false, Bool.false_or, Bool.or_true, Bool.true_or, BEq.rfl, Bool.not_eq_true, Bool.not_eq_false, decide_eq_true_eq, not_true_eq_false, not_false_eq_true, ite_true, ite_false, List.append_nil, and_assoc, Nat.mul_zero, Nat.zero_mul, b56_1, r56_4, r56_5]
  refine ⟨fun hl => ?_, fun hl => ?_⟩
  · have hx' : x < w := by omega
    refine evS_loopU (A := Nat × Xf.Loc) kp56_2 kl56_2 (fun y => [(11, .sl 12 y.2 1 0 y.1), (12, .int .i64 y.1)]) (fun y => [(12, .mine, y.2, .ints .i64 (tabl y.1 (alG vs x W)))])
      (fun y => y.1 ≤ h) (fun y => h - y.1) (0, nilLoc) (Nat.zero_le _) (Sub.pt ?_) ?_
    · simp -implicitDefEqProofs only [push_cast, false_implies, reduceCtorEq, Classical.not_not, Nat.reduceAdd, Nat.reduceSub, Nat.reduceMul, Nat.reduceLeDiff, Nat.reduceLT, Nat.reduceEqDiff, Nat.reduceBEq, Nat.reduceBNe, Int.reduceNeg, Int.reduceToNat, Bool.or_false, Bool.false_or, Bool.or_true, Bool.true_or, BEq.rfl, Bool.not_eq_true, Bool.not_eq_false, decide_eq_true_eq, not_true_eq_false, not_false_eq_true, ite_true, ite_false, List.append_nil, and_assoc, Nat.mul_zero, Nat.zero_mul, tabl_zero]
    intro ⟨i, N⟩ (hi : i ≤ h) K2 hK2
    simp -implicitDefEqProofs only [push_cast, false_implies, reduceCtorEq, Classical.not_not, Nat.reduceAdd, Nat.reduceSub, Nat.reduceMul, Nat.reduceLeDiff, Nat.reduceLT, Nat.reduceEqDiff, Nat.reduceBEq, Nat.reduceBNe, Int.reduceNeg, Int.reduceToNat, Bool.or_false, Bool.false_or, Bool.or_true, Bool.true_or, BEq.rfl, Bool.not_eq_true, Bool.not_eq_false, decide_eq_true_eq, not_true_eq_false, not_false_eq_true, ite_true, ite_false, List.append_nil, and_assoc, Nat.mul_zero, Nat.zero_mul, b56_2, fs69, lQ, Int.toNat_natCast]
    refine ⟨fun hl => ?_, fun hl => ?_⟩
    · have hi' : i < h := by omega
      have := hin i hi'
      simp only [tabl_length]
      repeat (refine And.intro (by first | omega | trivial | (intros; omega)) ?_)
      intro X2
      repeat (refine And.intro (by first | omega | trivial | (intros; omega)) ?_)
      refine hK2 (i + 1, X2 12 12) (show i + 1 ≤ h by omega) (show h - (i + 1) < h - i by omega) _ _ (Sub.pt ?_)
      have q : rd vs ((i : Int) * W + x) = alG vs x W i := by unfold alG; rw [Int.add_comm]
      simp -implicitDefEqProofs only [push_cast, false_implies, reduceCtorEq, Classical.not_not, Nat.reduceAdd, Nat.reduceSub, Nat.reduceMul, Nat.reduceLeDiff, Nat.reduceLT, Nat.reduceEqDiff, Nat.reduceBEq, Nat.reduceBNe, Int.reduceNeg, Int.reduceToNat, Bool.or_false, Bool.false_or, Bool.or_true, Bool.true_or, BEq.rfl, Bool.not_eq_true, Bool.not_eq_false, decide_eq_true_eq, not_true_eq_false, not_false_eq_true, ite_true, ite_false, List.append_nil, and_assoc, Nat.mul_zero, Nat.zero_mul, q, tabl_snoc]
    · obtain rfl : i = h := by omega
      clear hK2
      have hal := alG_in (a := (x : Int)) (b := (W : Int)) (n := i) hB (by cases b <;> decide)
      simp only [tabl_length, Int.zero_add]
      repeat (refine And.intro (by first | omega | trivial | (intros; omega)) ?_)
      intro X2
      repeat (refine And.intro (by first | omega | trivial | (intros; omega)) ?_)
      refine evS_loopU (A := Nat) kp56_3 kl56_3 (fun j => [(43, .int .i64 j)]) (fun j => [(0, .lent, L, .ints .i64 (alS (TB b kind i (rowF vs x W i)) vs x W j))])
        (fun j => j ≤ i) (fun j => i - j) 0 (by omega) (Sub.pt ?_) ?_
      · simp -implicitDefEqProofs only [push_cast, false_implies, reduceCtorEq, Classical.not_not, Nat.reduceAdd, Nat.reduceSub, Nat.reduceMul, Nat.reduceLeDiff, Nat.reduceLT, Nat.reduceEqDiff, Nat.reduceBEq, Nat.reduceBNe, Int.reduceNeg, Int.reduceToNat, Bool.or_false, Bool.false_or, Bool.or_true, Bool.true_or, BEq.rfl, Bool.not_eq_true, Bool.not_eq_false, decide_eq_true_eq, not_true_eq_false, not_false_eq_true, ite_true, ite_false, List.append_nil, and_assoc, Nat.mul_zero, Nat.zero_mul, alS]
      intro j (hj : j ≤ i) K3 hK3
      have e0 : TB b kind i (fun j => rd (tabl i (alG vs x W)) j) = TB b kind i (rowF vs x W i) := rfl
      have lR := lT (rowF vs x W i)
      simp -implicitDefEqProofs only [push_cast, false_implies, reduceCtorEq, Classical.not_not, Nat.reduceAdd, Nat.reduceSub, Nat.reduceMul, Nat.reduceLeDiff, Nat.reduceLT, Nat.reduceEqDiff, Nat.reduceBEq, Nat.reduceBNe, Int.reduceNeg, Int.reduceToNat, Bool.or_false, Bool.false_or, Bool.or_true, Bool.true_or, BEq.rfl, Bool.not_eq_true, Bool.not_eq_false, decide_eq_true_eq, not_true_eq_false, not_false_eq_true, ite_true, ite_false, List.append_nil, and_assoc, Nat.mul_zero, Nat.zero_mul, b56_3, e0]
      refine ⟨fun hl => ?_, fun hl => ?_⟩
      · have hj' : j < i := by omega
        have := hin j hj'
        simp only [alS_length, lQ, lR]
        repeat (refine And.intro (by first | omega | trivial | (intros; omega)) ?_)
        refine hK3 (j + 1) (by omega) (by omega) _ _ (Sub.pt ?_)
        have q : ((j : Int) * W + x).toNat = ((x : Int) + j * W).toNat := by rw [Int.add_comm]
        simp -implicitDefEqProofs only [push_cast, false_implies, reduceCtorEq, Classical.not_not, Nat.reduceAdd, Nat.reduceSub, Nat.reduceMul, Nat.reduceLeDiff, Nat.reduceLT, Nat.reduceEqDiff, Nat.reduceBEq, Nat.reduceBNe, Int.reduceNeg, Int.reduceToNat, Bool.or_false, Bool.false_or, Bool.or_true, Bool.true_or, BEq.rfl, Bool.not_eq_true, Bool.not_eq_false, decide_eq_true_eq, not_true_eq_false, not_false_eq_true, ite_true, ite_false, List.append_nil, and_assoc, Nat.mul_zero, Nat.zero_mul, alS, q, e0]
      · obtain rfl : j = i := by omega
        clear hK3
        have q3 : alS (TB b kind j (rowF vs x W j)) vs x W j = clL (TB b) kind W j ws (x + 1) := q2
        repeat (refine And.intro (by first | omega | trivial | (intros; omega)) ?_)
        refine hK (x + 1) (by omega) (by omega) _ _ (Sub.pt ?_)
        simp -implicitDefEqProofs only [push_cast, false_implies, reduceCtorEq, Classical.not_not, Nat.reduceAdd, Nat.reduceSub, Nat.reduceMul, Nat.reduceLeDiff, Nat.reduceLT, Nat.reduceEqDiff, Nat.reduceBEq, Nat.reduceBNe, Int.reduceNeg, Int.reduceToNat, Bool.or_false, Bool.false_or, Bool.or_true, Bool.true_or, BEq.rfl, Bool.not_eq_true, Bool.not_eq_false, decide_eq_true_eq, not_true_eq_false, not_false_eq_true, ite_true, ite_false, List.append_nil, and_assoc, Nat.mul_zero, Nat.zero_mul, q3]
  · obtain rfl : x = w := by omega
    refine postF.mk' (fun _ => default) [some 0] ?_
    simp -implicitDefEqProofs only [push_cast, false_implies, reduceCtorEq, Classical.not_not, Nat.reduceAdd, Nat.reduceSub, Nat.reduceMul, Nat.reduceLeDiff, Nat.reduceLT, Nat.reduceEqDiff, Nat.reduceBEq, Nat.reduceBNe, Int.reduceNeg, Int.reduceToNat, Bool.or_false, Bool.false_or, Bool.or_true, Bool.true_or, BEq.rfl, Bool.not_eq_true, Bool.not_eq_false, decide_eq_true_eq, not_true_eq_false, not_false_eq_true, ite_true, ite_false, List.append_nil, and_assoc, Nat.mul_zero, Nat.zero_mul, fs56, fs55, hvs]
def ent56 : Entry := spOf fs56 inv55
theorem e56 : EntryOk Try.prog 56 ent56 := entry_of ok56 inv55
@[push_cast] theorem ent56_app (us : List SV) (look : Look) (x : Nat → Xf.Loc) (k : Nat) : ent56 us look x k = spOf fs56 inv55 us look x k := rfl
def ir30 : IR :=
  .seq (.reg false [⟨some 4, none, ⟨[], []⟩, .mov (.k (.bool false))⟩] [4] []) (.seq (.reg false [⟨some 5, none, ⟨[], []⟩, .mov (.t 0)⟩,
    ⟨some 6, none, ⟨[], []⟩, .bin 0 .geq (.t 5) (.k (.int .i64 0))⟩,
    ⟨some 7, none, ⟨[], []⟩, .mov (.t 6)⟩,
    ⟨some 8, some (7, true), ⟨[], []⟩, .mov (.t 0)⟩,
    ⟨some 9, some (7, true), ⟨[], []⟩, .bin 0 .leq (.t 8) (.k (.int .i64 1))⟩,
    ⟨some 10, none, ⟨[], []⟩, .pick (.t 7) (.t 9) (.k (.bool false))⟩,
    ⟨some 11, none, ⟨[], []⟩, .mov (.t 10)⟩,
    ⟨some 12, some (11, true), ⟨[], []⟩, .mov (.t 1)⟩,
    ⟨some 13, some (11, true), ⟨[], []⟩, .bin 0 .geq (.t 12) (.k (.int .i64 0))⟩,
    ⟨some 14, none, ⟨[], []⟩, .pick (.t 11) (.t 13) (.k (.bool false))⟩,
    ⟨some 15, none, ⟨[], []⟩, .mov (.t 14)⟩,
    ⟨some 16, some (15, true), ⟨[], []⟩, .mov (.t 1)⟩,
    ⟨some 17, some (15, true), ⟨[], []⟩, .bin 0 .leq (.t 16) (.k (.int .i64 6))⟩,
    ⟨some 18, none, ⟨[], []⟩, .pick (.t 15) (.t 17) (.k (.bool false))⟩,
    ⟨some 4, none, ⟨[], []⟩, .mov (.t 18)⟩] [0, 1, 5, 6, 7, 8, 9, 10, 11, 12, 13, 14, 15, 16, 17, 18] []) (.ret))
set_option maxRecDepth 4000 in
theorem comp30 : (Try.f30.body.bind fun c => compC tab isP chkAll ir30 c) = some ir30 := by kernel_rfl
def b50_1 : IR :=
  .seq (.seq (.reg false [⟨some 9, none, ⟨[], []⟩, .mov (.t 8)⟩,
    ⟨some 10, none, ⟨[], []⟩, .mov (.t 2)⟩,
    ⟨some 11, none, ⟨[], []⟩, .bin 0 .lss (.t 9) (.t 10)⟩] [9, 10] []) (.cond (.t 11) (.skip) (.exit 0))) (.seq (.block 1 (.reg false [⟨some 14, none, ⟨[], []⟩, .mov (.t 0)⟩,
    ⟨some 15, none, ⟨[], []⟩, .bin 0 .add (.t 14) (.k (.int .i64 1))⟩,
    ⟨some 16, none, ⟨[], []⟩, .bin 0 .quo (.t 15) (.k (.int .i64 2))⟩,
    ⟨some 17, none, ⟨[], []⟩, .mov (.t 1)⟩,
    ⟨some 18, none, ⟨[], []⟩, .bin 0 .add (.t 17) (.k (.int .i64 1))⟩,
    ⟨some 19, none, ⟨[], []⟩, .bin 0 .quo (.t 18) (.k (.int .i64 2))⟩,
    ⟨some 0, none, ⟨[], []⟩, .mov (.t 16)⟩,
    ⟨some 1, none, ⟨[], []⟩, .mov (.t 19)⟩] [11, 14, 15, 16, 17, 18, 19] [])) (.reg false [⟨some 12, none, ⟨[], []⟩, .mov (.t 8)⟩,
    ⟨some 13, none, ⟨[], []⟩, .bin 0 .add (.t 12) (.k (.int .i64 1))⟩,
    ⟨some 8, none, ⟨[], []⟩, .mov (.t 13)⟩] [12, 13] []))
def r50_2 : IR :=
  .seq (.reg false [⟨some 20, none, ⟨[], []⟩, .mov (.t 0)⟩,
    ⟨some 21, none, ⟨[], []⟩, .mov (.t 1)⟩,
    ⟨some 6, none, ⟨[], []⟩, .mov (.t 20)⟩,
    ⟨some 7, none, ⟨[], []⟩, .mov (.t 21)⟩] [0, 1, 2, 8, 20, 21] []) (.ret)
def ir50 : IR :=
  .seq (.reg false [⟨some 6, none, ⟨[], []⟩, .mov (.k (.int .i64 0))⟩,
    ⟨some 7, none, ⟨[], []⟩, .mov (.k (.int .i64 0))⟩] [6, 7] []) (.seq (.seq (.reg false [⟨some 8, none, ⟨[], []⟩, .mov (.k (.int .i64 0))⟩] [] []) (.block 0 (.loop b50_1))) (r50_2))
def kp50_1 : List Nat := [0, 1, 2, 8]
def kl50_1 : List Nat := []
attribute [push_cast] kp50_1 kl50_1
set_option maxRecDepth 4000 in
theorem comp50 : (Try.f50.body.bind fun c => compC tab isP chkAll ir50 c) = some ir50 := by kernel_rfl
def styF : EntryP
  | [.int .i64 k, .int .i64 n] => some (True, .bool (decide (stOk k n)))
  | _ => none
attribute [push_cast] styF
theorem p30 : EntryPOk Try.prog 30 styF := by
  refine ⟨⟨_, Try.func30, by kernel_rfl, by kernel_rfl⟩, fun us p v h hp => ?_⟩
  unfold styF at h
  split at h <;> cases h
  refine tri_evS (hyp (l := []) (lp := []) trivial trivial) Try.func30 comp30 (rs := [.tmp 4]) (by rfl) Try.ntmps30 10 ?_
  simp -implicitDefEqProofs only [push_cast, false_implies, reduceCtorEq, Classical.not_not, Nat.reduceAdd, Nat.reduceSub, Nat.reduceMul, Nat.reduceLeDiff, Nat.reduceLT, Nat.reduceEqDiff, Nat.reduceBEq, Nat.reduceBNe, Int.reduceNeg, Int.reduceToNat, Bool.or_false, Bool.false_or, Bool.or_true, Bool.true_or, BEq.rfl, Bool.not_eq_true, Bool.not_eq_false, decide_eq_true_eq, not_true_eq_false, not_false_eq_true, ite_true, ite_false, List.append_nil, and_assoc, Nat.mul_zero, Nat.zero_mul, ir30, styF, stOk]
  exact bool_congr (by omega)
def fs50 : FS where
  A := SdA
  args := fun a => [.int .i64 a.w, .int .i64 a.h, .int .i64 a.n]
  mem := fun _ => []
  pre := fun a => a.w ≤ 200 ∧ a.h ≤ 200 ∧ a.n ≤ 7
  res := fun a x => .tup [.int .i64 (hlf a.w a.n), .int .i64 (hlf a.h a.n)]
  out := fun _ _ => []
  new := fun _ _ => []
theorem ok50 : FSOk Try.prog 50 fs50 := by
  refine ⟨⟨_, Try.func50, by kernel_rfl, by kernel_rfl⟩, fun a => ⟨by simp [fs50, push_cast, noMine, argOwn, Chunk.frArg], by simp [fs50, push_cast, outOk, Chunk.ext], fun x => .inl (by simp [fs50, push_cast, frNew, frOut, Chunk.fr])⟩, fun a hp => ?_⟩
  obtain ⟨w, h, n⟩ := a
  obtain ⟨h1, h2, h3⟩ : w ≤ 200 ∧ h ≤ 200 ∧ n ≤ 7 := hp
  change Tri Try.prog 50 [.int .i64 w, .int .i64 h, .int .i64 n] [] (postF fs50 ⟨w, h, n⟩)
  refine tri_evS (hyp (l := []) (lp := []) trivial trivial) Try.func50 comp50 (rs := [.tmp 6, .tmp 7]) (by rfl) Try.ntmps50 10 ?_
  simp -implicitDefEqProofs only [push_cast, false_implies, reduceCtorEq, Classical.not_not, Nat.reduceAdd, Nat.reduceSub, Nat.reduceMul, Nat.reduceLeDiff, Nat.reduceLT, Nat.reduceEqDiff, Nat.reduceBEq, Nat.reduceBNe, Int.reduceNeg, Int.reduceToNat, Bool.or_false, Bool.false_or, Bool.or_true, Bool.true_or, BEq.rfl, Bool.not_eq_true, Bool.not_eq_false, decide_eq_true_eq, not_true_eq_false, not_false_eq_true, ite_true, ite_false, List.append_nil, and_assoc, Nat.mul_zero, Nat.zero_mul, ir50]
  refine evS_loopU (A := Nat) kp50_1 kl50_1 (fun i => [(0, .int .i64 (hlf w i)), (1, .int .i64 (hlf h i)), (8, .int .i64 i)]) (fun _ => []) (fun i => i ≤ n) (fun i => n - i) 0 (Nat.zero_le _) (Sub.pt ?_) ?_
  · simp -implicitDefEqProofs only [push_cast, false_implies, reduceCtorEq, Classical.not_not, Nat.reduceAdd, Nat.reduceSub, Nat.reduceMul, Nat.reduceLeDiff, Nat.reduceLT, Nat.reduceEqDiff, Nat.reduceBEq, Nat.reduceBNe, Int.reduceNeg, Int.reduceToNat, Bool.or_false, Bool.false_or, Bool.or_true, Bool.true_or, BEq.rfl, Bool.not_eq_true, Bool.not_eq_false, decide_eq_true_eq, not_true_eq_false, not_false_eq_true, ite_true, ite_false, List.append_nil, and_assoc, Nat.mul_zero, Nat.zero_mul, hlf]
  intro i (hi : i ≤ n) K hK
  simp -implicitDefEqProofs only [push_cast, false_implies, reduceCtorEq, Classical.not_not, Nat.reduceAdd, Nat.reduceSub, Nat.reduceMul, Nat.reduceLeDiff, Nat.reduceLT, Nat.reduceEqDiff, Nat.reduceBEq, Nat.reduceBNe, Int.reduceNeg, Int.reduceToNat, Bool.or_false, Bool.false_or, Bool.or_true, Bool.true_or, BEq.rfl, Bool.not_eq_true, Bool.not_eq_false, decide_eq_true_eq, not_true_eq_false, not_false_eq_true, ite_true, ite_false, List.append_nil, and_assoc, Nat.mul_zero, Nat.zero_mul, b50_1, r50_2]
  have b1 := hlf_le w i
  have b2 := hlf_le h i
  have b3 := hlf_succ w i
  have b4 := hlf_succ h i
  refine ⟨fun hl => ?_, fun hl => ?_⟩
  · repeat (refine And.intro (by first | omega | trivial | (intros; omega)) ?_)
    rw [b3, b4]
    refine hK (i + 1) (by omega) (by omega) _ _ (Sub.pt ?_)
    simp -implicitDefEqProofs only [push_cast, false_implies, reduceCtorEq, Classical.not_not, Nat.reduceAdd, Nat.reduceSub, Nat.reduceMul, Nat.reduceLeDiff, Nat.reduceLT, Nat.reduceEqDiff, Nat.reduceBEq, Nat.reduceBNe, Int.reduceNeg, Int.reduceToNat, Bool.or_false, Bool.false_or, Bool.or_true, Bool.true_or, BEq.rfl, Bool.not_eq_true, Bool.not_eq_false, decide_eq_true_eq, not_true_eq_false, not_false_eq_true, ite_true, ite_false, List.append_nil, and_assoc, Nat.mul_zero, Nat.zero_mul]
  · obtain rfl : i = n := by omega
    refine postF.mk' (fun _ => default) [] ?_
    simp -implicitDefEqProofs only [push_cast, false_implies, reduceCtorEq, Classical.not_not, Nat.reduceAdd, Nat.reduceSub, Nat.reduceMul, Nat.reduceLeDiff, Nat.reduceLT, Nat.reduceEqDiff, Nat.reduceBEq, Nat.reduceBNe, Int.reduceNeg, Int.reduceToNat, Bool.or_false, Bool.false_or, Bool.or_true, Bool.true_or, BEq.rfl, Bool.not_eq_true, Bool.not_eq_false, decide_eq_true_eq, not_true_eq_false, not_false_eq_true, ite_true, ite_false, List.append_nil, and_assoc, Nat.mul_zero, Nat.zero_mul, fs50]
def ent50 : Entry := spOf fs50 inv47
theorem e50 : EntryOk Try.prog 50 ent50 := entry_of ok50 inv47
@[push_cast] theorem ent50_app (us : List SV) (look : Look) (x : Nat → Xf.Loc) (k : Nat) : ent50 us look x k = spOf fs50 inv47 us look x k := rfl
def ir57 : IR :=
  .seq (.reg false [⟨some 1, none, ⟨[], []⟩, .box 10 (.t 0)⟩,
    ⟨some 2, none, ⟨[], []⟩, .mov (.k (.val .nilFunc))⟩] [0, 2] []) (.seq (.reg false [⟨some 3, none, ⟨[], []⟩, .mkf 70 [.t 1]⟩,
    ⟨some 2, none, ⟨[], []⟩, .mov (.t 3)⟩] [1, 3] []) (.ret))
set_option maxRecDepth 4000 in
theorem comp57 : (Try.f57.body.bind fun c => compC tab isP chkAll ir57 c) = some ir57 := by kernel_rfl
def b70_1 : IRG :=
  .seq (.seq (.reg [⟨some 7, none, ⟨[], []⟩, .mov (.t 3)⟩,
    ⟨some 8, none, ⟨[], []⟩, .bin 0 .geq (.t 7) (.k (.int .i64 0))⟩] [7]) (.cond (.t 8) (.skip) (.exit 0))) (.seq (.block 1 (.seq (.yl [⟨some 11, none, ⟨[], []⟩, .mov (.t 0)⟩,
    ⟨some 12, none, ⟨[], []⟩, .mov (.t 3)⟩,
    ⟨some 13, none, ⟨[], []⟩, .ld false none 0 0 (.t 1)⟩,
    ⟨some 14, none, ⟨[], []⟩, .mov (.t 3)⟩,
    ⟨some 15, none, ⟨[], []⟩, .idxS (.t 13) (.t 14) 2⟩,
    ⟨some 16, none, ⟨[], []⟩, .ld true (some 2) 0 0 (.t 15)⟩] (some 17) (.t 11) [.t 12, .t 16] [⟨some 18, none, ⟨[], []⟩, .not (.t 17)⟩] [8, 11, 12, 13, 14, 15, 16, 17]) (.cond (.t 18) (.ret) (.skip)))) (.reg [⟨some 9, none, ⟨[], []⟩, .mov (.t 3)⟩,
    ⟨some 10, none, ⟨[], []⟩, .bin 0 .sub (.t 9) (.k (.int .i64 1))⟩,
    ⟨some 3, none, ⟨[], []⟩, .mov (.t 10)⟩] [9, 10, 18]))
def ir70 : IRG :=
  .seq (.reg [⟨some 4, none, ⟨[], []⟩, .ld false none 0 0 (.t 1)⟩,
    ⟨some 5, none, ⟨[], []⟩, .len (.t 4)⟩,
    ⟨some 6, none, ⟨[], []⟩, .bin 0 .sub (.t 5) (.k (.int .i64 1))⟩,
    ⟨some 3, none, ⟨[], []⟩, .mov (.t 6)⟩] [4, 5, 6]) (.block 0 (.loop b70_1))
def kp70_1 : List Nat := [0, 1, 3]
attribute [push_cast] kp70_1
set_option maxRecDepth 4000 in
theorem comp70 : (Try.f70.body.bind fun c => compGd tab isP ir70 c) = some ir70 := by kernel_rfl
structure BwA where
  L : Xf.Loc
  s : Nat
  l : List (List RC)
def fs57 : FS where
  A := BwA
  args := fun a => [.sl 0 a.L a.s 0 a.l.length]
  mem := fun a => [some (.ro, a.L, .recs 2 false [] a.l)]
  pre := fun a => True
  res := fun a x => .fn 70 [.ptr 1 (x 0) 0 0 0]
  out := fun _ _ => []
  new := fun a x => [(x 0, .cells [.sl 0 a.L a.s 0 a.l.length])]
def inv57 : List SV → Look → Option (BwA × List Nat)
  | [.sl c _ s 0 _], look => match rowR (look c) with
    | some (L, 2, _, l) => some (⟨L, s, l⟩, [c])
    | _ => none
  | _, _ => none
attribute [push_cast] inv57
theorem ok57 : FSOk Try.prog 57 fs57 := by
  refine ⟨⟨_, Try.func57, by kernel_rfl, by kernel_rfl⟩, fun a => ⟨by simp [fs57, push_cast, noMine, argOwn, Chunk.frArg], by simp [fs57, push_cast, outOk, Chunk.ext], fun x => .inl (by simp [fs57, push_cast, frNew, frOut, Chunk.fr])⟩, fun a hp => ?_⟩
  obtain ⟨L, s, l⟩ := a
  change Tri Try.prog 57 [.sl 0 L s 0 l.length] [some (.ro, L, .recs 2 false [] l)] (postF fs57 ⟨L, s, l⟩)
  refine tri_evS (hyp (l := []) (lp := []) trivial trivial) Try.func57 comp57 (rs := [.tmp 2]) (by rfl) Try.ntmps57 11 ?_
  simp -implicitDefEqProofs only [push_cast, false_implies, reduceCtorEq, Classical.not_not, Nat.reduceAdd, Nat.reduceSub, Nat.reduceMul, Nat.reduceLeDiff, Nat.reduceLT, Nat.reduceEqDiff, Nat.reduceBEq, Nat.reduceBNe, Int.reduceNeg, Int.reduceToNat, Bool.or_false, Bool.false_or, Bool.or_true, Bool.true_or, BEq.rfl, Bool.not_eq_true, Bool.not_eq_false, decide_eq_true_eq, not_true_eq_false, not_false_eq_true, ite_true, ite_false, List.append_nil, and_assoc, Nat.mul_zero, Nat.zero_mul, ir57]
  intro X
  refine postF.mk' (fun _ => X 0 10) [some 0, some 10] ?_
  simp -implicitDefEqProofs only [push_cast, false_implies, reduceCtorEq, Classical.not_not, Nat.reduceAdd, Nat.reduceSub, Nat.reduceMul, Nat.reduceLeDiff, Nat.reduceLT, Nat.reduceEqDiff, Nat.reduceBEq, Nat.reduceBNe, Int.reduceNeg, Int.reduceToNat, Bool.or_false, Bool.false_or, Bool.or_true, Bool.true_or, BEq.rfl, Bool.not_eq_true, Bool.not_eq_false, decide_eq_true_eq, not_true_eq_false, not_false_eq_true, ite_true, ite_false, List.append_nil, and_assoc, Nat.mul_zero, Nat.zero_mul, fs57]
def ent57 : Entry := spOf fs57 inv57
theorem e57 : EntryOk Try.prog 57 ent57 := entry_of ok57 inv57
@[push_cast] theorem ent57_app (us : List SV) (look : Look) (x : Nat → Xf.Loc) (k : Nat) : ent57 us look x k = spOf fs57 inv57 us look x k := rfl
structure BwI where
  F : Xf.Loc
  L : Xf.Loc
  s : Nat
  w : Nat
  h : Nat
  n : Nat
/-- What is yielded in the k-th round. -/
def bwX (w h n k : Nat) : List SV := [.int .i64 ((n - 1 - k : Nat) : Int), .agg [.int .i64 (hlf w (n - 1 - k)), .int .i64 (hlf h (n - 1 - k))]]
def its70 : ITS where
  A := BwI
  cs := fun a => [.ptr 0 a.F 0 0 0]
  mem := fun a => [some (.ro, a.F, .cells [.sl 1 a.L a.s 0 a.n]), some (.ro, a.L, .recs 2 false [] (tabR a.n (sdR a.w a.h)))]
  n := fun a => a.n
  xs := fun a => bwX a.w a.h a.n
  pre := fun a => a.n ≤ 7 ∧ (0 < a.n → a.s = 2)
theorem it70 : ItOk Try.prog 70 its70 := by
  refine ⟨⟨_, Try.func70, by kernel_rfl, by kernel_rfl⟩, fun a hp => ?_⟩
  obtain ⟨F, L, s, w, h, n⟩ := a
  obtain ⟨h1, h2⟩ : n ≤ 7 ∧ (0 < n → s = 2) := hp
  change IterOk Try.prog 70 [.ptr 0 F 0 0 0] [some (.ro, F, .cells [.sl 1 L s 0 n]), some (.ro, L, .recs 2 false [] (tabR n (sdR w h)))] n (bwX w h n)
  refine iter_of (hyp (l := []) (lp := []) trivial trivial) Try.func70 comp70 (by rfl) Try.ntmps70 fun l => ?_
  simp -implicitDefEqProofs only [push_cast, false_implies, reduceCtorEq, Classical.not_not, Nat.reduceAdd, Nat.reduceSub, Nat.reduceMul, Nat.reduceLeDiff, Nat.reduceLT, Nat.reduceEqDiff, Nat.reduceBEq, Nat.reduceBNe, Int.reduceNeg, Int.reduceToNat, Bool.or_false, Bool.false_or, Bool.or_true, Bool.true_or, BEq.rfl, Bool.not_eq_true, Bool.not_eq_false, decide_eq_true_eq, not_true_eq_false, not_false_eq_true, ite_true, ite_false, List.append_nil, and_assoc, Nat.mul_zero, Nat.zero_mul, ir70]
  repeat (refine And.intro (by first | omega | trivial | (intros; omega)) ?_)
  refine evY_loopU (A := Nat) _ _ _ _ _ _ _ kp70_1 (fun k => k) (fun k => [(3, .int .i64 ((n : Int) - 1 - k))]) (fun k => k ≤ n) (fun k => n - k) 0 (Nat.zero_le _) rfl ?_ ?_
  · have e0 : (n : Int) - 1 - 0 = n - 1 := by omega
    simp -implicitDefEqProofs only [push_cast, false_implies, reduceCtorEq, Classical.not_not, Nat.reduceAdd, Nat.reduceSub, Nat.reduceMul, Nat.reduceLeDiff, Nat.reduceLT, Nat.reduceEqDiff, Nat.reduceBEq, Nat.reduceBNe, Int.reduceNeg, Int.reduceToNat, Bool.or_false, Bool.false_or, Bool.or_true, Bool.true_or, BEq.rfl, Bool.not_eq_true, Bool.not_eq_false, decide_eq_true_eq, not_true_eq_false, not_false_eq_true, ite_true, ite_false, List.append_nil, and_assoc, Nat.mul_zero, Nat.zero_mul, e0]
  intro k (hk : k ≤ n) K hK
  by_cases hk' : k < n
  · obtain ⟨i, hi⟩ : ∃ i : Nat, i = n - 1 - k := ⟨_, rfl⟩
    have e1 : (n : Int) - 1 - k = (i : Int) := by omega
    obtain rfl := h2 (by omega)
    have r1 := recAt_tabR (n := n) (i := i) (by omega) (sdR w h) []
    simp only [e1]
    simp -implicitDefEqProofs only [push_cast, false_implies, reduceCtorEq, Classical.not_not, Nat.reduceAdd, Nat.reduceSub, Nat.reduceMul, Nat.reduceLeDiff, Nat.reduceLT, Nat.reduceEqDiff, Nat.reduceBEq, Nat.reduceBNe, Int.reduceNeg, Int.reduceToNat, Bool.or_false, Bool.false_or, Bool.or_true, Bool.true_or, BEq.rfl, Bool.not_eq_true, Bool.not_eq_false, decide_eq_true_eq, not_true_eq_false, not_false_eq_true, ite_true, ite_false, List.append_nil, and_assoc, Nat.mul_zero, Nat.zero_mul, b70_1, r1, sdR, bwX, tabR_length, ← hi, Option.some.injEq, exists_eq_left', hk']
    refine ⟨fun _ => ?_, fun h => by omega⟩
    repeat (refine And.intro (by first | omega | trivial | (intros; omega)) ?_)
    refine hK (k + 1) (by omega) (by omega) _ _ rfl ?_
    have e2 : (n : Int) - 1 - ((k + 1 : Nat) : Int) = i - 1 := by omega
    simp only [e2]
    simp -implicitDefEqProofs only [push_cast, false_implies, reduceCtorEq, Classical.not_not, Nat.reduceAdd, Nat.reduceSub, Nat.reduceMul, Nat.reduceLeDiff, Nat.reduceLT, Nat.reduceEqDiff, Nat.reduceBEq, Nat.reduceBNe, Int.reduceNeg, Int.reduceToNat, Bool.or_false, Bool.false_or, Bool.or_true, Bool.true_or, BEq.rfl, Bool.not_eq_true, Bool.not_eq_false, decide_eq_true_eq, not_true_eq_false, not_false_eq_true, ite_true, ite_false, List.append_nil, and_assoc, Nat.mul_zero, Nat.zero_mul]
  · obtain rfl : k = n := by omega
    have e1 : (k : Int) - 1 - k = -1 := by omega
    simp only [e1]
    simp -implicitDefEqProofs only [push_cast, false_implies, reduceCtorEq, Classical.not_not, Nat.reduceAdd, Nat.reduceSub, Nat.reduceMul, Nat.reduceLeDiff, Nat.reduceLT, Nat.reduceEqDiff, Nat.reduceBEq, Nat.reduceBNe, Int.reduceNeg, Int.reduceToNat, Bool.or_false, Bool.false_or, Bool.or_true, Bool.true_or, BEq.rfl, Bool.not_eq_true, Bool.not_eq_false, decide_eq_true_eq, not_true_eq_false, not_false_eq_true, ite_true, ite_false, List.append_nil, and_assoc, Nat.mul_zero, Nat.zero_mul, b70_1]
    intro h; omega
def b31_1 : IR :=
  .block 1 (.seq (.reg false [⟨some 37, none, ⟨[], []⟩, .ld false none 0 0 (.t 9)⟩,
    ⟨some 38, none, ⟨[], []⟩, .idxP (.t 11) (.k (.int .i64 0)) 2 1⟩,
    ⟨some 39, none, ⟨[], []⟩, .ld true none 0 0 (.t 38)⟩,
    ⟨some 40, none, ⟨[], []⟩, .idxP (.t 11) (.k (.int .i64 1)) 2 1⟩,
    ⟨some 41, none, ⟨[], []⟩, .ld true none 0 0 (.t 40)⟩,
    ⟨some 42, none, ⟨[], []⟩, .call none 31 54 [.t 37, .t 39, .t 41, .k (.fn 39 [])]⟩] [37, 38, 39, 40, 41, 42] []) (.reg false [⟨some 43, none, ⟨[], []⟩, .ld false none 0 0 (.t 9)⟩,
    ⟨some 44, none, ⟨[], []⟩, .idxP (.t 11) (.k (.int .i64 0)) 2 1⟩,
    ⟨some 45, none, ⟨[], []⟩, .ld true none 0 0 (.t 44)⟩,
    ⟨some 46, none, ⟨[], []⟩, .idxP (.t 11) (.k (.int .i64 1)) 2 1⟩,
    ⟨some 47, none, ⟨[], []⟩, .ld true none 0 0 (.t 46)⟩,
    ⟨some 48, none, ⟨[], []⟩, .call none 35 53 [.t 43, .t 45, .t 47, .k (.fn 39 [])]⟩] [9, 11, 43, 44, 45, 46, 47, 48] []))
def r31_2 : IR :=
  .seq (.seq (.reg false [⟨some 49, none, ⟨[], []⟩, .ld false none 0 0 (.t 9)⟩,
    ⟨some 50, none, ⟨[], []⟩, .nilc (.t 49)⟩,
    ⟨some 51, none, ⟨[], []⟩, .fld (.t 50) 1⟩,
    ⟨some 52, none, ⟨[], []⟩, .ld false none 0 0 (.t 51)⟩,
    ⟨some 53, none, ⟨[], []⟩, .call (some 4) 39 37 [.t 52, .k (.int .i64 16777216)]⟩,
    ⟨some 54, none, ⟨[], []⟩, .not (.t 53)⟩] [49, 50, 51, 52, 53] []) (.cond (.t 54) (.seq (.reg false [⟨some 55, none, ⟨[], []⟩, .build [.int .i64 0, .int .i64 0, nilSV] []⟩,
    ⟨none, none, ⟨[], []⟩, .sto false 3 .i64 (.t 6) (.t 55)⟩,
    ⟨some 7, none, ⟨[], []⟩, .mov (.k (.int .i64 4))⟩] [3, 9, 54, 55] []) (.ret)) (.skip))) (.seq (.reg true [⟨some 56, none, ⟨[], []⟩, .fld (.t 3) 0⟩,
    ⟨some 57, none, ⟨[], []⟩, .ld false none 0 0 (.t 56)⟩,
    ⟨some 58, none, ⟨[], []⟩, .fld (.t 3) 1⟩,
    ⟨some 59, none, ⟨[], []⟩, .ld false none 0 0 (.t 58)⟩,
    ⟨some 60, none, ⟨[], []⟩, .ld false none 0 0 (.t 9)⟩,
    ⟨some 61, none, ⟨[], []⟩, .nilc (.t 60)⟩,
    ⟨some 62, none, ⟨[], []⟩, .fld (.t 61) 1⟩,
    ⟨some 63, none, ⟨[], []⟩, .ld false none 0 0 (.t 62)⟩,
    ⟨some 64, none, ⟨[], []⟩, .build [.int .i64 0, .int .i64 0, nilSV] [(0, 1, .t 57), (1, 1, .t 59), (2, 1, .t 63)]⟩,
    ⟨none, none, ⟨[], []⟩, .sto false 3 .i64 (.t 6) (.t 64)⟩,
    ⟨some 7, none, ⟨[], []⟩, .mov (.k (.int .i64 0))⟩] [3, 9, 54, 56, 57, 58, 59, 60, 61, 62, 63, 64] []) (.ret))
def ir31 : IR :=
  .seq (.reg false [⟨some 3, none, ⟨[], []⟩, .box 10 (.t 0)⟩,
    ⟨some 6, none, ⟨[], []⟩, .alloc 11 [.int .i64 0, .int .i64 0, nilSV]⟩,
    ⟨some 7, none, ⟨[], []⟩, .mov (.k (.int .i64 0))⟩] [0, 7] []) (.seq (.seq (.reg false [⟨some 12, none, ⟨[], []⟩, .ld false (some 3) 0 0 (.t 3)⟩,
    ⟨some 13, none, ⟨[], []⟩, .mov (.t 1)⟩,
    ⟨some 14, none, ⟨[], []⟩, .mov (.t 2)⟩,
    ⟨some 15, none, ⟨[], []⟩, .call (some 4) 12 51 [.t 12, .t 13, .t 14]⟩,
    ⟨some 8, none, ⟨[], []⟩, .mov (.t 15)⟩] [12, 13, 14, 15] []) (.seq (.reg false [⟨some 16, none, ⟨[], []⟩, .mov (.t 8)⟩,
    ⟨some 17, none, ⟨[], []⟩, .bin 0 .neq (.t 16) (.k (.int .i64 0))⟩] [16] []) (.cond (.t 17) (.seq (.reg false [⟨some 18, none, ⟨[], []⟩, .build [.int .i64 0, .int .i64 0, nilSV] []⟩,
    ⟨some 19, none, ⟨[], []⟩, .mov (.t 8)⟩,
    ⟨none, none, ⟨[], []⟩, .sto false 3 .i64 (.t 6) (.t 18)⟩,
    ⟨some 7, none, ⟨[], []⟩, .mov (.t 19)⟩] [1, 2, 3, 8, 17, 18, 19] []) (.ret)) (.skip)))) (.seq (.reg true [⟨some 20, none, ⟨[], []⟩, .fld (.t 3) 0⟩,
    ⟨some 21, none, ⟨[16, 17, 18, 19, 21], []⟩, .ld false none 0 0 (.t 20)⟩,
    ⟨some 22, none, ⟨[], []⟩, .fld (.t 3) 2⟩,
    ⟨some 23, none, ⟨[21], []⟩, .ld false none 0 0 (.t 22)⟩,
    ⟨some 24, none, ⟨[21], []⟩, .call (some 4) 16 52 [.t 23]⟩,
    ⟨some 25, none, ⟨[], []⟩, .mov (.t 1)⟩,
    ⟨some 26, none, ⟨[], []⟩, .build [.int .i64 0, nilSV, .int .i64 0] [(0, 1, .t 21), (1, 1, .t 24), (2, 1, .t 25)]⟩,
    ⟨some 27, none, ⟨[], []⟩, .box 20 (.t 26)⟩,
    ⟨some 9, none, ⟨[], []⟩, .alloc 21 [.val (.pointer none)]⟩,
    ⟨none, none, ⟨[], []⟩, .sto false 1 .i64 (.t 9) (.t 27)⟩] [1, 7, 8, 17, 20, 21, 22, 23, 24, 25, 26, 27] []) (.seq (.seq (.reg false [⟨some 28, none, ⟨[], []⟩, .fld (.t 3) 0⟩,
    ⟨some 29, none, ⟨[], []⟩, .ld false none 0 0 (.t 28)⟩,
    ⟨some 30, none, ⟨[], []⟩, .fld (.t 3) 1⟩,
    ⟨some 31, none, ⟨[], []⟩, .ld false none 0 0 (.t 30)⟩,
    ⟨some 32, none, ⟨[], []⟩, .mov (.t 2)⟩,
    ⟨some 33, none, ⟨[], []⟩, .call (some 4) 22 47 [.t 29, .t 31, .t 32]⟩,
    ⟨some 34, none, ⟨[], []⟩, .call (some 4) 26 57 [.t 33]⟩] [2, 28, 29, 30, 31, 32, 33] []) (.block 0 (.rf (.t 34) [35, 36] (.reg false [⟨some 11, none, ⟨[], []⟩, .allocI 30 .i64 2⟩,
    ⟨none, none, ⟨[], []⟩, .sto true 2 .i64 (.t 11) (.t 36)⟩] [3, 6, 34, 35, 36] []) (b31_1) [34] []))) (r31_2))))
set_option maxRecDepth 4000 in
theorem comp31 : (Try.f31.body.bind fun c => compC tab isP chkAll ir31 c) = some ir31 := by kernel_rfl
/-- What Inverse comes to, before it is looked at. -/
def ivL (p : Pl) (kind n : Int) : List Int := bwd unL kind p.w.toNat p.h.toNat n.toNat p.xs n.toNat
def ivOk (p : Pl) (kind n : Int) : Prop := p.Ok ∧ stOk kind n ∧ AllIn (-16777216) 16777216 (ivL p kind n)
instance (p : Pl) (kind n : Int) : Decidable (ivOk p kind n) := by unfold ivOk; infer_instance
def ivP (p : Pl) (kind n : Int) : Pl := if ivOk p kind n then ⟨p.w, p.h, ivL p kind n⟩ else pl0
def ivE (p : Pl) (kind n : Int) : Int := if ivOk p kind n then 0 else if p.Ok then if stOk kind n then 4 else 2 else 70
theorem bwd_bd6 {kind : Int} {W H : Nat} {xs : List Int} (hl : xs.length = H * W) (h : AllIn (-16777216) 16777216 xs) {n i : Nat} (hi : i ≤ 5) : AllIn (-375299968947541) 375299968947541 (bwd unL kind W H n xs i) ∧
    ∀ (w h : Nat), w ≤ W → h ≤ H → AllIn (-375299968947541) 375299968947541 (clL unL kind W h (bwd unL kind W H n xs i) w) := by
  have hB := bwd_bd trn_unline (kind := kind) (W := W) (h := H) (n := n) (by omega) h (by omega) i
  have h0 : (0 : Int) ≤ bnd 16777216 i := bnd_pos (by omega) i
  have key : ∀ i : Nat, i ≤ 5 → 3 * bnd 16777216 i + 1 ≤ 375299968947541 := by
    intro i hi
    have : i = 0 ∨ i = 1 ∨ i = 2 ∨ i = 3 ∨ i = 4 ∨ i = 5 := by omega
    rcases this with rfl | rfl | rfl | rfl | rfl | rfl <;> decide
  have k := key i hi
  have up : ∀ (B : Int) (ys : List Int), B ≤ 375299968947541 → AllIn (-B) B ys → AllIn (-375299968947541) 375299968947541 ys := fun B ys hB h n hn => by have := h n hn; omega
  refine ⟨up _ _ (by omega) hB, fun w h hw hh => up _ _ k (clL_bd trn_unline (by rw [bwd_length, hl]; exact Nat.mul_le_mul_right _ hh) hw hB h0)⟩
def fs31 : FS where
  A := AskA
  args := fun a => [plV a.a.p a.a.L 0, .int .i64 a.kind, .int .i64 a.n]
  mem := fun a => [some (.ro, a.a.L, .ints .i64 a.a.p.xs)]
  pre := fun a => a.a.p.xs.length ≤ 140737488355328
  res := fun a x => .tup [plV (ivP a.a.p a.kind a.n) (lx (ivOk a.a.p a.kind a.n) x 0) 1, .int .i64 (ivE a.a.p a.kind a.n)]
  out := fun _ _ => []
  new := fun a x => [(lx (ivOk a.a.p a.kind a.n) x 0, .ints .i64 (ivP a.a.p a.kind a.n).xs)]
set_option maxHeartbeats 1000000 in
theorem ok31 : FSOk Try.prog 31 fs31 := by
  refine ⟨⟨_, Try.func31, by kernel_rfl, by kernel_rfl⟩, fun a => ⟨by simp [fs31, push_cast, noMine, argOwn, Chunk.frArg], by simp [fs31, push_cast, outOk, Chunk.ext], fun x => .inl (by simp [fs31, push_cast, frNew, frOut, Chunk.fr])⟩, fun a hp => ?_⟩
  obtain ⟨⟨⟨w, h, xs⟩, L⟩, kind, n⟩ := a
  change xs.length ≤ 140737488355328 at hp
  change Tri Try.prog 31 [plV ⟨w, h, xs⟩ L 0, .int .i64 kind, .int .i64 n] [some (.ro, L, .ints .i64 xs)] (postF fs31 ⟨⟨⟨w, h, xs⟩, L⟩, kind, n⟩)
  refine tri_evS (hypI (l := [(51, ent51), (37, ent37), (52, ent52), (47, ent47), (57, ent57), (53, ent53u), (54, ent54u)]) (li := [(70, its70)]) (lp := [])
    ⟨e51, e37, e52, e47, e57, e53u, e54u, trivial⟩ ⟨it70, trivial⟩ trivial) Try.func31 comp31 (rs := [.cell 6 (some 3), .tmp 7]) (by rfl) Try.ntmps31 43 ?_
  simp -implicitDefEqProofs only [push_cast, false_implies, reduceCtorEq, Classical.not_not, Nat.reduceAdd, Nat.reduceSub, Nat.reduceMul, Nat.reduceLeDiff, Nat.reduceLT, Nat.reduceEqDiff, Nat.reduceBEq, Nat.reduceBNe, Int.reduceNeg, Int.reduceToNat, Bool.or_false, Bool.false_or, Bool.or_true, Bool.true_or, BEq.rfl, Bool.not_eq_true, Bool.not_eq_false, decide_eq_true_eq, not_true_eq_false, not_false_eq_true, ite_true, ite_false, List.append_nil, and_assoc, Nat.mul_zero, Nat.zero_mul, ir31, fs51]
  by_cases hO : (⟨w, h, xs⟩ : Pl).Ok ∧ stOk kind n
  · obtain ⟨hO, hS⟩ := hO
    have hE : askE ⟨w, h, xs⟩ kind n = 0 := by unfold askE; rw [if_pos hO, if_pos hS]
    simp -implicitDefEqProofs only [push_cast, false_implies, reduceCtorEq, Classical.not_not, Nat.reduceAdd, Nat.reduceSub, Nat.reduceMul, Nat.reduceLeDiff, Nat.reduceLT, Nat.reduceEqDiff, Nat.reduceBEq, Nat.reduceBNe, Int.reduceNeg, Int.reduceToNat, Bool.or_false, Bool.false_or, Bool.or_true, Bool.true_or, BEq.rfl, Bool.not_eq_true, Bool.not_eq_false, decide_eq_true_eq, not_true_eq_false, not_false_eq_true, ite_true, ite_false, List.append_nil, and_assoc, Nat.mul_zero, Nat.zero_mul, hE, hp]
    obtain ⟨hs, hl, ha⟩ : SidesOk w h ∧ (xs.length : Int) = w * h ∧ AllIn (-16777216) 16777216 xs := id hO
    obtain ⟨W, H, rfl, rfl, hW, hH, hl2, hl3⟩ := Pl.nat hs hl
    obtain ⟨hk, hn0, hn6⟩ := id hS
    obtain ⟨n, rfl⟩ : ∃ m : Nat, n = (m : Int) := ⟨n.toNat, by omega⟩
    simp -implicitDefEqProofs only [push_cast, false_implies, reduceCtorEq, Classical.not_not, Nat.reduceAdd, Nat.reduceSub, Nat.reduceMul, Nat.reduceLeDiff, Nat.reduceLT, Nat.reduceEqDiff, Nat.reduceBEq, Nat.reduceBNe, Int.reduceNeg, Int.reduceToNat, Bool.or_false, Bool.false_or, Bool.or_true, Bool.true_or, BEq.rfl, Bool.not_eq_true, Bool.not_eq_false, decide_eq_true_eq, not_true_eq_false, not_false_eq_true, ite_true, ite_false, List.append_nil, and_assoc, Nat.mul_zero, Nat.zero_mul, fs52, fs47, fs57, tabR_length, Int.toNat_natCast]
    refine fun X X1 => ⟨by omega, fun X2 => ⟨hW, hH, by omega, ?_⟩⟩
    obtain ⟨LS, hLS⟩ : ∃ LS, lx (0 < n) (fun j => X2 5 (22 + j)) 0 = LS := ⟨_, rfl⟩
    rw [hLS]
    refine evS_rf its70 ⟨X2 6 26, LS, esz 2 n, W, H, n⟩ rfl ⟨show n ≤ 7 by omega, fun h => esz_pos h⟩ ⟨by kernel_rfl, by kernel_rfl⟩ rfl ?_ (fun _ _ => rfl) (A := Unit)
      (fun k _ => [(16, .mine, X1 4 16, .ints .i64 (bwd unL kind W H n xs k)), (22, .mine, LS, .recs 2 false [] (tabR n (sdR W H)))]) (fun k _ => k ≤ n) () (Nat.zero_le _) ?_ [some 26, some 22] ?_ ?_ ?_ ?_
    · simp -implicitDefEqProofs only [push_cast, false_implies, reduceCtorEq, Classical.not_not, Nat.reduceAdd, Nat.reduceSub, Nat.reduceMul, Nat.reduceLeDiff, Nat.reduceLT, Nat.reduceEqDiff, Nat.reduceBEq, Nat.reduceBNe, Int.reduceNeg, Int.reduceToNat, Bool.or_false, Bool.false_or, Bool.or_true, Bool.true_or, BEq.rfl, Bool.not_eq_true, Bool.not_eq_false, decide_eq_true_eq, not_true_eq_false, not_false_eq_true, ite_true, ite_false, List.append_nil, and_assoc, Nat.mul_zero, Nat.zero_mul, its70]
    · simp -implicitDefEqProofs only [push_cast, false_implies, reduceCtorEq, Classical.not_not, Nat.reduceAdd, Nat.reduceSub, Nat.reduceMul, Nat.reduceLeDiff, Nat.reduceLT, Nat.reduceEqDiff, Nat.reduceBEq, Nat.reduceBNe, Int.reduceNeg, Int.reduceToNat, Bool.or_false, Bool.false_or, Bool.or_true, Bool.true_or, BEq.rfl, Bool.not_eq_true, Bool.not_eq_false, decide_eq_true_eq, not_true_eq_false, not_false_eq_true, ite_true, ite_false, List.append_nil, and_assoc, Nat.mul_zero, Nat.zero_mul, bwd]
    · simp -implicitDefEqProofs only [push_cast, false_implies, reduceCtorEq, Classical.not_not, Nat.reduceAdd, Nat.reduceSub, Nat.reduceMul, Nat.reduceLeDiff, Nat.reduceLT, Nat.reduceEqDiff, Nat.reduceBEq, Nat.reduceBNe, Int.reduceNeg, Int.reduceToNat, Bool.or_false, Bool.false_or, Bool.or_true, Bool.true_or, BEq.rfl, Bool.not_eq_true, Bool.not_eq_false, decide_eq_true_eq, not_true_eq_false, not_false_eq_true, ite_true, ite_false, List.append_nil, and_assoc, Nat.mul_zero, Nat.zero_mul, its70]
    · intro k _ _
      simp -implicitDefEqProofs only [push_cast, false_implies, reduceCtorEq, Classical.not_not, Nat.reduceAdd, Nat.reduceSub, Nat.reduceMul, Nat.reduceLeDiff, Nat.reduceLT, Nat.reduceEqDiff, Nat.reduceBEq, Nat.reduceBNe, Int.reduceNeg, Int.reduceToNat, Bool.or_false, Bool.false_or, Bool.or_true, Bool.true_or, BEq.rfl, Bool.not_eq_true, Bool.not_eq_false, decide_eq_true_eq, not_true_eq_false, not_false_eq_true, ite_true, ite_false, List.append_nil, and_assoc, Nat.mul_zero, Nat.zero_mul, its70]
    · intro k _ (hk1 : k < n) _ K hK
      obtain ⟨i, hi⟩ : ∃ i : Nat, i = n - 1 - k := ⟨_, rfl⟩
      have b1 := hlf_le W i
      have b2 := hlf_le H i
      obtain ⟨f1, f2⟩ := bwd_bd6 (kind := kind) (n := n) hl2 ha (i := k) (by omega)
      have f2 := f2 (hlf W i) (hlf H i) b1 b2
      have hL := bwd_length unL kind W H n xs k
      have hR := clL_length unL kind W (hlf H i) (bwd unL kind W H n xs k) (hlf W i)
      have hm : hlf H i * W ≤ xs.length := by rw [hl2]; exact Nat.mul_le_mul_right _ b2
      have q : rwL unL kind W (hlf W i) (clL unL kind W (hlf H i) (bwd unL kind W H n xs k) (hlf W i)) (hlf H i) = bwd unL kind W H n xs (k + 1) := by rw [hi]; rfl
      have e0 : rd [(hlf W i : Int), (hlf H i : Int)] 0 = hlf W i := rfl
      have e1 : rd [(hlf W i : Int), (hlf H i : Int)] 1 = hlf H i := rfl
      change evS _ _ _ _ (putsE _ [35, 36] (bwX W H n k)) _
      simp -implicitDefEqProofs only [push_cast, false_implies, reduceCtorEq, Classical.not_not, Nat.reduceAdd, Nat.reduceSub, Nat.reduceMul, Nat.reduceLeDiff, Nat.reduceLT, Nat.reduceEqDiff, Nat.reduceBEq, Nat.reduceBNe, Int.reduceNeg, Int.reduceToNat, Bool.or_false, Bool.false_or, Bool.or_true, Bool.true_or, BEq.rfl, Bool.not_eq_true, Bool.not_eq_false, decide_eq_true_eq, not_true_eq_false, not_false_eq_true, ite_true, ite_false, List.append_nil, and_assoc, Nat.mul_zero, Nat.zero_mul, bwX, ← hi]
      intro X3
      simp -implicitDefEqProofs only [push_cast, false_implies, reduceCtorEq, Classical.not_not, Nat.reduceAdd, Nat.reduceSub, Nat.reduceMul, Nat.reduceLeDiff, Nat.reduceLT, Nat.reduceEqDiff, Nat.reduceBEq, Nat.reduceBNe, Int.reduceNeg, Int.reduceToNat, Bool.or_false, Bool.false_or, Bool.or_true, Bool.true_or, BEq.rfl, Bool.not_eq_true, Bool.not_eq_false, decide_eq_true_eq, not_true_eq_false, not_false_eq_true, ite_true, ite_false, List.append_nil, and_assoc, Nat.mul_zero, Nat.zero_mul, b31_1, e0, e1, fs53u, fs54u, hL, hR, hk, f1, f2, q, Int.toNat_natCast]
      repeat (refine And.intro (by first | omega | trivial | (intros; omega)) ?_)
      refine hK () (by omega) _ _ ?_
      simp -implicitDefEqProofs only [push_cast, false_implies, reduceCtorEq, Classical.not_not, Nat.reduceAdd, Nat.reduceSub, Nat.reduceMul, Nat.reduceLeDiff, Nat.reduceLT, Nat.reduceEqDiff, Nat.reduceBEq, Nat.reduceBNe, Int.reduceNeg, Int.reduceToNat, Bool.or_false, Bool.false_or, Bool.or_true, Bool.true_or, BEq.rfl, Bool.not_eq_true, Bool.not_eq_false, decide_eq_true_eq, not_true_eq_false, not_false_eq_true, ite_true, ite_false, List.append_nil, and_assoc, Nat.mul_zero, Nat.zero_mul]
    · intro _ _
      have hL := bwd_length unL kind W H n xs n
      have hI : ivL ⟨W, H, xs⟩ kind n = bwd unL kind W H n xs n := by unfold ivL; simp only [Int.toNat_natCast]
      simp -implicitDefEqProofs only [push_cast, false_implies, reduceCtorEq, Classical.not_not, Nat.reduceAdd, Nat.reduceSub, Nat.reduceMul, Nat.reduceLeDiff, Nat.reduceLT, Nat.reduceEqDiff, Nat.reduceBEq, Nat.reduceBNe, Int.reduceNeg, Int.reduceToNat, Bool.or_false, Bool.false_or, Bool.or_true, Bool.true_or, BEq.rfl, Bool.not_eq_true, Bool.not_eq_false, decide_eq_true_eq, not_true_eq_false, not_false_eq_true, ite_true, ite_false, List.append_nil, and_assoc, Nat.mul_zero, Nat.zero_mul, its70, r31_2, fs37, hL]
      refine ⟨by omega, by omega, by omega, fun hb => ?_, fun hg => ?_⟩
      · have e : ¬ ivOk ⟨W, H, xs⟩ kind n := fun H => hb (by rw [← hI]; exact H.2.2)
        refine postF.mk' (fun _ => default) [some 0, none] ?_
        simp -implicitDefEqProofs only [push_cast, false_implies, reduceCtorEq, Classical.not_not, Nat.reduceAdd, Nat.reduceSub, Nat.reduceMul, Nat.reduceLeDiff, Nat.reduceLT, Nat.reduceEqDiff, Nat.reduceBEq, Nat.reduceBNe, Int.reduceNeg, Int.reduceToNat, Bool.or_false, Bool.false_or, Bool.or_true, Bool.true_or, BEq.rfl, Bool.not_eq_true, Bool.not_eq_false, decide_eq_true_eq, not_true_eq_false, not_false_eq_true, ite_true, ite_false, List.append_nil, and_assoc, Nat.mul_zero, Nat.zero_mul, fs31, ivP, ivE, e, hO, hS, if_false, if_true, lx, pl0]
      · have e : ivOk ⟨W, H, xs⟩ kind n := ⟨hO, hS, by rw [hI]; exact hg⟩
        refine postF.mk' (locs [X1 4 16]) [some 0, some 16] ?_
        simp -implicitDefEqProofs only [push_cast, false_implies, reduceCtorEq, Classical.not_not, Nat.reduceAdd, Nat.reduceSub, Nat.reduceMul, Nat.reduceLeDiff, Nat.reduceLT, Nat.reduceEqDiff, Nat.reduceBEq, Nat.reduceBNe, Int.reduceNeg, Int.reduceToNat, Bool.or_false, Bool.false_or, Bool.or_true, Bool.true_or, BEq.rfl, Bool.not_eq_true, Bool.not_eq_false, decide_eq_true_eq, not_true_eq_false, not_false_eq_true, ite_true, ite_false, List.append_nil, and_assoc, Nat.mul_zero, Nat.zero_mul, fs31, ivP, ivE, e, hI, hL, if_true, lx]
  · have e : ¬ ivOk ⟨w, h, xs⟩ kind n := fun H => hO ⟨H.1, H.2.1⟩
    obtain ⟨c, hcc, hc0, hc1⟩ : ∃ c : Int, askE ⟨w, h, xs⟩ kind n = c ∧ ¬ c = 0 ∧ (if (⟨w, h, xs⟩ : Pl).Ok then if stOk kind n then 4 else 2 else 70) = c := by
      refine ⟨_, rfl, ?_, ?_⟩
      · unfold askE; split
        · rename_i hq; rw [if_neg (fun q => hO ⟨hq, q⟩)]; decide
        · decide
      · unfold askE; split
        · rename_i hq; rw [if_neg (fun q => hO ⟨hq, q⟩), if_neg (fun q => hO ⟨hq, q⟩)]
        · rfl
    simp -implicitDefEqProofs only [push_cast, false_implies, reduceCtorEq, Classical.not_not, Nat.reduceAdd, Nat.reduceSub, Nat.reduceMul, Nat.reduceLeDiff, Nat.reduceLT, Nat.reduceEqDiff, Nat.reduceBEq, Nat.reduceBNe, Int.reduceNeg, Int.reduceToNat, Bool.or_false, Bool.false_or, Bool.or_true, Bool.true_or, BEq.rfl, Bool.not_eq_true, Bool.not_eq_false, decide_eq_true_eq, not_true_eq_false, not_false_eq_true, ite_true, ite_false, List.append_nil, and_assoc, Nat.mul_zero, Nat.zero_mul, hcc, hp, hc0]
    refine fun X => postF.mk' (fun _ => default) [some 0, none] ?_
    simp -implicitDefEqProofs only [push_cast, false_implies, reduceCtorEq, Classical.not_not, Nat.reduceAdd, Nat.reduceSub, Nat.reduceMul, Nat.reduceLeDiff, Nat.reduceLT, Nat.reduceEqDiff, Nat.reduceBEq, Nat.reduceBNe, Int.reduceNeg, Int.reduceToNat, Bool.or_false, Bool.false_or, Bool.or_true, Bool.true_or, BEq.rfl, Bool.not_eq_true, Bool.not_eq_false, decide_eq_true_eq, not_true_eq_false, not_false_eq_true, ite_true, ite_false, List.append_nil, and_assoc, Nat.mul_zero, Nat.zero_mul, fs31, ivP, ivE, e, hc1, if_false, lx, pl0]
def ent31 : Entry := spOf fs31 inv51
theorem e31 : EntryOk Try.prog 31 ent31 := entry_of ok31 inv51
@[push_cast] theorem ent31_app (us : List SV) (look : Look) (x : Nat → Xf.Loc) (k : Nat) : ent31 us look x k = spOf fs31 inv51 us look x k := rfl
def b32_1 : IR :=
  .seq (.seq (.reg false [⟨some 25, none, ⟨[], []⟩, .mov (.t 9)⟩,
    ⟨some 26, none, ⟨[], []⟩, .bin 0 .geq (.t 25) (.k (.int .i64 0))⟩] [25] []) (.cond (.t 26) (.skip) (.exit 0))) (.seq (.block 1 (.seq (.reg false [⟨some 30, none, ⟨[], []⟩, .fld (.t 3) 0⟩,
    ⟨some 31, none, ⟨[], []⟩, .ld false none 0 0 (.t 30)⟩,
    ⟨some 32, none, ⟨[], []⟩, .fld (.t 3) 1⟩,
    ⟨some 33, none, ⟨[], []⟩, .ld false none 0 0 (.t 32)⟩,
    ⟨some 34, none, ⟨[], []⟩, .mov (.t 9)⟩,
    ⟨some 35, none, ⟨[], []⟩, .call (some 4) 21 50 [.t 31, .t 33, .t 34]⟩,
    ⟨some 29, none, ⟨[], []⟩, .mov (.t 35)⟩,
    ⟨some 36, none, ⟨[], []⟩, .ext (.t 29) 0⟩,
    ⟨some 37, none, ⟨[], []⟩, .ext (.t 29) 1⟩,
    ⟨some 10, none, ⟨[], []⟩, .mov (.t 36)⟩,
    ⟨some 11, none, ⟨[], []⟩, .mov (.t 37)⟩] [26, 29, 30, 31, 32, 33, 34, 35, 36, 37] []) (.seq (.reg false [⟨some 38, none, ⟨[], []⟩, .ld false (some 3) 0 0 (.t 8)⟩,
    ⟨some 39, none, ⟨[], []⟩, .mov (.t 10)⟩,
    ⟨some 40, none, ⟨[], []⟩, .mov (.t 11)⟩,
    ⟨some 41, none, ⟨[], []⟩, .mov (.t 1)⟩,
    ⟨some 42, none, ⟨[], []⟩, .call none 25 56 [.t 38, .t 39, .t 40, .t 41, .k (.bool true)]⟩] [38, 39, 40, 41, 42] []) (.reg false [⟨some 43, none, ⟨[], []⟩, .ld false (some 3) 0 0 (.t 8)⟩,
    ⟨some 44, none, ⟨[], []⟩, .mov (.t 10)⟩,
    ⟨some 45, none, ⟨[], []⟩, .mov (.t 11)⟩,
    ⟨some 46, none, ⟨[], []⟩, .mov (.t 1)⟩,
    ⟨some 47, none, ⟨[], []⟩, .call none 29 55 [.t 43, .t 44, .t 45, .t 46, .k (.bool true)]⟩] [10, 11, 43, 44, 45, 46, 47] [])))) (.reg false [⟨some 27, none, ⟨[], []⟩, .mov (.t 9)⟩,
    ⟨some 28, none, ⟨[], []⟩, .bin 0 .sub (.t 27) (.k (.int .i64 1))⟩,
    ⟨some 9, none, ⟨[], []⟩, .mov (.t 28)⟩] [27, 28] []))
def r32_2 : IR :=
  .seq (.seq (.reg false [⟨some 48, none, ⟨[], []⟩, .ld false (some 3) 0 0 (.t 8)⟩,
    ⟨some 49, none, ⟨[], []⟩, .call (some 4) 33 25 [.t 48]⟩,
    ⟨some 50, none, ⟨[], []⟩, .not (.t 49)⟩] [1, 3, 9, 48, 49] []) (.cond (.t 50) (.seq (.reg false [⟨some 51, none, ⟨[], []⟩, .build [.int .i64 0, .int .i64 0, nilSV] []⟩,
    ⟨none, none, ⟨[], []⟩, .sto false 3 .i64 (.t 6) (.t 51)⟩,
    ⟨some 7, none, ⟨[], []⟩, .mov (.k (.int .i64 4))⟩] [8, 50, 51] []) (.ret)) (.skip))) (.seq (.reg false [⟨some 52, none, ⟨[], []⟩, .ld false (some 3) 0 0 (.t 8)⟩,
    ⟨none, none, ⟨[], []⟩, .sto false 3 .i64 (.t 6) (.t 52)⟩,
    ⟨some 7, none, ⟨[], []⟩, .mov (.k (.int .i64 0))⟩] [8, 50, 52] []) (.ret))
def ir32 : IR :=
  .seq (.reg false [⟨some 3, none, ⟨[], []⟩, .box 10 (.t 0)⟩,
    ⟨some 6, none, ⟨[], []⟩, .alloc 11 [.int .i64 0, .int .i64 0, nilSV]⟩,
    ⟨some 7, none, ⟨[], []⟩, .mov (.k (.int .i64 0))⟩] [0, 7] []) (.seq (.seq (.reg false [⟨some 12, none, ⟨[], []⟩, .ld false (some 3) 0 0 (.t 3)⟩,
    ⟨some 13, none, ⟨[], []⟩, .call (some 4) 12 25 [.t 12]⟩,
    ⟨some 14, none, ⟨[], []⟩, .not (.t 13)⟩] [12, 13] []) (.cond (.t 14) (.seq (.reg false [⟨some 15, none, ⟨[], []⟩, .build [.int .i64 0, .int .i64 0, nilSV] []⟩,
    ⟨none, none, ⟨[], []⟩, .sto false 3 .i64 (.t 6) (.t 15)⟩,
    ⟨some 7, none, ⟨[], []⟩, .mov (.k (.int .i64 70))⟩] [1, 2, 3, 14, 15] []) (.ret)) (.skip))) (.seq (.seq (.reg false [⟨some 16, none, ⟨[], []⟩, .mov (.t 1)⟩,
    ⟨some 17, none, ⟨[], []⟩, .mov (.t 2)⟩,
    ⟨some 18, none, ⟨[], []⟩, .callp 30 [.t 16, .t 17]⟩,
    ⟨some 19, none, ⟨[], []⟩, .not (.t 18)⟩] [7, 14, 16, 17, 18] []) (.cond (.t 19) (.seq (.reg false [⟨some 20, none, ⟨[], []⟩, .build [.int .i64 0, .int .i64 0, nilSV] []⟩,
    ⟨none, none, ⟨[], []⟩, .sto false 3 .i64 (.t 6) (.t 20)⟩,
    ⟨some 7, none, ⟨[], []⟩, .mov (.k (.int .i64 2))⟩] [1, 2, 3, 19, 20] []) (.ret)) (.skip))) (.seq (.reg false [⟨some 21, none, ⟨[], []⟩, .ld false (some 3) 0 0 (.t 3)⟩,
    ⟨some 22, none, ⟨[], []⟩, .call (some 4) 16 44 [.t 21]⟩,
    ⟨some 8, none, ⟨[], []⟩, .alloc 20 [.int .i64 0, .int .i64 0, nilSV]⟩,
    ⟨none, none, ⟨[], []⟩, .sto false 3 .i64 (.t 8) (.t 22)⟩] [7, 19, 21, 22] []) (.seq (.seq (.reg false [⟨some 23, none, ⟨[], []⟩, .mov (.t 2)⟩,
    ⟨some 24, none, ⟨[], []⟩, .bin 0 .sub (.t 23) (.k (.int .i64 1))⟩,
    ⟨some 9, none, ⟨[], []⟩, .mov (.t 24)⟩] [2, 23, 24] []) (.block 0 (.loop b32_1))) (r32_2)))))
def kp32_1 : List Nat := [1, 3, 6, 8, 9]
def kl32_1 : List Nat := [21, 22, 23, 24, 25, 26, 27, 28, 29, 30, 31, 32]
attribute [push_cast] kp32_1 kl32_1
set_option maxRecDepth 4000 in
theorem comp32 : (Try.f32.body.bind fun c => compC tab isP chkAll ir32 c) = some ir32 := by kernel_rfl
set_option maxHeartbeats 1000000 in
theorem ok32 : FSOk Try.prog 32 fs31 := by
  refine ⟨⟨_, Try.func32, by kernel_rfl, by kernel_rfl⟩, fun a => ⟨by simp [fs31, push_cast, noMine, argOwn, Chunk.frArg], by simp [fs31, push_cast, outOk, Chunk.ext], fun x => .inl (by simp [fs31, push_cast, frNew, frOut, Chunk.fr])⟩, fun a hp => ?_⟩
  obtain ⟨⟨⟨w, h, xs⟩, L⟩, kind, n⟩ := a
  change xs.length ≤ 140737488355328 at hp
  change Tri Try.prog 32 [plV ⟨w, h, xs⟩ L 0, .int .i64 kind, .int .i64 n] [some (.ro, L, .ints .i64 xs)] (postF fs31 ⟨⟨⟨w, h, xs⟩, L⟩, kind, n⟩)
  refine tri_evS (hyp (l := [(25, ent25), (44, ent44), (50, ent50), (55, ent55), (56, ent56)]) (lp := [(30, styF)]) ⟨e25, e44, e50, e55, e56, trivial⟩ ⟨p30, trivial⟩) Try.func32 comp32 (rs := [.cell 6 (some 3), .tmp 7]) (by rfl) Try.ntmps32 37 ?_
  simp -implicitDefEqProofs only [push_cast, false_implies, reduceCtorEq, Classical.not_not, Nat.reduceAdd, Nat.reduceSub, Nat.reduceMul, Nat.reduceLeDiff, Nat.reduceLT, Nat.reduceEqDiff, Nat.reduceBEq, Nat.reduceBNe, Int.reduceNeg, Int.reduceToNat, Bool.or_false, Bool.false_or, Bool.or_true, Bool.true_or, BEq.rfl, Bool.not_eq_true, Bool.not_eq_false, decide_eq_true_eq, not_true_eq_false, not_false_eq_true, ite_true, ite_false, List.append_nil, and_assoc, Nat.mul_zero, Nat.zero_mul, ir32, fs60]
  refine fun X => ⟨hp, fun hn => ?_, fun hO => ⟨fun hb => ?_, fun hS => ?_⟩⟩
  · have e : ¬ ivOk ⟨w, h, xs⟩ kind n := fun H => hn H.1
    refine postF.mk' (fun _ => default) [some 0, none] ?_
    simp -implicitDefEqProofs only [push_cast, false_implies, reduceCtorEq, Classical.not_not, Nat.reduceAdd, Nat.reduceSub, Nat.reduceMul, Nat.reduceLeDiff, Nat.reduceLT, Nat.reduceEqDiff, Nat.reduceBEq, Nat.reduceBNe, Int.reduceNeg, Int.reduceToNat, Bool.or_false, Bool.false_or, Bool.or_true, Bool.true_or, BEq.rfl, Bool.not_eq_true, Bool.not_eq_false, decide_eq_true_eq, not_true_eq_false, not_false_eq_true, ite_true, ite_false, List.append_nil, and_assoc, Nat.mul_zero, Nat.zero_mul, fs31, ivP, ivE, e, hn, if_false, if_true, lx, pl0]
  · have e : ¬ ivOk ⟨w, h, xs⟩ kind n := fun H => hb H.2.1
    refine postF.mk' (fun _ => default) [some 0, none] ?_
    simp -implicitDefEqProofs only [push_cast, false_implies, reduceCtorEq, Classical.not_not, Nat.reduceAdd, Nat.reduceSub, Nat.reduceMul, Nat.reduceLeDiff, Nat.reduceLT, Nat.reduceEqDiff, Nat.reduceBEq, Nat.reduceBNe, Int.reduceNeg, Int.reduceToNat, Bool.or_false, Bool.false_or, Bool.or_true, Bool.true_or, BEq.rfl, Bool.not_eq_true, Bool.not_eq_false, decide_eq_true_eq, not_true_eq_false, not_false_eq_true, ite_true, ite_false, List.append_nil, and_assoc, Nat.mul_zero, Nat.zero_mul, fs31, ivP, ivE, e, hO, hb, if_false, if_true, lx, pl0]
  obtain ⟨hs, hl, ha⟩ : SidesOk w h ∧ (xs.length : Int) = w * h ∧ AllIn (-16777216) 16777216 xs := id hO
  obtain ⟨W, H, rfl, rfl, hW, hH, hl2, hl3⟩ := Pl.nat hs hl
  obtain ⟨hk, hn0, hn6⟩ := id hS
  obtain ⟨n, rfl⟩ : ∃ m : Nat, n = (m : Int) := ⟨n.toNat, by omega⟩
  simp -implicitDefEqProofs only [push_cast, false_implies, reduceCtorEq, Classical.not_not, Nat.reduceAdd, Nat.reduceSub, Nat.reduceMul, Nat.reduceLeDiff, Nat.reduceLT, Nat.reduceEqDiff, Nat.reduceBEq, Nat.reduceBNe, Int.reduceNeg, Int.reduceToNat, Bool.or_false, Bool.false_or, Bool.or_true, Bool.true_or, BEq.rfl, Bool.not_eq_true, Bool.not_eq_false, decide_eq_true_eq, not_true_eq_false, not_false_eq_true, ite_true, ite_false, List.append_nil, and_assoc, Nat.mul_zero, Nat.zero_mul, fs44]
  refine fun X1 => ⟨by omega, ?_⟩
  repeat (refine And.intro (by first | omega | trivial | (intros; omega)) ?_)
  refine evS_loopU (A := Nat) kp32_1 kl32_1 (fun k => [(9, .int .i64 ((n : Int) - 1 - k))]) (fun k => [(16, .mine, X1 1 16, .ints .i64 (bwd unL kind W H n xs k))]) (fun k => k ≤ n) (fun k => n - k) 0 (by omega) (Sub.pt ?_) ?_
  · have e0 : (n : Int) - 1 - 0 = n - 1 := by omega
    simp -implicitDefEqProofs only [push_cast, false_implies, reduceCtorEq, Classical.not_not, Nat.reduceAdd, Nat.reduceSub, Nat.reduceMul, Nat.reduceLeDiff, Nat.reduceLT, Nat.reduceEqDiff, Nat.reduceBEq, Nat.reduceBNe, Int.reduceNeg, Int.reduceToNat, Bool.or_false, Bool.false_or, Bool.or_true, Bool.true_or, BEq.rfl, Bool.not_eq_true, Bool.not_eq_false, decide_eq_true_eq, not_true_eq_false, not_false_eq_true, ite_true, ite_false, List.append_nil, and_assoc, Nat.mul_zero, Nat.zero_mul, bwd, e0]
  intro k (hk' : k ≤ n) K hK
  have hL := bwd_length unL kind W H n xs k
  by_cases hkn : k < n
  · obtain ⟨i, hi⟩ : ∃ i : Nat, i = n - 1 - k := ⟨_, rfl⟩
    have e1 : (n : Int) - 1 - k = (i : Int) := by omega
    have b1 := hlf_le W i
    have b2 := hlf_le H i
    obtain ⟨f1, f2⟩ := bwd_bd6 (kind := kind) (n := n) hl2 ha (i := k) (by omega)
    have f2 := f2 (hlf W i) (hlf H i) b1 b2
    have hR := clL_length unL kind W (hlf H i) (bwd unL kind W H n xs k) (hlf W i)
    have hm : hlf H i * W ≤ xs.length := by rw [hl2]; exact Nat.mul_le_mul_right _ b2
    have q : rwL (TB true) kind W (hlf W i) (clL unL kind W (hlf H i) (bwd unL kind W H n xs k) (hlf W i)) (hlf H i) = bwd unL kind W H n xs (k + 1) := by rw [hi]; rfl
    have q0 : clL (TB true) kind W (hlf H i) (bwd unL kind W H n xs k) (hlf W i) = clL unL kind W (hlf H i) (bwd unL kind W H n xs k) (hlf W i) := rfl
    have B1 : ∃ B : Int, 0 ≤ B ∧ 3 * B + 1 ≤ BB true ∧ AllIn (-B) B (bwd unL kind W H n xs k) := ⟨375299968947541, by decide, by decide, f1⟩
    have B2 : ∃ B : Int, 0 ≤ B ∧ 3 * B + 1 ≤ BB true ∧ AllIn (-B) B (clL unL kind W (hlf H i) (bwd unL kind W H n xs k) (hlf W i)) := ⟨375299968947541, by decide, by decide, f2⟩
    simp only [e1]
    simp -implicitDefEqProofs only [push_cast, false_implies, reduceCtorEq, Classical.not_not, Nat.reduceAdd, Nat.reduceSub, Nat.reduceMul, Nat.reduceLeDiff, Nat.reduceLT, Nat.reduceEqDiff, Nat.reduceBEq, Nat.reduceBNe, Int.reduceNeg, Int.reduceToNat, Bool.or_false, Bool.false_or, Bool.or_true, Bool.true_or, BEq.rfl, Bool.not_eq_true, Bool.not_eq_false, decide_eq_true_eq, not_true_eq_false, not_false_eq_true, ite_true, ite_false, List.append_nil, and_assoc, Nat.mul_zero, Nat.zero_mul, b32_1, r32_2, fs50, fs55, fs56, rrPre, hL, hR, hk, B1, B2, q, q0, Int.toNat_natCast]
    refine ⟨fun _ => ?_, fun hl => by omega⟩
    repeat (refine And.intro (by first | omega | trivial | (intros; omega)) ?_)
    refine hK (k + 1) (by omega) (by omega) _ _ (Sub.pt ?_)
    have e2 : (n : Int) - 1 - ((k + 1 : Nat) : Int) = i - 1 := by omega
    simp only [e2]
    simp -implicitDefEqProofs only [push_cast, false_implies, reduceCtorEq, Classical.not_not, Nat.reduceAdd, Nat.reduceSub, Nat.reduceMul, Nat.reduceLeDiff, Nat.reduceLT, Nat.reduceEqDiff, Nat.reduceBEq, Nat.reduceBNe, Int.reduceNeg, Int.reduceToNat, Bool.or_false, Bool.false_or, Bool.or_true, Bool.true_or, BEq.rfl, Bool.not_eq_true, Bool.not_eq_false, decide_eq_true_eq, not_true_eq_false, not_false_eq_true, ite_true, ite_false, List.append_nil, and_assoc, Nat.mul_zero, Nat.zero_mul]
  · obtain rfl : k = n := by omega
    clear hK
    have e1 : (k : Int) - 1 - k = -1 := by omega
    have e2 : ¬ (0 : Int) ≤ -1 := by omega
    have hI : ivL ⟨W, H, xs⟩ kind k = bwd unL kind W H k xs k := by unfold ivL; simp only [Int.toNat_natCast]
    have hOk : (⟨W, H, bwd unL kind W H k xs k⟩ : Pl).Ok ↔ AllIn (-16777216) 16777216 (bwd unL kind W H k xs k) := ⟨fun H => H.2.2, fun H => ⟨hs, by rw [hL]; exact hl, H⟩⟩
    simp only [e1]
    simp -implicitDefEqProofs only [push_cast, false_implies, reduceCtorEq, Classical.not_not, Nat.reduceAdd, Nat.reduceSub, Nat.reduceMul, Nat.reduceLeDiff, Nat.reduceLT, Nat.reduceEqDiff, Nat.reduceBEq, Nat.reduceBNe, Int.reduceNeg, Int.reduceToNat, Bool.or_false, Bool.false_or, Bool.or_true, Bool.true_or, BEq.rfl, Bool.not_eq_true, Bool.not_eq_false, decide_eq_true_eq, not_true_eq_false, not_false_eq_true, ite_true, ite_false, List.append_nil, and_assoc, Nat.mul_zero, Nat.zero_mul, b32_1, r32_2, fs60, e2, hL, hOk]
    refine ⟨by omega, fun hb => ?_, fun hg => ?_⟩
    · have e : ¬ ivOk ⟨W, H, xs⟩ kind k := fun H => hb (by rw [← hI]; exact H.2.2)
      refine postF.mk' (fun _ => default) [some 0, none] ?_
      simp -implicitDefEqProofs only [push_cast, false_implies, reduceCtorEq, Classical.not_not, Nat.reduceAdd, Nat.reduceSub, Nat.reduceMul, Nat.reduceLeDiff, Nat.reduceLT, Nat.reduceEqDiff, Nat.reduceBEq, Nat.reduceBNe, Int.reduceNeg, Int.reduceToNat, Bool.or_false, Bool.false_or, Bool.or_true, Bool.true_or, BEq.rfl, Bool.not_eq_true, Bool.not_eq_false, decide_eq_true_eq, not_true_eq_false, not_false_eq_true, ite_true, ite_false, List.append_nil, and_assoc, Nat.mul_zero, Nat.zero_mul, fs31, ivP, ivE, e, hO, hS, if_false, if_true, lx, pl0]
    · have e : ivOk ⟨W, H, xs⟩ kind k := ⟨hO, hS, by rw [hI]; exact hg⟩
      refine postF.mk' (locs [X1 1 16]) [some 0, some 16] ?_
      simp -implicitDefEqProofs only [push_cast, false_implies, reduceCtorEq, Classical.not_not, Nat.reduceAdd, Nat.reduceSub, Nat.reduceMul, Nat.reduceLeDiff, Nat.reduceLT, Nat.reduceEqDiff, Nat.reduceBEq, Nat.reduceBNe, Int.reduceNeg, Int.reduceToNat, Bool.or_false, Bool.false_or, Bool.or_true, Bool.true_or, BEq.rfl, Bool.not_eq_true, Bool.not_eq_false, decide_eq_true_eq, not_true_eq_false, not_false_eq_true, ite_true, ite_false, List.append_nil, and_assoc, Nat.mul_zero, Nat.zero_mul, fs31, ivP, ivE, e, hI, hL, if_true, lx]
def ent32 : Entry := spOf fs31 inv51
theorem e32 : EntryOk Try.prog 32 ent32 := entry_of ok32 inv51
@[push_cast] theorem ent32_app (us : List SV) (look : Look) (x : Nat → Xf.Loc) (k : Nat) : ent32 us look x k = spOf fs31 inv51 us look x k := rfl
def ir10 : IR :=
  .seq (.reg false [⟨some 3, none, ⟨[], []⟩, .box 10 (.t 0)⟩,
    ⟨some 6, none, ⟨[], []⟩, .mov (.k (.bool false))⟩] [0, 6] []) (.seq (.reg false [⟨some 12, none, ⟨[], []⟩, .ld false (some 3) 0 0 (.t 3)⟩,
    ⟨some 13, none, ⟨[], []⟩, .mov (.t 1)⟩,
    ⟨some 14, none, ⟨[], []⟩, .mov (.t 2)⟩,
    ⟨some 15, none, ⟨[], []⟩, .call (some 4) 11 31 [.t 12, .t 13, .t 14]⟩,
    ⟨some 11, none, ⟨[], []⟩, .mov (.t 15)⟩,
    ⟨some 16, none, ⟨[], []⟩, .ext (.t 11) 0⟩,
    ⟨some 17, none, ⟨[], []⟩, .ext (.t 11) 1⟩,
    ⟨some 7, none, ⟨[], []⟩, .alloc 15 [.int .i64 0, .int .i64 0, nilSV]⟩,
    ⟨none, none, ⟨[], []⟩, .sto false 3 .i64 (.t 7) (.t 16)⟩,
    ⟨some 8, none, ⟨[], []⟩, .mov (.t 17)⟩] [11, 12, 13, 14, 15, 16, 17] []) (.seq (.reg false [⟨some 19, none, ⟨[], []⟩, .ld false (some 3) 0 0 (.t 3)⟩,
    ⟨some 20, none, ⟨[], []⟩, .mov (.t 1)⟩,
    ⟨some 21, none, ⟨[], []⟩, .mov (.t 2)⟩,
    ⟨some 22, none, ⟨[], []⟩, .call (some 4) 16 32 [.t 19, .t 20, .t 21]⟩,
    ⟨some 18, none, ⟨[], []⟩, .mov (.t 22)⟩,
    ⟨some 23, none, ⟨[], []⟩, .ext (.t 18) 0⟩,
    ⟨some 24, none, ⟨[], []⟩, .ext (.t 18) 1⟩,
    ⟨some 9, none, ⟨[], []⟩, .alloc 20 [.int .i64 0, .int .i64 0, nilSV]⟩,
    ⟨none, none, ⟨[], []⟩, .sto false 3 .i64 (.t 9) (.t 23)⟩,
    ⟨some 10, none, ⟨[], []⟩, .mov (.t 24)⟩] [1, 2, 3, 18, 19, 20, 21, 22, 23, 24] []) (.seq (.reg false [⟨some 25, none, ⟨[], []⟩, .mov (.t 8)⟩,
    ⟨some 26, none, ⟨[], []⟩, .mov (.t 10)⟩,
    ⟨some 27, none, ⟨[], []⟩, .bin 0 .eql (.t 25) (.t 26)⟩,
    ⟨some 28, none, ⟨[], []⟩, .mov (.t 27)⟩,
    ⟨some 29, some (28, true), ⟨[], []⟩, .ld false (some 3) 0 0 (.t 7)⟩,
    ⟨some 30, some (28, true), ⟨[], []⟩, .ld false (some 3) 0 0 (.t 9)⟩,
    ⟨some 31, some (28, true), ⟨[], []⟩, .call (some 4) 21 24 [.t 29, .t 30]⟩,
    ⟨some 32, none, ⟨[], []⟩, .pick (.t 28) (.t 31) (.k (.bool false))⟩,
    ⟨some 33, none, ⟨[], []⟩, .mov (.t 32)⟩,
    ⟨some 34, some (33, true), ⟨[], []⟩, .call (some 4) 25 13 []⟩,
    ⟨some 35, none, ⟨[], []⟩, .pick (.t 33) (.t 34) (.k (.bool false))⟩,
    ⟨some 6, none, ⟨[], []⟩, .mov (.t 35)⟩] [7, 8, 9, 10, 25, 26, 27, 28, 29, 30, 31, 32, 33, 34, 35] []) (.ret))))
set_option maxRecDepth 4000 in
theorem comp10 : (Try.f10.body.bind fun c => compC tab isP chkAll ir10 c) = some ir10 := by kernel_rfl
theorem ivP_len {p : Pl} {kind n : Int} (hp : p.xs.length ≤ 140737488355328) : (ivP p kind n).xs.length ≤ 140737488355328 := by
  unfold ivP
  split
  · simp only [ivL, bwd_length]; exact hp
  · exact Nat.zero_le _
theorem tri10 (p : Pl) (hp : p.xs.length ≤ 140737488355328) (kind n : Int) (L : Xf.Loc) : Tri Try.prog 10 [plV p L 0, .int .i64 kind, .int .i64 n]
    [some (.ro, L, .ints .i64 p.xs)] (fun v _ => v = .bool true) := by
  obtain ⟨w, h, xs⟩ := p
  change Tri Try.prog 10 [plV ⟨w, h, xs⟩ L 0, .int .i64 kind, .int .i64 n] [some (.ro, L, .ints .i64 xs)] _
  have l1 := ivP_len (p := ⟨w, h, xs⟩) (kind := kind) (n := n) hp
  have r1 := Pl.Eq.refl (ivP ⟨w, h, xs⟩ kind n)
  change xs.length ≤ 140737488355328 at hp
  generalize hU : ivP ⟨w, h, xs⟩ kind n = U at l1 r1
  obtain ⟨uw, uh, uxs⟩ := U
  change uxs.length ≤ 140737488355328 at l1
  refine tri_evS (hyp (l := [(13, ent13), (24, ent24), (31, ent31), (32, ent32)]) (lp := []) ⟨e13, e24, e31, e32, trivial⟩ trivial) Try.func10 comp10 (rs := [.tmp 6]) (by rfl) Try.ntmps10 29 ?_
  simp -implicitDefEqProofs only [push_cast, false_implies, reduceCtorEq, Classical.not_not, Nat.reduceAdd, Nat.reduceSub, Nat.reduceMul, Nat.reduceLeDiff, Nat.reduceLT, Nat.reduceEqDiff, Nat.reduceBEq, Nat.reduceBNe, Int.reduceNeg, Int.reduceToNat, Bool.or_false, Bool.false_or, Bool.or_true, Bool.true_or, BEq.rfl, Bool.not_eq_true, Bool.not_eq_false, decide_eq_true_eq, not_true_eq_false, not_false_eq_true, ite_true, ite_false, List.append_nil, and_assoc, Nat.mul_zero, Nat.zero_mul, ir10, fs13, fs24, fs31, hp, l1, r1, hU]
end Go.Proofs.Ytefggfjblhniaaa
