import Derived.Test.YtefggfjblhniaaaPTopWave0
set_option linter.unusedVariables false
set_option linter.unusedSimpArgs false
set_option maxRecDepth 1000
namespace Go.Proofs.Ytefggfjblhniaaa
open Xf
theorem rd_line_hi {kind : Int} {n : Nat} {f : Int → Int} {i : Nat} (h : i < n / 2) : rd (lineL kind n f) ((n : Int) - (n / 2 : Nat) + i) = hiF kind n f i := by
  have e : (n : Int) - (n / 2 : Nat) + i = (((tabl (n - n / 2) (loF kind n f)).length + i : Nat) : Int) := by rw [tabl_length]; omega
  unfold lineL
  rw [e, rd_app2 (by unfold hiL; rw [tabl_length]; exact h)]
  unfold hiL; rw [rd_tabl h]
theorem liftG_congr {kind : Int} {g g' : Int → Int} {m i : Int} (h : ∀ j, 0 ≤ j → j < m → g j = g' j) (h0 : 0 ≤ i) (h1 : i ≤ m) (hm : 0 ≤ m) : liftG kind g m i = liftG kind g' m i := by
  unfold liftG
  by_cases c : m = 0 ∨ kind = 1 ∧ m ≤ i
  · rw [if_pos c, if_pos c]
  · rw [if_neg c, if_neg c]
    by_cases d : kind = 1
    · rw [if_pos d, if_pos d, h i h0 (by omega)]
    · rw [if_neg d, if_neg d, h (max (i - 1) 0) (by omega) (by omega), h (min i (m - 1)) (by omega) (by omega)]
theorem ev_line {kind : Int} {n : Nat} {f : Int → Int} {i : Nat} (h : i < n - n / 2) : evF kind n (fun j => rd (lineL kind n f) j) i = f (2 * i) := by
  unfold evF
  try simp only
  rw [rd_line_lo h, liftG_congr (g' := fun j => rd (hiL kind n f) j) ?_ (by omega) (by omega) (by omega)]
  · unfold loF; omega
  · intro j h0 h1
    obtain ⟨j, rfl⟩ : ∃ q : Nat, j = (q : Int) := ⟨j.toNat, by omega⟩
    try simp only
    rw [rd_line_hi (by omega)]
    unfold hiL; rw [rd_tabl (by omega)]
theorem un_line {kind : Int} {n : Nat} {f : Int → Int} {k : Nat} (h : k < n) : unF2 kind n (fun j => rd (lineL kind n f) j) (n / 2) k = f k := by
  unfold unF2
  by_cases e : k % 2 = 0
  · rw [if_pos e, ev_line (by omega)]
    congr 1; omega
  · rw [if_neg e, if_pos (by omega)]
    unfold odF
    try simp only
    rw [rd_line_hi (by omega), ev_line (by omega)]
    have ek : (k : Int) = 2 * ((k / 2 : Nat) : Int) + 1 := by omega
    unfold hiF nxt
    by_cases c : kind = 1
    · rw [if_pos c, if_pos c, ek]
      have : ((k / 2 : Nat) : Int) = (k : Int) / 2 := by omega
      rw [← ek]; omega
    · rw [if_neg c, if_neg c]
      by_cases d : 2 * (k / 2) + 2 < n
      · rw [if_pos d, if_pos (by omega), ev_line (by omega), ← ek]
        rw [show 2 * ((k / 2 + 1 : Nat) : Int) = 2 * ((k / 2 : Nat) : Int) + 2 by omega]
        omega
      · rw [if_neg d, if_neg (by omega), ← ek]
        omega
theorem line_bd {kind : Int} {n : Nat} {f : Int → Int} {B : Int} (h : BdF B f) (h0 : 0 ≤ B) : AllIn (-(3 * B + 1)) (3 * B + 1) (lineL kind n f) := by
  intro v hv
  unfold lineL at hv
  rcases List.mem_append.1 hv with hv | hv
  · obtain ⟨j, hj, rfl⟩ := List.mem_map.1 hv
    have h1 := h (2 * j)
    have h2 := liftG_bd (kind := kind) (BdF.rd0 (hiL_bd (kind := kind) (n := n) h) (by omega)) (by omega) ((n / 2 : Nat) : Int) j
    simp only [loF]
    omega
  · have := hiL_bd h v hv
    omega
def fs13 : FS where
  A := Unit
  args := fun _ => []
  mem := fun _ => []
  pre := fun _ => True
  res := fun _ _ => .bool true
  out := fun _ _ => []
  new := fun _ _ => []
def inv13 : List SV → Look → Option (Unit × List Nat)
  | [], _ => some ((), [])
  | _, _ => none
attribute [push_cast] inv13
theorem ok13 : FSOk Try.prog 13 fs13 := by
  refine ⟨⟨_, Try.func13, by kernel_rfl, by kernel_rfl⟩, fun a => ⟨by simp [fs13, push_cast, noMine, argOwn, Chunk.frArg], by simp [fs13, push_cast, outOk, Chunk.ext], fun x => .inl (by simp [fs13, push_cast, frNew, frOut, Chunk.fr])⟩, fun a hp => ?_⟩
  change Tri Try.prog 13 [] [] (postF fs13 a)
  have o0 : lnOk 0 [3, 8, 5] := by decide
  have o1 : lnOk 1 [3, 8, 5] := by decide
  have r0 : lnR 0 [3, 8, 5] = [5, 7, 4] := by decide
  have r1 : lnR 1 [3, 8, 5] = [5, 5, 5] := by decide
  refine tri_evS (hyp (l := [(14, ent14), (17, ent17)]) (lp := []) ⟨e14, e17, trivial⟩ trivial) Try.func13 comp13 (rs := [.tmp 0]) (by rfl) Try.ntmps13 30 ?_
  simp -implicitDefEqProofs only [push_cast, false_implies, reduceCtorEq, Classical.not_not, Nat.reduceAdd, Nat.reduceSub, Nat.reduceMul, Nat.reduceLeDiff, Nat.reduceLT, Nat.reduceEqDiff, Nat.reduceBEq, Nat.reduceBNe, Int.reduceNeg, Int.reduceToNat, Bool.or_false, Bool.false_or, Bool.or_true, Bool.true_or, BEq.rfl, Bool.not_eq_true, Bool.not_eq_false, decide_eq_true_eq, not_true_eq_false, not_false_eq_true, ite_true, ite_false, List.append_nil, and_assoc, Nat.mul_zero, Nat.zero_mul, ir13, fs14, fs17, o0, o1, r0, r1, if_true, lx]
  exact fun X X1 X2 => postF.mk' (fun _ => default) [] (by simp -implicitDefEqProofs only [push_cast, false_implies, reduceCtorEq, Classical.not_not, Nat.reduceAdd, Nat.reduceSub, Nat.reduceMul, Nat.reduceLeDiff, Nat.reduceLT, Nat.reduceEqDiff, Nat.reduceBEq, Nat.reduceBNe, Int.reduceNeg, Int.reduceToNat, Bool.or_false, Bool.false_or, Bool.or_true, Bool.true_or, BEq.rfl, Bool.not_eq_true, Bool.not_eq_false, decide_eq_true_eq, not_true_eq_false, not_false_eq_true, ite_true, ite_false, List.append_nil, and_assoc, Nat.mul_zero, Nat.zero_mul, fs13])
def ent13 : Entry := spOf fs13 inv13
theorem e13 : EntryOk Try.prog 13 ent13 := entry_of ok13 inv13
@[push_cast] theorem ent13_app (us : List SV) (look : Look) (x : Nat → Xf.Loc) (k : Nat) : ent13 us look x k = spOf fs13 inv13 us look x k := rfl
structure QA where
  a : PlA
  q : Int
  M : Xf.Loc
def qR (q : Int) : Prop := 1 ≤ q ∧ q ≤ 1000
instance (q : Int) : Decidable (qR q) := by unfold qR; infer_instance
structure Q1 where
  n : Int
  L : Xf.Loc
  q : Int
def b68_1 : IR :=
  .seq (.reg false [⟨some 19, none, ⟨[], []⟩, .bin 0 .lss (.t 18) (.t 17)⟩] [] []) (.seq (.cond (.t 19) (.skip) (.exit 0)) (.seq (.block 1 (.seq (.reg false [⟨some 20, none, ⟨[], []⟩, .mov (.t 18)⟩,
    ⟨some 11, none, ⟨[], []⟩, .mov (.t 20)⟩] [19, 20] []) (.reg false [⟨some 21, none, ⟨[], []⟩, .mov (.t 10)⟩,
    ⟨some 22, none, ⟨[], []⟩, .mov (.t 11)⟩,
    ⟨some 23, none, ⟨[], []⟩, .mov (.t 0)⟩,
    ⟨some 24, none, ⟨[], []⟩, .nilc (.t 23)⟩,
    ⟨some 25, none, ⟨[], []⟩, .fld (.t 24) 1⟩,
    ⟨some 26, none, ⟨[], []⟩, .ld false none 0 0 (.t 25)⟩,
    ⟨some 27, none, ⟨[], []⟩, .mov (.t 1)⟩,
    ⟨some 28, none, ⟨[], []⟩, .mov (.t 11)⟩,
    ⟨some 29, none, ⟨[], []⟩, .mov (.t 2)⟩,
    ⟨some 30, none, ⟨[], []⟩, .bin 0 .mul (.t 28) (.t 29)⟩,
    ⟨some 31, none, ⟨[], []⟩, .bin 0 .add (.t 27) (.t 30)⟩,
    ⟨some 32, none, ⟨[], []⟩, .idxS (.t 26) (.t 31) 1⟩,
    ⟨some 33, none, ⟨[], []⟩, .ld true none 0 0 (.t 32)⟩,
    ⟨some 34, none, ⟨[], []⟩, .idxS (.t 21) (.t 22) 1⟩,
    ⟨none, none, ⟨[], []⟩, .sto true 1 .i64 (.t 34) (.t 33)⟩] [11, 21, 22, 23, 24, 25, 26, 27, 28, 29, 30, 31, 32, 33, 34] []))) (.reg false [⟨some 35, none, ⟨[], []⟩, .bin 0 .add (.t 18) (.k (.int .i64 1))⟩,
    ⟨some 18, none, ⟨[], []⟩, .mov (.t 35)⟩] [35] [])))
def b68_2 : IR :=
  .seq (.reg false [⟨some 45, none, ⟨[], []⟩, .bin 0 .lss (.t 44) (.t 43)⟩] [] []) (.seq (.cond (.t 45) (.skip) (.exit 2)) (.seq (.block 3 (.seq (.reg false [⟨some 46, none, ⟨[], []⟩, .mov (.t 44)⟩,
    ⟨some 47, none, ⟨[], []⟩, .idxS (.t 42) (.t 44) 1⟩,
    ⟨some 48, none, ⟨[], []⟩, .ld true none 0 0 (.t 47)⟩,
    ⟨some 12, none, ⟨[], []⟩, .mov (.t 46)⟩,
    ⟨some 13, none, ⟨[], []⟩, .mov (.t 48)⟩] [45, 46, 47, 48] []) (.reg false [⟨some 49, none, ⟨[], []⟩, .mov (.t 0)⟩,
    ⟨some 50, none, ⟨[], []⟩, .nilc (.t 49)⟩,
    ⟨some 51, none, ⟨[], []⟩, .fld (.t 50) 1⟩,
    ⟨some 52, none, ⟨[], []⟩, .ld false none 0 0 (.t 51)⟩,
    ⟨some 53, none, ⟨[], []⟩, .mov (.t 1)⟩,
    ⟨some 54, none, ⟨[], []⟩, .mov (.t 12)⟩,
    ⟨some 55, none, ⟨[], []⟩, .mov (.t 2)⟩,
    ⟨some 56, none, ⟨[], []⟩, .bin 0 .mul (.t 54) (.t 55)⟩,
    ⟨some 57, none, ⟨[], []⟩, .bin 0 .add (.t 53) (.t 56)⟩,
    ⟨some 58, none, ⟨[], []⟩, .mov (.t 13)⟩,
    ⟨some 59, none, ⟨[], []⟩, .idxS (.t 52) (.t 57) 1⟩,
    ⟨none, none, ⟨[], []⟩, .sto true 1 .i64 (.t 59) (.t 58)⟩] [12, 13, 49, 50, 51, 52, 53, 54, 55, 56, 57, 58, 59] []))) (.reg false [⟨some 60, none, ⟨[], []⟩, .bin 0 .add (.t 44) (.k (.int .i64 1))⟩,
    ⟨some 44, none, ⟨[], []⟩, .mov (.t 60)⟩] [60] [])))
def r68_3 : IR :=
  .seq (.reg false [⟨some 36, none, ⟨[], []⟩, .mov (.t 4)⟩,
    ⟨some 37, none, ⟨[], []⟩, .mov (.t 0)⟩,
    ⟨some 38, none, ⟨[], []⟩, .nilc (.t 37)⟩,
    ⟨some 39, none, ⟨[], []⟩, .fld (.t 38) 2⟩,
    ⟨some 40, none, ⟨[], []⟩, .ld false none 0 0 (.t 39)⟩,
    ⟨some 41, none, ⟨[], []⟩, .mov (.t 10)⟩,
    ⟨some 42, none, ⟨[], []⟩, .callv (some 4) 11 (.t 36) [.t 40, .t 41]⟩,
    ⟨some 43, none, ⟨[], []⟩, .len (.t 42)⟩,
    ⟨some 44, none, ⟨[], []⟩, .mov (.k (.int .i64 0))⟩] [4, 10, 17, 18, 36, 37, 38, 39, 40, 41] []) (.block 2 (.loop b68_2))
def ir68 : IR :=
  .seq (.reg false [⟨some 14, none, ⟨[], []⟩, .mov (.t 3)⟩,
    ⟨some 15, none, ⟨[], []⟩, .mks 10 (.int .i64 0) 8 (.t 14) (.t 14)⟩,
    ⟨some 10, none, ⟨[], []⟩, .mov (.t 15)⟩] [3, 14, 15] []) (.seq (.seq (.reg false [⟨some 16, none, ⟨[], []⟩, .mov (.t 10)⟩,
    ⟨some 17, none, ⟨[], []⟩, .len (.t 16)⟩,
    ⟨some 18, none, ⟨[], []⟩, .mov (.k (.int .i64 0))⟩] [16] []) (.block 0 (.loop b68_1))) (r68_3))
def kp68_1 : List Nat := [0, 1, 2, 4, 10, 17, 18]
def kl68_1 : List Nat := []
attribute [push_cast] kp68_1 kl68_1
def kp68_2 : List Nat := [0, 1, 2, 42, 43, 44]
def kl68_2 : List Nat := []
attribute [push_cast] kp68_2 kl68_2
set_option maxRecDepth 4000 in
theorem comp68 : (Try.f68.body.bind fun c => compC tab isP chkAll ir68 c) = some ir68 := by kernel_rfl
def alS (res ws : List Int) (a b : Int) : Nat → List Int
  | 0 => ws
  | i + 1 => (alS res ws a b i).set (a + i * b).toNat (rd res i)
theorem alS_length (res ws : List Int) (a b : Int) : ∀ i, (alS res ws a b i).length = ws.length
  | 0 => rfl
  | i + 1 => by simp only [alS, List.length_set, alS_length res ws a b i]
structure AlA where
  F : Xf.Loc
  LP : Xf.Loc
  w : Int
  kind : Int
  ws : List Int
  a : Int
  b : Int
  n : Nat
def alG (ws : List Int) (a b : Int) : Nat → Int := fun k => rd ws (a + k * b)
theorem alG_in {ws : List Int} {a b : Int} {n : Nat} {B : Int} (h : AllIn (-B) B ws) (h0 : 0 ≤ B) : AllIn (-B) B (tabl n (alG ws a b)) := by
  rw [allIn_rd]
  intro j hj
  rw [tabl_length] at hj
  rw [rd_tabl hj]
  exact rd_bd h (by omega) h0 _
def fs68f : FS where
  A := AlA
  args := fun a => [.ptr 0 a.F 0 0 0, .int .i64 a.a, .int .i64 a.b, .int .i64 a.n, .fn 38 []]
  mem := fun a => [some (.ro, a.F, .cells [.int .i64 a.w, .sl 1 a.LP 1 0 a.ws.length, .int .i64 a.kind]), some (.lent, a.LP, .ints .i64 a.ws)]
  pre := fun a => (a.kind = 0 ∨ a.kind = 1) ∧ a.ws.length ≤ 8192 ∧ 0 ≤ a.a ∧ 0 ≤ a.b ∧ a.b ≤ 200 ∧ a.n ≤ 200 ∧ (∀ i : Nat, i < a.n → a.a + i * a.b < a.ws.length) ∧ AllIn (-1073741824) 1073741824 a.ws
  res := fun a x => .tup []
  out := fun a _ => [none, some (some (.ints .i64 (alS (lineL a.kind a.n (fun j => rd (tabl a.n (alG a.ws a.a a.b)) j)) a.ws a.a a.b a.n)))]
  new := fun _ _ => []
def inv68f : List SV → Look → Option (AlA × List Nat)
  | [.ptr c _ _ _ _, .int .i64 a, .int .i64 b, .int .i64 n, .fn 38 []], look => match rowC (look c) with
    | some (F, [.int .i64 w, .sl c1 _ 1 0 _, .int .i64 kind]) => match rowI (look c1) with
      | some (LP, .i64, ws) => some (⟨F, LP, w, kind, ws, a, b, n.toNat⟩, [c, c1])
      | _ => none
    | _ => none
  | _, _ => none
attribute [push_cast] inv68f
theorem ok68f : FSOk Try.prog 68 fs68f := by
  refine ⟨⟨_, Try.func68, by kernel_rfl, by kernel_rfl⟩, fun a => ⟨by simp [fs68f, push_cast, noMine, argOwn, Chunk.frArg], by simp [fs68f, push_cast, outOk, Chunk.ext], fun x => .inl (by simp [fs68f, push_cast, frNew, frOut, Chunk.fr])⟩, fun a hp => ?_⟩
  obtain ⟨F, LP, w, kind, ws, a, b, n⟩ := a
  obtain ⟨hk, h1, h2, h3, h4, h5, h6, h7⟩ : (kind = 0 ∨ kind = 1) ∧ ws.length ≤ 8192 ∧ 0 ≤ a ∧ 0 ≤ b ∧ b ≤ 200 ∧ n ≤ 200 ∧ (∀ i : Nat, i < n → a + i * b < ws.length) ∧ AllIn (-1073741824) 1073741824 ws := hp
  change Tri Try.prog 68 [.ptr 0 F 0 0 0, .int .i64 a, .int .i64 b, .int .i64 n, .fn 38 []] [some (.ro, F, .cells [.int .i64 w, .sl 1 LP 1 0 ws.length, .int .i64 kind]), some (.lent, LP, .ints .i64 ws)] (postF fs68f ⟨F, LP, w, kind, ws, a, b, n⟩)
  obtain ⟨g, hg⟩ : ∃ g, alG ws a b = g := ⟨_, rfl⟩
  have hgk : ∀ k : Nat, rd ws (a + k * b) = g k := fun k => by rw [← hg]; rfl
  have hin := alG_in (a := a) (b := b) (n := n) h7 (by omega)
  rw [hg] at hin
  obtain ⟨R, hR⟩ : ∃ R, lineL kind n (fun j => rd (tabl n g) j) = R := ⟨_, rfl⟩
  refine tri_evS (hyp (l := [(38, ent38)]) (lp := []) ⟨e38, trivial⟩ trivial) Try.func68 comp68 (rs := []) (by rfl) Try.ntmps68 15 ?_
  simp -implicitDefEqProofs only [push_cast, false_implies, reduceCtorEq, Classical.not_not, Nat.reduceAdd, Nat.reduceSub, Nat.reduceMul, Nat.reduceLeDiff, Nat.reduceLT, Nat.reduceEqDiff, Nat.reduceBEq, Nat.reduceBNe, Int.reduceNeg, Int.reduceToNat, Bool.or_false, Bool.false_or, Bool.or_true, Bool.true_or, BEq.rfl, Bool.not_eq_true, Bool.not_eq_false, decide_eq_true_eq, not_true_eq_false, not_false_eq_true, ite_true, ite_false, List.append_nil, and_assoc, Nat.mul_zero, Nat.zero_mul, ir68]
  repeat (refine And.intro (by first | omega | trivial | (intros; omega)) ?_)
  intro X
  repeat (refine And.intro (by first | omega | trivial | (intros; omega)) ?_)
  refine evS_loopU (A := Nat) kp68_1 kl68_1 (fun i => [(18, .int .i64 i)]) (fun i => [(10, .mine, X 1 10, .ints .i64 (prt n i g))]) (fun i => i ≤ n) (fun i => n - i) 0 (by omega) (Sub.pt ?_) ?_
  · simp -implicitDefEqProofs only [push_cast, false_implies, reduceCtorEq, Classical.not_not, Nat.reduceAdd, Nat.reduceSub, Nat.reduceMul, Nat.reduceLeDiff, Nat.reduceLT, Nat.reduceEqDiff, Nat.reduceBEq, Nat.reduceBNe, Int.reduceNeg, Int.reduceToNat, Bool.or_false, Bool.false_or, Bool.or_true, Bool.true_or, BEq.rfl, Bool.not_eq_true, Bool.not_eq_false, decide_eq_true_eq, not_true_eq_false, not_false_eq_true, ite_true, ite_false, List.append_nil, and_assoc, Nat.mul_zero, Nat.zero_mul, prt_zero, Int.toNat_natCast]
  intro i (hi : i ≤ n) K hK
  simp -implicitDefEqProofs only [push_cast, false_implies, reduceCtorEq, Classical.not_not, Nat.reduceAdd, Nat.reduceSub, Nat.reduceMul, Nat.reduceLeDiff, Nat.reduceLT, Nat.reduceEqDiff, Nat.reduceBEq, Nat.reduceBNe, Int.reduceNeg, Int.reduceToNat, Bool.or_false, Bool.false_or, Bool.or_true, Bool.true_or, BEq.rfl, Bool.not_eq_true, Bool.not_eq_false, decide_eq_true_eq, not_true_eq_false, not_false_eq_true, ite_true, ite_false, List.append_nil, and_assoc, Nat.mul_zero, Nat.zero_mul, b68_1, r68_3, fs38]
  refine ⟨fun hl => ?_, fun hl => ?_⟩
  · have hi' : i < n := by omega
    have hib := mul_bd (a := (i : Int)) (b := b) (A := 200) (B := 200) (by omega) (by omega) h3 h4
    have hlt := h6 i hi'
    have lP := prt_length hi g
    have q : (prt n i g).set i (g i) = prt n (i + 1) g := prt_set hi' _
    repeat (refine And.intro (by first | omega | trivial | (intros; omega)) ?_)
    refine hK (i + 1) (by omega) (by omega) _ _ (Sub.pt ?_)
    simp -implicitDefEqProofs only [push_cast, false_implies, reduceCtorEq, Classical.not_not, Nat.reduceAdd, Nat.reduceSub, Nat.reduceMul, Nat.reduceLeDiff, Nat.reduceLT, Nat.reduceEqDiff, Nat.reduceBEq, Nat.reduceBNe, Int.reduceNeg, Int.reduceToNat, Bool.or_false, Bool.false_or, Bool.or_true, Bool.true_or, BEq.rfl, Bool.not_eq_true, Bool.not_eq_false, decide_eq_true_eq, not_true_eq_false, not_false_eq_true, ite_true, ite_false, List.append_nil, and_assoc, Nat.mul_zero, Nat.zero_mul, Int.toNat_natCast, hgk, q]
  · obtain rfl : i = n := by omega
    clear hK
    rw [prt_all]
    simp only [Int.toNat_natCast, tabl_length, hR]
    intro X1
    repeat (refine And.intro (by first | omega | trivial | (intros; omega)) ?_)
    have hRl : R.length = i := by rw [← hR, lineL_length]
    refine evS_loopU (A := Nat) kp68_2 kl68_2 (fun j => [(44, .int .i64 j)]) (fun j => [(1, .lent, LP, .ints .i64 (alS R ws a b j))]) (fun j => j ≤ i) (fun j => i - j) 0 (by omega) (Sub.pt ?_) ?_
    · simp -implicitDefEqProofs only [push_cast, false_implies, reduceCtorEq, Classical.not_not, Nat.reduceAdd, Nat.reduceSub, Nat.reduceMul, Nat.reduceLeDiff, Nat.reduceLT, Nat.reduceEqDiff, Nat.reduceBEq, Nat.reduceBNe, Int.reduceNeg, Int.reduceToNat, Bool.or_false, Bool.false_or, Bool.or_true, Bool.true_or, BEq.rfl, Bool.not_eq_true, Bool.not_eq_false, decide_eq_true_eq, not_true_eq_false, not_false_eq_true, ite_true, ite_false, List.append_nil, and_assoc, Nat.mul_zero, Nat.zero_mul, alS]
    intro j (hj : j ≤ i) K hK
    simp -implicitDefEqProofs only [push_cast, false_implies, reduceCtorEq, Classical.not_not, Nat.reduceAdd, Nat.reduceSub, Nat.reduceMul, Nat.reduceLeDiff, Nat.reduceLT, Nat.reduceEqDiff, Nat.reduceBEq, Nat.reduceBNe, Int.reduceNeg, Int.reduceToNat, Bool.or_false, Bool.false_or, Bool.or_true, Bool.true_or, BEq.rfl, Bool.not_eq_true, Bool.not_eq_false, decide_eq_true_eq, not_true_eq_false, not_false_eq_true, ite_true, ite_false, List.append_nil, and_assoc, Nat.mul_zero, Nat.zero_mul, b68_2]
    refine ⟨fun hl => ?_, fun hl => ?_⟩
    · have hj' : j < i := by omega
      have hib := mul_bd (a := (j : Int)) (b := b) (A := 200) (B := 200) (by omega) (by omega) h3 h4
      have hlt := h6 j hj'
      simp only [alS_length, hRl]
      repeat (refine And.intro (by first | omega | trivial | (intros; omega)) ?_)
      refine hK (j + 1) (by omega) (by omega) _ _ (Sub.pt ?_)
      simp -implicitDefEqProofs only [push_cast, false_implies, reduceCtorEq, Classical.not_not, Nat.reduceAdd, Nat.reduceSub, Nat.reduceMul, Nat.reduceLeDiff, Nat.reduceLT, Nat.reduceEqDiff, Nat.reduceBEq, Nat.reduceBNe, Int.reduceNeg, Int.reduceToNat, Bool.or_false, Bool.false_or, Bool.or_true, Bool.true_or, BEq.rfl, Bool.not_eq_true, Bool.not_eq_false, decide_eq_true_eq, not_true_eq_false, not_false_eq_true, ite_true, ite_false, List.append_nil, and_assoc, Nat.mul_zero, Nat.zero_mul, alS]
    · obtain rfl : j = i := by omega
      refine postF.mk' (fun _ => default) [some 0, some 1] ?_
      simp -implicitDefEqProofs only [push_cast, false_implies, reduceCtorEq, Classical.not_not, Nat.reduceAdd, Nat.reduceSub, Nat.reduceMul, Nat.reduceLeDiff, Nat.reduceLT, Nat.reduceEqDiff, Nat.reduceBEq, Nat.reduceBNe, Int.reduceNeg, Int.reduceToNat, Bool.or_false, Bool.false_or, Bool.or_true, Bool.true_or, BEq.rfl, Bool.not_eq_true, Bool.not_eq_false, decide_eq_true_eq, not_true_eq_false, not_false_eq_true, ite_true, ite_false, List.append_nil, and_assoc, Nat.mul_zero, Nat.zero_mul, fs68f, hg, hR]
def ent68f : Entry := spOf fs68f inv68f
theorem e68f : EntryOk Try.prog 68 ent68f := entry_of ok68f inv68f
@[push_cast] theorem ent68f_app (us : List SV) (look : Look) (x : Nat → Xf.Loc) (k : Nat) : ent68f us look x k = spOf fs68f inv68f us look x k := rfl
def fs68u : FS where
  A := AlA
  args := fun a => [.ptr 0 a.F 0 0 0, .int .i64 a.a, .int .i64 a.b, .int .i64 a.n, .fn 39 []]
  mem := fun a => [some (.ro, a.F, .cells [.int .i64 a.w, .sl 1 a.LP 1 0 a.ws.length, .int .i64 a.kind]), some (.lent, a.LP, .ints .i64 a.ws)]
  pre := fun a => (a.kind = 0 ∨ a.kind = 1) ∧ a.ws.length ≤ 8192 ∧ 0 ≤ a.a ∧ 0 ≤ a.b ∧ a.b ≤ 200 ∧ a.n ≤ 200 ∧ (∀ i : Nat, i < a.n → a.a + i * a.b < a.ws.length) ∧ AllIn (-1125899906842624) 1125899906842624 a.ws
  res := fun a x => .tup []
  out := fun a _ => [none, some (some (.ints .i64 (alS (unL a.kind a.n (fun j => rd (tabl a.n (alG a.ws a.a a.b)) j)) a.ws a.a a.b a.n)))]
  new := fun _ _ => []
def inv68u : List SV → Look → Option (AlA × List Nat)
  | [.ptr c _ _ _ _, .int .i64 a, .int .i64 b, .int .i64 n, .fn 39 []], look => match rowC (look c) with
    | some (F, [.int .i64 w, .sl c1 _ 1 0 _, .int .i64 kind]) => match rowI (look c1) with
      | some (LP, .i64, ws) => some (⟨F, LP, w, kind, ws, a, b, n.toNat⟩, [c, c1])
      | _ => none
    | _ => none
  | _, _ => none
attribute [push_cast] inv68u
theorem ok68u : FSOk Try.prog 68 fs68u := by
  refine ⟨⟨_, Try.func68, by kernel_rfl, by kernel_rfl⟩, fun a => ⟨by simp [fs68u, push_cast, noMine, argOwn, Chunk.frArg], by simp [fs68u, push_cast, outOk, Chunk.ext], fun x => .inl (by simp [fs68u, push_cast, frNew, frOut, Chunk.fr])⟩, fun a hp => ?_⟩
  obtain ⟨F, LP, w, kind, ws, a, b, n⟩ := a
  obtain ⟨hk, h1, h2, h3, h4, h5, h6, h7⟩ : (kind = 0 ∨ kind = 1) ∧ ws.length ≤ 8192 ∧ 0 ≤ a ∧ 0 ≤ b ∧ b ≤ 200 ∧ n ≤ 200 ∧ (∀ i : Nat, i < n → a + i * b < ws.length) ∧ AllIn (-1125899906842624) 1125899906842624 ws := hp
  change Tri Try.prog 68 [.ptr 0 F 0 0 0, .int .i64 a, .int .i64 b, .int .i64 n, .fn 39 []] [some (.ro, F, .cells [.int .i64 w, .sl 1 LP 1 0 ws.length, .int .i64 kind]), some (.lent, LP, .ints .i64 ws)] (postF fs68u ⟨F, LP, w, kind, ws, a, b, n⟩)
  obtain ⟨g, hg⟩ : ∃ g, alG ws a b = g := ⟨_, rfl⟩
  have hgk : ∀ k : Nat, rd ws (a + k * b) = g k := fun k => by rw [← hg]; rfl
  have hin := alG_in (a := a) (b := b) (n := n) h7 (by omega)
  rw [hg] at hin
  obtain ⟨R, hR⟩ : ∃ R, unL kind n (fun j => rd (tabl n g) j) = R := ⟨_, rfl⟩
  refine tri_evS (hyp (l := [(39, ent39)]) (lp := []) ⟨e39, trivial⟩ trivial) Try.func68 comp68 (rs := []) (by rfl) Try.ntmps68 15 ?_
  simp -implicitDefEqProofs only [push_cast, false_implies, reduceCtorEq, Classical.not_not, Nat.reduceAdd, Nat.reduceSub, Nat.reduceMul, Nat.reduceLeDiff, Nat.reduceLT, Nat.reduceEqDiff, Nat.reduceBEq, Nat.reduceBNe, Int.reduceNeg, Int.reduceToNat, Bool.or_false, Bool.false_or, Bool.or_true, Bool.true_or, BEq.rfl, Bool.not_eq_true, Bool.not_eq_false, decide_eq_true_eq, not_true_eq_false, not_false_eq_true, ite_true, ite_false, List.append_nil, and_assoc, Nat.mul_zero, Nat.zero_mul, ir68]
  repeat (refine And.intro (by first | omega | trivial | (intros; omega)) ?_)
  intro X
  repeat (refine And.intro (by first | omega | trivial | (intros; omega)) ?_)
  refine evS_loopU (A := Nat) kp68_1 kl68_1 (fun i => [(18, .int .i64 i)]) (fun i => [(10, .mine, X 1 10, .ints .i64 (prt n i g))]) (fun i => i ≤ n) (fun i => n - i) 0 (by omega) (Sub.pt ?_) ?_
  · simp -implicitDefEqProofs only [push_cast, false_implies, reduceCtorEq, Classical.not_not, Nat.reduceAdd, Nat.reduceSub, Nat.reduceMul, Nat.reduceLeDiff, Nat.reduceLT, Nat.reduceEqDiff, Nat.reduceBEq, Nat.reduceBNe, Int.reduceNeg, Int.reduceToNat, Bool.or_false, Bool.false_or, Bool.or_true, Bool.true_or, BEq.rfl, Bool.not_eq_true, Bool.not_eq_false, decide_eq_true_eq, not_true_eq_false, not_false_eq_true, ite_true, ite_false, List.append_nil, and_assoc, Nat.mul_zero, Nat.zero_mul, prt_zero, Int.toNat_natCast]
  intro i (hi : i ≤ n) K hK
  simp -implicitDefEqProofs only [push_cast, false_implies, reduceCtorEq, Classical.not_not, Nat.reduceAdd, Nat.reduceSub, Nat.reduceMul, Nat.reduceLeDiff, Nat.reduceLT, Nat.reduceEqDiff, Nat.reduceBEq, Nat.reduceBNe, Int.reduceNeg, Int.reduceToNat, Bool.or_false, Bool.false_or, Bool.or_true, Bool.true_or, BEq.rfl, Bool.not_eq_true, Bool.not_eq_false, decide_eq_true_eq, not_true_eq_false, not_false_eq_true, ite_true, ite_false, List.append_nil, and_assoc, Nat.mul_zero, Nat.zero_mul, b68_1, r68_3, fs39]
  refine ⟨fun hl => ?_, fun hl => ?_⟩
  · have hi' : i < n := by omega
    have hib := mul_bd (a := (i : Int)) (b := b) (A := 200) (B := 200) (by omega) (by omega) h3 h4
    have hlt := h6 i hi'
    have lP := prt_length hi g
    have q : (prt n i g).set i (g i) = prt n (i + 1) g := prt_set hi' _
    repeat (refine And.intro (by first | omega | trivial | (intros; omega)) ?_)
    refine hK (i + 1) (by omega) (by omega) _ _ (Sub.pt ?_)
    simp -implicitDefEqProofs only [push_cast, false_implies, reduceCtorEq, Classical.not_not, Nat.reduceAdd, Nat.reduceSub, Nat.reduceMul, Nat.reduceLeDiff, Nat.reduceLT, Nat.reduceEqDiff, Nat.reduceBEq, Nat.reduceBNe, Int.reduceNeg, Int.reduceToNat, Bool.or_false, Bool.false_or, Bool.or_true, Bool.true_or, BEq.rfl, Bool.not_eq_true, Bool.not_eq_false, decide_eq_true_eq, not_true_eq_false, not_false_eq_true, ite_true, ite_false, List.append_nil, and_assoc, Nat.mul_zero, Nat.zero_mul, Int.toNat_natCast, hgk, q]
  · obtain rfl : i = n := by omega
    clear hK
    rw [prt_all]
    simp only [Int.toNat_natCast, tabl_length, hR]
    intro X1
    repeat (refine And.intro (by first | omega | trivial | (intros; omega)) ?_)
    have hRl : R.length = i := by rw [← hR, unL_length]
    refine evS_loopU (A := Nat) kp68_2 kl68_2 (fun j => [(44, .int .i64 j)]) (fun j => [(1, .lent, LP, .ints .i64 (alS R ws a b j))]) (fun j => j ≤ i) (fun j => i - j) 0 (by omega) (Sub.pt ?_) ?_
    · simp -implicitDefEqProofs only [push_cast, false_implies, reduceCtorEq, Classical.not_not, Nat.reduceAdd, Nat.reduceSub, Nat.reduceMul, Nat.reduceLeDiff, Nat.reduceLT, Nat.reduceEqDiff, Nat.reduceBEq, Nat.reduceBNe, Int.reduceNeg, Int.reduceToNat, Bool.or_false, Bool.false_or, Bool.or_true, Bool.true_or, BEq.rfl, Bool.not_eq_true, Bool.not_eq_false, decide_eq_true_eq, not_true_eq_false, not_false_eq_true, ite_true, ite_false, List.append_nil, and_assoc, Nat.mul_zero, Nat.zero_mul, alS]
    intro j (hj : j ≤ i) K hK
    simp -implicitDefEqProofs only [push_cast, false_implies, reduceCtorEq, Classical.not_not, Nat.reduceAdd, Nat.reduceSub, Nat.reduceMul, Nat.reduceLeDiff, Nat.reduceLT, Nat.reduceEqDiff, Nat.reduceBEq, Nat.reduceBNe, Int.reduceNeg, Int.reduceToNat, Bool.or_false, Bool.false_or, Bool.or_true, Bool.true_or, BEq.rfl, Bool.not_eq_true, Bool.not_eq_false, decide_eq_true_eq, not_true_eq_false, not_false_eq_true, ite_true, ite_false, List.append_nil, and_assoc, Nat.mul_zero, Nat.zero_mul, b68_2]
    refine ⟨fun hl => ?_, fun hl => ?_⟩
    · have hj' : j < i := by omega
      have hib := mul_bd (a := (j : Int)) (b := b) (A := 200) (B := 200) (by omega) (by omega) h3 h4
      have hlt := h6 j hj'
      simp only [alS_length, hRl]
      repeat (refine And.intro (by first | omega | trivial | (intros; omega)) ?_)
      refine hK (j + 1) (by omega) (by omega) _ _ (Sub.pt ?_)
      simp -implicitDefEqProofs only [push_cast, false_implies, reduceCtorEq, Classical.not_not, Nat.reduceAdd, Nat.reduceSub, Nat.reduceMul, Nat.reduceLeDiff, Nat.reduceLT, Nat.reduceEqDiff, Nat.reduceBEq, Nat.reduceBNe, Int.reduceNeg, Int.reduceToNat, Bool.or_false, Bool.false_or, Bool.or_true, Bool.true_or, BEq.rfl, Bool.not_eq_true, Bool.not_eq_false, decide_eq_true_eq, not_true_eq_false, not_false_eq_true, ite_true, ite_false, List.append_nil, and_assoc, Nat.mul_zero, Nat.zero_mul, alS]
    · obtain rfl : j = i := by omega
      refine postF.mk' (fun _ => default) [some 0, some 1] ?_
      simp -implicitDefEqProofs only [push_cast, false_implies, reduceCtorEq, Classical.not_not, Nat.reduceAdd, Nat.reduceSub, Nat.reduceMul, Nat.reduceLeDiff, Nat.reduceLT, Nat.reduceEqDiff, Nat.reduceBEq, Nat.reduceBNe, Int.reduceNeg, Int.reduceToNat, Bool.or_false, Bool.false_or, Bool.or_true, Bool.true_or, BEq.rfl, Bool.not_eq_true, Bool.not_eq_false, decide_eq_true_eq, not_true_eq_false, not_false_eq_true, ite_true, ite_false, List.append_nil, and_assoc, Nat.mul_zero, Nat.zero_mul, fs68u, hg, hR]
def ent68u : Entry := spOf fs68u inv68u
theorem e68u : EntryOk Try.prog 68 ent68u := entry_of ok68u inv68u
@[push_cast] theorem ent68u_app (us : List SV) (look : Look) (x : Nat → Xf.Loc) (k : Nat) : ent68u us look x k = spOf fs68u inv68u us look x k := rfl
theorem rd_set_nat {xs : List Int} {i : Nat} (v : Int) (k : Nat) : rd (xs.set i v) (k : Int) = if i = k ∧ k < xs.length then v else rd xs (k : Int) := by
  unfold rd
  simp only [Int.toNat_natCast, List.getD_eq_getElem?_getD, List.getElem?_set]
  by_cases e : i = k
  · subst e
    by_cases h : i < xs.length
    · simp [h]
    · simp [h]
  · simp [e]
theorem alS_miss {res ws : List Int} {a b : Int} {k : Nat} : ∀ {n : Nat}, (∀ i : Nat, i < n → (a + i * b).toNat ≠ k) → rd (alS res ws a b n) (k : Int) = rd ws (k : Int)
  | 0, _ => rfl
  | n + 1, h => by
    rw [alS, rd_set_nat, if_neg (fun e => h n (by omega) e.1), alS_miss fun i hi => h i (by omega)]
theorem alS_hit {res ws : List Int} {a b : Int} (ha : 0 ≤ a) (hb : 1 ≤ b) {i : Nat} (hl : (a + i * b).toNat < ws.length) : ∀ {n : Nat}, i < n → rd (alS res ws a b n) (((a + i * b).toNat : Nat) : Int) = rd res i
  | 0, h => by omega
  | n + 1, h => by
    rw [alS, rd_set_nat, alS_length]
    by_cases e : i = n
    · subst e; rw [if_pos ⟨rfl, hl⟩]
    · rw [if_neg, alS_hit ha hb hl (by omega)]
      rintro ⟨q, _⟩
      have h1 : (0 : Int) ≤ i * b := Int.mul_nonneg (by omega) (by omega)
      have h2 : ((i : Int) + 1) * b ≤ n * b := Int.mul_le_mul_of_nonneg_right (by omega) (by omega)
      rw [Int.add_mul] at h2
      omega
abbrev LT := Int → Nat → (Int → Int) → List Int
/-- The numbers of a row or column, as a line. -/
def rowF (ws : List Int) (a b : Int) (n : Nat) : Int → Int := fun j => rd (tabl n (alG ws a b)) j
def alL (T : LT) (kind : Int) (ws : List Int) (a b : Int) (n : Nat) : List Int := alS (T kind n (rowF ws a b n)) ws a b n
theorem alL_length (T : LT) (kind : Int) (ws : List Int) (a b : Int) (n : Nat) : (alL T kind ws a b n).length = ws.length := alS_length ..
theorem rowF_congr {ws vs : List Int} {a b : Int} {n : Nat} (h : ∀ i : Nat, i < n → rd ws (a + i * b) = rd vs (a + i * b)) : rowF ws a b n = rowF vs a b n := by
  unfold rowF
  rw [tabl_congr (f := alG ws a b) (g := alG vs a b) fun j hj => h j hj]
theorem rowF_at {ws : List Int} {a b : Int} {n j : Nat} (h : j < n) : rowF ws a b n j = rd ws (a + j * b) := by
  unfold rowF; rw [rd_tabl h]; rfl
theorem rowF_bd {ws : List Int} {a b : Int} {n : Nat} {B : Int} (h : AllIn (-B) B ws) (h0 : 0 ≤ B) : BdF B (rowF ws a b n) := BdF.rd0 (alG_in h h0) h0
structure Trn (T : LT) : Prop where
  len : ∀ k n f, (T k n f).length = n
  bd : ∀ k n f B, BdF B f → 0 ≤ B → AllIn (-(3 * B + 1)) (3 * B + 1) (T k n f)
  congr : ∀ k (n : Nat) f g, (∀ j : Nat, j < n → f j = g j) → T k n f = T k n g
theorem lineL_congr (kind : Int) (n : Nat) (f g : Int → Int) (h : ∀ j : Nat, j < n → f j = g j) : lineL kind n f = lineL kind n g := by
  have h1 : hiL kind n f = hiL kind n g := by
    unfold hiL
    refine tabl_congr fun j hj => ?_
    have e0 := h (2 * j) (by omega)
    have e1 := h (2 * j + 1) (by omega)
    simp only [Int.natCast_add, Int.natCast_mul, Int.cast_ofNat_Int] at e0 e1
    unfold hiF nxt
    rw [e0, e1]
    by_cases c : 2 * (j : Int) + 2 < n
    · have e2 := h (2 * j + 2) (by omega)
      simp only [Int.natCast_add, Int.natCast_mul, Int.cast_ofNat_Int] at e2
      rw [e2]
    · rw [if_neg c, if_neg c]
  unfold lineL
  rw [h1]
  congr 1
  refine tabl_congr fun j hj => ?_
  have e0 := h (2 * j) (by omega)
  simp only [Int.natCast_mul, Int.cast_ofNat_Int] at e0
  unfold loF
  rw [h1, e0]
theorem evF_congr {kind : Int} {n : Nat} {f g : Int → Int} (h : ∀ j : Nat, j < n → f j = g j) {i : Nat} (hi : i < n - n / 2) : evF kind n f i = evF kind n g i := by
  unfold evF
  rw [h i (by omega)]
  rw [liftG_congr (g' := fun j => g ((n : Int) - (n / 2 : Nat) + j)) ?_ (by omega) (by omega) (by omega)]
  intro j h0 h1
  have := h (n - n / 2 + j.toNat) (by omega)
  rw [show ((n - n / 2 + j.toNat : Nat) : Int) = (n : Int) - (n / 2 : Nat) + j by omega] at this
  exact this
theorem unL_congr (kind : Int) (n : Nat) (f g : Int → Int) (h : ∀ j : Nat, j < n → f j = g j) : unL kind n f = unL kind n g := by
  unfold unL
  refine tabl_congr fun k hk => ?_
  unfold unF2
  by_cases c : k % 2 = 0
  · rw [if_pos c, if_pos c, evF_congr h (by omega)]
  · rw [if_neg c, if_neg c]
    by_cases d : k / 2 < n / 2
    · rw [if_pos d, if_pos d]
      have e1 := h (n - n / 2 + k / 2) (by omega)
      rw [show ((n - n / 2 + k / 2 : Nat) : Int) = (n : Int) - (n / 2 : Nat) + (k / 2 : Nat) by omega] at e1
      unfold odF
      rw [e1, evF_congr h (by omega)]
      by_cases q : 2 * (k / 2) + 2 < n
      · rw [if_pos q, if_pos q, evF_congr h (by omega)]
      · rw [if_neg q, if_neg q]
    · rw [if_neg d, if_neg d]
theorem trn_line : Trn lineL := ⟨lineL_length, fun k n f B h h0 => line_bd h h0, lineL_congr⟩
theorem trn_unline : Trn unL := by
  refine ⟨unL_length, fun k n f B h h0 => ?_, unL_congr⟩
  rw [allIn_rd]
  intro j hj
  rw [unL_length] at hj
  unfold unL
  rw [rd_tabl hj]
  have key : ∀ i : Nat, -(2 * B + 1) ≤ evF k n f i ∧ evF k n f i ≤ 2 * B + 1 := evF_bd h h0
  unfold unF2
  have k1 := key (j / 2)
  have k2 := key (j / 2 + 1)
  have k3 := h ((n : Int) - (n / 2 : Nat) + (j / 2 : Nat))
  split
  · omega
  · split
    · unfold odF
      split
      · omega
      · split <;> omega
    · omega
def rwL (T : LT) (kind : Int) (W : Nat) (w : Nat) (ws : List Int) : Nat → List Int
  | 0 => ws
  | y + 1 => alL T kind (rwL T kind W w ws y) ((y : Int) * W) 1 w
def clL (T : LT) (kind : Int) (W : Nat) (h : Nat) (ws : List Int) : Nat → List Int
  | 0 => ws
  | x + 1 => alL T kind (clL T kind W h ws x) x W h
theorem rwL_length (T : LT) (kind : Int) (W w : Nat) (ws : List Int) : ∀ m, (rwL T kind W w ws m).length = ws.length
  | 0 => rfl
  | m + 1 => by rw [rwL, alL_length, rwL_length T kind W w ws m]
theorem clL_length (T : LT) (kind : Int) (W h : Nat) (ws : List Int) : ∀ m, (clL T kind W h ws m).length = ws.length
  | 0 => rfl
  | m + 1 => by rw [clL, alL_length, clL_length T kind W h ws m]
/-- Where a number stands: row and column. -/
theorem place {W k : Nat} : k = k / W * W + k % W := by
  have := Nat.div_add_mod k W
  rw [Nat.mul_comm] at this; exact this.symm
theorem row_le {W k m : Nat} (h : k / W < m) (h2 : k % W < W) : k < m * W := by
  have e := place (W := W) (k := k)
  have : (k / W + 1) * W ≤ m * W := Nat.mul_le_mul_right _ h
  rw [Nat.add_mul] at this
  omega
theorem rwL_at {T : LT} (hT : Trn T) {kind : Int} {W w : Nat} (hw : w ≤ W) (ws : List Int) : ∀ (m : Nat), m * W ≤ ws.length → ∀ k : Nat,
    rd (rwL T kind W w ws m) (k : Int) = if k / W < m ∧ k % W < w then rd (T kind w (rowF ws (((k / W * W : Nat)) : Int) 1 w)) ((k % W : Nat) : Int) else rd ws (k : Int)
  | 0, _, k => by rw [if_neg (fun q => absurd q.1 (Nat.not_lt_zero _))]; rfl
  | m + 1, hm, k => by
    have hm' : m * W + W ≤ ws.length := by rw [Nat.add_mul] at hm; omega
    have ih := rwL_at hT (kind := kind) hw ws m (by omega)
    have eR : rowF (rwL T kind W w ws m) ((m : Int) * W) 1 w = rowF ws ((m * W : Nat) : Int) 1 w := by
      have ec : ((m * W : Nat) : Int) = (m : Int) * W := by simp
      rw [ec]
      refine rowF_congr fun i hi => ?_
      have e : (m : Int) * W + i * 1 = ((m * W + i : Nat) : Int) := by simp
      rw [e, ih, if_neg]
      rintro ⟨q, _⟩
      have : (m * W + i) / W = m := by
        rw [Nat.mul_comm, Nat.mul_add_div (by omega), Nat.div_eq_of_lt (by omega), Nat.add_zero]
      omega
    rw [rwL, alL, eR]
    by_cases hh : k / W = m ∧ k % W < w
    · obtain ⟨h1, h2⟩ := hh
      have ep := place (W := W) (k := k)
      rw [h1] at ep
      have e : ((m : Int) * W + ((k % W : Nat) : Int) * 1).toNat = k := by
        have : ((m * W : Nat) : Int) = (m : Int) * W := by simp
        omega
      have hkl : k < ws.length := by omega
      have hp : (0 : Int) ≤ (m : Int) * W := Int.mul_nonneg (by omega) (by omega)
      have := alS_hit (res := T kind w (rowF ws ((m * W : Nat) : Int) 1 w)) (ws := rwL T kind W w ws m) (a := (m : Int) * W) (b := 1) hp (by omega) (i := k % W) (by rw [e, rwL_length]; exact hkl) (n := w) h2
      rw [e] at this
      rw [this, if_pos ⟨by omega, h2⟩, h1]
    · rw [alS_miss, ih]
      · by_cases c : k / W < m ∧ k % W < w
        · rw [if_pos c, if_pos ⟨by omega, c.2⟩]
        · rw [if_neg c, if_neg]
          rintro ⟨q1, q2⟩
          by_cases e : k / W = m
          · exact hh ⟨e, q2⟩
          · exact c ⟨by omega, q2⟩
      · intro i hi e
        have : ((m * W : Nat) : Int) = (m : Int) * W := by simp
        have ek : k = m * W + i := by omega
        apply hh
        have hd : (m * W + i) / W = m := by
          rw [Nat.mul_comm, Nat.mul_add_div (by omega), Nat.div_eq_of_lt (by omega), Nat.add_zero]
        have hr : (m * W + i) % W = i := by
          rw [Nat.mul_comm, Nat.mul_add_mod, Nat.mod_eq_of_lt (by omega)]
        rw [ek]
        exact ⟨hd, by omega⟩
theorem clL_at {T : LT} (hT : Trn T) {kind : Int} {W h : Nat} (ws : List Int) (hh : h * W ≤ ws.length) : ∀ (m : Nat), m ≤ W → ∀ k : Nat,
    rd (clL T kind W h ws m) (k : Int) = if k % W < m ∧ k / W < h then rd (T kind h (rowF ws ((k % W : Nat) : Int) W h)) ((k / W : Nat) : Int) else rd ws (k : Int)
  | 0, _, k => by rw [if_neg (fun q => absurd q.1 (Nat.not_lt_zero _))]; rfl
  | m + 1, hm, k => by
    have ih := clL_at hT (kind := kind) ws hh m (by omega)
    have hd : ∀ i : Nat, (m + i * W) / W = i ∧ (m + i * W) % W = m := fun i => by
      rw [Nat.add_mul_div_right _ _ (by omega), Nat.div_eq_of_lt (by omega), Nat.zero_add, Nat.add_mul_mod_self_right, Nat.mod_eq_of_lt (by omega)]
      exact ⟨rfl, rfl⟩
    have eR : rowF (clL T kind W h ws m) (m : Int) W h = rowF ws ((m : Nat) : Int) W h := by
      refine rowF_congr fun i hi => ?_
      have e : (m : Int) + i * W = ((m + i * W : Nat) : Int) := by simp
      rw [e, ih, if_neg]
      rintro ⟨q, _⟩
      rw [(hd i).2] at q
      omega
    rw [clL, alL, eR]
    by_cases hc : k % W = m ∧ k / W < h
    · obtain ⟨h1, h2⟩ := hc
      have ep := place (W := W) (k := k)
      rw [h1] at ep
      have e : ((m : Int) + ((k / W : Nat) : Int) * W).toNat = k := by
        have : ((k / W * W : Nat) : Int) = ((k / W : Nat) : Int) * W := by simp
        omega
      have hkl : k < ws.length := Nat.lt_of_lt_of_le (row_le h2 (by omega)) hh
      have := alS_hit (res := T kind h (rowF ws ((m : Nat) : Int) W h)) (ws := clL T kind W h ws m) (a := (m : Int)) (b := W) (by omega) (by omega) (i := k / W) (by rw [e, clL_length]; exact hkl) (n := h) h2
      rw [e] at this
      rw [this, if_pos ⟨by omega, h2⟩, h1]
    · rw [alS_miss, ih]
      · by_cases c : k % W < m ∧ k / W < h
        · rw [if_pos c, if_pos ⟨by omega, c.2⟩]
        · rw [if_neg c, if_neg]
          rintro ⟨q1, q2⟩
          by_cases e : k % W = m
          · exact hc ⟨e, q2⟩
          · exact c ⟨by omega, q2⟩
      · intro i hi e
        have ek : k = m + i * W := by
          have : ((i * W : Nat) : Int) = (i : Int) * W := by simp
          omega
        apply hc
        rw [ek]
        exact ⟨(hd i).2, by rw [(hd i).1]; exact hi⟩
theorem rwL_bd {T : LT} (hT : Trn T) {kind : Int} {W w : Nat} (hw : w ≤ W) {ws : List Int} {m : Nat} (hm : m * W ≤ ws.length) {B : Int} (hB : AllIn (-B) B ws) (h0 : 0 ≤ B) : AllIn (-(3 * B + 1)) (3 * B + 1) (rwL T kind W w ws m) := by
  rw [allIn_rd]
  intro k hk
  rw [rwL_at hT hw ws m hm]
  split
  · exact rd_bd (hT.bd _ _ _ B (rowF_bd hB h0) h0) (by omega) (by omega) _
  · have := rd_bd hB (by omega) h0 (k : Int); omega
theorem clL_bd {T : LT} (hT : Trn T) {kind : Int} {W h : Nat} {ws : List Int} (hh : h * W ≤ ws.length) {m : Nat} (hm : m ≤ W) {B : Int} (hB : AllIn (-B) B ws) (h0 : 0 ≤ B) : AllIn (-(3 * B + 1)) (3 * B + 1) (clL T kind W h ws m) := by
  rw [allIn_rd]
  intro k hk
  rw [clL_at hT ws hh m hm]
  split
  · exact rd_bd (hT.bd _ _ _ B (rowF_bd hB h0) h0) (by omega) (by omega) _
  · have := rd_bd hB (by omega) h0 (k : Int); omega
/-- A level forward; one back. -/
def stF (T : LT) (kind : Int) (W : Nat) (ws : List Int) (w h : Nat) : List Int := clL T kind W h (rwL T kind W w ws h) w
def stI (T : LT) (kind : Int) (W : Nat) (ws : List Int) (w h : Nat) : List Int := rwL T kind W w (clL T kind W h ws w) h
def hlf (w : Nat) : Nat → Nat
  | 0 => w
  | i + 1 => (hlf w i + 1) / 2
theorem hlf_le (w : Nat) : ∀ i, hlf w i ≤ w
  | 0 => Nat.le_refl _
  | i + 1 => by have := hlf_le w i; simp only [hlf]; omega
def fwd (T : LT) (kind : Int) (W h : Nat) (ws : List Int) : Nat → List Int
  | 0 => ws
  | i + 1 => stF T kind W (fwd T kind W h ws i) (hlf W i) (hlf h i)
def bwd (T : LT) (kind : Int) (W h n : Nat) (ws : List Int) : Nat → List Int
  | 0 => ws
  | i + 1 => stI T kind W (bwd T kind W h n ws i) (hlf W (n - 1 - i)) (hlf h (n - 1 - i))
theorem stF_length (T : LT) (kind : Int) (W : Nat) (ws : List Int) (w h : Nat) : (stF T kind W ws w h).length = ws.length := by rw [stF, clL_length, rwL_length]
theorem stI_length (T : LT) (kind : Int) (W : Nat) (ws : List Int) (w h : Nat) : (stI T kind W ws w h).length = ws.length := by rw [stI, rwL_length, clL_length]
theorem fwd_length (T : LT) (kind : Int) (W h : Nat) (ws : List Int) : ∀ i, (fwd T kind W h ws i).length = ws.length
  | 0 => rfl
  | i + 1 => by rw [fwd, stF_length, fwd_length T kind W h ws i]
theorem bwd_length (T : LT) (kind : Int) (W h n : Nat) (ws : List Int) : ∀ i, (bwd T kind W h n ws i).length = ws.length
  | 0 => rfl
  | i + 1 => by rw [bwd, stI_length, bwd_length T kind W h n ws i]
theorem stF_bd {T : LT} (hT : Trn T) {kind : Int} {W w h : Nat} (hw : w ≤ W) {ws : List Int} (hh : h * W ≤ ws.length) {B : Int} (hB : AllIn (-B) B ws) (h0 : 0 ≤ B) : AllIn (-(9 * B + 4)) (9 * B + 4) (stF T kind W ws w h) := by
  have h1 := clL_bd hT (kind := kind) (by rw [rwL_length]; exact hh) hw (rwL_bd hT (kind := kind) hw hh hB h0) (by omega)
  unfold stF
  rw [show 9 * B + 4 = 3 * (3 * B + 1) + 1 by omega]; exact h1
theorem stI_bd {T : LT} (hT : Trn T) {kind : Int} {W w h : Nat} (hw : w ≤ W) {ws : List Int} (hh : h * W ≤ ws.length) {B : Int} (hB : AllIn (-B) B ws) (h0 : 0 ≤ B) : AllIn (-(9 * B + 4)) (9 * B + 4) (stI T kind W ws w h) := by
  have h1 := rwL_bd hT (kind := kind) hw (by rw [clL_length]; exact hh) (clL_bd hT (kind := kind) hh hw hB h0) (by omega)
  unfold stI
  rw [show 9 * B + 4 = 3 * (3 * B + 1) + 1 by omega]; exact h1
def bnd (B : Int) : Nat → Int
  | 0 => B
  | i + 1 => 9 * bnd B i + 4
theorem bnd_pos {B : Int} (h : 0 ≤ B) : ∀ i, 0 ≤ bnd B i
  | 0 => h
  | i + 1 => by have := bnd_pos h i; simp only [bnd]; omega
theorem hh_len {W h n : Nat} (hn : h * W ≤ n) (i : Nat) : hlf h i * W ≤ n := Nat.le_trans (Nat.mul_le_mul_right _ (hlf_le h i)) hn
theorem fwd_bd {T : LT} (hT : Trn T) {kind : Int} {W h : Nat} {ws : List Int} (hh : h * W ≤ ws.length) {B : Int} (hB : AllIn (-B) B ws) (h0 : 0 ≤ B) : ∀ i, AllIn (-(bnd B i)) (bnd B i) (fwd T kind W h ws i)
  | 0 => hB
  | i + 1 => stF_bd hT (hlf_le W i) (by rw [fwd_length]; exact hh_len hh i) (fwd_bd hT hh hB h0 i) (bnd_pos h0 i)
theorem bwd_bd {T : LT} (hT : Trn T) {kind : Int} {W h n : Nat} {ws : List Int} (hh : h * W ≤ ws.length) {B : Int} (hB : AllIn (-B) B ws) (h0 : 0 ≤ B) : ∀ i, AllIn (-(bnd B i)) (bnd B i) (bwd T kind W h n ws i)
  | 0 => hB
  | i + 1 => stI_bd hT (hlf_le W _) (by rw [bwd_length]; exact hh_len hh _) (bwd_bd hT hh hB h0 i) (bnd_pos h0 i)
def b53_1 : IR :=
  .seq (.reg false [⟨some 11, none, ⟨[], []⟩, .bin 0 .lss (.t 10) (.t 9)⟩] [] []) (.seq (.cond (.t 11) (.skip) (.exit 0)) (.seq (.block 1 (.seq (.reg false [⟨some 12, none, ⟨[], []⟩, .mov (.t 10)⟩,
    ⟨some 8, none, ⟨[], []⟩, .mov (.t 12)⟩] [11, 12] []) (.reg false [⟨some 13, none, ⟨[], []⟩, .mov (.t 0)⟩,
    ⟨some 14, none, ⟨[], []⟩, .mov (.t 8)⟩,
    ⟨some 15, none, ⟨[], []⟩, .mov (.t 0)⟩,
    ⟨some 16, none, ⟨[], []⟩, .nilc (.t 15)⟩,
    ⟨some 17, none, ⟨[], []⟩, .fld (.t 16) 0⟩,
    ⟨some 18, none, ⟨[], []⟩, .ld false none 0 0 (.t 17)⟩,
    ⟨some 19, none, ⟨[], []⟩, .bin 0 .mul (.t 14) (.t 18)⟩,
    ⟨some 20, none, ⟨[], []⟩, .mov (.t 1)⟩,
    ⟨some 21, none, ⟨[], []⟩, .mov (.t 3)⟩,
    ⟨some 22, none, ⟨[], []⟩, .call none 10 68 [.t 13, .t 19, .k (.int .i64 1), .t 20, .t 21]⟩] [8, 13, 14, 15, 16, 17, 18, 19, 20, 21, 22] []))) (.reg false [⟨some 23, none, ⟨[], []⟩, .bin 0 .add (.t 10) (.k (.int .i64 1))⟩,
    ⟨some 10, none, ⟨[], []⟩, .mov (.t 23)⟩] [23] [])))
def ir53 : IR :=
  .seq (.reg false [⟨some 9, none, ⟨[], []⟩, .mov (.t 2)⟩,
    ⟨some 10, none, ⟨[], []⟩, .mov (.k (.int .i64 0))⟩] [2] []) (.block 0 (.loop b53_1))
def kp53_1 : List Nat := [0, 1, 3, 9, 10]
def kl53_1 : List Nat := [10, 11, 12, 13]
attribute [push_cast] kp53_1 kl53_1
set_option maxRecDepth 4000 in
theorem comp53 : (Try.f53.body.bind fun c => compC tab isP chkAll ir53 c) = some ir53 := by kernel_rfl
def b54_1 : IR :=
  .seq (.reg false [⟨some 11, none, ⟨[], []⟩, .bin 0 .lss (.t 10) (.t 9)⟩] [] []) (.seq (.cond (.t 11) (.skip) (.exit 0)) (.seq (.block 1 (.seq (.reg false [⟨some 12, none, ⟨[], []⟩, .mov (.t 10)⟩,
    ⟨some 8, none, ⟨[], []⟩, .mov (.t 12)⟩] [11, 12] []) (.reg false [⟨some 13, none, ⟨[], []⟩, .mov (.t 0)⟩,
    ⟨some 14, none, ⟨[], []⟩, .mov (.t 8)⟩,
    ⟨some 15, none, ⟨[], []⟩, .mov (.t 0)⟩,
    ⟨some 16, none, ⟨[], []⟩, .nilc (.t 15)⟩,
    ⟨some 17, none, ⟨[], []⟩, .fld (.t 16) 0⟩,
    ⟨some 18, none, ⟨[], []⟩, .ld false none 0 0 (.t 17)⟩,
    ⟨some 19, none, ⟨[], []⟩, .mov (.t 2)⟩,
    ⟨some 20, none, ⟨[], []⟩, .mov (.t 3)⟩,
    ⟨some 21, none, ⟨[], []⟩, .call none 10 68 [.t 13, .t 14, .t 18, .t 19, .t 20]⟩] [8, 13, 14, 15, 16, 17, 18, 19, 20, 21] []))) (.reg false [⟨some 22, none, ⟨[], []⟩, .bin 0 .add (.t 10) (.k (.int .i64 1))⟩,
    ⟨some 10, none, ⟨[], []⟩, .mov (.t 22)⟩] [22] [])))
def ir54 : IR :=
  .seq (.reg false [⟨some 9, none, ⟨[], []⟩, .mov (.t 1)⟩,
    ⟨some 10, none, ⟨[], []⟩, .mov (.k (.int .i64 0))⟩] [1] []) (.block 0 (.loop b54_1))
def kp54_1 : List Nat := [0, 2, 3, 9, 10]
def kl54_1 : List Nat := [10, 11, 12, 13]
attribute [push_cast] kp54_1 kl54_1
set_option maxRecDepth 4000 in
theorem comp54 : (Try.f54.body.bind fun c => compC tab isP chkAll ir54 c) = some ir54 := by kernel_rfl
structure RwA where
  F : Xf.Loc
  LP : Xf.Loc
  W : Nat
  kind : Int
  ws : List Int
  w : Nat
  h : Nat
def fs53f : FS where
  A := RwA
  args := fun a => [.ptr 0 a.F 0 0 0, .int .i64 a.w, .int .i64 a.h, .fn 38 []]
  mem := fun a => [some (.ro, a.F, .cells [.int .i64 a.W, .sl 1 a.LP 1 0 a.ws.length, .int .i64 a.kind]), some (.lent, a.LP, .ints .i64 a.ws)]
  pre := fun a => (a.kind = 0 ∨ a.kind = 1) ∧ a.ws.length ≤ 8192 ∧ a.W ≤ 200 ∧ a.w ≤ a.W ∧ a.h ≤ 200 ∧ a.h * a.W ≤ a.ws.length ∧ AllIn (-357913941) 357913941 a.ws
  res := fun a x => .tup []
  out := fun a _ => [none, some (some (.ints .i64 (rwL lineL a.kind a.W a.w a.ws a.h)))]
  new := fun _ _ => []
def inv53f : List SV → Look → Option (RwA × List Nat)
  | [.ptr c _ _ _ _, .int .i64 w, .int .i64 h, .fn 38 []], look => match rowC (look c) with
    | some (F, [.int .i64 W, .sl c1 _ 1 0 _, .int .i64 kind]) => match rowI (look c1) with
      | some (LP, .i64, ws) => some (⟨F, LP, W.toNat, kind, ws, w.toNat, h.toNat⟩, [c, c1])
      | _ => none
    | _ => none
  | _, _ => none
attribute [push_cast] inv53f
theorem ok53f : FSOk Try.prog 53 fs53f := by
  refine ⟨⟨_, Try.func53, by kernel_rfl, by kernel_rfl⟩, fun a => ⟨by simp [fs53f, push_cast, noMine, argOwn, Chunk.frArg], by simp [fs53f, push_cast, outOk, Chunk.ext], fun x => .inl (by simp [fs53f, push_cast, frNew, frOut, Chunk.fr])⟩, fun a hp => ?_⟩
  obtain ⟨F, LP, W, kind, ws, w, h⟩ := a
  obtain ⟨hk, h1, h2, h3, h4, h5, h6⟩ : (kind = 0 ∨ kind = 1) ∧ ws.length ≤ 8192 ∧ W ≤ 200 ∧ w ≤ W ∧ h ≤ 200 ∧ h * W ≤ ws.length ∧ AllIn (-357913941) 357913941 ws := hp
  change Tri Try.prog 53 [.ptr 0 F 0 0 0, .int .i64 w, .int .i64 h, .fn 38 []] [some (.ro, F, .cells [.int .i64 W, .sl 1 LP 1 0 ws.length, .int .i64 kind]), some (.lent, LP, .ints .i64 ws)] (postF fs53f ⟨F, LP, W, kind, ws, w, h⟩)
  refine tri_evS (hyp (l := [(68, ent68f)]) (lp := []) ⟨e68f, trivial⟩ trivial) Try.func53 comp53 (rs := []) (by rfl) Try.ntmps53 14 ?_
  simp -implicitDefEqProofs only [push_cast, false_implies, reduceCtorEq, Classical.not_not, Nat.reduceAdd, Nat.reduceSub, Nat.reduceMul, Nat.reduceLeDiff, Nat.reduceLT, Nat.reduceEqDiff, Nat.reduceBEq, Nat.reduceBNe, Int.reduceNeg, Int.reduceToNat, Bool.or_false, Bool.false_or, Bool.or_true, Bool.true_or, BEq.rfl, Bool.not_eq_true, Bool.not_eq_false, decide_eq_true_eq, not_true_eq_false, not_false_eq_true, ite_true, ite_false, List.append_nil, and_assoc, Nat.mul_zero, Nat.zero_mul, ir53]
  refine evS_loopU (A := Nat) kp53_1 kl53_1 (fun y => [(10, .int .i64 y)]) (fun y => [(1, .lent, LP, .ints .i64 (rwL lineL kind W w ws y))]) (fun y => y ≤ h) (fun y => h - y) 0 (by omega) (Sub.pt ?_) ?_
  · simp -implicitDefEqProofs only [push_cast, false_implies, reduceCtorEq, Classical.not_not, Nat.reduceAdd, Nat.reduceSub, Nat.reduceMul, Nat.reduceLeDiff, Nat.reduceLT, Nat.reduceEqDiff, Nat.reduceBEq, Nat.reduceBNe, Int.reduceNeg, Int.reduceToNat, Bool.or_false, Bool.false_or, Bool.or_true, Bool.true_or, BEq.rfl, Bool.not_eq_true, Bool.not_eq_false, decide_eq_true_eq, not_true_eq_false, not_false_eq_true, ite_true, ite_false, List.append_nil, and_assoc, Nat.mul_zero, Nat.zero_mul, rwL]
  intro y (hy : y ≤ h) K hK
  have lQ : (rwL lineL kind W w ws y).length = ws.length := rwL_length ..
  have hB := rwL_bd trn_line (kind := kind) h3 (m := y) (Nat.le_trans (Nat.mul_le_mul_right _ hy) h5) h6 (by omega)
  rw [show (3 * 357913941 + 1 : Int) = 1073741824 by decide] at hB
  simp -implicitDefEqProofs only [push_cast, false_implies, reduceCtorEq, Classical.not_not, Nat.reduceAdd, Nat.reduceSub, Nat.reduceMul, Nat.reduceLeDiff, Nat.reduceLT, Nat.reduceEqDiff, Nat.reduceBEq, Nat.reduceBNe, Int.reduceNeg, Int.reduceToNat, Bool.or_false, Bool.false_or, Bool.or_true, Bool.true_or, BEq.rfl, Bool.not_eq_true, Bool.not_eq_false, decide_eq_true_eq, not_true_eq_false, not_false_eq_true, ite_true, ite_false, List.append_nil, and_assoc, Nat.mul_zero, Nat.zero_mul, b53_1, fs68f, lQ]
  refine ⟨fun hl => ?_, fun hl => ?_⟩
  · have hy' : y < h := by omega
    have hm := mul_bd (a := (y : Int)) (b := (W : Int)) (A := 200) (B := 200) (by omega) (by omega) (by omega) (by omega)
    have hyW : ((y : Int) + 1) * W ≤ ws.length := by
      have h7 : (y + 1) * W ≤ ws.length := Nat.le_trans (Nat.mul_le_mul_right _ hy') h5
      have h8 : (((y + 1) * W : Nat) : Int) = ((y : Int) + 1) * W := by simp
      omega
    rw [Int.add_mul] at hyW
    have q : alS (lineL kind w (fun j => rd (tabl w (alG (rwL lineL kind W w ws y) ((y : Int) * W) 1)) j)) (rwL lineL kind W w ws y) ((y : Int) * W) 1 w = rwL lineL kind W w ws (y + 1) := rfl
    simp only [Int.toNat_natCast, q]
    repeat (refine And.intro (by first | omega | trivial | (intros; omega)) ?_)
    refine hK (y + 1) (by omega) (by omega) _ _ (Sub.pt ?_)
    simp -implicitDefEqProofs only [push_cast, false_implies, reduceCtorEq, Classical.not_not, Nat.reduceAdd, Nat.reduceSub, Nat.reduceMul, Nat.reduceLeDiff, Nat.reduceLT, Nat.reduceEqDiff, Nat.reduceBEq, Nat.reduceBNe, Int.reduceNeg, Int.reduceToNat, Bool.or_false, Bool.false_or, Bool.or_true, Bool.true_or, BEq.rfl, Bool.not_eq_true, Bool.not_eq_false, decide_eq_true_eq, not_true_eq_false, not_false_eq_true, ite_true, ite_false, List.append_nil, and_assoc, Nat.mul_zero, Nat.zero_mul]
  · obtain rfl : y = h := by omega
    refine postF.mk' (fun _ => default) [some 0, some 1] ?_
    simp -implicitDefEqProofs only [push_cast, false_implies, reduceCtorEq, Classical.not_not, Nat.reduceAdd, Nat.reduceSub, Nat.reduceMul, Nat.reduceLeDiff, Nat.reduceLT, Nat.reduceEqDiff, Nat.reduceBEq, Nat.reduceBNe, Int.reduceNeg, Int.reduceToNat, Bool.or_false, Bool.false_or, Bool.or_true, Bool.true_or, BEq.rfl, Bool.not_eq_true, Bool.not_eq_false, decide_eq_true_eq, not_true_eq_false, not_false_eq_true, ite_true, ite_false, List.append_nil, and_assoc, Nat.mul_zero, Nat.zero_mul, fs53f]
def ent53f : Entry := spOf fs53f inv53f
theorem e53f : EntryOk Try.prog 53 ent53f := entry_of ok53f inv53f
@[push_cast] theorem ent53f_app (us : List SV) (look : Look) (x : Nat → Xf.Loc) (k : Nat) : ent53f us look x k = spOf fs53f inv53f us look x k := rfl
def fs53u : FS where
  A := RwA
  args := fun a => [.ptr 0 a.F 0 0 0, .int .i64 a.w, .int .i64 a.h, .fn 39 []]
  mem := fun a => [some (.ro, a.F, .cells [.int .i64 a.W, .sl 1 a.LP 1 0 a.ws.length, .int .i64 a.kind]), some (.lent, a.LP, .ints .i64 a.ws)]
  pre := fun a => (a.kind = 0 ∨ a.kind = 1) ∧ a.ws.length ≤ 8192 ∧ a.W ≤ 200 ∧ a.w ≤ a.W ∧ a.h ≤ 200 ∧ a.h * a.W ≤ a.ws.length ∧ AllIn (-375299968947541) 375299968947541 a.ws
  res := fun a x => .tup []
  out := fun a _ => [none, some (some (.ints .i64 (rwL unL a.kind a.W a.w a.ws a.h)))]
  new := fun _ _ => []
def inv53u : List SV → Look → Option (RwA × List Nat)
  | [.ptr c _ _ _ _, .int .i64 w, .int .i64 h, .fn 39 []], look => match rowC (look c) with
    | some (F, [.int .i64 W, .sl c1 _ 1 0 _, .int .i64 kind]) => match rowI (look c1) with
      | some (LP, .i64, ws) => some (⟨F, LP, W.toNat, kind, ws, w.toNat, h.toNat⟩, [c, c1])
      | _ => none
    | _ => none
  | _, _ => none
attribute [push_cast] inv53u
theorem ok53u : FSOk Try.prog 53 fs53u := by
  refine ⟨⟨_, Try.func53, by kernel_rfl, by kernel_rfl⟩, fun a => ⟨by simp [fs53u, push_cast, noMine, argOwn, Chunk.frArg], by simp [fs53u, push_cast, outOk, Chunk.ext], fun x => .inl (by simp [fs53u, push_cast, frNew, frOut, Chunk.fr])⟩, fun a hp => ?_⟩
  obtain ⟨F, LP, W, kind, ws, w, h⟩ := a
  obtain ⟨hk, h1, h2, h3, h4, h5, h6⟩ : (kind = 0 ∨ kind = 1) ∧ ws.length ≤ 8192 ∧ W ≤ 200 ∧ w ≤ W ∧ h ≤ 200 ∧ h * W ≤ ws.length ∧ AllIn (-375299968947541) 375299968947541 ws := hp
  change Tri Try.prog 53 [.ptr 0 F 0 0 0, .int .i64 w, .int .i64 h, .fn 39 []] [some (.ro, F, .cells [.int .i64 W, .sl 1 LP 1 0 ws.length, .int .i64 kind]), some (.lent, LP, .ints .i64 ws)] (postF fs53u ⟨F, LP, W, kind, ws, w, h⟩)
  refine tri_evS (hyp (l := [(68, ent68u)]) (lp := []) ⟨e68u, trivial⟩ trivial) Try.func53 comp53 (rs := []) (by rfl) Try.ntmps53 14 ?_
  simp -implicitDefEqProofs only [push_cast, false_implies, reduceCtorEq, Classical.not_not, Nat.reduceAdd, Nat.reduceSub, Nat.reduceMul, Nat.reduceLeDiff, Nat.reduceLT, Nat.reduceEqDiff, Nat.reduceBEq, Nat.reduceBNe, Int.reduceNeg, Int.reduceToNat, Bool.or_false, Bool.false_or, Bool.or_true, Bool.true_or, BEq.rfl, Bool.not_eq_true, Bool.not_eq_false, decide_eq_true_eq, not_true_eq_false, not_false_eq_true, ite_true, ite_false, List.append_nil, and_assoc, Nat.mul_zero, Nat.zero_mul, ir53]
  refine evS_loopU (A := Nat) kp53_1 kl53_1 (fun y => [(10, .int .i64 y)]) (fun y => [(1, .lent, LP, .ints .i64 (rwL unL kind W w ws y))]) (fun y => y ≤ h) (fun y => h - y) 0 (by omega) (Sub.pt ?_) ?_
  · simp -implicitDefEqProofs only [push_cast, false_implies, reduceCtorEq, Classical.not_not, Nat.reduceAdd, Nat.reduceSub, Nat.reduceMul, Nat.reduceLeDiff, Nat.reduceLT, Nat.reduceEqDiff, Nat.reduceBEq, Nat.reduceBNe, Int.reduceNeg, Int.reduceToNat, Bool.or_false, Bool.false_or, Bool.or_true, Bool.true_or, BEq.rfl, Bool.not_eq_true, Bool.not_eq_false, decide_eq_true_eq, not_true_eq_false, not_false_eq_true, ite_true, ite_false, List.append_nil, and_assoc, Nat.mul_zero, Nat.zero_mul, rwL]
  intro y (hy : y ≤ h) K hK
  have lQ : (rwL unL kind W w ws y).length = ws.length := rwL_length ..
  have hB := rwL_bd trn_unline (kind := kind) h3 (m := y) (Nat.le_trans (Nat.mul_le_mul_right _ hy) h5) h6 (by omega)
  rw [show (3 * 375299968947541 + 1 : Int) = 1125899906842624 by decide] at hB
  simp -implicitDefEqProofs only [push_cast, false_implies, reduceCtorEq, Classical.not_not, Nat.reduceAdd, Nat.reduceSub, Nat.reduceMul, Nat.reduceLeDiff, Nat.reduceLT, Nat.reduceEqDiff, Nat.reduceBEq, Nat.reduceBNe, Int.reduceNeg, Int.reduceToNat, Bool.or_false, Bool.false_or, Bool.or_true, Bool.true_or, BEq.rfl, Bool.not_eq_true, Bool.not_eq_false, decide_eq_true_eq, not_true_eq_false, not_false_eq_true, ite_true, ite_false, List.append_nil, and_assoc, Nat.mul_zero, Nat.zero_mul, b53_1, fs68u, lQ]
  refine ⟨fun hl => ?_, fun hl => ?_⟩
  · have hy' : y < h := by omega
    have hm := mul_bd (a := (y : Int)) (b := (W : Int)) (A := 200) (B := 200) (by omega) (by omega) (by omega) (by omega)
    have hyW : ((y : Int) + 1) * W ≤ ws.length := by
      have h7 : (y + 1) * W ≤ ws.length := Nat.le_trans (Nat.mul_le_mul_right _ hy') h5
      have h8 : (((y + 1) * W : Nat) : Int) = ((y : Int) + 1) * W := by simp
      omega
    rw [Int.add_mul] at hyW
    have q : alS (unL kind w (fun j => rd (tabl w (alG (rwL unL kind W w ws y) ((y : Int) * W) 1)) j)) (rwL unL kind W w ws y) ((y : Int) * W) 1 w = rwL unL kind W w ws (y + 1) := rfl
    simp only [Int.toNat_natCast, q]
    repeat (refine And.intro (by first | omega | trivial | (intros; omega)) ?_)
    refine hK (y + 1) (by omega) (by omega) _ _ (Sub.pt ?_)
    simp -implicitDefEqProofs only [push_cast, false_implies, reduceCtorEq, Classical.not_not, Nat.reduceAdd, Nat.reduceSub, Nat.reduceMul, Nat.reduceLeDiff, Nat.reduceLT, Nat.reduceEqDiff, Nat.reduceBEq, Nat.reduceBNe, Int.reduceNeg, Int.reduceToNat, Bool.or_false, Bool.false_or, Bool.or_true, Bool.true_or, BEq.rfl, Bool.not_eq_true, Bool.not_eq_false, decide_eq_true_eq, not_true_eq_false, not_false_eq_true, ite_true, ite_false, List.append_nil, and_assoc, Nat.mul_zero, Nat.zero_mul]
  · obtain rfl : y = h := by omega
    refine postF.mk' (fun _ => default) [some 0, some 1] ?_
    simp -implicitDefEqProofs only [push_cast, false_implies, reduceCtorEq, Classical.not_not, Nat.reduceAdd, Nat.reduceSub, Nat.reduceMul, Nat.reduceLeDiff, Nat.reduceLT, Nat.reduceEqDiff, Nat.reduceBEq, Nat.reduceBNe, Int.reduceNeg, Int.reduceToNat, Bool.or_false, Bool.false_or, Bool.or_true, Bool.true_or, BEq.rfl, Bool.not_eq_true, Bool.not_eq_false, decide_eq_true_eq, not_true_eq_false, not_false_eq_true, ite_true, ite_false, List.append_nil, and_assoc, Nat.mul_zero, Nat.zero_mul, fs53u]
def ent53u : Entry := spOf fs53u inv53u
theorem e53u : EntryOk Try.prog 53 ent53u := entry_of ok53u inv53u
@[push_cast] theorem ent53u_app (us : List SV) (look : Look) (x : Nat → Xf.Loc) (k : Nat) : ent53u us look x k = spOf fs53u inv53u us look x k := rfl
def fs54f : FS where
  A := RwA
  args := fun a => [.ptr 0 a.F 0 0 0, .int .i64 a.w, .int .i64 a.h, .fn 38 []]
  mem := fun a => [some (.ro, a.F, .cells [.int .i64 a.W, .sl 1 a.LP 1 0 a.ws.length, .int .i64 a.kind]), some (.lent, a.LP, .ints .i64 a.ws)]
  pre := fun a => (a.kind = 0 ∨ a.kind = 1) ∧ a.ws.length ≤ 8192 ∧ a.W ≤ 200 ∧ a.w ≤ a.W ∧ a.h ≤ 200 ∧ a.h * a.W ≤ a.ws.length ∧ AllIn (-357913941) 357913941 a.ws
  res := fun a x => .tup []
  out := fun a _ => [none, some (some (.ints .i64 (clL lineL a.kind a.W a.h a.ws a.w)))]
  new := fun _ _ => []
def inv54f : List SV → Look → Option (RwA × List Nat)
  | [.ptr c _ _ _ _, .int .i64 w, .int .i64 h, .fn 38 []], look => match rowC (look c) with
    | some (F, [.int .i64 W, .sl c1 _ 1 0 _, .int .i64 kind]) => match rowI (look c1) with
      | some (LP, .i64, ws) => some (⟨F, LP, W.toNat, kind, ws, w.toNat, h.toNat⟩, [c, c1])
      | _ => none
    | _ => none
  | _, _ => none
attribute [push_cast] inv54f
theorem ok54f : FSOk Try.prog 54 fs54f := by
  refine ⟨⟨_, Try.func54, by kernel_rfl, by kernel_rfl⟩, fun a => ⟨by simp [fs54f, push_cast, noMine, argOwn, Chunk.frArg], by simp [fs54f, push_cast, outOk, Chunk.ext], fun x => .inl (by simp [fs54f, push_cast, frNew, frOut, Chunk.fr])⟩, fun a hp => ?_⟩
  obtain ⟨F, LP, W, kind, ws, w, h⟩ := a
  obtain ⟨hk, h1, h2, h3, h4, h5, h6⟩ : (kind = 0 ∨ kind = 1) ∧ ws.length ≤ 8192 ∧ W ≤ 200 ∧ w ≤ W ∧ h ≤ 200 ∧ h * W ≤ ws.length ∧ AllIn (-357913941) 357913941 ws := hp
  change Tri Try.prog 54 [.ptr 0 F 0 0 0, .int .i64 w, .int .i64 h, .fn 38 []] [some (.ro, F, .cells [.int .i64 W, .sl 1 LP 1 0 ws.length, .int .i64 kind]), some (.lent, LP, .ints .i64 ws)] (postF fs54f ⟨F, LP, W, kind, ws, w, h⟩)
  refine tri_evS (hyp (l := [(68, ent68f)]) (lp := []) ⟨e68f, trivial⟩ trivial) Try.func54 comp54 (rs := []) (by rfl) Try.ntmps54 14 ?_
  simp -implicitDefEqProofs only [push_cast, false_implies, reduceCtorEq, Classical.not_not, Nat.reduceAdd, Nat.reduceSub, Nat.reduceMul, Nat.reduceLeDiff, Nat.reduceLT, Nat.reduceEqDiff, Nat.reduceBEq, Nat.reduceBNe, Int.reduceNeg, Int.reduceToNat, Bool.or_false, Bool.false_or, Bool.or_true, Bool.true_or, BEq.rfl, Bool.not_eq_true, Bool.not_eq_false, decide_eq_true_eq, not_true_eq_false, not_false_eq_true, ite_true, ite_false, List.append_nil, and_assoc, Nat.mul_zero, Nat.zero_mul, ir54]
  refine evS_loopU (A := Nat) kp54_1 kl54_1 (fun y => [(10, .int .i64 y)]) (fun y => [(1, .lent, LP, .ints .i64 (clL lineL kind W h ws y))]) (fun y => y ≤ w) (fun y => w - y) 0 (by omega) (Sub.pt ?_) ?_
  · simp -implicitDefEqProofs only [push_cast, false_implies, reduceCtorEq, Classical.not_not, Nat.reduceAdd, Nat.reduceSub, Nat.reduceMul, Nat.reduceLeDiff, Nat.reduceLT, Nat.reduceEqDiff, Nat.reduceBEq, Nat.reduceBNe, Int.reduceNeg, Int.reduceToNat, Bool.or_false, Bool.false_or, Bool.or_true, Bool.true_or, BEq.rfl, Bool.not_eq_true, Bool.not_eq_false, decide_eq_true_eq, not_true_eq_false, not_false_eq_true, ite_true, ite_false, List.append_nil, and_assoc, Nat.mul_zero, Nat.zero_mul, clL]
  intro y (hy : y ≤ w) K hK
  have lQ : (clL lineL kind W h ws y).length = ws.length := clL_length ..
  have hB := clL_bd trn_line (kind := kind) h5 (m := y) (Nat.le_trans hy h3) h6 (by omega)
  rw [show (3 * 357913941 + 1 : Int) = 1073741824 by decide] at hB
  simp -implicitDefEqProofs only [push_cast, false_implies, reduceCtorEq, Classical.not_not, Nat.reduceAdd, Nat.reduceSub, Nat.reduceMul, Nat.reduceLeDiff, Nat.reduceLT, Nat.reduceEqDiff, Nat.reduceBEq, Nat.reduceBNe, Int.reduceNeg, Int.reduceToNat, Bool.or_false, Bool.false_or, Bool.or_true, Bool.true_or, BEq.rfl, Bool.not_eq_true, Bool.not_eq_false, decide_eq_true_eq, not_true_eq_false, not_false_eq_true, ite_true, ite_false, List.append_nil, and_assoc, Nat.mul_zero, Nat.zero_mul, b54_1, fs68f, lQ]
  refine ⟨fun hl => ?_, fun hl => ?_⟩
  · have hy' : y < w := by omega
    have hin : ∀ i : Nat, i < h → (y : Int) + i * W < ws.length := fun i hi => by
      have h7 : (i + 1) * W ≤ ws.length := Nat.le_trans (Nat.mul_le_mul_right _ hi) h5
      have h8 : (((i + 1) * W : Nat) : Int) = (i : Int) * W + W := by rw [Nat.add_mul]; simp
      omega
    have q : alS (lineL kind h (fun j => rd (tabl h (alG (clL lineL kind W h ws y) (y : Int) W)) j)) (clL lineL kind W h ws y) (y : Int) W h = clL lineL kind W h ws (y + 1) := rfl
    simp only [Int.toNat_natCast, q]
    repeat (refine And.intro (by first | omega | trivial | (intros; omega)) ?_)
    refine hK (y + 1) (by omega) (by omega) _ _ (Sub.pt ?_)
    simp -implicitDefEqProofs only [push_cast, false_implies, reduceCtorEq, Classical.not_not, Nat.reduceAdd, Nat.reduceSub, Nat.reduceMul, Nat.reduceLeDiff, Nat.reduceLT, Nat.reduceEqDiff, Nat.reduceBEq, Nat.reduceBNe, Int.reduceNeg, Int.reduceToNat, Bool.or_false, Bool.false_or, Bool.or_true, Bool.true_or, BEq.rfl, Bool.not_eq_true, Bool.not_eq_false, decide_eq_true_eq, not_true_eq_false, not_false_eq_true, ite_true, ite_false, List.append_nil, and_assoc, Nat.mul_zero, Nat.zero_mul]
  · obtain rfl : y = w := by omega
    refine postF.mk' (fun _ => default) [some 0, some 1] ?_
    simp -implicitDefEqProofs only [push_cast, false_implies, reduceCtorEq, Classical.not_not, Nat.reduceAdd, Nat.reduceSub, Nat.reduceMul, Nat.reduceLeDiff, Nat.reduceLT, Nat.reduceEqDiff, Nat.reduceBEq, Nat.reduceBNe, Int.reduceNeg, Int.reduceToNat, Bool.or_false, Bool.false_or, Bool.or_true, Bool.true_or, BEq.rfl, Bool.not_eq_true, Bool.not_eq_false, decide_eq_true_eq, not_true_eq_false, not_false_eq_true, ite_true, ite_false, List.append_nil, and_assoc, Nat.mul_zero, Nat.zero_mul, fs54f]
def ent54f : Entry := spOf fs54f inv54f
theorem e54f : EntryOk Try.prog 54 ent54f := entry_of ok54f inv54f
@[push_cast] theorem ent54f_app (us : List SV) (look : Look) (x : Nat → Xf.Loc) (k : Nat) : ent54f us look x k = spOf fs54f inv54f us look x k := rfl
def fs54u : FS where
  A := RwA
  args := fun a => [.ptr 0 a.F 0 0 0, .int .i64 a.w, .int .i64 a.h, .fn 39 []]
  mem := fun a => [some (.ro, a.F, .cells [.int .i64 a.W, .sl 1 a.LP 1 0 a.ws.length, .int .i64 a.kind]), some (.lent, a.LP, .ints .i64 a.ws)]
  pre := fun a => (a.kind = 0 ∨ a.kind = 1) ∧ a.ws.length ≤ 8192 ∧ a.W ≤ 200 ∧ a.w ≤ a.W ∧ a.h ≤ 200 ∧ a.h * a.W ≤ a.ws.length ∧ AllIn (-375299968947541) 375299968947541 a.ws
  res := fun a x => .tup []
  out := fun a _ => [none, some (some (.ints .i64 (clL unL a.kind a.W a.h a.ws a.w)))]
  new := fun _ _ => []
def inv54u : List SV → Look → Option (RwA × List Nat)
  | [.ptr c _ _ _ _, .int .i64 w, .int .i64 h, .fn 39 []], look => match rowC (look c) with
    | some (F, [.int .i64 W, .sl c1 _ 1 0 _, .int .i64 kind]) => match rowI (look c1) with
      | some (LP, .i64, ws) => some (⟨F, LP, W.toNat, kind, ws, w.toNat, h.toNat⟩, [c, c1])
      | _ => none
    | _ => none
  | _, _ => none
attribute [push_cast] inv54u
theorem ok54u : FSOk Try.prog 54 fs54u := by
  refine ⟨⟨_, Try.func54, by kernel_rfl, by kernel_rfl⟩, fun a => ⟨by simp [fs54u, push_cast, noMine, argOwn, Chunk.frArg], by simp [fs54u, push_cast, outOk, Chunk.ext], fun x => .inl (by simp [fs54u, push_cast, frNew, frOut, Chunk.fr])⟩, fun a hp => ?_⟩
  obtain ⟨F, LP, W, kind, ws, w, h⟩ := a
  obtain ⟨hk, h1, h2, h3, h4, h5, h6⟩ : (kind = 0 ∨ kind = 1) ∧ ws.length ≤ 8192 ∧ W ≤ 200 ∧ w ≤ W ∧ h ≤ 200 ∧ h * W ≤ ws.length ∧ AllIn (-375299968947541) 375299968947541 ws := hp
  change Tri Try.prog 54 [.ptr 0 F 0 0 0, .int .i64 w, .int .i64 h, .fn 39 []] [some (.ro, F, .cells [.int .i64 W, .sl 1 LP 1 0 ws.length, .int .i64 kind]), some (.lent, LP, .ints .i64 ws)] (postF fs54u ⟨F, LP, W, kind, ws, w, h⟩)
  refine tri_evS (hyp (l := [(68, ent68u)]) (lp := []) ⟨e68u, trivial⟩ trivial) Try.func54 comp54 (rs := []) (by rfl) Try.ntmps54 14 ?_
  simp -implicitDefEqProofs only [push_cast, false_implies, reduceCtorEq, Classical.not_not, Nat.reduceAdd, Nat.reduceSub, Nat.reduceMul, Nat.reduceLeDiff, Nat.reduceLT, Nat.reduceEqDiff, Nat.reduceBEq, Nat.reduceBNe, Int.reduceNeg, Int.reduceToNat, Bool.or_false, Bool.false_or, Bool.or_true, Bool.true_or, BEq.rfl, Bool.not_eq_true, Bool.not_eq_false, decide_eq_true_eq, not_true_eq_false, not_false_eq_true, ite_true, ite_false, List.append_nil, and_assoc, Nat.mul_zero, Nat.zero_mul, ir54]
  refine evS_loopU (A := Nat) kp54_1 kl54_1 (fun y => [(10, .int .i64 y)]) (fun y => [(1, .lent, LP, .ints .i64 (clL unL kind W h ws y))]) (fun y => y ≤ w) (fun y => w - y) 0 (by omega) (Sub.pt ?_) ?_
  · simp -implicitDefEqProofs only [push_cast, false_implies, reduceCtorEq, Classical.not_not, Nat.reduceAdd, Nat.reduceSub, Nat.reduceMul, Nat.reduceLeDiff, Nat.reduceLT, Nat.reduceEqDiff, Nat.reduceBEq, Nat.reduceBNe, Int.reduceNeg, Int.reduceToNat, Bool.or_false, Bool.false_or, Bool.or_true, Bool.true_or, BEq.rfl, Bool.not_eq_true, Bool.not_eq_false, decide_eq_true_eq, not_true_eq_false, not_false_eq_true, ite_true, ite_false, List.append_nil, and_assoc, Nat.mul_zero, Nat.zero_mul, clL]
  intro y (hy : y ≤ w) K hK
  have lQ : (clL unL kind W h ws y).length = ws.length := clL_length ..
  have hB := clL_bd trn_unline (kind := kind) h5 (m := y) (Nat.le_trans hy h3) h6 (by omega)
  rw [show (3 * 375299968947541 + 1 : Int) = 1125899906842624 by decide] at hB
  simp -implicitDefEqProofs only [push_cast, false_implies, reduceCtorEq, Classical.not_not, Nat.reduceAdd, Nat.reduceSub, Nat.reduceMul, Nat.reduceLeDiff, Nat.reduceLT, Nat.reduceEqDiff, Nat.reduceBEq, Nat.reduceBNe, Int.reduceNeg, Int.reduceToNat, Bool.or_false, Bool.false_or, Bool.or_true, Bool.true_or, BEq.rfl, Bool.not_eq_true, Bool.not_eq_false, decide_eq_true_eq, not_true_eq_false, not_false_eq_true, ite_true, ite_false, List.append_nil, and_assoc, Nat.mul_zero, Nat.zero_mul, b54_1, fs68u, lQ]
  refine ⟨fun hl => ?_, fun hl => ?_⟩
  · have hy' : y < w := by omega
    have hin : ∀ i : Nat, i < h → (y : Int) + i * W < ws.length := fun i hi => by
      have h7 : (i + 1) * W ≤ ws.length := Nat.le_trans (Nat.mul_le_mul_right _ hi) h5
      have h8 : (((i + 1) * W : Nat) : Int) = (i : Int) * W + W := by rw [Nat.add_mul]; simp
      omega
    have q : alS (unL kind h (fun j => rd (tabl h (alG (clL unL kind W h ws y) (y : Int) W)) j)) (clL unL kind W h ws y) (y : Int) W h = clL unL kind W h ws (y + 1) := rfl
    simp only [Int.toNat_natCast, q]
    repeat (refine And.intro (by first | omega | trivial | (intros; omega)) ?_)
    refine hK (y + 1) (by omega) (by omega) _ _ (Sub.pt ?_)
    simp -implicitDefEqProofs only [push_cast, false_implies, reduceCtorEq, Classical.not_not, Nat.reduceAdd, Nat.reduceSub, Nat.reduceMul, Nat.reduceLeDiff, Nat.reduceLT, Nat.reduceEqDiff, Nat.reduceBEq, Nat.reduceBNe, Int.reduceNeg, Int.reduceToNat, Bool.or_false, Bool.false_or, Bool.or_true, Bool.true_or, BEq.rfl, Bool.not_eq_true, Bool.not_eq_false, decide_eq_true_eq, not_true_eq_false, not_false_eq_true, ite_true, ite_false, List.append_nil, and_assoc, Nat.mul_zero, Nat.zero_mul]
  · obtain rfl : y = w := by omega
    refine postF.mk' (fun _ => default) [some 0, some 1] ?_
    simp -implicitDefEqProofs only [push_cast, false_implies, reduceCtorEq, Classical.not_not, Nat.reduceAdd, Nat.reduceSub, Nat.reduceMul, Nat.reduceLeDiff, Nat.reduceLT, Nat.reduceEqDiff, Nat.reduceBEq, Nat.reduceBNe, Int.reduceNeg, Int.reduceToNat, Bool.or_false, Bool.false_or, Bool.or_true, Bool.true_or, BEq.rfl, Bool.not_eq_true, Bool.not_eq_false, decide_eq_true_eq, not_true_eq_false, not_false_eq_true, ite_true, ite_false, List.append_nil, and_assoc, Nat.mul_zero, Nat.zero_mul, fs54u]
def ent54u : Entry := spOf fs54u inv54u
theorem e54u : EntryOk Try.prog 54 ent54u := entry_of ok54u inv54u
@[push_cast] theorem ent54u_app (us : List SV) (look : Look) (x : Nat → Xf.Loc) (k : Nat) : ent54u us look x k = spOf fs54u inv54u us look x k := rfl
def b47_1 : IR :=
  .seq (.reg false [⟨some 10, none, ⟨[], []⟩, .bin 0 .lss (.t 9) (.t 8)⟩] [] []) (.seq (.cond (.t 10) (.skip) (.exit 0)) (.seq (.block 1 (.seq (.reg false [⟨some 11, none, ⟨[], []⟩, .mov (.t 7)⟩,
    ⟨some 12, none, ⟨[], []⟩, .mov (.t 0)⟩,
    ⟨some 13, none, ⟨[], []⟩, .mov (.t 1)⟩,
    ⟨some 14, none, ⟨[], []⟩, .build [.int .i64 0, .int .i64 0] [(0, 1, .t 12), (1, 1, .t 13)]⟩,
    ⟨some 15, none, ⟨[], []⟩, .brecs 10 2 .i64 [.t 14]⟩,
    ⟨some 16, none, ⟨[], []⟩, .app 11 2 16 (.t 11) (.t 15)⟩,
    ⟨some 7, none, ⟨[], []⟩, .mov (.t 16)⟩] [10, 11, 12, 13, 14, 15, 16] []) (.reg false [⟨some 17, none, ⟨[], []⟩, .mov (.t 0)⟩,
    ⟨some 18, none, ⟨[], []⟩, .bin 0 .add (.t 17) (.k (.int .i64 1))⟩,
    ⟨some 19, none, ⟨[], []⟩, .bin 0 .quo (.t 18) (.k (.int .i64 2))⟩,
    ⟨some 20, none, ⟨[], []⟩, .mov (.t 1)⟩,
    ⟨some 21, none, ⟨[], []⟩, .bin 0 .add (.t 20) (.k (.int .i64 1))⟩,
    ⟨some 22, none, ⟨[], []⟩, .bin 0 .quo (.t 21) (.k (.int .i64 2))⟩,
    ⟨some 0, none, ⟨[], []⟩, .mov (.t 19)⟩,
    ⟨some 1, none, ⟨[], []⟩, .mov (.t 22)⟩] [17, 18, 19, 20, 21, 22] []))) (.reg false [⟨some 23, none, ⟨[], []⟩, .bin 0 .add (.t 9) (.k (.int .i64 1))⟩,
    ⟨some 9, none, ⟨[], []⟩, .mov (.t 23)⟩] [23] [])))
def r47_2 : IR :=
  .seq (.reg false [⟨some 24, none, ⟨[], []⟩, .mov (.t 7)⟩,
    ⟨some 6, none, ⟨[], []⟩, .mov (.t 24)⟩] [0, 1, 7, 8, 9, 24] []) (.ret)
def ir47 : IR :=
  .seq (.reg false [⟨some 6, none, ⟨[], []⟩, .mov (.k nilSV)⟩] [6] []) (.seq (.reg false [⟨some 7, none, ⟨[], []⟩, .mov (.k nilSV)⟩] [] []) (.seq (.seq (.reg false [⟨some 8, none, ⟨[], []⟩, .mov (.t 2)⟩,
    ⟨some 9, none, ⟨[], []⟩, .mov (.k (.int .i64 0))⟩] [2] []) (.block 0 (.loop b47_1))) (r47_2)))
def kp47_1 : List Nat := [0, 1, 7, 8, 9]
def kl47_1 : List Nat := [10, 11]
attribute [push_cast] kp47_1 kl47_1
set_option maxRecDepth 4000 in
theorem comp47 : (Try.f47.body.bind fun c => compC tab isP chkAll ir47 c) = some ir47 := by kernel_rfl
/-- Records by their places. -/
def tabR (n : Nat) (g : Nat → List RC) : List (List RC) := (List.range n).map g
theorem tabR_length (n : Nat) (g : Nat → List RC) : (tabR n g).length = n := by simp [tabR]
theorem tabR_zero (g : Nat → List RC) : tabR 0 g = [] := rfl
theorem tabR_snoc (n : Nat) (g : Nat → List RC) : tabR n g ++ [g n] = tabR (n + 1) g := by simp [tabR, List.range_succ]
theorem recAt_tabR {n i : Nat} (h : i < n) (g : Nat → List RC) (z : List RC) : recAt (i : Int) z (tabR n g) = g i := by
  simp [recAt, tabR, h]
/-- How many cells an element of a slice has that is nil at first. -/
def esz (s : Nat) : Nat → Nat
  | 0 => 1
  | _ + 1 => s
theorem esz_pos {s n : Nat} (h : 0 < n) : esz s n = s := by cases n; omega; rfl
def sdR (w h : Nat) (i : Nat) : List RC := [.int .i64 (hlf w i), .int .i64 (hlf h i)]
structure SdA where
  w : Nat
  h : Nat
  n : Nat
def fs47 : FS where
  A := SdA
  args := fun a => [.int .i64 a.w, .int .i64 a.h, .int .i64 a.n]
  mem := fun _ => []
  pre := fun a => a.w ≤ 200 ∧ a.h ≤ 200 ∧ a.n ≤ 7
  res := fun a x => .sl 0 (lx (0 < a.n) x 0) (esz 2 a.n) 0 a.n
  out := fun _ _ => []
  new := fun a x => [(lx (0 < a.n) x 0, .recs 2 true [] (tabR a.n (sdR a.w a.h)))]
def inv47 : List SV → Look → Option (SdA × List Nat)
  | [.int .i64 w, .int .i64 h, .int .i64 n], look => some (⟨w.toNat, h.toNat, n.toNat⟩, [])
  | _, _ => none
attribute [push_cast] inv47
theorem hlf_succ (w i : Nat) : ((hlf w i : Int) + 1) / 2 = (hlf w (i + 1) : Int) := by simp only [hlf]; omega
theorem ok47 : FSOk Try.prog 47 fs47 := by
  refine ⟨⟨_, Try.func47, by kernel_rfl, by kernel_rfl⟩, fun a => ⟨by simp [fs47, push_cast, noMine, argOwn, Chunk.frArg], by simp [fs47, push_cast, outOk, Chunk.ext], fun x => .inl (by simp [fs47, push_cast, frNew, frOut, Chunk.fr])⟩, fun a hp => ?_⟩
  obtain ⟨w, h, n⟩ := a
  obtain ⟨h1, h2, h3⟩ : w ≤ 200 ∧ h ≤ 200 ∧ n ≤ 7 := hp
  change Tri Try.prog 47 [.int .i64 w, .int .i64 h, .int .i64 n] [] (postF fs47 ⟨w, h, n⟩)
  refine tri_evS (hyp (l := []) (lp := []) trivial trivial) Try.func47 comp47 (rs := [.tmp 6]) (by rfl) Try.ntmps47 12 ?_
  simp -implicitDefEqProofs only [push_cast, false_implies, reduceCtorEq, Classical.not_not, Nat.reduceAdd, Nat.reduceSub, Nat.reduceMul, Nat.reduceLeDiff, Nat.reduceLT, Nat.reduceEqDiff, Nat.reduceBEq, Nat.reduceBNe, Int.reduceNeg, Int.reduceToNat, Bool.or_false, Bool.false_or, Bool.or_true, Bool.true_or, BEq.rfl, Bool.not_eq_true, Bool.not_eq_false, decide_eq_true_eq, not_true_eq_false, not_false_eq_true, ite_true, ite_false, List.append_nil, and_assoc, Nat.mul_zero, Nat.zero_mul, ir47]
  refine evS_loopU (A := Nat × Xf.Loc) kp47_1 kl47_1 (fun y => [(0, .int .i64 (hlf w y.1)), (1, .int .i64 (hlf h y.1)), (7, .sl 11 y.2 (esz 2 y.1) 0 y.1), (9, .int .i64 y.1)]) (fun y => [(11, .mine, y.2, .recs 2 true [] (tabR y.1 (sdR w h)))])
    (fun y => y.1 ≤ n ∧ (y.1 = 0 → y.2 = nilLoc)) (fun y => n - y.1) (0, nilLoc) ⟨Nat.zero_le _, fun _ => rfl⟩ (Sub.pt ?_) ?_
  · simp -implicitDefEqProofs only [push_cast, false_implies, reduceCtorEq, Classical.not_not, Nat.reduceAdd, Nat.reduceSub, Nat.reduceMul, Nat.reduceLeDiff, Nat.reduceLT, Nat.reduceEqDiff, Nat.reduceBEq, Nat.reduceBNe, Int.reduceNeg, Int.reduceToNat, Bool.or_false, Bool.false_or, Bool.or_true, Bool.true_or, BEq.rfl, Bool.not_eq_true, Bool.not_eq_false, decide_eq_true_eq, not_true_eq_false, not_false_eq_true, ite_true, ite_false, List.append_nil, and_assoc, Nat.mul_zero, Nat.zero_mul, hlf, esz, tabR_zero]
  intro ⟨i, N⟩ ⟨(hi : i ≤ n), (hN : i = 0 → N = nilLoc)⟩ K hK
  simp -implicitDefEqProofs only [push_cast, false_implies, reduceCtorEq, Classical.not_not, Nat.reduceAdd, Nat.reduceSub, Nat.reduceMul, Nat.reduceLeDiff, Nat.reduceLT, Nat.reduceEqDiff, Nat.reduceBEq, Nat.reduceBNe, Int.reduceNeg, Int.reduceToNat, Bool.or_false, Bool.false_or, Bool.or_true, Bool.true_or, BEq.rfl, Bool.not_eq_true, Bool.not_eq_false, decide_eq_true_eq, not_true_eq_false, not_false_eq_true, ite_true, ite_false, List.append_nil, and_assoc, Nat.mul_zero, Nat.zero_mul, b47_1, r47_2]
  have b1 := hlf_le w i
  have b2 := hlf_le h i
  have b3 := hlf_succ w i
  have b4 := hlf_succ h i
  refine ⟨fun hl => ?_, fun hl => ?_⟩
  · simp only [tabR_length]
    intro X
    repeat (refine And.intro (by first | omega | trivial | (intros; omega)) ?_)
    rw [b3, b4]
    refine hK (i + 1, X 5 11) ⟨show i + 1 ≤ n by omega, fun q => absurd q (Nat.succ_ne_zero i)⟩ (show n - (i + 1) < n - i by omega) _ _ (Sub.pt ?_)
    have q : tabR i (sdR w h) ++ [[.int .i64 (hlf w i), .int .i64 (hlf h i)]] = tabR (i + 1) (sdR w h) := tabR_snoc i (sdR w h)
    simp -implicitDefEqProofs only [push_cast, false_implies, reduceCtorEq, Classical.not_not, Nat.reduceAdd, Nat.reduceSub, Nat.reduceMul, Nat.reduceLeDiff, Nat.reduceLT, Nat.reduceEqDiff, Nat.reduceBEq, Nat.reduceBNe, Int.reduceNeg, Int.reduceToNat, Bool.or_false, Bool.false_or, Bool.or_true, Bool.true_or, BEq.rfl, Bool.not_eq_true, Bool.not_eq_false, decide_eq_true_eq, not_true_eq_false, not_false_eq_true, ite_true, ite_false, List.append_nil, and_assoc, Nat.mul_zero, Nat.zero_mul, esz, q]
  · obtain rfl : i = n := by omega
    refine postF.mk' (fun _ => N) [some 11] ?_
    by_cases h0 : 0 < i
    · simp -implicitDefEqProofs only [push_cast, false_implies, reduceCtorEq, Classical.not_not, Nat.reduceAdd, Nat.reduceSub, Nat.reduceMul, Nat.reduceLeDiff, Nat.reduceLT, Nat.reduceEqDiff, Nat.reduceBEq, Nat.reduceBNe, Int.reduceNeg, Int.reduceToNat, Bool.or_false, Bool.false_or, Bool.or_true, Bool.true_or, BEq.rfl, Bool.not_eq_true, Bool.not_eq_false, decide_eq_true_eq, not_true_eq_false, not_false_eq_true, ite_true, ite_false, List.append_nil, and_assoc, Nat.mul_zero, Nat.zero_mul, fs47, h0, if_true, lx]
    · obtain rfl : i = 0 := by omega
      obtain rfl := hN rfl
      simp -implicitDefEqProofs only [push_cast, false_implies, reduceCtorEq, Classical.not_not, Nat.reduceAdd, Nat.reduceSub, Nat.reduceMul, Nat.reduceLeDiff, Nat.reduceLT, Nat.reduceEqDiff, Nat.reduceBEq, Nat.reduceBNe, Int.reduceNeg, Int.reduceToNat, Bool.or_false, Bool.false_or, Bool.or_true, Bool.true_or, BEq.rfl, Bool.not_eq_true, Bool.not_eq_false, decide_eq_true_eq, not_true_eq_false, not_false_eq_true, ite_true, ite_false, List.append_nil, and_assoc, Nat.mul_zero, Nat.zero_mul, fs47, h0, if_false, lx]
def ent47 : Entry := spOf fs47 inv47
theorem e47 : EntryOk Try.prog 47 ent47 := entry_of ok47 inv47
@[push_cast] theorem ent47_app (us : List SV) (look : Look) (x : Nat → Xf.Loc) (k : Nat) : ent47 us look x k = spOf fs47 inv47 us look x k := rfl
def ir51 : IR :=
  .seq (.reg false [⟨some 3, none, ⟨[], []⟩, .box 10 (.t 0)⟩,
    ⟨some 6, none, ⟨[], []⟩, .mov (.k (.int .i64 0))⟩] [0, 6] []) (.seq (.block 0 (.seq (.reg false [⟨some 8, none, ⟨[], []⟩, .ld false (some 3) 0 0 (.t 3)⟩,
    ⟨some 9, none, ⟨[], []⟩, .call (some 4) 11 60 [.t 8]⟩,
    ⟨some 10, none, ⟨[], []⟩, .not (.t 9)⟩,
    ⟨some 7, none, ⟨[], []⟩, .mov (.t 10)⟩] [3, 8, 9, 10] []) (.cond (.t 7) (.seq (.reg false [⟨some 6, none, ⟨[], []⟩, .mov (.k (.int .i64 70))⟩] [1, 2, 7] []) (.ret)) (.seq (.reg false [⟨some 12, none, ⟨[], []⟩, .mov (.t 1)⟩,
    ⟨some 13, none, ⟨[], []⟩, .callp 36 [.t 12]⟩,
    ⟨some 14, none, ⟨[], []⟩, .not (.t 13)⟩,
    ⟨some 15, none, ⟨[], []⟩, .mov (.t 14)⟩,
    ⟨some 16, some (15, false), ⟨[], []⟩, .mov (.t 2)⟩,
    ⟨some 17, some (15, false), ⟨[], []⟩, .bin 0 .lss (.t 16) (.k (.int .i64 0))⟩,
    ⟨some 18, none, ⟨[], []⟩, .pick (.t 15) (.k (.bool true)) (.t 17)⟩,
    ⟨some 19, none, ⟨[], []⟩, .mov (.t 18)⟩,
    ⟨some 20, some (19, false), ⟨[], []⟩, .mov (.t 2)⟩,
    ⟨some 21, some (19, false), ⟨[], []⟩, .bin 0 .gtr (.t 20) (.k (.int .i64 6))⟩,
    ⟨some 22, none, ⟨[], []⟩, .pick (.t 19) (.k (.bool true)) (.t 21)⟩,
    ⟨some 11, none, ⟨[], []⟩, .mov (.t 22)⟩] [1, 2, 7, 12, 13, 14, 15, 16, 17, 18, 19, 20, 21, 22] []) (.cond (.t 11) (.seq (.reg false [⟨some 6, none, ⟨[], []⟩, .mov (.k (.int .i64 2))⟩] [11] []) (.ret)) (.skip)))))) (.seq (.reg false [⟨some 6, none, ⟨[], []⟩, .mov (.k (.int .i64 0))⟩] [11] []) (.ret)))
set_option maxRecDepth 4000 in
theorem comp51 : (Try.f51.body.bind fun c => compC tab isP chkAll ir51 c) = some ir51 := by kernel_rfl
def b28_1 : IR :=
  .seq (.reg false [⟨some 41, none, ⟨[], []⟩, .bin 0 .lss (.t 40) (.t 39)⟩] [] []) (.seq (.cond (.t 41) (.skip) (.exit 0)) (.seq (.block 1 (.seq (.reg false [⟨some 42, none, ⟨[], []⟩, .idxS (.t 38) (.t 40) 2⟩,
    ⟨some 43, none, ⟨[], []⟩, .ld true (some 2) 0 0 (.t 42)⟩,
    ⟨some 11, none, ⟨[], []⟩, .allocI 29 .i64 2⟩,
    ⟨none, none, ⟨[], []⟩, .sto true 2 .i64 (.t 11) (.t 43)⟩] [41, 42, 43] []) (.seq (.reg false [⟨some 44, none, ⟨[], []⟩, .mov (.t 9)⟩,
    ⟨some 45, none, ⟨[], []⟩, .idxP (.t 11) (.k (.int .i64 0)) 2 1⟩,
    ⟨some 46, none, ⟨[], []⟩, .ld true none 0 0 (.t 45)⟩,
    ⟨some 47, none, ⟨[], []⟩, .idxP (.t 11) (.k (.int .i64 1)) 2 1⟩,
    ⟨some 48, none, ⟨[], []⟩, .ld true none 0 0 (.t 47)⟩,
    ⟨some 49, none, ⟨[], []⟩, .call none 30 53 [.t 44, .t 46, .t 48, .k (.fn 38 [])]⟩] [44, 45, 46, 47, 48, 49] []) (.reg false [⟨some 50, none, ⟨[], []⟩, .mov (.t 9)⟩,
    ⟨some 51, none, ⟨[], []⟩, .idxP (.t 11) (.k (.int .i64 0)) 2 1⟩,
    ⟨some 52, none, ⟨[], []⟩, .ld true none 0 0 (.t 51)⟩,
    ⟨some 53, none, ⟨[], []⟩, .idxP (.t 11) (.k (.int .i64 1)) 2 1⟩,
    ⟨some 54, none, ⟨[], []⟩, .ld true none 0 0 (.t 53)⟩,
    ⟨some 55, none, ⟨[], []⟩, .call none 34 54 [.t 50, .t 52, .t 54, .k (.fn 38 [])]⟩] [11, 50, 51, 52, 53, 54, 55] [])))) (.reg false [⟨some 56, none, ⟨[], []⟩, .bin 0 .add (.t 40) (.k (.int .i64 1))⟩,
    ⟨some 40, none, ⟨[], []⟩, .mov (.t 56)⟩] [56] [])))
def r28_2 : IR :=
  .seq (.reg true [⟨some 57, none, ⟨[], []⟩, .fld (.t 3) 0⟩,
    ⟨some 58, none, ⟨[], []⟩, .ld false none 0 0 (.t 57)⟩,
    ⟨some 59, none, ⟨[], []⟩, .fld (.t 3) 1⟩,
    ⟨some 60, none, ⟨[], []⟩, .ld false none 0 0 (.t 59)⟩,
    ⟨some 61, none, ⟨[], []⟩, .mov (.t 9)⟩,
    ⟨some 62, none, ⟨[], []⟩, .nilc (.t 61)⟩,
    ⟨some 63, none, ⟨[], []⟩, .fld (.t 62) 1⟩,
    ⟨some 64, none, ⟨[], []⟩, .ld false none 0 0 (.t 63)⟩,
    ⟨some 65, none, ⟨[], []⟩, .build [.int .i64 0, .int .i64 0, nilSV] [(0, 1, .t 58), (1, 1, .t 60), (2, 1, .t 64)]⟩,
    ⟨none, none, ⟨[], []⟩, .sto false 3 .i64 (.t 6) (.t 65)⟩,
    ⟨some 7, none, ⟨[], []⟩, .mov (.k (.int .i64 0))⟩] [3, 9, 38, 39, 40, 57, 58, 59, 60, 61, 62, 63, 64, 65] []) (.ret)
def ir28 : IR :=
  .seq (.reg false [⟨some 3, none, ⟨[], []⟩, .box 10 (.t 0)⟩,
    ⟨some 6, none, ⟨[], []⟩, .alloc 11 [.int .i64 0, .int .i64 0, nilSV]⟩,
    ⟨some 7, none, ⟨[], []⟩, .mov (.k (.int .i64 0))⟩] [0, 7] []) (.seq (.seq (.reg false [⟨some 12, none, ⟨[], []⟩, .ld false (some 3) 0 0 (.t 3)⟩,
    ⟨some 13, none, ⟨[], []⟩, .mov (.t 1)⟩,
    ⟨some 14, none, ⟨[], []⟩, .mov (.t 2)⟩,
    ⟨some 15, none, ⟨[], []⟩, .call (some 4) 12 51 [.t 12, .t 13, .t 14]⟩,
    ⟨some 8, none, ⟨[], []⟩, .mov (.t 15)⟩] [12, 13, 14, 15] []) (.seq (.reg false [⟨some 16, none, ⟨[], []⟩, .mov (.t 8)⟩,
    ⟨some 17, none, ⟨[], []⟩, .bin 0 .neq (.t 16) (.k (.int .i64 0))⟩] [16] []) (.cond (.t 17) (.seq (.reg false [⟨some 18, none, ⟨[], []⟩, .build [.int .i64 0, .int .i64 0, nilSV] []⟩,
    ⟨some 19, none, ⟨[], []⟩, .mov (.t 8)⟩,
    ⟨none, none, ⟨[], []⟩, .sto false 3 .i64 (.t 6) (.t 18)⟩,
    ⟨some 7, none, ⟨[], []⟩, .mov (.t 19)⟩] [1, 2, 3, 8, 17, 18, 19] []) (.ret)) (.skip)))) (.seq (.seq (.reg false [⟨some 20, none, ⟨[], []⟩, .fld (.t 3) 2⟩,
    ⟨some 21, none, ⟨[], []⟩, .ld false none 0 0 (.t 20)⟩,
    ⟨some 22, none, ⟨[], []⟩, .call (some 4) 16 37 [.t 21, .k (.int .i64 1024)]⟩,
    ⟨some 23, none, ⟨[], []⟩, .not (.t 22)⟩] [7, 8, 17, 20, 21, 22] []) (.cond (.t 23) (.seq (.reg false [⟨some 24, none, ⟨[], []⟩, .build [.int .i64 0, .int .i64 0, nilSV] []⟩,
    ⟨none, none, ⟨[], []⟩, .sto false 3 .i64 (.t 6) (.t 24)⟩,
    ⟨some 7, none, ⟨[], []⟩, .mov (.k (.int .i64 2))⟩] [1, 2, 3, 23, 24] []) (.ret)) (.skip))) (.seq (.reg true [⟨some 25, none, ⟨[], []⟩, .fld (.t 3) 0⟩,
    ⟨some 26, none, ⟨[20, 21, 22, 23], []⟩, .ld false none 0 0 (.t 25)⟩,
    ⟨some 27, none, ⟨[], []⟩, .fld (.t 3) 2⟩,
    ⟨some 28, none, ⟨[], []⟩, .ld false none 0 0 (.t 27)⟩,
    ⟨some 29, none, ⟨[], []⟩, .call (some 4) 20 52 [.t 28]⟩,
    ⟨some 30, none, ⟨[], []⟩, .mov (.t 1)⟩,
    ⟨some 31, none, ⟨[], []⟩, .build [.int .i64 0, nilSV, .int .i64 0] [(0, 1, .t 26), (1, 1, .t 29), (2, 1, .t 30)]⟩,
    ⟨some 32, none, ⟨[], []⟩, .box 24 (.t 31)⟩,
    ⟨some 9, none, ⟨[], []⟩, .mov (.t 32)⟩] [1, 7, 23, 25, 26, 27, 28, 29, 30, 31, 32] []) (.seq (.seq (.reg false [⟨some 33, none, ⟨[], []⟩, .fld (.t 3) 0⟩,
    ⟨some 34, none, ⟨[], []⟩, .ld false none 0 0 (.t 33)⟩,
    ⟨some 35, none, ⟨[], []⟩, .fld (.t 3) 1⟩,
    ⟨some 36, none, ⟨[], []⟩, .ld false none 0 0 (.t 35)⟩,
    ⟨some 37, none, ⟨[], []⟩, .mov (.t 2)⟩,
    ⟨some 38, none, ⟨[], []⟩, .call (some 4) 25 47 [.t 34, .t 36, .t 37]⟩,
    ⟨some 39, none, ⟨[], []⟩, .len (.t 38)⟩,
    ⟨some 40, none, ⟨[], []⟩, .mov (.k (.int .i64 0))⟩] [2, 33, 34, 35, 36, 37] []) (.block 0 (.loop b28_1))) (r28_2)))))
def kp28_1 : List Nat := [3, 6, 9, 38, 39, 40]
def kl28_1 : List Nat := [29, 30, 31, 32, 33, 34, 35, 36, 37]
attribute [push_cast] kp28_1 kl28_1
set_option maxRecDepth 4000 in
theorem comp28 : (Try.f28.body.bind fun c => compC tab isP chkAll ir28 c) = some ir28 := by kernel_rfl
def stOk (kind n : Int) : Prop := (kind = 0 ∨ kind = 1) ∧ 0 ≤ n ∧ n ≤ 6
instance (kind n : Int) : Decidable (stOk kind n) := by unfold stOk; infer_instance
structure AskA where
  a : PlA
  kind : Int
  n : Int
def askE (p : Pl) (kind n : Int) : Int := if p.Ok then if stOk kind n then 0 else 2 else 70
def fs51 : FS where
  A := AskA
  args := fun a => [plV a.a.p a.a.L 0, .int .i64 a.kind, .int .i64 a.n]
  mem := fun a => [some (.ro, a.a.L, .ints .i64 a.a.p.xs)]
  pre := fun a => a.a.p.xs.length ≤ 140737488355328
  res := fun a x => .int .i64 (askE a.a.p a.kind a.n)
  out := fun _ _ => []
  new := fun _ _ => []
def inv51 : List SV → Look → Option (AskA × List Nat)
  | [v, .int .i64 k, .int .i64 n], look => match getP look v with
    | some (a, g) => some (⟨a, k, n⟩, g)
    | _ => none
  | _, _ => none
attribute [push_cast] inv51
theorem ok51 : FSOk Try.prog 51 fs51 := by
  refine ⟨⟨_, Try.func51, by kernel_rfl, by kernel_rfl⟩, fun a => ⟨by simp [fs51, push_cast, noMine, argOwn, Chunk.frArg], by simp [fs51, push_cast, outOk, Chunk.ext], fun x => .inl (by simp [fs51, push_cast, frNew, frOut, Chunk.fr])⟩, fun a hp => ?_⟩
  obtain ⟨⟨⟨w, h, xs⟩, L⟩, kind, n⟩ := a
  change xs.length ≤ 140737488355328 at hp
  change Tri Try.prog 51 [plV ⟨w, h, xs⟩ L 0, .int .i64 kind, .int .i64 n] [some (.ro, L, .ints .i64 xs)] (postF fs51 ⟨⟨⟨w, h, xs⟩, L⟩, kind, n⟩)
  refine tri_evS (hyp (l := [(60, ent60)]) (lp := [(36, kindF)]) ⟨e60, trivial⟩ ⟨p36, trivial⟩) Try.func51 comp51 (rs := [.tmp 6]) (by rfl) Try.ntmps51 15 ?_
  simp -implicitDefEqProofs only [push_cast, false_implies, reduceCtorEq, Classical.not_not, Nat.reduceAdd, Nat.reduceSub, Nat.reduceMul, Nat.reduceLeDiff, Nat.reduceLT, Nat.reduceEqDiff, Nat.reduceBEq, Nat.reduceBNe, Int.reduceNeg, Int.reduceToNat, Bool.or_false, Bool.false_or, Bool.or_true, Bool.true_or, BEq.rfl, Bool.not_eq_true, Bool.not_eq_false, decide_eq_true_eq, not_true_eq_false, not_false_eq_true, ite_true, ite_false, List.append_nil, and_assoc, Nat.mul_zero, Nat.zero_mul, ir51, fs60]
  refine fun X => ⟨hp, fun hn => ?_, fun hy => ⟨fun hb => ?_, fun hg => ?_⟩⟩
  · refine postF.mk' (fun _ => default) [some 0] ?_
    simp -implicitDefEqProofs only [push_cast, false_implies, reduceCtorEq, Classical.not_not, Nat.reduceAdd, Nat.reduceSub, Nat.reduceMul, Nat.reduceLeDiff, Nat.reduceLT, Nat.reduceEqDiff, Nat.reduceBEq, Nat.reduceBNe, Int.reduceNeg, Int.reduceToNat, Bool.or_false, Bool.false_or, Bool.or_true, Bool.true_or, BEq.rfl, Bool.not_eq_true, Bool.not_eq_false, decide_eq_true_eq, not_true_eq_false, not_false_eq_true, ite_true, ite_false, List.append_nil, and_assoc, Nat.mul_zero, Nat.zero_mul, fs51, askE, hn, if_false]
  · have e : ¬ stOk kind n := fun H => by obtain ⟨q1, q2, q3⟩ := H; simp [q1] at hb; omega
    refine postF.mk' (fun _ => default) [some 0] ?_
    simp -implicitDefEqProofs only [push_cast, false_implies, reduceCtorEq, Classical.not_not, Nat.reduceAdd, Nat.reduceSub, Nat.reduceMul, Nat.reduceLeDiff, Nat.reduceLT, Nat.reduceEqDiff, Nat.reduceBEq, Nat.reduceBNe, Int.reduceNeg, Int.reduceToNat, Bool.or_false, Bool.false_or, Bool.or_true, Bool.true_or, BEq.rfl, Bool.not_eq_true, Bool.not_eq_false, decide_eq_true_eq, not_true_eq_false, not_false_eq_true, ite_true, ite_false, List.append_nil, and_assoc, Nat.mul_zero, Nat.zero_mul, fs51, askE, hy, e, if_false, if_true]
  · have e : stOk kind n := ⟨Classical.byContradiction fun q => hg (.inl (.inl q)), Classical.byContradiction fun q => hg (.inl (.inr (by omega))), Classical.byContradiction fun q => hg (.inr (by omega))⟩
    refine postF.mk' (fun _ => default) [some 0] ?_
    simp -implicitDefEqProofs only [push_cast, false_implies, reduceCtorEq, Classical.not_not, Nat.reduceAdd, Nat.reduceSub, Nat.reduceMul, Nat.reduceLeDiff, Nat.reduceLT, Nat.reduceEqDiff, Nat.reduceBEq, Nat.reduceBNe, Int.reduceNeg, Int.reduceToNat, Bool.or_false, Bool.false_or, Bool.or_true, Bool.true_or, BEq.rfl, Bool.not_eq_true, Bool.not_eq_false, decide_eq_true_eq, not_true_eq_false, not_false_eq_true, ite_true, ite_false, List.append_nil, and_assoc, Nat.mul_zero, Nat.zero_mul, fs51, askE, hy, e, if_true]
def ent51 : Entry := spOf fs51 inv51
theorem e51 : EntryOk Try.prog 51 ent51 := entry_of ok51 inv51
@[push_cast] theorem ent51_app (us : List SV) (look : Look) (x : Nat → Xf.Loc) (k : Nat) : ent51 us look x k = spOf fs51 inv51 us look x k := rfl
def fwOk (p : Pl) (kind n : Int) : Prop := p.Ok ∧ stOk kind n ∧ AllIn (-1024) 1024 p.xs
instance (p : Pl) (kind n : Int) : Decidable (fwOk p kind n) := by unfold fwOk; infer_instance
def fwP (p : Pl) (kind n : Int) : Pl := if fwOk p kind n then ⟨p.w, p.h, fwd lineL kind p.w.toNat p.h.toNat p.xs n.toNat⟩ else pl0
def fwE (p : Pl) (kind n : Int) : Int := if fwOk p kind n then 0 else if p.Ok then 2 else 70
/-- The sides, as natural numbers. -/
theorem Pl.nat {w h : Int} {xs : List Int} (hs : SidesOk w h) (hl : (xs.length : Int) = w * h) : ∃ W H : Nat, w = W ∧ h = H ∧ W ≤ 200 ∧ H ≤ 200 ∧ xs.length = H * W ∧ xs.length ≤ 8192 := by
  obtain ⟨a1, a2, a3, a4, a5⟩ := id hs
  obtain ⟨W, rfl⟩ : ∃ n : Nat, w = (n : Int) := ⟨w.toNat, by omega⟩
  obtain ⟨H, rfl⟩ : ∃ n : Nat, h = (n : Int) := ⟨h.toNat, by omega⟩
  refine ⟨W, H, rfl, rfl, by omega, by omega, ?_, by omega⟩
  rw [Nat.mul_comm, ← Int.ofNat_inj]; simp only [Int.natCast_mul]; exact hl
theorem fwd_bd6 {kind : Int} {W H : Nat} {xs : List Int} (hl : xs.length = H * W) (h : AllIn (-1024) 1024 xs) {i : Nat} (hi : i ≤ 5) : AllIn (-357913941) 357913941 (fwd lineL kind W H xs i) ∧
    ∀ (w h : Nat), w ≤ W → h ≤ H → AllIn (-357913941) 357913941 (rwL lineL kind W w (fwd lineL kind W H xs i) h) := by
  have hB := fwd_bd trn_line (kind := kind) (W := W) (h := H) (by omega) h (by omega) i
  have h0 : (0 : Int) ≤ bnd 1024 i := bnd_pos (by omega) i
  have key : ∀ i : Nat, i ≤ 5 → 3 * bnd 1024 i + 1 ≤ 357913941 := by
    intro i hi
    have : i = 0 ∨ i = 1 ∨ i = 2 ∨ i = 3 ∨ i = 4 ∨ i = 5 := by omega
    rcases this with rfl | rfl | rfl | rfl | rfl | rfl <;> decide
  have k := key i hi
  have up : ∀ (B : Int) (ys : List Int), B ≤ 357913941 → AllIn (-B) B ys → AllIn (-357913941) 357913941 ys := fun B ys hB h n hn => by have := h n hn; omega
  refine ⟨up _ _ (by omega) hB, fun w h hw hh => up _ _ k (rwL_bd trn_line hw (by rw [fwd_length, hl]; exact Nat.mul_le_mul_right _ hh) hB h0)⟩
def fs28 : FS where
  A := AskA
  args := fun a => [plV a.a.p a.a.L 0, .int .i64 a.kind, .int .i64 a.n]
  mem := fun a => [some (.ro, a.a.L, .ints .i64 a.a.p.xs)]
  pre := fun a => a.a.p.xs.length ≤ 140737488355328
  res := fun a x => .tup [plV (fwP a.a.p a.kind a.n) (lx (fwOk a.a.p a.kind a.n) x 0) 1, .int .i64 (fwE a.a.p a.kind a.n)]
  out := fun _ _ => []
  new := fun a x => [(lx (fwOk a.a.p a.kind a.n) x 0, .ints .i64 (fwP a.a.p a.kind a.n).xs)]
theorem ok28 : FSOk Try.prog 28 fs28 := by
  refine ⟨⟨_, Try.func28, by kernel_rfl, by kernel_rfl⟩, fun a => ⟨by simp [fs28, push_cast, noMine, argOwn, Chunk.frArg], by simp [fs28, push_cast, outOk, Chunk.ext], fun x => .inl (by simp [fs28, push_cast, frNew, frOut, Chunk.fr])⟩, fun a hp => ?_⟩
  obtain ⟨⟨⟨w, h, xs⟩, L⟩, kind, n⟩ := a
  change xs.length ≤ 140737488355328 at hp
  change Tri Try.prog 28 [plV ⟨w, h, xs⟩ L 0, .int .i64 kind, .int .i64 n] [some (.ro, L, .ints .i64 xs)] (postF fs28 ⟨⟨⟨w, h, xs⟩, L⟩, kind, n⟩)
  refine tri_evS (hyp (l := [(51, ent51), (37, ent37), (52, ent52), (47, ent47), (53, ent53f), (54, ent54f)]) (lp := [])
    ⟨e51, e37, e52, e47, e53f, e54f, trivial⟩ trivial) Try.func28 comp28 (rs := [.cell 6 (some 3), .tmp 7]) (by rfl) Try.ntmps28 37 ?_
  simp -implicitDefEqProofs only [push_cast, false_implies, reduceCtorEq, Classical.not_not, Nat.reduceAdd, Nat.reduceSub, Nat.reduceMul, Nat.reduceLeDiff, Nat.reduceLT, Nat.reduceEqDiff, Nat.reduceBEq, Nat.reduceBNe, Int.reduceNeg, Int.reduceToNat, Bool.or_false, Bool.false_or, Bool.or_true, Bool.true_or, BEq.rfl, Bool.not_eq_true, Bool.not_eq_false, decide_eq_true_eq, not_true_eq_false, not_false_eq_true, ite_true, ite_false, List.append_nil, and_assoc, Nat.mul_zero, Nat.zero_mul, ir28, fs51, fs37]
  by_cases hO : (⟨w, h, xs⟩ : Pl).Ok ∧ stOk kind n
  · obtain ⟨hO, hS⟩ := hO
    have hE : askE ⟨w, h, xs⟩ kind n = 0 := by unfold askE; rw [if_pos hO, if_pos hS]
    simp -implicitDefEqProofs only [push_cast, false_implies, reduceCtorEq, Classical.not_not, Nat.reduceAdd, Nat.reduceSub, Nat.reduceMul, Nat.reduceLeDiff, Nat.reduceLT, Nat.reduceEqDiff, Nat.reduceBEq, Nat.reduceBNe, Int.reduceNeg, Int.reduceToNat, Bool.or_false, Bool.false_or, Bool.or_true, Bool.true_or, BEq.rfl, Bool.not_eq_true, Bool.not_eq_false, decide_eq_true_eq, not_true_eq_false, not_false_eq_true, ite_true, ite_false, List.append_nil, and_assoc, Nat.mul_zero, Nat.zero_mul, hE, hp]
    refine fun X => ⟨by omega, by omega, fun hb => ?_, fun hg X1 => ?_⟩
    · have e : ¬ fwOk ⟨w, h, xs⟩ kind n := fun H => hb H.2.2
      refine postF.mk' (fun _ => default) [some 0, none] ?_
      simp -implicitDefEqProofs only [push_cast, false_implies, reduceCtorEq, Classical.not_not, Nat.reduceAdd, Nat.reduceSub, Nat.reduceMul, Nat.reduceLeDiff, Nat.reduceLT, Nat.reduceEqDiff, Nat.reduceBEq, Nat.reduceBNe, Int.reduceNeg, Int.reduceToNat, Bool.or_false, Bool.false_or, Bool.or_true, Bool.true_or, BEq.rfl, Bool.not_eq_true, Bool.not_eq_false, decide_eq_true_eq, not_true_eq_false, not_false_eq_true, ite_true, ite_false, List.append_nil, and_assoc, Nat.mul_zero, Nat.zero_mul, fs28, fwP, fwE, e, hO, if_false, if_true, lx, pl0]
    have e : fwOk ⟨w, h, xs⟩ kind n := ⟨hO, hS, hg⟩
    obtain ⟨hs, hl, ha⟩ : SidesOk w h ∧ (xs.length : Int) = w * h ∧ AllIn (-16777216) 16777216 xs := id hO
    obtain ⟨W, H, rfl, rfl, hW, hH, hl2, hl3⟩ := Pl.nat hs hl
    obtain ⟨hk, hn0, hn6⟩ := id hS
    obtain ⟨n, rfl⟩ : ∃ m : Nat, n = (m : Int) := ⟨n.toNat, by omega⟩
    simp -implicitDefEqProofs only [push_cast, false_implies, reduceCtorEq, Classical.not_not, Nat.reduceAdd, Nat.reduceSub, Nat.reduceMul, Nat.reduceLeDiff, Nat.reduceLT, Nat.reduceEqDiff, Nat.reduceBEq, Nat.reduceBNe, Int.reduceNeg, Int.reduceToNat, Bool.or_false, Bool.false_or, Bool.or_true, Bool.true_or, BEq.rfl, Bool.not_eq_true, Bool.not_eq_false, decide_eq_true_eq, not_true_eq_false, not_false_eq_true, ite_true, ite_false, List.append_nil, and_assoc, Nat.mul_zero, Nat.zero_mul, fs52, fs47, Int.toNat_natCast]
    refine ⟨by omega, fun X2 => ⟨by omega, by omega, by omega, ?_⟩⟩
    refine evS_loopU (A := Nat) kp28_1 kl28_1 (fun i => [(40, .int .i64 i)]) (fun i => [(20, .mine, X1 4 20, .ints .i64 (fwd lineL kind W H xs i))]) (fun i => i ≤ n) (fun i => n - i) 0 (by omega) (Sub.pt ?_) ?_
    · simp -implicitDefEqProofs only [push_cast, false_implies, reduceCtorEq, Classical.not_not, Nat.reduceAdd, Nat.reduceSub, Nat.reduceMul, Nat.reduceLeDiff, Nat.reduceLT, Nat.reduceEqDiff, Nat.reduceBEq, Nat.reduceBNe, Int.reduceNeg, Int.reduceToNat, Bool.or_false, Bool.false_or, Bool.or_true, Bool.true_or, BEq.rfl, Bool.not_eq_true, Bool.not_eq_false, decide_eq_true_eq, not_true_eq_false, not_false_eq_true, ite_true, ite_false, List.append_nil, and_assoc, Nat.mul_zero, Nat.zero_mul, fwd]
    intro i (hi : i ≤ n) K hK
    have hL := fwd_length lineL kind W H xs i
    have b1 := hlf_le W i
    have b2 := hlf_le H i
    by_cases hi' : i < n
    · obtain ⟨f1, f2⟩ := fwd_bd6 (kind := kind) hl2 hg (i := i) (by omega)
      have f2 := f2 (hlf W i) (hlf H i) b1 b2
      have hR := rwL_length lineL kind W (hlf W i) (fwd lineL kind W H xs i) (hlf H i)
      have q : clL lineL kind W (hlf H i) (rwL lineL kind W (hlf W i) (fwd lineL kind W H xs i) (hlf H i)) (hlf W i) = fwd lineL kind W H xs (i + 1) := rfl
      have hm : hlf H i * W ≤ xs.length := by rw [hl2]; exact Nat.mul_le_mul_right _ b2
      have r1 := recAt_tabR hi' (sdR W H) []
      have r2 : esz 2 n = 2 := esz_pos (by omega)
      have e0 : rd [(hlf W i : Int), (hlf H i : Int)] 0 = hlf W i := rfl
      have e1 : rd [(hlf W i : Int), (hlf H i : Int)] 1 = hlf H i := rfl
      simp -implicitDefEqProofs only [push_cast, false_implies, reduceCtorEq, Classical.not_not, Nat.reduceAdd, Nat.reduceSub, Nat.reduceMul, Nat.reduceLeDiff, Nat.reduceLT, Nat.reduceEqDiff, Nat.reduceBEq, Nat.reduceBNe, Int.reduceNeg, Int.reduceToNat, Bool.or_false, Bool.false_or, Bool.or_true, Bool.true_or, BEq.rfl, Bool.not_eq_true, Bool.not_eq_false, decide_eq_true_eq, not_true_eq_false, not_false_eq_true, ite_true, ite_false, List.append_nil, and_assoc, Nat.mul_zero, Nat.zero_mul, b28_1, r28_2, e0, e1, fs53f, fs54f, r1, r2, sdR, tabR_length, hL, hR, hi', hk, f1, f2, q, Int.toNat_natCast]
      refine ⟨fun _ X3 => ?_, fun hl => by omega⟩
      repeat (refine And.intro (by first | omega | trivial | (intros; omega)) ?_)
      refine hK (i + 1) (by omega) (by omega) _ _ (Sub.pt ?_)
      simp -implicitDefEqProofs only [push_cast, false_implies, reduceCtorEq, Classical.not_not, Nat.reduceAdd, Nat.reduceSub, Nat.reduceMul, Nat.reduceLeDiff, Nat.reduceLT, Nat.reduceEqDiff, Nat.reduceBEq, Nat.reduceBNe, Int.reduceNeg, Int.reduceToNat, Bool.or_false, Bool.false_or, Bool.or_true, Bool.true_or, BEq.rfl, Bool.not_eq_true, Bool.not_eq_false, decide_eq_true_eq, not_true_eq_false, not_false_eq_true, ite_true, ite_false, List.append_nil, and_assoc, Nat.mul_zero, Nat.zero_mul, r2]
    · obtain rfl : i = n := by omega
      clear hK
      simp -implicitDefEqProofs only [push_cast, false_implies, reduceCtorEq, Classical.not_not, Nat.reduceAdd, Nat.reduceSub, Nat.reduceMul, Nat.reduceLeDiff, Nat.reduceLT, Nat.reduceEqDiff, Nat.reduceBEq, Nat.reduceBNe, Int.reduceNeg, Int.reduceToNat, Bool.or_false, Bool.false_or, Bool.or_true, Bool.true_or, BEq.rfl, Bool.not_eq_true, Bool.not_eq_false, decide_eq_true_eq, not_true_eq_false, not_false_eq_true, ite_true, ite_false, List.append_nil, and_assoc, Nat.mul_zero, Nat.zero_mul, b28_1, r28_2, hL, Int.lt_irrefl, true_implies, true_and]
      refine postF.mk' (locs [X1 4 20]) [some 0, some 20] ?_
      simp -implicitDefEqProofs only [push_cast, false_implies, reduceCtorEq, Classical.not_not, Nat.reduceAdd, Nat.reduceSub, Nat.reduceMul, Nat.reduceLeDiff, Nat.reduceLT, Nat.reduceEqDiff, Nat.reduceBEq, Nat.reduceBNe, Int.reduceNeg, Int.reduceToNat, Bool.or_false, Bool.false_or, Bool.or_true, Bool.true_or, BEq.rfl, Bool.not_eq_true, Bool.not_eq_false, decide_eq_true_eq, not_true_eq_false, not_false_eq_true, ite_true, ite_false, List.append_nil, and_assoc, Nat.mul_zero, Nat.zero_mul, fs28, fwP, fwE, e, hL, Int.toNat_natCast, if_true, lx]
  · have e : ¬ fwOk ⟨w, h, xs⟩ kind n := fun H => hO ⟨H.1, H.2.1⟩
    obtain ⟨c, hcc, hc0, hc1⟩ : ∃ c : Int, askE ⟨w, h, xs⟩ kind n = c ∧ ¬ c = 0 ∧ (if (⟨w, h, xs⟩ : Pl).Ok then (2 : Int) else 70) = c := by
      refine ⟨_, rfl, ?_, ?_⟩
      · unfold askE; split
        · rename_i hq; rw [if_neg (fun q => hO ⟨hq, q⟩)]; decide
        · decide
      · unfold askE; split
        · rename_i hq; rw [if_neg (fun q => hO ⟨hq, q⟩)]
        · rfl
    simp -implicitDefEqProofs only [push_cast, false_implies, reduceCtorEq, Classical.not_not, Nat.reduceAdd, Nat.reduceSub, Nat.reduceMul, Nat.reduceLeDiff, Nat.reduceLT, Nat.reduceEqDiff, Nat.reduceBEq, Nat.reduceBNe, Int.reduceNeg, Int.reduceToNat, Bool.or_false, Bool.false_or, Bool.or_true, Bool.true_or, BEq.rfl, Bool.not_eq_true, Bool.not_eq_false, decide_eq_true_eq, not_true_eq_false, not_false_eq_true, ite_true, ite_false, List.append_nil, and_assoc, Nat.mul_zero, Nat.zero_mul, hcc, hp, hc0]
    refine fun X => postF.mk' (fun _ => default) [some 0, none] ?_
    simp -implicitDefEqProofs only [push_cast, false_implies, reduceCtorEq, Classical.not_not, Nat.reduceAdd, Nat.reduceSub, Nat.reduceMul, Nat.reduceLeDiff, Nat.reduceLT, Nat.reduceEqDiff, Nat.reduceBEq, Nat.reduceBNe, Int.reduceNeg, Int.reduceToNat, Bool.or_false, Bool.false_or, Bool.or_true, Bool.true_or, BEq.rfl, Bool.not_eq_true, Bool.not_eq_false, decide_eq_true_eq, not_true_eq_false, not_false_eq_true, ite_true, ite_false, List.append_nil, and_assoc, Nat.mul_zero, Nat.zero_mul, fs28, fwP, fwE, e, hc1, if_false, lx, pl0]
def ent28 : Entry := spOf fs28 inv51
theorem e28 : EntryOk Try.prog 28 ent28 := entry_of ok28 inv51
@[push_cast] theorem ent28_app (us : List SV) (look : Look) (x : Nat → Xf.Loc) (k : Nat) : ent28 us look x k = spOf fs28 inv51 us look x k := rfl
structure TurnA where
  a : LineA
  b : Bool
structure RrA where
  L : Xf.Loc
  W : Nat
  H : Int
  ws : List Int
  w : Nat
  h : Nat
  kind : Int
  b : Bool
def ir30 : IR :=
  .seq (.reg false [⟨some 4, none, ⟨[], []⟩, .mov (.k (.bool false))⟩] [4] []) (.seq (.reg false [⟨some 5, none, ⟨[], []⟩, .mov (.t 0)⟩,
    ⟨some 6, none, ⟨[], []⟩, .bin 0 .geq (.t 5) (.k (.int .i64 0))⟩,
    ⟨some 7, none, ⟨[], []⟩, .mov (.t 6)⟩,
    ⟨some 8, some (7, true), ⟨[], []⟩, .mov (.t 0)⟩,
    ⟨some 9, some (7, true), ⟨[], []⟩, .bin 0 .leq (.t 8) (.k (.int .i64 1))⟩,
    ⟨some 10, none, ⟨[], []⟩, .pick (.t 7) (.t 9) (.k (.bool false))⟩,
    ⟨some 11, none, ⟨[], []⟩, .mov (.t 10)⟩,
    ⟨some 12, some (11, true), ⟨[], []⟩, .mov (.t 1)⟩,
    ⟨some 13, some (11, true), ⟨[], []⟩, .bin 0 .geq (.t 12) (.k (.int .i64 0))⟩,
    ⟨some 14, none, ⟨[], []⟩, .pick (.t 11) (.t 13) (.k (.bool false))⟩,
    ⟨some 15, none, ⟨[], []⟩, .mov (.t 14)⟩,
    ⟨some 16, some (15, true), ⟨[], []⟩, .mov (.t 1)⟩,
    ⟨some 17, some (15, true), ⟨[], []⟩, .bin 0 .leq (.t 16) (.k (.int .i64 6))⟩,
    ⟨some 18, none, ⟨[], []⟩, .pick (.t 15) (.t 17) (.k (.bool false))⟩,
    ⟨some 4, none, ⟨[], []⟩, .mov (.t 18)⟩] [0, 1, 5, 6, 7, 8, 9, 10, 11, 12, 13, 14, 15, 16, 17, 18] []) (.ret))
set_option maxRecDepth 4000 in
theorem comp30 : (Try.f30.body.bind fun c => compC tab isP chkAll ir30 c) = some ir30 := by kernel_rfl
def styF : EntryP
  | [.int .i64 k, .int .i64 n] => some (True, .bool (decide (stOk k n)))
  | _ => none
attribute [push_cast] styF
theorem p30 : EntryPOk Try.prog 30 styF := by
  refine ⟨⟨_, Try.func30, by kernel_rfl, by kernel_rfl⟩, fun us p v h hp => ?_⟩
  unfold styF at h
  split at h <;> cases h
  refine tri_evS (hyp (l := []) (lp := []) trivial trivial) Try.func30 comp30 (rs := [.tmp 4]) (by rfl) Try.ntmps30 10 ?_
  simp -implicitDefEqProofs only [push_cast, false_implies, reduceCtorEq, Classical.not_not, Nat.reduceAdd, Nat.reduceSub, Nat.reduceMul, Nat.reduceLeDiff, Nat.reduceLT, Nat.reduceEqDiff, Nat.reduceBEq, Nat.reduceBNe, Int.reduceNeg, Int.reduceToNat, Bool.or_false, Bool.false_or, Bool.or_true, Bool.true_or, BEq.rfl, Bool.not_eq_true, Bool.not_eq_false, decide_eq_true_eq, not_true_eq_false, not_false_eq_true, ite_true, ite_false, List.append_nil, and_assoc, Nat.mul_zero, Nat.zero_mul, ir30, styF, stOk]
  exact bool_congr (by omega)
def ir57 : IR :=
  .seq (.reg false [⟨some 1, none, ⟨[], []⟩, .box 10 (.t 0)⟩,
    ⟨some 2, none, ⟨[], []⟩, .mov (.k (.val .nilFunc))⟩] [0, 2] []) (.seq (.reg false [⟨some 3, none, ⟨[], []⟩, .mkf 70 [.t 1]⟩,
    ⟨some 2, none, ⟨[], []⟩, .mov (.t 3)⟩] [1, 3] []) (.ret))
set_option maxRecDepth 4000 in
theorem comp57 : (Try.f57.body.bind fun c => compC tab isP chkAll ir57 c) = some ir57 := by kernel_rfl
def b70_1 : IRG :=
  .seq (.seq (.reg false [⟨some 7, none, ⟨[], []⟩, .mov (.t 3)⟩,
    ⟨some 8, none, ⟨[], []⟩, .bin 0 .geq (.t 7) (.k (.int .i64 0))⟩] [7]) (.cond (.t 8) (.skip) (.exit 0))) (.seq (.block 1 (.seq (.yl [⟨some 11, none, ⟨[], []⟩, .mov (.t 0)⟩,
    ⟨some 12, none, ⟨[], []⟩, .mov (.t 3)⟩,
    ⟨some 13, none, ⟨[], []⟩, .ld false none 0 0 (.t 1)⟩,
    ⟨some 14, none, ⟨[], []⟩, .mov (.t 3)⟩,
    ⟨some 15, none, ⟨[], []⟩, .idxS (.t 13) (.t 14) 2⟩,
    ⟨some 16, none, ⟨[], []⟩, .ld true (some 2) 0 0 (.t 15)⟩] (some 17) (.t 11) [.t 12, .t 16] [⟨some 18, none, ⟨[], []⟩, .not (.t 17)⟩] [8, 11, 12, 13, 14, 15, 16, 17]) (.cond (.t 18) (.ret) (.skip)))) (.reg false [⟨some 9, none, ⟨[], []⟩, .mov (.t 3)⟩,
    ⟨some 10, none, ⟨[], []⟩, .bin 0 .sub (.t 9) (.k (.int .i64 1))⟩,
    ⟨some 3, none, ⟨[], []⟩, .mov (.t 10)⟩] [9, 10, 18]))
def ir70 : IRG :=
  .seq (.reg false [⟨some 4, none, ⟨[], []⟩, .ld false none 0 0 (.t 1)⟩,
    ⟨some 5, none, ⟨[], []⟩, .len (.t 4)⟩,
    ⟨some 6, none, ⟨[], []⟩, .bin 0 .sub (.t 5) (.k (.int .i64 1))⟩,
    ⟨some 3, none, ⟨[], []⟩, .mov (.t 6)⟩] [4, 5, 6]) (.block 0 (.loop b70_1))
def kp70_1 : List Nat := [0, 1, 3]
attribute [push_cast] kp70_1
set_option maxRecDepth 4000 in
theorem comp70 : (Try.f70.body.bind fun c => compGd tab isP chkAll ir70 c) = some ir70 := by kernel_rfl
structure BwA where
  L : Xf.Loc
  s : Nat
  l : List (List RC)
def fs57 : FS where
  A := BwA
  args := fun a => [.sl 0 a.L a.s 0 a.l.length]
  mem := fun a => [some (.ro, a.L, .recs 2 false [] a.l)]
  pre := fun a => True
  res := fun a x => .fn 70 [.ptr 1 (x 0) 0 0 0]
  out := fun _ _ => []
  new := fun a x => [(x 0, .cells [.sl 0 a.L a.s 0 a.l.length])]
def inv57 : List SV → Look → Option (BwA × List Nat)
  | [.sl c _ s 0 _], look => match rowR (look c) with
    | some (L, 2, _, l) => some (⟨L, s, l⟩, [c])
    | _ => none
  | _, _ => none
attribute [push_cast] inv57
theorem ok57 : FSOk Try.prog 57 fs57 := by
  refine ⟨⟨_, Try.func57, by kernel_rfl, by kernel_rfl⟩, fun a => ⟨by simp [fs57, push_cast, noMine, argOwn, Chunk.frArg], by simp [fs57, push_cast, outOk, Chunk.ext], fun x => .inl (by simp [fs57, push_cast, frNew, frOut, Chunk.fr])⟩, fun a hp => ?_⟩
  obtain ⟨L, s, l⟩ := a
  change Tri Try.prog 57 [.sl 0 L s 0 l.length] [some (.ro, L, .recs 2 false [] l)] (postF fs57 ⟨L, s, l⟩)
  refine tri_evS (hyp (l := []) (lp := []) trivial trivial) Try.func57 comp57 (rs := [.tmp 2]) (by rfl) Try.ntmps57 11 ?_
  simp -implicitDefEqProofs only [push_cast, false_implies, reduceCtorEq, Classical.not_not, Nat.reduceAdd, Nat.reduceSub, Nat.reduceMul, Nat.reduceLeDiff, Nat.reduceLT, Nat.reduceEqDiff, Nat.reduceBEq, Nat.reduceBNe, Int.reduceNeg, Int.reduceToNat, Bool.or_false, Bool.false_or, Bool.or_true, Bool.true_or, BEq.rfl, Bool.not_eq_true, Bool.not_eq_false, decide_eq_true_eq, not_true_eq_false, not_false_eq_true, ite_true, ite_false, List.append_nil, and_assoc, Nat.mul_zero, Nat.zero_mul, ir57]
  intro X
  refine postF.mk' (fun _ => X 0 10) [some 0, some 10] ?_
  simp -implicitDefEqProofs only [push_cast, false_implies, reduceCtorEq, Classical.not_not, Nat.reduceAdd, Nat.reduceSub, Nat.reduceMul, Nat.reduceLeDiff, Nat.reduceLT, Nat.reduceEqDiff, Nat.reduceBEq, Nat.reduceBNe, Int.reduceNeg, Int.reduceToNat, Bool.or_false, Bool.false_or, Bool.or_true, Bool.true_or, BEq.rfl, Bool.not_eq_true, Bool.not_eq_false, decide_eq_true_eq, not_true_eq_false, not_false_eq_true, ite_true, ite_false, List.append_nil, and_assoc, Nat.mul_zero, Nat.zero_mul, fs57]
def ent57 : Entry := spOf fs57 inv57
theorem e57 : EntryOk Try.prog 57 ent57 := entry_of ok57 inv57
@[push_cast] theorem ent57_app (us : List SV) (look : Look) (x : Nat → Xf.Loc) (k : Nat) : ent57 us look x k = spOf fs57 inv57 us look x k := rfl
structure BwI where
  F : Xf.Loc
  L : Xf.Loc
  s : Nat
  w : Nat
  h : Nat
  n : Nat
/-- What is yielded in the k-th round. -/
def bwX (w h n k : Nat) : List SV := [.int .i64 ((n - 1 - k : Nat) : Int), .agg [.int .i64 (hlf w (n - 1 - k)), .int .i64 (hlf h (n - 1 - k))]]
def its70 : ITS where
  A := BwI
  cs := fun a => [.ptr 0 a.F 0 0 0]
  mem := fun a => [some (.ro, a.F, .cells [.sl 1 a.L a.s 0 a.n]), some (.ro, a.L, .recs 2 false [] (tabR a.n (sdR a.w a.h)))]
  n := fun a => a.n
  xs := fun a => bwX a.w a.h a.n
  pre := fun a => a.n ≤ 7 ∧ (0 < a.n → a.s = 2)
theorem it70 : ItOk Try.prog 70 its70 := by
  refine ⟨⟨_, Try.func70, by kernel_rfl, by kernel_rfl⟩, fun a hp => ?_⟩
  obtain ⟨F, L, s, w, h, n⟩ := a
  obtain ⟨h1, h2⟩ : n ≤ 7 ∧ (0 < n → s = 2) := hp
  change IterOk Try.prog 70 [.ptr 0 F 0 0 0] [some (.ro, F, .cells [.sl 1 L s 0 n]), some (.ro, L, .recs 2 false [] (tabR n (sdR w h)))] n (bwX w h n)
  refine iter_of (hyp (l := []) (lp := []) trivial trivial) Try.func70 comp70 (by rfl) Try.ntmps70 fun l => ?_
  simp -implicitDefEqProofs only [push_cast, false_implies, reduceCtorEq, Classical.not_not, Nat.reduceAdd, Nat.reduceSub, Nat.reduceMul, Nat.reduceLeDiff, Nat.reduceLT, Nat.reduceEqDiff, Nat.reduceBEq, Nat.reduceBNe, Int.reduceNeg, Int.reduceToNat, Bool.or_false, Bool.false_or, Bool.or_true, Bool.true_or, BEq.rfl, Bool.not_eq_true, Bool.not_eq_false, decide_eq_true_eq, not_true_eq_false, not_false_eq_true, ite_true, ite_false, List.append_nil, and_assoc, Nat.mul_zero, Nat.zero_mul, ir70]
  repeat (refine And.intro (by first | omega | trivial | (intros; omega)) ?_)
  refine evY_loopU (A := Nat) _ _ _ _ _ _ _ kp70_1 (fun k => k) (fun k => [(3, .int .i64 ((n : Int) - 1 - k))]) (fun k => k ≤ n) (fun k => n - k) 0 (Nat.zero_le _) rfl ?_ ?_
  · have e0 : (n : Int) - 1 - 0 = n - 1 := by omega
    simp -implicitDefEqProofs only [push_cast, false_implies, reduceCtorEq, Classical.not_not, Nat.reduceAdd, Nat.reduceSub, Nat.reduceMul, Nat.reduceLeDiff, Nat.reduceLT, Nat.reduceEqDiff, Nat.reduceBEq, Nat.reduceBNe, Int.reduceNeg, Int.reduceToNat, Bool.or_false, Bool.false_or, Bool.or_true, Bool.true_or, BEq.rfl, Bool.not_eq_true, Bool.not_eq_false, decide_eq_true_eq, not_true_eq_false, not_false_eq_true, ite_true, ite_false, List.append_nil, and_assoc, Nat.mul_zero, Nat.zero_mul, e0]
  intro k (hk : k ≤ n) K hK
  by_cases hk' : k < n
  · obtain ⟨i, hi⟩ : ∃ i : Nat, i = n - 1 - k := ⟨_, rfl⟩
    have e1 : (n : Int) - 1 - k = (i : Int) := by omega
    obtain rfl := h2 (by omega)
    have r1 := recAt_tabR (n := n) (i := i) (by omega) (sdR w h) []
    simp only [e1]
    simp -implicitDefEqProofs only [push_cast, false_implies, reduceCtorEq, Classical.not_not, Nat.reduceAdd, Nat.reduceSub, Nat.reduceMul, Nat.reduceLeDiff, Nat.reduceLT, Nat.reduceEqDiff, Nat.reduceBEq, Nat.reduceBNe, Int.reduceNeg, Int.reduceToNat, Bool.or_false, Bool.false_or, Bool.or_true, Bool.true_or, BEq.rfl, Bool.not_eq_true, Bool.not_eq_false, decide_eq_true_eq, not_true_eq_false, not_false_eq_true, ite_true, ite_false, List.append_nil, and_assoc, Nat.mul_zero, Nat.zero_mul, b70_1, r1, sdR, bwX, tabR_length, ← hi, Option.some.injEq, exists_eq_left', hk']
    refine ⟨fun _ => ?_, fun h => by omega⟩
    repeat (refine And.intro (by first | omega | trivial | (intros; omega)) ?_)
    refine hK (k + 1) (by omega) (by omega) _ _ rfl ?_
    have e2 : (n : Int) - 1 - ((k + 1 : Nat) : Int) = i - 1 := by omega
    simp only [e2]
    simp -implicitDefEqProofs only [push_cast, false_implies, reduceCtorEq, Classical.not_not, Nat.reduceAdd, Nat.reduceSub, Nat.reduceMul, Nat.reduceLeDiff, Nat.reduceLT, Nat.reduceEqDiff, Nat.reduceBEq, Nat.reduceBNe, Int.reduceNeg, Int.reduceToNat, Bool.or_false, Bool.false_or, Bool.or_true, Bool.true_or, BEq.rfl, Bool.not_eq_true, Bool.not_eq_false, decide_eq_true_eq, not_true_eq_false, not_false_eq_true, ite_true, ite_false, List.append_nil, and_assoc, Nat.mul_zero, Nat.zero_mul]
  · obtain rfl : k = n := by omega
    have e1 : (k : Int) - 1 - k = -1 := by omega
    simp only [e1]
    simp -implicitDefEqProofs only [push_cast, false_implies, reduceCtorEq, Classical.not_not, Nat.reduceAdd, Nat.reduceSub, Nat.reduceMul, Nat.reduceLeDiff, Nat.reduceLT, Nat.reduceEqDiff, Nat.reduceBEq, Nat.reduceBNe, Int.reduceNeg, Int.reduceToNat, Bool.or_false, Bool.false_or, Bool.or_true, Bool.true_or, BEq.rfl, Bool.not_eq_true, Bool.not_eq_false, decide_eq_true_eq, not_true_eq_false, not_false_eq_true, ite_true, ite_false, List.append_nil, and_assoc, Nat.mul_zero, Nat.zero_mul, b70_1]
    intro h; omega
def b31_1 : IR :=
  .block 1 (.seq (.reg false [⟨some 37, none, ⟨[], []⟩, .ld false none 0 0 (.t 9)⟩,
    ⟨some 38, none, ⟨[], []⟩, .idxP (.t 11) (.k (.int .i64 0)) 2 1⟩,
    ⟨some 39, none, ⟨[], []⟩, .ld true none 0 0 (.t 38)⟩,
    ⟨some 40, none, ⟨[], []⟩, .idxP (.t 11) (.k (.int .i64 1)) 2 1⟩,
    ⟨some 41, none, ⟨[], []⟩, .ld true none 0 0 (.t 40)⟩,
    ⟨some 42, none, ⟨[], []⟩, .call none 31 54 [.t 37, .t 39, .t 41, .k (.fn 39 [])]⟩] [37, 38, 39, 40, 41, 42] []) (.reg false [⟨some 43, none, ⟨[], []⟩, .ld false none 0 0 (.t 9)⟩,
    ⟨some 44, none, ⟨[], []⟩, .idxP (.t 11) (.k (.int .i64 0)) 2 1⟩,
    ⟨some 45, none, ⟨[], []⟩, .ld true none 0 0 (.t 44)⟩,
    ⟨some 46, none, ⟨[], []⟩, .idxP (.t 11) (.k (.int .i64 1)) 2 1⟩,
    ⟨some 47, none, ⟨[], []⟩, .ld true none 0 0 (.t 46)⟩,
    ⟨some 48, none, ⟨[], []⟩, .call none 35 53 [.t 43, .t 45, .t 47, .k (.fn 39 [])]⟩] [9, 11, 43, 44, 45, 46, 47, 48] []))
def r31_2 : IR :=
  .seq (.seq (.reg false [⟨some 49, none, ⟨[], []⟩, .ld false none 0 0 (.t 9)⟩,
    ⟨some 50, none, ⟨[], []⟩, .nilc (.t 49)⟩,
    ⟨some 51, none, ⟨[], []⟩, .fld (.t 50) 1⟩,
    ⟨some 52, none, ⟨[], []⟩, .ld false none 0 0 (.t 51)⟩,
    ⟨some 53, none, ⟨[], []⟩, .call (some 4) 39 37 [.t 52, .k (.int .i64 16777216)]⟩,
    ⟨some 54, none, ⟨[], []⟩, .not (.t 53)⟩] [49, 50, 51, 52, 53] []) (.cond (.t 54) (.seq (.reg false [⟨some 55, none, ⟨[], []⟩, .build [.int .i64 0, .int .i64 0, nilSV] []⟩,
    ⟨none, none, ⟨[], []⟩, .sto false 3 .i64 (.t 6) (.t 55)⟩,
    ⟨some 7, none, ⟨[], []⟩, .mov (.k (.int .i64 4))⟩] [3, 9, 54, 55] []) (.ret)) (.skip))) (.seq (.reg true [⟨some 56, none, ⟨[], []⟩, .fld (.t 3) 0⟩,
    ⟨some 57, none, ⟨[], []⟩, .ld false none 0 0 (.t 56)⟩,
    ⟨some 58, none, ⟨[], []⟩, .fld (.t 3) 1⟩,
    ⟨some 59, none, ⟨[], []⟩, .ld false none 0 0 (.t 58)⟩,
    ⟨some 60, none, ⟨[], []⟩, .ld false none 0 0 (.t 9)⟩,
    ⟨some 61, none, ⟨[], []⟩, .nilc (.t 60)⟩,
    ⟨some 62, none, ⟨[], []⟩, .fld (.t 61) 1⟩,
    ⟨some 63, none, ⟨[], []⟩, .ld false none 0 0 (.t 62)⟩,
    ⟨some 64, none, ⟨[], []⟩, .build [.int .i64 0, .int .i64 0, nilSV] [(0, 1, .t 57), (1, 1, .t 59), (2, 1, .t 63)]⟩,
    ⟨none, none, ⟨[], []⟩, .sto false 3 .i64 (.t 6) (.t 64)⟩,
    ⟨some 7, none, ⟨[], []⟩, .mov (.k (.int .i64 0))⟩] [3, 9, 54, 56, 57, 58, 59, 60, 61, 62, 63, 64] []) (.ret))
def ir31 : IR :=
  .seq (.reg false [⟨some 3, none, ⟨[], []⟩, .box 10 (.t 0)⟩,
    ⟨some 6, none, ⟨[], []⟩, .alloc 11 [.int .i64 0, .int .i64 0, nilSV]⟩,
    ⟨some 7, none, ⟨[], []⟩, .mov (.k (.int .i64 0))⟩] [0, 7] []) (.seq (.seq (.reg false [⟨some 12, none, ⟨[], []⟩, .ld false (some 3) 0 0 (.t 3)⟩,
    ⟨some 13, none, ⟨[], []⟩, .mov (.t 1)⟩,
    ⟨some 14, none, ⟨[], []⟩, .mov (.t 2)⟩,
    ⟨some 15, none, ⟨[], []⟩, .call (some 4) 12 51 [.t 12, .t 13, .t 14]⟩,
    ⟨some 8, none, ⟨[], []⟩, .mov (.t 15)⟩] [12, 13, 14, 15] []) (.seq (.reg false [⟨some 16, none, ⟨[], []⟩, .mov (.t 8)⟩,
    ⟨some 17, none, ⟨[], []⟩, .bin 0 .neq (.t 16) (.k (.int .i64 0))⟩] [16] []) (.cond (.t 17) (.seq (.reg false [⟨some 18, none, ⟨[], []⟩, .build [.int .i64 0, .int .i64 0, nilSV] []⟩,
    ⟨some 19, none, ⟨[], []⟩, .mov (.t 8)⟩,
    ⟨none, none, ⟨[], []⟩, .sto false 3 .i64 (.t 6) (.t 18)⟩,
    ⟨some 7, none, ⟨[], []⟩, .mov (.t 19)⟩] [1, 2, 3, 8, 17, 18, 19] []) (.ret)) (.skip)))) (.seq (.reg true [⟨some 20, none, ⟨[], []⟩, .fld (.t 3) 0⟩,
    ⟨some 21, none, ⟨[16, 17, 18, 19, 21], []⟩, .ld false none 0 0 (.t 20)⟩,
    ⟨some 22, none, ⟨[], []⟩, .fld (.t 3) 2⟩,
    ⟨some 23, none, ⟨[21], []⟩, .ld false none 0 0 (.t 22)⟩,
    ⟨some 24, none, ⟨[21], []⟩, .call (some 4) 16 52 [.t 23]⟩,
    ⟨some 25, none, ⟨[], []⟩, .mov (.t 1)⟩,
    ⟨some 26, none, ⟨[], []⟩, .build [.int .i64 0, nilSV, .int .i64 0] [(0, 1, .t 21), (1, 1, .t 24), (2, 1, .t 25)]⟩,
    ⟨some 27, none, ⟨[], []⟩, .box 20 (.t 26)⟩,
    ⟨some 9, none, ⟨[], []⟩, .alloc 21 [.val (.pointer none)]⟩,
    ⟨none, none, ⟨[], []⟩, .sto false 1 .i64 (.t 9) (.t 27)⟩] [1, 7, 8, 17, 20, 21, 22, 23, 24, 25, 26, 27] []) (.seq (.seq (.reg false [⟨some 28, none, ⟨[], []⟩, .fld (.t 3) 0⟩,
    ⟨some 29, none, ⟨[], []⟩, .ld false none 0 0 (.t 28)⟩,
    ⟨some 30, none, ⟨[], []⟩, .fld (.t 3) 1⟩,
    ⟨some 31, none, ⟨[], []⟩, .ld false none 0 0 (.t 30)⟩,
    ⟨some 32, none, ⟨[], []⟩, .mov (.t 2)⟩,
    ⟨some 33, none, ⟨[], []⟩, .call (some 4) 22 47 [.t 29, .t 31, .t 32]⟩,
    ⟨some 34, none, ⟨[], []⟩, .call (some 4) 26 57 [.t 33]⟩] [2, 28, 29, 30, 31, 32, 33] []) (.block 0 (.rf (.t 34) [35, 36] (.reg false [⟨some 11, none, ⟨[], []⟩, .allocI 30 .i64 2⟩,
    ⟨none, none, ⟨[], []⟩, .sto true 2 .i64 (.t 11) (.t 36)⟩] [3, 6, 34, 35, 36] []) (b31_1) [34] []))) (r31_2))))
set_option maxRecDepth 4000 in
theorem comp31 : (Try.f31.body.bind fun c => compC tab isP chkAll ir31 c) = some ir31 := by kernel_rfl
/-- What Inverse comes to, before it is looked at. -/
def ivL (p : Pl) (kind n : Int) : List Int := bwd unL kind p.w.toNat p.h.toNat n.toNat p.xs n.toNat
def ivOk (p : Pl) (kind n : Int) : Prop := p.Ok ∧ stOk kind n ∧ AllIn (-16777216) 16777216 (ivL p kind n)
instance (p : Pl) (kind n : Int) : Decidable (ivOk p kind n) := by unfold ivOk; infer_instance
def ivP (p : Pl) (kind n : Int) : Pl := if ivOk p kind n then ⟨p.w, p.h, ivL p kind n⟩ else pl0
def ivE (p : Pl) (kind n : Int) : Int := if ivOk p kind n then 0 else if p.Ok then if stOk kind n then 4 else 2 else 70
theorem bwd_bd6 {kind : Int} {W H : Nat} {xs : List Int} (hl : xs.length = H * W) (h : AllIn (-16777216) 16777216 xs) {n i : Nat} (hi : i ≤ 5) : AllIn (-375299968947541) 375299968947541 (bwd unL kind W H n xs i) ∧
    ∀ (w h : Nat), w ≤ W → h ≤ H → AllIn (-375299968947541) 375299968947541 (clL unL kind W h (bwd unL kind W H n xs i) w) := by
  have hB := bwd_bd trn_unline (kind := kind) (W := W) (h := H) (n := n) (by omega) h (by omega) i
  have h0 : (0 : Int) ≤ bnd 16777216 i := bnd_pos (by omega) i
  have key : ∀ i : Nat, i ≤ 5 → 3 * bnd 16777216 i + 1 ≤ 375299968947541 := by
    intro i hi
    have : i = 0 ∨ i = 1 ∨ i = 2 ∨ i = 3 ∨ i = 4 ∨ i = 5 := by omega
    rcases this with rfl | rfl | rfl | rfl | rfl | rfl <;> decide
  have k := key i hi
  have up : ∀ (B : Int) (ys : List Int), B ≤ 375299968947541 → AllIn (-B) B ys → AllIn (-375299968947541) 375299968947541 ys := fun B ys hB h n hn => by have := h n hn; omega
  refine ⟨up _ _ (by omega) hB, fun w h hw hh => up _ _ k (clL_bd trn_unline (by rw [bwd_length, hl]; exact Nat.mul_le_mul_right _ hh) hw hB h0)⟩
def fs31 : FS where
  A := AskA
  args := fun a => [plV a.a.p a.a.L 0, .int .i64 a.kind, .int .i64 a.n]
  mem := fun a => [some (.ro, a.a.L, .ints .i64 a.a.p.xs)]
  pre := fun a => a.a.p.xs.length ≤ 140737488355328
  res := fun a x => .tup [plV (ivP a.a.p a.kind a.n) (lx (ivOk a.a.p a.kind a.n) x 0) 1, .int .i64 (ivE a.a.p a.kind a.n)]
  out := fun _ _ => []
  new := fun a x => [(lx (ivOk a.a.p a.kind a.n) x 0, .ints .i64 (ivP a.a.p a.kind a.n).xs)]
set_option maxHeartbeats 1000000 in
theorem ok31 : FSOk Try.prog 31 fs31 := by
  refine ⟨⟨_, Try.func31, by kernel_rfl, by kernel_rfl⟩, fun a => ⟨by simp [fs31, push_cast, noMine, argOwn, Chunk.frArg], by simp [fs31, push_cast, outOk, Chunk.ext], fun x => .inl (by simp [fs31, push_cast, frNew, frOut, Chunk.fr])⟩, fun a hp => ?_⟩
  obtain ⟨⟨⟨w, h, xs⟩, L⟩, kind, n⟩ := a
  change xs.length ≤ 140737488355328 at hp
  change Tri Try.prog 31 [plV ⟨w, h, xs⟩ L 0, .int .i64 kind, .int .i64 n] [some (.ro, L, .ints .i64 xs)] (postF fs31 ⟨⟨⟨w, h, xs⟩, L⟩, kind, n⟩)
  refine tri_evS (hypI (l := [(51, ent51), (37, ent37), (52, ent52), (47, ent47), (57, ent57), (53, ent53u), (54, ent54u)]) (li := [(70, its70)]) (lp := [])
    ⟨e51, e37, e52, e47, e57, e53u, e54u, trivial⟩ ⟨it70, trivial⟩ trivial) Try.func31 comp31 (rs := [.cell 6 (some 3), .tmp 7]) (by rfl) Try.ntmps31 43 ?_
  simp -implicitDefEqProofs only [push_cast, false_implies, reduceCtorEq, Classical.not_not, Nat.reduceAdd, Nat.reduceSub, Nat.reduceMul, Nat.reduceLeDiff, Nat.reduceLT, Nat.reduceEqDiff, Nat.reduceBEq, Nat.reduceBNe, Int.reduceNeg, Int.reduceToNat, Bool.or_false, Bool.false_or, Bool.or_true, Bool.true_or, BEq.rfl, Bool.not_eq_true, Bool.not_eq_false, decide_eq_true_eq, not_true_eq_false, not_false_eq_true, ite_true, ite_false, List.append_nil, and_assoc, Nat.mul_zero, Nat.zero_mul, ir31, fs51]
  by_cases hO : (⟨w, h, xs⟩ : Pl).Ok ∧ stOk kind n
  · obtain ⟨hO, hS⟩ := hO
    have hE : askE ⟨w, h, xs⟩ kind n = 0 := by unfold askE; rw [if_pos hO, if_pos hS]
    simp -implicitDefEqProofs only [push_cast, false_implies, reduceCtorEq, Classical.not_not, Nat.reduceAdd, Nat.reduceSub, Nat.reduceMul, Nat.reduceLeDiff, Nat.reduceLT, Nat.reduceEqDiff, Nat.reduceBEq, Nat.reduceBNe, Int.reduceNeg, Int.reduceToNat, Bool.or_false, Bool.false_or, Bool.or_true, Bool.true_or, BEq.rfl, Bool.not_eq_true, Bool.not_eq_false, decide_eq_true_eq, not_true_eq_false, not_false_eq_true, ite_true, ite_false, List.append_nil, and_assoc, Nat.mul_zero, Nat.zero_mul, hE, hp]
    obtain ⟨hs, hl, ha⟩ : SidesOk w h ∧ (xs.length : Int) = w * h ∧ AllIn (-16777216) 16777216 xs := id hO
    obtain ⟨W, H, rfl, rfl, hW, hH, hl2, hl3⟩ := Pl.nat hs hl
    obtain ⟨hk, hn0, hn6⟩ := id hS
    obtain ⟨n, rfl⟩ : ∃ m : Nat, n = (m : Int) := ⟨n.toNat, by omega⟩
    simp -implicitDefEqProofs only [push_cast, false_implies, reduceCtorEq, Classical.not_not, Nat.reduceAdd, Nat.reduceSub, Nat.reduceMul, Nat.reduceLeDiff, Nat.reduceLT, Nat.reduceEqDiff, Nat.reduceBEq, Nat.reduceBNe, Int.reduceNeg, Int.reduceToNat, Bool.or_false, Bool.false_or, Bool.or_true, Bool.true_or, BEq.rfl, Bool.not_eq_true, Bool.not_eq_false, decide_eq_true_eq, not_true_eq_false, not_false_eq_true, ite_true, ite_false, List.append_nil, and_assoc, Nat.mul_zero, Nat.zero_mul, fs52, fs47, fs57, tabR_length, Int.toNat_natCast]
    refine fun X X1 => ⟨by omega, fun X2 => ⟨hW, hH, by omega, ?_⟩⟩
    obtain ⟨LS, hLS⟩ : ∃ LS, lx (0 < n) (fun j => X2 5 (22 + j)) 0 = LS := ⟨_, rfl⟩
    rw [hLS]
    refine evS_rf its70 ⟨X2 6 26, LS, esz 2 n, W, H, n⟩ rfl ⟨show n ≤ 7 by omega, fun h => esz_pos h⟩ ⟨by kernel_rfl, by kernel_rfl⟩ rfl ?_ (fun _ _ => rfl) (A := Unit)
      (fun k _ => [(16, .mine, X1 4 16, .ints .i64 (bwd unL kind W H n xs k)), (22, .mine, LS, .recs 2 false [] (tabR n (sdR W H)))]) (fun k _ => k ≤ n) () (Nat.zero_le _) ?_ [some 26, some 22] ?_ ?_ ?_ ?_
    · simp -implicitDefEqProofs only [push_cast, false_implies, reduceCtorEq, Classical.not_not, Nat.reduceAdd, Nat.reduceSub, Nat.reduceMul, Nat.reduceLeDiff, Nat.reduceLT, Nat.reduceEqDiff, Nat.reduceBEq, Nat.reduceBNe, Int.reduceNeg, Int.reduceToNat, Bool.or_false, Bool.false_or, Bool.or_true, Bool.true_or, BEq.rfl, Bool.not_eq_true, Bool.not_eq_false, decide_eq_true_eq, not_true_eq_false, not_false_eq_true, ite_true, ite_false, List.append_nil, and_assoc, Nat.mul_zero, Nat.zero_mul, its70]
    · simp -implicitDefEqProofs only [push_cast, false_implies, reduceCtorEq, Classical.not_not, Nat.reduceAdd, Nat.reduceSub, Nat.reduceMul, Nat.reduceLeDiff, Nat.reduceLT, Nat.reduceEqDiff, Nat.reduceBEq, Nat.reduceBNe, Int.reduceNeg, Int.reduceToNat, Bool.or_false, Bool.false_or, Bool.or_true, Bool.true_or, BEq.rfl, Bool.not_eq_true, Bool.not_eq_false, decide_eq_true_eq, not_true_eq_false, not_false_eq_true, ite_true, ite_false, List.append_nil, and_assoc, Nat.mul_zero, Nat.zero_mul, bwd]
    · simp -implicitDefEqProofs only [push_cast, false_implies, reduceCtorEq, Classical.not_not, Nat.reduceAdd, Nat.reduceSub, Nat.reduceMul, Nat.reduceLeDiff, Nat.reduceLT, Nat.reduceEqDiff, Nat.reduceBEq, Nat.reduceBNe, Int.reduceNeg, Int.reduceToNat, Bool.or_false, Bool.false_or, Bool.or_true, Bool.true_or, BEq.rfl, Bool.not_eq_true, Bool.not_eq_false, decide_eq_true_eq, not_true_eq_false, not_false_eq_true, ite_true, ite_false, List.append_nil, and_assoc, Nat.mul_zero, Nat.zero_mul, its70]
    · intro k _ _
      simp -implicitDefEqProofs only [push_cast, false_implies, reduceCtorEq, Classical.not_not, Nat.reduceAdd, Nat.reduceSub, Nat.reduceMul, Nat.reduceLeDiff, Nat.reduceLT, Nat.reduceEqDiff, Nat.reduceBEq, Nat.reduceBNe, Int.reduceNeg, Int.reduceToNat, Bool.or_false, Bool.false_or, Bool.or_true, Bool.true_or, BEq.rfl, Bool.not_eq_true, Bool.not_eq_false, decide_eq_true_eq, not_true_eq_false, not_false_eq_true, ite_true, ite_false, List.append_nil, and_assoc, Nat.mul_zero, Nat.zero_mul, its70]
    · intro k _ (hk1 : k < n) _ K hK
      obtain ⟨i, hi⟩ : ∃ i : Nat, i = n - 1 - k := ⟨_, rfl⟩
      have b1 := hlf_le W i
      have b2 := hlf_le H i
      obtain ⟨f1, f2⟩ := bwd_bd6 (kind := kind) (n := n) hl2 ha (i := k) (by omega)
      have f2 := f2 (hlf W i) (hlf H i) b1 b2
      have hL := bwd_length unL kind W H n xs k
      have hR := clL_length unL kind W (hlf H i) (bwd unL kind W H n xs k) (hlf W i)
      have hm : hlf H i * W ≤ xs.length := by rw [hl2]; exact Nat.mul_le_mul_right _ b2
      have q : rwL unL kind W (hlf W i) (clL unL kind W (hlf H i) (bwd unL kind W H n xs k) (hlf W i)) (hlf H i) = bwd unL kind W H n xs (k + 1) := by rw [hi]; rfl
      have e0 : rd [(hlf W i : Int), (hlf H i : Int)] 0 = hlf W i := rfl
      have e1 : rd [(hlf W i : Int), (hlf H i : Int)] 1 = hlf H i := rfl
      change evS _ _ _ _ (putsE _ [35, 36] (bwX W H n k)) _
      simp -implicitDefEqProofs only [push_cast, false_implies, reduceCtorEq, Classical.not_not, Nat.reduceAdd, Nat.reduceSub, Nat.reduceMul, Nat.reduceLeDiff, Nat.reduceLT, Nat.reduceEqDiff, Nat.reduceBEq, Nat.reduceBNe, Int.reduceNeg, Int.reduceToNat, Bool.or_false, Bool.false_or, Bool.or_true, Bool.true_or, BEq.rfl, Bool.not_eq_true, Bool.not_eq_false, decide_eq_true_eq, not_true_eq_false, not_false_eq_true, ite_true, ite_false, List.append_nil, and_assoc, Nat.mul_zero, Nat.zero_mul, bwX, ← hi]
      intro X3
      simp -implicitDefEqProofs only [push_cast, false_implies, reduceCtorEq, Classical.not_not, Nat.reduceAdd, Nat.reduceSub, Nat.reduceMul, Nat.reduceLeDiff, Nat.reduceLT, Nat.reduceEqDiff, Nat.reduceBEq, Nat.reduceBNe, Int.reduceNeg, Int.reduceToNat, Bool.or_false, Bool.false_or, Bool.or_true, Bool.true_or, BEq.rfl, Bool.not_eq_true, Bool.not_eq_false, decide_eq_true_eq, not_true_eq_false, not_false_eq_true, ite_true, ite_false, List.append_nil, and_assoc, Nat.mul_zero, Nat.zero_mul, b31_1, e0, e1, fs53u, fs54u, hL, hR, hk, f1, f2, q, Int.toNat_natCast]
      repeat (refine And.intro (by first | omega | trivial | (intros; omega)) ?_)
      refine hK () (by omega) _ _ ?_
      simp -implicitDefEqProofs only [push_cast, false_implies, reduceCtorEq, Classical.not_not, Nat.reduceAdd, Nat.reduceSub, Nat.reduceMul, Nat.reduceLeDiff, Nat.reduceLT, Nat.reduceEqDiff, Nat.reduceBEq, Nat.reduceBNe, Int.reduceNeg, Int.reduceToNat, Bool.or_false, Bool.false_or, Bool.or_true, Bool.true_or, BEq.rfl, Bool.not_eq_true, Bool.not_eq_false, decide_eq_true_eq, not_true_eq_false, not_false_eq_true, ite_true, ite_false, List.append_nil, and_assoc, Nat.mul_zero, Nat.zero_mul]
    · intro _ _
      have hL := bwd_length unL kind W H n xs n
      have hI : ivL ⟨W, H, xs⟩ kind n = bwd unL kind W H n xs n := by unfold ivL; simp only [Int.toNat_natCast]
      simp -implicitDefEqProofs only [push_cast, false_implies, reduceCtorEq, Classical.not_not, Nat.reduceAdd, Nat.reduceSub, Nat.reduceMul, Nat.reduceLeDiff, Nat.reduceLT, Nat.reduceEqDiff, Nat.reduceBEq, Nat.reduceBNe, Int.reduceNeg, Int.reduceToNat, Bool.or_false, Bool.false_or, Bool.or_true, Bool.true_or, BEq.rfl, Bool.not_eq_true, Bool.not_eq_false, decide_eq_true_eq, not_true_eq_false, not_false_eq_true, ite_true, ite_false, List.append_nil, and_assoc, Nat.mul_zero, Nat.zero_mul, its70, r31_2, fs37, hL]
      refine ⟨by omega, by omega, by omega, fun hb => ?_, fun hg => ?_⟩
      · have e : ¬ ivOk ⟨W, H, xs⟩ kind n := fun H => hb (by rw [← hI]; exact H.2.2)
        refine postF.mk' (fun _ => default) [some 0, none] ?_
        simp -implicitDefEqProofs only [push_cast, false_implies, reduceCtorEq, Classical.not_not, Nat.reduceAdd, Nat.reduceSub, Nat.reduceMul, Nat.reduceLeDiff, Nat.reduceLT, Nat.reduceEqDiff, Nat.reduceBEq, Nat.reduceBNe, Int.reduceNeg, Int.reduceToNat, Bool.or_false, Bool.false_or, Bool.or_true, Bool.true_or, BEq.rfl, Bool.not_eq_true, Bool.not_eq_false, decide_eq_true_eq, not_true_eq_false, not_false_eq_true, ite_true, ite_false, List.append_nil, and_assoc, Nat.mul_zero, Nat.zero_mul, fs31, ivP, ivE, e, hO, hS, if_false, if_true, lx, pl0]
      · have e : ivOk ⟨W, H, xs⟩ kind n := ⟨hO, hS, by rw [hI]; exact hg⟩
        refine postF.mk' (locs [X1 4 16]) [some 0, some 16] ?_
        simp -implicitDefEqProofs only [push_cast, false_implies, reduceCtorEq, Classical.not_not, Nat.reduceAdd, Nat.reduceSub, Nat.reduceMul, Nat.reduceLeDiff, Nat.reduceLT, Nat.reduceEqDiff, Nat.reduceBEq, Nat.reduceBNe, Int.reduceNeg, Int.reduceToNat, Bool.or_false, Bool.false_or, Bool.or_true, Bool.true_or, BEq.rfl, Bool.not_eq_true, Bool.not_eq_false, decide_eq_true_eq, not_true_eq_false, not_false_eq_true, ite_true, ite_false, List.append_nil, and_assoc, Nat.mul_zero, Nat.zero_mul, fs31, ivP, ivE, e, hI, hL, if_true, lx]
  · have e : ¬ ivOk ⟨w, h, xs⟩ kind n := fun H => hO ⟨H.1, H.2.1⟩
    obtain ⟨c, hcc, hc0, hc1⟩ : ∃ c : Int, askE ⟨w, h, xs⟩ kind n = c ∧ ¬ c = 0 ∧ (if (⟨w, h, xs⟩ : Pl).Ok then if stOk kind n then 4 else 2 else 70) = c := by
      refine ⟨_, rfl, ?_, ?_⟩
      · unfold askE; split
        · rename_i hq; rw [if_neg (fun q => hO ⟨hq, q⟩)]; decide
        · decide
      · unfold askE; split
        · rename_i hq; rw [if_neg (fun q => hO ⟨hq, q⟩), if_neg (fun q => hO ⟨hq, q⟩)]
        · rfl
    simp -implicitDefEqProofs only [push_cast, false_implies, reduceCtorEq, Classical.not_not, Nat.reduceAdd, Nat.reduceSub, Nat.reduceMul, Nat.reduceLeDiff, Nat.reduceLT, Nat.reduceEqDiff, Nat.reduceBEq, Nat.reduceBNe, Int.reduceNeg, Int.reduceToNat, Bool.or_false, Bool.false_or, Bool.or_true, Bool.true_or, BEq.rfl, Bool.not_eq_true, Bool.not_eq_false, decide_eq_true_eq, not_true_eq_false, not_false_eq_true, ite_true, ite_false, List.append_nil, and_assoc, Nat.mul_zero, Nat.zero_mul, hcc, hp, hc0]
    refine fun X => postF.mk' (fun _ => default) [some 0, none] ?_
    simp -implicitDefEqProofs only [push_cast, false_implies, reduceCtorEq, Classical.not_not, Nat.reduceAdd, Nat.reduceSub, Nat.reduceMul, Nat.reduceLeDiff, Nat.reduceLT, Nat.reduceEqDiff, Nat.reduceBEq, Nat.reduceBNe, Int.reduceNeg, Int.reduceToNat, Bool.or_false, Bool.false_or, Bool.or_true, Bool.true_or, BEq.rfl, Bool.not_eq_true, Bool.not_eq_false, decide_eq_true_eq, not_true_eq_false, not_false_eq_true, ite_true, ite_false, List.append_nil, and_assoc, Nat.mul_zero, Nat.zero_mul, fs31, ivP, ivE, e, hc1, if_false, lx, pl0]
def ent31 : Entry := spOf fs31 inv51
theorem e31 : EntryOk Try.prog 31 ent31 := entry_of ok31 inv51
@[push_cast] theorem ent31_app (us : List SV) (look : Look) (x : Nat → Xf.Loc) (k : Nat) : ent31 us look x k = spOf fs31 inv51 us look x k := rfl
theorem rd_unL {kind : Int} {n k : Nat} (h : k < n) (f : Int → Int) : rd (unL kind n f) (k : Int) = unF2 kind n f (n / 2) k := by unfold unL; rw [rd_tabl h]
theorem rows_back {kind : Int} {W w h : Nat} (hw : w ≤ W) {ws : List Int} (hh : h * W ≤ ws.length) : rwL unL kind W w (rwL lineL kind W w ws h) h = ws := by
  refine eq_of_rd (by rw [rwL_length, rwL_length]) fun k hk => ?_
  rw [rwL_at trn_unline hw _ h (by rw [rwL_length]; exact hh)]
  split
  · rename_i hc
    obtain ⟨h1, h2⟩ := hc
    have e : ∀ j : Nat, j < w → rowF (rwL lineL kind W w ws h) ((k / W * W : Nat) : Int) 1 w j = (fun j => rd (lineL kind w (rowF ws ((k / W * W : Nat) : Int) 1 w)) j) j := fun j hj => by
      have hd : (k / W * W + j) / W = k / W := by rw [Nat.mul_comm, Nat.mul_add_div (by omega), Nat.div_eq_of_lt (show j < W by omega), Nat.add_zero]
      have hr : (k / W * W + j) % W = j := by rw [Nat.mul_comm, Nat.mul_add_mod, Nat.mod_eq_of_lt (by omega)]
      rw [rowF_at hj]
      have e1 : ((k / W * W : Nat) : Int) + j * 1 = ((k / W * W + j : Nat) : Int) := by omega
      rw [e1, rwL_at trn_line hw ws h hh, if_pos ⟨by rw [hd]; exact h1, by rw [hr]; exact hj⟩, hd, hr]
    rw [trn_unline.congr kind w _ _ e, rd_unL h2, un_line h2, rowF_at h2]
    congr 1
    have := place (W := W) (k := k)
    omega
  · rename_i hc
    rw [rwL_at trn_line hw ws h hh, if_neg hc]
theorem cols_back {kind : Int} {W w h : Nat} (hw : w ≤ W) {ws : List Int} (hh : h * W ≤ ws.length) : clL unL kind W h (clL lineL kind W h ws w) w = ws := by
  refine eq_of_rd (by rw [clL_length, clL_length]) fun k hk => ?_
  rw [clL_at trn_unline _ (by rw [clL_length]; exact hh) w hw]
  split
  · rename_i hc
    obtain ⟨h1, h2⟩ := hc
    have e : ∀ j : Nat, j < h → rowF (clL lineL kind W h ws w) ((k % W : Nat) : Int) W h j = (fun j => rd (lineL kind h (rowF ws ((k % W : Nat) : Int) W h)) j) j := fun j hj => by
      have hlt : k % W < W := by omega
      have hd : (k % W + j * W) / W = j := by rw [Nat.add_mul_div_right _ _ (by omega), Nat.div_eq_of_lt hlt, Nat.zero_add]
      have hr : (k % W + j * W) % W = k % W := by rw [Nat.add_mul_mod_self_right, Nat.mod_mod]
      rw [rowF_at hj]
      have e1 : ((k % W : Nat) : Int) + j * W = ((k % W + j * W : Nat) : Int) := by simp
      rw [e1, clL_at trn_line ws hh w hw, if_pos ⟨by rw [hr]; exact h1, by rw [hd]; exact hj⟩, hd, hr]
    rw [trn_unline.congr kind h _ _ e, rd_unL h2, un_line h2, rowF_at h2]
    congr 1
    have := place (W := W) (k := k)
    have e2 : ((k / W * W : Nat) : Int) = ((k / W : Nat) : Int) * W := by simp
    omega
  · rename_i hc
    rw [clL_at trn_line ws hh w hw, if_neg hc]
theorem st_back {kind : Int} {W w h : Nat} (hw : w ≤ W) {ws : List Int} (hh : h * W ≤ ws.length) : stI unL kind W (stF lineL kind W ws w h) w h = ws := by
  unfold stI stF
  rw [cols_back hw (by rw [rwL_length]; exact hh), rows_back hw hh]
theorem bwd_fwd {kind : Int} {W H n : Nat} {xs : List Int} (hl : xs.length = H * W) : ∀ i, i ≤ n → bwd unL kind W H n (fwd lineL kind W H xs n) i = fwd lineL kind W H xs (n - i)
  | 0, _ => rfl
  | i + 1, hi => by
    rw [bwd, bwd_fwd hl i (by omega)]
    have e : n - i = (n - 1 - i) + 1 := by omega
    rw [e, fwd, st_back (hlf_le W _) (by rw [fwd_length, hl]; exact Nat.mul_le_mul_right _ (hlf_le H _))]
    congr 1; omega
/-- A line is not far from what it is of. -/
theorem line_bd2 {kind : Int} {n : Nat} {f : Int → Int} {B : Int} (h : BdF B f) (h0 : 0 ≤ B) : AllIn (-(2 * B + 1)) (2 * B + 1) (lineL kind n f) := by
  intro v hv
  unfold lineL at hv
  rcases List.mem_append.1 hv with hv | hv
  · obtain ⟨j, hj, rfl⟩ := List.mem_map.1 hv
    have h1 := h (2 * j)
    have hb : BdF (2 * B) (fun j => rd (hiL kind n f) j) := BdF.rd0 (hiL_bd (kind := kind) (n := n) h) (by omega)
    have h2 := hb (j : Nat)
    have h3 := hb (max ((j : Nat) - 1) 0)
    have h4 := hb (min (j : Nat) (((n / 2 : Nat) : Int) - 1))
    simp only [] at h2 h3 h4
    simp only [loF, liftG]
    split
    · omega
    · split <;> omega
  · have := hiL_bd h v hv
    omega
theorem rwL_bd2 {kind : Int} {W w : Nat} (hw : w ≤ W) {ws : List Int} {m : Nat} (hm : m * W ≤ ws.length) {B : Int} (hB : AllIn (-B) B ws) (h0 : 0 ≤ B) : AllIn (-(2 * B + 1)) (2 * B + 1) (rwL lineL kind W w ws m) := by
  rw [allIn_rd]
  intro k hk
  rw [rwL_at trn_line hw ws m hm]
  split
  · exact rd_bd (line_bd2 (rowF_bd hB h0) h0) (by omega) (by omega) _
  · have := rd_bd hB (by omega) h0 (k : Int); omega
theorem clL_bd2 {kind : Int} {W h : Nat} {ws : List Int} (hh : h * W ≤ ws.length) {m : Nat} (hm : m ≤ W) {B : Int} (hB : AllIn (-B) B ws) (h0 : 0 ≤ B) : AllIn (-(2 * B + 1)) (2 * B + 1) (clL lineL kind W h ws m) := by
  rw [allIn_rd]
  intro k hk
  rw [clL_at trn_line ws hh m hm]
  split
  · exact rd_bd (line_bd2 (rowF_bd hB h0) h0) (by omega) (by omega) _
  · have := rd_bd hB (by omega) h0 (k : Int); omega
def bnd2 (B : Int) : Nat → Int
  | 0 => B
  | i + 1 => 4 * bnd2 B i + 3
theorem fwd_bd2 {kind : Int} {W H : Nat} {xs : List Int} (hl : xs.length = H * W) {B : Int} (h0 : 0 ≤ B) (h : AllIn (-B) B xs) : ∀ i, 0 ≤ bnd2 B i ∧ AllIn (-(bnd2 B i)) (bnd2 B i) (fwd lineL kind W H xs i)
  | 0 => ⟨h0, h⟩
  | i + 1 => by
    obtain ⟨p, q⟩ := fwd_bd2 (kind := kind) hl h0 h i
    have hm : hlf H i * W ≤ (fwd lineL kind W H xs i).length := by rw [fwd_length, hl]; exact Nat.mul_le_mul_right _ (hlf_le H i)
    have r1 := rwL_bd2 (kind := kind) (hlf_le W i) hm q p
    have r2 := clL_bd2 (kind := kind) (by rw [rwL_length]; exact hm) (hlf_le W i) r1 (by omega)
    refine ⟨by simp only [bnd2]; omega, ?_⟩
    simp only [bnd2]
    rw [show 4 * bnd2 B i + 3 = 2 * (2 * bnd2 B i + 1) + 1 by omega]
    exact r2
theorem fwd_small {kind : Int} {W H n : Nat} {xs : List Int} (hl : xs.length = H * W) (h : AllIn (-1024) 1024 xs) (hn : n ≤ 6) : AllIn (-16777216) 16777216 (fwd lineL kind W H xs n) := by
  obtain ⟨p, q⟩ := fwd_bd2 (kind := kind) hl (B := 1024) (by omega) h n
  have key : bnd2 1024 n ≤ 16777216 := by
    have : n = 0 ∨ n = 1 ∨ n = 2 ∨ n = 3 ∨ n = 4 ∨ n = 5 ∨ n = 6 := by omega
    rcases this with rfl | rfl | rfl | rfl | rfl | rfl | rfl <;> decide
  intro v hv
  have := q v hv
  omega
theorem fw_iv {p : Pl} {kind n : Int} (h : fwOk p kind n) : ivOk (fwP p kind n) kind n ∧ ivP (fwP p kind n) kind n = p := by
  obtain ⟨w, h', xs⟩ := p
  obtain ⟨hO, hS, hB⟩ := id h
  obtain ⟨hs, hl, ha⟩ : SidesOk w h' ∧ (xs.length : Int) = w * h' ∧ AllIn (-16777216) 16777216 xs := id hO
  obtain ⟨W, H, rfl, rfl, hW, hH, hl2, hl3⟩ := Pl.nat hs hl
  obtain ⟨hk, hn0, hn6⟩ := id hS
  obtain ⟨n, rfl⟩ : ∃ m : Nat, n = (m : Int) := ⟨n.toNat, by omega⟩
  have hB : AllIn (-1024) 1024 xs := hB
  have e : fwP ⟨W, H, xs⟩ kind n = ⟨W, H, fwd lineL kind W H xs n⟩ := by unfold fwP; rw [if_pos h]; simp only [Int.toNat_natCast]
  have e2 : ivL ⟨W, H, fwd lineL kind W H xs n⟩ kind n = xs := by
    unfold ivL
    simp only [Int.toNat_natCast]
    rw [bwd_fwd hl2 n (Nat.le_refl _), Nat.sub_self]; rfl
  have e3 : ivOk ⟨W, H, fwd lineL kind W H xs n⟩ kind n := ⟨⟨hs, by rw [fwd_length]; exact hl, fwd_small hl2 hB (by omega)⟩, hS, by rw [e2]; exact ha⟩
  rw [e]
  refine ⟨e3, ?_⟩
  unfold ivP
  rw [if_pos e3, e2]
theorem fwP_len' {p : Pl} {kind n : Int} (hp : p.xs.length ≤ 140737488355328) : (fwP p kind n).xs.length ≤ 140737488355328 := by
  unfold fwP
  split
  · simp only [fwd_length]; exact hp
  · exact Nat.zero_le _
theorem turn_back {i : Im} (h : i.Ok) : ((turn tY i).xs.length = i.R.length ∧ (turn tU i).xs.length = i.R.length ∧ (turn tV i).xs.length = i.R.length) ∧
    ∀ L1 L2 L3, (⟨⟨turn tY i, L1⟩, ⟨turn tU i, L2⟩, ⟨turn tV i, L3⟩⟩ : Bk).Ok ∧ backI ⟨⟨turn tY i, L1⟩, ⟨turn tU i, L2⟩, ⟨turn tV i, L3⟩⟩ = i := by
  have hs := h.1
  have hl := h.2.1.1
  obtain ⟨e1, e2, hv⟩ := h.val
  have eY : turn tY i = ⟨i.w, i.h, tabl i.R.length (tY i)⟩ := if_pos h
  have eU : turn tU i = ⟨i.w, i.h, tabl i.R.length (tU i)⟩ := if_pos h
  have eV : turn tV i = ⟨i.w, i.h, tabl i.R.length (tV i)⟩ := if_pos h
  rw [eY, eU, eV]
  refine ⟨⟨tabl_length _ _, tabl_length _ _, tabl_length _ _⟩, fun L1 L2 L3 => ?_⟩
  have key : ∀ f : Nat → Int, (∀ k : Nat, k < i.R.length → -16777216 ≤ f k ∧ f k ≤ 16777216) → (⟨i.w, i.h, tabl i.R.length f⟩ : Pl).Ok := by
    intro f hf
    refine ⟨hs, by simp only [tabl_length]; exact hl, ?_⟩
    rw [allIn_rd]
    intro j hj
    simp only [tabl_length] at hj ⊢
    rw [rd_tabl hj]; exact hf j hj
  have hO : (⟨⟨⟨i.w, i.h, tabl i.R.length (tY i)⟩, L1⟩, ⟨⟨i.w, i.h, tabl i.R.length (tU i)⟩, L2⟩, ⟨⟨i.w, i.h, tabl i.R.length (tV i)⟩, L3⟩⟩ : Bk).Ok := by
    refine ⟨⟨key _ ?_, key _ ?_, key _ ?_⟩, rfl, rfl, rfl, rfl⟩ <;> intro k hk <;> have := hv k hk <;> simp only [tY, tU, tV] <;> omega
  refine ⟨hO, ?_⟩
  unfold backI
  rw [if_pos hO]
  simp only [tabl_length]
  obtain ⟨w, hh, R, G, B⟩ := i
  simp only at e1 e2 hv
  have qR : tabl R.length (bkR (tabl R.length (tY ⟨w, hh, R, G, B⟩)) (tabl R.length (tU ⟨w, hh, R, G, B⟩)) (tabl R.length (tV ⟨w, hh, R, G, B⟩))) = R := by
    refine eq_of_rd (tabl_length _ _) fun j hj => ?_
    rw [tabl_length] at hj
    rw [rd_tabl hj]; unfold bkR bG; rw [rd_tabl hj, rd_tabl hj, rd_tabl hj]
    have := hv j hj
    simp only [tY, tU, tV, clampI]; omega
  have qG : tabl R.length (bkG (tabl R.length (tY ⟨w, hh, R, G, B⟩)) (tabl R.length (tU ⟨w, hh, R, G, B⟩)) (tabl R.length (tV ⟨w, hh, R, G, B⟩))) = G := by
    refine eq_of_rd (by rw [tabl_length, e1]) fun j hj => ?_
    rw [tabl_length] at hj
    rw [rd_tabl hj]; unfold bkG bG; rw [rd_tabl hj, rd_tabl hj, rd_tabl hj]
    have := hv j hj
    simp only [tY, tU, tV, clampI]; omega
  have qB : tabl R.length (bkB (tabl R.length (tY ⟨w, hh, R, G, B⟩)) (tabl R.length (tU ⟨w, hh, R, G, B⟩)) (tabl R.length (tV ⟨w, hh, R, G, B⟩))) = B := by
    refine eq_of_rd (by rw [tabl_length, e2]) fun j hj => ?_
    rw [tabl_length] at hj
    rw [rd_tabl hj]; unfold bkB bG; rw [rd_tabl hj, rd_tabl hj, rd_tabl hj]
    have := hv j hj
    simp only [tY, tU, tV, clampI]; omega
  rw [qR, qG, qB]
def b12_1 : IR :=
  .seq (.reg false [⟨some 37, none, ⟨[], []⟩, .bin 0 .lss (.t 36) (.t 35)⟩] [] []) (.seq (.cond (.t 37) (.skip) (.exit 0)) (.seq (.block 1 (.seq (.reg false [⟨some 38, none, ⟨[], []⟩, .mov (.t 36)⟩,
    ⟨some 39, none, ⟨[], []⟩, .idxS (.t 34) (.t 36) 3⟩,
    ⟨some 40, none, ⟨[], []⟩, .ld true (some 3) 24 1 (.t 39)⟩,
    ⟨some 13, none, ⟨[], []⟩, .alloc 25 [.int .i64 0, .int .i64 0, nilSV]⟩,
    ⟨some 12, none, ⟨[], []⟩, .mov (.t 38)⟩,
    ⟨none, none, ⟨[], []⟩, .sto false 3 .i64 (.t 13) (.t 40)⟩] [37, 38, 39, 40] []) (.seq (.reg false [⟨some 42, none, ⟨[], []⟩, .ld false (some 3) 0 0 (.t 13)⟩,
    ⟨some 43, none, ⟨[], []⟩, .mov (.t 1)⟩,
    ⟨some 44, none, ⟨[], []⟩, .mov (.t 2)⟩,
    ⟨some 45, none, ⟨[], []⟩, .call (some 4) 26 28 [.t 42, .t 43, .t 44]⟩,
    ⟨some 41, none, ⟨[], []⟩, .mov (.t 45)⟩,
    ⟨some 46, none, ⟨[], []⟩, .ext (.t 41) 0⟩,
    ⟨some 47, none, ⟨[], []⟩, .ext (.t 41) 1⟩,
    ⟨some 14, none, ⟨[], []⟩, .alloc 30 [.int .i64 0, .int .i64 0, nilSV]⟩,
    ⟨none, none, ⟨[], []⟩, .sto false 3 .i64 (.t 14) (.t 46)⟩,
    ⟨some 15, none, ⟨[], []⟩, .mov (.t 47)⟩] [13, 41, 42, 43, 44, 45, 46, 47] []) (.seq (.seq (.reg false [⟨some 48, none, ⟨[], []⟩, .mov (.t 15)⟩,
    ⟨some 49, none, ⟨[], []⟩, .bin 0 .neq (.t 48) (.k (.int .i64 0))⟩] [48] []) (.cond (.t 49) (.seq (.reg false [⟨some 50, none, ⟨[], []⟩, .mov (.t 15)⟩,
    ⟨some 51, none, ⟨[], []⟩, .bin 0 .eql (.t 50) (.k (.int .i64 2))⟩,
    ⟨some 52, none, ⟨[], []⟩, .mov (.t 51)⟩,
    ⟨some 53, some (52, true), ⟨[], []⟩, .mov (.t 1)⟩,
    ⟨some 54, some (52, true), ⟨[], []⟩, .mov (.t 2)⟩,
    ⟨some 55, some (52, true), ⟨[], []⟩, .callp 30 [.t 53, .t 54]⟩,
    ⟨some 56, some (52, true), ⟨[], []⟩, .not (.t 55)⟩,
    ⟨some 57, none, ⟨[], []⟩, .pick (.t 52) (.t 56) (.k (.bool false))⟩,
    ⟨some 58, none, ⟨[], []⟩, .mov (.t 57)⟩,
    ⟨some 59, some (58, true), ⟨[], []⟩, .call (some 4) 31 13 []⟩,
    ⟨some 60, none, ⟨[], []⟩, .pick (.t 58) (.t 59) (.k (.bool false))⟩,
    ⟨some 6, none, ⟨[], []⟩, .mov (.t 60)⟩] [1, 2, 3, 11, 12, 14, 15, 34, 35, 36, 49, 50, 51, 52, 53, 54, 55, 56, 57, 58, 59, 60] []) (.ret)) (.skip))) (.seq (.reg false [⟨some 62, none, ⟨[], []⟩, .mov (.t 12)⟩,
    ⟨some 63, none, ⟨[], []⟩, .ld false (some 3) 0 0 (.t 14)⟩,
    ⟨some 64, none, ⟨[], []⟩, .mov (.t 1)⟩,
    ⟨some 65, none, ⟨[], []⟩, .mov (.t 2)⟩,
    ⟨some 66, none, ⟨[], []⟩, .call (some 4) 35 31 [.t 63, .t 64, .t 65]⟩,
    ⟨some 61, none, ⟨[], []⟩, .mov (.t 66)⟩,
    ⟨some 67, none, ⟨[], []⟩, .ext (.t 61) 0⟩,
    ⟨some 68, none, ⟨[], []⟩, .ext (.t 61) 1⟩,
    ⟨some 69, none, ⟨[], []⟩, .idxP (.t 11) (.t 62) 3 3⟩,
    ⟨none, none, ⟨[], []⟩, .sto false 3 .i64 (.t 69) (.t 67)⟩,
    ⟨some 15, none, ⟨[], []⟩, .mov (.t 68)⟩] [6, 12, 14, 49, 61, 62, 63, 64, 65, 66, 67, 68, 69] []) (.seq (.reg false [⟨some 70, none, ⟨[], []⟩, .mov (.t 15)⟩,
    ⟨some 71, none, ⟨[], []⟩, .bin 0 .neq (.t 70) (.k (.int .i64 0))⟩] [15, 70] []) (.cond (.t 71) (.seq (.reg false [⟨some 6, none, ⟨[], []⟩, .mov (.k (.bool false))⟩] [1, 2, 3, 11, 34, 35, 36, 71] []) (.ret)) (.skip)))))))) (.reg false [⟨some 72, none, ⟨[], []⟩, .bin 0 .add (.t 36) (.k (.int .i64 1))⟩,
    ⟨some 36, none, ⟨[], []⟩, .mov (.t 72)⟩] [6, 71, 72] [])))
def r12_2 : IR :=
  .seq (.reg false [⟨some 74, none, ⟨[], []⟩, .idxP (.t 11) (.k (.int .i64 0)) 3 3⟩,
    ⟨some 75, none, ⟨[], []⟩, .ld false (some 3) 0 0 (.t 74)⟩,
    ⟨some 76, none, ⟨[], []⟩, .idxP (.t 11) (.k (.int .i64 1)) 3 3⟩,
    ⟨some 77, none, ⟨[], []⟩, .ld false (some 3) 0 0 (.t 76)⟩,
    ⟨some 78, none, ⟨[], []⟩, .idxP (.t 11) (.k (.int .i64 2)) 3 3⟩,
    ⟨some 79, none, ⟨[], []⟩, .ld false (some 3) 0 0 (.t 78)⟩,
    ⟨some 80, none, ⟨[], []⟩, .call (some 4) 39 34 [.t 75, .t 77, .t 79]⟩,
    ⟨some 73, none, ⟨[], []⟩, .mov (.t 80)⟩,
    ⟨some 81, none, ⟨[], []⟩, .ext (.t 73) 0⟩,
    ⟨some 82, none, ⟨[], []⟩, .ext (.t 73) 1⟩,
    ⟨some 16, none, ⟨[], []⟩, .alloc 43 [.int .i64 0, .int .i64 0, nilSV, nilSV, nilSV]⟩,
    ⟨none, none, ⟨[], []⟩, .sto false 5 .i64 (.t 16) (.t 81)⟩,
    ⟨some 10, none, ⟨[], []⟩, .mov (.t 82)⟩] [1, 2, 11, 34, 35, 36, 73, 74, 75, 76, 77, 78, 79, 80, 81, 82] []) (.seq (.reg false [⟨some 83, none, ⟨[], []⟩, .mov (.t 10)⟩,
    ⟨some 84, none, ⟨[], []⟩, .bin 0 .eql (.t 83) (.k (.int .i64 0))⟩,
    ⟨some 85, none, ⟨[], []⟩, .mov (.t 84)⟩,
    ⟨some 86, some (85, true), ⟨[], []⟩, .ld false (some 5) 0 0 (.t 3)⟩,
    ⟨some 87, some (85, true), ⟨[], []⟩, .ld false (some 5) 0 0 (.t 16)⟩,
    ⟨some 88, some (85, true), ⟨[], []⟩, .call (some 4) 44 35 [.t 86, .t 87]⟩,
    ⟨some 89, none, ⟨[], []⟩, .pick (.t 85) (.t 88) (.k (.bool false))⟩,
    ⟨some 90, none, ⟨[], []⟩, .mov (.t 89)⟩,
    ⟨some 91, some (90, true), ⟨[], []⟩, .call (some 4) 48 13 []⟩,
    ⟨some 92, none, ⟨[], []⟩, .pick (.t 90) (.t 91) (.k (.bool false))⟩,
    ⟨some 6, none, ⟨[], []⟩, .mov (.t 92)⟩] [3, 10, 16, 83, 84, 85, 86, 87, 88, 89, 90, 91, 92] []) (.ret))
def ir12 : IR :=
  .seq (.reg false [⟨some 3, none, ⟨[], []⟩, .box 10 (.t 0)⟩,
    ⟨some 6, none, ⟨[], []⟩, .mov (.k (.bool false))⟩] [0, 6] []) (.seq (.reg false [⟨some 18, none, ⟨[], []⟩, .ld false (some 5) 0 0 (.t 3)⟩,
    ⟨some 19, none, ⟨[], []⟩, .call (some 4) 11 33 [.t 18]⟩,
    ⟨some 17, none, ⟨[], []⟩, .mov (.t 19)⟩,
    ⟨some 20, none, ⟨[], []⟩, .ext (.t 17) 0⟩,
    ⟨some 21, none, ⟨[], []⟩, .ext (.t 17) 1⟩,
    ⟨some 22, none, ⟨[], []⟩, .ext (.t 17) 2⟩,
    ⟨some 23, none, ⟨[], []⟩, .ext (.t 17) 3⟩,
    ⟨some 7, none, ⟨[], []⟩, .alloc 15 [.int .i64 0, .int .i64 0, nilSV]⟩,
    ⟨some 8, none, ⟨[], []⟩, .alloc 16 [.int .i64 0, .int .i64 0, nilSV]⟩,
    ⟨some 9, none, ⟨[], []⟩, .alloc 17 [.int .i64 0, .int .i64 0, nilSV]⟩,
    ⟨none, none, ⟨[], []⟩, .sto false 3 .i64 (.t 7) (.t 20)⟩,
    ⟨none, none, ⟨[], []⟩, .sto false 3 .i64 (.t 8) (.t 21)⟩,
    ⟨none, none, ⟨[], []⟩, .sto false 3 .i64 (.t 9) (.t 22)⟩,
    ⟨some 10, none, ⟨[], []⟩, .mov (.t 23)⟩] [17, 18, 19, 20, 21, 22, 23] []) (.seq (.seq (.reg false [⟨some 24, none, ⟨[], []⟩, .mov (.t 10)⟩,
    ⟨some 25, none, ⟨[], []⟩, .bin 0 .neq (.t 24) (.k (.int .i64 0))⟩] [24] []) (.cond (.t 25) (.seq (.reg false [⟨some 26, none, ⟨[], []⟩, .mov (.t 10)⟩,
    ⟨some 27, none, ⟨[], []⟩, .bin 0 .eql (.t 26) (.k (.int .i64 75))⟩,
    ⟨some 28, none, ⟨[], []⟩, .mov (.t 27)⟩,
    ⟨some 29, some (28, true), ⟨[], []⟩, .call (some 4) 18 13 []⟩,
    ⟨some 30, none, ⟨[], []⟩, .pick (.t 28) (.t 29) (.k (.bool false))⟩,
    ⟨some 6, none, ⟨[], []⟩, .mov (.t 30)⟩] [1, 2, 3, 7, 8, 9, 10, 25, 26, 27, 28, 29, 30] []) (.ret)) (.skip))) (.seq (.reg false [⟨some 11, none, ⟨[], []⟩, .alloc 22 [.int .i64 0, .int .i64 0, nilSV, .int .i64 0, .int .i64 0, nilSV, .int .i64 0, .int .i64 0, nilSV]⟩] [6, 10, 25] []) (.seq (.seq (.reg false [⟨some 31, none, ⟨[], []⟩, .ld false (some 3) 0 0 (.t 7)⟩,
    ⟨some 32, none, ⟨[], []⟩, .ld false (some 3) 0 0 (.t 8)⟩,
    ⟨some 33, none, ⟨[], []⟩, .ld false (some 3) 0 0 (.t 9)⟩,
    ⟨some 34, none, ⟨[], []⟩, .brecs 23 3 .i64 [.t 31, .t 32, .t 33]⟩,
    ⟨some 35, none, ⟨[], []⟩, .len (.t 34)⟩,
    ⟨some 36, none, ⟨[], []⟩, .mov (.k (.int .i64 0))⟩] [7, 8, 9, 31, 32, 33] []) (.block 0 (.loop b12_1))) (r12_2)))))
def kp12_1 : List Nat := [1, 2, 3, 11, 34, 35, 36]
def kl12_1 : List Nat := [24, 25, 26, 27, 28, 29, 30, 31, 32, 33, 34, 35, 36, 37, 38]
attribute [push_cast] kp12_1 kl12_1
set_option maxRecDepth 4000 in
theorem comp12 : (Try.f12.body.bind fun c => compC tab isP chkAll ir12 c) = some ir12 := by kernel_rfl
def twC (w h : Int) (n0 n1 n2 : Int) (N0 N1 N2 : Xf.Loc) : Nat → List SV
  | 0 => [.int .i64 0, .int .i64 0, nilSV, .int .i64 0, .int .i64 0, nilSV, .int .i64 0, .int .i64 0, nilSV]
  | 1 => [.int .i64 w, .int .i64 h, .sl 52 N0 1 0 n0, .int .i64 0, .int .i64 0, nilSV, .int .i64 0, .int .i64 0, nilSV]
  | 2 => [.int .i64 w, .int .i64 h, .sl 52 N0 1 0 n0, .int .i64 w, .int .i64 h, .sl 53 N1 1 0 n1, .int .i64 0, .int .i64 0, nilSV]
  | _ => [.int .i64 w, .int .i64 h, .sl 52 N0 1 0 n0, .int .i64 w, .int .i64 h, .sl 53 N1 1 0 n1, .int .i64 w, .int .i64 h, .sl 54 N2 1 0 n2]
def twM (w h : Int) (Y U V : List Int) (LB : Xf.Loc) (N0 N1 N2 : Xf.Loc) (k : Nat) : List (Nat × Xf.Own × Xf.Loc × Chunk) :=
  match k with
  | 0 => [(22, .mine, LB, .cells (twC w h Y.length U.length V.length N0 N1 N2 0))]
  | 1 => [(22, .mine, LB, .cells (twC w h Y.length U.length V.length N0 N1 N2 1)), (52, .mine, N0, .ints .i64 Y)]
  | 2 => [(22, .mine, LB, .cells (twC w h Y.length U.length V.length N0 N1 N2 2)), (52, .mine, N0, .ints .i64 Y), (53, .mine, N1, .ints .i64 U)]
  | _ => [(22, .mine, LB, .cells (twC w h Y.length U.length V.length N0 N1 N2 3)), (52, .mine, N0, .ints .i64 Y), (53, .mine, N1, .ints .i64 U), (54, .mine, N2, .ints .i64 V)]
theorem turn_small {i : Im} (h : i.Ok) : ∃ Y U V, turn tY i = ⟨i.w, i.h, Y⟩ ∧ turn tU i = ⟨i.w, i.h, U⟩ ∧ turn tV i = ⟨i.w, i.h, V⟩ ∧ Y.length = i.R.length ∧ U.length = i.R.length ∧ V.length = i.R.length ∧
    AllIn (-1024) 1024 Y ∧ AllIn (-1024) 1024 U ∧ AllIn (-1024) 1024 V ∧ (⟨i.w, i.h, Y⟩ : Pl).Ok ∧ (⟨i.w, i.h, U⟩ : Pl).Ok ∧ (⟨i.w, i.h, V⟩ : Pl).Ok := by
  obtain ⟨e1, e2, hv⟩ := h.val
  have eY : turn tY i = ⟨i.w, i.h, tabl i.R.length (tY i)⟩ := if_pos h
  have eU : turn tU i = ⟨i.w, i.h, tabl i.R.length (tU i)⟩ := if_pos h
  have eV : turn tV i = ⟨i.w, i.h, tabl i.R.length (tV i)⟩ := if_pos h
  have key : ∀ f : Nat → Int, (∀ k : Nat, k < i.R.length → -1024 ≤ f k ∧ f k ≤ 1024) → AllIn (-1024) 1024 (tabl i.R.length f) := by
    intro f hf
    rw [allIn_rd]
    intro j hj
    simp only [tabl_length] at hj
    rw [rd_tabl hj]; exact hf j hj
  obtain ⟨k1, -⟩ := (turn_back h).2 default default default
  obtain ⟨⟨k1, k2, k3⟩, -⟩ := k1
  simp only [eY, eU, eV] at k1 k2 k3
  refine ⟨_, _, _, eY, eU, eV, tabl_length _ _, tabl_length _ _, tabl_length _ _, key _ ?_, key _ ?_, key _ ?_, k1, k2, k3⟩ <;> intro k hk <;> have := hv k hk <;> simp only [tY, tU, tV] <;> omega
set_option maxHeartbeats 2000000 in
theorem tri12 (i : Im) (hi : i.small) (kind n : Int) (L1 L2 L3 : Xf.Loc) : Tri Try.prog 12 [.agg [.int .i64 i.w, .int .i64 i.h, .sl 0 L1 1 0 i.R.length, .sl 1 L2 1 0 i.G.length, .sl 2 L3 1 0 i.B.length], .int .i64 kind, .int .i64 n]
    (imM i L1 L2 L3) (fun v _ => v = .bool true) := by
  have hi2 := hi
  have hR := hi.1
  by_cases hc : i.Ok
  · obtain ⟨Y, U, V, hA, hB, hC, l1, l2, l3, a1, a2, a3, o1, o2, o3⟩ := turn_small hc
    obtain ⟨-, hb⟩ := turn_back hc
    have hr := Im.Eq.refl i
    have k1 : ∀ L1 L2 L3, (⟨⟨turn tY i, L1⟩, ⟨turn tU i, L2⟩, ⟨turn tV i, L3⟩⟩ : Bk).Ok := fun L1 L2 L3 => (hb L1 L2 L3).1
    have k2 : ∀ L1 L2 L3, backI ⟨⟨turn tY i, L1⟩, ⟨turn tU i, L2⟩, ⟨turn tV i, L3⟩⟩ = i := fun L1 L2 L3 => (hb L1 L2 L3).2
    rw [hA, hB, hC] at k1 k2
    obtain ⟨W, H, R, G, E⟩ := i
    simp only at l1 l2 l3 hR
    have c0 : ∀ xs : List Int, sub xs 0 (xs.length : Int) = xs := fun xs => by unfold sub; simp
    refine tri_evS (hyp (l := [(13, ent13), (35, ent35), (33, ent33), (34, ent34), (28, ent28), (31, ent31)]) (lp := [(30, styF)]) ⟨e13, e35, e33, e34, e28, e31, trivial⟩ ⟨p30, trivial⟩) Try.func12 comp12 (rs := [.tmp 6]) (by rfl) Try.ntmps12 52 ?_
    simp -implicitDefEqProofs only [push_cast, false_implies, reduceCtorEq, Classical.not_not, Nat.reduceAdd, Nat.reduceSub, Nat.reduceMul, Nat.reduceLeDiff, Nat.reduceLT, Nat.reduceEqDiff, Nat.reduceBEq, Nat.reduceBNe, Int.reduceNeg, Int.reduceToNat, Bool.or_false, Bool.false_or, Bool.or_true, Bool.true_or, BEq.rfl, Bool.not_eq_true, Bool.not_eq_false, decide_eq_true_eq, not_true_eq_false, not_false_eq_true, ite_true, ite_false, List.append_nil, and_assoc, Nat.mul_zero, Nat.zero_mul, ir12, fs13, fs33, hi2, hc, hA, hB, hC, if_true, c0 Y, c0 U, c0 V]
    intro X X1 X2 X3
    repeat (refine And.intro (by first | omega | trivial | (intros; omega)) ?_)
    obtain ⟨LB, hLB⟩ : ∃ LB, X2 0 22 = LB := ⟨_, rfl⟩
    simp only [hLB]
    refine evS_loopU (A := Nat × Xf.Loc × Xf.Loc × Xf.Loc) kp12_1 kl12_1 (fun y => [(36, .int .i64 y.1)]) (fun y => twM W H Y U V LB y.2.1 y.2.2.1 y.2.2.2 y.1) (fun y => y.1 ≤ 3 ∧ (¬ stOk kind n → y.1 = 0)) (fun y => 3 - y.1) (0, default, default, default) ⟨Nat.zero_le _, fun _ => rfl⟩ (Sub.pt ?_) ?_
    · simp -implicitDefEqProofs only [push_cast, false_implies, reduceCtorEq, Classical.not_not, Nat.reduceAdd, Nat.reduceSub, Nat.reduceMul, Nat.reduceLeDiff, Nat.reduceLT, Nat.reduceEqDiff, Nat.reduceBEq, Nat.reduceBNe, Int.reduceNeg, Int.reduceToNat, Bool.or_false, Bool.false_or, Bool.or_true, Bool.true_or, BEq.rfl, Bool.not_eq_true, Bool.not_eq_false, decide_eq_true_eq, not_true_eq_false, not_false_eq_true, ite_true, ite_false, List.append_nil, and_assoc, Nat.mul_zero, Nat.zero_mul, twM, twC]
    intro ⟨k, N0, N1, N2⟩ ⟨(hk : k ≤ 3), (hk0 : ¬ stOk kind n → k = 0)⟩ K hK
    by_cases hS : stOk kind n
    · have hF0 : fwOk ⟨W, H, Y⟩ kind n := ⟨o1, hS, a1⟩
      have hF1 : fwOk ⟨W, H, U⟩ kind n := ⟨o2, hS, a2⟩
      have hF2 : fwOk ⟨W, H, V⟩ kind n := ⟨o3, hS, a3⟩
      have fE : ∀ {p : Pl}, fwOk p kind n → fwE p kind n = 0 := fun h => by unfold fwE; rw [if_pos h]
      have iE : ∀ {p : Pl}, ivOk p kind n → ivE p kind n = 0 := fun h => by unfold ivE; rw [if_pos h]
      have s0 := fwP_len' (p := ⟨W, H, Y⟩) (kind := kind) (n := n) (by simp only; omega)
      have s1 := fwP_len' (p := ⟨W, H, U⟩) (kind := kind) (n := n) (by simp only; omega)
      have s2 := fwP_len' (p := ⟨W, H, V⟩) (kind := kind) (n := n) (by simp only; omega)
      have fE0 := fE hF0
      have fE1 := fE hF1
      have fE2 := fE hF2
      obtain ⟨i0, j0⟩ := fw_iv hF0
      obtain ⟨i1, j1⟩ := fw_iv hF1
      obtain ⟨i2, j2⟩ := fw_iv hF2
      have iE0 := iE i0
      have iE1 := iE i1
      have iE2 := iE i2
      clear fE iE a1 a2 a3
      generalize hU0 : fwP ⟨W, H, Y⟩ kind n = U0 at s0 i0 j0 iE0
      generalize hU1 : fwP ⟨W, H, U⟩ kind n = U1 at s1 i1 j1 iE1
      generalize hU2 : fwP ⟨W, H, V⟩ kind n = U2 at s2 i2 j2 iE2
      obtain ⟨w0, h0, u0⟩ := U0
      obtain ⟨w1, h1, u1⟩ := U1
      obtain ⟨w2, h2, u2⟩ := U2
      simp only at s0 s1 s2
      have hk4 : k = 0 ∨ k = 1 ∨ k = 2 ∨ k = 3 := by omega
      rcases hk4 with rfl | rfl | rfl | rfl
      · obtain ⟨q, hq⟩ : ∃ q : Int, q = 0 := ⟨_, rfl⟩
        have ek : ((0 : Nat) : Int) = q := by omega
        have t : q.toNat = 0 := by omega
        have r1 : ∀ (z a b c : List RC), recAt q z [a, b, c] = a := fun _ _ _ _ => by rw [hq]; rfl
        simp only [ek]
        simp -implicitDefEqProofs only [push_cast, false_implies, reduceCtorEq, Classical.not_not, Nat.reduceAdd, Nat.reduceSub, Nat.reduceMul, Nat.reduceLeDiff, Nat.reduceLT, Nat.reduceEqDiff, Nat.reduceBEq, Nat.reduceBNe, Int.reduceNeg, Int.reduceToNat, Bool.or_false, Bool.false_or, Bool.or_true, Bool.true_or, BEq.rfl, Bool.not_eq_true, Bool.not_eq_false, decide_eq_true_eq, not_true_eq_false, not_false_eq_true, ite_true, ite_false, List.append_nil, and_assoc, Nat.mul_zero, Nat.zero_mul, twM, twC, b12_1, r1, t, fs28, fs31, hU0, fE0, j0, iE0, s0]
        refine ⟨fun _ X5 => ?_, fun h => by omega⟩
        repeat (refine And.intro (by first | omega | trivial | (intros; omega)) ?_)
        intro X6
        repeat (refine And.intro (by first | omega | trivial | (intros; omega)) ?_)
        intro X7
        repeat (refine And.intro (by first | omega | trivial | (intros; omega)) ?_)
        refine hK (1, lx (ivOk ⟨w0, h0, u0⟩ kind n) (fun j => X7 4 (35 + j)) 0, N1, N2) ⟨by simp only; omega, fun h => absurd hS h⟩ (by show 3 - _ < 3 - _; simp only; omega) _ _ (Sub.of (mkG 55 [(0, 0), (1, 1), (2, 2), (10, 10), (11, 11), (12, 12), (13, 13), (15, 15), (16, 16), (17, 17), (22, 22), (23, 23), (52, 35)]) ?_)
        have e1 : q + 1 = 1 := by omega
        simp -implicitDefEqProofs only [push_cast, false_implies, reduceCtorEq, Classical.not_not, Nat.reduceAdd, Nat.reduceSub, Nat.reduceMul, Nat.reduceLeDiff, Nat.reduceLT, Nat.reduceEqDiff, Nat.reduceBEq, Nat.reduceBNe, Int.reduceNeg, Int.reduceToNat, Bool.or_false, Bool.false_or, Bool.or_true, Bool.true_or, BEq.rfl, Bool.not_eq_true, Bool.not_eq_false, decide_eq_true_eq, not_true_eq_false, not_false_eq_true, ite_true, ite_false, List.append_nil, and_assoc, Nat.mul_zero, Nat.zero_mul, twM, twC, e1]
      · obtain ⟨q, hq⟩ : ∃ q : Int, q = 1 := ⟨_, rfl⟩
        have ek : ((1 : Nat) : Int) = q := by omega
        have t : q.toNat = 1 := by omega
        have r1 : ∀ (z a b c : List RC), recAt q z [a, b, c] = b := fun _ _ _ _ => by rw [hq]; rfl
        simp only [ek]
        simp -implicitDefEqProofs only [push_cast, false_implies, reduceCtorEq, Classical.not_not, Nat.reduceAdd, Nat.reduceSub, Nat.reduceMul, Nat.reduceLeDiff, Nat.reduceLT, Nat.reduceEqDiff, Nat.reduceBEq, Nat.reduceBNe, Int.reduceNeg, Int.reduceToNat, Bool.or_false, Bool.false_or, Bool.or_true, Bool.true_or, BEq.rfl, Bool.not_eq_true, Bool.not_eq_false, decide_eq_true_eq, not_true_eq_false, not_false_eq_true, ite_true, ite_false, List.append_nil, and_assoc, Nat.mul_zero, Nat.zero_mul, twM, twC, b12_1, r1, t, fs28, fs31, hU1, fE1, j1, iE1, s1]
        refine ⟨fun _ X5 => ?_, fun h => by omega⟩
        repeat (refine And.intro (by first | omega | trivial | (intros; omega)) ?_)
        intro X6
        repeat (refine And.intro (by first | omega | trivial | (intros; omega)) ?_)
        intro X7
        repeat (refine And.intro (by first | omega | trivial | (intros; omega)) ?_)
        refine hK (2, N0, lx (ivOk ⟨w1, h1, u1⟩ kind n) (fun j => X7 4 (35 + j)) 0, N2) ⟨by simp only; omega, fun h => absurd hS h⟩ (by show 3 - _ < 3 - _; simp only; omega) _ _ (Sub.of (mkG 55 [(0, 0), (1, 1), (2, 2), (10, 10), (11, 11), (12, 12), (13, 13), (15, 15), (16, 16), (17, 17), (22, 22), (23, 23), (52, 52), (53, 35)]) ?_)
        have e1 : q + 1 = 1 + 1 := by omega
        simp -implicitDefEqProofs only [push_cast, false_implies, reduceCtorEq, Classical.not_not, Nat.reduceAdd, Nat.reduceSub, Nat.reduceMul, Nat.reduceLeDiff, Nat.reduceLT, Nat.reduceEqDiff, Nat.reduceBEq, Nat.reduceBNe, Int.reduceNeg, Int.reduceToNat, Bool.or_false, Bool.false_or, Bool.or_true, Bool.true_or, BEq.rfl, Bool.not_eq_true, Bool.not_eq_false, decide_eq_true_eq, not_true_eq_false, not_false_eq_true, ite_true, ite_false, List.append_nil, and_assoc, Nat.mul_zero, Nat.zero_mul, twM, twC, e1]
      · obtain ⟨q, hq⟩ : ∃ q : Int, q = 2 := ⟨_, rfl⟩
        have ek : ((2 : Nat) : Int) = q := by omega
        have t : q.toNat = 2 := by omega
        have r1 : ∀ (z a b c : List RC), recAt q z [a, b, c] = c := fun _ _ _ _ => by rw [hq]; rfl
        simp only [ek]
        simp -implicitDefEqProofs only [push_cast, false_implies, reduceCtorEq, Classical.not_not, Nat.reduceAdd, Nat.reduceSub, Nat.reduceMul, Nat.reduceLeDiff, Nat.reduceLT, Nat.reduceEqDiff, Nat.reduceBEq, Nat.reduceBNe, Int.reduceNeg, Int.reduceToNat, Bool.or_false, Bool.false_or, Bool.or_true, Bool.true_or, BEq.rfl, Bool.not_eq_true, Bool.not_eq_false, decide_eq_true_eq, not_true_eq_false, not_false_eq_true, ite_true, ite_false, List.append_nil, and_assoc, Nat.mul_zero, Nat.zero_mul, twM, twC, b12_1, r1, t, fs28, fs31, hU2, fE2, j2, iE2, s2]
        refine ⟨fun _ X5 => ?_, fun h => by omega⟩
        repeat (refine And.intro (by first | omega | trivial | (intros; omega)) ?_)
        intro X6
        repeat (refine And.intro (by first | omega | trivial | (intros; omega)) ?_)
        intro X7
        repeat (refine And.intro (by first | omega | trivial | (intros; omega)) ?_)
        refine hK (3, N0, N1, lx (ivOk ⟨w2, h2, u2⟩ kind n) (fun j => X7 4 (35 + j)) 0) ⟨by simp only; omega, fun h => absurd hS h⟩ (by show 3 - _ < 3 - _; simp only; omega) _ _ (Sub.of (mkG 55 [(0, 0), (1, 1), (2, 2), (10, 10), (11, 11), (12, 12), (13, 13), (15, 15), (16, 16), (17, 17), (22, 22), (23, 23), (52, 52), (53, 53), (54, 35)]) ?_)
        have e1 : q + 1 = 1 + 1 + 1 := by omega
        simp -implicitDefEqProofs only [push_cast, false_implies, reduceCtorEq, Classical.not_not, Nat.reduceAdd, Nat.reduceSub, Nat.reduceMul, Nat.reduceLeDiff, Nat.reduceLT, Nat.reduceEqDiff, Nat.reduceBEq, Nat.reduceBNe, Int.reduceNeg, Int.reduceToNat, Bool.or_false, Bool.false_or, Bool.or_true, Bool.true_or, BEq.rfl, Bool.not_eq_true, Bool.not_eq_false, decide_eq_true_eq, not_true_eq_false, not_false_eq_true, ite_true, ite_false, List.append_nil, and_assoc, Nat.mul_zero, Nat.zero_mul, twM, twC, e1]
      · obtain ⟨q, hq⟩ : ∃ q : Int, q = 3 := ⟨_, rfl⟩
        have ek : ((3 : Nat) : Int) = q := by omega
        simp only [ek]
        have e2 : ¬ q < 1 + 1 + 1 := by omega
        simp -implicitDefEqProofs only [push_cast, false_implies, reduceCtorEq, Classical.not_not, Nat.reduceAdd, Nat.reduceSub, Nat.reduceMul, Nat.reduceLeDiff, Nat.reduceLT, Nat.reduceEqDiff, Nat.reduceBEq, Nat.reduceBNe, Int.reduceNeg, Int.reduceToNat, Bool.or_false, Bool.false_or, Bool.or_true, Bool.true_or, BEq.rfl, Bool.not_eq_true, Bool.not_eq_false, decide_eq_true_eq, not_true_eq_false, not_false_eq_true, ite_true, ite_false, List.append_nil, and_assoc, Nat.mul_zero, Nat.zero_mul, twM, twC, b12_1, r12_2, e2, fs34, fs35, fs13, k1, k2, hr, hi2, if_true]
        repeat (refine And.intro (by first | omega | trivial | (intros; omega)) ?_)
        exact ⟨show Y.length ≤ 140737488355328 by omega, show U.length ≤ 140737488355328 by omega, show V.length ≤ 140737488355328 by omega⟩
    · obtain rfl := hk0 hS
      have f1 : fwP ⟨W, H, Y⟩ kind n = pl0 := by unfold fwP; rw [if_neg fun h => hS h.2.1]
      have f2 : fwE ⟨W, H, Y⟩ kind n = 2 := by unfold fwE; rw [if_neg fun h => hS h.2.1, if_pos o1]
      have r1 : ∀ (z a b c : List RC), recAt 0 z [a, b, c] = a := fun _ _ _ _ => rfl
      have z : ((2 : Int) = 0) = False := by simp
      simp -implicitDefEqProofs only [push_cast, false_implies, reduceCtorEq, Classical.not_not, Nat.reduceAdd, Nat.reduceSub, Nat.reduceMul, Nat.reduceLeDiff, Nat.reduceLT, Nat.reduceEqDiff, Nat.reduceBEq, Nat.reduceBNe, Int.reduceNeg, Int.reduceToNat, Bool.or_false, Bool.false_or, Bool.or_true, Bool.true_or, BEq.rfl, Bool.not_eq_true, Bool.not_eq_false, decide_eq_true_eq, not_true_eq_false, not_false_eq_true, ite_true, ite_false, List.append_nil, and_assoc, Nat.mul_zero, Nat.zero_mul, twM, twC, b12_1, r1, fs28, fs13, f1, f2, hS, pl0, z, eq_self, decide_true]
      repeat (refine And.intro (by first | omega | trivial | (intros; omega)) ?_)
      intro h; omega
  · have hA : turn tY i = pl0 := if_neg hc
    have hB : turn tU i = pl0 := if_neg hc
    have hC : turn tV i = pl0 := if_neg hc
    obtain ⟨W, H, R, G, E⟩ := i
    refine tri_evS (hyp (l := [(13, ent13), (35, ent35), (33, ent33), (34, ent34), (28, ent28), (31, ent31)]) (lp := [(30, styF)]) ⟨e13, e35, e33, e34, e28, e31, trivial⟩ ⟨p30, trivial⟩) Try.func12 comp12 (rs := [.tmp 6]) (by rfl) Try.ntmps12 52 ?_
    simp -implicitDefEqProofs only [push_cast, false_implies, reduceCtorEq, Classical.not_not, Nat.reduceAdd, Nat.reduceSub, Nat.reduceMul, Nat.reduceLeDiff, Nat.reduceLT, Nat.reduceEqDiff, Nat.reduceBEq, Nat.reduceBNe, Int.reduceNeg, Int.reduceToNat, Bool.or_false, Bool.false_or, Bool.or_true, Bool.true_or, BEq.rfl, Bool.not_eq_true, Bool.not_eq_false, decide_eq_true_eq, not_true_eq_false, not_false_eq_true, ite_true, ite_false, List.append_nil, and_assoc, Nat.mul_zero, Nat.zero_mul, ir12, fs13, fs33, hi2, hc, hA, hB, hC, pl0, if_false]
    intro _ _ h
    exact absurd h (by decide)
end Go.Proofs.Ytefggfjblhniaaa
