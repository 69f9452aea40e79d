import Derived.Test.YtbndfifoakmdnaaPEnergy1
set_option linter.unusedVariables false
set_option linter.unusedSimpArgs false
set_option maxRecDepth 1000
namespace Go.Proofs.Ytbndfifoakmdnaa
open Xf
section
variable {H : Type} {enc : TypeId × Value → H} {P : Program} {w : World} {held : Bool}
theorem flatIs_open {tot m : Nat} : ∀ (l : List Field) (off : Nat) (cs : List Value), flatIs P tot off l = true → cs.length = tot →
    (∀ f ∈ l, ∃ y, DataW.trod enc P w 0 (fun _ => true) held m f.type ((cs.drop f.offset).take (P.cellsOf f.type)) = some y) →
    ∃ ns : List Int, off + ns.length = tot ∧ wfAll .i64 ns ∧ cs.drop off = ns.map (Value.int .i64)
  | [], off, cs, h, hl, _ => by
    simp only [flatIs, decide_eq_true_eq] at h
    exact ⟨[], by simp [h], by simp [wfAll], by simp; omega⟩
  | f :: l, off, cs, h, hl, hf => by
    simp only [flatIs, Bool.and_eq_true, decide_eq_true_eq] at h
    obtain ⟨⟨⟨h1, h2⟩, h3⟩, h4⟩ := h
    obtain ⟨ns, e1, e2, e3⟩ := flatIs_open l (off + 1) cs h4 hl fun g hg => hf g (by simp [hg])
    obtain ⟨y, hy⟩ := hf f (by simp)
    split at h2
    case h_2 => cases h2
    rename_i hu
    obtain ⟨a, hc, _, wf⟩ := DataW.trod_int hu hy
    rw [h1, h3] at hc
    have hd : cs.drop off = (cs.drop off).take 1 ++ cs.drop (off + 1) := by rw [← List.drop_drop, List.take_append_drop]
    refine ⟨a :: ns, by simp only [List.length_cons]; omega, fun n hn => ?_, by rw [hd, hc, e3]; rfl⟩
    rcases List.mem_cons.1 hn with rfl | hn
    · exact wf
    · exact e2 n hn
theorem rcAt_map {l : List (List Int)} {n o : Nat} (hn : 0 < n) (ho : o < l.length * n) (hl : ∀ r ∈ l, r.length = n) : rcAt (l.map rcI) n o = .int .i64 ((l.getD (o / n) []).getD (o % n) 0) := by
  have h1 : o / n < l.length := (Nat.div_lt_iff_lt_mul hn).2 ho
  have h2 : o % n < n := Nat.mod_lt _ hn
  have h3 := hl _ (List.getElem_mem h1)
  unfold rcAt rcI
  simp [h1]
theorem recs_open {r : Reach} {b0 : Nat} {t : TypeId} {v : Value} {d : DataW H} {p : List MemPlace} {n : Nat} (hf : flatI P t n = true) (hv : Value.okWide P w r b0 t v) (h : DataW.Trod enc P w 0 (fun _ => true) held t v d p) (hw : ∀ n ∈ d.weights P t, n ≤ reachBytes) :
    ∃ (L : Xf.Loc) (l : List (List Int)), (∀ c, Den (.sl c L n 0 (l.length : Nat)) v) ∧ (∀ W, ChunkSat w W (.ro, L, .recs n false [] (l.map rcI)) w) ∧ l.length ≤ 140737488355328 ∧ (∀ r ∈ l, r.length = n ∧ wfAll .i64 r) := by
  unfold flatI at hf
  split at hf
  case h_2 => cases hf
  rename_i e ht
  split at hf
  case h_2 => cases hf
  rename_i fs he
  simp only [Bool.and_eq_true, decide_eq_true_eq] at hf
  obtain ⟨⟨⟨hc, hn⟩, hb⟩, hfs⟩ := hf
  obtain ⟨fuel, hx⟩ := h
  have hvc : v.cells.toList = [v] := by obtain ⟨a, n, c, rfl⟩ := WideShapes.okWide_slice ht hv; rfl
  rw [hvc] at hx
  rcases DataW.trod_slice ht hx with ⟨hcs, hxe⟩ | ⟨a, len, cap, elems, rest, m, _, hcs, hxe, hbs, hl, hm, hlen, hel, hsp, hns⟩
  · obtain rfl : v = .slice none 0 0 := by simpa using hcs
    refine ⟨Xf.nilLoc, [], fun c => ?_, fun W => ?_, by simp, by simp⟩
    · simp only [Den, nilLoc0]
      refine ⟨by omega, by simp, by simp, by simp, none, by simp, by simp, by simp⟩
    · refine ⟨fun o ho => (by simp [Chunk.len] at ho), fun _ _ _ h => (by obtain ⟨r, hr, _⟩ := h; simp at hr), fun a ha => (by have h0 := ha.1; cases h0), fun h => (by cases h), ⟨by simp, by simp [nilLoc0], hn, by simp⟩, fun _ _ => trivial⟩
  · obtain rfl : v = .slice (some a) len cap := by simpa using hcs
    obtain ⟨hrl, hsp'⟩ := hsp rfl
    have hcap : cap ≤ 140737488355328 := by
      have hx1 : d = .slice (elems.map (·.1)) (rest.map (·.1)) := (Prod.ext_iff.1 hxe).1
      rw [hx1] at hw
      unfold DataW.weights at hw
      rw [ht] at hw
      have h1 := hw _ (List.mem_cons_self ..)
      simp only [List.length_map] at h1
      rw [show elems.length + rest.length = cap by omega] at h1
      have h3 : cap ≤ cap * P.bytesOf e := Nat.le_mul_of_pos_right _ hb
      have h4 : reachBytes ≤ 140737488355328 := by decide
      omega
    have hall : ∀ i, ∃ ns : List Int, i < len → ns.length = n ∧ wfAll .i64 ns ∧ ∀ j, j < n → w.cell? ((a.add (i * n)).add j) = some (.int .i64 (ns.getD j 0)) := fun i => by
      by_cases hi : i < len
      · have hk := hel i hi
        rw [List.getElem?_eq_getElem (by omega), Option.bind_eq_some_iff] at hk
        obtain ⟨cs', hcs', hy⟩ := hk
        obtain ⟨_, hcl, hcell⟩ := World.cells?_some hcs'
        obtain ⟨xs, m', _, hxe', hlen', hxl, hff⟩ := DataW.trod_struct he hy
        obtain ⟨ns, n1, n2, n3⟩ := flatIs_open (enc := enc) (P := P) (w := w) (held := held) (m := m') fs.toList 0 cs' hfs (by omega) fun f hf' => by
          obtain ⟨i, hi, he⟩ := List.getElem_of_mem hf'
          have hi' : i < fs.size := by simpa using hi
          have := hff i f (by rw [Array.getElem?_eq_getElem hi']; congr 1)
          rw [List.getElem?_eq_getElem (by omega)] at this
          exact ⟨_, this⟩
        rw [List.drop_zero] at n3
        refine ⟨ns, fun _ => ⟨by omega, n2, fun j hj => ?_⟩⟩
        have := hcell j (by omega)
        rw [hc] at this
        rw [this, n3, List.getElem?_map, List.getElem?_eq_getElem (by omega)]
        simp [show j < ns.length by omega]
      · exact ⟨[], fun h => absurd h hi⟩
    obtain ⟨f, hf⟩ := Classical.axiomOfChoice hall
    obtain ⟨b, o, spot⟩ := a
    have hspot : cap ≠ 0 → spot = none := by
      intro hc0
      by_cases h0 : 0 < len
      · have := (hf 0 h0).2.2 0 hn
        simpa [Addr.add] using World.cell?_spot this
      · have hk := hsp' 0 (by omega)
        rw [List.getElem?_eq_getElem (by omega), Option.bind_eq_some_iff] at hk
        obtain ⟨cs', hcs', hy⟩ := hk
        obtain ⟨_, hcl, hcell⟩ := World.cells?_some hcs'
        have := hcell 0 (by omega)
        rw [List.getElem?_eq_getElem (by omega), show len + 0 = 0 by omega] at this
        simpa [Addr.add] using World.cell?_spot this
    have hrl' : ∀ r ∈ (List.range len).map f, r.length = n ∧ wfAll .i64 r := fun r hr => by
      obtain ⟨i, hi, rfl⟩ := List.mem_map.1 hr
      have := hf i (by simpa using hi)
      exact ⟨this.1, this.2.1⟩
    refine ⟨(⟨b, o, false, cap⟩ : Xf.Loc), (List.range len).map f, fun c => ?_, fun W => ?_, by simp; omega, hrl'⟩
    · simp only [Den, List.length_map, List.length_range]
      refine ⟨by omega, by omega, by omega, by simp, some ⟨b, o, spot⟩, by simp, by simp, fun h => ?_⟩
      have : spot = none := hspot (by simpa using h)
      subst this
      simp [Xf.Loc.ad]
    · refine ⟨fun o' ho => ?_, fun _ _ _ h => ?_, fun a ha => (by have h0 := ha.1; cases h0), fun h => (by cases h), ⟨by simp; omega, by simp, hn, fun r hr => ?_⟩, fun _ _ => trivial⟩
      · simp only [Chunk.len, List.length_map, List.length_range] at ho
        have hlt : o' / n < len := (Nat.div_lt_iff_lt_mul hn).2 ho
        have hmod : o' % n < n := Nat.mod_lt _ hn
        have hs : spot = none := hspot (by have : 0 < len := Nat.lt_of_le_of_lt (Nat.zero_le _) hlt; omega)
        subst hs
        have := (hf (o' / n) hlt).2.2 (o' % n) hmod
        have e2 : ((⟨b, o, none⟩ : Addr).add (o' / n * n)).add (o' % n) = ⟨b, o + o', none⟩ := by
          have h3 : o' / n * n + o' % n = o' := Nat.div_add_mod' o' n
          unfold Addr.add
          by_cases h0 : o' / n * n = 0 <;> by_cases h1 : o' % n = 0 <;> simp [h0, h1] <;> omega
        rw [e2] at this
        refine ⟨_, this, ?_⟩
        simp only [Chunk.cell]
        rw [rcAt_map hn (by simpa using ho) fun r hr => (hrl' r hr).1]
        simp [RC.sv, Den, hlt]
      · obtain ⟨r, hr, hm⟩ := h
        obtain ⟨ns, _, rfl⟩ := List.mem_map.1 hr
        obtain ⟨x, _, hx⟩ := List.mem_map.1 hm
        cases hx
      · obtain ⟨ns, h1, rfl⟩ := List.mem_map.1 hr
        unfold rcI
        rw [List.length_map]
        exact (hrl' ns h1).1
end
def b6_1 : IR :=
  .seq (.seq (.reg false [⟨some 48, none, ⟨[], []⟩, .mov (.t 12)⟩,
    ⟨some 49, none, ⟨[], []⟩, .mov (.t 2)⟩,
    ⟨some 50, none, ⟨[], []⟩, .len (.t 49)⟩,
    ⟨some 51, none, ⟨[], []⟩, .bin 0 .lss (.t 48) (.t 50)⟩,
    ⟨some 52, none, ⟨[], []⟩, .mov (.t 51)⟩,
    ⟨some 53, some (52, true), ⟨[], []⟩, .mov (.t 12)⟩,
    ⟨some 54, some (52, true), ⟨[], []⟩, .bin 0 .lss (.t 53) (.k (.int .i64 100))⟩,
    ⟨some 55, none, ⟨[], []⟩, .pick (.t 52) (.t 54) (.k (.bool false))⟩] [48, 49, 50, 51, 52, 53, 54] []) (.cond (.t 55) (.skip) (.exit 0))) (.seq (.block 1 (.seq (.reg true [⟨some 59, none, ⟨[], []⟩, .ld false (some 3) 0 0 (.t 3)⟩,
    ⟨some 60, none, ⟨[], []⟩, .ld false (some 4) 0 0 (.t 4)⟩,
    ⟨some 61, none, ⟨[], []⟩, .mov (.t 2)⟩,
    ⟨some 62, none, ⟨[], []⟩, .mov (.t 12)⟩,
    ⟨some 63, none, ⟨[], []⟩, .idxS (.t 61) (.t 62) 5⟩,
    ⟨some 64, none, ⟨[], []⟩, .ld true (some 5) 0 0 (.t 63)⟩,
    ⟨some 65, none, ⟨[], []⟩, .call (some 4) 28 16 [.t 59, .t 60, .t 64]⟩,
    ⟨some 58, none, ⟨[], []⟩, .mov (.t 65)⟩,
    ⟨some 66, none, ⟨[], []⟩, .ext (.t 58) 0⟩,
    ⟨some 67, none, ⟨[], []⟩, .ext (.t 58) 1⟩,
    ⟨some 13, none, ⟨[], []⟩, .mov (.t 66)⟩,
    ⟨some 14, none, ⟨[], []⟩, .mov (.t 67)⟩] [55, 58, 59, 60, 61, 62, 63, 64, 65, 66, 67] []) (.seq (.reg true [⟨some 69, none, ⟨[], []⟩, .ld false (some 3) 0 0 (.t 3)⟩,
    ⟨some 70, none, ⟨[], []⟩, .ld false (some 4) 0 0 (.t 4)⟩,
    ⟨some 71, none, ⟨[], []⟩, .mov (.t 2)⟩,
    ⟨some 72, none, ⟨[], []⟩, .mov (.t 12)⟩,
    ⟨some 73, none, ⟨[], []⟩, .idxS (.t 71) (.t 72) 5⟩,
    ⟨some 74, none, ⟨[], []⟩, .ld true (some 5) 0 0 (.t 73)⟩,
    ⟨some 75, none, ⟨[], []⟩, .call (some 4) 32 19 [.t 69, .t 70, .t 74]⟩,
    ⟨some 68, none, ⟨[], []⟩, .mov (.t 75)⟩,
    ⟨some 76, none, ⟨[], []⟩, .ext (.t 68) 0⟩,
    ⟨some 77, none, ⟨[], []⟩, .ext (.t 68) 1⟩,
    ⟨some 15, none, ⟨[], []⟩, .mov (.t 76)⟩,
    ⟨some 16, none, ⟨[], []⟩, .mov (.t 77)⟩] [68, 69, 70, 71, 72, 73, 74, 75, 76, 77] []) (.seq (.seq (.reg false [⟨some 78, none, ⟨[], []⟩, .mov (.t 13)⟩,
    ⟨some 79, none, ⟨[], []⟩, .mov (.t 15)⟩,
    ⟨some 80, none, ⟨[], []⟩, .bin 0 .neq (.t 78) (.t 79)⟩,
    ⟨some 81, none, ⟨[], []⟩, .mov (.t 80)⟩,
    ⟨some 82, some (81, false), ⟨[], []⟩, .mov (.t 14)⟩,
    ⟨some 83, some (81, false), ⟨[], []⟩, .mov (.t 16)⟩,
    ⟨some 84, some (81, false), ⟨[], []⟩, .bin 0 .neq (.t 82) (.t 83)⟩,
    ⟨some 85, none, ⟨[], []⟩, .pick (.t 81) (.k (.bool true)) (.t 84)⟩] [14, 15, 16, 78, 79, 80, 81, 82, 83, 84] []) (.cond (.t 85) (.seq (.reg false [⟨some 6, none, ⟨[], []⟩, .mov (.k (.bool false))⟩] [2, 3, 4, 7, 8, 11, 12, 13, 85] []) (.ret)) (.skip))) (.reg false [⟨some 86, none, ⟨[], []⟩, .mov (.t 11)⟩,
    ⟨some 87, none, ⟨[], []⟩, .mov (.t 13)⟩,
    ⟨some 88, none, ⟨[], []⟩, .bin 0 .add (.t 86) (.t 87)⟩,
    ⟨some 11, none, ⟨[], []⟩, .mov (.t 88)⟩] [6, 13, 85, 86, 87, 88] []))))) (.reg false [⟨some 56, none, ⟨[], []⟩, .mov (.t 12)⟩,
    ⟨some 57, none, ⟨[], []⟩, .bin 0 .add (.t 56) (.k (.int .i64 1))⟩,
    ⟨some 12, none, ⟨[], []⟩, .mov (.t 57)⟩] [56, 57] []))
def r6_2 : IR :=
  .seq (.seq (.reg false [⟨some 89, none, ⟨[], []⟩, .mov (.t 8)⟩,
    ⟨some 90, none, ⟨[], []⟩, .bin 0 .neq (.t 89) (.k (.int .i64 0))⟩,
    ⟨some 91, none, ⟨[], []⟩, .mov (.t 90)⟩,
    ⟨some 92, some (91, false), ⟨[], []⟩, .mov (.t 2)⟩,
    ⟨some 93, some (91, false), ⟨[], []⟩, .len (.t 92)⟩,
    ⟨some 94, some (91, false), ⟨[], []⟩, .bin 0 .gtr (.t 93) (.k (.int .i64 100))⟩,
    ⟨some 95, none, ⟨[], []⟩, .pick (.t 91) (.k (.bool true)) (.t 94)⟩] [8, 12, 89, 90, 91, 92, 93, 94] []) (.cond (.t 95) (.seq (.reg false [⟨some 96, none, ⟨[], []⟩, .call (some 4) 36 10 []⟩,
    ⟨some 6, none, ⟨[], []⟩, .mov (.t 96)⟩] [2, 3, 4, 7, 11, 95, 96] []) (.ret)) (.skip))) (.seq (.reg false [⟨some 98, none, ⟨[], []⟩, .fld (.t 3) 0⟩,
    ⟨some 99, none, ⟨[], []⟩, .ld false none 0 0 (.t 98)⟩,
    ⟨some 100, none, ⟨[], []⟩, .fld (.t 3) 1⟩,
    ⟨some 101, none, ⟨[], []⟩, .ld false none 0 0 (.t 100)⟩,
    ⟨some 102, none, ⟨[], []⟩, .mov (.t 2)⟩,
    ⟨some 103, none, ⟨[], []⟩, .call (some 4) 40 20 [.t 99, .t 101, .t 102]⟩,
    ⟨some 97, none, ⟨[], []⟩, .mov (.t 103)⟩,
    ⟨some 104, none, ⟨[], []⟩, .ext (.t 97) 0⟩,
    ⟨some 105, none, ⟨[], []⟩, .ext (.t 97) 1⟩,
    ⟨some 17, none, ⟨[], []⟩, .mov (.t 104)⟩,
    ⟨some 8, none, ⟨[], []⟩, .mov (.t 105)⟩] [2, 3, 6, 95, 97, 98, 99, 100, 101, 102, 103, 104, 105] []) (.seq (.reg false [⟨some 106, none, ⟨[], []⟩, .mov (.t 8)⟩,
    ⟨some 107, none, ⟨[], []⟩, .bin 0 .eql (.t 106) (.k (.int .i64 0))⟩,
    ⟨some 108, none, ⟨[], []⟩, .mov (.t 107)⟩,
    ⟨some 109, some (108, true), ⟨[], []⟩, .mov (.t 11)⟩,
    ⟨some 110, some (108, true), ⟨[], []⟩, .mov (.t 17)⟩,
    ⟨some 111, some (108, true), ⟨[], []⟩, .fld (.t 4) 0⟩,
    ⟨some 112, some (108, true), ⟨[], []⟩, .ld false none 0 0 (.t 111)⟩,
    ⟨some 113, some (108, true), ⟨[], []⟩, .bin 0 .mul (.t 110) (.t 112)⟩,
    ⟨some 114, some (108, true), ⟨[], []⟩, .bin 0 .add (.t 109) (.t 113)⟩,
    ⟨some 115, some (108, true), ⟨[], []⟩, .mov (.t 7)⟩,
    ⟨some 116, some (108, true), ⟨[], []⟩, .bin 0 .eql (.t 114) (.t 115)⟩,
    ⟨some 117, none, ⟨[], []⟩, .pick (.t 108) (.t 116) (.k (.bool false))⟩,
    ⟨some 118, none, ⟨[], []⟩, .mov (.t 117)⟩,
    ⟨some 119, some (118, true), ⟨[], []⟩, .call (some 4) 44 10 []⟩,
    ⟨some 120, none, ⟨[], []⟩, .pick (.t 118) (.t 119) (.k (.bool false))⟩,
    ⟨some 6, none, ⟨[], []⟩, .mov (.t 120)⟩] [4, 7, 8, 11, 17, 106, 107, 108, 109, 110, 111, 112, 113, 114, 115, 116, 117, 118, 119, 120] []) (.ret)))
def ir6 : IR :=
  .seq (.reg false [⟨some 3, none, ⟨[], []⟩, .box 10 (.t 0)⟩,
    ⟨some 4, none, ⟨[], []⟩, .box 11 (.t 1)⟩,
    ⟨some 6, none, ⟨[], []⟩, .mov (.k (.bool false))⟩] [0, 1, 6] []) (.seq (.seq (.reg false [⟨some 18, none, ⟨[], []⟩, .ld false (some 3) 0 0 (.t 3)⟩,
    ⟨some 19, none, ⟨[], []⟩, .call (some 4) 12 9 [.t 18]⟩,
    ⟨some 20, none, ⟨[], []⟩, .mov (.t 19)⟩,
    ⟨some 21, some (20, false), ⟨[], []⟩, .mov (.t 2)⟩,
    ⟨some 22, some (20, false), ⟨[], []⟩, .len (.t 21)⟩,
    ⟨some 23, some (20, false), ⟨[], []⟩, .bin 0 .gtr (.t 22) (.k (.int .i64 1500))⟩,
    ⟨some 24, none, ⟨[], []⟩, .pick (.t 20) (.k (.bool true)) (.t 23)⟩] [18, 19, 20, 21, 22, 23] []) (.cond (.t 24) (.seq (.reg false [⟨some 25, none, ⟨[], []⟩, .call (some 4) 16 10 []⟩,
    ⟨some 6, none, ⟨[], []⟩, .mov (.t 25)⟩] [2, 3, 4, 24, 25] []) (.ret)) (.skip))) (.seq (.reg false [⟨some 27, none, ⟨[], []⟩, .ld false (some 3) 0 0 (.t 3)⟩,
    ⟨some 28, none, ⟨[], []⟩, .ld false (some 4) 0 0 (.t 4)⟩,
    ⟨some 29, none, ⟨[], []⟩, .mov (.t 2)⟩,
    ⟨some 30, none, ⟨[], []⟩, .call (some 4) 20 17 [.t 27, .t 28, .t 29]⟩,
    ⟨some 26, none, ⟨[], []⟩, .mov (.t 30)⟩,
    ⟨some 31, none, ⟨[], []⟩, .ext (.t 26) 0⟩,
    ⟨some 32, none, ⟨[], []⟩, .ext (.t 26) 1⟩,
    ⟨some 7, none, ⟨[], []⟩, .mov (.t 31)⟩,
    ⟨some 8, none, ⟨[], []⟩, .mov (.t 32)⟩] [6, 24, 26, 27, 28, 29, 30, 31, 32] []) (.seq (.reg false [⟨some 34, none, ⟨[], []⟩, .ld false (some 3) 0 0 (.t 3)⟩,
    ⟨some 35, none, ⟨[], []⟩, .ld false (some 4) 0 0 (.t 4)⟩,
    ⟨some 36, none, ⟨[], []⟩, .mov (.t 2)⟩,
    ⟨some 37, none, ⟨[], []⟩, .call (some 4) 24 18 [.t 34, .t 35, .t 36]⟩,
    ⟨some 33, none, ⟨[], []⟩, .mov (.t 37)⟩,
    ⟨some 38, none, ⟨[], []⟩, .ext (.t 33) 0⟩,
    ⟨some 39, none, ⟨[], []⟩, .ext (.t 33) 1⟩,
    ⟨some 9, none, ⟨[], []⟩, .mov (.t 38)⟩,
    ⟨some 10, none, ⟨[], []⟩, .mov (.t 39)⟩] [33, 34, 35, 36, 37, 38, 39] []) (.seq (.seq (.reg false [⟨some 40, none, ⟨[], []⟩, .mov (.t 7)⟩,
    ⟨some 41, none, ⟨[], []⟩, .mov (.t 9)⟩,
    ⟨some 42, none, ⟨[], []⟩, .bin 0 .neq (.t 40) (.t 41)⟩,
    ⟨some 43, none, ⟨[], []⟩, .mov (.t 42)⟩,
    ⟨some 44, some (43, false), ⟨[], []⟩, .mov (.t 8)⟩,
    ⟨some 45, some (43, false), ⟨[], []⟩, .mov (.t 10)⟩,
    ⟨some 46, some (43, false), ⟨[], []⟩, .bin 0 .neq (.t 44) (.t 45)⟩,
    ⟨some 47, none, ⟨[], []⟩, .pick (.t 43) (.k (.bool true)) (.t 46)⟩] [9, 10, 40, 41, 42, 43, 44, 45, 46] []) (.cond (.t 47) (.seq (.reg false [⟨some 6, none, ⟨[], []⟩, .mov (.k (.bool false))⟩] [2, 3, 4, 7, 8, 47] []) (.ret)) (.skip))) (.seq (.reg false [⟨some 11, none, ⟨[], []⟩, .mov (.k (.int .i64 0))⟩] [6, 47] []) (.seq (.seq (.reg false [⟨some 12, none, ⟨[], []⟩, .mov (.k (.int .i64 0))⟩] [] []) (.block 0 (.loop b6_1))) (r6_2)))))))
def kp6_1 : List Nat := [2, 3, 4, 7, 8, 11, 12]
def kl6_1 : List Nat := [28, 29, 30, 31, 32, 33, 34, 35]
attribute [push_cast] kp6_1 kl6_1
set_option maxRecDepth 4000 in
theorem comp6 : (Try.f6.body.bind fun c => compC tab isP chkAll ir6 c) = some ir6 := by kernel_rfl
theorem toPt : ∀ (l : List (List Int)), (∀ r ∈ l, r.length = 5 ∧ wfAll .i64 r) → ∃ m : List Pt, l.length = m.length ∧ l.map rcI = m.map Pt.rc
  | [], _ => ⟨[], rfl, rfl⟩
  | r :: l, h => by
    obtain ⟨m, h1, h2⟩ := toPt l fun x hx => h x (by simp [hx])
    have hr := (h r (by simp)).1
    match r, hr with
    | [a, b, c, d, e], _ => exact ⟨⟨a, b, c, d, e⟩ :: m, by simp [h1], by rw [List.map_cons, List.map_cons, h2]; rfl⟩
set_option maxRecDepth 4000 in
set_option maxHeartbeats 2000000 in
theorem tri6a (p : Pl) (hp : p.xs.length ≤ 140737488355328) (e : En) (l : List Pt) (hl : l.length ≤ 140737488355328) (L LP : Xf.Loc) : Tri Try.prog 6 [plV p L 0, .agg [.int .i64 e.cut, .int .i64 e.paper, .int .i64 e.text, .int .i64 e.pic], .sl 1 LP 5 0 l.length]
    [some (.ro, L, .ints .i64 p.xs), some (.ro, LP, .recs 5 false [] (l.map Pt.rc))] (fun v _ => v = .bool true) := by
  have hget := getPt_map l
  have hlm : (l.map Pt.rc).length = l.length := List.length_map _
  by_cases hbig : (1200 : Int) < p.xs.length ∨ (1500 : Int) < l.length
  · obtain ⟨w, h, xs⟩ := p
    obtain ⟨c, q, t, i⟩ := e
    change xs.length ≤ 140737488355328 at hp
    simp only at hbig
    change Tri Try.prog 6 [plV ⟨w, h, xs⟩ L 0, .agg [.int .i64 c, .int .i64 q, .int .i64 t, .int .i64 i], .sl 1 LP 5 0 l.length] [some (.ro, L, .ints .i64 xs), some (.ro, LP, .recs 5 false [] (l.map Pt.rc))] _
    refine tri_evS (hyp (l := [(9, ent9), (10, ent10)]) (lp := []) ⟨e9, e10, trivial⟩ trivial) Try.func6 comp6 (rs := [.tmp 6]) (by rfl) Try.ntmps6 48 ?_
    rcases hbig with hbig | hbig
    · simp -implicitDefEqProofs only [push_cast, false_implies, reduceCtorEq, Classical.not_not, Nat.reduceAdd, Nat.reduceSub, Nat.reduceMul, Nat.reduceLeDiff, Nat.reduceLT, Nat.reduceEqDiff, Nat.reduceBEq, Nat.reduceBNe, Int.reduceNeg, Int.reduceToNat, Bool.or_false, Bool.false_or, Bool.or_true, Bool.true_or, BEq.rfl, Bool.not_eq_true, Bool.not_eq_false, decide_eq_true_eq, not_true_eq_false, not_false_eq_true, ite_true, ite_false, List.append_nil, and_assoc, Nat.mul_zero, Nat.zero_mul, ir6, fs9, fs12, fs10, hp, hbig, plV, enV]
    · by_cases hb : (1200 : Int) < xs.length
      · simp -implicitDefEqProofs only [push_cast, false_implies, reduceCtorEq, Classical.not_not, Nat.reduceAdd, Nat.reduceSub, Nat.reduceMul, Nat.reduceLeDiff, Nat.reduceLT, Nat.reduceEqDiff, Nat.reduceBEq, Nat.reduceBNe, Int.reduceNeg, Int.reduceToNat, Bool.or_false, Bool.false_or, Bool.or_true, Bool.true_or, BEq.rfl, Bool.not_eq_true, Bool.not_eq_false, decide_eq_true_eq, not_true_eq_false, not_false_eq_true, ite_true, ite_false, List.append_nil, and_assoc, Nat.mul_zero, Nat.zero_mul, ir6, fs9, fs12, fs10, hp, hb, plV, enV]
      · simp -implicitDefEqProofs only [push_cast, false_implies, reduceCtorEq, Classical.not_not, Nat.reduceAdd, Nat.reduceSub, Nat.reduceMul, Nat.reduceLeDiff, Nat.reduceLT, Nat.reduceEqDiff, Nat.reduceBEq, Nat.reduceBNe, Int.reduceNeg, Int.reduceToNat, Bool.or_false, Bool.false_or, Bool.or_true, Bool.true_or, BEq.rfl, Bool.not_eq_true, Bool.not_eq_false, decide_eq_true_eq, not_true_eq_false, not_false_eq_true, ite_true, ite_false, List.append_nil, and_assoc, Nat.mul_zero, Nat.zero_mul, ir6, fs9, fs12, fs10, hp, hb, hbig, plV, enV]
  have hb1 : ¬ (1200 : Int) < p.xs.length := fun h => hbig (.inl h)
  have hb2 : ¬ (1500 : Int) < l.length := fun h => hbig (.inr h)
  clear hbig
  have hl6 : l.length ≤ 1000000 := by omega
  have hpb := paN_bd p e
  have hsb := paS_bd p e l
  have hst := fun {i} => paS_step (p := p) (e := e) (l := l) (i := i)
  obtain ⟨N, hN⟩ : ∃ N, eyN p e l = N := ⟨_, rfl⟩
  obtain ⟨E, hE⟩ : ∃ E, eyE p e l = E := ⟨_, rfl⟩
  obtain ⟨C, hC⟩ : ∃ C, cuN p.w p.h l = C := ⟨_, rfl⟩
  have hend : E = 0 → 0 ≤ p.w ∧ p.w ≤ 200 ∧ 0 ≤ p.h ∧ p.h ≤ 200 ∧ cuE p.w p.h l = 0 ∧ 0 ≤ C * e.cut ∧ C * e.cut ≤ 40000 * 100000 ∧ paS p e l + C * e.cut = N := fun h0 => by
    rw [← hE] at h0
    have hN' := hN
    unfold eyE at h0
    split at h0
    case isFalse => exact absurd h0 (by decide)
    rename_i hG
    split at h0
    case isFalse => exact absurd h0 (by decide)
    rename_i hEo
    have hsd : SidesOk p.w p.h := hG.1
    obtain ⟨s1, s2, s3, s4, s5⟩ := hsd
    have hcb := cuN_bd (l := l) s1 s3 s2 s4
    rw [hC] at hcb
    obtain ⟨⟨c1, c2⟩, _⟩ := id hEo
    have hm := mul_bd hcb.1 hcb.2 c1 c2
    unfold eyN at hN'
    rw [if_pos ⟨hG, hEo, h0⟩, hC] at hN'
    exact ⟨s1, s3, s2, s4, h0, hm.1, hm.2, by omega⟩
  obtain ⟨w, h, xs⟩ := p
  obtain ⟨c, q, t, i⟩ := e
  change xs.length ≤ 140737488355328 at hp
  simp only at hb1 hC hend
  change Tri Try.prog 6 [plV ⟨w, h, xs⟩ L 0, .agg [.int .i64 c, .int .i64 q, .int .i64 t, .int .i64 i], .sl 1 LP 5 0 l.length] [some (.ro, L, .ints .i64 xs), some (.ro, LP, .recs 5 false [] (l.map Pt.rc))] _
  refine tri_evS (hyp (l := [(9, ent9), (10, ent10), (17, ent17), (18, ent18), (16, ent16), (19, ent19), (20, ent20)]) (lp := []) ⟨e9, e10, e17, e18, e16, e19, e20, trivial⟩ trivial) Try.func6 comp6 (rs := [.tmp 6]) (by rfl) Try.ntmps6 48 ?_
  simp -implicitDefEqProofs only [push_cast, false_implies, reduceCtorEq, Classical.not_not, Nat.reduceAdd, Nat.reduceSub, Nat.reduceMul, Nat.reduceLeDiff, Nat.reduceLT, Nat.reduceEqDiff, Nat.reduceBEq, Nat.reduceBNe, Int.reduceNeg, Int.reduceToNat, Bool.or_false, Bool.false_or, Bool.or_true, Bool.true_or, BEq.rfl, Bool.not_eq_true, Bool.not_eq_false, decide_eq_true_eq, not_true_eq_false, not_false_eq_true, ite_true, ite_false, List.append_nil, and_assoc, Nat.mul_zero, Nat.zero_mul, ir6, fs9, fs12, fs10, fs17, hp, hb1, hb2, hl6, hget, hlm, hN, hE, plV, enV]
  intro X
  refine evS_loopU (A := Nat) kp6_1 kl6_1 (fun k => [(11, .int .i64 (paS ⟨w, h, xs⟩ ⟨c, q, t, i⟩ (l.take k))), (12, .int .i64 k)]) (fun _ => []) (fun k => k ≤ l.length ∧ k ≤ 100) (fun k => l.length - k) 0 ⟨Nat.zero_le _, Nat.zero_le _⟩ (Sub.pt ?_) ?_
  · have z1 : paS ⟨w, h, xs⟩ ⟨c, q, t, i⟩ (l.take 0) = 0 := rfl
    simp -implicitDefEqProofs only [push_cast, false_implies, reduceCtorEq, Classical.not_not, Nat.reduceAdd, Nat.reduceSub, Nat.reduceMul, Nat.reduceLeDiff, Nat.reduceLT, Nat.reduceEqDiff, Nat.reduceBEq, Nat.reduceBNe, Int.reduceNeg, Int.reduceToNat, Bool.or_false, Bool.false_or, Bool.or_true, Bool.true_or, BEq.rfl, Bool.not_eq_true, Bool.not_eq_false, decide_eq_true_eq, not_true_eq_false, not_false_eq_true, ite_true, ite_false, List.append_nil, and_assoc, Nat.mul_zero, Nat.zero_mul, z1]
  intro k ⟨(hk : k ≤ l.length), hk1⟩ K hK
  have hsk := hsb k hk
  by_cases hk' : k < l.length ∧ k < 100
  · obtain ⟨hk', hk2⟩ := hk'
    have r1 := recAt_Pt hk' []
    have hst' := hst hk'
    have hpb' := hpb (rdPt l k)
    obtain ⟨q', hq⟩ : ∃ q, rdPt l k = q := ⟨_, rfl⟩
    rw [hq] at r1 hst' hpb'
    obtain ⟨kd, qx, qy, qw, qh⟩ := q'
    obtain ⟨v, hv⟩ : ∃ v, paN ⟨w, h, xs⟩ ⟨c, q, t, i⟩ ⟨kd, qx, qy, qw, qh⟩ = v := ⟨_, rfl⟩
    obtain ⟨S, hS⟩ : ∃ v, paS ⟨w, h, xs⟩ ⟨c, q, t, i⟩ (l.take k) = v := ⟨_, rfl⟩
    obtain ⟨S', hS'⟩ : ∃ v, paS ⟨w, h, xs⟩ ⟨c, q, t, i⟩ (l.take (k + 1)) = v := ⟨_, rfl⟩
    rw [hv] at hst' hpb'
    rw [hS] at hst' hsk
    rw [hS'] at hst'
    simp only [hS]
    simp -implicitDefEqProofs only [push_cast, false_implies, reduceCtorEq, Classical.not_not, Nat.reduceAdd, Nat.reduceSub, Nat.reduceMul, Nat.reduceLeDiff, Nat.reduceLT, Nat.reduceEqDiff, Nat.reduceBEq, Nat.reduceBNe, Int.reduceNeg, Int.reduceToNat, Bool.or_false, Bool.false_or, Bool.or_true, Bool.true_or, BEq.rfl, Bool.not_eq_true, Bool.not_eq_false, decide_eq_true_eq, not_true_eq_false, not_false_eq_true, ite_true, ite_false, List.append_nil, and_assoc, Nat.mul_zero, Nat.zero_mul, b6_1, r1, Pt.rc, hlm, fs16, plV, enV, ptV, hp, hv]
    refine ⟨fun _ => ?_, fun h => by omega⟩
    repeat (refine And.intro (by first | omega | trivial | (intros; omega)) ?_)
    refine hK (k + 1) ⟨by omega, by omega⟩ (show l.length - (k + 1) < l.length - k by omega) _ _ (Sub.pt ?_)
    simp -implicitDefEqProofs only [push_cast, false_implies, reduceCtorEq, Classical.not_not, Nat.reduceAdd, Nat.reduceSub, Nat.reduceMul, Nat.reduceLeDiff, Nat.reduceLT, Nat.reduceEqDiff, Nat.reduceBEq, Nat.reduceBNe, Int.reduceNeg, Int.reduceToNat, Bool.or_false, Bool.false_or, Bool.or_true, Bool.true_or, BEq.rfl, Bool.not_eq_true, Bool.not_eq_false, decide_eq_true_eq, not_true_eq_false, not_false_eq_true, ite_true, ite_false, List.append_nil, and_assoc, Nat.mul_zero, Nat.zero_mul, hS', hst']
  · clear hK
    have hkI : ¬ ((k : Int) < l.length ∧ (k : Int) < 100) := by omega
    obtain ⟨S, hS⟩ : ∃ v, paS ⟨w, h, xs⟩ ⟨c, q, t, i⟩ (l.take k) = v := ⟨_, rfl⟩
    simp only [hS]
    by_cases hE0 : E = 0
    · by_cases h100 : (100 : Int) < l.length
      · simp -implicitDefEqProofs only [push_cast, false_implies, reduceCtorEq, Classical.not_not, Nat.reduceAdd, Nat.reduceSub, Nat.reduceMul, Nat.reduceLeDiff, Nat.reduceLT, Nat.reduceEqDiff, Nat.reduceBEq, Nat.reduceBNe, Int.reduceNeg, Int.reduceToNat, Bool.or_false, Bool.false_or, Bool.or_true, Bool.true_or, BEq.rfl, Bool.not_eq_true, Bool.not_eq_false, decide_eq_true_eq, not_true_eq_false, not_false_eq_true, ite_true, ite_false, List.append_nil, and_assoc, Nat.mul_zero, Nat.zero_mul, b6_1, r6_2, hkI, hE0, h100, fs10]
      · obtain ⟨s1, s2, s3, s4, hc0, m1, m2, hsum⟩ := hend hE0
        have hkl : k = l.length := by omega
        rw [hkl, List.take_length] at hS
        have hsb' := hsb l.length (Nat.le_refl _)
        rw [List.take_length, hS] at hsb'
        rw [hS] at hsum
        simp -implicitDefEqProofs only [push_cast, false_implies, reduceCtorEq, Classical.not_not, Nat.reduceAdd, Nat.reduceSub, Nat.reduceMul, Nat.reduceLeDiff, Nat.reduceLT, Nat.reduceEqDiff, Nat.reduceBEq, Nat.reduceBNe, Int.reduceNeg, Int.reduceToNat, Bool.or_false, Bool.false_or, Bool.or_true, Bool.true_or, BEq.rfl, Bool.not_eq_true, Bool.not_eq_false, decide_eq_true_eq, not_true_eq_false, not_false_eq_true, ite_true, ite_false, List.append_nil, and_assoc, Nat.mul_zero, Nat.zero_mul, b6_1, r6_2, hkI, hE0, h100, fs10, fs20, fs41, hget, hlm, hl6, hC, hc0, s1, s2, s3, s4, hsum]
        omega
    · simp -implicitDefEqProofs only [push_cast, false_implies, reduceCtorEq, Classical.not_not, Nat.reduceAdd, Nat.reduceSub, Nat.reduceMul, Nat.reduceLeDiff, Nat.reduceLT, Nat.reduceEqDiff, Nat.reduceBEq, Nat.reduceBNe, Int.reduceNeg, Int.reduceToNat, Bool.or_false, Bool.false_or, Bool.or_true, Bool.true_or, BEq.rfl, Bool.not_eq_true, Bool.not_eq_false, decide_eq_true_eq, not_true_eq_false, not_false_eq_true, ite_true, ite_false, List.append_nil, and_assoc, Nat.mul_zero, Nat.zero_mul, b6_1, r6_2, hkI, hE0, fs10]
theorem tri6 (p : Pl) (hp : p.xs.length ≤ 140737488355328) (e : En) (x : List (List Int)) (hx : x.length ≤ 140737488355328) (hr : ∀ r ∈ x, r.length = 5 ∧ wfAll .i64 r) (L LP : Xf.Loc) : Tri Try.prog 6 [plV p L 0, .agg [.int .i64 e.cut, .int .i64 e.paper, .int .i64 e.text, .int .i64 e.pic], .sl 1 LP 5 0 x.length]
    [some (.ro, L, .ints .i64 p.xs), some (.ro, LP, .recs 5 false [] (x.map rcI))] (fun v _ => v = .bool true) := by
  obtain ⟨m, h1, h2⟩ := toPt x hr
  rw [h2, h1]
  exact tri6a p hp e m (by omega) L LP
end Go.Proofs.Ytbndfifoakmdnaa
