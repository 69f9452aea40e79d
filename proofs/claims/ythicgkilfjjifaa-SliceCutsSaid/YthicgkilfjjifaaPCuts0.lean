import Derived.Test.YthicgkilfjjifaaPA2
import Derived.Test.YthicgkilfjjifaaKc
import Derived.Test.YthicgkilfjjifaaProg
import Derived.Test.YthicgkilfjjifaaChecked
import Derived.ProofKit
import Derived.OpenShut
import Derived.SizedLaws
import Derived.ChangeOld
import Derived.Below
set_option linter.unusedVariables false
set_option linter.unusedSimpArgs false
set_option maxRecDepth 1000
namespace Go.Proofs.Ythicgkilfjjifaa
open Xf
def ir82:IR :=
  .seq (.reg false [⟨some 4,none,⟨[],[]⟩,.mov (.k (.bool false))⟩] [4] []) (.seq (.reg false [⟨some 5,none,⟨[],[]⟩,.mov (.t 0)⟩,
    ⟨some 6,none,⟨[],[]⟩,.bin 0 .geq (.t 5) (.k (.int .i64 0))⟩,
    ⟨some 7,none,⟨[],[]⟩,.mov (.t 6)⟩,
    ⟨some 8,some (7,true),⟨[],[]⟩,.mov (.t 1)⟩,
    ⟨some 9,some (7,true),⟨[],[]⟩,.bin 0 .geq (.t 8) (.k (.int .i64 0))⟩,
    ⟨some 10,none,⟨[],[]⟩,.pick (.t 7) (.t 9) (.k (.bool false))⟩,
    ⟨some 11,none,⟨[],[]⟩,.mov (.t 10)⟩,
    ⟨some 12,some (11,true),⟨[],[]⟩,.mov (.t 0)⟩,
    ⟨some 13,some (11,true),⟨[],[]⟩,.bin 0 .leq (.t 12) (.k (.int .i64 200))⟩,
    ⟨some 14,none,⟨[],[]⟩,.pick (.t 11) (.t 13) (.k (.bool false))⟩,
    ⟨some 15,none,⟨[],[]⟩,.mov (.t 14)⟩,
    ⟨some 16,some (15,true),⟨[],[]⟩,.mov (.t 1)⟩,
    ⟨some 17,some (15,true),⟨[],[]⟩,.bin 0 .leq (.t 16) (.k (.int .i64 200))⟩,
    ⟨some 18,none,⟨[],[]⟩,.pick (.t 15) (.t 17) (.k (.bool false))⟩,
    ⟨some 19,none,⟨[],[]⟩,.mov (.t 18)⟩,
    ⟨some 20,some (19,true),⟨[],[]⟩,.mov (.t 0)⟩,
    ⟨some 21,some (19,true),⟨[],[]⟩,.mov (.t 1)⟩,
    ⟨some 22,some (19,true),⟨[],[]⟩,.bin 0 .mul (.t 20) (.t 21)⟩,
    ⟨some 23,some (19,true),⟨[],[]⟩,.bin 0 .leq (.t 22) (.k (.int .i64 8192))⟩,
    ⟨some 24,none,⟨[],[]⟩,.pick (.t 19) (.t 23) (.k (.bool false))⟩,
    ⟨some 4,none,⟨[],[]⟩,.mov (.t 24)⟩] [0,1,5,6,7,8,9,10,11,12,13,14,15,16,17,18,19,20,21,22,23,24] []) (.ret))
set_option maxRecDepth 4000 in
theorem comp82:(Try.f82.body.bind fun c => compC tab isP chkAll ir82 c) = some ir82:=by kernel_rfl
def sidesF:EntryP
  | [.int .i64 w,.int .i64 h] => some (True,.bool (decide (SidesOk w h)))
  | _ => none
attribute [push_cast] sidesF
theorem p82:EntryPOk Try.prog 82 sidesF:=by
  refine ⟨⟨_,Try.func82,by kernel_rfl,by kernel_rfl⟩,fun us p v h hp => ?_⟩
  unfold sidesF at h
  split at h <;> cases h
  refine tri_evS (hyp (l:=[]) (lp:=[]) trivial trivial) Try.func82 comp82 (rs:=[.tmp 4]) (by rfl) Try.ntmps82 10 ?_
  simp -implicitDefEqProofs only [push_cast,zz,BEq.rfl,ite_true,ite_false,List.append_nil,reduceCtorEq,Nat.reduceAdd,Nat.reduceSub,Nat.reduceMul,Nat.reduceLeDiff,Nat.reduceLT,Nat.reduceEqDiff,Nat.reduceBEq,Nat.reduceBNe,Int.reduceNeg,Int.reduceToNat,ir82,sidesF]
  refine ⟨fun h => ?_,by simp only [SidesOk,and_assoc]⟩
  have:=mul_bd h.1 h.2.2.1 h.2.1 h.2.2.2
  omega
def b46_1:IR :=
  .seq (.seq (.reg false [⟨some 21,none,⟨[],[]⟩,.mov (.t 3)⟩,
    ⟨some 22,none,⟨[],[]⟩,.fld (.t 1) 2⟩,
    ⟨some 23,none,⟨[],[]⟩,.ld false none 0 0 (.t 22)⟩,
    ⟨some 24,none,⟨[],[]⟩,.len (.t 23)⟩,
    ⟨some 25,none,⟨[],[]⟩,.bin 0 .lss (.t 21) (.t 24)⟩] [21,22,23,24] []) (.cond (.t 25) (.skip) (.exit 0))) (.seq (.block 1 (.seq (.reg false [⟨some 28,none,⟨[],[]⟩,.fld (.t 1) 2⟩,
    ⟨some 29,none,⟨[],[]⟩,.ld false none 0 0 (.t 28)⟩,
    ⟨some 30,none,⟨[],[]⟩,.mov (.t 3)⟩,
    ⟨some 31,none,⟨[],[]⟩,.idxS (.t 29) (.t 30) 1⟩,
    ⟨some 32,none,⟨[],[]⟩,.ld true none 0 0 (.t 31)⟩,
    ⟨some 33,none,⟨[],[]⟩,.bin 0 .lss (.t 32) (.k (.int .i64 (-16777216)))⟩,
    ⟨some 34,none,⟨[],[]⟩,.mov (.t 33)⟩,
    ⟨some 35,some (34,false),⟨[],[]⟩,.fld (.t 1) 2⟩,
    ⟨some 36,some (34,false),⟨[],[]⟩,.ld false none 0 0 (.t 35)⟩,
    ⟨some 37,some (34,false),⟨[],[]⟩,.mov (.t 3)⟩,
    ⟨some 38,some (34,false),⟨[],[]⟩,.idxS (.t 36) (.t 37) 1⟩,
    ⟨some 39,some (34,false),⟨[],[]⟩,.ld true none 0 0 (.t 38)⟩,
    ⟨some 40,some (34,false),⟨[],[]⟩,.bin 0 .gtr (.t 39) (.k (.int .i64 16777216))⟩,
    ⟨some 41,none,⟨[],[]⟩,.pick (.t 34) (.k (.bool true)) (.t 40)⟩] [25,28,29,30,31,32,33,34,35,36,37,38,39,40] []) (.cond (.t 41) (.seq (.reg false [⟨some 2,none,⟨[],[]⟩,.mov (.k (.bool false))⟩] [1,3,41] []) (.ret)) (.skip)))) (.reg false [⟨some 26,none,⟨[],[]⟩,.mov (.t 3)⟩,
    ⟨some 27,none,⟨[],[]⟩,.bin 0 .add (.t 26) (.k (.int .i64 1))⟩,
    ⟨some 3,none,⟨[],[]⟩,.mov (.t 27)⟩] [2,26,27,41] []))
def r46_2:IR :=
  .seq (.reg false [⟨some 2,none,⟨[],[]⟩,.mov (.k (.bool true))⟩] [1,3] []) (.ret)
def ir46:IR :=
  .seq (.reg false [⟨some 1,none,⟨[],[]⟩,.box 10 (.t 0)⟩,
    ⟨some 2,none,⟨[],[]⟩,.mov (.k (.bool false))⟩] [0,2] []) (.seq (.seq (.reg false [⟨some 4,none,⟨[],[]⟩,.fld (.t 1) 0⟩,
    ⟨some 5,none,⟨[],[]⟩,.ld false none 0 0 (.t 4)⟩,
    ⟨some 6,none,⟨[],[]⟩,.fld (.t 1) 1⟩,
    ⟨some 7,none,⟨[],[]⟩,.ld false none 0 0 (.t 6)⟩,
    ⟨some 8,none,⟨[],[]⟩,.callp 82 [.t 5,.t 7]⟩,
    ⟨some 9,none,⟨[],[]⟩,.not (.t 8)⟩,
    ⟨some 10,none,⟨[],[]⟩,.mov (.t 9)⟩,
    ⟨some 11,some (10,false),⟨[],[]⟩,.fld (.t 1) 2⟩,
    ⟨some 12,some (10,false),⟨[],[]⟩,.ld false none 0 0 (.t 11)⟩,
    ⟨some 13,some (10,false),⟨[],[]⟩,.len (.t 12)⟩,
    ⟨some 14,some (10,false),⟨[],[]⟩,.fld (.t 1) 0⟩,
    ⟨some 15,some (10,false),⟨[],[]⟩,.ld false none 0 0 (.t 14)⟩,
    ⟨some 16,some (10,false),⟨[],[]⟩,.fld (.t 1) 1⟩,
    ⟨some 17,some (10,false),⟨[],[]⟩,.ld false none 0 0 (.t 16)⟩,
    ⟨some 18,some (10,false),⟨[],[]⟩,.bin 0 .mul (.t 15) (.t 17)⟩,
    ⟨some 19,some (10,false),⟨[],[]⟩,.bin 0 .neq (.t 13) (.t 18)⟩,
    ⟨some 20,none,⟨[],[]⟩,.pick (.t 10) (.k (.bool true)) (.t 19)⟩] [4,5,6,7,8,9,10,11,12,13,14,15,16,17,18,19] []) (.cond (.t 20) (.seq (.reg false [⟨some 2,none,⟨[],[]⟩,.mov (.k (.bool false))⟩] [1,20] []) (.ret)) (.skip))) (.seq (.seq (.reg false [⟨some 3,none,⟨[],[]⟩,.mov (.k (.int .i64 0))⟩] [2,20] []) (.block 0 (.loop b46_1))) (r46_2)))
def kp46_1:List Nat:=[1,3]
def kl46_1:List Nat:=[]
attribute [push_cast] kp46_1 kl46_1
set_option maxRecDepth 4000 in
theorem comp46:(Try.f46.body.bind fun c => compC tab isP chkAll ir46 c) = some ir46:=by kernel_rfl
theorem ok46:FSOk Try.prog 46 fs39:=by
  refine ⟨⟨_,Try.func46,by kernel_rfl,by kernel_rfl⟩,fun a => ⟨by simp [fs39,push_cast,noMine,argOwn,Chunk.frArg],by simp [fs39,push_cast,outOk,Chunk.ext],fun x => .inl (by simp [fs39,push_cast,frNew,frOut,Chunk.fr])⟩,fun a hp => ?_⟩
  obtain ⟨⟨w,h,xs⟩,L⟩:=a
  change xs.length≤140737488355328 at hp
  change Tri Try.prog 46 [plV ⟨w,h,xs⟩ L 0] [some (.ro,L,.ints .i64 xs)] (postF fs39 ⟨⟨w,h,xs⟩,L⟩)
  refine tri_evS (hyp (l:=[]) (lp:=[(82,sidesF)]) trivial ⟨p82,trivial⟩) Try.func46 comp46 (rs:=[.tmp 2]) (by rfl) Try.ntmps46 11 ?_
  simp -implicitDefEqProofs only [push_cast,zz,BEq.rfl,ite_true,ite_false,List.append_nil,reduceCtorEq,Nat.reduceAdd,Nat.reduceSub,Nat.reduceMul,Nat.reduceLeDiff,Nat.reduceLT,Nat.reduceEqDiff,Nat.reduceBEq,Nat.reduceBNe,Int.reduceNeg,Int.reduceToNat,ir46]
  refine fun X => ⟨fun H => ?_,fun hn => ?_,fun hy => ?_⟩
  · have:=H.bd
    exact ⟨H,by omega,by omega⟩
  · have e:¬ (⟨w,h,xs⟩:Pl).Ok:=fun H => by
      obtain ⟨a1,b,_⟩:=H
      simp only at a1 b
      simp [a1,b] at hn
    refine postF.mk' (fun _ => default) [some 0] ?_
    simp -implicitDefEqProofs only [push_cast,zz,BEq.rfl,ite_true,ite_false,List.append_nil,reduceCtorEq,Nat.reduceAdd,Nat.reduceSub,Nat.reduceMul,Nat.reduceLeDiff,Nat.reduceLT,Nat.reduceEqDiff,Nat.reduceBEq,Nat.reduceBNe,Int.reduceNeg,Int.reduceToNat,fs39,e,decide_false]
  have hs:SidesOk w h:=Classical.byContradiction fun H => hy (.inl H)
  have hl:(xs.length:Int) = w * h:=Classical.byContradiction fun H => hy (.inr H)
  refine evS_loopU (A:=Nat) kp46_1 kl46_1 (fun i => [(3,.int .i64 i)]) (fun _ => [])
    (fun i => i≤xs.length∧∀ j,j < i→-16777216≤rd xs (j:Nat)∧rd xs (j:Nat)≤16777216) (fun i => xs.length - i) 0 ⟨by omega,by omega⟩ (Sub.pt ?_) ?_
  · simp -implicitDefEqProofs only [push_cast,zz,BEq.rfl,ite_true,ite_false,List.append_nil,reduceCtorEq,Nat.reduceAdd,Nat.reduceSub,Nat.reduceMul,Nat.reduceLeDiff,Nat.reduceLT,Nat.reduceEqDiff,Nat.reduceBEq,Nat.reduceBNe,Int.reduceNeg,Int.reduceToNat]
  intro i ⟨h1,h2⟩ K hK
  simp -implicitDefEqProofs only [push_cast,zz,BEq.rfl,ite_true,ite_false,List.append_nil,reduceCtorEq,Nat.reduceAdd,Nat.reduceSub,Nat.reduceMul,Nat.reduceLeDiff,Nat.reduceLT,Nat.reduceEqDiff,Nat.reduceBEq,Nat.reduceBNe,Int.reduceNeg,Int.reduceToNat,b46_1,r46_2]
  refine ⟨fun hl => ?_,fun hl => ?_⟩
  · repeat (refine And.intro (by first | omega | trivial | (intros; omega)) ?_)
    refine ⟨fun hb => ?_,fun hg => ⟨by omega,by omega,?_⟩⟩
    · have e:¬ (⟨w,h,xs⟩:Pl).Ok:=fun H => by
        have:=allIn_rd.1 H.2.2 i (show i < xs.length by omega)
        simp only at this
        omega
      refine postF.mk' (fun _ => default) [some 0] ?_
      simp -implicitDefEqProofs only [push_cast,zz,BEq.rfl,ite_true,ite_false,List.append_nil,reduceCtorEq,Nat.reduceAdd,Nat.reduceSub,Nat.reduceMul,Nat.reduceLeDiff,Nat.reduceLT,Nat.reduceEqDiff,Nat.reduceBEq,Nat.reduceBNe,Int.reduceNeg,Int.reduceToNat,fs39,e,decide_false]
    · refine hK (i + 1) ⟨by omega,fun j hj => ?_⟩ (show xs.length - (i + 1) < xs.length - i by omega) _ _ (Sub.pt ?_)
      · by_cases e:j = i
        · subst e; omega
        · exact h2 j (by omega)
      · simp -implicitDefEqProofs only [push_cast,zz,BEq.rfl,ite_true,ite_false,List.append_nil,reduceCtorEq,Nat.reduceAdd,Nat.reduceSub,Nat.reduceMul,Nat.reduceLeDiff,Nat.reduceLT,Nat.reduceEqDiff,Nat.reduceBEq,Nat.reduceBNe,Int.reduceNeg,Int.reduceToNat]
  · have e:(⟨w,h,xs⟩:Pl).Ok:=⟨hs,‹_›,allIn_rd.2 fun j (hj:j < xs.length) => h2 j (by omega)⟩
    refine postF.mk' (fun _ => default) [some 0] ?_
    simp -implicitDefEqProofs only [push_cast,zz,BEq.rfl,ite_true,ite_false,List.append_nil,reduceCtorEq,Nat.reduceAdd,Nat.reduceSub,Nat.reduceMul,Nat.reduceLeDiff,Nat.reduceLT,Nat.reduceEqDiff,Nat.reduceBEq,Nat.reduceBNe,Int.reduceNeg,Int.reduceToNat,fs39,e,decide_true]
def ent46:Entry:=spOf fs39 inv39
theorem e46:EntryOk Try.prog 46 ent46:=entry_of ok46 inv39
@[push_cast] theorem ent46_app (us:List SV) (look:Look) (x:Nat→Xf.Loc) (k:Nat):ent46 us look x k = spOf fs39 inv39 us look x k:=rfl
def inv10:List SV→Look→Option (Unit × List Nat)
  | [],_ => some ((),[])
  | _,_ => none
attribute [push_cast] inv10
def ent10:Entry:=spOf fs10 inv10
theorem e10:EntryOk Try.prog 10 ent10:=entry_of ok10 inv10
@[push_cast] theorem ent10_app (us:List SV) (look:Look) (x:Nat→Xf.Loc) (k:Nat):ent10 us look x k = spOf fs10 inv10 us look x k:=rfl
def ir47:IR :=
  .seq (.reg false [⟨some 2,none,⟨[],[]⟩,.mov (.k (.int .i64 0))⟩] [2] []) (.seq (.reg false [⟨some 3,none,⟨[],[]⟩,.mov (.t 0)⟩,
    ⟨some 4,none,⟨[],[]⟩,.mov (.t 0)⟩,
    ⟨some 5,none,⟨[],[]⟩,.neg 0 (.t 4)⟩,
    ⟨some 6,none,⟨[],[]⟩,.mx (.t 3) (.t 5)⟩,
    ⟨some 2,none,⟨[],[]⟩,.mov (.t 6)⟩] [0,3,4,5,6] []) (.ret))
set_option maxRecDepth 4000 in
theorem comp47:(Try.f47.body.bind fun c => compC tab isP chkAll ir47 c) = some ir47:=by kernel_rfl
theorem p47:EntryPOk Try.prog 47 absF:=by
  refine ⟨⟨_,Try.func47,by kernel_rfl,by kernel_rfl⟩,fun us p v h hp => ?_⟩
  unfold absF at h
  split at h <;> cases h
  obtain ⟨h0,h1⟩:=hp
  refine tri_evS (hyp (l:=[]) (lp:=[]) trivial trivial) Try.func47 comp47 (rs:=[.tmp 2]) (by rfl) Try.ntmps47 10 ?_
  simp -implicitDefEqProofs only [push_cast,zz,BEq.rfl,ite_true,ite_false,List.append_nil,reduceCtorEq,Nat.reduceAdd,Nat.reduceSub,Nat.reduceMul,Nat.reduceLeDiff,Nat.reduceLT,Nat.reduceEqDiff,Nat.reduceBEq,Nat.reduceBNe,Int.reduceNeg,Int.reduceToNat,ir47]
  try omega
structure SgA where
  p:Pl
  L:Xf.Loc
  t:Int
def tOk (t:Int):Prop:=0≤t∧t≤25
instance tOk_dec (t:Int):Decidable (tOk t):=by unfold tOk; infer_instance
def sgE (p:Pl) (t:Int):Int:=if p.Ok then (if tOk t then 0 else 2) else 70
def invSg:List SV→Look→Option (SgA × List Nat)
  | [v,.int .i64 t],look => match getP look v with
    | some (a,g) => some (⟨a.p,a.L,t⟩,g)
    | none => none
  | _,_ => none
attribute [push_cast] invSg
theorem pw25 {t:Int} (h0:0≤t) (h1:t≤30):0 < (2:Int) ^ t.toNat∧(2:Int) ^ t.toNat≤1073741824:=by
  have:=pw_lt h0 h1
  have e:(2:Int) ^ t.toNat = ((2 ^ t.toNat:Nat):Int):=by simp
  omega
def b23_1:IR :=
  .seq (.reg false [⟨some 32,none,⟨[],[]⟩,.bin 0 .lss (.t 31) (.t 30)⟩] [] []) (.seq (.cond (.t 32) (.skip) (.exit 1)) (.seq (.block 2 (.seq (.reg false [⟨some 33,none,⟨[],[]⟩,.idxS (.t 29) (.t 31) 1⟩,
    ⟨some 34,none,⟨[],[]⟩,.ld true none 0 0 (.t 33)⟩,
    ⟨some 8,none,⟨[],[]⟩,.mov (.t 34)⟩] [32,33,34] []) (.seq (.reg false [⟨some 35,none,⟨[],[]⟩,.mov (.t 8)⟩,
    ⟨some 36,none,⟨[],[]⟩,.callp 51 [.t 35]⟩,
    ⟨some 37,none,⟨[],[]⟩,.mov (.t 1)⟩,
    ⟨some 38,none,⟨[],[]⟩,.bin 0 .shr (.t 36) (.t 37)⟩,
    ⟨some 39,none,⟨[],[]⟩,.mov (.t 1)⟩,
    ⟨some 40,none,⟨[],[]⟩,.bin 0 .shl (.t 38) (.t 39)⟩,
    ⟨some 9,none,⟨[],[]⟩,.mov (.t 40)⟩] [35,36,37,38,39,40] []) (.seq (.seq (.reg false [⟨some 41,none,⟨[],[]⟩,.mov (.t 8)⟩,
    ⟨some 42,none,⟨[],[]⟩,.bin 0 .lss (.t 41) (.k (.int .i64 0))⟩] [8,41] []) (.cond (.t 42) (.reg false [⟨some 43,none,⟨[],[]⟩,.mov (.t 9)⟩,
    ⟨some 44,none,⟨[],[]⟩,.neg 0 (.t 43)⟩,
    ⟨some 9,none,⟨[],[]⟩,.mov (.t 44)⟩] [42,43,44] []) (.skip))) (.reg false [⟨some 45,none,⟨[],[]⟩,.fld (.t 6) 2⟩,
    ⟨some 46,none,⟨[],[]⟩,.ld false none 0 0 (.t 45)⟩,
    ⟨some 47,none,⟨[],[]⟩,.mov (.t 9)⟩,
    ⟨some 48,none,⟨[],[]⟩,.bslice 17 [.t 47]⟩,
    ⟨some 49,none,⟨[],[]⟩,.app 18 1 8 (.t 46) (.t 48)⟩,
    ⟨some 50,none,⟨[],[]⟩,.fld (.t 6) 2⟩,
    ⟨none,none,⟨[],[]⟩,.sto false 1 .i64 (.t 50) (.t 49)⟩] [9,42,45,46,47,48,49,50] []))))) (.reg false [⟨some 51,none,⟨[],[]⟩,.bin 0 .add (.t 31) (.k (.int .i64 1))⟩,
    ⟨some 31,none,⟨[],[]⟩,.mov (.t 51)⟩] [51] [])))
def r23_2:IR :=
  .seq (.reg false [⟨some 52,none,⟨[],[]⟩,.ld false (some 3) 0 0 (.t 6)⟩,
    ⟨none,none,⟨[],[]⟩,.sto false 3 .i64 (.t 4) (.t 52)⟩,
    ⟨some 5,none,⟨[],[]⟩,.mov (.k (.int .i64 0))⟩] [1,6,29,30,31,52] []) (.ret)
def ir23:IR :=
  .seq (.reg false [⟨some 2,none,⟨[],[]⟩,.box 10 (.t 0)⟩,
    ⟨some 4,none,⟨[],[]⟩,.alloc 11 [.int .i64 0,.int .i64 0,nilSV]⟩,
    ⟨some 5,none,⟨[],[]⟩,.mov (.k (.int .i64 0))⟩] [0,5] []) (.seq (.block 0 (.seq (.reg false [⟨some 11,none,⟨[],[]⟩,.ld false (some 3) 0 0 (.t 2)⟩,
    ⟨some 12,none,⟨[],[]⟩,.call (some 4) 12 39 [.t 11]⟩,
    ⟨some 13,none,⟨[],[]⟩,.not (.t 12)⟩,
    ⟨some 10,none,⟨[],[]⟩,.mov (.t 13)⟩] [11,12,13] []) (.cond (.t 10) (.seq (.reg false [⟨some 14,none,⟨[],[]⟩,.build [.int .i64 0,.int .i64 0,nilSV] []⟩,
    ⟨none,none,⟨[],[]⟩,.sto false 3 .i64 (.t 4) (.t 14)⟩,
    ⟨some 5,none,⟨[],[]⟩,.mov (.k (.int .i64 70))⟩] [1,2,10,14] []) (.ret)) (.seq (.reg false [⟨some 16,none,⟨[],[]⟩,.mov (.t 1)⟩,
    ⟨some 17,none,⟨[],[]⟩,.bin 0 .lss (.t 16) (.k (.int .i64 0))⟩,
    ⟨some 18,none,⟨[],[]⟩,.mov (.t 17)⟩,
    ⟨some 19,some (18,false),⟨[],[]⟩,.mov (.t 1)⟩,
    ⟨some 20,some (18,false),⟨[],[]⟩,.bin 0 .gtr (.t 19) (.k (.int .i64 25))⟩,
    ⟨some 21,none,⟨[],[]⟩,.pick (.t 18) (.k (.bool true)) (.t 20)⟩,
    ⟨some 15,none,⟨[],[]⟩,.mov (.t 21)⟩] [10,16,17,18,19,20,21] []) (.cond (.t 15) (.seq (.reg false [⟨some 22,none,⟨[],[]⟩,.build [.int .i64 0,.int .i64 0,nilSV] []⟩,
    ⟨none,none,⟨[],[]⟩,.sto false 3 .i64 (.t 4) (.t 22)⟩,
    ⟨some 5,none,⟨[],[]⟩,.mov (.k (.int .i64 2))⟩] [1,2,15,22] []) (.ret)) (.skip)))))) (.seq (.reg false [⟨some 23,none,⟨[],[]⟩,.fld (.t 2) 0⟩,
    ⟨some 24,none,⟨[],[]⟩,.ld false none 0 0 (.t 23)⟩,
    ⟨some 25,none,⟨[],[]⟩,.fld (.t 2) 1⟩,
    ⟨some 26,none,⟨[],[]⟩,.ld false none 0 0 (.t 25)⟩,
    ⟨some 27,none,⟨[],[]⟩,.build [.int .i64 0,.int .i64 0,nilSV] [(0,1,.t 24),(1,1,.t 26)]⟩,
    ⟨some 6,none,⟨[],[]⟩,.alloc 16 [.int .i64 0,.int .i64 0,nilSV]⟩,
    ⟨none,none,⟨[],[]⟩,.sto false 3 .i64 (.t 6) (.t 27)⟩] [5,15,23,24,25,26,27] []) (.seq (.seq (.reg false [⟨some 28,none,⟨[],[]⟩,.fld (.t 2) 2⟩,
    ⟨some 29,none,⟨[],[]⟩,.ld false none 0 0 (.t 28)⟩,
    ⟨some 30,none,⟨[],[]⟩,.len (.t 29)⟩,
    ⟨some 31,none,⟨[],[]⟩,.mov (.k (.int .i64 0))⟩] [2,28] []) (.block 1 (.loop b23_1))) (r23_2))))
def kp23_1:List Nat:=[1,4,6,29,30,31]
def kl23_1:List Nat:=[17,18]
attribute [push_cast] kp23_1 kl23_1
set_option maxRecDepth 4000 in
theorem comp23:(Try.f23.body.bind fun c => compC tab isP chkAll ir23 c) = some ir23:=by kernel_rfl
def b16_1:IR :=
  .seq (.reg false [⟨some 30,none,⟨[],[]⟩,.bin 0 .lss (.t 29) (.t 28)⟩] [] []) (.seq (.cond (.t 30) (.skip) (.exit 0)) (.seq (.block 1 (.seq (.reg false [⟨some 31,none,⟨[],[]⟩,.idxS (.t 27) (.t 29) 1⟩,
    ⟨some 32,none,⟨[],[]⟩,.ld true none 0 0 (.t 31)⟩,
    ⟨some 8,none,⟨[],[]⟩,.mov (.t 32)⟩] [30,31,32] []) (.seq (.reg false [⟨some 33,none,⟨[],[]⟩,.mov (.t 8)⟩,
    ⟨some 34,none,⟨[],[]⟩,.callp 47 [.t 33]⟩,
    ⟨some 35,none,⟨[],[]⟩,.mov (.t 1)⟩,
    ⟨some 36,none,⟨[],[]⟩,.bin 0 .shr (.t 34) (.t 35)⟩,
    ⟨some 37,none,⟨[],[]⟩,.mov (.t 1)⟩,
    ⟨some 38,none,⟨[],[]⟩,.bin 0 .shl (.t 36) (.t 37)⟩,
    ⟨some 9,none,⟨[],[]⟩,.mov (.t 38)⟩] [33,34,35,36,37,38] []) (.seq (.seq (.reg false [⟨some 39,none,⟨[],[]⟩,.mov (.t 8)⟩,
    ⟨some 40,none,⟨[],[]⟩,.bin 0 .lss (.t 39) (.k (.int .i64 0))⟩] [8,39] []) (.cond (.t 40) (.reg false [⟨some 41,none,⟨[],[]⟩,.mov (.t 9)⟩,
    ⟨some 42,none,⟨[],[]⟩,.neg 0 (.t 41)⟩,
    ⟨some 9,none,⟨[],[]⟩,.mov (.t 42)⟩] [40,41,42] []) (.skip))) (.reg false [⟨some 43,none,⟨[],[]⟩,.fld (.t 6) 2⟩,
    ⟨some 44,none,⟨[],[]⟩,.ld false none 0 0 (.t 43)⟩,
    ⟨some 45,none,⟨[],[]⟩,.mov (.t 9)⟩,
    ⟨some 46,none,⟨[],[]⟩,.bslice 17 [.t 45]⟩,
    ⟨some 47,none,⟨[],[]⟩,.app 18 1 8 (.t 44) (.t 46)⟩,
    ⟨some 48,none,⟨[],[]⟩,.fld (.t 6) 2⟩,
    ⟨none,none,⟨[],[]⟩,.sto false 1 .i64 (.t 48) (.t 47)⟩] [9,40,43,44,45,46,47,48] []))))) (.reg false [⟨some 49,none,⟨[],[]⟩,.bin 0 .add (.t 29) (.k (.int .i64 1))⟩,
    ⟨some 29,none,⟨[],[]⟩,.mov (.t 49)⟩] [49] [])))
def r16_2:IR :=
  .seq (.reg false [⟨some 50,none,⟨[],[]⟩,.ld false (some 3) 0 0 (.t 6)⟩,
    ⟨none,none,⟨[],[]⟩,.sto false 3 .i64 (.t 4) (.t 50)⟩,
    ⟨some 5,none,⟨[],[]⟩,.mov (.k (.int .i64 0))⟩] [1,6,27,28,29,50] []) (.ret)
def ir16:IR :=
  .seq (.reg false [⟨some 2,none,⟨[],[]⟩,.box 10 (.t 0)⟩,
    ⟨some 4,none,⟨[],[]⟩,.alloc 11 [.int .i64 0,.int .i64 0,nilSV]⟩,
    ⟨some 5,none,⟨[],[]⟩,.mov (.k (.int .i64 0))⟩] [0,5] []) (.seq (.seq (.reg false [⟨some 10,none,⟨[],[]⟩,.ld false (some 3) 0 0 (.t 2)⟩,
    ⟨some 11,none,⟨[],[]⟩,.call (some 4) 12 46 [.t 10]⟩,
    ⟨some 12,none,⟨[],[]⟩,.not (.t 11)⟩] [10,11] []) (.cond (.t 12) (.seq (.reg false [⟨some 13,none,⟨[],[]⟩,.build [.int .i64 0,.int .i64 0,nilSV] []⟩,
    ⟨none,none,⟨[],[]⟩,.sto false 3 .i64 (.t 4) (.t 13)⟩,
    ⟨some 5,none,⟨[],[]⟩,.mov (.k (.int .i64 70))⟩] [1,2,12,13] []) (.ret)) (.skip))) (.seq (.seq (.reg false [⟨some 14,none,⟨[],[]⟩,.mov (.t 1)⟩,
    ⟨some 15,none,⟨[],[]⟩,.bin 0 .lss (.t 14) (.k (.int .i64 0))⟩,
    ⟨some 16,none,⟨[],[]⟩,.mov (.t 15)⟩,
    ⟨some 17,some (16,false),⟨[],[]⟩,.mov (.t 1)⟩,
    ⟨some 18,some (16,false),⟨[],[]⟩,.bin 0 .gtr (.t 17) (.k (.int .i64 25))⟩,
    ⟨some 19,none,⟨[],[]⟩,.pick (.t 16) (.k (.bool true)) (.t 18)⟩] [5,12,14,15,16,17,18] []) (.cond (.t 19) (.seq (.reg false [⟨some 20,none,⟨[],[]⟩,.build [.int .i64 0,.int .i64 0,nilSV] []⟩,
    ⟨none,none,⟨[],[]⟩,.sto false 3 .i64 (.t 4) (.t 20)⟩,
    ⟨some 5,none,⟨[],[]⟩,.mov (.k (.int .i64 2))⟩] [1,2,19,20] []) (.ret)) (.skip))) (.seq (.reg false [⟨some 21,none,⟨[],[]⟩,.fld (.t 2) 0⟩,
    ⟨some 22,none,⟨[],[]⟩,.ld false none 0 0 (.t 21)⟩,
    ⟨some 23,none,⟨[],[]⟩,.fld (.t 2) 1⟩,
    ⟨some 24,none,⟨[],[]⟩,.ld false none 0 0 (.t 23)⟩,
    ⟨some 25,none,⟨[],[]⟩,.build [.int .i64 0,.int .i64 0,nilSV] [(0,1,.t 22),(1,1,.t 24)]⟩,
    ⟨some 6,none,⟨[],[]⟩,.alloc 16 [.int .i64 0,.int .i64 0,nilSV]⟩,
    ⟨none,none,⟨[],[]⟩,.sto false 3 .i64 (.t 6) (.t 25)⟩] [5,19,21,22,23,24,25] []) (.seq (.seq (.reg false [⟨some 26,none,⟨[],[]⟩,.fld (.t 2) 2⟩,
    ⟨some 27,none,⟨[],[]⟩,.ld false none 0 0 (.t 26)⟩,
    ⟨some 28,none,⟨[],[]⟩,.len (.t 27)⟩,
    ⟨some 29,none,⟨[],[]⟩,.mov (.k (.int .i64 0))⟩] [2,26] []) (.block 0 (.loop b16_1))) (r16_2)))))
def kp16_1:List Nat:=[1,4,6,27,28,29]
def kl16_1:List Nat:=[17,18]
attribute [push_cast] kp16_1 kl16_1
set_option maxRecDepth 4000 in
theorem comp16:(Try.f16.body.bind fun c => compC tab isP chkAll ir16 c) = some ir16:=by kernel_rfl
def ir9:IR :=
  .seq (.reg false [⟨some 2,none,⟨[],[]⟩,.box 10 (.t 0)⟩,
    ⟨some 4,none,⟨[],[]⟩,.mov (.k (.bool false))⟩] [0,4] []) (.seq (.reg false [⟨some 10,none,⟨[],[]⟩,.ld false (some 3) 0 0 (.t 2)⟩,
    ⟨some 11,none,⟨[],[]⟩,.mov (.t 1)⟩,
    ⟨some 12,none,⟨[],[]⟩,.call (some 4) 11 23 [.t 10,.t 11]⟩,
    ⟨some 9,none,⟨[],[]⟩,.mov (.t 12)⟩,
    ⟨some 13,none,⟨[],[]⟩,.ext (.t 9) 0⟩,
    ⟨some 14,none,⟨[],[]⟩,.ext (.t 9) 1⟩,
    ⟨some 5,none,⟨[],[]⟩,.alloc 15 [.int .i64 0,.int .i64 0,nilSV]⟩,
    ⟨none,none,⟨[],[]⟩,.sto false 3 .i64 (.t 5) (.t 13)⟩,
    ⟨some 6,none,⟨[],[]⟩,.mov (.t 14)⟩] [9,10,11,12,13,14] []) (.seq (.reg false [⟨some 16,none,⟨[],[]⟩,.ld false (some 3) 0 0 (.t 2)⟩,
    ⟨some 17,none,⟨[],[]⟩,.mov (.t 1)⟩,
    ⟨some 18,none,⟨[],[]⟩,.call (some 4) 16 16 [.t 16,.t 17]⟩,
    ⟨some 15,none,⟨[],[]⟩,.mov (.t 18)⟩,
    ⟨some 19,none,⟨[],[]⟩,.ext (.t 15) 0⟩,
    ⟨some 20,none,⟨[],[]⟩,.ext (.t 15) 1⟩,
    ⟨some 7,none,⟨[],[]⟩,.alloc 20 [.int .i64 0,.int .i64 0,nilSV]⟩,
    ⟨none,none,⟨[],[]⟩,.sto false 3 .i64 (.t 7) (.t 19)⟩,
    ⟨some 8,none,⟨[],[]⟩,.mov (.t 20)⟩] [1,2,15,16,17,18,19,20] []) (.seq (.reg false [⟨some 21,none,⟨[],[]⟩,.mov (.t 6)⟩,
    ⟨some 22,none,⟨[],[]⟩,.mov (.t 8)⟩,
    ⟨some 23,none,⟨[],[]⟩,.bin 0 .eql (.t 21) (.t 22)⟩,
    ⟨some 24,none,⟨[],[]⟩,.mov (.t 23)⟩,
    ⟨some 25,some (24,true),⟨[],[]⟩,.ld false (some 3) 0 0 (.t 5)⟩,
    ⟨some 26,some (24,true),⟨[],[]⟩,.ld false (some 3) 0 0 (.t 7)⟩,
    ⟨some 27,some (24,true),⟨[],[]⟩,.call (some 4) 21 13 [.t 25,.t 26]⟩,
    ⟨some 28,none,⟨[],[]⟩,.pick (.t 24) (.t 27) (.k (.bool false))⟩,
    ⟨some 29,none,⟨[],[]⟩,.mov (.t 28)⟩,
    ⟨some 30,some (29,true),⟨[],[]⟩,.call (some 4) 25 10 []⟩,
    ⟨some 31,none,⟨[],[]⟩,.pick (.t 29) (.t 30) (.k (.bool false))⟩,
    ⟨some 4,none,⟨[],[]⟩,.mov (.t 31)⟩] [5,6,7,8,21,22,23,24,25,26,27,28,29,30,31] []) (.ret))))
set_option maxRecDepth 4000 in
theorem comp9:(Try.f9.body.bind fun c => compC tab isP chkAll ir9 c) = some ir9:=by kernel_rfl
def ctF (t c:Int):Int:=if c < 0 then - (max c (-c) / 2 ^ t.toNat * 2 ^ t.toNat) else max c (-c) / 2 ^ t.toNat * 2 ^ t.toNat
def ctP (p:Pl) (t:Int):Pl:=if sgE p t = 0 then ⟨p.w,p.h,p.xs.map (ctF t)⟩ else pl0
def fs23:FS where
  A:=SgA
  args:=fun a => [plV a.p a.L 0,.int .i64 a.t]
  mem:=fun a => [some (.ro,a.L,.ints .i64 a.p.xs)]
  pre:=fun a => a.p.xs.length≤140737488355328
  res:=fun a x => .tup [plV (ctP a.p a.t) (lx (sgE a.p a.t = 0) x 0) 1,.int .i64 (sgE a.p a.t)]
  out:=fun _ _ => []
  new:=fun a x => [(lx (sgE a.p a.t = 0) x 0,.ints .i64 (ctP a.p a.t).xs)]
set_option maxHeartbeats 1000000 in
theorem ok23:FSOk Try.prog 23 fs23:=by
  refine ⟨⟨_,Try.func23,by kernel_rfl,by kernel_rfl⟩,fun a => ⟨by simp [fs23,push_cast,noMine,argOwn,Chunk.frArg],by simp [fs23,push_cast,outOk,Chunk.ext],fun x => .inl (by simp [fs23,push_cast,frNew,frOut,Chunk.fr])⟩,fun a hp => ?_⟩
  obtain ⟨⟨w,h,xs⟩,L,t⟩:=a
  have h1:xs.length≤140737488355328:=hp
  change Tri Try.prog 23 [plV ⟨w,h,xs⟩ L 0,.int .i64 t] [some (.ro,L,.ints .i64 xs)] (postF fs23 ⟨⟨w,h,xs⟩,L,t⟩)
  refine tri_evS (hyp (l:=[(39,ent39)]) (lp:=[(51,absF)]) ⟨e39,trivial⟩ ⟨p51,trivial⟩) Try.func23 comp23 (rs:=[.cell 4 (some 3),.tmp 5]) (by rfl) Try.ntmps23 19 ?_
  by_cases hok:(⟨w,h,xs⟩:Pl).Ok
  · by_cases ht:tOk t
    · obtain ⟨t0,t1⟩:=id ht
      have hE:sgE ⟨w,h,xs⟩ t = 0:=by unfold sgE; rw [if_pos hok,if_pos ht]
      have hP:ctP ⟨w,h,xs⟩ t = ⟨w,h,xs.map (ctF t)⟩:=by unfold ctP; rw [hE,if_pos rfl]
      have hl:=hok.len
      have hall:=hok.2.2
      simp only at hl hall
      have c1:¬ t < 0:=by omega
      have c2:¬ 25 < t:=by omega
      have hpw:=pw25 t0 (by omega)
      have hb64:=bits_i64
      have hct:∀ c,ctF t c = if c < 0 then - (max c (-c) / 2 ^ t.toNat * 2 ^ t.toNat) else max c (-c) / 2 ^ t.toNat * 2 ^ t.toNat:=fun c => rfl
      obtain ⟨T,hT⟩:∃ T,(2:Int) ^ t.toNat = T:=⟨_,rfl⟩
      rw [hT] at hpw
      simp only [hT] at hct
      simp -implicitDefEqProofs only [push_cast,zz,BEq.rfl,ite_true,ite_false,List.append_nil,reduceCtorEq,Nat.reduceAdd,Nat.reduceSub,Nat.reduceMul,Nat.reduceLeDiff,Nat.reduceLT,Nat.reduceEqDiff,Nat.reduceBEq,Nat.reduceBNe,Int.reduceNeg,Int.reduceToNat,ir23,fs39,hok,c1,c2]
      intro X
      repeat (refine And.intro (by first | omega | trivial | (intros; omega)) ?_)
      intro X1
      repeat (refine And.intro (by first | omega | trivial | (intros; omega)) ?_)
      refine evS_loopU (A:=Nat × Xf.Loc) kp23_1 kl23_1 (fun y => [(31,.int .i64 y.1)]) (fun y => [(16,.mine,X1 5 16,.cells [.int .i64 w,.int .i64 h,.sl 13 y.2 1 0 y.1]),(13,.mine,y.2,.ints .i64 ((xs.take y.1).map (ctF t)))]) (fun y => y.1≤xs.length) (fun y => xs.length - y.1) (0,nilLoc) (Nat.zero_le _) (Sub.of (mkG 19 [(0,0),(10,10),(11,11),(16,16)]) ?_) ?_
      · simp -implicitDefEqProofs only [push_cast,zz,BEq.rfl,ite_true,ite_false,List.append_nil,reduceCtorEq,Nat.reduceAdd,Nat.reduceSub,Nat.reduceMul,Nat.reduceLeDiff,Nat.reduceLT,Nat.reduceEqDiff,Nat.reduceBEq,Nat.reduceBNe,Int.reduceNeg,Int.reduceToNat,List.take_zero,List.map_nil]
      intro ⟨k,M⟩ hk K hK
      have hk:k≤xs.length:=hk
      by_cases hk':k < xs.length
      · have hki:(k:Int) < xs.length:=by omega
        have hst:(xs.take (k + 1)).map (ctF t) = (xs.take k).map (ctF t)++[ctF t (rd xs (k:Nat))]:=by
          rw [List.take_succ_eq_append_getElem hk',List.map_append,rd_lt xs k hk']; rfl
        have hlen:((xs.take k).map (ctF t)).length = k:=by rw [List.length_map,List.length_take]; omega
        have hx:=allIn_rd.1 hall k hk'
        obtain ⟨m,hm⟩:∃ m,(xs.take k).map (ctF t) = m:=⟨_,rfl⟩
        obtain ⟨x,hxx⟩:∃ m,rd xs (k:Nat) = m:=⟨_,rfl⟩
        rw [hm] at hst hlen
        rw [hxx] at hst hx
        rw [hct] at hst
        have hd0:0≤max x (-x) / T:=Int.ediv_nonneg (by omega) (by omega)
        have hd1:max x (-x) / T * T≤max x (-x):=Int.ediv_mul_le _ (by omega)
        have hd2:0≤max x (-x) / T * T:=Int.mul_nonneg hd0 (by omega)
        have hd3:max x (-x) / T≤max x (-x):=Int.ediv_le_self _ (by omega)
        obtain ⟨D,hD⟩:∃ D,max x (-x) / T * T = D:=⟨_,rfl⟩
        rw [hD] at hd1 hd2 hst
        by_cases hx0:x < 0
        · rw [if_pos hx0] at hst
          simp -implicitDefEqProofs only [push_cast,zz,BEq.rfl,ite_true,ite_false,List.append_nil,reduceCtorEq,Nat.reduceAdd,Nat.reduceSub,Nat.reduceMul,Nat.reduceLeDiff,Nat.reduceLT,Nat.reduceEqDiff,Nat.reduceBEq,Nat.reduceBNe,Int.reduceNeg,Int.reduceToNat,b23_1,hki,hm,hxx,hT,hD,hx0]
          repeat (refine And.intro (by first | omega | trivial | (intros; omega)) ?_)
          intro X2
          repeat (refine And.intro (by first | omega | trivial | (intros; omega)) ?_)
          refine hK (k + 1,X2 4 18) (show k + 1≤xs.length by omega) (show xs.length - (k + 1) < xs.length - k by omega) _ _ (Sub.of (mkG 19 [(0,0),(10,10),(11,11),(16,16),(13,18)]) ?_)
          simp -implicitDefEqProofs only [push_cast,zz,BEq.rfl,ite_true,ite_false,List.append_nil,reduceCtorEq,Nat.reduceAdd,Nat.reduceSub,Nat.reduceMul,Nat.reduceLeDiff,Nat.reduceLT,Nat.reduceEqDiff,Nat.reduceBEq,Nat.reduceBNe,Int.reduceNeg,Int.reduceToNat,hst,hlen]
        · rw [if_neg hx0] at hst
          simp -implicitDefEqProofs only [push_cast,zz,BEq.rfl,ite_true,ite_false,List.append_nil,reduceCtorEq,Nat.reduceAdd,Nat.reduceSub,Nat.reduceMul,Nat.reduceLeDiff,Nat.reduceLT,Nat.reduceEqDiff,Nat.reduceBEq,Nat.reduceBNe,Int.reduceNeg,Int.reduceToNat,b23_1,hki,hm,hxx,hT,hD,hx0]
          repeat (refine And.intro (by first | omega | trivial | (intros; omega)) ?_)
          intro X2
          repeat (refine And.intro (by first | omega | trivial | (intros; omega)) ?_)
          refine hK (k + 1,X2 4 18) (show k + 1≤xs.length by omega) (show xs.length - (k + 1) < xs.length - k by omega) _ _ (Sub.of (mkG 19 [(0,0),(10,10),(11,11),(16,16),(13,18)]) ?_)
          simp -implicitDefEqProofs only [push_cast,zz,BEq.rfl,ite_true,ite_false,List.append_nil,reduceCtorEq,Nat.reduceAdd,Nat.reduceSub,Nat.reduceMul,Nat.reduceLeDiff,Nat.reduceLT,Nat.reduceEqDiff,Nat.reduceBEq,Nat.reduceBNe,Int.reduceNeg,Int.reduceToNat,hst,hlen]
      · obtain rfl:k = xs.length:=by omega
        clear hK
        have hlm:(xs.map (ctF t)).length = xs.length:=List.length_map _
        simp -implicitDefEqProofs only [push_cast,zz,BEq.rfl,ite_true,ite_false,List.append_nil,reduceCtorEq,Nat.reduceAdd,Nat.reduceSub,Nat.reduceMul,Nat.reduceLeDiff,Nat.reduceLT,Nat.reduceEqDiff,Nat.reduceBEq,Nat.reduceBNe,Int.reduceNeg,Int.reduceToNat,b23_1,r23_2,Int.lt_irrefl,List.take_length]
        refine postF.mk' (fun _ => M) [some 0,some 13] ?_
        simp -implicitDefEqProofs only [push_cast,zz,BEq.rfl,ite_true,ite_false,List.append_nil,reduceCtorEq,Nat.reduceAdd,Nat.reduceSub,Nat.reduceMul,Nat.reduceLeDiff,Nat.reduceLT,Nat.reduceEqDiff,Nat.reduceBEq,Nat.reduceBNe,Int.reduceNeg,Int.reduceToNat,fs23,hE,hP,lx,hlm]
    · have hE:sgE ⟨w,h,xs⟩ t = 2:=by unfold sgE; rw [if_pos hok,if_neg ht]
      have h20:¬ (2:Int) = 0:=by decide
      have hP:ctP ⟨w,h,xs⟩ t = pl0:=by unfold ctP; rw [hE,if_neg h20]
      by_cases c1:t < 0
      · simp -implicitDefEqProofs only [push_cast,zz,BEq.rfl,ite_true,ite_false,List.append_nil,reduceCtorEq,Nat.reduceAdd,Nat.reduceSub,Nat.reduceMul,Nat.reduceLeDiff,Nat.reduceLT,Nat.reduceEqDiff,Nat.reduceBEq,Nat.reduceBNe,Int.reduceNeg,Int.reduceToNat,ir23,fs39,hok,c1]
        intro X
        repeat (refine And.intro (by first | omega | trivial | (intros; omega)) ?_)
        refine postF.mk' (fun _ => default) [some 0,none] ?_
        simp -implicitDefEqProofs only [push_cast,zz,BEq.rfl,ite_true,ite_false,List.append_nil,reduceCtorEq,Nat.reduceAdd,Nat.reduceSub,Nat.reduceMul,Nat.reduceLeDiff,Nat.reduceLT,Nat.reduceEqDiff,Nat.reduceBEq,Nat.reduceBNe,Int.reduceNeg,Int.reduceToNat,fs23,hE,hP,lx,h20,pl0,List.length_nil]
      · have c2:25 < t:=by
          rcases Int.lt_or_le 25 t with h | h
          · exact h
          · exact absurd ⟨by omega,h⟩ ht
        simp -implicitDefEqProofs only [push_cast,zz,BEq.rfl,ite_true,ite_false,List.append_nil,reduceCtorEq,Nat.reduceAdd,Nat.reduceSub,Nat.reduceMul,Nat.reduceLeDiff,Nat.reduceLT,Nat.reduceEqDiff,Nat.reduceBEq,Nat.reduceBNe,Int.reduceNeg,Int.reduceToNat,ir23,fs39,hok,c1,c2]
        intro X
        repeat (refine And.intro (by first | omega | trivial | (intros; omega)) ?_)
        refine postF.mk' (fun _ => default) [some 0,none] ?_
        simp -implicitDefEqProofs only [push_cast,zz,BEq.rfl,ite_true,ite_false,List.append_nil,reduceCtorEq,Nat.reduceAdd,Nat.reduceSub,Nat.reduceMul,Nat.reduceLeDiff,Nat.reduceLT,Nat.reduceEqDiff,Nat.reduceBEq,Nat.reduceBNe,Int.reduceNeg,Int.reduceToNat,fs23,hE,hP,lx,h20,pl0,List.length_nil]
  · have hE:sgE ⟨w,h,xs⟩ t = 70:=by unfold sgE; rw [if_neg hok]
    have h70:¬ (70:Int) = 0:=by decide
    have hP:ctP ⟨w,h,xs⟩ t = pl0:=by unfold ctP; rw [hE,if_neg h70]
    simp -implicitDefEqProofs only [push_cast,zz,BEq.rfl,ite_true,ite_false,List.append_nil,reduceCtorEq,Nat.reduceAdd,Nat.reduceSub,Nat.reduceMul,Nat.reduceLeDiff,Nat.reduceLT,Nat.reduceEqDiff,Nat.reduceBEq,Nat.reduceBNe,Int.reduceNeg,Int.reduceToNat,ir23,fs39,hok]
    intro X
    repeat (refine And.intro (by first | omega | trivial | (intros; omega)) ?_)
    refine postF.mk' (fun _ => default) [some 0,none] ?_
    simp -implicitDefEqProofs only [push_cast,zz,BEq.rfl,ite_true,ite_false,List.append_nil,reduceCtorEq,Nat.reduceAdd,Nat.reduceSub,Nat.reduceMul,Nat.reduceLeDiff,Nat.reduceLT,Nat.reduceEqDiff,Nat.reduceBEq,Nat.reduceBNe,Int.reduceNeg,Int.reduceToNat,fs23,hE,hP,lx,h70,pl0,List.length_nil]
def ent23:Entry:=spOf fs23 invSg
theorem e23:EntryOk Try.prog 23 ent23:=entry_of ok23 invSg
@[push_cast] theorem ent23_app (us:List SV) (look:Look) (x:Nat→Xf.Loc) (k:Nat):ent23 us look x k = spOf fs23 invSg us look x k:=rfl
set_option maxHeartbeats 1000000 in
theorem ok16:FSOk Try.prog 16 fs23:=by
  refine ⟨⟨_,Try.func16,by kernel_rfl,by kernel_rfl⟩,fun a => ⟨by simp [fs23,push_cast,noMine,argOwn,Chunk.frArg],by simp [fs23,push_cast,outOk,Chunk.ext],fun x => .inl (by simp [fs23,push_cast,frNew,frOut,Chunk.fr])⟩,fun a hp => ?_⟩
  obtain ⟨⟨w,h,xs⟩,L,t⟩:=a
  have h1:xs.length≤140737488355328:=hp
  change Tri Try.prog 16 [plV ⟨w,h,xs⟩ L 0,.int .i64 t] [some (.ro,L,.ints .i64 xs)] (postF fs23 ⟨⟨w,h,xs⟩,L,t⟩)
  refine tri_evS (hyp (l:=[(46,ent46)]) (lp:=[(47,absF)]) ⟨e46,trivial⟩ ⟨p47,trivial⟩) Try.func16 comp16 (rs:=[.cell 4 (some 3),.tmp 5]) (by rfl) Try.ntmps16 19 ?_
  by_cases hok:(⟨w,h,xs⟩:Pl).Ok
  · by_cases ht:tOk t
    · obtain ⟨t0,t1⟩:=id ht
      have hE:sgE ⟨w,h,xs⟩ t = 0:=by unfold sgE; rw [if_pos hok,if_pos ht]
      have hP:ctP ⟨w,h,xs⟩ t = ⟨w,h,xs.map (ctF t)⟩:=by unfold ctP; rw [hE,if_pos rfl]
      have hl:=hok.len
      have hall:=hok.2.2
      simp only at hl hall
      have c1:¬ t < 0:=by omega
      have c2:¬ 25 < t:=by omega
      have hpw:=pw25 t0 (by omega)
      have hb64:=bits_i64
      have hct:∀ c,ctF t c = if c < 0 then - (max c (-c) / 2 ^ t.toNat * 2 ^ t.toNat) else max c (-c) / 2 ^ t.toNat * 2 ^ t.toNat:=fun c => rfl
      obtain ⟨T,hT⟩:∃ T,(2:Int) ^ t.toNat = T:=⟨_,rfl⟩
      rw [hT] at hpw
      simp only [hT] at hct
      simp -implicitDefEqProofs only [push_cast,zz,BEq.rfl,ite_true,ite_false,List.append_nil,reduceCtorEq,Nat.reduceAdd,Nat.reduceSub,Nat.reduceMul,Nat.reduceLeDiff,Nat.reduceLT,Nat.reduceEqDiff,Nat.reduceBEq,Nat.reduceBNe,Int.reduceNeg,Int.reduceToNat,ir16,fs39,hok,c1,c2]
      intro X
      repeat (refine And.intro (by first | omega | trivial | (intros; omega)) ?_)
      intro X1
      repeat (refine And.intro (by first | omega | trivial | (intros; omega)) ?_)
      refine evS_loopU (A:=Nat × Xf.Loc) kp16_1 kl16_1 (fun y => [(29,.int .i64 y.1)]) (fun y => [(16,.mine,X1 5 16,.cells [.int .i64 w,.int .i64 h,.sl 13 y.2 1 0 y.1]),(13,.mine,y.2,.ints .i64 ((xs.take y.1).map (ctF t)))]) (fun y => y.1≤xs.length) (fun y => xs.length - y.1) (0,nilLoc) (Nat.zero_le _) (Sub.of (mkG 19 [(0,0),(10,10),(11,11),(16,16)]) ?_) ?_
      · simp -implicitDefEqProofs only [push_cast,zz,BEq.rfl,ite_true,ite_false,List.append_nil,reduceCtorEq,Nat.reduceAdd,Nat.reduceSub,Nat.reduceMul,Nat.reduceLeDiff,Nat.reduceLT,Nat.reduceEqDiff,Nat.reduceBEq,Nat.reduceBNe,Int.reduceNeg,Int.reduceToNat,List.take_zero,List.map_nil]
      intro ⟨k,M⟩ hk K hK
      have hk:k≤xs.length:=hk
      by_cases hk':k < xs.length
      · have hki:(k:Int) < xs.length:=by omega
        have hst:(xs.take (k + 1)).map (ctF t) = (xs.take k).map (ctF t)++[ctF t (rd xs (k:Nat))]:=by
          rw [List.take_succ_eq_append_getElem hk',List.map_append,rd_lt xs k hk']; rfl
        have hlen:((xs.take k).map (ctF t)).length = k:=by rw [List.length_map,List.length_take]; omega
        have hx:=allIn_rd.1 hall k hk'
        obtain ⟨m,hm⟩:∃ m,(xs.take k).map (ctF t) = m:=⟨_,rfl⟩
        obtain ⟨x,hxx⟩:∃ m,rd xs (k:Nat) = m:=⟨_,rfl⟩
        rw [hm] at hst hlen
        rw [hxx] at hst hx
        rw [hct] at hst
        have hd0:0≤max x (-x) / T:=Int.ediv_nonneg (by omega) (by omega)
        have hd1:max x (-x) / T * T≤max x (-x):=Int.ediv_mul_le _ (by omega)
        have hd2:0≤max x (-x) / T * T:=Int.mul_nonneg hd0 (by omega)
        have hd3:max x (-x) / T≤max x (-x):=Int.ediv_le_self _ (by omega)
        obtain ⟨D,hD⟩:∃ D,max x (-x) / T * T = D:=⟨_,rfl⟩
        rw [hD] at hd1 hd2 hst
        by_cases hx0:x < 0
        · rw [if_pos hx0] at hst
          simp -implicitDefEqProofs only [push_cast,zz,BEq.rfl,ite_true,ite_false,List.append_nil,reduceCtorEq,Nat.reduceAdd,Nat.reduceSub,Nat.reduceMul,Nat.reduceLeDiff,Nat.reduceLT,Nat.reduceEqDiff,Nat.reduceBEq,Nat.reduceBNe,Int.reduceNeg,Int.reduceToNat,b16_1,hki,hm,hxx,hT,hD,hx0]
          repeat (refine And.intro (by first | omega | trivial | (intros; omega)) ?_)
          intro X2
          repeat (refine And.intro (by first | omega | trivial | (intros; omega)) ?_)
          refine hK (k + 1,X2 4 18) (show k + 1≤xs.length by omega) (show xs.length - (k + 1) < xs.length - k by omega) _ _ (Sub.of (mkG 19 [(0,0),(10,10),(11,11),(16,16),(13,18)]) ?_)
          simp -implicitDefEqProofs only [push_cast,zz,BEq.rfl,ite_true,ite_false,List.append_nil,reduceCtorEq,Nat.reduceAdd,Nat.reduceSub,Nat.reduceMul,Nat.reduceLeDiff,Nat.reduceLT,Nat.reduceEqDiff,Nat.reduceBEq,Nat.reduceBNe,Int.reduceNeg,Int.reduceToNat,hst,hlen]
        · rw [if_neg hx0] at hst
          simp -implicitDefEqProofs only [push_cast,zz,BEq.rfl,ite_true,ite_false,List.append_nil,reduceCtorEq,Nat.reduceAdd,Nat.reduceSub,Nat.reduceMul,Nat.reduceLeDiff,Nat.reduceLT,Nat.reduceEqDiff,Nat.reduceBEq,Nat.reduceBNe,Int.reduceNeg,Int.reduceToNat,b16_1,hki,hm,hxx,hT,hD,hx0]
          repeat (refine And.intro (by first | omega | trivial | (intros; omega)) ?_)
          intro X2
          repeat (refine And.intro (by first | omega | trivial | (intros; omega)) ?_)
          refine hK (k + 1,X2 4 18) (show k + 1≤xs.length by omega) (show xs.length - (k + 1) < xs.length - k by omega) _ _ (Sub.of (mkG 19 [(0,0),(10,10),(11,11),(16,16),(13,18)]) ?_)
          simp -implicitDefEqProofs only [push_cast,zz,BEq.rfl,ite_true,ite_false,List.append_nil,reduceCtorEq,Nat.reduceAdd,Nat.reduceSub,Nat.reduceMul,Nat.reduceLeDiff,Nat.reduceLT,Nat.reduceEqDiff,Nat.reduceBEq,Nat.reduceBNe,Int.reduceNeg,Int.reduceToNat,hst,hlen]
      · obtain rfl:k = xs.length:=by omega
        clear hK
        have hlm:(xs.map (ctF t)).length = xs.length:=List.length_map _
        simp -implicitDefEqProofs only [push_cast,zz,BEq.rfl,ite_true,ite_false,List.append_nil,reduceCtorEq,Nat.reduceAdd,Nat.reduceSub,Nat.reduceMul,Nat.reduceLeDiff,Nat.reduceLT,Nat.reduceEqDiff,Nat.reduceBEq,Nat.reduceBNe,Int.reduceNeg,Int.reduceToNat,b16_1,r16_2,Int.lt_irrefl,List.take_length]
        refine postF.mk' (fun _ => M) [some 0,some 13] ?_
        simp -implicitDefEqProofs only [push_cast,zz,BEq.rfl,ite_true,ite_false,List.append_nil,reduceCtorEq,Nat.reduceAdd,Nat.reduceSub,Nat.reduceMul,Nat.reduceLeDiff,Nat.reduceLT,Nat.reduceEqDiff,Nat.reduceBEq,Nat.reduceBNe,Int.reduceNeg,Int.reduceToNat,fs23,hE,hP,lx,hlm]
    · have hE:sgE ⟨w,h,xs⟩ t = 2:=by unfold sgE; rw [if_pos hok,if_neg ht]
      have h20:¬ (2:Int) = 0:=by decide
      have hP:ctP ⟨w,h,xs⟩ t = pl0:=by unfold ctP; rw [hE,if_neg h20]
      by_cases c1:t < 0
      · simp -implicitDefEqProofs only [push_cast,zz,BEq.rfl,ite_true,ite_false,List.append_nil,reduceCtorEq,Nat.reduceAdd,Nat.reduceSub,Nat.reduceMul,Nat.reduceLeDiff,Nat.reduceLT,Nat.reduceEqDiff,Nat.reduceBEq,Nat.reduceBNe,Int.reduceNeg,Int.reduceToNat,ir16,fs39,hok,c1]
        intro X
        repeat (refine And.intro (by first | omega | trivial | (intros; omega)) ?_)
        refine postF.mk' (fun _ => default) [some 0,none] ?_
        simp -implicitDefEqProofs only [push_cast,zz,BEq.rfl,ite_true,ite_false,List.append_nil,reduceCtorEq,Nat.reduceAdd,Nat.reduceSub,Nat.reduceMul,Nat.reduceLeDiff,Nat.reduceLT,Nat.reduceEqDiff,Nat.reduceBEq,Nat.reduceBNe,Int.reduceNeg,Int.reduceToNat,fs23,hE,hP,lx,h20,pl0,List.length_nil]
      · have c2:25 < t:=by
          rcases Int.lt_or_le 25 t with h | h
          · exact h
          · exact absurd ⟨by omega,h⟩ ht
        simp -implicitDefEqProofs only [push_cast,zz,BEq.rfl,ite_true,ite_false,List.append_nil,reduceCtorEq,Nat.reduceAdd,Nat.reduceSub,Nat.reduceMul,Nat.reduceLeDiff,Nat.reduceLT,Nat.reduceEqDiff,Nat.reduceBEq,Nat.reduceBNe,Int.reduceNeg,Int.reduceToNat,ir16,fs39,hok,c1,c2]
        intro X
        repeat (refine And.intro (by first | omega | trivial | (intros; omega)) ?_)
        refine postF.mk' (fun _ => default) [some 0,none] ?_
        simp -implicitDefEqProofs only [push_cast,zz,BEq.rfl,ite_true,ite_false,List.append_nil,reduceCtorEq,Nat.reduceAdd,Nat.reduceSub,Nat.reduceMul,Nat.reduceLeDiff,Nat.reduceLT,Nat.reduceEqDiff,Nat.reduceBEq,Nat.reduceBNe,Int.reduceNeg,Int.reduceToNat,fs23,hE,hP,lx,h20,pl0,List.length_nil]
  · have hE:sgE ⟨w,h,xs⟩ t = 70:=by unfold sgE; rw [if_neg hok]
    have h70:¬ (70:Int) = 0:=by decide
    have hP:ctP ⟨w,h,xs⟩ t = pl0:=by unfold ctP; rw [hE,if_neg h70]
    simp -implicitDefEqProofs only [push_cast,zz,BEq.rfl,ite_true,ite_false,List.append_nil,reduceCtorEq,Nat.reduceAdd,Nat.reduceSub,Nat.reduceMul,Nat.reduceLeDiff,Nat.reduceLT,Nat.reduceEqDiff,Nat.reduceBEq,Nat.reduceBNe,Int.reduceNeg,Int.reduceToNat,ir16,fs39,hok]
    intro X
    repeat (refine And.intro (by first | omega | trivial | (intros; omega)) ?_)
    refine postF.mk' (fun _ => default) [some 0,none] ?_
    simp -implicitDefEqProofs only [push_cast,zz,BEq.rfl,ite_true,ite_false,List.append_nil,reduceCtorEq,Nat.reduceAdd,Nat.reduceSub,Nat.reduceMul,Nat.reduceLeDiff,Nat.reduceLT,Nat.reduceEqDiff,Nat.reduceBEq,Nat.reduceBNe,Int.reduceNeg,Int.reduceToNat,fs23,hE,hP,lx,h70,pl0,List.length_nil]
def ent16:Entry:=spOf fs23 invSg
theorem e16:EntryOk Try.prog 16 ent16:=entry_of ok16 invSg
@[push_cast] theorem ent16_app (us:List SV) (look:Look) (x:Nat→Xf.Loc) (k:Nat):ent16 us look x k = spOf fs23 invSg us look x k:=rfl
theorem ctP_len {p:Pl} {t:Int} (hp:p.xs.length≤140737488355328):(ctP p t).xs.length≤140737488355328:=by
  unfold ctP
  split
  · simp only [List.length_map]; exact hp
  · exact Nat.zero_le _
theorem tri9 (p:Pl) (hp:p.xs.length≤140737488355328) (t:Int) (L:Xf.Loc):Tri Try.prog 9 [plV p L 0,.int .i64 t]
    [some (.ro,L,.ints .i64 p.xs)] (fun v _ => v = .bool true):=by
  have hl:=ctP_len (t:=t) hp
  obtain ⟨w,h,xs⟩:=p
  have hp:xs.length≤140737488355328:=hp
  change Tri Try.prog 9 [plV ⟨w,h,xs⟩ L 0,.int .i64 t] [some (.ro,L,.ints .i64 xs)] _
  obtain ⟨E,hE⟩:∃ E,sgE ⟨w,h,xs⟩ t = E:=⟨_,rfl⟩
  obtain ⟨Q,hQ⟩:∃ Q,ctP ⟨w,h,xs⟩ t = Q:=⟨_,rfl⟩
  rw [hQ] at hl
  have hq:=Pl.Eq.refl Q
  obtain ⟨qw,qh,qx⟩:=Q
  simp only at hl
  refine tri_evS (hyp (l:=[(23,ent23),(16,ent16),(13,ent13),(10,ent10)]) (lp:=[]) ⟨e23,e16,e13,e10,trivial⟩ trivial) Try.func9 comp9 (rs:=[.tmp 4]) (by rfl) Try.ntmps9 29 ?_
  simp -implicitDefEqProofs only [push_cast,zz,BEq.rfl,ite_true,ite_false,List.append_nil,reduceCtorEq,Nat.reduceAdd,Nat.reduceSub,Nat.reduceMul,Nat.reduceLeDiff,Nat.reduceLT,Nat.reduceEqDiff,Nat.reduceBEq,Nat.reduceBNe,Int.reduceNeg,Int.reduceToNat,ir9,fs23,fs13,fs10,hp,hE,hQ,hl,hq]
end Go.Proofs.Ythicgkilfjjifaa
