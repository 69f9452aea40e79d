import Derived.Test.YthicgkilfjjifaaPA2
import Derived.Test.YthicgkilfjjifaaKc
import Derived.Test.YthicgkilfjjifaaProg
import Derived.Test.YthicgkilfjjifaaChecked
import Derived.ProofKit
import Derived.OpenShut
import Derived.SizedLaws
import Derived.ChangeOld
import Derived.Below
set_option linter.unusedVariables false
set_option linter.unusedSimpArgs false
set_option maxRecDepth 1000
namespace Go.Proofs.Ythicgkilfjjifaa
open Xf
def ir82:IR :=
  .seq (.reg false [⟨some 4,none,⟨[],[]⟩,.mov (.k (.bool false))⟩] [4] []) (.seq (.reg false [⟨some 5,none,⟨[],[]⟩,.mov (.t 0)⟩,
    ⟨some 6,none,⟨[],[]⟩,.bin 0 .geq (.t 5) (.k (.int .i64 0))⟩,
    ⟨some 7,none,⟨[],[]⟩,.mov (.t 6)⟩,
    ⟨some 8,some (7,true),⟨[],[]⟩,.mov (.t 1)⟩,
    ⟨some 9,some (7,true),⟨[],[]⟩,.bin 0 .geq (.t 8) (.k (.int .i64 0))⟩,
    ⟨some 10,none,⟨[],[]⟩,.pick (.t 7) (.t 9) (.k (.bool false))⟩,
    ⟨some 11,none,⟨[],[]⟩,.mov (.t 10)⟩,
    ⟨some 12,some (11,true),⟨[],[]⟩,.mov (.t 0)⟩,
    ⟨some 13,some (11,true),⟨[],[]⟩,.bin 0 .leq (.t 12) (.k (.int .i64 200))⟩,
    ⟨some 14,none,⟨[],[]⟩,.pick (.t 11) (.t 13) (.k (.bool false))⟩,
    ⟨some 15,none,⟨[],[]⟩,.mov (.t 14)⟩,
    ⟨some 16,some (15,true),⟨[],[]⟩,.mov (.t 1)⟩,
    ⟨some 17,some (15,true),⟨[],[]⟩,.bin 0 .leq (.t 16) (.k (.int .i64 200))⟩,
    ⟨some 18,none,⟨[],[]⟩,.pick (.t 15) (.t 17) (.k (.bool false))⟩,
    ⟨some 19,none,⟨[],[]⟩,.mov (.t 18)⟩,
    ⟨some 20,some (19,true),⟨[],[]⟩,.mov (.t 0)⟩,
    ⟨some 21,some (19,true),⟨[],[]⟩,.mov (.t 1)⟩,
    ⟨some 22,some (19,true),⟨[],[]⟩,.bin 0 .mul (.t 20) (.t 21)⟩,
    ⟨some 23,some (19,true),⟨[],[]⟩,.bin 0 .leq (.t 22) (.k (.int .i64 8192))⟩,
    ⟨some 24,none,⟨[],[]⟩,.pick (.t 19) (.t 23) (.k (.bool false))⟩,
    ⟨some 4,none,⟨[],[]⟩,.mov (.t 24)⟩] [0,1,5,6,7,8,9,10,11,12,13,14,15,16,17,18,19,20,21,22,23,24] []) (.ret))
set_option maxRecDepth 4000 in
theorem comp82:(Try.f82.body.bind fun c => compC tab isP chkAll ir82 c) = some ir82:=by kernel_rfl
def sidesF:EntryP
  | [.int .i64 w,.int .i64 h] => some (True,.bool (decide (SidesOk w h)))
  | _ => none
attribute [push_cast] sidesF
theorem p82:EntryPOk Try.prog 82 sidesF:=by
  refine ⟨⟨_,Try.func82,by kernel_rfl,by kernel_rfl⟩,fun us p v h hp => ?_⟩
  unfold sidesF at h
  split at h <;> cases h
  refine tri_evS (hyp (l:=[]) (lp:=[]) trivial trivial) Try.func82 comp82 (rs:=[.tmp 4]) (by rfl) Try.ntmps82 10 ?_
  simp -implicitDefEqProofs only [push_cast,zz,BEq.rfl,ite_true,ite_false,List.append_nil,reduceCtorEq,Nat.reduceAdd,Nat.reduceSub,Nat.reduceMul,Nat.reduceLeDiff,Nat.reduceLT,Nat.reduceEqDiff,Nat.reduceBEq,Nat.reduceBNe,Int.reduceNeg,Int.reduceToNat,ir82,sidesF]
  refine ⟨fun h => ?_,by simp only [SidesOk,and_assoc]⟩
  have:=mul_bd h.1 h.2.2.1 h.2.1 h.2.2.2
  omega
def b46_1:IR :=
  .seq (.seq (.reg false [⟨some 21,none,⟨[],[]⟩,.mov (.t 3)⟩,
    ⟨some 22,none,⟨[],[]⟩,.fld (.t 1) 2⟩,
    ⟨some 23,none,⟨[],[]⟩,.ld false none 0 0 (.t 22)⟩,
    ⟨some 24,none,⟨[],[]⟩,.len (.t 23)⟩,
    ⟨some 25,none,⟨[],[]⟩,.bin 0 .lss (.t 21) (.t 24)⟩] [21,22,23,24] []) (.cond (.t 25) (.skip) (.exit 0))) (.seq (.block 1 (.seq (.reg false [⟨some 28,none,⟨[],[]⟩,.fld (.t 1) 2⟩,
    ⟨some 29,none,⟨[],[]⟩,.ld false none 0 0 (.t 28)⟩,
    ⟨some 30,none,⟨[],[]⟩,.mov (.t 3)⟩,
    ⟨some 31,none,⟨[],[]⟩,.idxS (.t 29) (.t 30) 1⟩,
    ⟨some 32,none,⟨[],[]⟩,.ld true none 0 0 (.t 31)⟩,
    ⟨some 33,none,⟨[],[]⟩,.bin 0 .lss (.t 32) (.k (.int .i64 (-16777216)))⟩,
    ⟨some 34,none,⟨[],[]⟩,.mov (.t 33)⟩,
    ⟨some 35,some (34,false),⟨[],[]⟩,.fld (.t 1) 2⟩,
    ⟨some 36,some (34,false),⟨[],[]⟩,.ld false none 0 0 (.t 35)⟩,
    ⟨some 37,some (34,false),⟨[],[]⟩,.mov (.t 3)⟩,
    ⟨some 38,some (34,false),⟨[],[]⟩,.idxS (.t 36) (.t 37) 1⟩,
    ⟨some 39,some (34,false),⟨[],[]⟩,.ld true none 0 0 (.t 38)⟩,
    ⟨some 40,some (34,false),⟨[],[]⟩,.bin 0 .gtr (.t 39) (.k (.int .i64 16777216))⟩,
    ⟨some 41,none,⟨[],[]⟩,.pick (.t 34) (.k (.bool true)) (.t 40)⟩] [25,28,29,30,31,32,33,34,35,36,37,38,39,40] []) (.cond (.t 41) (.seq (.reg false [⟨some 2,none,⟨[],[]⟩,.mov (.k (.bool false))⟩] [1,3,41] []) (.ret)) (.skip)))) (.reg false [⟨some 26,none,⟨[],[]⟩,.mov (.t 3)⟩,
    ⟨some 27,none,⟨[],[]⟩,.bin 0 .add (.t 26) (.k (.int .i64 1))⟩,
    ⟨some 3,none,⟨[],[]⟩,.mov (.t 27)⟩] [2,26,27,41] []))
def r46_2:IR :=
  .seq (.reg false [⟨some 2,none,⟨[],[]⟩,.mov (.k (.bool true))⟩] [1,3] []) (.ret)
def ir46:IR :=
  .seq (.reg false [⟨some 1,none,⟨[],[]⟩,.box 10 (.t 0)⟩,
    ⟨some 2,none,⟨[],[]⟩,.mov (.k (.bool false))⟩] [0,2] []) (.seq (.seq (.reg false [⟨some 4,none,⟨[],[]⟩,.fld (.t 1) 0⟩,
    ⟨some 5,none,⟨[],[]⟩,.ld false none 0 0 (.t 4)⟩,
    ⟨some 6,none,⟨[],[]⟩,.fld (.t 1) 1⟩,
    ⟨some 7,none,⟨[],[]⟩,.ld false none 0 0 (.t 6)⟩,
    ⟨some 8,none,⟨[],[]⟩,.callp 82 [.t 5,.t 7]⟩,
    ⟨some 9,none,⟨[],[]⟩,.not (.t 8)⟩,
    ⟨some 10,none,⟨[],[]⟩,.mov (.t 9)⟩,
    ⟨some 11,some (10,false),⟨[],[]⟩,.fld (.t 1) 2⟩,
    ⟨some 12,some (10,false),⟨[],[]⟩,.ld false none 0 0 (.t 11)⟩,
    ⟨some 13,some (10,false),⟨[],[]⟩,.len (.t 12)⟩,
    ⟨some 14,some (10,false),⟨[],[]⟩,.fld (.t 1) 0⟩,
    ⟨some 15,some (10,false),⟨[],[]⟩,.ld false none 0 0 (.t 14)⟩,
    ⟨some 16,some (10,false),⟨[],[]⟩,.fld (.t 1) 1⟩,
    ⟨some 17,some (10,false),⟨[],[]⟩,.ld false none 0 0 (.t 16)⟩,
    ⟨some 18,some (10,false),⟨[],[]⟩,.bin 0 .mul (.t 15) (.t 17)⟩,
    ⟨some 19,some (10,false),⟨[],[]⟩,.bin 0 .neq (.t 13) (.t 18)⟩,
    ⟨some 20,none,⟨[],[]⟩,.pick (.t 10) (.k (.bool true)) (.t 19)⟩] [4,5,6,7,8,9,10,11,12,13,14,15,16,17,18,19] []) (.cond (.t 20) (.seq (.reg false [⟨some 2,none,⟨[],[]⟩,.mov (.k (.bool false))⟩] [1,20] []) (.ret)) (.skip))) (.seq (.seq (.reg false [⟨some 3,none,⟨[],[]⟩,.mov (.k (.int .i64 0))⟩] [2,20] []) (.block 0 (.loop b46_1))) (r46_2)))
def kp46_1:List Nat:=[1,3]
def kl46_1:List Nat:=[]
attribute [push_cast] kp46_1 kl46_1
set_option maxRecDepth 4000 in
theorem comp46:(Try.f46.body.bind fun c => compC tab isP chkAll ir46 c) = some ir46:=by kernel_rfl
theorem ok46:FSOk Try.prog 46 fs39:=by
  refine ⟨⟨_,Try.func46,by kernel_rfl,by kernel_rfl⟩,fun a => ⟨by simp [fs39,push_cast,noMine,argOwn,Chunk.frArg],by simp [fs39,push_cast,outOk,Chunk.ext],fun x => .inl (by simp [fs39,push_cast,frNew,frOut,Chunk.fr])⟩,fun a hp => ?_⟩
  obtain ⟨⟨w,h,xs⟩,L⟩:=a
  change xs.length≤140737488355328 at hp
  change Tri Try.prog 46 [plV ⟨w,h,xs⟩ L 0] [some (.ro,L,.ints .i64 xs)] (postF fs39 ⟨⟨w,h,xs⟩,L⟩)
  refine tri_evS (hyp (l:=[]) (lp:=[(82,sidesF)]) trivial ⟨p82,trivial⟩) Try.func46 comp46 (rs:=[.tmp 2]) (by rfl) Try.ntmps46 11 ?_
  simp -implicitDefEqProofs only [push_cast,zz,BEq.rfl,ite_true,ite_false,List.append_nil,reduceCtorEq,Nat.reduceAdd,Nat.reduceSub,Nat.reduceMul,Nat.reduceLeDiff,Nat.reduceLT,Nat.reduceEqDiff,Nat.reduceBEq,Nat.reduceBNe,Int.reduceNeg,Int.reduceToNat,ir46]
  refine fun X => ⟨fun H => ?_,fun hn => ?_,fun hy => ?_⟩
  · have:=H.bd
    exact ⟨H,by omega,by omega⟩
  · have e:¬ (⟨w,h,xs⟩:Pl).Ok:=fun H => by
      obtain ⟨a1,b,_⟩:=H
      simp only at a1 b
      simp [a1,b] at hn
    refine postF.mk' (fun _ => default) [some 0] ?_
    simp -implicitDefEqProofs only [push_cast,zz,BEq.rfl,ite_true,ite_false,List.append_nil,reduceCtorEq,Nat.reduceAdd,Nat.reduceSub,Nat.reduceMul,Nat.reduceLeDiff,Nat.reduceLT,Nat.reduceEqDiff,Nat.reduceBEq,Nat.reduceBNe,Int.reduceNeg,Int.reduceToNat,fs39,e,decide_false]
  have hs:SidesOk w h:=Classical.byContradiction fun H => hy (.inl H)
  have hl:(xs.length:Int) = w * h:=Classical.byContradiction fun H => hy (.inr H)
  refine evS_loopU (A:=Nat) kp46_1 kl46_1 (fun i => [(3,.int .i64 i)]) (fun _ => [])
    (fun i => i≤xs.length∧∀ j,j < i→-16777216≤rd xs (j:Nat)∧rd xs (j:Nat)≤16777216) (fun i => xs.length - i) 0 ⟨by omega,by omega⟩ (Sub.pt ?_) ?_
  · simp -implicitDefEqProofs only [push_cast,zz,BEq.rfl,ite_true,ite_false,List.append_nil,reduceCtorEq,Nat.reduceAdd,Nat.reduceSub,Nat.reduceMul,Nat.reduceLeDiff,Nat.reduceLT,Nat.reduceEqDiff,Nat.reduceBEq,Nat.reduceBNe,Int.reduceNeg,Int.reduceToNat]
  intro i ⟨h1,h2⟩ K hK
  simp -implicitDefEqProofs only [push_cast,zz,BEq.rfl,ite_true,ite_false,List.append_nil,reduceCtorEq,Nat.reduceAdd,Nat.reduceSub,Nat.reduceMul,Nat.reduceLeDiff,Nat.reduceLT,Nat.reduceEqDiff,Nat.reduceBEq,Nat.reduceBNe,Int.reduceNeg,Int.reduceToNat,b46_1,r46_2]
  refine ⟨fun hl => ?_,fun hl => ?_⟩
  · repeat (refine And.intro (by first | omega | trivial | (intros; omega)) ?_)
    refine ⟨fun hb => ?_,fun hg => ⟨by omega,by omega,?_⟩⟩
    · have e:¬ (⟨w,h,xs⟩:Pl).Ok:=fun H => by
        have:=allIn_rd.1 H.2.2 i (show i < xs.length by omega)
        simp only at this
        omega
      refine postF.mk' (fun _ => default) [some 0] ?_
      simp -implicitDefEqProofs only [push_cast,zz,BEq.rfl,ite_true,ite_false,List.append_nil,reduceCtorEq,Nat.reduceAdd,Nat.reduceSub,Nat.reduceMul,Nat.reduceLeDiff,Nat.reduceLT,Nat.reduceEqDiff,Nat.reduceBEq,Nat.reduceBNe,Int.reduceNeg,Int.reduceToNat,fs39,e,decide_false]
    · refine hK (i + 1) ⟨by omega,fun j hj => ?_⟩ (show xs.length - (i + 1) < xs.length - i by omega) _ _ (Sub.pt ?_)
      · by_cases e:j = i
        · subst e; omega
        · exact h2 j (by omega)
      · simp -implicitDefEqProofs only [push_cast,zz,BEq.rfl,ite_true,ite_false,List.append_nil,reduceCtorEq,Nat.reduceAdd,Nat.reduceSub,Nat.reduceMul,Nat.reduceLeDiff,Nat.reduceLT,Nat.reduceEqDiff,Nat.reduceBEq,Nat.reduceBNe,Int.reduceNeg,Int.reduceToNat]
  · have e:(⟨w,h,xs⟩:Pl).Ok:=⟨hs,‹_›,allIn_rd.2 fun j (hj:j < xs.length) => h2 j (by omega)⟩
    refine postF.mk' (fun _ => default) [some 0] ?_
    simp -implicitDefEqProofs only [push_cast,zz,BEq.rfl,ite_true,ite_false,List.append_nil,reduceCtorEq,Nat.reduceAdd,Nat.reduceSub,Nat.reduceMul,Nat.reduceLeDiff,Nat.reduceLT,Nat.reduceEqDiff,Nat.reduceBEq,Nat.reduceBNe,Int.reduceNeg,Int.reduceToNat,fs39,e,decide_true]
def ent46:Entry:=spOf fs39 inv39
theorem e46:EntryOk Try.prog 46 ent46:=entry_of ok46 inv39
@[push_cast] theorem ent46_app (us:List SV) (look:Look) (x:Nat→Xf.Loc) (k:Nat):ent46 us look x k = spOf fs39 inv39 us look x k:=rfl
def inv10:List SV→Look→Option (Unit × List Nat)
  | [],_ => some ((),[])
  | _,_ => none
attribute [push_cast] inv10
def ent10:Entry:=spOf fs10 inv10
theorem e10:EntryOk Try.prog 10 ent10:=entry_of ok10 inv10
@[push_cast] theorem ent10_app (us:List SV) (look:Look) (x:Nat→Xf.Loc) (k:Nat):ent10 us look x k = spOf fs10 inv10 us look x k:=rfl
def ir47:IR :=
  .seq (.reg false [⟨some 2,none,⟨[],[]⟩,.mov (.k (.int .i64 0))⟩] [2] []) (.seq (.reg false [⟨some 3,none,⟨[],[]⟩,.mov (.t 0)⟩,
    ⟨some 4,none,⟨[],[]⟩,.mov (.t 0)⟩,
    ⟨some 5,none,⟨[],[]⟩,.neg 0 (.t 4)⟩,
    ⟨some 6,none,⟨[],[]⟩,.mx (.t 3) (.t 5)⟩,
    ⟨some 2,none,⟨[],[]⟩,.mov (.t 6)⟩] [0,3,4,5,6] []) (.ret))
set_option maxRecDepth 4000 in
theorem comp47:(Try.f47.body.bind fun c => compC tab isP chkAll ir47 c) = some ir47:=by kernel_rfl
def ir52:IR :=
  .seq (.reg false [⟨some 2,none,⟨[],[]⟩,.mov (.k (.int .i64 0))⟩] [2] []) (.seq (.seq (.reg false [⟨some 3,none,⟨[],[]⟩,.mov (.t 0)⟩] [0] []) (.cond (.t 3) (.seq (.reg false [⟨some 2,none,⟨[],[]⟩,.mov (.k (.int .i64 1))⟩] [3] []) (.ret)) (.skip))) (.seq (.reg false [⟨some 2,none,⟨[],[]⟩,.mov (.k (.int .i64 0))⟩] [3] []) (.ret)))
set_option maxRecDepth 4000 in
theorem comp52:(Try.f52.body.bind fun c => compC tab isP chkAll ir52 c) = some ir52:=by kernel_rfl
def b87_1:IR :=
  .seq (.seq (.reg false [⟨some 4,none,⟨[],[]⟩,.mov (.t 0)⟩,
    ⟨some 5,none,⟨[],[]⟩,.bin 0 .gtr (.t 4) (.k (.int .i64 0))⟩] [4] []) (.cond (.t 5) (.skip) (.exit 0))) (.seq (.block 1 (.reg false [⟨some 8,none,⟨[],[]⟩,.mov (.t 3)⟩,
    ⟨some 9,none,⟨[],[]⟩,.bin 0 .add (.t 8) (.k (.int .i64 1))⟩,
    ⟨some 3,none,⟨[],[]⟩,.mov (.t 9)⟩] [5,8,9] [])) (.reg false [⟨some 6,none,⟨[],[]⟩,.mov (.t 0)⟩,
    ⟨some 7,none,⟨[],[]⟩,.bin 0 .quo (.t 6) (.k (.int .i64 2))⟩,
    ⟨some 0,none,⟨[],[]⟩,.mov (.t 7)⟩] [6,7] []))
def r87_2:IR :=
  .seq (.reg false [⟨some 10,none,⟨[],[]⟩,.mov (.t 3)⟩,
    ⟨some 2,none,⟨[],[]⟩,.mov (.t 10)⟩] [0,3,10] []) (.ret)
def ir87:IR :=
  .seq (.reg false [⟨some 2,none,⟨[],[]⟩,.mov (.k (.int .i64 0))⟩] [2] []) (.seq (.reg false [⟨some 3,none,⟨[],[]⟩,.mov (.k (.int .i64 0))⟩] [] []) (.seq (.block 0 (.loop b87_1)) (r87_2)))
def kp87_1:List Nat:=[0,3]
def kl87_1:List Nat:=[]
attribute [push_cast] kp87_1 kl87_1
set_option maxRecDepth 4000 in
theorem comp87:(Try.f87.body.bind fun c => compC tab isP chkAll ir87 c) = some ir87:=by kernel_rfl
def b50_1:IR :=
  .seq (.reg false [⟨some 10,none,⟨[],[]⟩,.bin 0 .lss (.t 9) (.t 8)⟩] [] []) (.seq (.cond (.t 10) (.skip) (.exit 0)) (.seq (.block 1 (.seq (.reg false [⟨some 11,none,⟨[],[]⟩,.idxS (.t 7) (.t 9) 1⟩,
    ⟨some 12,none,⟨[],[]⟩,.ld true none 0 0 (.t 11)⟩,
    ⟨some 5,none,⟨[],[]⟩,.mov (.t 12)⟩] [10,11,12] []) (.reg false [⟨some 13,none,⟨[],[]⟩,.mov (.t 3)⟩,
    ⟨some 14,none,⟨[],[]⟩,.mov (.t 5)⟩,
    ⟨some 15,none,⟨[],[]⟩,.callp 47 [.t 14]⟩,
    ⟨some 16,none,⟨[],[]⟩,.callp 87 [.t 15]⟩,
    ⟨some 17,none,⟨[],[]⟩,.mx (.t 13) (.t 16)⟩,
    ⟨some 3,none,⟨[],[]⟩,.mov (.t 17)⟩] [5,13,14,15,16,17] []))) (.reg false [⟨some 18,none,⟨[],[]⟩,.bin 0 .add (.t 9) (.k (.int .i64 1))⟩,
    ⟨some 9,none,⟨[],[]⟩,.mov (.t 18)⟩] [18] [])))
def r50_2:IR :=
  .seq (.reg false [⟨some 19,none,⟨[],[]⟩,.mov (.t 3)⟩,
    ⟨some 2,none,⟨[],[]⟩,.mov (.t 19)⟩] [3,7,8,9,19] []) (.ret)
def ir50:IR :=
  .seq (.reg false [⟨some 1,none,⟨[],[]⟩,.box 10 (.t 0)⟩,
    ⟨some 2,none,⟨[],[]⟩,.mov (.k (.int .i64 0))⟩] [0,2] []) (.seq (.reg false [⟨some 3,none,⟨[],[]⟩,.mov (.k (.int .i64 0))⟩] [] []) (.seq (.seq (.reg false [⟨some 6,none,⟨[],[]⟩,.fld (.t 1) 2⟩,
    ⟨some 7,none,⟨[],[]⟩,.ld false none 0 0 (.t 6)⟩,
    ⟨some 8,none,⟨[],[]⟩,.len (.t 7)⟩,
    ⟨some 9,none,⟨[],[]⟩,.mov (.k (.int .i64 0))⟩] [1,6] []) (.block 0 (.loop b50_1))) (r50_2)))
def kp50_1:List Nat:=[3,7,8,9]
def kl50_1:List Nat:=[]
attribute [push_cast] kp50_1 kl50_1
set_option maxRecDepth 4000 in
theorem comp50:(Try.f50.body.bind fun c => compC tab isP chkAll ir50 c) = some ir50:=by kernel_rfl
def ir20:IR :=
  .seq (.reg false [⟨some 1,none,⟨[],[]⟩,.box 10 (.t 0)⟩,
    ⟨some 2,none,⟨[],[]⟩,.mov (.k (.int .i64 0))⟩,
    ⟨some 3,none,⟨[],[]⟩,.mov (.k (.int .i64 0))⟩] [0,2,3] []) (.seq (.seq (.reg false [⟨some 4,none,⟨[],[]⟩,.ld false (some 3) 0 0 (.t 1)⟩,
    ⟨some 5,none,⟨[],[]⟩,.call (some 4) 11 46 [.t 4]⟩,
    ⟨some 6,none,⟨[],[]⟩,.not (.t 5)⟩] [4,5] []) (.cond (.t 6) (.seq (.reg false [⟨some 2,none,⟨[],[]⟩,.mov (.k (.int .i64 0))⟩,
    ⟨some 3,none,⟨[],[]⟩,.mov (.k (.int .i64 70))⟩] [1,6] []) (.ret)) (.skip))) (.seq (.reg false [⟨some 7,none,⟨[],[]⟩,.ld false (some 3) 0 0 (.t 1)⟩,
    ⟨some 8,none,⟨[],[]⟩,.call (some 4) 15 50 [.t 7]⟩,
    ⟨some 2,none,⟨[],[]⟩,.mov (.t 8)⟩,
    ⟨some 3,none,⟨[],[]⟩,.mov (.k (.int .i64 0))⟩] [1,6,7,8] []) (.ret)))
set_option maxRecDepth 4000 in
theorem comp20:(Try.f20.body.bind fun c => compC tab isP chkAll ir20 c) = some ir20:=by kernel_rfl
def b21_1:IR :=
  .seq (.reg false [⟨some 24,none,⟨[],[]⟩,.bin 0 .lss (.t 23) (.t 22)⟩] [] []) (.seq (.cond (.t 24) (.skip) (.exit 1)) (.seq (.block 2 (.seq (.reg false [⟨some 25,none,⟨[],[]⟩,.idxS (.t 21) (.t 23) 1⟩,
    ⟨some 26,none,⟨[],[]⟩,.ld true none 0 0 (.t 25)⟩,
    ⟨some 8,none,⟨[],[]⟩,.mov (.t 26)⟩] [24,25,26] []) (.seq (.reg true [⟨some 27,none,⟨[],[]⟩,.mov (.t 8)⟩,
    ⟨some 28,none,⟨[],[]⟩,.callp 51 [.t 27]⟩,
    ⟨some 29,none,⟨[],[]⟩,.mov (.t 1)⟩,
    ⟨some 30,none,⟨[],[]⟩,.bin 0 .shl (.k (.int .i64 1)) (.t 29)⟩,
    ⟨some 31,none,⟨[],[]⟩,.bin 0 .geq (.t 28) (.t 30)⟩] [8,27,28,29,30] []) (.cond (.t 31) (.reg false [⟨some 32,none,⟨[],[]⟩,.mov (.t 6)⟩,
    ⟨some 33,none,⟨[],[]⟩,.bin 0 .add (.t 32) (.k (.int .i64 1))⟩,
    ⟨some 6,none,⟨[],[]⟩,.mov (.t 33)⟩] [31,32,33] []) (.skip))))) (.reg false [⟨some 34,none,⟨[],[]⟩,.bin 0 .add (.t 23) (.k (.int .i64 1))⟩,
    ⟨some 23,none,⟨[],[]⟩,.mov (.t 34)⟩] [31,34] [])))
def r21_2:IR :=
  .seq (.reg false [⟨some 35,none,⟨[],[]⟩,.mov (.t 6)⟩,
    ⟨some 4,none,⟨[],[]⟩,.mov (.t 35)⟩,
    ⟨some 5,none,⟨[],[]⟩,.mov (.k (.int .i64 0))⟩] [1,6,21,22,23,35] []) (.ret)
def ir21:IR :=
  .seq (.reg false [⟨some 2,none,⟨[],[]⟩,.box 10 (.t 0)⟩,
    ⟨some 4,none,⟨[],[]⟩,.mov (.k (.int .i64 0))⟩,
    ⟨some 5,none,⟨[],[]⟩,.mov (.k (.int .i64 0))⟩] [0,4,5] []) (.seq (.block 0 (.seq (.reg false [⟨some 10,none,⟨[],[]⟩,.ld false (some 3) 0 0 (.t 2)⟩,
    ⟨some 11,none,⟨[],[]⟩,.call (some 4) 11 39 [.t 10]⟩,
    ⟨some 12,none,⟨[],[]⟩,.not (.t 11)⟩,
    ⟨some 9,none,⟨[],[]⟩,.mov (.t 12)⟩] [10,11,12] []) (.cond (.t 9) (.seq (.reg false [⟨some 4,none,⟨[],[]⟩,.mov (.k (.int .i64 0))⟩,
    ⟨some 5,none,⟨[],[]⟩,.mov (.k (.int .i64 70))⟩] [1,2,9] []) (.ret)) (.seq (.reg false [⟨some 14,none,⟨[],[]⟩,.mov (.t 1)⟩,
    ⟨some 15,none,⟨[],[]⟩,.bin 0 .lss (.t 14) (.k (.int .i64 0))⟩,
    ⟨some 16,none,⟨[],[]⟩,.mov (.t 15)⟩,
    ⟨some 17,some (16,false),⟨[],[]⟩,.mov (.t 1)⟩,
    ⟨some 18,some (16,false),⟨[],[]⟩,.bin 0 .gtr (.t 17) (.k (.int .i64 25))⟩,
    ⟨some 19,none,⟨[],[]⟩,.pick (.t 16) (.k (.bool true)) (.t 18)⟩,
    ⟨some 13,none,⟨[],[]⟩,.mov (.t 19)⟩] [9,14,15,16,17,18,19] []) (.cond (.t 13) (.seq (.reg false [⟨some 4,none,⟨[],[]⟩,.mov (.k (.int .i64 0))⟩,
    ⟨some 5,none,⟨[],[]⟩,.mov (.k (.int .i64 2))⟩] [1,2,13] []) (.ret)) (.skip)))))) (.seq (.reg false [⟨some 6,none,⟨[],[]⟩,.mov (.k (.int .i64 0))⟩] [4,5,13] []) (.seq (.seq (.reg false [⟨some 20,none,⟨[],[]⟩,.fld (.t 2) 2⟩,
    ⟨some 21,none,⟨[],[]⟩,.ld false none 0 0 (.t 20)⟩,
    ⟨some 22,none,⟨[],[]⟩,.len (.t 21)⟩,
    ⟨some 23,none,⟨[],[]⟩,.mov (.k (.int .i64 0))⟩] [2,20] []) (.block 1 (.loop b21_1))) (r21_2))))
def kp21_1:List Nat:=[1,6,21,22,23]
def kl21_1:List Nat:=[]
attribute [push_cast] kp21_1 kl21_1
set_option maxRecDepth 4000 in
theorem comp21:(Try.f21.body.bind fun c => compC tab isP chkAll ir21 c) = some ir21:=by kernel_rfl
theorem p47:EntryPOk Try.prog 47 absF:=by
  refine ⟨⟨_,Try.func47,by kernel_rfl,by kernel_rfl⟩,fun us p v h hp => ?_⟩
  unfold absF at h
  split at h <;> cases h
  obtain ⟨h0,h1⟩:=hp
  refine tri_evS (hyp (l:=[]) (lp:=[]) trivial trivial) Try.func47 comp47 (rs:=[.tmp 2]) (by rfl) Try.ntmps47 10 ?_
  simp -implicitDefEqProofs only [push_cast,zz,BEq.rfl,ite_true,ite_false,List.append_nil,reduceCtorEq,Nat.reduceAdd,Nat.reduceSub,Nat.reduceMul,Nat.reduceLeDiff,Nat.reduceLT,Nat.reduceEqDiff,Nat.reduceBEq,Nat.reduceBNe,Int.reduceNeg,Int.reduceToNat,ir47]
  try omega
def oneF:EntryP
  | [.bool b] => some (True,.int .i64 (if b = true then 1 else 0))
  | _ => none
attribute [push_cast] oneF
theorem p52:EntryPOk Try.prog 52 oneF:=by
  refine ⟨⟨_,Try.func52,by kernel_rfl,by kernel_rfl⟩,fun us p v h hp => ?_⟩
  unfold oneF at h
  split at h <;> cases h
  rename_i b
  refine tri_evS (hyp (l:=[]) (lp:=[]) trivial trivial) Try.func52 comp52 (rs:=[.tmp 2]) (by rfl) Try.ntmps52 10 ?_
  cases b
  · simp -implicitDefEqProofs only [push_cast,zz,BEq.rfl,ite_true,ite_false,List.append_nil,reduceCtorEq,Nat.reduceAdd,Nat.reduceSub,Nat.reduceMul,Nat.reduceLeDiff,Nat.reduceLT,Nat.reduceEqDiff,Nat.reduceBEq,Nat.reduceBNe,Int.reduceNeg,Int.reduceToNat,ir52]
    try rfl
  · simp -implicitDefEqProofs only [push_cast,zz,BEq.rfl,ite_true,ite_false,List.append_nil,reduceCtorEq,Nat.reduceAdd,Nat.reduceSub,Nat.reduceMul,Nat.reduceLeDiff,Nat.reduceLT,Nat.reduceEqDiff,Nat.reduceBEq,Nat.reduceBNe,Int.reduceNeg,Int.reduceToNat,ir52]
def dgI (n:Nat) (y:Nat × Nat):Prop:=y.2 + lenN y.1 = lenN n∧y.1≤n
theorem dgI_0 (n:Nat):dgI n (n,0):=⟨Nat.zero_add _,Nat.le_refl n⟩
theorem dgI_s {n m k:Nat} (h:0 < m) (H:dgI n (m,k)):dgI n (m / 2,k + 1):=by
  have hh:=lenN_half (n:=m) h
  obtain ⟨H,H2⟩:=H
  simp only at H H2
  refine ⟨?_,show m / 2≤n by omega⟩
  simp only
  rw [← H,hh,Nat.add_comm (lenN (m / 2)) 1,Nat.add_assoc]
theorem dgI_e {n k:Nat} (H:dgI n (0,k)):k = lenN n:=by
  obtain ⟨H,_⟩:=H
  rw [← H]; simp [lenN]
theorem dgI_b {n m k:Nat} (hn:n < 4294967296) (H:dgI n (m,k)):k≤32∧m < 4294967296:=by
  obtain ⟨H,H2⟩:=H
  have hl:lenN n≤32:=lenN_lt (by omega)
  simp only at H H2
  omega
theorem half_lt {m:Nat} (h:0 < m):m / 2 < m:=by omega
def digF:EntryP
  | [.int .i64 x] => some (0≤x∧x < 4294967296,.int .i64 (lenP x))
  | _ => none
attribute [push_cast] digF
theorem p87:EntryPOk Try.prog 87 digF:=by
  refine ⟨⟨_,Try.func87,by kernel_rfl,by kernel_rfl⟩,fun us p v h hp => ?_⟩
  unfold digF at h
  split at h <;> cases h
  rename_i x
  obtain ⟨h0,h1⟩:=hp
  obtain ⟨n,rfl⟩:∃ n:Nat,x = n:=⟨x.toNat,by omega⟩
  have hl:lenN n≤32:=lenN_lt (by omega)
  have hlp:lenP (n:Int) = lenN n:=by unfold lenP; rw [Int.toNat_natCast]
  refine tri_evS (hyp (l:=[]) (lp:=[]) trivial trivial) Try.func87 comp87 (rs:=[.tmp 2]) (by rfl) Try.ntmps87 10 ?_
  simp -implicitDefEqProofs only [push_cast,zz,BEq.rfl,ite_true,ite_false,List.append_nil,reduceCtorEq,Nat.reduceAdd,Nat.reduceSub,Nat.reduceMul,Nat.reduceLeDiff,Nat.reduceLT,Nat.reduceEqDiff,Nat.reduceBEq,Nat.reduceBNe,Int.reduceNeg,Int.reduceToNat,ir87]
  refine evS_loopU (A:=Nat × Nat) kp87_1 kl87_1 (fun y => [(0,.int .i64 y.1),(3,.int .i64 y.2)]) (fun y => []) (dgI n) (fun y => y.1) (n,0) (dgI_0 n) (Sub.pt ?_) ?_
  · simp -implicitDefEqProofs only [push_cast,zz,BEq.rfl,ite_true,ite_false,List.append_nil,reduceCtorEq,Nat.reduceAdd,Nat.reduceSub,Nat.reduceMul,Nat.reduceLeDiff,Nat.reduceLT,Nat.reduceEqDiff,Nat.reduceBEq,Nat.reduceBNe,Int.reduceNeg,Int.reduceToNat]
  intro ⟨m,k⟩ hm K hK
  by_cases h0:0 < m
  · have hmi:(0:Int) < m:=by omega
    have hm2:=dgI_s h0 hm
    obtain ⟨g1,g2⟩:=dgI_b (by omega) hm
    have hlt:=half_lt h0
    obtain ⟨q,hq⟩:∃ q,m / 2 = q:=⟨_,rfl⟩
    have hqI:(m:Int) / 2 = q:=by omega
    rw [hq] at hm2 hlt
    clear hm
    simp -implicitDefEqProofs only [push_cast,zz,BEq.rfl,ite_true,ite_false,List.append_nil,reduceCtorEq,Nat.reduceAdd,Nat.reduceSub,Nat.reduceMul,Nat.reduceLeDiff,Nat.reduceLT,Nat.reduceEqDiff,Nat.reduceBEq,Nat.reduceBNe,Int.reduceNeg,Int.reduceToNat,b87_1,hmi,hqI]
    repeat (refine And.intro (by first | omega | trivial | (intros; omega)) ?_)
    refine hK (q,k + 1) hm2 hlt _ _ (Sub.pt ?_)
    simp -implicitDefEqProofs only [push_cast,zz,BEq.rfl,ite_true,ite_false,List.append_nil,reduceCtorEq,Nat.reduceAdd,Nat.reduceSub,Nat.reduceMul,Nat.reduceLeDiff,Nat.reduceLT,Nat.reduceEqDiff,Nat.reduceBEq,Nat.reduceBNe,Int.reduceNeg,Int.reduceToNat]
  · have hm0:m = 0:=by omega
    subst hm0
    have hk:=dgI_e hm
    clear hK
    simp -implicitDefEqProofs only [push_cast,zz,BEq.rfl,ite_true,ite_false,List.append_nil,reduceCtorEq,Nat.reduceAdd,Nat.reduceSub,Nat.reduceMul,Nat.reduceLeDiff,Nat.reduceLT,Nat.reduceEqDiff,Nat.reduceBEq,Nat.reduceBNe,Int.reduceNeg,Int.reduceToNat,b87_1,r87_2,Int.lt_irrefl,hlp,hk]
    try rfl
def maxD (xs:List Int):Int:=xs.foldl (fun m c => max m (lenP (max c (-c)))) 0
theorem maxD_take {xs:List Int} {k:Nat} (h:k < xs.length):maxD (xs.take (k + 1)) = max (maxD (xs.take k)) (lenP (max (rd xs (k:Nat)) (- rd xs (k:Nat)))):=by
  unfold maxD
  rw [List.take_succ_eq_append_getElem h,List.foldl_append,rd_lt xs k h]; rfl
theorem lenN_mono {a b:Nat} (h:a≤b):lenN a≤lenN b:=lenN_lt (Nat.lt_of_le_of_lt h (lenN_bd b).1)
theorem lenP_max {a b:Int}:lenP (max a b) = max (lenP a) (lenP b):=by
  unfold lenP
  rcases Int.le_total a b with h | h
  · rw [Int.max_eq_right h,Int.max_eq_right]
    have:=lenN_mono (a:=a.toNat) (b:=b.toNat) (by omega)
    omega
  · rw [Int.max_eq_left h,Int.max_eq_left]
    have:=lenN_mono (a:=b.toNat) (b:=a.toNat) (by omega)
    omega
theorem maxD_eq {xs:List Int}:∀ k,k≤xs.length→maxD (xs.take k) = lenP (maxA (xs.take k))
  | 0,_ => rfl
  | k + 1,h => by rw [maxD_take (by omega),maxA_take (by omega),lenP_max (a:=maxA (xs.take k)),maxD_eq k (by omega)]
theorem maxD_all (xs:List Int):maxD xs = planesP xs:=by
  have:=maxD_eq (xs:=xs) xs.length (Nat.le_refl _)
  rw [List.take_length] at this
  exact this
theorem lenP_32 {x:Int} (h:x < 4294967296):0≤lenP x∧lenP x≤32:=by
  have:lenN x.toNat≤32:=lenN_lt (by omega)
  unfold lenP
  omega
theorem ok50:FSOk Try.prog 50 fs40:=by
  refine ⟨⟨_,Try.func50,by kernel_rfl,by kernel_rfl⟩,fun a => ⟨by simp [fs40,push_cast,noMine,argOwn,Chunk.frArg],by simp [fs40,push_cast,outOk,Chunk.ext],fun x => .inl (by simp [fs40,push_cast,frNew,frOut,Chunk.fr])⟩,fun a hp => ?_⟩
  obtain ⟨⟨w,h,xs⟩,L⟩:=a
  obtain ⟨h1,h2⟩:AllIn (-16777216) 16777216 xs∧xs.length≤1000000:=hp
  have hmx:=maxA_bd (B:=16777216) (by decide) h1
  change Tri Try.prog 50 [plV ⟨w,h,xs⟩ L 0] [some (.ro,L,.ints .i64 xs)] (postF fs40 ⟨⟨w,h,xs⟩,L⟩)
  have hfin:=maxD_all xs
  refine tri_evS (hyp (l:=[]) (lp:=[(47,absF),(87,digF)]) trivial ⟨p47,p87,trivial⟩) Try.func50 comp50 (rs:=[.tmp 2]) (by rfl) Try.ntmps50 11 ?_
  simp -implicitDefEqProofs only [push_cast,zz,BEq.rfl,ite_true,ite_false,List.append_nil,reduceCtorEq,Nat.reduceAdd,Nat.reduceSub,Nat.reduceMul,Nat.reduceLeDiff,Nat.reduceLT,Nat.reduceEqDiff,Nat.reduceBEq,Nat.reduceBNe,Int.reduceNeg,Int.reduceToNat,ir50]
  intro X
  refine evS_loopU (A:=Nat) kp50_1 kl50_1 (fun k => [(3,.int .i64 (maxD (xs.take k))),(9,.int .i64 k)]) (fun k => []) (fun k => k≤xs.length) (fun k => xs.length - k) 0 (Nat.zero_le _) (Sub.pt ?_) ?_
  · have e0:maxD (xs.take 0) = 0:=rfl
    simp -implicitDefEqProofs only [push_cast,zz,BEq.rfl,ite_true,ite_false,List.append_nil,reduceCtorEq,Nat.reduceAdd,Nat.reduceSub,Nat.reduceMul,Nat.reduceLeDiff,Nat.reduceLT,Nat.reduceEqDiff,Nat.reduceBEq,Nat.reduceBNe,Int.reduceNeg,Int.reduceToNat,e0]
  intro k hk K hK
  have hk:k≤xs.length:=hk
  by_cases hk':k < xs.length
  · have hki:(k:Int) < xs.length:=by omega
    have ht:=maxD_take hk'
    have hx:=allIn_rd.1 h1 k hk'
    have hbd:=lenP_32 (x:=maxA (xs.take k)) (by have:=hmx k hk; omega)
    rw [← maxD_eq k hk] at hbd
    obtain ⟨m,hm⟩:∃ m,maxD (xs.take k) = m:=⟨_,rfl⟩
    obtain ⟨x,hxx⟩:∃ m,rd xs (k:Nat) = m:=⟨_,rfl⟩
    rw [hm] at ht hbd
    rw [hxx] at ht hx
    simp -implicitDefEqProofs only [push_cast,zz,BEq.rfl,ite_true,ite_false,List.append_nil,reduceCtorEq,Nat.reduceAdd,Nat.reduceSub,Nat.reduceMul,Nat.reduceLeDiff,Nat.reduceLT,Nat.reduceEqDiff,Nat.reduceBEq,Nat.reduceBNe,Int.reduceNeg,Int.reduceToNat,b50_1,hki,hm,hxx]
    repeat (refine And.intro (by first | omega | trivial | (intros; omega)) ?_)
    refine hK (k + 1) (show k + 1≤xs.length by omega) (show xs.length - (k + 1) < xs.length - k by omega) _ _ (Sub.pt ?_)
    simp -implicitDefEqProofs only [push_cast,zz,BEq.rfl,ite_true,ite_false,List.append_nil,reduceCtorEq,Nat.reduceAdd,Nat.reduceSub,Nat.reduceMul,Nat.reduceLeDiff,Nat.reduceLT,Nat.reduceEqDiff,Nat.reduceBEq,Nat.reduceBNe,Int.reduceNeg,Int.reduceToNat,ht]
  · obtain rfl:k = xs.length:=by omega
    clear hK
    simp -implicitDefEqProofs only [push_cast,zz,BEq.rfl,ite_true,ite_false,List.append_nil,reduceCtorEq,Nat.reduceAdd,Nat.reduceSub,Nat.reduceMul,Nat.reduceLeDiff,Nat.reduceLT,Nat.reduceEqDiff,Nat.reduceBEq,Nat.reduceBNe,Int.reduceNeg,Int.reduceToNat,b50_1,r50_2,Int.lt_irrefl,List.take_length,hfin]
    refine postF.mk' (fun _ => default) [some 0] ?_
    simp -implicitDefEqProofs only [push_cast,zz,BEq.rfl,ite_true,ite_false,List.append_nil,reduceCtorEq,Nat.reduceAdd,Nat.reduceSub,Nat.reduceMul,Nat.reduceLeDiff,Nat.reduceLT,Nat.reduceEqDiff,Nat.reduceBEq,Nat.reduceBNe,Int.reduceNeg,Int.reduceToNat,fs40]
def ent50:Entry:=spOf fs40 inv39
theorem e50:EntryOk Try.prog 50 ent50:=entry_of ok50 inv39
@[push_cast] theorem ent50_app (us:List SV) (look:Look) (x:Nat→Xf.Loc) (k:Nat):ent50 us look x k = spOf fs40 inv39 us look x k:=rfl
theorem ok20:FSOk Try.prog 20 fs15:=by
  refine ⟨⟨_,Try.func20,by kernel_rfl,by kernel_rfl⟩,fun a => ⟨by simp [fs15,push_cast,noMine,argOwn,Chunk.frArg],by simp [fs15,push_cast,outOk,Chunk.ext],fun x => .inl (by simp [fs15,push_cast,frNew,frOut,Chunk.fr])⟩,fun a hp => ?_⟩
  obtain ⟨⟨w,h,xs⟩,L⟩:=a
  have h1:xs.length≤140737488355328:=hp
  change Tri Try.prog 20 [plV ⟨w,h,xs⟩ L 0] [some (.ro,L,.ints .i64 xs)] (postF fs15 ⟨⟨w,h,xs⟩,L⟩)
  refine tri_evS (hyp (l:=[(46,ent46),(50,ent50)]) (lp:=[]) ⟨e46,e50,trivial⟩ trivial) Try.func20 comp20 (rs:=[.tmp 2,.tmp 3]) (by rfl) Try.ntmps20 19 ?_
  by_cases hok:(⟨w,h,xs⟩:Pl).Ok
  · have hl:=hok.len
    have hall:=hok.2.2
    simp only at hl hall
    simp -implicitDefEqProofs only [push_cast,zz,BEq.rfl,ite_true,ite_false,List.append_nil,reduceCtorEq,Nat.reduceAdd,Nat.reduceSub,Nat.reduceMul,Nat.reduceLeDiff,Nat.reduceLT,Nat.reduceEqDiff,Nat.reduceBEq,Nat.reduceBNe,Int.reduceNeg,Int.reduceToNat,ir20,fs39,fs40,hok,hall]
    intro X
    repeat (refine And.intro (by first | omega | trivial | (intros; omega)) ?_)
    refine postF.mk' (fun _ => default) [some 0] ?_
    simp -implicitDefEqProofs only [push_cast,zz,BEq.rfl,ite_true,ite_false,List.append_nil,reduceCtorEq,Nat.reduceAdd,Nat.reduceSub,Nat.reduceMul,Nat.reduceLeDiff,Nat.reduceLT,Nat.reduceEqDiff,Nat.reduceBEq,Nat.reduceBNe,Int.reduceNeg,Int.reduceToNat,fs15,hok]
  · simp -implicitDefEqProofs only [push_cast,zz,BEq.rfl,ite_true,ite_false,List.append_nil,reduceCtorEq,Nat.reduceAdd,Nat.reduceSub,Nat.reduceMul,Nat.reduceLeDiff,Nat.reduceLT,Nat.reduceEqDiff,Nat.reduceBEq,Nat.reduceBNe,Int.reduceNeg,Int.reduceToNat,ir20,fs39,fs40,hok]
    intro X
    repeat (refine And.intro (by first | omega | trivial | (intros; omega)) ?_)
    refine postF.mk' (fun _ => default) [some 0] ?_
    simp -implicitDefEqProofs only [push_cast,zz,BEq.rfl,ite_true,ite_false,List.append_nil,reduceCtorEq,Nat.reduceAdd,Nat.reduceSub,Nat.reduceMul,Nat.reduceLeDiff,Nat.reduceLT,Nat.reduceEqDiff,Nat.reduceBEq,Nat.reduceBNe,Int.reduceNeg,Int.reduceToNat,fs15,hok]
def ent20:Entry:=spOf fs15 inv39
theorem e20:EntryOk Try.prog 20 ent20:=entry_of ok20 inv39
@[push_cast] theorem ent20_app (us:List SV) (look:Look) (x:Nat→Xf.Loc) (k:Nat):ent20 us look x k = spOf fs15 inv39 us look x k:=rfl
def sgB (t:Int) (c:Int):Bool:=decide (2 ^ t.toNat≤max c (-c))
def sgN (xs:List Int) (t:Int):Int:=((xs.countP (sgB t):Nat):Int)
theorem sgN_take {xs:List Int} {k:Nat} (h:k < xs.length) (t:Int):sgN (xs.take (k + 1)) t = sgN (xs.take k) t + (if sgB t (rd xs (k:Nat)) = true then 1 else 0):=by
  unfold sgN
  rw [List.take_succ_eq_append_getElem h,List.countP_append,rd_lt xs k h]
  simp only [List.countP_cons,List.countP_nil,Nat.zero_add]
  split <;> simp_all
theorem sgN_bd (xs:List Int) (k:Nat) (t:Int):0≤sgN (xs.take k) t∧sgN (xs.take k) t≤xs.length:=by
  unfold sgN
  have:=List.countP_le_length (p:=sgB t) (l:=xs.take k)
  rw [List.length_take] at this
  omega
structure SgA where
  p:Pl
  L:Xf.Loc
  t:Int
def tOk (t:Int):Prop:=0≤t∧t≤25
instance tOk_dec (t:Int):Decidable (tOk t):=by unfold tOk; infer_instance
def sgE (p:Pl) (t:Int):Int:=if p.Ok then (if tOk t then 0 else 2) else 70
def sgP (p:Pl) (t:Int):Int:=if p.Ok∧tOk t then sgN p.xs t else 0
def fs21:FS where
  A:=SgA
  args:=fun a => [plV a.p a.L 0,.int .i64 a.t]
  mem:=fun a => [some (.ro,a.L,.ints .i64 a.p.xs)]
  pre:=fun a => a.p.xs.length≤140737488355328
  res:=fun a _ => .tup [.int .i64 (sgP a.p a.t),.int .i64 (sgE a.p a.t)]
  out:=fun _ _ => []
  new:=fun _ _ => []
def invSg:List SV→Look→Option (SgA × List Nat)
  | [v,.int .i64 t],look => match getP look v with
    | some (a,g) => some (⟨a.p,a.L,t⟩,g)
    | none => none
  | _,_ => none
attribute [push_cast] invSg
theorem pw25 {t:Int} (h0:0≤t) (h1:t≤30):0 < (2:Int) ^ t.toNat∧(2:Int) ^ t.toNat≤1073741824:=by
  have:=pw_lt h0 h1
  have e:(2:Int) ^ t.toNat = ((2 ^ t.toNat:Nat):Int):=by simp
  omega
set_option maxHeartbeats 1000000 in
theorem ok21:FSOk Try.prog 21 fs21:=by
  refine ⟨⟨_,Try.func21,by kernel_rfl,by kernel_rfl⟩,fun a => ⟨by simp [fs21,push_cast,noMine,argOwn,Chunk.frArg],by simp [fs21,push_cast,outOk,Chunk.ext],fun x => .inl (by simp [fs21,push_cast,frNew,frOut,Chunk.fr])⟩,fun a hp => ?_⟩
  obtain ⟨⟨w,h,xs⟩,L,t⟩:=a
  have h1:xs.length≤140737488355328:=hp
  change Tri Try.prog 21 [plV ⟨w,h,xs⟩ L 0,.int .i64 t] [some (.ro,L,.ints .i64 xs)] (postF fs21 ⟨⟨w,h,xs⟩,L,t⟩)
  refine tri_evS (hyp (l:=[(39,ent39)]) (lp:=[(51,absF)]) ⟨e39,trivial⟩ ⟨p51,trivial⟩) Try.func21 comp21 (rs:=[.tmp 4,.tmp 5]) (by rfl) Try.ntmps21 15 ?_
  by_cases hok:(⟨w,h,xs⟩:Pl).Ok
  · by_cases ht:tOk t
    · obtain ⟨t0,t1⟩:=id ht
      have hE:sgE ⟨w,h,xs⟩ t = 0:=by unfold sgE; rw [if_pos hok,if_pos ht]
      have hP:sgP ⟨w,h,xs⟩ t = sgN xs t:=by unfold sgP; rw [if_pos ⟨hok,ht⟩]
      have hl:=hok.len
      have hall:=hok.2.2
      simp only at hl hall
      have c1:¬ t < 0:=by omega
      have c2:¬ 25 < t:=by omega
      have hpw:=pw25 t0 (by omega)
      have hb64:=bits_i64
      have hsb:∀ c,sgB t c = decide (2 ^ t.toNat≤max c (-c)):=fun c => rfl
      obtain ⟨T,hT⟩:∃ T,(2:Int) ^ t.toNat = T:=⟨_,rfl⟩
      rw [hT] at hpw
      simp only [hT] at hsb
      simp -implicitDefEqProofs only [push_cast,zz,BEq.rfl,ite_true,ite_false,List.append_nil,reduceCtorEq,Nat.reduceAdd,Nat.reduceSub,Nat.reduceMul,Nat.reduceLeDiff,Nat.reduceLT,Nat.reduceEqDiff,Nat.reduceBEq,Nat.reduceBNe,Int.reduceNeg,Int.reduceToNat,ir21,fs39,hok,c1,c2]
      intro X
      repeat (refine And.intro (by first | omega | trivial | (intros; omega)) ?_)
      refine evS_loopU (A:=Nat) kp21_1 kl21_1 (fun k => [(6,.int .i64 (sgN (xs.take k) t)),(23,.int .i64 k)]) (fun k => []) (fun k => k≤xs.length) (fun k => xs.length - k) 0 (Nat.zero_le _) (Sub.pt ?_) ?_
      · have e0:sgN (xs.take 0) t = 0:=rfl
        simp -implicitDefEqProofs only [push_cast,zz,BEq.rfl,ite_true,ite_false,List.append_nil,reduceCtorEq,Nat.reduceAdd,Nat.reduceSub,Nat.reduceMul,Nat.reduceLeDiff,Nat.reduceLT,Nat.reduceEqDiff,Nat.reduceBEq,Nat.reduceBNe,Int.reduceNeg,Int.reduceToNat,e0]
      intro k hk K hK
      have hk:k≤xs.length:=hk
      by_cases hk':k < xs.length
      · have hki:(k:Int) < xs.length:=by omega
        have hst:=sgN_take hk' t
        have hx:=allIn_rd.1 hall k hk'
        have hbd:=sgN_bd xs k t
        obtain ⟨m,hm⟩:∃ m,sgN (xs.take k) t = m:=⟨_,rfl⟩
        obtain ⟨x,hxx⟩:∃ m,rd xs (k:Nat) = m:=⟨_,rfl⟩
        rw [hm] at hst hbd
        rw [hxx] at hst hx
        rw [hsb] at hst
        by_cases hge:T≤max x (-x)
        · rw [decide_eq_true hge,if_pos rfl] at hst
          simp -implicitDefEqProofs only [push_cast,zz,BEq.rfl,ite_true,ite_false,List.append_nil,reduceCtorEq,Nat.reduceAdd,Nat.reduceSub,Nat.reduceMul,Nat.reduceLeDiff,Nat.reduceLT,Nat.reduceEqDiff,Nat.reduceBEq,Nat.reduceBNe,Int.reduceNeg,Int.reduceToNat,b21_1,hki,hm,hxx,Int.one_mul,hT,hge]
          repeat (refine And.intro (by first | omega | trivial | (intros; omega)) ?_)
          refine hK (k + 1) (show k + 1≤xs.length by omega) (show xs.length - (k + 1) < xs.length - k by omega) _ _ (Sub.pt ?_)
          simp -implicitDefEqProofs only [push_cast,zz,BEq.rfl,ite_true,ite_false,List.append_nil,reduceCtorEq,Nat.reduceAdd,Nat.reduceSub,Nat.reduceMul,Nat.reduceLeDiff,Nat.reduceLT,Nat.reduceEqDiff,Nat.reduceBEq,Nat.reduceBNe,Int.reduceNeg,Int.reduceToNat,hst]
        · rw [decide_eq_false hge,if_neg (by decide),Int.add_zero] at hst
          simp -implicitDefEqProofs only [push_cast,zz,BEq.rfl,ite_true,ite_false,List.append_nil,reduceCtorEq,Nat.reduceAdd,Nat.reduceSub,Nat.reduceMul,Nat.reduceLeDiff,Nat.reduceLT,Nat.reduceEqDiff,Nat.reduceBEq,Nat.reduceBNe,Int.reduceNeg,Int.reduceToNat,b21_1,hki,hm,hxx,Int.one_mul,hT,hge]
          repeat (refine And.intro (by first | omega | trivial | (intros; omega)) ?_)
          refine hK (k + 1) (show k + 1≤xs.length by omega) (show xs.length - (k + 1) < xs.length - k by omega) _ _ (Sub.pt ?_)
          simp -implicitDefEqProofs only [push_cast,zz,BEq.rfl,ite_true,ite_false,List.append_nil,reduceCtorEq,Nat.reduceAdd,Nat.reduceSub,Nat.reduceMul,Nat.reduceLeDiff,Nat.reduceLT,Nat.reduceEqDiff,Nat.reduceBEq,Nat.reduceBNe,Int.reduceNeg,Int.reduceToNat,hst]
      · obtain rfl:k = xs.length:=by omega
        clear hK
        simp -implicitDefEqProofs only [push_cast,zz,BEq.rfl,ite_true,ite_false,List.append_nil,reduceCtorEq,Nat.reduceAdd,Nat.reduceSub,Nat.reduceMul,Nat.reduceLeDiff,Nat.reduceLT,Nat.reduceEqDiff,Nat.reduceBEq,Nat.reduceBNe,Int.reduceNeg,Int.reduceToNat,b21_1,r21_2,Int.lt_irrefl,List.take_length]
        refine postF.mk' (fun _ => default) [some 0] ?_
        simp -implicitDefEqProofs only [push_cast,zz,BEq.rfl,ite_true,ite_false,List.append_nil,reduceCtorEq,Nat.reduceAdd,Nat.reduceSub,Nat.reduceMul,Nat.reduceLeDiff,Nat.reduceLT,Nat.reduceEqDiff,Nat.reduceBEq,Nat.reduceBNe,Int.reduceNeg,Int.reduceToNat,fs21,hE,hP]
    · have hE:sgE ⟨w,h,xs⟩ t = 2:=by unfold sgE; rw [if_pos hok,if_neg ht]
      have hP:sgP ⟨w,h,xs⟩ t = 0:=by unfold sgP; rw [if_neg (fun h => ht h.2)]
      by_cases c1:t < 0
      · simp -implicitDefEqProofs only [push_cast,zz,BEq.rfl,ite_true,ite_false,List.append_nil,reduceCtorEq,Nat.reduceAdd,Nat.reduceSub,Nat.reduceMul,Nat.reduceLeDiff,Nat.reduceLT,Nat.reduceEqDiff,Nat.reduceBEq,Nat.reduceBNe,Int.reduceNeg,Int.reduceToNat,ir21,fs39,hok,c1]
        intro X
        repeat (refine And.intro (by first | omega | trivial | (intros; omega)) ?_)
        refine postF.mk' (fun _ => default) [some 0] ?_
        simp -implicitDefEqProofs only [push_cast,zz,BEq.rfl,ite_true,ite_false,List.append_nil,reduceCtorEq,Nat.reduceAdd,Nat.reduceSub,Nat.reduceMul,Nat.reduceLeDiff,Nat.reduceLT,Nat.reduceEqDiff,Nat.reduceBEq,Nat.reduceBNe,Int.reduceNeg,Int.reduceToNat,fs21,hE,hP]
      · have c2:25 < t:=by
          rcases Int.lt_or_le 25 t with h | h
          · exact h
          · exact absurd ⟨by omega,h⟩ ht
        simp -implicitDefEqProofs only [push_cast,zz,BEq.rfl,ite_true,ite_false,List.append_nil,reduceCtorEq,Nat.reduceAdd,Nat.reduceSub,Nat.reduceMul,Nat.reduceLeDiff,Nat.reduceLT,Nat.reduceEqDiff,Nat.reduceBEq,Nat.reduceBNe,Int.reduceNeg,Int.reduceToNat,ir21,fs39,hok,c1,c2]
        intro X
        repeat (refine And.intro (by first | omega | trivial | (intros; omega)) ?_)
        refine postF.mk' (fun _ => default) [some 0] ?_
        simp -implicitDefEqProofs only [push_cast,zz,BEq.rfl,ite_true,ite_false,List.append_nil,reduceCtorEq,Nat.reduceAdd,Nat.reduceSub,Nat.reduceMul,Nat.reduceLeDiff,Nat.reduceLT,Nat.reduceEqDiff,Nat.reduceBEq,Nat.reduceBNe,Int.reduceNeg,Int.reduceToNat,fs21,hE,hP]
  · have hE:sgE ⟨w,h,xs⟩ t = 70:=by unfold sgE; rw [if_neg hok]
    have hP:sgP ⟨w,h,xs⟩ t = 0:=by unfold sgP; rw [if_neg (fun h => hok h.1)]
    simp -implicitDefEqProofs only [push_cast,zz,BEq.rfl,ite_true,ite_false,List.append_nil,reduceCtorEq,Nat.reduceAdd,Nat.reduceSub,Nat.reduceMul,Nat.reduceLeDiff,Nat.reduceLT,Nat.reduceEqDiff,Nat.reduceBEq,Nat.reduceBNe,Int.reduceNeg,Int.reduceToNat,ir21,fs39,hok]
    intro X
    repeat (refine And.intro (by first | omega | trivial | (intros; omega)) ?_)
    refine postF.mk' (fun _ => default) [some 0] ?_
    simp -implicitDefEqProofs only [push_cast,zz,BEq.rfl,ite_true,ite_false,List.append_nil,reduceCtorEq,Nat.reduceAdd,Nat.reduceSub,Nat.reduceMul,Nat.reduceLeDiff,Nat.reduceLT,Nat.reduceEqDiff,Nat.reduceBEq,Nat.reduceBNe,Int.reduceNeg,Int.reduceToNat,fs21,hE,hP]
def ent21:Entry:=spOf fs21 invSg
theorem e21:EntryOk Try.prog 21 ent21:=entry_of ok21 invSg
@[push_cast] theorem ent21_app (us:List SV) (look:Look) (x:Nat→Xf.Loc) (k:Nat):ent21 us look x k = spOf fs21 invSg us look x k:=rfl
def b22_1:IR :=
  .seq (.reg false [⟨some 22,none,⟨[],[]⟩,.bin 0 .lss (.t 21) (.t 20)⟩] [] []) (.seq (.cond (.t 22) (.skip) (.exit 0)) (.seq (.block 1 (.seq (.reg false [⟨some 23,none,⟨[],[]⟩,.idxS (.t 19) (.t 21) 1⟩,
    ⟨some 24,none,⟨[],[]⟩,.ld true none 0 0 (.t 23)⟩,
    ⟨some 8,none,⟨[],[]⟩,.mov (.t 24)⟩] [22,23,24] []) (.reg true [⟨some 25,none,⟨[],[]⟩,.mov (.t 6)⟩,
    ⟨some 26,none,⟨[],[]⟩,.mov (.t 8)⟩,
    ⟨some 27,none,⟨[],[]⟩,.callp 47 [.t 26]⟩,
    ⟨some 28,none,⟨[],[]⟩,.mov (.t 1)⟩,
    ⟨some 29,none,⟨[],[]⟩,.bin 0 .shl (.k (.int .i64 1)) (.t 28)⟩,
    ⟨some 30,none,⟨[],[]⟩,.bin 0 .geq (.t 27) (.t 29)⟩,
    ⟨some 31,none,⟨[],[]⟩,.callp 52 [.t 30]⟩,
    ⟨some 32,none,⟨[],[]⟩,.bin 0 .add (.t 25) (.t 31)⟩,
    ⟨some 6,none,⟨[],[]⟩,.mov (.t 32)⟩] [8,25,26,27,28,29,30,31,32] []))) (.reg false [⟨some 33,none,⟨[],[]⟩,.bin 0 .add (.t 21) (.k (.int .i64 1))⟩,
    ⟨some 21,none,⟨[],[]⟩,.mov (.t 33)⟩] [33] [])))
def r22_2:IR :=
  .seq (.reg false [⟨some 34,none,⟨[],[]⟩,.mov (.t 6)⟩,
    ⟨some 4,none,⟨[],[]⟩,.mov (.t 34)⟩,
    ⟨some 5,none,⟨[],[]⟩,.mov (.k (.int .i64 0))⟩] [1,6,19,20,21,34] []) (.ret)
def ir22:IR :=
  .seq (.reg false [⟨some 2,none,⟨[],[]⟩,.box 10 (.t 0)⟩,
    ⟨some 4,none,⟨[],[]⟩,.mov (.k (.int .i64 0))⟩,
    ⟨some 5,none,⟨[],[]⟩,.mov (.k (.int .i64 0))⟩] [0,4,5] []) (.seq (.seq (.reg false [⟨some 9,none,⟨[],[]⟩,.ld false (some 3) 0 0 (.t 2)⟩,
    ⟨some 10,none,⟨[],[]⟩,.call (some 4) 11 46 [.t 9]⟩,
    ⟨some 11,none,⟨[],[]⟩,.not (.t 10)⟩] [9,10] []) (.cond (.t 11) (.seq (.reg false [⟨some 4,none,⟨[],[]⟩,.mov (.k (.int .i64 0))⟩,
    ⟨some 5,none,⟨[],[]⟩,.mov (.k (.int .i64 70))⟩] [1,2,11] []) (.ret)) (.skip))) (.seq (.seq (.reg false [⟨some 12,none,⟨[],[]⟩,.mov (.t 1)⟩,
    ⟨some 13,none,⟨[],[]⟩,.bin 0 .lss (.t 12) (.k (.int .i64 0))⟩,
    ⟨some 14,none,⟨[],[]⟩,.mov (.t 13)⟩,
    ⟨some 15,some (14,false),⟨[],[]⟩,.mov (.t 1)⟩,
    ⟨some 16,some (14,false),⟨[],[]⟩,.bin 0 .gtr (.t 15) (.k (.int .i64 25))⟩,
    ⟨some 17,none,⟨[],[]⟩,.pick (.t 14) (.k (.bool true)) (.t 16)⟩] [4,5,11,12,13,14,15,16] []) (.cond (.t 17) (.seq (.reg false [⟨some 4,none,⟨[],[]⟩,.mov (.k (.int .i64 0))⟩,
    ⟨some 5,none,⟨[],[]⟩,.mov (.k (.int .i64 2))⟩] [1,2,17] []) (.ret)) (.skip))) (.seq (.reg false [⟨some 6,none,⟨[],[]⟩,.mov (.k (.int .i64 0))⟩] [4,5,17] []) (.seq (.seq (.reg false [⟨some 18,none,⟨[],[]⟩,.fld (.t 2) 2⟩,
    ⟨some 19,none,⟨[],[]⟩,.ld false none 0 0 (.t 18)⟩,
    ⟨some 20,none,⟨[],[]⟩,.len (.t 19)⟩,
    ⟨some 21,none,⟨[],[]⟩,.mov (.k (.int .i64 0))⟩] [2,18] []) (.block 0 (.loop b22_1))) (r22_2)))))
def kp22_1:List Nat:=[1,6,19,20,21]
def kl22_1:List Nat:=[]
attribute [push_cast] kp22_1 kl22_1
set_option maxRecDepth 4000 in
theorem comp22:(Try.f22.body.bind fun c => compC tab isP chkAll ir22 c) = some ir22:=by kernel_rfl
def ir8:IR :=
  .seq (.reg false [⟨some 2,none,⟨[],[]⟩,.box 10 (.t 0)⟩,
    ⟨some 4,none,⟨[],[]⟩,.mov (.k (.bool false))⟩] [0,4] []) (.seq (.reg false [⟨some 15,none,⟨[],[]⟩,.ld false (some 3) 0 0 (.t 2)⟩,
    ⟨some 16,none,⟨[],[]⟩,.call (some 4) 11 15 [.t 15]⟩,
    ⟨some 14,none,⟨[],[]⟩,.mov (.t 16)⟩,
    ⟨some 17,none,⟨[],[]⟩,.ext (.t 14) 0⟩,
    ⟨some 18,none,⟨[],[]⟩,.ext (.t 14) 1⟩,
    ⟨some 5,none,⟨[],[]⟩,.mov (.t 17)⟩,
    ⟨some 6,none,⟨[],[]⟩,.mov (.t 18)⟩] [14,15,16,17,18] []) (.seq (.reg false [⟨some 20,none,⟨[],[]⟩,.ld false (some 3) 0 0 (.t 2)⟩,
    ⟨some 21,none,⟨[],[]⟩,.call (some 4) 15 20 [.t 20]⟩,
    ⟨some 19,none,⟨[],[]⟩,.mov (.t 21)⟩,
    ⟨some 22,none,⟨[],[]⟩,.ext (.t 19) 0⟩,
    ⟨some 23,none,⟨[],[]⟩,.ext (.t 19) 1⟩,
    ⟨some 7,none,⟨[],[]⟩,.mov (.t 22)⟩,
    ⟨some 8,none,⟨[],[]⟩,.mov (.t 23)⟩] [19,20,21,22,23] []) (.seq (.reg false [⟨some 25,none,⟨[],[]⟩,.ld false (some 3) 0 0 (.t 2)⟩,
    ⟨some 26,none,⟨[],[]⟩,.mov (.t 1)⟩,
    ⟨some 27,none,⟨[],[]⟩,.call (some 4) 19 21 [.t 25,.t 26]⟩,
    ⟨some 24,none,⟨[],[]⟩,.mov (.t 27)⟩,
    ⟨some 28,none,⟨[],[]⟩,.ext (.t 24) 0⟩,
    ⟨some 29,none,⟨[],[]⟩,.ext (.t 24) 1⟩,
    ⟨some 9,none,⟨[],[]⟩,.mov (.t 28)⟩,
    ⟨some 10,none,⟨[],[]⟩,.mov (.t 29)⟩] [24,25,26,27,28,29] []) (.seq (.reg false [⟨some 31,none,⟨[],[]⟩,.ld false (some 3) 0 0 (.t 2)⟩,
    ⟨some 32,none,⟨[],[]⟩,.mov (.t 1)⟩,
    ⟨some 33,none,⟨[],[]⟩,.call (some 4) 23 22 [.t 31,.t 32]⟩,
    ⟨some 30,none,⟨[],[]⟩,.mov (.t 33)⟩,
    ⟨some 34,none,⟨[],[]⟩,.ext (.t 30) 0⟩,
    ⟨some 35,none,⟨[],[]⟩,.ext (.t 30) 1⟩,
    ⟨some 11,none,⟨[],[]⟩,.mov (.t 34)⟩,
    ⟨some 12,none,⟨[],[]⟩,.mov (.t 35)⟩] [1,30,31,32,33,34,35] []) (.seq (.seq (.reg false [⟨some 36,none,⟨[],[]⟩,.mov (.t 5)⟩,
    ⟨some 37,none,⟨[],[]⟩,.mov (.t 7)⟩,
    ⟨some 38,none,⟨[],[]⟩,.bin 0 .neq (.t 36) (.t 37)⟩,
    ⟨some 39,none,⟨[],[]⟩,.mov (.t 38)⟩,
    ⟨some 40,some (39,false),⟨[],[]⟩,.mov (.t 6)⟩,
    ⟨some 41,some (39,false),⟨[],[]⟩,.mov (.t 8)⟩,
    ⟨some 42,some (39,false),⟨[],[]⟩,.bin 0 .neq (.t 40) (.t 41)⟩,
    ⟨some 43,none,⟨[],[]⟩,.pick (.t 39) (.k (.bool true)) (.t 42)⟩,
    ⟨some 44,none,⟨[],[]⟩,.mov (.t 43)⟩,
    ⟨some 45,some (44,false),⟨[],[]⟩,.mov (.t 9)⟩,
    ⟨some 46,some (44,false),⟨[],[]⟩,.mov (.t 11)⟩,
    ⟨some 47,some (44,false),⟨[],[]⟩,.bin 0 .neq (.t 45) (.t 46)⟩,
    ⟨some 48,none,⟨[],[]⟩,.pick (.t 44) (.k (.bool true)) (.t 47)⟩,
    ⟨some 49,none,⟨[],[]⟩,.mov (.t 48)⟩,
    ⟨some 50,some (49,false),⟨[],[]⟩,.mov (.t 10)⟩,
    ⟨some 51,some (49,false),⟨[],[]⟩,.mov (.t 12)⟩,
    ⟨some 52,some (49,false),⟨[],[]⟩,.bin 0 .neq (.t 50) (.t 51)⟩,
    ⟨some 53,none,⟨[],[]⟩,.pick (.t 49) (.k (.bool true)) (.t 52)⟩] [7,8,9,10,11,12,36,37,38,39,40,41,42,43,44,45,46,47,48,49,50,51,52] []) (.cond (.t 53) (.seq (.reg false [⟨some 4,none,⟨[],[]⟩,.mov (.k (.bool false))⟩] [2,5,6,53] []) (.ret)) (.skip))) (.seq (.seq (.reg false [⟨some 54,none,⟨[],[]⟩,.mov (.t 6)⟩,
    ⟨some 55,none,⟨[],[]⟩,.bin 0 .neq (.t 54) (.k (.int .i64 0))⟩] [4,6,53,54] []) (.cond (.t 55) (.seq (.reg false [⟨some 56,none,⟨[],[]⟩,.call (some 4) 27 10 []⟩,
    ⟨some 4,none,⟨[],[]⟩,.mov (.t 56)⟩] [2,5,55,56] []) (.ret)) (.skip))) (.seq (.reg false [⟨some 58,none,⟨[],[]⟩,.ld false (some 3) 0 0 (.t 2)⟩,
    ⟨some 59,none,⟨[],[]⟩,.mov (.t 5)⟩,
    ⟨some 60,none,⟨[],[]⟩,.call (some 4) 31 21 [.t 58,.t 59]⟩,
    ⟨some 57,none,⟨[],[]⟩,.mov (.t 60)⟩,
    ⟨some 61,none,⟨[],[]⟩,.ext (.t 57) 0⟩,
    ⟨some 62,none,⟨[],[]⟩,.ext (.t 57) 1⟩,
    ⟨some 13,none,⟨[],[]⟩,.mov (.t 61)⟩,
    ⟨some 6,none,⟨[],[]⟩,.mov (.t 62)⟩] [2,4,5,55,57,58,59,60,61,62] []) (.seq (.reg false [⟨some 63,none,⟨[],[]⟩,.mov (.t 6)⟩,
    ⟨some 64,none,⟨[],[]⟩,.bin 0 .eql (.t 63) (.k (.int .i64 0))⟩,
    ⟨some 65,none,⟨[],[]⟩,.mov (.t 64)⟩,
    ⟨some 66,some (65,true),⟨[],[]⟩,.mov (.t 13)⟩,
    ⟨some 67,some (65,true),⟨[],[]⟩,.bin 0 .eql (.t 66) (.k (.int .i64 0))⟩,
    ⟨some 68,none,⟨[],[]⟩,.pick (.t 65) (.t 67) (.k (.bool false))⟩,
    ⟨some 69,none,⟨[],[]⟩,.mov (.t 68)⟩,
    ⟨some 70,some (69,true),⟨[],[]⟩,.call (some 4) 35 10 []⟩,
    ⟨some 71,none,⟨[],[]⟩,.pick (.t 69) (.t 70) (.k (.bool false))⟩,
    ⟨some 4,none,⟨[],[]⟩,.mov (.t 71)⟩] [6,13,63,64,65,66,67,68,69,70,71] []) (.ret)))))))))
set_option maxRecDepth 4000 in
theorem comp8:(Try.f8.body.bind fun c => compC tab isP chkAll ir8 c) = some ir8:=by kernel_rfl
set_option maxHeartbeats 1000000 in
theorem ok22:FSOk Try.prog 22 fs21:=by
  refine ⟨⟨_,Try.func22,by kernel_rfl,by kernel_rfl⟩,fun a => ⟨by simp [fs21,push_cast,noMine,argOwn,Chunk.frArg],by simp [fs21,push_cast,outOk,Chunk.ext],fun x => .inl (by simp [fs21,push_cast,frNew,frOut,Chunk.fr])⟩,fun a hp => ?_⟩
  obtain ⟨⟨w,h,xs⟩,L,t⟩:=a
  have h1:xs.length≤140737488355328:=hp
  change Tri Try.prog 22 [plV ⟨w,h,xs⟩ L 0,.int .i64 t] [some (.ro,L,.ints .i64 xs)] (postF fs21 ⟨⟨w,h,xs⟩,L,t⟩)
  refine tri_evS (hyp (l:=[(46,ent46)]) (lp:=[(47,absF),(52,oneF)]) ⟨e46,trivial⟩ ⟨p47,p52,trivial⟩) Try.func22 comp22 (rs:=[.tmp 4,.tmp 5]) (by rfl) Try.ntmps22 15 ?_
  by_cases hok:(⟨w,h,xs⟩:Pl).Ok
  · by_cases ht:tOk t
    · obtain ⟨t0,t1⟩:=id ht
      have hE:sgE ⟨w,h,xs⟩ t = 0:=by unfold sgE; rw [if_pos hok,if_pos ht]
      have hP:sgP ⟨w,h,xs⟩ t = sgN xs t:=by unfold sgP; rw [if_pos ⟨hok,ht⟩]
      have hl:=hok.len
      have hall:=hok.2.2
      simp only at hl hall
      have c1:¬ t < 0:=by omega
      have c2:¬ 25 < t:=by omega
      have hpw:=pw25 t0 (by omega)
      have hb64:=bits_i64
      have hsb:∀ c,sgB t c = decide (2 ^ t.toNat≤max c (-c)):=fun c => rfl
      obtain ⟨T,hT⟩:∃ T,(2:Int) ^ t.toNat = T:=⟨_,rfl⟩
      rw [hT] at hpw
      simp only [hT] at hsb
      simp -implicitDefEqProofs only [push_cast,zz,BEq.rfl,ite_true,ite_false,List.append_nil,reduceCtorEq,Nat.reduceAdd,Nat.reduceSub,Nat.reduceMul,Nat.reduceLeDiff,Nat.reduceLT,Nat.reduceEqDiff,Nat.reduceBEq,Nat.reduceBNe,Int.reduceNeg,Int.reduceToNat,ir22,fs39,hok,c1,c2]
      intro X
      repeat (refine And.intro (by first | omega | trivial | (intros; omega)) ?_)
      refine evS_loopU (A:=Nat) kp22_1 kl22_1 (fun k => [(6,.int .i64 (sgN (xs.take k) t)),(21,.int .i64 k)]) (fun k => []) (fun k => k≤xs.length) (fun k => xs.length - k) 0 (Nat.zero_le _) (Sub.pt ?_) ?_
      · have e0:sgN (xs.take 0) t = 0:=rfl
        simp -implicitDefEqProofs only [push_cast,zz,BEq.rfl,ite_true,ite_false,List.append_nil,reduceCtorEq,Nat.reduceAdd,Nat.reduceSub,Nat.reduceMul,Nat.reduceLeDiff,Nat.reduceLT,Nat.reduceEqDiff,Nat.reduceBEq,Nat.reduceBNe,Int.reduceNeg,Int.reduceToNat,e0]
      intro k hk K hK
      have hk:k≤xs.length:=hk
      by_cases hk':k < xs.length
      · have hki:(k:Int) < xs.length:=by omega
        have hst:=sgN_take hk' t
        have hx:=allIn_rd.1 hall k hk'
        have hbd:=sgN_bd xs k t
        obtain ⟨m,hm⟩:∃ m,sgN (xs.take k) t = m:=⟨_,rfl⟩
        obtain ⟨x,hxx⟩:∃ m,rd xs (k:Nat) = m:=⟨_,rfl⟩
        rw [hm] at hst hbd
        rw [hxx] at hst hx
        rw [hsb] at hst
        have hdc:(decide (T≤max x (-x)) = true) = (T≤max x (-x)):=decide_eq_true_eq
        by_cases hge:T≤max x (-x)
        · rw [decide_eq_true hge,if_pos rfl] at hst
          simp -implicitDefEqProofs only [push_cast,zz,BEq.rfl,ite_true,ite_false,List.append_nil,reduceCtorEq,Nat.reduceAdd,Nat.reduceSub,Nat.reduceMul,Nat.reduceLeDiff,Nat.reduceLT,Nat.reduceEqDiff,Nat.reduceBEq,Nat.reduceBNe,Int.reduceNeg,Int.reduceToNat,b22_1,hki,hm,hxx,Int.one_mul,hT,hge]
          repeat (refine And.intro (by first | omega | trivial | (intros; omega)) ?_)
          refine hK (k + 1) (show k + 1≤xs.length by omega) (show xs.length - (k + 1) < xs.length - k by omega) _ _ (Sub.pt ?_)
          simp -implicitDefEqProofs only [push_cast,zz,BEq.rfl,ite_true,ite_false,List.append_nil,reduceCtorEq,Nat.reduceAdd,Nat.reduceSub,Nat.reduceMul,Nat.reduceLeDiff,Nat.reduceLT,Nat.reduceEqDiff,Nat.reduceBEq,Nat.reduceBNe,Int.reduceNeg,Int.reduceToNat,hst]
        · rw [decide_eq_false hge,if_neg (by decide),Int.add_zero] at hst
          simp -implicitDefEqProofs only [push_cast,zz,BEq.rfl,ite_true,ite_false,List.append_nil,reduceCtorEq,Nat.reduceAdd,Nat.reduceSub,Nat.reduceMul,Nat.reduceLeDiff,Nat.reduceLT,Nat.reduceEqDiff,Nat.reduceBEq,Nat.reduceBNe,Int.reduceNeg,Int.reduceToNat,b22_1,hki,hm,hxx,Int.one_mul,hT,hge]
          repeat (refine And.intro (by first | omega | trivial | (intros; omega)) ?_)
          refine hK (k + 1) (show k + 1≤xs.length by omega) (show xs.length - (k + 1) < xs.length - k by omega) _ _ (Sub.pt ?_)
          simp -implicitDefEqProofs only [push_cast,zz,BEq.rfl,ite_true,ite_false,List.append_nil,reduceCtorEq,Nat.reduceAdd,Nat.reduceSub,Nat.reduceMul,Nat.reduceLeDiff,Nat.reduceLT,Nat.reduceEqDiff,Nat.reduceBEq,Nat.reduceBNe,Int.reduceNeg,Int.reduceToNat,hst]
      · obtain rfl:k = xs.length:=by omega
        clear hK
        simp -implicitDefEqProofs only [push_cast,zz,BEq.rfl,ite_true,ite_false,List.append_nil,reduceCtorEq,Nat.reduceAdd,Nat.reduceSub,Nat.reduceMul,Nat.reduceLeDiff,Nat.reduceLT,Nat.reduceEqDiff,Nat.reduceBEq,Nat.reduceBNe,Int.reduceNeg,Int.reduceToNat,b22_1,r22_2,Int.lt_irrefl,List.take_length]
        refine postF.mk' (fun _ => default) [some 0] ?_
        simp -implicitDefEqProofs only [push_cast,zz,BEq.rfl,ite_true,ite_false,List.append_nil,reduceCtorEq,Nat.reduceAdd,Nat.reduceSub,Nat.reduceMul,Nat.reduceLeDiff,Nat.reduceLT,Nat.reduceEqDiff,Nat.reduceBEq,Nat.reduceBNe,Int.reduceNeg,Int.reduceToNat,fs21,hE,hP]
    · have hE:sgE ⟨w,h,xs⟩ t = 2:=by unfold sgE; rw [if_pos hok,if_neg ht]
      have hP:sgP ⟨w,h,xs⟩ t = 0:=by unfold sgP; rw [if_neg (fun h => ht h.2)]
      by_cases c1:t < 0
      · simp -implicitDefEqProofs only [push_cast,zz,BEq.rfl,ite_true,ite_false,List.append_nil,reduceCtorEq,Nat.reduceAdd,Nat.reduceSub,Nat.reduceMul,Nat.reduceLeDiff,Nat.reduceLT,Nat.reduceEqDiff,Nat.reduceBEq,Nat.reduceBNe,Int.reduceNeg,Int.reduceToNat,ir22,fs39,hok,c1]
        intro X
        repeat (refine And.intro (by first | omega | trivial | (intros; omega)) ?_)
        refine postF.mk' (fun _ => default) [some 0] ?_
        simp -implicitDefEqProofs only [push_cast,zz,BEq.rfl,ite_true,ite_false,List.append_nil,reduceCtorEq,Nat.reduceAdd,Nat.reduceSub,Nat.reduceMul,Nat.reduceLeDiff,Nat.reduceLT,Nat.reduceEqDiff,Nat.reduceBEq,Nat.reduceBNe,Int.reduceNeg,Int.reduceToNat,fs21,hE,hP]
      · have c2:25 < t:=by
          rcases Int.lt_or_le 25 t with h | h
          · exact h
          · exact absurd ⟨by omega,h⟩ ht
        simp -implicitDefEqProofs only [push_cast,zz,BEq.rfl,ite_true,ite_false,List.append_nil,reduceCtorEq,Nat.reduceAdd,Nat.reduceSub,Nat.reduceMul,Nat.reduceLeDiff,Nat.reduceLT,Nat.reduceEqDiff,Nat.reduceBEq,Nat.reduceBNe,Int.reduceNeg,Int.reduceToNat,ir22,fs39,hok,c1,c2]
        intro X
        repeat (refine And.intro (by first | omega | trivial | (intros; omega)) ?_)
        refine postF.mk' (fun _ => default) [some 0] ?_
        simp -implicitDefEqProofs only [push_cast,zz,BEq.rfl,ite_true,ite_false,List.append_nil,reduceCtorEq,Nat.reduceAdd,Nat.reduceSub,Nat.reduceMul,Nat.reduceLeDiff,Nat.reduceLT,Nat.reduceEqDiff,Nat.reduceBEq,Nat.reduceBNe,Int.reduceNeg,Int.reduceToNat,fs21,hE,hP]
  · have hE:sgE ⟨w,h,xs⟩ t = 70:=by unfold sgE; rw [if_neg hok]
    have hP:sgP ⟨w,h,xs⟩ t = 0:=by unfold sgP; rw [if_neg (fun h => hok h.1)]
    simp -implicitDefEqProofs only [push_cast,zz,BEq.rfl,ite_true,ite_false,List.append_nil,reduceCtorEq,Nat.reduceAdd,Nat.reduceSub,Nat.reduceMul,Nat.reduceLeDiff,Nat.reduceLT,Nat.reduceEqDiff,Nat.reduceBEq,Nat.reduceBNe,Int.reduceNeg,Int.reduceToNat,ir22,fs39,hok]
    intro X
    repeat (refine And.intro (by first | omega | trivial | (intros; omega)) ?_)
    refine postF.mk' (fun _ => default) [some 0] ?_
    simp -implicitDefEqProofs only [push_cast,zz,BEq.rfl,ite_true,ite_false,List.append_nil,reduceCtorEq,Nat.reduceAdd,Nat.reduceSub,Nat.reduceMul,Nat.reduceLeDiff,Nat.reduceLT,Nat.reduceEqDiff,Nat.reduceBEq,Nat.reduceBNe,Int.reduceNeg,Int.reduceToNat,fs21,hE,hP]
def ent22:Entry:=spOf fs21 invSg
theorem e22:EntryOk Try.prog 22 ent22:=entry_of ok22 invSg
@[push_cast] theorem ent22_app (us:List SV) (look:Look) (x:Nat→Xf.Loc) (k:Nat):ent22 us look x k = spOf fs21 invSg us look x k:=rfl
theorem sgN_none {xs:List Int} (h:AllIn (-16777216) 16777216 xs):sgN xs (planesP xs) = 0:=by
  have hmx:=maxA_bd (B:=16777216) (by decide) h
  have hall:∀ k,k≤xs.length→∀ j:Nat,j < k→max (rd xs j) (- rd xs j)≤maxA (xs.take k):=by
    intro k
    induction k with
    | zero => intro _ j hj; omega
    | succ k ih =>
      intro hk j hj
      rw [maxA_take (by omega)]
      by_cases e:j = k
      · subst e; omega
      · have:=ih (by omega) j (by omega); omega
  have h2:=hall xs.length (Nat.le_refl _)
  have h3:=hmx xs.length (Nat.le_refl _)
  rw [List.take_length] at h2 h3
  unfold sgN
  rw [show xs.countP (sgB (planesP xs)) = 0 from ?_]
  · rfl
  rw [List.countP_eq_zero]
  intro c hc hs
  obtain ⟨j,hj,rfl⟩:=List.mem_iff_getElem.1 hc
  have h4:=h2 j hj
  rw [rd_lt xs j hj] at h4
  unfold sgB at hs
  rw [decide_eq_true_eq] at hs
  have h5:=(lenN_bd (maxA xs).toNat).1
  have e:(2:Int) ^ (planesP xs).toNat = ((2 ^ lenN (maxA xs).toNat:Nat):Int):=by
    unfold planesP lenP
    rw [Int.toNat_natCast]
    simp
  rw [e] at hs
  omega
theorem tri8 (p:Pl) (hp:p.xs.length≤140737488355328) (t:Int) (L:Xf.Loc):Tri Try.prog 8 [plV p L 0,.int .i64 t]
    [some (.ro,L,.ints .i64 p.xs)] (fun v _ => v = .bool true):=by
  obtain ⟨w,h,xs⟩:=p
  have hp:xs.length≤140737488355328:=hp
  change Tri Try.prog 8 [plV ⟨w,h,xs⟩ L 0,.int .i64 t] [some (.ro,L,.ints .i64 xs)] _
  refine tri_evS (hyp (l:=[(15,ent15),(20,ent20),(21,ent21),(22,ent22),(10,ent10)]) (lp:=[]) ⟨e15,e20,e21,e22,e10,trivial⟩ trivial) Try.func8 comp8 (rs:=[.tmp 4]) (by rfl) Try.ntmps8 39 ?_
  by_cases hok:(⟨w,h,xs⟩:Pl).Ok
  · have hall:=hok.2.2
    simp only at hall
    have hpb:tOk (planesP xs):=planesP_bd hall
    have hn:=sgN_none hall
    have hE:sgE ⟨w,h,xs⟩ (planesP xs) = 0:=by unfold sgE; rw [if_pos hok,if_pos hpb]
    have hP:sgP ⟨w,h,xs⟩ (planesP xs) = 0:=by unfold sgP; rw [if_pos ⟨hok,hpb⟩]; exact hn
    obtain ⟨P,hPP⟩:∃ P,planesP xs = P:=⟨_,rfl⟩
    rw [hPP] at hE hP
    obtain ⟨a,ha⟩:∃ a,sgP ⟨w,h,xs⟩ t = a:=⟨_,rfl⟩
    obtain ⟨b,hb⟩:∃ a,sgE ⟨w,h,xs⟩ t = a:=⟨_,rfl⟩
    simp -implicitDefEqProofs only [push_cast,zz,BEq.rfl,ite_true,ite_false,List.append_nil,reduceCtorEq,Nat.reduceAdd,Nat.reduceSub,Nat.reduceMul,Nat.reduceLeDiff,Nat.reduceLT,Nat.reduceEqDiff,Nat.reduceBEq,Nat.reduceBNe,Int.reduceNeg,Int.reduceToNat,ir8,fs15,fs21,fs10,hp,hok,hPP,hE,hP,ha,hb]
    try trace_state
  · have h70:¬ (70:Int) = 0:=by decide
    obtain ⟨a,ha⟩:∃ a,sgP ⟨w,h,xs⟩ t = a:=⟨_,rfl⟩
    obtain ⟨b,hb⟩:∃ a,sgE ⟨w,h,xs⟩ t = a:=⟨_,rfl⟩
    simp -implicitDefEqProofs only [push_cast,zz,BEq.rfl,ite_true,ite_false,List.append_nil,reduceCtorEq,Nat.reduceAdd,Nat.reduceSub,Nat.reduceMul,Nat.reduceLeDiff,Nat.reduceLT,Nat.reduceEqDiff,Nat.reduceBEq,Nat.reduceBNe,Int.reduceNeg,Int.reduceToNat,ir8,fs15,fs21,fs10,hp,hok,ha,hb,h70]
    try trace_state
end Go.Proofs.Ythicgkilfjjifaa
