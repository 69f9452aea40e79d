import Derived.Test.YthicgkilfjjifaaPA2
import Derived.Test.YthicgkilfjjifaaKc
import Derived.Test.YthicgkilfjjifaaProg
import Derived.Test.YthicgkilfjjifaaChecked
import Derived.ProofKit
import Derived.OpenShut
import Derived.SizedLaws
import Derived.ChangeOld
import Derived.Below
set_option linter.unusedVariables false
set_option linter.unusedSimpArgs false
set_option maxRecDepth 1000
namespace Go.Proofs.Ythicgkilfjjifaa
open Xf
def b106_1:IR :=
  .seq (.seq (.reg false [⟨some 9,none,⟨[],[]⟩,.mov (.t 8)⟩,
    ⟨some 10,none,⟨[],[]⟩,.mov (.t 2)⟩,
    ⟨some 11,none,⟨[],[]⟩,.bin 0 .lss (.t 9) (.t 10)⟩] [9,10] []) (.cond (.t 11) (.skip) (.exit 0))) (.seq (.block 1 (.reg false [⟨some 14,none,⟨[],[]⟩,.mov (.t 0)⟩,
    ⟨some 15,none,⟨[],[]⟩,.bin 0 .add (.t 14) (.k (.int .i64 1))⟩,
    ⟨some 16,none,⟨[],[]⟩,.bin 0 .quo (.t 15) (.k (.int .i64 2))⟩,
    ⟨some 17,none,⟨[],[]⟩,.mov (.t 1)⟩,
    ⟨some 18,none,⟨[],[]⟩,.bin 0 .add (.t 17) (.k (.int .i64 1))⟩,
    ⟨some 19,none,⟨[],[]⟩,.bin 0 .quo (.t 18) (.k (.int .i64 2))⟩,
    ⟨some 0,none,⟨[],[]⟩,.mov (.t 16)⟩,
    ⟨some 1,none,⟨[],[]⟩,.mov (.t 19)⟩] [11,14,15,16,17,18,19] [])) (.reg false [⟨some 12,none,⟨[],[]⟩,.mov (.t 8)⟩,
    ⟨some 13,none,⟨[],[]⟩,.bin 0 .add (.t 12) (.k (.int .i64 1))⟩,
    ⟨some 8,none,⟨[],[]⟩,.mov (.t 13)⟩] [12,13] []))
def r106_2:IR :=
  .seq (.reg false [⟨some 20,none,⟨[],[]⟩,.mov (.t 0)⟩,
    ⟨some 21,none,⟨[],[]⟩,.mov (.t 1)⟩,
    ⟨some 6,none,⟨[],[]⟩,.mov (.t 20)⟩,
    ⟨some 7,none,⟨[],[]⟩,.mov (.t 21)⟩] [0,1,2,8,20,21] []) (.ret)
def ir106:IR :=
  .seq (.reg false [⟨some 6,none,⟨[],[]⟩,.mov (.k (.int .i64 0))⟩,
    ⟨some 7,none,⟨[],[]⟩,.mov (.k (.int .i64 0))⟩] [6,7] []) (.seq (.seq (.reg false [⟨some 8,none,⟨[],[]⟩,.mov (.k (.int .i64 0))⟩] [] []) (.block 0 (.loop b106_1))) (r106_2))
def kp106_1:List Nat:=[0,1,2,8]
def kl106_1:List Nat:=[]
attribute [push_cast] kp106_1 kl106_1
set_option maxRecDepth 4000 in
theorem comp106:(Try.f106.body.bind fun c => compC tab isP chkAll ir106 c) = some ir106:=by kernel_rfl
def fs106:FS where
  A:=SdA
  args:=fun a => [.int .i64 a.w,.int .i64 a.h,.int .i64 a.n]
  mem:=fun _ => []
  pre:=fun a => a.w≤200∧a.h≤200∧a.n≤7
  res:=fun a x => .tup [.int .i64 (hlf a.w a.n),.int .i64 (hlf a.h a.n)]
  out:=fun _ _ => []
  new:=fun _ _ => []
theorem ok106:FSOk Try.prog 106 fs106:=by
  refine ⟨⟨_,Try.func106,by kernel_rfl,by kernel_rfl⟩,fun a => ⟨by simp [fs106,push_cast,noMine,argOwn,Chunk.frArg],by simp [fs106,push_cast,outOk,Chunk.ext],fun x => .inl (by simp [fs106,push_cast,frNew,frOut,Chunk.fr])⟩,fun a hp => ?_⟩
  obtain ⟨w,h,n⟩:=a
  obtain ⟨h1,h2,h3⟩:w≤200∧h≤200∧n≤7:=hp
  change Tri Try.prog 106 [.int .i64 w,.int .i64 h,.int .i64 n] [] (postF fs106 ⟨w,h,n⟩)
  refine tri_evS (hyp (l:=[]) (lp:=[]) trivial trivial) Try.func106 comp106 (rs:=[.tmp 6,.tmp 7]) (by rfl) Try.ntmps106 10 ?_
  simp -implicitDefEqProofs only [push_cast,zz,BEq.rfl,ite_true,ite_false,List.append_nil,reduceCtorEq,Nat.reduceAdd,Nat.reduceSub,Nat.reduceMul,Nat.reduceLeDiff,Nat.reduceLT,Nat.reduceEqDiff,Nat.reduceBEq,Nat.reduceBNe,Int.reduceNeg,Int.reduceToNat,ir106]
  refine evS_loopU (A:=Nat) kp106_1 kl106_1 (fun i => [(0,.int .i64 (hlf w i)),(1,.int .i64 (hlf h i)),(8,.int .i64 i)]) (fun _ => []) (fun i => i≤n) (fun i => n - i) 0 (Nat.zero_le _) (Sub.pt ?_) ?_
  · simp -implicitDefEqProofs only [push_cast,zz,BEq.rfl,ite_true,ite_false,List.append_nil,reduceCtorEq,Nat.reduceAdd,Nat.reduceSub,Nat.reduceMul,Nat.reduceLeDiff,Nat.reduceLT,Nat.reduceEqDiff,Nat.reduceBEq,Nat.reduceBNe,Int.reduceNeg,Int.reduceToNat,hlf]
  intro i (hi:i≤n) K hK
  simp -implicitDefEqProofs only [push_cast,zz,BEq.rfl,ite_true,ite_false,List.append_nil,reduceCtorEq,Nat.reduceAdd,Nat.reduceSub,Nat.reduceMul,Nat.reduceLeDiff,Nat.reduceLT,Nat.reduceEqDiff,Nat.reduceBEq,Nat.reduceBNe,Int.reduceNeg,Int.reduceToNat,b106_1,r106_2]
  have b1:=hlf_le w i
  have b2:=hlf_le h i
  have b3:=hlf_succ w i
  have b4:=hlf_succ h i
  refine ⟨fun hl => ?_,fun hl => ?_⟩
  · repeat (refine And.intro (by first | omega | trivial | (intros; omega)) ?_)
    rw [b3,b4]
    refine hK (i + 1) (by omega) (by omega) _ _ (Sub.pt ?_)
    simp -implicitDefEqProofs only [push_cast,zz,BEq.rfl,ite_true,ite_false,List.append_nil,reduceCtorEq,Nat.reduceAdd,Nat.reduceSub,Nat.reduceMul,Nat.reduceLeDiff,Nat.reduceLT,Nat.reduceEqDiff,Nat.reduceBEq,Nat.reduceBNe,Int.reduceNeg,Int.reduceToNat]
  · obtain rfl:i = n:=by omega
    refine postF.mk' (fun _ => default) [] ?_
    simp -implicitDefEqProofs only [push_cast,zz,BEq.rfl,ite_true,ite_false,List.append_nil,reduceCtorEq,Nat.reduceAdd,Nat.reduceSub,Nat.reduceMul,Nat.reduceLeDiff,Nat.reduceLT,Nat.reduceEqDiff,Nat.reduceBEq,Nat.reduceBNe,Int.reduceNeg,Int.reduceToNat,fs106]
def ent106:Entry:=spOf fs106 inv88
theorem e106:EntryOk Try.prog 106 ent106:=entry_of ok106 inv88
@[push_cast] theorem ent106_app (us:List SV) (look:Look) (x:Nat→Xf.Loc) (k:Nat):ent106 us look x k = spOf fs106 inv88 us look x k:=rfl
def b84_1:IR :=
  .seq (.seq (.reg false [⟨some 56,none,⟨[],[]⟩,.mov (.t 11)⟩,
    ⟨some 57,none,⟨[],[]⟩,.bin 0 .geq (.t 56) (.k (.int .i64 1))⟩] [56] []) (.cond (.t 57) (.skip) (.exit 0))) (.seq (.block 1 (.seq (.reg false [⟨some 61,none,⟨[],[]⟩,.mov (.t 0)⟩,
    ⟨some 62,none,⟨[],[]⟩,.mov (.t 1)⟩,
    ⟨some 63,none,⟨[],[]⟩,.mov (.t 11)⟩,
    ⟨some 64,none,⟨[],[]⟩,.bin 0 .sub (.t 63) (.k (.int .i64 1))⟩,
    ⟨some 65,none,⟨[],[]⟩,.call (some 4) 16 106 [.t 61,.t 62,.t 64]⟩,
    ⟨some 60,none,⟨[],[]⟩,.mov (.t 65)⟩,
    ⟨some 66,none,⟨[],[]⟩,.ext (.t 60) 0⟩,
    ⟨some 67,none,⟨[],[]⟩,.ext (.t 60) 1⟩,
    ⟨some 12,none,⟨[],[]⟩,.mov (.t 66)⟩,
    ⟨some 13,none,⟨[],[]⟩,.mov (.t 67)⟩] [57,60,61,62,63,64,65,66,67] []) (.seq (.reg false [⟨some 69,none,⟨[],[]⟩,.mov (.t 0)⟩,
    ⟨some 70,none,⟨[],[]⟩,.mov (.t 1)⟩,
    ⟨some 71,none,⟨[],[]⟩,.mov (.t 11)⟩,
    ⟨some 72,none,⟨[],[]⟩,.call (some 4) 20 106 [.t 69,.t 70,.t 71]⟩,
    ⟨some 68,none,⟨[],[]⟩,.mov (.t 72)⟩,
    ⟨some 73,none,⟨[],[]⟩,.ext (.t 68) 0⟩,
    ⟨some 74,none,⟨[],[]⟩,.ext (.t 68) 1⟩,
    ⟨some 14,none,⟨[],[]⟩,.mov (.t 73)⟩,
    ⟨some 15,none,⟨[],[]⟩,.mov (.t 74)⟩] [68,69,70,71,72,73,74] []) (.seq (.reg false [⟨some 75,none,⟨[],[]⟩,.mov (.t 8)⟩,
    ⟨some 76,none,⟨[],[]⟩,.mov (.t 11)⟩,
    ⟨some 77,none,⟨[],[]⟩,.mov (.t 14)⟩,
    ⟨some 78,none,⟨[],[]⟩,.mov (.t 12)⟩,
    ⟨some 79,none,⟨[],[]⟩,.mov (.t 14)⟩,
    ⟨some 80,none,⟨[],[]⟩,.bin 0 .sub (.t 78) (.t 79)⟩,
    ⟨some 81,none,⟨[],[]⟩,.mov (.t 15)⟩,
    ⟨some 82,none,⟨[],[]⟩,.build [.int .i64 0,.int .i64 0,.int .i64 0,.int .i64 0,.int .i64 0,.int .i64 0] [(0,1,.t 76),(1,1,.k (.int .i64 1)),(2,1,.t 77),(4,1,.t 80),(5,1,.t 81)]⟩,
    ⟨some 83,none,⟨[],[]⟩,.brecs 24 6 .i64 [.t 82]⟩,
    ⟨some 84,none,⟨[],[]⟩,.app 25 6 48 (.t 75) (.t 83)⟩,
    ⟨some 8,none,⟨[],[]⟩,.mov (.t 84)⟩] [75,76,77,78,79,80,81,82,83,84] []) (.seq (.reg false [⟨some 85,none,⟨[],[]⟩,.mov (.t 8)⟩,
    ⟨some 86,none,⟨[],[]⟩,.mov (.t 11)⟩,
    ⟨some 87,none,⟨[],[]⟩,.mov (.t 15)⟩,
    ⟨some 88,none,⟨[],[]⟩,.mov (.t 14)⟩,
    ⟨some 89,none,⟨[],[]⟩,.mov (.t 13)⟩,
    ⟨some 90,none,⟨[],[]⟩,.mov (.t 15)⟩,
    ⟨some 91,none,⟨[],[]⟩,.bin 0 .sub (.t 89) (.t 90)⟩,
    ⟨some 92,none,⟨[],[]⟩,.build [.int .i64 0,.int .i64 0,.int .i64 0,.int .i64 0,.int .i64 0,.int .i64 0] [(0,1,.t 86),(1,1,.k (.int .i64 2)),(3,1,.t 87),(4,1,.t 88),(5,1,.t 91)]⟩,
    ⟨some 93,none,⟨[],[]⟩,.brecs 26 6 .i64 [.t 92]⟩,
    ⟨some 94,none,⟨[],[]⟩,.app 27 6 48 (.t 85) (.t 93)⟩,
    ⟨some 8,none,⟨[],[]⟩,.mov (.t 94)⟩] [85,86,87,88,89,90,91,92,93,94] []) (.reg false [⟨some 95,none,⟨[],[]⟩,.mov (.t 8)⟩,
    ⟨some 96,none,⟨[],[]⟩,.mov (.t 11)⟩,
    ⟨some 97,none,⟨[],[]⟩,.mov (.t 14)⟩,
    ⟨some 98,none,⟨[],[]⟩,.mov (.t 15)⟩,
    ⟨some 99,none,⟨[],[]⟩,.mov (.t 12)⟩,
    ⟨some 100,none,⟨[],[]⟩,.mov (.t 14)⟩,
    ⟨some 101,none,⟨[],[]⟩,.bin 0 .sub (.t 99) (.t 100)⟩,
    ⟨some 102,none,⟨[],[]⟩,.mov (.t 13)⟩,
    ⟨some 103,none,⟨[],[]⟩,.mov (.t 15)⟩,
    ⟨some 104,none,⟨[],[]⟩,.bin 0 .sub (.t 102) (.t 103)⟩,
    ⟨some 105,none,⟨[],[]⟩,.build [.int .i64 0,.int .i64 0,.int .i64 0,.int .i64 0,.int .i64 0,.int .i64 0] [(0,1,.t 96),(1,1,.k (.int .i64 3)),(2,1,.t 97),(3,1,.t 98),(4,1,.t 101),(5,1,.t 104)]⟩,
    ⟨some 106,none,⟨[],[]⟩,.brecs 28 6 .i64 [.t 105]⟩,
    ⟨some 107,none,⟨[],[]⟩,.app 29 6 48 (.t 95) (.t 106)⟩,
    ⟨some 8,none,⟨[],[]⟩,.mov (.t 107)⟩] [12,13,14,15,95,96,97,98,99,100,101,102,103,104,105,106,107] [])))))) (.reg false [⟨some 58,none,⟨[],[]⟩,.mov (.t 11)⟩,
    ⟨some 59,none,⟨[],[]⟩,.bin 0 .sub (.t 58) (.k (.int .i64 1))⟩,
    ⟨some 11,none,⟨[],[]⟩,.mov (.t 59)⟩] [58,59] []))
def b84_2:IR :=
  .seq (.reg false [⟨some 111,none,⟨[],[]⟩,.bin 0 .lss (.t 110) (.t 109)⟩] [] []) (.seq (.cond (.t 111) (.skip) (.exit 2)) (.seq (.block 3 (.seq (.reg false [⟨some 112,none,⟨[],[]⟩,.idxS (.t 108) (.t 110) 6⟩,
    ⟨some 113,none,⟨[],[]⟩,.ld true (some 6) 0 0 (.t 112)⟩,
    ⟨some 18,none,⟨[],[]⟩,.alloc 30 [.int .i64 0,.int .i64 0,.int .i64 0,.int .i64 0,.int .i64 0,.int .i64 0]⟩,
    ⟨none,none,⟨[],[]⟩,.sto false 6 .i64 (.t 18) (.t 113)⟩] [111,112,113] []) (.seq (.reg false [⟨some 114,none,⟨[],[]⟩,.fld (.t 18) 4⟩,
    ⟨some 115,none,⟨[],[]⟩,.ld false none 0 0 (.t 114)⟩,
    ⟨some 116,none,⟨[],[]⟩,.bin 0 .gtr (.t 115) (.k (.int .i64 0))⟩,
    ⟨some 117,none,⟨[],[]⟩,.mov (.t 116)⟩,
    ⟨some 118,some (117,true),⟨[],[]⟩,.fld (.t 18) 5⟩,
    ⟨some 119,some (117,true),⟨[],[]⟩,.ld false none 0 0 (.t 118)⟩,
    ⟨some 120,some (117,true),⟨[],[]⟩,.bin 0 .gtr (.t 119) (.k (.int .i64 0))⟩,
    ⟨some 121,none,⟨[],[]⟩,.pick (.t 117) (.t 120) (.k (.bool false))⟩] [114,115,116,117,118,119,120] []) (.cond (.t 121) (.reg false [⟨some 122,none,⟨[],[]⟩,.mov (.t 16)⟩,
    ⟨some 123,none,⟨[],[]⟩,.ld false (some 6) 0 0 (.t 18)⟩,
    ⟨some 124,none,⟨[],[]⟩,.brecs 31 6 .i64 [.t 123]⟩,
    ⟨some 125,none,⟨[],[]⟩,.app 32 6 48 (.t 122) (.t 124)⟩,
    ⟨some 16,none,⟨[],[]⟩,.mov (.t 125)⟩] [18,121,122,123,124,125] []) (.skip))))) (.reg false [⟨some 126,none,⟨[],[]⟩,.bin 0 .add (.t 110) (.k (.int .i64 1))⟩,
    ⟨some 110,none,⟨[],[]⟩,.mov (.t 126)⟩] [18,121,126] [])))
def r84_3:IR :=
  .seq (.reg false [⟨some 127,none,⟨[],[]⟩,.mov (.t 16)⟩,
    ⟨some 6,none,⟨[],[]⟩,.mov (.t 127)⟩,
    ⟨some 7,none,⟨[],[]⟩,.mov (.k (.int .i64 0))⟩] [16,108,109,110,127] []) (.ret)
def r84_4:IR :=
  .seq (.reg false [⟨some 16,none,⟨[],[]⟩,.mov (.k nilSV)⟩] [0,1,11] []) (.seq (.seq (.reg false [⟨some 108,none,⟨[],[]⟩,.mov (.t 8)⟩,
    ⟨some 109,none,⟨[],[]⟩,.len (.t 108)⟩,
    ⟨some 110,none,⟨[],[]⟩,.mov (.k (.int .i64 0))⟩] [8] []) (.block 2 (.loop b84_2))) (r84_3))
def ir84:IR :=
  .seq (.reg false [⟨some 6,none,⟨[],[]⟩,.mov (.k nilSV)⟩,
    ⟨some 7,none,⟨[],[]⟩,.mov (.k (.int .i64 0))⟩] [6,7] []) (.seq (.seq (.reg false [⟨some 19,none,⟨[],[]⟩,.mov (.t 0)⟩,
    ⟨some 20,none,⟨[],[]⟩,.bin 0 .lss (.t 19) (.k (.int .i64 0))⟩,
    ⟨some 21,none,⟨[],[]⟩,.mov (.t 20)⟩,
    ⟨some 22,some (21,false),⟨[],[]⟩,.mov (.t 0)⟩,
    ⟨some 23,some (21,false),⟨[],[]⟩,.bin 0 .gtr (.t 22) (.k (.int .i64 200))⟩,
    ⟨some 24,none,⟨[],[]⟩,.pick (.t 21) (.k (.bool true)) (.t 23)⟩,
    ⟨some 25,none,⟨[],[]⟩,.mov (.t 24)⟩,
    ⟨some 26,some (25,false),⟨[],[]⟩,.mov (.t 1)⟩,
    ⟨some 27,some (25,false),⟨[],[]⟩,.bin 0 .lss (.t 26) (.k (.int .i64 0))⟩,
    ⟨some 28,none,⟨[],[]⟩,.pick (.t 25) (.k (.bool true)) (.t 27)⟩,
    ⟨some 29,none,⟨[],[]⟩,.mov (.t 28)⟩,
    ⟨some 30,some (29,false),⟨[],[]⟩,.mov (.t 1)⟩,
    ⟨some 31,some (29,false),⟨[],[]⟩,.bin 0 .gtr (.t 30) (.k (.int .i64 200))⟩,
    ⟨some 32,none,⟨[],[]⟩,.pick (.t 29) (.k (.bool true)) (.t 31)⟩,
    ⟨some 33,none,⟨[],[]⟩,.mov (.t 32)⟩,
    ⟨some 34,some (33,false),⟨[],[]⟩,.mov (.t 2)⟩,
    ⟨some 35,some (33,false),⟨[],[]⟩,.bin 0 .lss (.t 34) (.k (.int .i64 0))⟩,
    ⟨some 36,none,⟨[],[]⟩,.pick (.t 33) (.k (.bool true)) (.t 35)⟩,
    ⟨some 37,none,⟨[],[]⟩,.mov (.t 36)⟩,
    ⟨some 38,some (37,false),⟨[],[]⟩,.mov (.t 2)⟩,
    ⟨some 39,some (37,false),⟨[],[]⟩,.bin 0 .gtr (.t 38) (.k (.int .i64 6))⟩,
    ⟨some 40,none,⟨[],[]⟩,.pick (.t 37) (.k (.bool true)) (.t 39)⟩] [19,20,21,22,23,24,25,26,27,28,29,30,31,32,33,34,35,36,37,38,39] []) (.cond (.t 40) (.seq (.reg false [⟨some 6,none,⟨[],[]⟩,.mov (.k nilSV)⟩,
    ⟨some 7,none,⟨[],[]⟩,.mov (.k (.int .i64 2))⟩] [0,1,2,40] []) (.ret)) (.skip))) (.seq (.reg false [⟨some 8,none,⟨[],[]⟩,.mov (.k nilSV)⟩] [6,7,40] []) (.seq (.reg false [⟨some 42,none,⟨[],[]⟩,.mov (.t 0)⟩,
    ⟨some 43,none,⟨[],[]⟩,.mov (.t 1)⟩,
    ⟨some 44,none,⟨[],[]⟩,.mov (.t 2)⟩,
    ⟨some 45,none,⟨[],[]⟩,.call (some 4) 10 106 [.t 42,.t 43,.t 44]⟩,
    ⟨some 41,none,⟨[],[]⟩,.mov (.t 45)⟩,
    ⟨some 46,none,⟨[],[]⟩,.ext (.t 41) 0⟩,
    ⟨some 47,none,⟨[],[]⟩,.ext (.t 41) 1⟩,
    ⟨some 9,none,⟨[],[]⟩,.mov (.t 46)⟩,
    ⟨some 10,none,⟨[],[]⟩,.mov (.t 47)⟩] [41,42,43,44,45,46,47] []) (.seq (.reg false [⟨some 48,none,⟨[],[]⟩,.mov (.t 8)⟩,
    ⟨some 49,none,⟨[],[]⟩,.mov (.t 2)⟩,
    ⟨some 50,none,⟨[],[]⟩,.mov (.t 9)⟩,
    ⟨some 51,none,⟨[],[]⟩,.mov (.t 10)⟩,
    ⟨some 52,none,⟨[],[]⟩,.build [.int .i64 0,.int .i64 0,.int .i64 0,.int .i64 0,.int .i64 0,.int .i64 0] [(0,1,.t 49),(4,1,.t 50),(5,1,.t 51)]⟩,
    ⟨some 53,none,⟨[],[]⟩,.brecs 14 6 .i64 [.t 52]⟩,
    ⟨some 54,none,⟨[],[]⟩,.app 15 6 48 (.t 48) (.t 53)⟩,
    ⟨some 8,none,⟨[],[]⟩,.mov (.t 54)⟩] [9,10,48,49,50,51,52,53,54] []) (.seq (.seq (.reg false [⟨some 55,none,⟨[],[]⟩,.mov (.t 2)⟩,
    ⟨some 11,none,⟨[],[]⟩,.mov (.t 55)⟩] [2,55] []) (.block 0 (.loop b84_1))) (r84_4))))))
def kp84_1:List Nat:=[0,1,8,11]
def kl84_1:List Nat:=[16,17,18,19,20,21,22,23,24,25,26,27,28,29]
attribute [push_cast] kp84_1 kl84_1
def kp84_2:List Nat:=[16,108,109,110]
def kl84_2:List Nat:=[30,31,32]
attribute [push_cast] kp84_2 kl84_2
set_option maxRecDepth 4000 in
theorem comp84:(Try.f84.body.bind fun c => compC tab isP chkAll ir84 c) = some ir84:=by kernel_rfl
theorem kept_take {l:List Bd} {i:Nat} (h:i < l.length):keptBd (l.take (i + 1)) = keptBd (l.take i)++(if (rdBd l i).gone = false then [rdBd l i] else []):=by
  rw [List.take_succ_eq_append_getElem h,rdBd_nat h]
  unfold keptBd
  rw [List.filter_append]
  by_cases g:l[i].gone = false
  · rw [if_pos g]; simp [g]
  · rw [if_neg g]; simp [g]
def fs84:FS where
  A:=BnA
  args:=fun a => [.int .i64 a.w,.int .i64 a.h,.int .i64 a.n]
  mem:=fun _ => []
  pre:=fun _ => True
  res:=fun a x => .tup [.sl 0 (lx (0 < (bnL a.w a.h a.n).length) x 0) (esz 6 (bnL a.w a.h a.n).length) 0 (bnL a.w a.h a.n).length,.int .i64 (if bnOk a.w a.h a.n then 0 else 2)]
  out:=fun _ _ => []
  new:=fun a x => [(lx (0 < (bnL a.w a.h a.n).length) x 0,.recs 6 true [] ((bnL a.w a.h a.n).map Bd.rc))]
set_option maxHeartbeats 1000000 in
theorem ok84:FSOk Try.prog 84 fs84:=by
  refine ⟨⟨_,Try.func84,by kernel_rfl,by kernel_rfl⟩,fun a => ⟨by simp [fs84,push_cast,noMine,argOwn,Chunk.frArg],by simp [fs84,push_cast,outOk,Chunk.ext],fun x => .inl (by simp [fs84,push_cast,frNew,frOut,Chunk.fr])⟩,fun a hp => ?_⟩
  obtain ⟨w,h,n⟩:=a
  change Tri Try.prog 84 [.int .i64 w,.int .i64 h,.int .i64 n] [] (postF fs84 ⟨w,h,n⟩)
  refine tri_evS (hyp (l:=[(106,ent106)]) (lp:=[]) ⟨e106,trivial⟩ trivial) Try.func84 comp84 (rs:=[.tmp 6,.tmp 7]) (by rfl) Try.ntmps84 33 ?_
  simp -implicitDefEqProofs only [push_cast,zz,BEq.rfl,ite_true,ite_false,List.append_nil,reduceCtorEq,Nat.reduceAdd,Nat.reduceSub,Nat.reduceMul,Nat.reduceLeDiff,Nat.reduceLT,Nat.reduceEqDiff,Nat.reduceBEq,Nat.reduceBNe,Int.reduceNeg,Int.reduceToNat,ir84]
  refine ⟨fun hb => ?_,fun hg => ?_⟩
  · have e:¬ bnOk w h n:=fun H => by obtain ⟨q1,q2,q3,q4,q5,q6⟩:=H; omega
    have e1:bnA w h n = []:=if_neg e
    have e2:bnL w h n = []:=by unfold bnL; rw [e1]; rfl
    refine postF.mk' (fun _ => default) [none] ?_
    simp -implicitDefEqProofs only [push_cast,zz,BEq.rfl,ite_true,ite_false,List.append_nil,reduceCtorEq,Nat.reduceAdd,Nat.reduceSub,Nat.reduceMul,Nat.reduceLeDiff,Nat.reduceLT,Nat.reduceEqDiff,Nat.reduceBEq,Nat.reduceBNe,Int.reduceNeg,Int.reduceToNat,fs84,e,e2,if_false,lx,List.length_nil,List.map_nil,Nat.lt_irrefl,esz]
  have e:bnOk w h n:=by unfold bnOk; omega
  obtain ⟨q1,q2,q3,q4,q5,q6⟩:=id e
  obtain ⟨w,rfl⟩:∃ m:Nat,w = (m:Int):=⟨w.toNat,by omega⟩
  obtain ⟨h,rfl⟩:∃ m:Nat,h = (m:Int):=⟨h.toNat,by omega⟩
  obtain ⟨n,rfl⟩:∃ m:Nat,n = (m:Int):=⟨n.toNat,by omega⟩
  simp -implicitDefEqProofs only [push_cast,zz,BEq.rfl,ite_true,ite_false,List.append_nil,reduceCtorEq,Nat.reduceAdd,Nat.reduceSub,Nat.reduceMul,Nat.reduceLeDiff,Nat.reduceLT,Nat.reduceEqDiff,Nat.reduceBEq,Nat.reduceBNe,Int.reduceNeg,Int.reduceToNat,fs106,Int.toNat_natCast]
  repeat (refine And.intro (by first | omega | trivial | (intros; omega)) ?_)
  intro X
  repeat (refine And.intro (by first | omega | trivial | (intros; omega)) ?_)
  refine evS_loopU (A:=Nat × Nat × Xf.Loc) kp84_1 kl84_1 (fun y => [(8,.sl 15 y.2.2 6 0 (bdN y.1)),(11,.int .i64 y.2.1)]) (fun y => [(15,.mine,y.2.2,.recs 6 true [] ((bdD w h n y.1).map Bd.rc))]) (fun y => y.1 + y.2.1 = n) (fun y => y.2.1) (0,n,X 6 15) (Nat.zero_add n) (Sub.pt ?_) ?_
  · simp -implicitDefEqProofs only [push_cast,zz,BEq.rfl,ite_true,ite_false,List.append_nil,reduceCtorEq,Nat.reduceAdd,Nat.reduceSub,Nat.reduceMul,Nat.reduceLeDiff,Nat.reduceLT,Nat.reduceEqDiff,Nat.reduceBEq,Nat.reduceBNe,Int.reduceNeg,Int.reduceToNat,bdD,bd0,Bd.rc,List.map_cons,List.map_nil,Nat.mul_zero,show bdN 0 = 1 from rfl]
  rintro ⟨k,lv,N⟩ (hk:k + lv = n) K hK
  have hlen:((bdD w h n k).map Bd.rc).length = bdN k:=by rw [List.length_map,bdD_length]
  have hN3:bdN k = 1 + 3 * k:=rfl
  have hN4:bdN (k + 1) = 1 + 3 * (k + 1):=rfl
  by_cases h0:0 < lv
  · obtain ⟨lv,rfl⟩:∃ i,lv = i + 1:=⟨lv - 1,by omega⟩
    have e1:((lv + 1:Nat):Int) - 1 = (lv:Int):=by omega
    have b1:=hlf_le w lv
    have b2:=hlf_le h lv
    have b3:=hlf_mono w lv
    have b4:=hlf_mono h lv
    generalize hlv:((lv + 1:Nat):Int) = lvi at e1
    have en:lvi.toNat = lv + 1:=by omega
    simp -implicitDefEqProofs only [push_cast,zz,BEq.rfl,ite_true,ite_false,List.append_nil,reduceCtorEq,Nat.reduceAdd,Nat.reduceSub,Nat.reduceMul,Nat.reduceLeDiff,Nat.reduceLT,Nat.reduceEqDiff,Nat.reduceBEq,Nat.reduceBNe,Int.reduceNeg,Int.reduceToNat,b84_1,r84_4,fs106,hlv,e1,en,hlen,Int.toNat_natCast,List.length_append,List.length_cons,List.length_nil]
    refine ⟨fun _ => ?_,fun hl => by omega⟩
    repeat (refine And.intro (by first | omega | trivial | (intros; omega)) ?_)
    intro X2
    repeat (refine And.intro (by first | omega | trivial | (intros; omega)) ?_)
    intro X3
    repeat (refine And.intro (by first | omega | trivial | (intros; omega)) ?_)
    intro X4
    repeat (refine And.intro (by first | omega | trivial | (intros; omega)) ?_)
    have q:(bdD w h n k).map Bd.rc++[[.int .i64 lvi,.int .i64 1,.int .i64 (hlf w (lv + 1)),.int .i64 0,.int .i64 ((hlf w lv:Int) - hlf w (lv + 1)),.int .i64 (hlf h (lv + 1))]]++[[.int .i64 lvi,.int .i64 2,.int .i64 0,.int .i64 (hlf h (lv + 1)),.int .i64 (hlf w (lv + 1)),.int .i64 ((hlf h lv:Int) - hlf h (lv + 1))]]++[[.int .i64 lvi,.int .i64 3,.int .i64 (hlf w (lv + 1)),.int .i64 (hlf h (lv + 1)),.int .i64 ((hlf w lv:Int) - hlf w (lv + 1)),.int .i64 ((hlf h lv:Int) - hlf h (lv + 1))]] = (bdD w h n (k + 1)).map Bd.rc:=by
      rw [bdD,List.map_append,show n - k = lv + 1 by omega]
      simp [bd3,Bd.rc,← hlv]
    refine hK (k + 1,lv,X4 12 29) (show k + 1 + lv = n by omega) (show lv < lv + 1 by omega) _ _ (Sub.of (mkG 33 [(14,14),(15,29)]) ?_)
    simp -implicitDefEqProofs only [push_cast,zz,BEq.rfl,ite_true,ite_false,List.append_nil,reduceCtorEq,Nat.reduceAdd,Nat.reduceSub,Nat.reduceMul,Nat.reduceLeDiff,Nat.reduceLT,Nat.reduceEqDiff,Nat.reduceBEq,Nat.reduceBNe,Int.reduceNeg,Int.reduceToNat,q]
    omega
  · obtain rfl:lv = 0:=by omega
    obtain rfl:k = n:=by omega
    clear hK
    have hall:bnA w h k = bdD w h k k:=by unfold bnA; rw [if_pos e]; simp only [Int.toNat_natCast]
    have hle:=bdD_length w h k k
    have hok:=bdD_ok (w:=w) (h:=h) (n:=k) (by omega) (by omega) k (Nat.le_refl _)
    have hL:bnL w h k = keptBd (bdD w h k k):=by unfold bnL; rw [hall]
    generalize bdD w h k k = l at hlen hle hok hL
    have hz:¬ (1:Int)≤0:=by decide
    simp -implicitDefEqProofs only [push_cast,zz,BEq.rfl,ite_true,ite_false,List.append_nil,reduceCtorEq,Nat.reduceAdd,Nat.reduceSub,Nat.reduceMul,Nat.reduceLeDiff,Nat.reduceLT,Nat.reduceEqDiff,Nat.reduceBEq,Nat.reduceBNe,Int.reduceNeg,Int.reduceToNat,b84_1,r84_4,hz,true_implies,true_and]
    refine evS_loopU (A:=Nat × Xf.Loc) kp84_2 kl84_2 (fun y => [(16,.sl 32 y.2 (esz 6 (keptBd (l.take y.1)).length) 0 (keptBd (l.take y.1)).length),(110,.int .i64 y.1)]) (fun y => [(32,.mine,y.2,.recs 6 true [] ((keptBd (l.take y.1)).map Bd.rc))])
      (fun y => y.1≤l.length∧((keptBd (l.take y.1)).length = 0→y.2 = nilLoc)) (fun y => l.length - y.1) (0,nilLoc) ⟨Nat.zero_le _,fun _ => rfl⟩ (Sub.pt ?_) ?_
    · simp -implicitDefEqProofs only [push_cast,zz,BEq.rfl,ite_true,ite_false,List.append_nil,reduceCtorEq,Nat.reduceAdd,Nat.reduceSub,Nat.reduceMul,Nat.reduceLeDiff,Nat.reduceLT,Nat.reduceEqDiff,Nat.reduceBEq,Nat.reduceBNe,Int.reduceNeg,Int.reduceToNat,List.take_zero,keptBd,List.filter_nil,List.length_nil,List.map_nil,esz]
    rintro ⟨i,N2⟩ ⟨(hi:i≤l.length),(hN:(keptBd (l.take i)).length = 0→N2 = nilLoc)⟩ K2 hK2
    by_cases hi':i < l.length
    · have r1:=recAt_Bd' (l:=l) (i:=(i:Int)) (by omega) (by omega) []
      have o1:=hok _ (rdBd_mem hi')
      have kt:=kept_take hi'
      obtain ⟨x,hx⟩:∃ x,rdBd l (i:Int) = x:=⟨_,rfl⟩
      rw [hx] at r1 o1 kt
      have kp:=bd_keep o1
      obtain ⟨lv,kd,x,y,w',h'⟩:=x
      simp only at kp
      simp -implicitDefEqProofs only [push_cast,zz,BEq.rfl,ite_true,ite_false,List.append_nil,reduceCtorEq,Nat.reduceAdd,Nat.reduceSub,Nat.reduceMul,Nat.reduceLeDiff,Nat.reduceLT,Nat.reduceEqDiff,Nat.reduceBEq,Nat.reduceBNe,Int.reduceNeg,Int.reduceToNat,b84_2,r84_3,r1,Bd.rc,hlen,hle,List.length_map]
      refine ⟨fun _ => ?_,fun hl => by omega⟩
      intro X1
      have hkl:=keptBd_le (l.take i)
      rw [List.length_take] at hkl
      repeat (refine And.intro (by first | omega | trivial | (intros; omega)) ?_)
      refine ⟨fun hc => ?_,fun hc => ?_⟩
      · rw [if_pos (kp.1 hc)] at kt
        intro X2
        repeat (refine And.intro (by first | omega | trivial | (intros; omega)) ?_)
        refine hK2 (i + 1,X2 3 32) ⟨show i + 1≤l.length by omega,fun q => ?_⟩ (show l.length - (i + 1) < l.length - i by omega) _ _ (Sub.pt ?_)
        · simp only [kt,List.length_append,List.length_cons,List.length_nil] at q; omega
        · have q:(keptBd (l.take i)).map Bd.rc++[[.int .i64 lv,.int .i64 kd,.int .i64 x,.int .i64 y,.int .i64 w',.int .i64 h']] = (keptBd (l.take (i + 1))).map Bd.rc:=by rw [kt,List.map_append]; rfl
          have q2:(keptBd (l.take (i + 1))).length = (keptBd (l.take i)).length + 1:=by rw [kt]; simp
          simp -implicitDefEqProofs only [push_cast,zz,BEq.rfl,ite_true,ite_false,List.append_nil,reduceCtorEq,Nat.reduceAdd,Nat.reduceSub,Nat.reduceMul,Nat.reduceLeDiff,Nat.reduceLT,Nat.reduceEqDiff,Nat.reduceBEq,Nat.reduceBNe,Int.reduceNeg,Int.reduceToNat,q,q2,esz]
      · rw [if_neg (fun q => hc (kp.2 q)),List.append_nil] at kt
        repeat (refine And.intro (by first | omega | trivial | (intros; omega)) ?_)
        refine hK2 (i + 1,N2) ⟨show i + 1≤l.length by omega,fun q => hN (by rw [← kt]; exact q)⟩ (show l.length - (i + 1) < l.length - i by omega) _ _ (Sub.pt ?_)
        simp -implicitDefEqProofs only [push_cast,zz,BEq.rfl,ite_true,ite_false,List.append_nil,reduceCtorEq,Nat.reduceAdd,Nat.reduceSub,Nat.reduceMul,Nat.reduceLeDiff,Nat.reduceLT,Nat.reduceEqDiff,Nat.reduceBEq,Nat.reduceBNe,Int.reduceNeg,Int.reduceToNat,kt]
    · obtain rfl:i = l.length:=by omega
      clear hK2
      rw [List.take_length] at hN ⊢
      simp -implicitDefEqProofs only [push_cast,zz,BEq.rfl,ite_true,ite_false,List.append_nil,reduceCtorEq,Nat.reduceAdd,Nat.reduceSub,Nat.reduceMul,Nat.reduceLeDiff,Nat.reduceLT,Nat.reduceEqDiff,Nat.reduceBEq,Nat.reduceBNe,Int.reduceNeg,Int.reduceToNat,b84_2,r84_3,hle,Int.lt_irrefl,true_implies,true_and,not_false_eq_true]
      refine postF.mk' (fun _ => N2) [some 32] ?_
      by_cases h0:0 < (keptBd l).length
      · simp -implicitDefEqProofs only [push_cast,zz,BEq.rfl,ite_true,ite_false,List.append_nil,reduceCtorEq,Nat.reduceAdd,Nat.reduceSub,Nat.reduceMul,Nat.reduceLeDiff,Nat.reduceLT,Nat.reduceEqDiff,Nat.reduceBEq,Nat.reduceBNe,Int.reduceNeg,Int.reduceToNat,fs84,hL,h0,e,if_true,lx]
      · obtain rfl:=hN (by omega)
        simp -implicitDefEqProofs only [push_cast,zz,BEq.rfl,ite_true,ite_false,List.append_nil,reduceCtorEq,Nat.reduceAdd,Nat.reduceSub,Nat.reduceMul,Nat.reduceLeDiff,Nat.reduceLT,Nat.reduceEqDiff,Nat.reduceBEq,Nat.reduceBNe,Int.reduceNeg,Int.reduceToNat,fs84,hL,h0,e,if_true,if_false,lx]
def ent84:Entry:=spOf fs84 inv54
theorem e84:EntryOk Try.prog 84 ent84:=entry_of ok84 inv54
@[push_cast] theorem ent84_app (us:List SV) (look:Look) (x:Nat→Xf.Loc) (k:Nat):ent84 us look x k = spOf fs84 inv54 us look x k:=rfl
def inv10:List SV→Look→Option (Unit × List Nat)
  | [],_ => some ((),[])
  | _,_ => none
attribute [push_cast] inv10
def ent10:Entry:=spOf fs10 inv10
theorem e10:EntryOk Try.prog 10 ent10:=entry_of ok10 inv10
@[push_cast] theorem ent10_app (us:List SV) (look:Look) (x:Nat→Xf.Loc) (k:Nat):ent10 us look x k = spOf fs10 inv10 us look x k:=rfl
structure SgA where
  p:Pl
  L:Xf.Loc
  t:Int
def ir85:IR :=
  .seq (.reg false [⟨some 2,none,⟨[],[]⟩,.mov (.k (.int .i64 0))⟩] [2] []) (.seq (.reg false [⟨some 3,none,⟨[],[]⟩,.mov (.t 0)⟩,
    ⟨some 4,none,⟨[],[]⟩,.bin 0 .add (.t 3) (.k (.int .i64 3))⟩,
    ⟨some 5,none,⟨[],[]⟩,.bin 0 .quo (.t 4) (.k (.int .i64 4))⟩,
    ⟨some 2,none,⟨[],[]⟩,.mov (.t 5)⟩] [0,3,4,5] []) (.ret))
set_option maxRecDepth 4000 in
theorem comp85:(Try.f85.body.bind fun c => compC tab isP chkAll ir85 c) = some ir85:=by kernel_rfl
def b86_2:IR :=
  .seq (.reg false [⟨some 60,none,⟨[],[]⟩,.bin 0 .lss (.t 59) (.t 58)⟩] [] []) (.seq (.cond (.t 60) (.skip) (.exit 2)) (.seq (.block 3 (.seq (.reg false [⟨some 61,none,⟨[],[]⟩,.mov (.t 59)⟩,
    ⟨some 62,none,⟨[],[]⟩,.idxS (.t 57) (.t 59) 8⟩,
    ⟨some 63,none,⟨[],[]⟩,.ld true (some 8) 0 0 (.t 62)⟩,
    ⟨some 15,none,⟨[],[]⟩,.alloc 12 [.int .i64 0,.int .i64 0,.int .i64 0,.int .i64 0,.int .i64 0,.int .i64 0,.int .i64 0,.int .i64 0]⟩,
    ⟨some 14,none,⟨[],[]⟩,.mov (.t 61)⟩,
    ⟨none,none,⟨[],[]⟩,.sto false 8 .i64 (.t 15) (.t 63)⟩] [60,61,62,63] []) (.seq (.reg false [⟨some 64,none,⟨[],[]⟩,.fld (.t 15) 0⟩,
    ⟨some 65,none,⟨[],[]⟩,.ld false none 0 0 (.t 64)⟩,
    ⟨some 66,none,⟨[],[]⟩,.mov (.t 12)⟩,
    ⟨some 67,none,⟨[],[]⟩,.bin 0 .eql (.t 65) (.t 66)⟩,
    ⟨some 68,none,⟨[],[]⟩,.mov (.t 67)⟩,
    ⟨some 69,some (68,true),⟨[],[]⟩,.fld (.t 15) 1⟩,
    ⟨some 70,some (68,true),⟨[],[]⟩,.ld false none 0 0 (.t 69)⟩,
    ⟨some 71,some (68,true),⟨[],[]⟩,.mov (.t 3)⟩,
    ⟨some 72,some (68,true),⟨[],[]⟩,.bin 0 .eql (.t 70) (.t 71)⟩,
    ⟨some 73,none,⟨[],[]⟩,.pick (.t 68) (.t 72) (.k (.bool false))⟩,
    ⟨some 74,none,⟨[],[]⟩,.mov (.t 73)⟩,
    ⟨some 75,some (74,true),⟨[],[]⟩,.fld (.t 15) 2⟩,
    ⟨some 76,some (74,true),⟨[],[]⟩,.ld false none 0 0 (.t 75)⟩,
    ⟨some 77,some (74,true),⟨[],[]⟩,.mov (.t 4)⟩,
    ⟨some 78,some (74,true),⟨[],[]⟩,.bin 0 .eql (.t 76) (.t 77)⟩,
    ⟨some 79,none,⟨[],[]⟩,.pick (.t 74) (.t 78) (.k (.bool false))⟩] [15,64,65,66,67,68,69,70,71,72,73,74,75,76,77,78] []) (.cond (.t 79) (.seq (.reg false [⟨some 80,none,⟨[],[]⟩,.mov (.t 14)⟩,
    ⟨some 10,none,⟨[],[]⟩,.mov (.t 80)⟩] [1,3,4,11,12,14,23,24,25,57,58,59,79,80] []) (.ret)) (.skip))))) (.reg false [⟨some 81,none,⟨[],[]⟩,.bin 0 .add (.t 59) (.k (.int .i64 1))⟩,
    ⟨some 59,none,⟨[],[]⟩,.mov (.t 81)⟩] [10,14,79,81] [])))
def r86_3:IR :=
  .reg false [⟨some 82,none,⟨[],[]⟩,.bin 0 .add (.t 25) (.k (.int .i64 1))⟩,
    ⟨some 25,none,⟨[],[]⟩,.mov (.t 82)⟩] [12,57,58,59,82] []
def b86_1:IR :=
  .seq (.reg false [⟨some 26,none,⟨[],[]⟩,.bin 0 .lss (.t 25) (.t 24)⟩] [] []) (.seq (.cond (.t 26) (.skip) (.exit 0)) (.seq (.block 1 (.seq (.reg false [⟨some 27,none,⟨[],[]⟩,.mov (.t 25)⟩,
    ⟨some 28,none,⟨[],[]⟩,.idxS (.t 23) (.t 25) 6⟩,
    ⟨some 29,none,⟨[],[]⟩,.ld true (some 6) 0 0 (.t 28)⟩,
    ⟨some 13,none,⟨[],[]⟩,.alloc 11 [.int .i64 0,.int .i64 0,.int .i64 0,.int .i64 0,.int .i64 0,.int .i64 0]⟩,
    ⟨some 12,none,⟨[],[]⟩,.mov (.t 27)⟩,
    ⟨none,none,⟨[],[]⟩,.sto false 6 .i64 (.t 13) (.t 29)⟩] [26,27,28,29] []) (.seq (.seq (.reg false [⟨some 30,none,⟨[],[]⟩,.fld (.t 13) 1⟩,
    ⟨some 31,none,⟨[],[]⟩,.ld false none 0 0 (.t 30)⟩,
    ⟨some 32,none,⟨[],[]⟩,.fld (.t 11) 1⟩,
    ⟨some 33,none,⟨[],[]⟩,.ld false none 0 0 (.t 32)⟩,
    ⟨some 34,none,⟨[],[]⟩,.bin 0 .neq (.t 31) (.t 33)⟩,
    ⟨some 35,none,⟨[],[]⟩,.mov (.t 34)⟩,
    ⟨some 36,some (35,false),⟨[],[]⟩,.fld (.t 13) 0⟩,
    ⟨some 37,some (35,false),⟨[],[]⟩,.ld false none 0 0 (.t 36)⟩,
    ⟨some 38,some (35,false),⟨[],[]⟩,.fld (.t 11) 0⟩,
    ⟨some 39,some (35,false),⟨[],[]⟩,.ld false none 0 0 (.t 38)⟩,
    ⟨some 40,some (35,false),⟨[],[]⟩,.bin 0 .add (.t 39) (.k (.int .i64 1))⟩,
    ⟨some 41,some (35,false),⟨[],[]⟩,.bin 0 .neq (.t 37) (.t 40)⟩,
    ⟨some 42,none,⟨[],[]⟩,.pick (.t 35) (.k (.bool true)) (.t 41)⟩] [30,31,32,33,34,35,36,37,38,39,40,41] []) (.cond (.t 42) (.exit 1) (.skip))) (.seq (.reg true [⟨some 43,none,⟨[],[]⟩,.mov (.t 3)⟩,
    ⟨some 44,none,⟨[],[]⟩,.bin 0 .quo (.t 43) (.k (.int .i64 2))⟩,
    ⟨some 45,none,⟨[],[]⟩,.fld (.t 13) 4⟩,
    ⟨some 46,none,⟨[],[]⟩,.ld false none 0 0 (.t 45)⟩,
    ⟨some 47,none,⟨[],[]⟩,.callp 85 [.t 46]⟩,
    ⟨some 48,none,⟨[],[]⟩,.bin 0 .sub (.t 47) (.k (.int .i64 1))⟩,
    ⟨some 49,none,⟨[],[]⟩,.mn (.t 44) (.t 48)⟩,
    ⟨some 50,none,⟨[],[]⟩,.mov (.t 4)⟩,
    ⟨some 51,none,⟨[],[]⟩,.bin 0 .quo (.t 50) (.k (.int .i64 2))⟩,
    ⟨some 52,none,⟨[],[]⟩,.fld (.t 13) 5⟩,
    ⟨some 53,none,⟨[],[]⟩,.ld false none 0 0 (.t 52)⟩,
    ⟨some 54,none,⟨[],[]⟩,.callp 85 [.t 53]⟩,
    ⟨some 55,none,⟨[],[]⟩,.bin 0 .sub (.t 54) (.k (.int .i64 1))⟩,
    ⟨some 56,none,⟨[],[]⟩,.mn (.t 51) (.t 55)⟩,
    ⟨some 3,none,⟨[],[]⟩,.mov (.t 49)⟩,
    ⟨some 4,none,⟨[],[]⟩,.mov (.t 56)⟩] [13,42,43,44,45,46,47,48,49,50,51,52,53,54,55,56] []) (.seq (.reg false [⟨some 57,none,⟨[],[]⟩,.mov (.t 1)⟩,
    ⟨some 58,none,⟨[],[]⟩,.len (.t 57)⟩,
    ⟨some 59,none,⟨[],[]⟩,.mov (.k (.int .i64 0))⟩] [] []) (.block 2 (.loop b86_2))))))) (r86_3)))
def r86_4:IR :=
  .seq (.reg false [⟨some 10,none,⟨[],[]⟩,.mov (.k (.int .i64 (-1)))⟩] [1,3,4,11,23,24,25] []) (.ret)
def ir86:IR :=
  .seq (.reg false [⟨some 10,none,⟨[],[]⟩,.mov (.k (.int .i64 0))⟩] [10] []) (.seq (.reg false [⟨some 16,none,⟨[],[]⟩,.mov (.t 0)⟩,
    ⟨some 17,none,⟨[],[]⟩,.mov (.t 2)⟩,
    ⟨some 18,none,⟨[],[]⟩,.idxS (.t 16) (.t 17) 6⟩,
    ⟨some 19,none,⟨[],[]⟩,.ld true (some 6) 0 0 (.t 18)⟩,
    ⟨some 11,none,⟨[],[]⟩,.alloc 10 [.int .i64 0,.int .i64 0,.int .i64 0,.int .i64 0,.int .i64 0,.int .i64 0]⟩,
    ⟨none,none,⟨[],[]⟩,.sto false 6 .i64 (.t 11) (.t 19)⟩] [2,16,17,18,19] []) (.seq (.seq (.reg false [⟨some 20,none,⟨[],[]⟩,.fld (.t 11) 1⟩,
    ⟨some 21,none,⟨[],[]⟩,.ld false none 0 0 (.t 20)⟩,
    ⟨some 22,none,⟨[],[]⟩,.bin 0 .eql (.t 21) (.k (.int .i64 0))⟩] [20,21] []) (.cond (.t 22) (.seq (.reg false [⟨some 10,none,⟨[],[]⟩,.mov (.k (.int .i64 (-1)))⟩] [0,1,3,4,11,22] []) (.ret)) (.skip))) (.seq (.seq (.reg false [⟨some 23,none,⟨[],[]⟩,.mov (.t 0)⟩,
    ⟨some 24,none,⟨[],[]⟩,.len (.t 23)⟩,
    ⟨some 25,none,⟨[],[]⟩,.mov (.k (.int .i64 0))⟩] [0,10,22] []) (.block 0 (.loop b86_1))) (r86_4))))
def kp86_2:List Nat:=[1,3,4,11,12,23,24,25,57,58,59]
def kl86_2:List Nat:=[12]
attribute [push_cast] kp86_2 kl86_2
def kp86_1:List Nat:=[1,3,4,11,23,24,25]
def kl86_1:List Nat:=[11,12]
attribute [push_cast] kp86_1 kl86_1
set_option maxRecDepth 4000 in
theorem comp86:(Try.f86.body.bind fun c => compC tab isP chkAll ir86 c) = some ir86:=by kernel_rfl
structure Rb where
  band:Int
  i:Int
  j:Int
  x:Int
  y:Int
  w:Int
  h:Int
  par:Int
  deriving Inhabited
def Rb.rc (b:Rb):List RC:=[.int .i64 b.band,.int .i64 b.i,.int .i64 b.j,.int .i64 b.x,.int .i64 b.y,.int .i64 b.w,.int .i64 b.h,.int .i64 b.par]
def rdRb (l:List Rb) (i:Nat):Rb:=l.getD i default
theorem rdRb_nat {l:List Rb} {i:Nat} (h:i < l.length):rdRb l i = l[i]:=by simp [rdRb,h]
theorem recAt_Rb {l:List Rb} {i:Nat} (h:i < l.length) (z:List RC):recAt (i:Int) z (l.map Rb.rc) = (rdRb l i).rc:=by
  simp [recAt,rdRb,h]
def getRb:List (List RC)→Option (List Rb)
  | [] => some []
  | [.int .i64 a,.int .i64 b,.int .i64 c,.int .i64 d,.int .i64 e,.int .i64 f,.int .i64 g,.int .i64 h] :: l => match getRb l with | some r => some (⟨a,b,c,d,e,f,g,h⟩ :: r) | none => none
  | _ => none
theorem getRb_map:∀ l:List Rb,getRb (l.map Rb.rc) = some l
  | [] => rfl
  | g :: l => by
    simp only [List.map_cons,Rb.rc,getRb]
    have:=getRb_map l
    rw [this]
@[push_cast] theorem getRb_map' (l:List Rb):getRb (l.map Rb.rc) = some l:=getRb_map l
def getBds:List (List RC)→Option (List Bd)
  | [] => some []
  | [.int .i64 a,.int .i64 b,.int .i64 c,.int .i64 d,.int .i64 e,.int .i64 f] :: l => match getBds l with | some r => some (⟨a,b,c,d,e,f⟩ :: r) | none => none
  | _ => none
theorem getBds_map:∀ l:List Bd,getBds (l.map Bd.rc) = some l
  | [] => rfl
  | g :: l => by
    simp only [List.map_cons,Bd.rc,getBds]
    have:=getBds_map l
    rw [this]
@[push_cast] theorem getBds_map' (l:List Bd):getBds (l.map Bd.rc) = some l:=getBds_map l
def rowRb (look:Look) (d:Nat):Option (Xf.Loc × List Rb) :=
  bif d == 4096 then some (nilLoc,[]) else match rowR (look d) with
    | some (L,8,_,r) => match getRb r with | some l => some (L,l) | none => none
    | _ => none
def rowBds (look:Look) (d:Nat):Option (Xf.Loc × List Bd) :=
  bif d == 4096 then some (nilLoc,[]) else match rowR (look d) with
    | some (L,6,_,r) => match getBds r with | some l => some (L,l) | none => none
    | _ => none
attribute [push_cast] rowRb rowBds
theorem fI_some {α:Type} {l:List α} {p:α→Bool} {i:Nat} {a:α} (hi:l[i]? = some a) (h:p a = true) (hj:∀ (j:Nat) (b:α),j < i→l[j]? = some b→p b = false):l.findIdx? p = some i:=by
  have hl:i < l.length:=(List.getElem?_eq_some_iff.1 hi).1
  rw [List.findIdx?_eq_some_iff_getElem]
  refine ⟨hl,by rw [(List.getElem?_eq_some_iff.1 hi).2]; exact h,fun j hji => ?_⟩
  have:=hj j _ hji (List.getElem?_eq_getElem (by omega))
  simpa using this
theorem fI_none {α:Type} {l:List α} {p:α→Bool} (hj:∀ (j:Nat) (b:α),l[j]? = some b→p b = false):l.findIdx? p = none:=by
  rw [List.findIdx?_eq_none_iff]
  intro g hg
  obtain ⟨j,hjl,rfl⟩:=List.mem_iff_getElem.1 hg
  have:=hj j _ (List.getElem?_eq_getElem hjl)
  simpa using this
def hitR (k i j:Int) (x:Rb):Bool:=decide (x.band = k∧x.i = i∧x.j = j)
def rpS (l:List Rb) (k i j:Int):Option Nat:=l.findIdx? (hitR k i j)
def rpG (bs:List Bd) (l:List Rb) (b:Bd):Nat→Nat→Int→Int→Int
  | 0,_,_,_ => -1
  | n + 1,k,i,j =>
    if (rdBd bs k).kd = b.kd∧(rdBd bs k).lv = b.lv + 1 then
      (match rpS l k (min (i / 2) (colsB (rdBd bs k) - 1)) (min (j / 2) (rowsB (rdBd bs k) - 1)) with
        | some m => (m:Int)
        | none => rpG bs l b n (k + 1) (min (i / 2) (colsB (rdBd bs k) - 1)) (min (j / 2) (rowsB (rdBd bs k) - 1)))
    else rpG bs l b n (k + 1) i j
def rpar (bs:List Bd) (l:List Rb) (k:Nat) (i j:Int):Int:=if (rdBd bs k).kd = 0 then -1 else rpG bs l (rdBd bs k) bs.length 0 i j
def colF:EntryP
  | [.int .i64 n] => some (0≤n∧n≤1000000,.int .i64 ((n + 4 - 1) / 4))
  | _ => none
attribute [push_cast] colF
theorem p85:EntryPOk Try.prog 85 colF:=by
  refine ⟨⟨_,Try.func85,by kernel_rfl,by kernel_rfl⟩,fun us p v h hp => ?_⟩
  unfold colF at h
  split at h <;> cases h
  rename_i n
  obtain ⟨h0,h1⟩:=hp
  refine tri_evS (hyp (l:=[]) (lp:=[]) trivial trivial) Try.func85 comp85 (rs:=[.tmp 2]) (by rfl) Try.ntmps85 10 ?_
  have e:(n + 3) / 4 = (n + 4 - 1) / 4:=by rw [show n + 4 - 1 = n + 3 by omega]
  simp -implicitDefEqProofs only [push_cast,zz,BEq.rfl,ite_true,ite_false,List.append_nil,reduceCtorEq,Nat.reduceAdd,Nat.reduceSub,Nat.reduceMul,Nat.reduceLeDiff,Nat.reduceLT,Nat.reduceEqDiff,Nat.reduceBEq,Nat.reduceBNe,Int.reduceNeg,Int.reduceToNat,ir85,e]
  omega
structure RpA where
  LB:Xf.Loc
  sb:Nat
  bs:List Bd
  L:Xf.Loc
  s:Nat
  l:List Rb
  k:Nat
  i:Int
  j:Int
def bdsWf (bs:List Bd):Prop:=bs.length≤1000∧∀ b ∈ bs,(b.ok∧1≤b.w∧1≤b.h)∧-1000≤b.lv∧b.lv≤1000
def fs86:FS where
  A:=RpA
  args:=fun a => [.sl 0 a.LB a.sb 0 a.bs.length,.sl 1 a.L a.s 0 a.l.length,.int .i64 a.k,.int .i64 a.i,.int .i64 a.j]
  mem:=fun a => [some (.ro,a.LB,.recs 6 false [] (a.bs.map Bd.rc)),some (.ro,a.L,.recs 8 false [] (a.l.map Rb.rc))]
  pre:=fun a => bdsWf a.bs∧a.l.length≤1000000∧(0 < a.bs.length→a.sb = 6)∧(0 < a.l.length→a.s = 8)∧a.k < a.bs.length∧(0≤a.i∧a.i≤1000)∧0≤a.j∧a.j≤1000
  res:=fun a _ => .int .i64 (rpar a.bs a.l a.k a.i a.j)
  out:=fun _ _ => []
  new:=fun _ _ => []
def invRp:List SV→Look→Option (RpA × List Nat)
  | [.sl c _ s 0 _,.sl d _ s' 0 _,.int .i64 k,.int .i64 i,.int .i64 j],look => match rowBds look c,rowRb look d with
    | some (LB,bs),some (L,l) => some (⟨LB,s,bs,L,s',l,k.toNat,i,j⟩,[c,d])
    | _,_ => none
  | _,_ => none
attribute [push_cast] invRp
set_option maxHeartbeats 2000000 in
theorem ok86:FSOk Try.prog 86 fs86:=by
  refine ⟨⟨_,Try.func86,by kernel_rfl,by kernel_rfl⟩,fun a => ⟨by simp [fs86,push_cast,noMine,argOwn,Chunk.frArg],by simp [fs86,push_cast,outOk,Chunk.ext],fun x => .inl (by simp [fs86,push_cast,frNew,frOut,Chunk.fr])⟩,fun a hp => ?_⟩
  obtain ⟨LB,sb,bs,L,s,l,k0,i0,j0⟩:=a
  obtain ⟨⟨h1,h2⟩,h3,h4,h5,h6,h7,h8⟩:bdsWf bs∧l.length≤1000000∧(0 < bs.length→sb = 6)∧(0 < l.length→s = 8)∧k0 < bs.length∧(0≤i0∧i0≤1000)∧0≤j0∧j0≤1000:=hp
  obtain rfl:=h4 (by omega)
  have hR:rpar bs l k0 i0 j0 = if (rdBd bs k0).kd = 0 then -1 else rpG bs l (rdBd bs k0) bs.length 0 i0 j0:=rfl
  obtain ⟨R,hRR⟩:∃ R,rpar bs l k0 i0 j0 = R:=⟨_,rfl⟩
  rw [hRR] at hR
  have hmb:(bs.map Bd.rc).length = bs.length:=List.length_map _
  have hml:(l.map Rb.rc).length = l.length:=List.length_map _
  have r0:recAt (k0:Int) [] (bs.map Bd.rc) = (rdBd bs k0).rc:=recAt_Bd' (by omega) (by omega) []
  have hb0:=h2 _ (rdBd_mem h6)
  obtain ⟨⟨lv,kd,bx,by',bw,bh⟩,hb⟩:∃ b,rdBd bs k0 = b:=⟨_,rfl⟩
  rw [hb] at hR r0 hb0
  simp only at hR hb0
  change Tri Try.prog 86 [.sl 0 LB 6 0 bs.length,.sl 1 L s 0 l.length,.int .i64 k0,.int .i64 i0,.int .i64 j0] [some (.ro,LB,.recs 6 false [] (bs.map Bd.rc)),some (.ro,L,.recs 8 false [] (l.map Rb.rc))] (postF fs86 ⟨LB,6,bs,L,s,l,k0,i0,j0⟩)
  refine tri_evS (hyp (l:=[]) (lp:=[(85,colF)]) trivial ⟨p85,trivial⟩) Try.func86 comp86 (rs:=[.tmp 10]) (by rfl) Try.ntmps86 13 ?_
  by_cases hk0:kd = 0
  · rw [if_pos hk0] at hR
    simp -implicitDefEqProofs only [push_cast,zz,BEq.rfl,ite_true,ite_false,List.append_nil,reduceCtorEq,Nat.reduceAdd,Nat.reduceSub,Nat.reduceMul,Nat.reduceLeDiff,Nat.reduceLT,Nat.reduceEqDiff,Nat.reduceBEq,Nat.reduceBNe,Int.reduceNeg,Int.reduceToNat,ir86,r0,Bd.rc,hmb,hk0]
    intro X
    repeat (refine And.intro (by first | omega | trivial | (intros; omega)) ?_)
    refine postF.mk' (fun _ => default) [some 0,some 1] ?_
    simp -implicitDefEqProofs only [push_cast,zz,BEq.rfl,ite_true,ite_false,List.append_nil,reduceCtorEq,Nat.reduceAdd,Nat.reduceSub,Nat.reduceMul,Nat.reduceLeDiff,Nat.reduceLT,Nat.reduceEqDiff,Nat.reduceBEq,Nat.reduceBNe,Int.reduceNeg,Int.reduceToNat,fs86,hRR,hR]
  rw [if_neg hk0] at hR
  simp -implicitDefEqProofs only [push_cast,zz,BEq.rfl,ite_true,ite_false,List.append_nil,reduceCtorEq,Nat.reduceAdd,Nat.reduceSub,Nat.reduceMul,Nat.reduceLeDiff,Nat.reduceLT,Nat.reduceEqDiff,Nat.reduceBEq,Nat.reduceBNe,Int.reduceNeg,Int.reduceToNat,ir86,r0,Bd.rc,hmb,hk0]
  intro X
  repeat (refine And.intro (by first | omega | trivial | (intros; omega)) ?_)
  refine evS_loopU (A:=Nat × Int × Int) kp86_1 kl86_1 (fun y => [(25,.int .i64 y.1),(3,.int .i64 y.2.1),(4,.int .i64 y.2.2)]) (fun _ => [])
    (fun y => y.1≤bs.length∧rpG bs l ⟨lv,kd,bx,by',bw,bh⟩ (bs.length - y.1) y.1 y.2.1 y.2.2 = R∧(0≤y.2.1∧y.2.1≤1000)∧0≤y.2.2∧y.2.2≤1000) (fun y => bs.length - y.1) (0,i0,j0) ⟨Nat.zero_le _,hR.symm,h7,h8⟩ (Sub.pt ?_) ?_
  · simp -implicitDefEqProofs only [push_cast,zz,BEq.rfl,ite_true,ite_false,List.append_nil,reduceCtorEq,Nat.reduceAdd,Nat.reduceSub,Nat.reduceMul,Nat.reduceLeDiff,Nat.reduceLT,Nat.reduceEqDiff,Nat.reduceBEq,Nat.reduceBNe,Int.reduceNeg,Int.reduceToNat]
  intro ⟨k,i,j⟩ ⟨(hk:k≤bs.length),(hG:rpG bs l ⟨lv,kd,bx,by',bw,bh⟩ (bs.length - k) k i j = R),⟨(hi0:0≤i),(hi1:i≤1000)⟩,(hj0:0≤j),(hj1:j≤1000)⟩ K hK
  by_cases hk':k < bs.length
  · have hki:(k:Int) < bs.length:=by omega
    have r1:recAt (k:Int) [] (bs.map Bd.rc) = (rdBd bs k).rc:=recAt_Bd' (by omega) (by omega) []
    have hb1:=h2 _ (rdBd_mem hk')
    rw [show bs.length - k = (bs.length - (k + 1)) + 1 by omega,rpG] at hG
    obtain ⟨⟨lv1,kd1,bx1,by1,bw1,bh1⟩,hbb⟩:∃ b,rdBd bs k = b:=⟨_,rfl⟩
    have hc1:colsB ⟨lv1,kd1,bx1,by1,bw1,bh1⟩ = (bw1 + 4 - 1) / 4:=rfl
    have hc2:rowsB ⟨lv1,kd1,bx1,by1,bw1,bh1⟩ = (bh1 + 4 - 1) / 4:=rfl
    rw [hbb] at r1 hb1 hG
    rw [hc1,hc2] at hG
    simp only at hb1 hG
    obtain ⟨⟨⟨w0,w1,w2,w3⟩,w6,w7⟩,w4,w5⟩:=hb1
    simp only at w0 w1 w2 w3
    obtain ⟨⟨⟨v0,v1,v2,v3⟩,v6,v7⟩,v4,v5⟩:=hb0
    simp only at v0 v1 v2 v3
    by_cases e1:kd1 = kd
    · by_cases e2:lv1 = lv + 1
      · rw [if_pos ⟨e1,e2⟩] at hG
        obtain ⟨i1,hi1'⟩:∃ x,min (i / 2) ((bw1 + 4 - 1) / 4 - 1) = x:=⟨_,rfl⟩
        obtain ⟨j1,hj1'⟩:∃ x,min (j / 2) ((bh1 + 4 - 1) / 4 - 1) = x:=⟨_,rfl⟩
        rw [hi1',hj1'] at hG
        have hit:∀ x:Rb,hitR k i1 j1 x = decide (x.band = k∧x.i = i1∧x.j = j1):=fun x => rfl
        simp -implicitDefEqProofs only [push_cast,zz,BEq.rfl,ite_true,ite_false,List.append_nil,reduceCtorEq,Nat.reduceAdd,Nat.reduceSub,Nat.reduceMul,Nat.reduceLeDiff,Nat.reduceLT,Nat.reduceEqDiff,Nat.reduceBEq,Nat.reduceBNe,Int.reduceNeg,Int.reduceToNat,b86_1,r1,Bd.rc,hmb,hki,e1,e2]
        intro X1
        repeat (refine And.intro (by first | omega | trivial | (intros; omega)) ?_)
        refine evS_loopU (A:=Nat) kp86_2 kl86_2 (fun n => [(59,.int .i64 n)]) (fun _ => []) (fun n => n≤l.length∧∀ (m:Nat) (b:Rb),m < n→l[m]? = some b→hitR k i1 j1 b = false) (fun n => l.length - n) 0 ⟨Nat.zero_le _,fun m b hm => by omega⟩ (Sub.pt ?_) ?_
        · simp -implicitDefEqProofs only [push_cast,zz,BEq.rfl,ite_true,ite_false,List.append_nil,reduceCtorEq,Nat.reduceAdd,Nat.reduceSub,Nat.reduceMul,Nat.reduceLeDiff,Nat.reduceLT,Nat.reduceEqDiff,Nat.reduceBEq,Nat.reduceBNe,Int.reduceNeg,Int.reduceToNat]
        intro n ⟨(hn:n≤l.length),(hno:∀ (m:Nat) (b:Rb),m < n→l[m]? = some b→hitR k i1 j1 b = false)⟩ K2 hK2
        by_cases hn':n < l.length
        · obtain rfl:=h5 (by omega)
          have hni:(n:Int) < l.length:=by omega
          have r2:=recAt_Rb hn' []
          have hget:l[n]? = some (rdRb l n):=by rw [rdRb_nat hn',List.getElem?_eq_getElem hn']
          obtain ⟨⟨b1,bi,bj,bx2,by2,bw2,bh2,bp⟩,hrb⟩:∃ b,rdRb l n = b:=⟨_,rfl⟩
          rw [hrb] at r2 hget
          have hcont:=fun (hm:hitR k i1 j1 ⟨b1,bi,bj,bx2,by2,bw2,bh2,bp⟩ = false) => hK2 (n + 1) ⟨show n + 1≤l.length by omega,fun m b hmn hb => by
            by_cases e:m = n
            · subst e; rw [hget] at hb; cases hb; exact hm
            · exact hno m b (by omega) hb⟩ (show l.length - (n + 1) < l.length - n by omega)
          rw [hit] at hcont
          simp only at hcont
          have hfound:hitR k i1 j1 ⟨b1,bi,bj,bx2,by2,bw2,bh2,bp⟩ = true→R = n:=fun h => by
            rw [← hG,show rpS l k i1 j1 = some n from fI_some hget h hno]
          rw [hit] at hfound
          simp only at hfound
          clear hK hK2
          by_cases f1:b1 = k
          · by_cases f2:bi = i1
            · by_cases f3:bj = j1
              · have hRn:=hfound (decide_eq_true ⟨f1,f2,f3⟩)
                clear hcont
                simp -implicitDefEqProofs only [push_cast,zz,BEq.rfl,ite_true,ite_false,List.append_nil,reduceCtorEq,Nat.reduceAdd,Nat.reduceSub,Nat.reduceMul,Nat.reduceLeDiff,Nat.reduceLT,Nat.reduceEqDiff,Nat.reduceBEq,Nat.reduceBNe,Int.reduceNeg,Int.reduceToNat,b86_2,r2,Rb.rc,hml,hni,hi1',hj1',f1,f2,f3]
                repeat (refine And.intro (by first | omega | trivial | (intros; omega)) ?_)
                intro X2
                repeat (refine And.intro (by first | omega | trivial | (intros; omega)) ?_)
                refine postF.mk' (fun _ => default) [some 0,some 1] ?_
                simp -implicitDefEqProofs only [push_cast,zz,BEq.rfl,ite_true,ite_false,List.append_nil,reduceCtorEq,Nat.reduceAdd,Nat.reduceSub,Nat.reduceMul,Nat.reduceLeDiff,Nat.reduceLT,Nat.reduceEqDiff,Nat.reduceBEq,Nat.reduceBNe,Int.reduceNeg,Int.reduceToNat,fs86,hRR,hRn]
              · have hc:=hcont (decide_eq_false fun h => f3 h.2.2)
                simp -implicitDefEqProofs only [push_cast,zz,BEq.rfl,ite_true,ite_false,List.append_nil,reduceCtorEq,Nat.reduceAdd,Nat.reduceSub,Nat.reduceMul,Nat.reduceLeDiff,Nat.reduceLT,Nat.reduceEqDiff,Nat.reduceBEq,Nat.reduceBNe,Int.reduceNeg,Int.reduceToNat,b86_2,r2,Rb.rc,hml,hni,hi1',hj1',f1,f2,f3]
                repeat (refine And.intro (by first | omega | trivial | (intros; omega)) ?_)
                intro X2
                repeat (refine And.intro (by first | omega | trivial | (intros; omega)) ?_)
                refine hc _ _ (Sub.pt ?_)
                simp -implicitDefEqProofs only [push_cast,zz,BEq.rfl,ite_true,ite_false,List.append_nil,reduceCtorEq,Nat.reduceAdd,Nat.reduceSub,Nat.reduceMul,Nat.reduceLeDiff,Nat.reduceLT,Nat.reduceEqDiff,Nat.reduceBEq,Nat.reduceBNe,Int.reduceNeg,Int.reduceToNat,hi1',hj1']
            · have hc:=hcont (decide_eq_false fun h => f2 h.2.1)
              simp -implicitDefEqProofs only [push_cast,zz,BEq.rfl,ite_true,ite_false,List.append_nil,reduceCtorEq,Nat.reduceAdd,Nat.reduceSub,Nat.reduceMul,Nat.reduceLeDiff,Nat.reduceLT,Nat.reduceEqDiff,Nat.reduceBEq,Nat.reduceBNe,Int.reduceNeg,Int.reduceToNat,b86_2,r2,Rb.rc,hml,hni,hi1',hj1',f1,f2]
              repeat (refine And.intro (by first | omega | trivial | (intros; omega)) ?_)
              intro X2
              repeat (refine And.intro (by first | omega | trivial | (intros; omega)) ?_)
              refine hc _ _ (Sub.pt ?_)
              simp -implicitDefEqProofs only [push_cast,zz,BEq.rfl,ite_true,ite_false,List.append_nil,reduceCtorEq,Nat.reduceAdd,Nat.reduceSub,Nat.reduceMul,Nat.reduceLeDiff,Nat.reduceLT,Nat.reduceEqDiff,Nat.reduceBEq,Nat.reduceBNe,Int.reduceNeg,Int.reduceToNat,hi1',hj1']
          · have hc:=hcont (decide_eq_false fun h => f1 h.1)
            simp -implicitDefEqProofs only [push_cast,zz,BEq.rfl,ite_true,ite_false,List.append_nil,reduceCtorEq,Nat.reduceAdd,Nat.reduceSub,Nat.reduceMul,Nat.reduceLeDiff,Nat.reduceLT,Nat.reduceEqDiff,Nat.reduceBEq,Nat.reduceBNe,Int.reduceNeg,Int.reduceToNat,b86_2,r2,Rb.rc,hml,hni,hi1',hj1',f1]
            repeat (refine And.intro (by first | omega | trivial | (intros; omega)) ?_)
            intro X2
            repeat (refine And.intro (by first | omega | trivial | (intros; omega)) ?_)
            refine hc _ _ (Sub.pt ?_)
            simp -implicitDefEqProofs only [push_cast,zz,BEq.rfl,ite_true,ite_false,List.append_nil,reduceCtorEq,Nat.reduceAdd,Nat.reduceSub,Nat.reduceMul,Nat.reduceLeDiff,Nat.reduceLT,Nat.reduceEqDiff,Nat.reduceBEq,Nat.reduceBNe,Int.reduceNeg,Int.reduceToNat,hi1',hj1']
        · have hnl:n = l.length:=by omega
          rw [show rpS l k i1 j1 = none from fI_none fun m b hb => hno m b (by have:=(List.getElem?_eq_some_iff.1 hb).1; omega) hb] at hG
          simp only at hG
          have hnn:¬ (n:Int) < l.length:=by omega
          clear hK2
          simp -implicitDefEqProofs only [push_cast,zz,BEq.rfl,ite_true,ite_false,List.append_nil,reduceCtorEq,Nat.reduceAdd,Nat.reduceSub,Nat.reduceMul,Nat.reduceLeDiff,Nat.reduceLT,Nat.reduceEqDiff,Nat.reduceBEq,Nat.reduceBNe,Int.reduceNeg,Int.reduceToNat,b86_2,r86_3,hnn]
          repeat (refine And.intro (by first | omega | trivial | (intros; omega)) ?_)
          refine hK (k + 1,i1,j1) ⟨show k + 1≤bs.length by omega,hG,⟨by simp only; omega,by simp only; omega⟩,by simp only; omega,by simp only; omega⟩ (show bs.length - (k + 1) < bs.length - k by omega) _ _ (Sub.pt ?_)
          simp -implicitDefEqProofs only [push_cast,zz,BEq.rfl,ite_true,ite_false,List.append_nil,reduceCtorEq,Nat.reduceAdd,Nat.reduceSub,Nat.reduceMul,Nat.reduceLeDiff,Nat.reduceLT,Nat.reduceEqDiff,Nat.reduceBEq,Nat.reduceBNe,Int.reduceNeg,Int.reduceToNat,hi1',hj1']
      · rw [if_neg (fun h => e2 h.2)] at hG
        simp -implicitDefEqProofs only [push_cast,zz,BEq.rfl,ite_true,ite_false,List.append_nil,reduceCtorEq,Nat.reduceAdd,Nat.reduceSub,Nat.reduceMul,Nat.reduceLeDiff,Nat.reduceLT,Nat.reduceEqDiff,Nat.reduceBEq,Nat.reduceBNe,Int.reduceNeg,Int.reduceToNat,b86_1,r86_3,r1,Bd.rc,hmb,hki,e1,e2]
        intro X1
        repeat (refine And.intro (by first | omega | trivial | (intros; omega)) ?_)
        refine hK (k + 1,i,j) ⟨show k + 1≤bs.length by omega,hG,⟨hi0,hi1⟩,hj0,hj1⟩ (show bs.length - (k + 1) < bs.length - k by omega) _ _ (Sub.pt ?_)
        simp -implicitDefEqProofs only [push_cast,zz,BEq.rfl,ite_true,ite_false,List.append_nil,reduceCtorEq,Nat.reduceAdd,Nat.reduceSub,Nat.reduceMul,Nat.reduceLeDiff,Nat.reduceLT,Nat.reduceEqDiff,Nat.reduceBEq,Nat.reduceBNe,Int.reduceNeg,Int.reduceToNat]
    · rw [if_neg (fun h => e1 h.1)] at hG
      simp -implicitDefEqProofs only [push_cast,zz,BEq.rfl,ite_true,ite_false,List.append_nil,reduceCtorEq,Nat.reduceAdd,Nat.reduceSub,Nat.reduceMul,Nat.reduceLeDiff,Nat.reduceLT,Nat.reduceEqDiff,Nat.reduceBEq,Nat.reduceBNe,Int.reduceNeg,Int.reduceToNat,b86_1,r86_3,r1,Bd.rc,hmb,hki,e1]
      intro X1
      repeat (refine And.intro (by first | omega | trivial | (intros; omega)) ?_)
      refine hK (k + 1,i,j) ⟨show k + 1≤bs.length by omega,hG,⟨hi0,hi1⟩,hj0,hj1⟩ (show bs.length - (k + 1) < bs.length - k by omega) _ _ (Sub.pt ?_)
      simp -implicitDefEqProofs only [push_cast,zz,BEq.rfl,ite_true,ite_false,List.append_nil,reduceCtorEq,Nat.reduceAdd,Nat.reduceSub,Nat.reduceMul,Nat.reduceLeDiff,Nat.reduceLT,Nat.reduceEqDiff,Nat.reduceBEq,Nat.reduceBNe,Int.reduceNeg,Int.reduceToNat]
  · have hkb:k = bs.length:=by omega
    have hki:¬ (k:Int) < bs.length:=by omega
    rw [hkb,Nat.sub_self,rpG] at hG
    clear hK
    simp -implicitDefEqProofs only [push_cast,zz,BEq.rfl,ite_true,ite_false,List.append_nil,reduceCtorEq,Nat.reduceAdd,Nat.reduceSub,Nat.reduceMul,Nat.reduceLeDiff,Nat.reduceLT,Nat.reduceEqDiff,Nat.reduceBEq,Nat.reduceBNe,Int.reduceNeg,Int.reduceToNat,b86_1,r86_4,hki]
    refine postF.mk' (fun _ => default) [some 0,some 1] ?_
    simp -implicitDefEqProofs only [push_cast,zz,BEq.rfl,ite_true,ite_false,List.append_nil,reduceCtorEq,Nat.reduceAdd,Nat.reduceSub,Nat.reduceMul,Nat.reduceLeDiff,Nat.reduceLT,Nat.reduceEqDiff,Nat.reduceBEq,Nat.reduceBNe,Int.reduceNeg,Int.reduceToNat,fs86,hRR,← hG]
def ent86:Entry:=spOf fs86 invRp
theorem e86:EntryOk Try.prog 86 ent86:=entry_of ok86 invRp
@[push_cast] theorem ent86_app (us:List SV) (look:Look) (x:Nat→Xf.Loc) (k:Nat):ent86 us look x k = spOf fs86 invRp us look x k:=rfl
def b49_3:IR :=
  .seq (.seq (.reg false [⟨some 37,none,⟨[],[]⟩,.mov (.t 14)⟩,
    ⟨some 38,none,⟨[],[]⟩,.fld (.t 12) 4⟩,
    ⟨some 39,none,⟨[],[]⟩,.ld false none 0 0 (.t 38)⟩,
    ⟨some 40,none,⟨[],[]⟩,.callp 85 [.t 39]⟩,
    ⟨some 41,none,⟨[],[]⟩,.bin 0 .lss (.t 37) (.t 40)⟩] [37,38,39,40] []) (.cond (.t 41) (.skip) (.exit 4))) (.seq (.block 5 (.seq (.reg false [⟨some 44,none,⟨[],[]⟩,.mov (.t 11)⟩,
    ⟨some 45,none,⟨[],[]⟩,.mov (.t 14)⟩,
    ⟨some 46,none,⟨[],[]⟩,.mov (.t 13)⟩,
    ⟨some 47,none,⟨[],[]⟩,.fld (.t 12) 2⟩,
    ⟨some 48,none,⟨[],[]⟩,.ld false none 0 0 (.t 47)⟩,
    ⟨some 49,none,⟨[],[]⟩,.mov (.t 14)⟩,
    ⟨some 50,none,⟨[],[]⟩,.bin 0 .mul (.k (.int .i64 4)) (.t 49)⟩,
    ⟨some 51,none,⟨[],[]⟩,.bin 0 .add (.t 48) (.t 50)⟩,
    ⟨some 52,none,⟨[],[]⟩,.fld (.t 12) 3⟩,
    ⟨some 53,none,⟨[],[]⟩,.ld false none 0 0 (.t 52)⟩,
    ⟨some 54,none,⟨[],[]⟩,.mov (.t 13)⟩,
    ⟨some 55,none,⟨[],[]⟩,.bin 0 .mul (.k (.int .i64 4)) (.t 54)⟩,
    ⟨some 56,none,⟨[],[]⟩,.bin 0 .add (.t 53) (.t 55)⟩,
    ⟨some 57,none,⟨[],[]⟩,.fld (.t 12) 4⟩,
    ⟨some 58,none,⟨[],[]⟩,.ld false none 0 0 (.t 57)⟩,
    ⟨some 59,none,⟨[],[]⟩,.mov (.t 14)⟩,
    ⟨some 60,none,⟨[],[]⟩,.bin 0 .mul (.k (.int .i64 4)) (.t 59)⟩,
    ⟨some 61,none,⟨[],[]⟩,.bin 0 .sub (.t 58) (.t 60)⟩,
    ⟨some 62,none,⟨[],[]⟩,.mn (.k (.int .i64 4)) (.t 61)⟩,
    ⟨some 63,none,⟨[],[]⟩,.fld (.t 12) 5⟩,
    ⟨some 64,none,⟨[],[]⟩,.ld false none 0 0 (.t 63)⟩,
    ⟨some 65,none,⟨[],[]⟩,.mov (.t 13)⟩,
    ⟨some 66,none,⟨[],[]⟩,.bin 0 .mul (.k (.int .i64 4)) (.t 65)⟩,
    ⟨some 67,none,⟨[],[]⟩,.bin 0 .sub (.t 64) (.t 66)⟩,
    ⟨some 68,none,⟨[],[]⟩,.mn (.k (.int .i64 4)) (.t 67)⟩,
    ⟨some 69,none,⟨[],[]⟩,.build [.int .i64 0,.int .i64 0,.int .i64 0,.int .i64 0,.int .i64 0,.int .i64 0,.int .i64 0,.int .i64 0] [(0,1,.t 44),(1,1,.t 45),(2,1,.t 46),(3,1,.t 51),(4,1,.t 56),(5,1,.t 62),(6,1,.t 68)]⟩,
    ⟨some 15,none,⟨[],[]⟩,.alloc 15 [.int .i64 0,.int .i64 0,.int .i64 0,.int .i64 0,.int .i64 0,.int .i64 0,.int .i64 0,.int .i64 0]⟩,
    ⟨none,none,⟨[],[]⟩,.sto false 8 .i64 (.t 15) (.t 69)⟩] [41,44,45,46,47,48,49,50,51,52,53,54,55,56,57,58,59,60,61,62,63,64,65,66,67,68,69] []) (.seq (.reg false [⟨some 70,none,⟨[],[]⟩,.mov (.t 8)⟩,
    ⟨some 71,none,⟨[],[]⟩,.mov (.t 10)⟩,
    ⟨some 72,none,⟨[],[]⟩,.mov (.t 11)⟩,
    ⟨some 73,none,⟨[],[]⟩,.mov (.t 14)⟩,
    ⟨some 74,none,⟨[],[]⟩,.mov (.t 13)⟩,
    ⟨some 75,none,⟨[],[]⟩,.call (some 4) 16 86 [.t 70,.t 71,.t 72,.t 73,.t 74]⟩,
    ⟨some 76,none,⟨[],[]⟩,.fld (.t 15) 7⟩,
    ⟨none,none,⟨[],[]⟩,.sto false 1 .i64 (.t 76) (.t 75)⟩] [70,71,72,73,74,75,76] []) (.reg false [⟨some 77,none,⟨[],[]⟩,.mov (.t 10)⟩,
    ⟨some 78,none,⟨[],[]⟩,.ld false (some 8) 0 0 (.t 15)⟩,
    ⟨some 79,none,⟨[],[]⟩,.brecs 20 8 .i64 [.t 78]⟩,
    ⟨some 80,none,⟨[],[]⟩,.app 21 8 64 (.t 77) (.t 79)⟩,
    ⟨some 10,none,⟨[],[]⟩,.mov (.t 80)⟩] [15,77,78,79,80] [])))) (.reg false [⟨some 42,none,⟨[],[]⟩,.mov (.t 14)⟩,
    ⟨some 43,none,⟨[],[]⟩,.bin 0 .add (.t 42) (.k (.int .i64 1))⟩,
    ⟨some 14,none,⟨[],[]⟩,.mov (.t 43)⟩] [42,43] []))
def r49_4:IR :=
  .reg false [⟨some 35,none,⟨[],[]⟩,.mov (.t 13)⟩,
    ⟨some 36,none,⟨[],[]⟩,.bin 0 .add (.t 35) (.k (.int .i64 1))⟩,
    ⟨some 13,none,⟨[],[]⟩,.mov (.t 36)⟩] [14,35,36] []
def b49_2:IR :=
  .seq (.seq (.reg false [⟨some 30,none,⟨[],[]⟩,.mov (.t 13)⟩,
    ⟨some 31,none,⟨[],[]⟩,.fld (.t 12) 5⟩,
    ⟨some 32,none,⟨[],[]⟩,.ld false none 0 0 (.t 31)⟩,
    ⟨some 33,none,⟨[],[]⟩,.callp 85 [.t 32]⟩,
    ⟨some 34,none,⟨[],[]⟩,.bin 0 .lss (.t 30) (.t 33)⟩] [30,31,32,33] []) (.cond (.t 34) (.skip) (.exit 2))) (.seq (.block 3 (.seq (.reg false [⟨some 14,none,⟨[],[]⟩,.mov (.k (.int .i64 0))⟩] [34] []) (.block 4 (.loop b49_3)))) (r49_4))
def r49_5:IR :=
  .reg false [⟨some 81,none,⟨[],[]⟩,.bin 0 .add (.t 25) (.k (.int .i64 1))⟩,
    ⟨some 25,none,⟨[],[]⟩,.mov (.t 81)⟩] [11,12,13,81] []
def b49_1:IR :=
  .seq (.reg false [⟨some 26,none,⟨[],[]⟩,.bin 0 .lss (.t 25) (.t 24)⟩] [] []) (.seq (.cond (.t 26) (.skip) (.exit 0)) (.seq (.block 1 (.seq (.reg false [⟨some 27,none,⟨[],[]⟩,.mov (.t 25)⟩,
    ⟨some 28,none,⟨[],[]⟩,.idxS (.t 23) (.t 25) 6⟩,
    ⟨some 29,none,⟨[],[]⟩,.ld true (some 6) 0 0 (.t 28)⟩,
    ⟨some 12,none,⟨[],[]⟩,.alloc 14 [.int .i64 0,.int .i64 0,.int .i64 0,.int .i64 0,.int .i64 0,.int .i64 0]⟩,
    ⟨some 11,none,⟨[],[]⟩,.mov (.t 27)⟩,
    ⟨none,none,⟨[],[]⟩,.sto false 6 .i64 (.t 12) (.t 29)⟩] [26,27,28,29] []) (.seq (.reg false [⟨some 13,none,⟨[],[]⟩,.mov (.k (.int .i64 0))⟩] [] []) (.block 2 (.loop b49_2))))) (r49_5)))
def r49_6:IR :=
  .seq (.reg false [⟨some 82,none,⟨[],[]⟩,.mov (.t 8)⟩,
    ⟨some 83,none,⟨[],[]⟩,.mov (.t 10)⟩,
    ⟨some 6,none,⟨[],[]⟩,.mov (.t 82)⟩,
    ⟨some 7,none,⟨[],[]⟩,.mov (.t 83)⟩] [8,10,23,24,25,82,83] []) (.ret)
def ir49:IR :=
  .seq (.reg false [⟨some 6,none,⟨[],[]⟩,.mov (.k nilSV)⟩,
    ⟨some 7,none,⟨[],[]⟩,.mov (.k nilSV)⟩] [6,7] []) (.seq (.reg false [⟨some 17,none,⟨[],[]⟩,.mov (.t 0)⟩,
    ⟨some 18,none,⟨[],[]⟩,.mov (.t 1)⟩,
    ⟨some 19,none,⟨[],[]⟩,.mov (.t 2)⟩,
    ⟨some 20,none,⟨[],[]⟩,.call (some 4) 10 84 [.t 17,.t 18,.t 19]⟩,
    ⟨some 16,none,⟨[],[]⟩,.mov (.t 20)⟩,
    ⟨some 21,none,⟨[],[]⟩,.ext (.t 16) 0⟩,
    ⟨some 22,none,⟨[],[]⟩,.ext (.t 16) 1⟩,
    ⟨some 8,none,⟨[],[]⟩,.mov (.t 21)⟩,
    ⟨some 9,none,⟨[],[]⟩,.mov (.t 22)⟩] [0,1,2,9,16,17,18,19,20,21,22] []) (.seq (.reg false [⟨some 10,none,⟨[],[]⟩,.mov (.k nilSV)⟩] [] []) (.seq (.seq (.reg false [⟨some 23,none,⟨[],[]⟩,.mov (.t 8)⟩,
    ⟨some 24,none,⟨[],[]⟩,.len (.t 23)⟩,
    ⟨some 25,none,⟨[],[]⟩,.mov (.k (.int .i64 0))⟩] [] []) (.block 0 (.loop b49_1))) (r49_6))))
def kp49_3:List Nat:=[8,10,11,12,13,14,23,24,25]
def kl49_3:List Nat:=[15,16,17,18,19,20,21]
attribute [push_cast] kp49_3 kl49_3
def kp49_2:List Nat:=[8,10,11,12,13,23,24,25]
def kl49_2:List Nat:=[15,16,17,18,19,20,21]
attribute [push_cast] kp49_2 kl49_2
def kp49_1:List Nat:=[8,10,23,24,25]
def kl49_1:List Nat:=[14,15,16,17,18,19,20,21]
attribute [push_cast] kp49_1 kl49_1
set_option maxRecDepth 4000 in
theorem comp49:(Try.f49.body.bind fun c => compC tab isP chkAll ir49 c) = some ir49:=by kernel_rfl
def rbAt (bs:List Bd) (O:List Rb) (k j i:Nat):Rb:=⟨k,i,j,(rdBd bs k).x + 4 * i,(rdBd bs k).y + 4 * j,min 4 ((rdBd bs k).w - 4 * i),min 4 ((rdBd bs k).h - 4 * j),rpar bs O k i j⟩
def rbRow (bs:List Bd) (O:List Rb) (k j:Nat):Nat→List Rb
  | 0 => O
  | i + 1 => rbRow bs O k j i++[rbAt bs (rbRow bs O k j i) k j i]
def rbBand (bs:List Bd) (O:List Rb) (k:Nat):Nat→List Rb
  | 0 => O
  | j + 1 => rbRow bs (rbBand bs O k j) k j (colsB (rdBd bs k)).toNat
def rbAll (bs:List Bd):Nat→List Rb
  | 0 => []
  | k + 1 => rbBand bs (rbAll bs k) k (rowsB (rdBd bs k)).toNat
theorem rbRow_len (bs:List Bd) (O:List Rb) (k j:Nat):∀ i,(rbRow bs O k j i).length = O.length + i
  | 0 => rfl
  | i + 1 => by rw [rbRow,List.length_append,rbRow_len bs O k j i]; rfl
theorem rbBand_len (bs:List Bd) (O:List Rb) (k:Nat):∀ j,(rbBand bs O k j).length = O.length + j * (colsB (rdBd bs k)).toNat
  | 0 => by simp [rbBand]
  | j + 1 => by rw [rbBand,rbRow_len,rbBand_len bs O k j,Nat.succ_mul]; omega
def rbL (w h n:Int):List Rb:=rbAll (bnL w h n) (bnL w h n).length
theorem rbAll_len {bs:List Bd} (hl:∀ b ∈ bs,b.ok):∀ k,k≤bs.length→(rbAll bs k).length≤2500 * k
  | 0,_ => by simp [rbAll]
  | k + 1,hk => by
    have ih:=rbAll_len hl k (by omega)
    have hb:=bd_cr (hl _ (rdBd_mem (show k < bs.length by omega)))
    rw [rbAll,rbBand_len]
    have:(rowsB (rdBd bs k)).toNat * (colsB (rdBd bs k)).toNat≤50 * 50:=Nat.mul_le_mul (by omega) (by omega)
    omega
theorem rbAll_bk (W:Int) {bs:List Bd}:∀ k,k≤bs.length→(rbAll bs k).length = (bkFold W (bs.take k)).1.length
  | 0,_ => by simp [rbAll,bkFold]
  | k + 1,hk => by
    rw [rbAll,rbBand_len,bkFold_succ W (by omega),rbAll_bk W k (by omega)]
    unfold bkStep
    simp only [List.length_append,bkBand_len]
theorem rbL_len (w h n:Int):(rbL w h n).length = (bkts w h n).length:=by
  unfold rbL bkts
  rw [rbAll_bk w _ (Nat.le_refl _),List.take_length]
def fs49:FS where
  A:=BnA
  args:=fun a => [.int .i64 a.w,.int .i64 a.h,.int .i64 a.n]
  mem:=fun _ => []
  pre:=fun a => bnOk a.w a.h a.n
  res:=fun a x => .tup [.sl 0 (lx (0 < (bnL a.w a.h a.n).length) x 0) (esz 6 (bnL a.w a.h a.n).length) 0 (bnL a.w a.h a.n).length,.sl 1 (x 1) (esz 8 (rbL a.w a.h a.n).length) 0 (rbL a.w a.h a.n).length]
  out:=fun _ _ => []
  new:=fun a x => [(lx (0 < (bnL a.w a.h a.n).length) x 0,.recs 6 true [] ((bnL a.w a.h a.n).map Bd.rc)),(x 1,.recs 8 true [] ((rbL a.w a.h a.n).map Rb.rc))]
set_option maxHeartbeats 4000000 in
theorem ok49:FSOk Try.prog 49 fs49:=by
  refine ⟨⟨_,Try.func49,by kernel_rfl,by kernel_rfl⟩,fun a => ⟨by simp [fs49,push_cast,noMine,argOwn,Chunk.frArg],by simp [fs49,push_cast,outOk,Chunk.ext],fun x => .inl (by simp [fs49,push_cast,frNew,frOut,Chunk.fr])⟩,fun a hp => ?_⟩
  obtain ⟨w,h,n⟩:=a
  have hb:bnOk w h n:=hp
  change Tri Try.prog 49 [.int .i64 w,.int .i64 h,.int .i64 n] [] (postF fs49 ⟨w,h,n⟩)
  have hin:∀ i:Nat,i < (bnL w h n).length→0≤(rdBd (bnL w h n) i).x∧0≤(rdBd (bnL w h n) i).y∧1≤(rdBd (bnL w h n) i).w∧1≤(rdBd (bnL w h n) i).h∧(rdBd (bnL w h n) i).x + (rdBd (bnL w h n) i).w≤w∧(rdBd (bnL w h n) i).y + (rdBd (bnL w h n) i).h≤h∧-1000≤(rdBd (bnL w h n) i).lv∧(rdBd (bnL w h n) i).lv≤1000:=fun i hi => bnL_in hb (rdBd_mem hi)
  have hl19:=bnL_le w h n
  obtain ⟨q1,q2,q3,q4,q5,q6⟩:=id hb
  have hwfB:bdsWf (bnL w h n):=⟨by omega,fun b hm => by have:=bnL_in hb hm; unfold Bd.ok; omega⟩
  have hrl:rbL w h n = rbAll (bnL w h n) (bnL w h n).length:=rfl
  have hlx:lx (0 < (bnL w h n).length) (fun _ => nilLoc) 0 = nilLoc:=by unfold lx; split <;> rfl
  obtain ⟨B,hB⟩:∃ B,bnL w h n = B:=⟨_,rfl⟩
  rw [hB] at hin hl19 hwfB hrl
  have hall:=rbAll_len (bs:=B) (fun b hm => (hwfB.2 b hm).1.1)
  have hBl:(B.map Bd.rc).length = B.length:=List.length_map _
  refine tri_evS (hyp (l:=[(84,ent84),(86,ent86)]) (lp:=[(85,colF)]) ⟨e84,e86,trivial⟩ ⟨p85,trivial⟩) Try.func49 comp49 (rs:=[.tmp 6,.tmp 7]) (by rfl) Try.ntmps49 22 ?_
  simp -implicitDefEqProofs only [push_cast,zz,BEq.rfl,ite_true,ite_false,List.append_nil,reduceCtorEq,Nat.reduceAdd,Nat.reduceSub,Nat.reduceMul,Nat.reduceLeDiff,Nat.reduceLT,Nat.reduceEqDiff,Nat.reduceBEq,Nat.reduceBNe,Int.reduceNeg,Int.reduceToNat,ir49,fs84,hB,hb]
  intro X
  repeat (refine And.intro (by first | omega | trivial | (intros; omega)) ?_)
  obtain ⟨LB,hLB⟩:∃ L,lx (0 < B.length) (fun j => X 3 (10 + j)) 0 = L:=⟨_,rfl⟩
  have hLB2:∀ M:Xf.Loc,lx (0 < B.length) (fun j => if j = 0 then X 3 (10 + 0) else M) 0 = LB:=fun M => by
    rw [← hLB]; unfold lx; split <;> rfl
  rw [hLB]
  have he6:∀ k:Nat,k < B.length→esz 6 B.length = 6:=fun k hk => esz_pos (by omega)
  refine evS_loopU (A:=Nat × Xf.Loc) kp49_1 kl49_1 (fun y => [(25,.int .i64 y.1),(10,.sl 11 y.2 (esz 8 (rbAll B y.1).length) 0 (rbAll B y.1).length)]) (fun y => [(11,.mine,y.2,.recs 8 true [] ((rbAll B y.1).map Rb.rc))])
    (fun y => y.1≤B.length) (fun y => B.length - y.1) (0,nilLoc) (Nat.zero_le _) (Sub.of (mkG 22 [(10,10)]) ?_) ?_
  · have e0:rbAll B 0 = []:=rfl
    simp -implicitDefEqProofs only [push_cast,zz,BEq.rfl,ite_true,ite_false,List.append_nil,reduceCtorEq,Nat.reduceAdd,Nat.reduceSub,Nat.reduceMul,Nat.reduceLeDiff,Nat.reduceLT,Nat.reduceEqDiff,Nat.reduceBEq,Nat.reduceBNe,Int.reduceNeg,Int.reduceToNat,e0,List.map_nil,List.length_nil,esz]
  intro ⟨k,M⟩ hk K hK
  have hk:k≤B.length:=hk
  by_cases hk':k < B.length
  · have hki:(k:Int) < B.length:=by omega
    obtain ⟨b1,b2,b3,b4,b5,b6,b7,b8⟩:=hin k hk'
    have r1:recAt (k:Int) [] (B.map Bd.rc) = (rdBd B k).rc:=recAt_Bd' (by omega) (by omega) []
    have he6':=he6 k hk'
    have hlen:=hall k hk
    have hstep:rbAll B (k + 1) = rbBand B (rbAll B k) k (rowsB (rdBd B k)).toNat:=rfl
    have hbl:=fun j => rbBand_len B (rbAll B k) k j
    obtain ⟨O,hO⟩:∃ O,rbAll B k = O:=⟨_,rfl⟩
    rw [hO] at hlen hstep
    simp only [hO] at hbl
    obtain ⟨⟨lv,kd,bx,by',bw,bh⟩,hbb⟩:∃ b,rdBd B k = b:=⟨_,rfl⟩
    have hc1:colsB ⟨lv,kd,bx,by',bw,bh⟩ = (bw + 4 - 1) / 4:=rfl
    have hc2:rowsB ⟨lv,kd,bx,by',bw,bh⟩ = (bh + 4 - 1) / 4:=rfl
    rw [hbb] at r1 hstep b1 b2 b3 b4 b5 b6 b7 b8
    simp only [hbb] at hbl
    rw [hc2] at hstep
    simp only [hc1] at hbl
    simp only at b1 b2 b3 b4 b5 b6 b7 b8
    obtain ⟨C,hC⟩:∃ C:Nat,(bw + 4 - 1) / 4 = (C:Int):=⟨((bw + 4 - 1) / 4).toNat,by omega⟩
    obtain ⟨R,hR⟩:∃ C:Nat,(bh + 4 - 1) / 4 = (C:Int):=⟨((bh + 4 - 1) / 4).toNat,by omega⟩
    rw [hR,Int.toNat_natCast] at hstep
    simp only [hC,Int.toNat_natCast] at hbl
    have hbs:∀ j,rbBand B O k (j + 1) = rbRow B (rbBand B O k j) k j C:=fun j => by rw [rbBand,hbb,hc1,hC,Int.toNat_natCast]
    have hat:∀ (O:List Rb) (j i:Nat),(rbAt B O k j i).rc = [.int .i64 k,.int .i64 i,.int .i64 j,.int .i64 (bx + 4 * i),.int .i64 (by' + 4 * j),.int .i64 (min 4 (bw - 4 * i)),.int .i64 (min 4 (bh - 4 * j)),.int .i64 (rpar B O k i j)]:=fun O j i => by unfold rbAt Rb.rc; rw [hbb]
    have hC50:C≤50:=by omega
    have hR50:R≤50:=by omega
    simp -implicitDefEqProofs only [push_cast,zz,BEq.rfl,ite_true,ite_false,List.append_nil,reduceCtorEq,Nat.reduceAdd,Nat.reduceSub,Nat.reduceMul,Nat.reduceLeDiff,Nat.reduceLT,Nat.reduceEqDiff,Nat.reduceBEq,Nat.reduceBNe,Int.reduceNeg,Int.reduceToNat,b49_1,hki,r1,Bd.rc,hBl,hO,he6']
    intro X1
    repeat (refine And.intro (by first | omega | trivial | (intros; omega)) ?_)
    refine evS_loopU (A:=Nat × Xf.Loc) kp49_2 kl49_2 (fun y => [(13,.int .i64 y.1),(10,.sl 11 y.2 (esz 8 (rbBand B O k y.1).length) 0 (rbBand B O k y.1).length)]) (fun y => [(11,.mine,y.2,.recs 8 true [] ((rbBand B O k y.1).map Rb.rc))])
      (fun y => y.1≤R) (fun y => R - y.1) (0,M) (Nat.zero_le _) (Sub.pt ?_) ?_
    · have e0:rbBand B O k 0 = O:=rfl
      simp -implicitDefEqProofs only [push_cast,zz,BEq.rfl,ite_true,ite_false,List.append_nil,reduceCtorEq,Nat.reduceAdd,Nat.reduceSub,Nat.reduceMul,Nat.reduceLeDiff,Nat.reduceLT,Nat.reduceEqDiff,Nat.reduceBEq,Nat.reduceBNe,Int.reduceNeg,Int.reduceToNat,e0]
    intro ⟨j,M2⟩ hj K2 hK2
    have hj:j≤R:=hj
    by_cases hj':j < R
    · have hji:(j:Int) < R:=by omega
      have hl2:=hbl j
      have hs2:=hbs j
      obtain ⟨O2,hO2⟩:∃ z,rbBand B O k j = z:=⟨_,rfl⟩
      rw [hO2] at hl2 hs2
      have hm2:j * C≤50 * 50:=Nat.mul_le_mul (by omega) hC50
      have hrl2:=fun i => rbRow_len B O2 k j i
      clear hK
      simp -implicitDefEqProofs only [push_cast,zz,BEq.rfl,ite_true,ite_false,List.append_nil,reduceCtorEq,Nat.reduceAdd,Nat.reduceSub,Nat.reduceMul,Nat.reduceLeDiff,Nat.reduceLT,Nat.reduceEqDiff,Nat.reduceBEq,Nat.reduceBNe,Int.reduceNeg,Int.reduceToNat,b49_2,hji,hR,hO2]
      repeat (refine And.intro (by first | omega | trivial | (intros; omega)) ?_)
      refine evS_loopU (A:=Nat × Xf.Loc) kp49_3 kl49_3 (fun y => [(14,.int .i64 y.1),(10,.sl 11 y.2 (esz 8 (rbRow B O2 k j y.1).length) 0 (rbRow B O2 k j y.1).length)]) (fun y => [(11,.mine,y.2,.recs 8 true [] ((rbRow B O2 k j y.1).map Rb.rc))])
        (fun y => y.1≤C) (fun y => C - y.1) (0,M2) (Nat.zero_le _) (Sub.pt ?_) ?_
      · have e0:rbRow B O2 k j 0 = O2:=rfl
        simp -implicitDefEqProofs only [push_cast,zz,BEq.rfl,ite_true,ite_false,List.append_nil,reduceCtorEq,Nat.reduceAdd,Nat.reduceSub,Nat.reduceMul,Nat.reduceLeDiff,Nat.reduceLT,Nat.reduceEqDiff,Nat.reduceBEq,Nat.reduceBNe,Int.reduceNeg,Int.reduceToNat,e0]
      intro ⟨i,M3⟩ hi K3 hK3
      have hi:i≤C:=hi
      by_cases hi':i < C
      · have hii:(i:Int) < C:=by omega
        have hl3:=hrl2 i
        have hs3:rbRow B O2 k j (i + 1) = rbRow B O2 k j i++[rbAt B (rbRow B O2 k j i) k j i]:=rfl
        have hat3:=hat (rbRow B O2 k j i) j i
        obtain ⟨O3,hO3⟩:∃ O,rbRow B O2 k j i = O:=⟨_,rfl⟩
        rw [hO3] at hl3 hs3 hat3
        have hml3:(O3.map Rb.rc).length = O3.length:=List.length_map _
        have hmap:(rbRow B O2 k j (i + 1)).map Rb.rc = O3.map Rb.rc++[[.int .i64 k,.int .i64 i,.int .i64 j,.int .i64 (bx + 4 * i),.int .i64 (by' + 4 * j),.int .i64 (min 4 (bw - 4 * i)),.int .i64 (min 4 (bh - 4 * j)),.int .i64 (rpar B O3 k i j)]]:=by
          rw [hs3,List.map_append,List.map_cons,List.map_nil,hat3]
        have hl4:(rbRow B O2 k j (i + 1)).length = O3.length + 1:=by rw [hs3,List.length_append]; rfl
        have hes:0 < O3.length→esz 8 O3.length = 8:=fun h => esz_pos h
        have he4:esz 8 (O3.length + 1) = 8:=esz_pos (by omega)
        have hB0:0 < B.length:=by omega
        clear hK2
        simp -implicitDefEqProofs only [push_cast,zz,BEq.rfl,ite_true,ite_false,List.append_nil,reduceCtorEq,Nat.reduceAdd,Nat.reduceSub,Nat.reduceMul,Nat.reduceLeDiff,Nat.reduceLT,Nat.reduceEqDiff,Nat.reduceBEq,Nat.reduceBNe,Int.reduceNeg,Int.reduceToNat,b49_3,hii,hC,hO3,fs86,hwfB,he6',hes,Int.toNat_natCast]
        refine ⟨by omega,by omega,fun X2 => ?_⟩
        repeat (refine And.intro (by first | omega | trivial | (intros; omega)) ?_)
        intro X3
        refine ⟨by omega,by omega,by omega,by omega,?_⟩
        refine hK3 (i + 1,X3 3 21) (show i + 1≤C by omega) (show C - (i + 1) < C - i by omega) _ _ (Sub.of (mkG 22 [(10,10),(14,14),(11,21)]) ?_)
        simp -implicitDefEqProofs only [push_cast,zz,BEq.rfl,ite_true,ite_false,List.append_nil,reduceCtorEq,Nat.reduceAdd,Nat.reduceSub,Nat.reduceMul,Nat.reduceLeDiff,Nat.reduceLT,Nat.reduceEqDiff,Nat.reduceBEq,Nat.reduceBNe,Int.reduceNeg,Int.reduceToNat,hmap,hl4,he4]
      · have hiC:i = C:=by omega
        have hii:¬ (i:Int) < C:=by omega
        clear hK3
        rw [hiC,← hs2]
        simp -implicitDefEqProofs only [push_cast,zz,BEq.rfl,ite_true,ite_false,List.append_nil,reduceCtorEq,Nat.reduceAdd,Nat.reduceSub,Nat.reduceMul,Nat.reduceLeDiff,Nat.reduceLT,Nat.reduceEqDiff,Nat.reduceBEq,Nat.reduceBNe,Int.reduceNeg,Int.reduceToNat,b49_3,r49_4,Int.lt_irrefl,hC]
        repeat (refine And.intro (by first | omega | trivial | (intros; omega)) ?_)
        refine hK2 (j + 1,M3) (show j + 1≤R by omega) (show R - (j + 1) < R - j by omega) _ _ (Sub.pt ?_)
        simp -implicitDefEqProofs only [push_cast,zz,BEq.rfl,ite_true,ite_false,List.append_nil,reduceCtorEq,Nat.reduceAdd,Nat.reduceSub,Nat.reduceMul,Nat.reduceLeDiff,Nat.reduceLT,Nat.reduceEqDiff,Nat.reduceBEq,Nat.reduceBNe,Int.reduceNeg,Int.reduceToNat]
    · have hjR:j = R:=by omega
      have hji:¬ (j:Int) < R:=by omega
      clear hK2
      rw [hjR,← hstep]
      simp -implicitDefEqProofs only [push_cast,zz,BEq.rfl,ite_true,ite_false,List.append_nil,reduceCtorEq,Nat.reduceAdd,Nat.reduceSub,Nat.reduceMul,Nat.reduceLeDiff,Nat.reduceLT,Nat.reduceEqDiff,Nat.reduceBEq,Nat.reduceBNe,Int.reduceNeg,Int.reduceToNat,b49_2,r49_5,Int.lt_irrefl,hR]
      repeat (refine And.intro (by first | omega | trivial | (intros; omega)) ?_)
      refine hK (k + 1,M2) (show k + 1≤B.length by omega) (show B.length - (k + 1) < B.length - k by omega) _ _ (Sub.pt ?_)
      simp -implicitDefEqProofs only [push_cast,zz,BEq.rfl,ite_true,ite_false,List.append_nil,reduceCtorEq,Nat.reduceAdd,Nat.reduceSub,Nat.reduceMul,Nat.reduceLeDiff,Nat.reduceLT,Nat.reduceEqDiff,Nat.reduceBEq,Nat.reduceBNe,Int.reduceNeg,Int.reduceToNat,he6']
  · have hkB:k = B.length:=by omega
    have hki:¬ (k:Int) < B.length:=by omega
    clear hK
    rw [hkB,← hrl]
    simp -implicitDefEqProofs only [push_cast,zz,BEq.rfl,ite_true,ite_false,List.append_nil,reduceCtorEq,Nat.reduceAdd,Nat.reduceSub,Nat.reduceMul,Nat.reduceLeDiff,Nat.reduceLT,Nat.reduceEqDiff,Nat.reduceBEq,Nat.reduceBNe,Int.reduceNeg,Int.reduceToNat,b49_1,r49_6,Int.lt_irrefl]
    refine postF.mk' (fun j => if j = 0 then X 3 (10 + 0) else M) [some 10,some 11] ?_
    simp -implicitDefEqProofs only [push_cast,zz,BEq.rfl,ite_true,ite_false,List.append_nil,reduceCtorEq,Nat.reduceAdd,Nat.reduceSub,Nat.reduceMul,Nat.reduceLeDiff,Nat.reduceLT,Nat.reduceEqDiff,Nat.reduceBEq,Nat.reduceBNe,Int.reduceNeg,Int.reduceToNat,fs49,hB,hLB2]
def ent49:Entry:=spOf fs49 inv54
theorem e49:EntryOk Try.prog 49 ent49:=entry_of ok49 inv54
@[push_cast] theorem ent49_app (us:List SV) (look:Look) (x:Nat→Xf.Loc) (k:Nat):ent49 us look x k = spOf fs49 inv54 us look x k:=rfl
def ir32:IR :=
  .seq (.reg false [⟨some 4,none,⟨[],[]⟩,.mov (.k (.bool false))⟩] [4] []) (.seq (.reg false [⟨some 5,none,⟨[],[]⟩,.mov (.t 0)⟩,
    ⟨some 6,none,⟨[],[]⟩,.bin 0 .geq (.t 5) (.k (.int .i64 0))⟩,
    ⟨some 7,none,⟨[],[]⟩,.mov (.t 6)⟩,
    ⟨some 8,some (7,true),⟨[],[]⟩,.mov (.t 0)⟩,
    ⟨some 9,some (7,true),⟨[],[]⟩,.bin 0 .leq (.t 8) (.k (.int .i64 200))⟩,
    ⟨some 10,none,⟨[],[]⟩,.pick (.t 7) (.t 9) (.k (.bool false))⟩,
    ⟨some 11,none,⟨[],[]⟩,.mov (.t 10)⟩,
    ⟨some 12,some (11,true),⟨[],[]⟩,.mov (.t 1)⟩,
    ⟨some 13,some (11,true),⟨[],[]⟩,.bin 0 .geq (.t 12) (.k (.int .i64 0))⟩,
    ⟨some 14,none,⟨[],[]⟩,.pick (.t 11) (.t 13) (.k (.bool false))⟩,
    ⟨some 15,none,⟨[],[]⟩,.mov (.t 14)⟩,
    ⟨some 16,some (15,true),⟨[],[]⟩,.mov (.t 1)⟩,
    ⟨some 17,some (15,true),⟨[],[]⟩,.bin 0 .leq (.t 16) (.k (.int .i64 200))⟩,
    ⟨some 18,none,⟨[],[]⟩,.pick (.t 15) (.t 17) (.k (.bool false))⟩,
    ⟨some 19,none,⟨[],[]⟩,.mov (.t 18)⟩,
    ⟨some 20,some (19,true),⟨[],[]⟩,.mov (.t 0)⟩,
    ⟨some 21,some (19,true),⟨[],[]⟩,.mov (.t 1)⟩,
    ⟨some 22,some (19,true),⟨[],[]⟩,.bin 0 .mul (.t 20) (.t 21)⟩,
    ⟨some 23,some (19,true),⟨[],[]⟩,.bin 0 .leq (.t 22) (.k (.int .i64 8192))⟩,
    ⟨some 24,none,⟨[],[]⟩,.pick (.t 19) (.t 23) (.k (.bool false))⟩,
    ⟨some 4,none,⟨[],[]⟩,.mov (.t 24)⟩] [0,1,5,6,7,8,9,10,11,12,13,14,15,16,17,18,19,20,21,22,23,24] []) (.ret))
set_option maxRecDepth 4000 in
theorem comp32:(Try.f32.body.bind fun c => compC tab isP chkAll ir32 c) = some ir32:=by kernel_rfl
def ir19:IR :=
  .seq (.reg false [⟨some 6,none,⟨[],[]⟩,.mov (.k (.int .i64 0))⟩,
    ⟨some 7,none,⟨[],[]⟩,.mov (.k (.int .i64 0))⟩] [6,7] []) (.seq (.seq (.reg false [⟨some 10,none,⟨[],[]⟩,.mov (.t 0)⟩,
    ⟨some 11,none,⟨[],[]⟩,.mov (.t 1)⟩,
    ⟨some 12,none,⟨[],[]⟩,.callp 32 [.t 10,.t 11]⟩,
    ⟨some 13,none,⟨[],[]⟩,.not (.t 12)⟩,
    ⟨some 14,none,⟨[],[]⟩,.mov (.t 13)⟩,
    ⟨some 15,some (14,false),⟨[],[]⟩,.mov (.t 2)⟩,
    ⟨some 16,some (14,false),⟨[],[]⟩,.bin 0 .lss (.t 15) (.k (.int .i64 0))⟩,
    ⟨some 17,none,⟨[],[]⟩,.pick (.t 14) (.k (.bool true)) (.t 16)⟩,
    ⟨some 18,none,⟨[],[]⟩,.mov (.t 17)⟩,
    ⟨some 19,some (18,false),⟨[],[]⟩,.mov (.t 2)⟩,
    ⟨some 20,some (18,false),⟨[],[]⟩,.bin 0 .gtr (.t 19) (.k (.int .i64 6))⟩,
    ⟨some 21,none,⟨[],[]⟩,.pick (.t 18) (.k (.bool true)) (.t 20)⟩] [10,11,12,13,14,15,16,17,18,19,20] []) (.cond (.t 21) (.seq (.reg false [⟨some 6,none,⟨[],[]⟩,.mov (.k (.int .i64 0))⟩,
    ⟨some 7,none,⟨[],[]⟩,.mov (.k (.int .i64 2))⟩] [0,1,2,21] []) (.ret)) (.skip))) (.seq (.reg false [⟨some 23,none,⟨[],[]⟩,.mov (.t 0)⟩,
    ⟨some 24,none,⟨[],[]⟩,.mov (.t 1)⟩,
    ⟨some 25,none,⟨[],[]⟩,.mov (.t 2)⟩,
    ⟨some 26,none,⟨[],[]⟩,.call (some 4) 10 49 [.t 23,.t 24,.t 25]⟩,
    ⟨some 22,none,⟨[],[]⟩,.mov (.t 26)⟩,
    ⟨some 27,none,⟨[],[]⟩,.ext (.t 22) 0⟩,
    ⟨some 28,none,⟨[],[]⟩,.ext (.t 22) 1⟩,
    ⟨some 8,none,⟨[],[]⟩,.mov (.t 27)⟩,
    ⟨some 9,none,⟨[],[]⟩,.mov (.t 28)⟩] [0,1,2,6,7,8,21,22,23,24,25,26,27,28] []) (.seq (.reg false [⟨some 29,none,⟨[],[]⟩,.mov (.t 9)⟩,
    ⟨some 30,none,⟨[],[]⟩,.len (.t 29)⟩,
    ⟨some 6,none,⟨[],[]⟩,.mov (.t 30)⟩,
    ⟨some 7,none,⟨[],[]⟩,.mov (.k (.int .i64 0))⟩] [9,29,30] []) (.ret))))
set_option maxRecDepth 4000 in
theorem comp19:(Try.f19.body.bind fun c => compC tab isP chkAll ir19 c) = some ir19:=by kernel_rfl
def ir18:IR :=
  .seq (.reg false [⟨some 6,none,⟨[],[]⟩,.mov (.k (.int .i64 0))⟩,
    ⟨some 7,none,⟨[],[]⟩,.mov (.k (.int .i64 0))⟩] [6,7] []) (.seq (.seq (.reg false [⟨some 8,none,⟨[],[]⟩,.mov (.t 0)⟩,
    ⟨some 9,none,⟨[],[]⟩,.bin 0 .lss (.t 8) (.k (.int .i64 0))⟩,
    ⟨some 10,none,⟨[],[]⟩,.mov (.t 9)⟩,
    ⟨some 11,some (10,false),⟨[],[]⟩,.mov (.t 1)⟩,
    ⟨some 12,some (10,false),⟨[],[]⟩,.bin 0 .lss (.t 11) (.k (.int .i64 0))⟩,
    ⟨some 13,none,⟨[],[]⟩,.pick (.t 10) (.k (.bool true)) (.t 12)⟩,
    ⟨some 14,none,⟨[],[]⟩,.mov (.t 13)⟩,
    ⟨some 15,some (14,false),⟨[],[]⟩,.mov (.t 0)⟩,
    ⟨some 16,some (14,false),⟨[],[]⟩,.bin 0 .gtr (.t 15) (.k (.int .i64 200))⟩,
    ⟨some 17,none,⟨[],[]⟩,.pick (.t 14) (.k (.bool true)) (.t 16)⟩,
    ⟨some 18,none,⟨[],[]⟩,.mov (.t 17)⟩,
    ⟨some 19,some (18,false),⟨[],[]⟩,.mov (.t 1)⟩,
    ⟨some 20,some (18,false),⟨[],[]⟩,.bin 0 .gtr (.t 19) (.k (.int .i64 200))⟩,
    ⟨some 21,none,⟨[],[]⟩,.pick (.t 18) (.k (.bool true)) (.t 20)⟩,
    ⟨some 22,none,⟨[],[]⟩,.mov (.t 21)⟩,
    ⟨some 23,some (22,false),⟨[],[]⟩,.mov (.t 0)⟩,
    ⟨some 24,some (22,false),⟨[],[]⟩,.mov (.t 1)⟩,
    ⟨some 25,some (22,false),⟨[],[]⟩,.bin 0 .mul (.t 23) (.t 24)⟩,
    ⟨some 26,some (22,false),⟨[],[]⟩,.bin 0 .gtr (.t 25) (.k (.int .i64 8192))⟩,
    ⟨some 27,none,⟨[],[]⟩,.pick (.t 22) (.k (.bool true)) (.t 26)⟩,
    ⟨some 28,none,⟨[],[]⟩,.mov (.t 27)⟩,
    ⟨some 29,some (28,false),⟨[],[]⟩,.mov (.t 2)⟩,
    ⟨some 30,some (28,false),⟨[],[]⟩,.callp 24 [.t 29,.k (.int .i64 0)]⟩,
    ⟨some 31,some (28,false),⟨[],[]⟩,.not (.t 30)⟩,
    ⟨some 32,none,⟨[],[]⟩,.pick (.t 28) (.k (.bool true)) (.t 31)⟩] [8,9,10,11,12,13,14,15,16,17,18,19,20,21,22,23,24,25,26,27,28,29,30,31] []) (.cond (.t 32) (.seq (.reg false [⟨some 6,none,⟨[],[]⟩,.mov (.k (.int .i64 0))⟩,
    ⟨some 7,none,⟨[],[]⟩,.mov (.k (.int .i64 2))⟩] [0,1,2,32] []) (.ret)) (.skip))) (.seq (.reg false [⟨some 33,none,⟨[],[]⟩,.mov (.t 0)⟩,
    ⟨some 34,none,⟨[],[]⟩,.mov (.t 1)⟩,
    ⟨some 35,none,⟨[],[]⟩,.mov (.t 2)⟩,
    ⟨some 36,none,⟨[],[]⟩,.call (some 4) 10 48 [.t 33,.t 34,.t 35]⟩,
    ⟨some 37,none,⟨[],[]⟩,.len (.t 36)⟩,
    ⟨some 6,none,⟨[],[]⟩,.mov (.t 37)⟩,
    ⟨some 7,none,⟨[],[]⟩,.mov (.k (.int .i64 0))⟩] [0,1,2,32,33,34,35,36,37] []) (.ret)))
set_option maxRecDepth 4000 in
theorem comp18:(Try.f18.body.bind fun c => compC tab isP chkAll ir18 c) = some ir18:=by kernel_rfl
def ir7:IR :=
  .seq (.reg false [⟨some 6,none,⟨[],[]⟩,.mov (.k (.bool false))⟩] [6] []) (.seq (.reg false [⟨some 12,none,⟨[],[]⟩,.mov (.t 0)⟩,
    ⟨some 13,none,⟨[],[]⟩,.mov (.t 1)⟩,
    ⟨some 14,none,⟨[],[]⟩,.mov (.t 2)⟩,
    ⟨some 15,none,⟨[],[]⟩,.call (some 4) 10 18 [.t 12,.t 13,.t 14]⟩,
    ⟨some 11,none,⟨[],[]⟩,.mov (.t 15)⟩,
    ⟨some 16,none,⟨[],[]⟩,.ext (.t 11) 0⟩,
    ⟨some 17,none,⟨[],[]⟩,.ext (.t 11) 1⟩,
    ⟨some 7,none,⟨[],[]⟩,.mov (.t 16)⟩,
    ⟨some 8,none,⟨[],[]⟩,.mov (.t 17)⟩] [11,12,13,14,15,16,17] []) (.seq (.reg false [⟨some 19,none,⟨[],[]⟩,.mov (.t 0)⟩,
    ⟨some 20,none,⟨[],[]⟩,.mov (.t 1)⟩,
    ⟨some 21,none,⟨[],[]⟩,.mov (.t 2)⟩,
    ⟨some 22,none,⟨[],[]⟩,.call (some 4) 14 19 [.t 19,.t 20,.t 21]⟩,
    ⟨some 18,none,⟨[],[]⟩,.mov (.t 22)⟩,
    ⟨some 23,none,⟨[],[]⟩,.ext (.t 18) 0⟩,
    ⟨some 24,none,⟨[],[]⟩,.ext (.t 18) 1⟩,
    ⟨some 9,none,⟨[],[]⟩,.mov (.t 23)⟩,
    ⟨some 10,none,⟨[],[]⟩,.mov (.t 24)⟩] [0,1,2,18,19,20,21,22,23,24] []) (.seq (.reg false [⟨some 25,none,⟨[],[]⟩,.mov (.t 7)⟩,
    ⟨some 26,none,⟨[],[]⟩,.mov (.t 9)⟩,
    ⟨some 27,none,⟨[],[]⟩,.bin 0 .eql (.t 25) (.t 26)⟩,
    ⟨some 28,none,⟨[],[]⟩,.mov (.t 27)⟩,
    ⟨some 29,some (28,true),⟨[],[]⟩,.mov (.t 8)⟩,
    ⟨some 30,some (28,true),⟨[],[]⟩,.mov (.t 10)⟩,
    ⟨some 31,some (28,true),⟨[],[]⟩,.bin 0 .eql (.t 29) (.t 30)⟩,
    ⟨some 32,none,⟨[],[]⟩,.pick (.t 28) (.t 31) (.k (.bool false))⟩,
    ⟨some 33,none,⟨[],[]⟩,.mov (.t 32)⟩,
    ⟨some 34,some (33,true),⟨[],[]⟩,.call (some 4) 18 10 []⟩,
    ⟨some 35,none,⟨[],[]⟩,.pick (.t 33) (.t 34) (.k (.bool false))⟩,
    ⟨some 6,none,⟨[],[]⟩,.mov (.t 35)⟩] [7,8,9,10,25,26,27,28,29,30,31,32,33,34,35] []) (.ret))))
set_option maxRecDepth 4000 in
theorem comp7:(Try.f7.body.bind fun c => compC tab isP chkAll ir7 c) = some ir7:=by kernel_rfl
def szF:EntryP
  | [.int .i64 w,.int .i64 h] => some (True,.bool (decide (SidesOk w h)))
  | _ => none
attribute [push_cast] szF
theorem p32:EntryPOk Try.prog 32 szF:=by
  refine ⟨⟨_,Try.func32,by kernel_rfl,by kernel_rfl⟩,fun us p v h hp => ?_⟩
  unfold szF at h
  split at h <;> cases h
  rename_i w h
  refine tri_evS (hyp (l:=[]) (lp:=[]) trivial trivial) Try.func32 comp32 (rs:=[.tmp 4]) (by rfl) Try.ntmps32 10 ?_
  have hmulb:0≤w→w≤200→0≤h→h≤200→0≤w * h∧w * h≤40000:=fun a b c d => by have:=mul_bd a b c d; omega
  have hs:SidesOk w h = (0≤w∧0≤h∧w≤200∧h≤200∧w * h≤8192):=rfl
  by_cases c0:0≤w
  · by_cases c1:w≤200
    · by_cases c2:0≤h
      · by_cases c3:h≤200
        · have hm:=hmulb c0 c1 c2 c3
          by_cases c4:w * h≤8192
          · have e:SidesOk w h:=⟨c0,c2,c1,c3,c4⟩
            simp -implicitDefEqProofs only [push_cast,zz,BEq.rfl,ite_true,ite_false,List.append_nil,reduceCtorEq,Nat.reduceAdd,Nat.reduceSub,Nat.reduceMul,Nat.reduceLeDiff,Nat.reduceLT,Nat.reduceEqDiff,Nat.reduceBEq,Nat.reduceBNe,Int.reduceNeg,Int.reduceToNat,ir32,c0,c1,c2,c3,c4,e]
            try omega
          · have e:¬ SidesOk w h:=fun H => c4 H.2.2.2.2
            simp -implicitDefEqProofs only [push_cast,zz,BEq.rfl,ite_true,ite_false,List.append_nil,reduceCtorEq,Nat.reduceAdd,Nat.reduceSub,Nat.reduceMul,Nat.reduceLeDiff,Nat.reduceLT,Nat.reduceEqDiff,Nat.reduceBEq,Nat.reduceBNe,Int.reduceNeg,Int.reduceToNat,ir32,c0,c1,c2,c3,c4,e]
            try omega
        · have e:¬ SidesOk w h:=fun H => c3 H.2.2.2.1
          simp -implicitDefEqProofs only [push_cast,zz,BEq.rfl,ite_true,ite_false,List.append_nil,reduceCtorEq,Nat.reduceAdd,Nat.reduceSub,Nat.reduceMul,Nat.reduceLeDiff,Nat.reduceLT,Nat.reduceEqDiff,Nat.reduceBEq,Nat.reduceBNe,Int.reduceNeg,Int.reduceToNat,ir32,c0,c1,c2,c3,e]
      · have e:¬ SidesOk w h:=fun H => c2 H.2.1
        simp -implicitDefEqProofs only [push_cast,zz,BEq.rfl,ite_true,ite_false,List.append_nil,reduceCtorEq,Nat.reduceAdd,Nat.reduceSub,Nat.reduceMul,Nat.reduceLeDiff,Nat.reduceLT,Nat.reduceEqDiff,Nat.reduceBEq,Nat.reduceBNe,Int.reduceNeg,Int.reduceToNat,ir32,c0,c1,c2,e]
    · have e:¬ SidesOk w h:=fun H => c1 H.2.2.1
      simp -implicitDefEqProofs only [push_cast,zz,BEq.rfl,ite_true,ite_false,List.append_nil,reduceCtorEq,Nat.reduceAdd,Nat.reduceSub,Nat.reduceMul,Nat.reduceLeDiff,Nat.reduceLT,Nat.reduceEqDiff,Nat.reduceBEq,Nat.reduceBNe,Int.reduceNeg,Int.reduceToNat,ir32,c0,c1,e]
  · have e:¬ SidesOk w h:=fun H => c0 H.1
    simp -implicitDefEqProofs only [push_cast,zz,BEq.rfl,ite_true,ite_false,List.append_nil,reduceCtorEq,Nat.reduceAdd,Nat.reduceSub,Nat.reduceMul,Nat.reduceLeDiff,Nat.reduceLT,Nat.reduceEqDiff,Nat.reduceBEq,Nat.reduceBNe,Int.reduceNeg,Int.reduceToNat,ir32,c0,e]
def bkOk (w h n:Int):Prop:=SidesOk w h∧0≤n∧n≤6
instance bkOk_dec (w h n:Int):Decidable (bkOk w h n):=by unfold bkOk; infer_instance
def bkN (w h n:Int):Int:=if bkOk w h n then (bkts w h n).length else 0
def bkE (w h n:Int):Int:=if bkOk w h n then 0 else 2
theorem bkOk_bn {w h n:Int} (H:bkOk w h n):bnOk w h n:=by
  obtain ⟨⟨a,b,c,d,e⟩,f,g⟩:=H
  exact ⟨f,g,a,c,b,d⟩
def fs18:FS where
  A:=BnA
  args:=fun a => [.int .i64 a.w,.int .i64 a.h,.int .i64 a.n]
  mem:=fun _ => []
  pre:=fun _ => True
  res:=fun a x => .tup [.int .i64 (bkN a.w a.h a.n),.int .i64 (bkE a.w a.h a.n)]
  out:=fun _ _ => []
  new:=fun _ _ => []
theorem ok19:FSOk Try.prog 19 fs18:=by
  refine ⟨⟨_,Try.func19,by kernel_rfl,by kernel_rfl⟩,fun a => ⟨by simp [fs18,push_cast,noMine,argOwn,Chunk.frArg],by simp [fs18,push_cast,outOk,Chunk.ext],fun x => .inl (by simp [fs18,push_cast,frNew,frOut,Chunk.fr])⟩,fun a hp => ?_⟩
  obtain ⟨w,h,n⟩:=a
  change Tri Try.prog 19 [.int .i64 w,.int .i64 h,.int .i64 n] [] (postF fs18 ⟨w,h,n⟩)
  refine tri_evS (hyp (l:=[(49,ent49)]) (lp:=[(32,szF)]) ⟨e49,trivial⟩ ⟨p32,trivial⟩) Try.func19 comp19 (rs:=[.tmp 6,.tmp 7]) (by rfl) Try.ntmps19 14 ?_
  by_cases hs:SidesOk w h
  · by_cases c0:n < 0
    · have e:¬ bkOk w h n:=fun H => by have:=H.2.1; omega
      have e1:bkN w h n = 0:=if_neg e
      have e2:bkE w h n = 2:=if_neg e
      simp -implicitDefEqProofs only [push_cast,zz,BEq.rfl,ite_true,ite_false,List.append_nil,reduceCtorEq,Nat.reduceAdd,Nat.reduceSub,Nat.reduceMul,Nat.reduceLeDiff,Nat.reduceLT,Nat.reduceEqDiff,Nat.reduceBEq,Nat.reduceBNe,Int.reduceNeg,Int.reduceToNat,ir19,hs,c0]
      refine postF.mk' (fun _ => default) [] ?_
      simp -implicitDefEqProofs only [push_cast,zz,BEq.rfl,ite_true,ite_false,List.append_nil,reduceCtorEq,Nat.reduceAdd,Nat.reduceSub,Nat.reduceMul,Nat.reduceLeDiff,Nat.reduceLT,Nat.reduceEqDiff,Nat.reduceBEq,Nat.reduceBNe,Int.reduceNeg,Int.reduceToNat,fs18,e1,e2]
    by_cases c1:6 < n
    · have e:¬ bkOk w h n:=fun H => by have:=H.2.2; omega
      have e1:bkN w h n = 0:=if_neg e
      have e2:bkE w h n = 2:=if_neg e
      simp -implicitDefEqProofs only [push_cast,zz,BEq.rfl,ite_true,ite_false,List.append_nil,reduceCtorEq,Nat.reduceAdd,Nat.reduceSub,Nat.reduceMul,Nat.reduceLeDiff,Nat.reduceLT,Nat.reduceEqDiff,Nat.reduceBEq,Nat.reduceBNe,Int.reduceNeg,Int.reduceToNat,ir19,hs,c0,c1]
      refine postF.mk' (fun _ => default) [] ?_
      simp -implicitDefEqProofs only [push_cast,zz,BEq.rfl,ite_true,ite_false,List.append_nil,reduceCtorEq,Nat.reduceAdd,Nat.reduceSub,Nat.reduceMul,Nat.reduceLeDiff,Nat.reduceLT,Nat.reduceEqDiff,Nat.reduceBEq,Nat.reduceBNe,Int.reduceNeg,Int.reduceToNat,fs18,e1,e2]
    have e:bkOk w h n:=⟨hs,by omega,by omega⟩
    have hb:=bkOk_bn e
    have e1:bkN w h n = (bkts w h n).length:=if_pos e
    have e2:bkE w h n = 0:=if_pos e
    have e3:=rbL_len w h n
    simp -implicitDefEqProofs only [push_cast,zz,BEq.rfl,ite_true,ite_false,List.append_nil,reduceCtorEq,Nat.reduceAdd,Nat.reduceSub,Nat.reduceMul,Nat.reduceLeDiff,Nat.reduceLT,Nat.reduceEqDiff,Nat.reduceBEq,Nat.reduceBNe,Int.reduceNeg,Int.reduceToNat,ir19,fs49,hs,c0,c1,hb]
    intro X
    repeat (refine And.intro (by first | omega | trivial | (intros; omega)) ?_)
    refine postF.mk' (fun _ => default) [] ?_
    simp -implicitDefEqProofs only [push_cast,zz,BEq.rfl,ite_true,ite_false,List.append_nil,reduceCtorEq,Nat.reduceAdd,Nat.reduceSub,Nat.reduceMul,Nat.reduceLeDiff,Nat.reduceLT,Nat.reduceEqDiff,Nat.reduceBEq,Nat.reduceBNe,Int.reduceNeg,Int.reduceToNat,fs18,e1,e2,e3]
  · have e:¬ bkOk w h n:=fun H => hs H.1
    have e1:bkN w h n = 0:=if_neg e
    have e2:bkE w h n = 2:=if_neg e
    simp -implicitDefEqProofs only [push_cast,zz,BEq.rfl,ite_true,ite_false,List.append_nil,reduceCtorEq,Nat.reduceAdd,Nat.reduceSub,Nat.reduceMul,Nat.reduceLeDiff,Nat.reduceLT,Nat.reduceEqDiff,Nat.reduceBEq,Nat.reduceBNe,Int.reduceNeg,Int.reduceToNat,ir19,hs]
    refine postF.mk' (fun _ => default) [] ?_
    simp -implicitDefEqProofs only [push_cast,zz,BEq.rfl,ite_true,ite_false,List.append_nil,reduceCtorEq,Nat.reduceAdd,Nat.reduceSub,Nat.reduceMul,Nat.reduceLeDiff,Nat.reduceLT,Nat.reduceEqDiff,Nat.reduceBEq,Nat.reduceBNe,Int.reduceNeg,Int.reduceToNat,fs18,e1,e2]
def ent19:Entry:=spOf fs18 inv54
theorem e19:EntryOk Try.prog 19 ent19:=entry_of ok19 inv54
@[push_cast] theorem ent19_app (us:List SV) (look:Look) (x:Nat→Xf.Loc) (k:Nat):ent19 us look x k = spOf fs18 inv54 us look x k:=rfl
theorem ok18:FSOk Try.prog 18 fs18:=by
  refine ⟨⟨_,Try.func18,by kernel_rfl,by kernel_rfl⟩,fun a => ⟨by simp [fs18,push_cast,noMine,argOwn,Chunk.frArg],by simp [fs18,push_cast,outOk,Chunk.ext],fun x => .inl (by simp [fs18,push_cast,frNew,frOut,Chunk.fr])⟩,fun a hp => ?_⟩
  obtain ⟨w,h,n⟩:=a
  change Tri Try.prog 18 [.int .i64 w,.int .i64 h,.int .i64 n] [] (postF fs18 ⟨w,h,n⟩)
  refine tri_evS (hyp (l:=[(48,ent48)]) (lp:=[(24,rightF)]) ⟨e48,trivial⟩ ⟨p24,trivial⟩) Try.func18 comp18 (rs:=[.tmp 6,.tmp 7]) (by rfl) Try.ntmps18 14 ?_
  have hmulb:0≤w→w≤200→0≤h→h≤200→0≤w * h∧w * h≤40000:=fun a b c d => by have:=mul_bd a b c d; omega
  have hag:argsOk n 0↔0≤n∧n≤6:=⟨fun H => ⟨H.1,H.2.1⟩,fun H => ⟨H.1,H.2,.inl rfl⟩⟩
  by_cases hb:bkOk w h n
  · have hbn:=bkOk_bn hb
    have e1:bkN w h n = (bkts w h n).length:=if_pos hb
    have e2:bkE w h n = 0:=if_pos hb
    obtain ⟨⟨a1,a2,a3,a4,a5⟩,a6,a7⟩:=id hb
    have hm:=hmulb a1 a3 a2 a4
    have c0:¬ w < 0:=by omega
    have c1:¬ h < 0:=by omega
    have c2:¬ 200 < w:=by omega
    have c3:¬ 200 < h:=by omega
    have c4:¬ 8192 < w * h:=by omega
    have c5:=hag.2 ⟨a6,a7⟩
    simp -implicitDefEqProofs only [push_cast,zz,BEq.rfl,ite_true,ite_false,List.append_nil,reduceCtorEq,Nat.reduceAdd,Nat.reduceSub,Nat.reduceMul,Nat.reduceLeDiff,Nat.reduceLT,Nat.reduceEqDiff,Nat.reduceBEq,Nat.reduceBNe,Int.reduceNeg,Int.reduceToNat,ir18,fs48,c0,c1,c2,c3,c4,c5,hbn]
    repeat (refine And.intro (by first | omega | trivial | (intros; omega)) ?_)
    intro X
    refine postF.mk' (fun _ => default) [] ?_
    simp -implicitDefEqProofs only [push_cast,zz,BEq.rfl,ite_true,ite_false,List.append_nil,reduceCtorEq,Nat.reduceAdd,Nat.reduceSub,Nat.reduceMul,Nat.reduceLeDiff,Nat.reduceLT,Nat.reduceEqDiff,Nat.reduceBEq,Nat.reduceBNe,Int.reduceNeg,Int.reduceToNat,fs18,e1,e2]
  · have e1:bkN w h n = 0:=if_neg hb
    have e2:bkE w h n = 2:=if_neg hb
    by_cases c0:w < 0
    · simp -implicitDefEqProofs only [push_cast,zz,BEq.rfl,ite_true,ite_false,List.append_nil,reduceCtorEq,Nat.reduceAdd,Nat.reduceSub,Nat.reduceMul,Nat.reduceLeDiff,Nat.reduceLT,Nat.reduceEqDiff,Nat.reduceBEq,Nat.reduceBNe,Int.reduceNeg,Int.reduceToNat,ir18,c0]
      repeat (refine And.intro (by first | omega | trivial | (intros; omega)) ?_)
      refine postF.mk' (fun _ => default) [] ?_
      simp -implicitDefEqProofs only [push_cast,zz,BEq.rfl,ite_true,ite_false,List.append_nil,reduceCtorEq,Nat.reduceAdd,Nat.reduceSub,Nat.reduceMul,Nat.reduceLeDiff,Nat.reduceLT,Nat.reduceEqDiff,Nat.reduceBEq,Nat.reduceBNe,Int.reduceNeg,Int.reduceToNat,fs18,e1,e2]
    by_cases c1:h < 0
    · simp -implicitDefEqProofs only [push_cast,zz,BEq.rfl,ite_true,ite_false,List.append_nil,reduceCtorEq,Nat.reduceAdd,Nat.reduceSub,Nat.reduceMul,Nat.reduceLeDiff,Nat.reduceLT,Nat.reduceEqDiff,Nat.reduceBEq,Nat.reduceBNe,Int.reduceNeg,Int.reduceToNat,ir18,c0,c1]
      repeat (refine And.intro (by first | omega | trivial | (intros; omega)) ?_)
      refine postF.mk' (fun _ => default) [] ?_
      simp -implicitDefEqProofs only [push_cast,zz,BEq.rfl,ite_true,ite_false,List.append_nil,reduceCtorEq,Nat.reduceAdd,Nat.reduceSub,Nat.reduceMul,Nat.reduceLeDiff,Nat.reduceLT,Nat.reduceEqDiff,Nat.reduceBEq,Nat.reduceBNe,Int.reduceNeg,Int.reduceToNat,fs18,e1,e2]
    by_cases c2:200 < w
    · simp -implicitDefEqProofs only [push_cast,zz,BEq.rfl,ite_true,ite_false,List.append_nil,reduceCtorEq,Nat.reduceAdd,Nat.reduceSub,Nat.reduceMul,Nat.reduceLeDiff,Nat.reduceLT,Nat.reduceEqDiff,Nat.reduceBEq,Nat.reduceBNe,Int.reduceNeg,Int.reduceToNat,ir18,c0,c1,c2]
      repeat (refine And.intro (by first | omega | trivial | (intros; omega)) ?_)
      refine postF.mk' (fun _ => default) [] ?_
      simp -implicitDefEqProofs only [push_cast,zz,BEq.rfl,ite_true,ite_false,List.append_nil,reduceCtorEq,Nat.reduceAdd,Nat.reduceSub,Nat.reduceMul,Nat.reduceLeDiff,Nat.reduceLT,Nat.reduceEqDiff,Nat.reduceBEq,Nat.reduceBNe,Int.reduceNeg,Int.reduceToNat,fs18,e1,e2]
    by_cases c3:200 < h
    · simp -implicitDefEqProofs only [push_cast,zz,BEq.rfl,ite_true,ite_false,List.append_nil,reduceCtorEq,Nat.reduceAdd,Nat.reduceSub,Nat.reduceMul,Nat.reduceLeDiff,Nat.reduceLT,Nat.reduceEqDiff,Nat.reduceBEq,Nat.reduceBNe,Int.reduceNeg,Int.reduceToNat,ir18,c0,c1,c2,c3]
      repeat (refine And.intro (by first | omega | trivial | (intros; omega)) ?_)
      refine postF.mk' (fun _ => default) [] ?_
      simp -implicitDefEqProofs only [push_cast,zz,BEq.rfl,ite_true,ite_false,List.append_nil,reduceCtorEq,Nat.reduceAdd,Nat.reduceSub,Nat.reduceMul,Nat.reduceLeDiff,Nat.reduceLT,Nat.reduceEqDiff,Nat.reduceBEq,Nat.reduceBNe,Int.reduceNeg,Int.reduceToNat,fs18,e1,e2]
    have hm:=hmulb (by omega) (by omega) (by omega) (by omega)
    by_cases c4:8192 < w * h
    · simp -implicitDefEqProofs only [push_cast,zz,BEq.rfl,ite_true,ite_false,List.append_nil,reduceCtorEq,Nat.reduceAdd,Nat.reduceSub,Nat.reduceMul,Nat.reduceLeDiff,Nat.reduceLT,Nat.reduceEqDiff,Nat.reduceBEq,Nat.reduceBNe,Int.reduceNeg,Int.reduceToNat,ir18,c0,c1,c2,c3,c4]
      repeat (refine And.intro (by first | omega | trivial | (intros; omega)) ?_)
      refine postF.mk' (fun _ => default) [] ?_
      simp -implicitDefEqProofs only [push_cast,zz,BEq.rfl,ite_true,ite_false,List.append_nil,reduceCtorEq,Nat.reduceAdd,Nat.reduceSub,Nat.reduceMul,Nat.reduceLeDiff,Nat.reduceLT,Nat.reduceEqDiff,Nat.reduceBEq,Nat.reduceBNe,Int.reduceNeg,Int.reduceToNat,fs18,e1,e2]
    have c5:¬ argsOk n 0:=fun H => hb ⟨⟨by omega,by omega,by omega,by omega,by omega⟩,hag.1 H⟩
    simp -implicitDefEqProofs only [push_cast,zz,BEq.rfl,ite_true,ite_false,List.append_nil,reduceCtorEq,Nat.reduceAdd,Nat.reduceSub,Nat.reduceMul,Nat.reduceLeDiff,Nat.reduceLT,Nat.reduceEqDiff,Nat.reduceBEq,Nat.reduceBNe,Int.reduceNeg,Int.reduceToNat,ir18,c0,c1,c2,c3,c4,c5]
    repeat (refine And.intro (by first | omega | trivial | (intros; omega)) ?_)
    refine postF.mk' (fun _ => default) [] ?_
    simp -implicitDefEqProofs only [push_cast,zz,BEq.rfl,ite_true,ite_false,List.append_nil,reduceCtorEq,Nat.reduceAdd,Nat.reduceSub,Nat.reduceMul,Nat.reduceLeDiff,Nat.reduceLT,Nat.reduceEqDiff,Nat.reduceBEq,Nat.reduceBNe,Int.reduceNeg,Int.reduceToNat,fs18,e1,e2]
def ent18:Entry:=spOf fs18 inv54
theorem e18:EntryOk Try.prog 18 ent18:=entry_of ok18 inv54
@[push_cast] theorem ent18_app (us:List SV) (look:Look) (x:Nat→Xf.Loc) (k:Nat):ent18 us look x k = spOf fs18 inv54 us look x k:=rfl
theorem tri7 (w h n:Int):Tri Try.prog 7 [.int .i64 w,.int .i64 h,.int .i64 n] [] (fun v _ => v = .bool true):=by
  obtain ⟨a,ha⟩:∃ a,bkN w h n = a:=⟨_,rfl⟩
  obtain ⟨b,hb⟩:∃ a,bkE w h n = a:=⟨_,rfl⟩
  refine tri_evS (hyp (l:=[(18,ent18),(19,ent19),(10,ent10)]) (lp:=[]) ⟨e18,e19,e10,trivial⟩ trivial) Try.func7 comp7 (rs:=[.tmp 6]) (by rfl) Try.ntmps7 22 ?_
  simp -implicitDefEqProofs only [push_cast,zz,BEq.rfl,ite_true,ite_false,List.append_nil,reduceCtorEq,Nat.reduceAdd,Nat.reduceSub,Nat.reduceMul,Nat.reduceLeDiff,Nat.reduceLT,Nat.reduceEqDiff,Nat.reduceBEq,Nat.reduceBNe,Int.reduceNeg,Int.reduceToNat,ir7,fs18,fs10,ha,hb]
end Go.Proofs.Ythicgkilfjjifaa
