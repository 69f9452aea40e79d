import Derived.Test.YthicgkilfjjifaaPA0
set_option linter.unusedVariables false
set_option linter.unusedSimpArgs false
set_option maxRecDepth 1000
namespace Go.Proofs.Ythicgkilfjjifaa
open Xf
set_option maxHeartbeats 1000000 in
theorem ok57:FSOk Try.prog 57 fs57:=by
  refine ⟨⟨_,Try.func57,by kernel_rfl,by kernel_rfl⟩,fun a => ⟨by simp [fs57,deV,deT,ivV,push_cast,noMine,argOwn,Chunk.frArg],by simp [fs57,deV,deT,ivV,push_cast,outOk,Chunk.ext],fun x => .inl (by simp [fs57,deV,deT,ivV,push_cast,frNew,frOut,Chunk.fr])⟩,fun a hp => ?_⟩
  obtain ⟨L,LS,LC,⟨kind,st,low,high,code,i,v,b,en⟩,ctx⟩:=a
  obtain ⟨h1,h2,h3,h4,h5,h6,h7⟩:inOk code i v b:=hp
  change Tri Try.prog 57 [.ptr 0 L 0 0 0] [some (.lent,L,.cells (deV LS ⟨kind,st,low,high,code,i,v,b,en⟩ LC)),none,some (.ro,LC,.ints .u8 code)] (postF fs57 ⟨L,LS,LC,⟨kind,st,low,high,code,i,v,b,en⟩,ctx⟩)
  refine tri_evS (hyp (l:=[]) (lp:=[]) trivial trivial) Try.func57 comp57 (rs:=[]) (by rfl) Try.ntmps57 10 ?_
  have hb64:=bits64
  have e1:=and_top (x:=v * 256) (by omega) (by omega)
  have e4:v * 256 % 4294967296 = v % 16777216 * 256:=by omega
  rw [e4] at e1
  have hby:=bytA_bd h2 h3
  have e2:=or_byte (x:=v % 16777216 * 256) (b:=bytA code i) (by omega) (by omega) (by omega) hby.1 hby.2
  by_cases hi:i < code.length
  · have eb:rd code i = bytA code i:=by unfold bytA; rw [if_pos hi]
    have ec:b = beyP code (i + 1):=by rw [h7]; unfold beyP; omega
    obtain ⟨y,hy⟩:∃ y,bytA code i = y:=⟨_,rfl⟩
    rw [hy] at hby e2 eb
    simp -implicitDefEqProofs only [push_cast,zz,BEq.rfl,ite_true,ite_false,List.append_nil,reduceCtorEq,Nat.reduceAdd,Nat.reduceSub,Nat.reduceMul,Nat.reduceLeDiff,Nat.reduceLT,Nat.reduceEqDiff,Nat.reduceBEq,Nat.reduceBNe,Int.reduceNeg,Int.reduceToNat,ir57,deV,deT,ivV,hi,eb,pw8,e1,e2]
    repeat (refine And.intro (by first | omega | trivial | (intros; omega)) ?_)
    refine postF.mk' (fun _ => default) [some 0,none,some 2] ?_
    simp -implicitDefEqProofs only [push_cast,zz,BEq.rfl,ite_true,ite_false,List.append_nil,reduceCtorEq,Nat.reduceAdd,Nat.reduceSub,Nat.reduceMul,Nat.reduceLeDiff,Nat.reduceLT,Nat.reduceEqDiff,Nat.reduceBEq,Nat.reduceBNe,Int.reduceNeg,Int.reduceToNat,fs57,deV,deT,ivV,shiftV,hy,← ec]
  · have eb:(0:Int) = bytA code i:=by unfold bytA; rw [if_neg hi]
    have ec:b + 1 = beyP code (i + 1):=by rw [h7]; unfold beyP; omega
    rw [← eb] at hby e2
    have hbb:0≤b∧b≤2000000000:=by rw [h7]; unfold beyP; omega
    simp -implicitDefEqProofs only [push_cast,zz,BEq.rfl,ite_true,ite_false,List.append_nil,reduceCtorEq,Nat.reduceAdd,Nat.reduceSub,Nat.reduceMul,Nat.reduceLeDiff,Nat.reduceLT,Nat.reduceEqDiff,Nat.reduceBEq,Nat.reduceBNe,Int.reduceNeg,Int.reduceToNat,ir57,deV,deT,ivV,hi,pw8,e1,e2]
    repeat (refine And.intro (by first | omega | trivial | (intros; omega)) ?_)
    refine postF.mk' (fun _ => default) [some 0,none,some 2] ?_
    simp -implicitDefEqProofs only [push_cast,zz,BEq.rfl,ite_true,ite_false,List.append_nil,reduceCtorEq,Nat.reduceAdd,Nat.reduceSub,Nat.reduceMul,Nat.reduceLeDiff,Nat.reduceLT,Nat.reduceEqDiff,Nat.reduceBEq,Nat.reduceBNe,Int.reduceNeg,Int.reduceToNat,fs57,deV,deT,ivV,shiftV,← eb,← ec]
def ent57:Entry:=spOf fs57 invDe
theorem e57:EntryOk Try.prog 57 ent57:=entry_of ok57 invDe
@[push_cast] theorem ent57_app (us:List SV) (look:Look) (x:Nat→Xf.Loc) (k:Nat):ent57 us look x k = spOf fs57 invDe us look x k:=rfl
def deM (a:DeA):Mem:=[some (.ro,a.L,.cells (deV a.LS a.d a.LC)),some (.ro,a.LS,.ints .i64 a.d.st),some (.ro,a.LC,.ints .u8 a.d.code)]
def fs65:FS where
  A:=DeA
  args:=fun a => [.ptr 0 a.L 0 0 0]
  mem:=deM
  pre:=fun a => True
  res:=fun a _ => .bool false
  out:=fun _ _ => []
  new:=fun _ _ => []
theorem ok65:FSOk Try.prog 65 fs65:=by
  refine ⟨⟨_,Try.func65,by kernel_rfl,by kernel_rfl⟩,fun a => ⟨by simp [fs65,deM,push_cast,noMine,argOwn,Chunk.frArg],by simp [fs65,deM,push_cast,outOk,Chunk.ext],fun x => .inl (by simp [fs65,deM,push_cast,frNew,frOut,Chunk.fr])⟩,fun a hp => ?_⟩
  obtain ⟨L,LS,LC,⟨kind,st,low,high,code,i,v,b,en⟩,ctx⟩:=a
  change Tri Try.prog 65 [.ptr 0 L 0 0 0] (deM ⟨L,LS,LC,⟨kind,st,low,high,code,i,v,b,en⟩,ctx⟩) (postF fs65 ⟨L,LS,LC,⟨kind,st,low,high,code,i,v,b,en⟩,ctx⟩)
  refine tri_evS (hyp (l:=[]) (lp:=[]) trivial trivial) Try.func65 comp65 (rs:=[.tmp 2]) (by rfl) Try.ntmps65 10 ?_
  simp -implicitDefEqProofs only [push_cast,zz,BEq.rfl,ite_true,ite_false,List.append_nil,reduceCtorEq,Nat.reduceAdd,Nat.reduceSub,Nat.reduceMul,Nat.reduceLeDiff,Nat.reduceLT,Nat.reduceEqDiff,Nat.reduceBEq,Nat.reduceBNe,Int.reduceNeg,Int.reduceToNat,ir65,deM,deV,deT,ivV]
  repeat (refine And.intro (by first | omega | trivial | (intros; omega)) ?_)
  refine postF.mk' (fun _ => default) [some 0,some 1,some 2] ?_
  simp -implicitDefEqProofs only [push_cast,zz,BEq.rfl,ite_true,ite_false,List.append_nil,reduceCtorEq,Nat.reduceAdd,Nat.reduceSub,Nat.reduceMul,Nat.reduceLeDiff,Nat.reduceLT,Nat.reduceEqDiff,Nat.reduceBEq,Nat.reduceBNe,Int.reduceNeg,Int.reduceToNat,fs65,deM,deV,deT,ivV]
def ent65:Entry:=spOf fs65 invDe
theorem e65:EntryOk Try.prog 65 ent65:=entry_of ok65 invDe
@[push_cast] theorem ent65_app (us:List SV) (look:Look) (x:Nat→Xf.Loc) (k:Nat):ent65 us look x k = spOf fs65 invDe us look x k:=rfl
def fs30:FS where
  A:=DeA
  args:=fun a => [.ptr 0 a.L 0 0 0]
  mem:=deM
  pre:=fun a => a.d.st.length≤1000000
  res:=fun a x => .agg [.int .i64 a.d.kind,.sl 3 (x 0) 1 0 a.d.st.length]
  out:=fun _ _ => []
  new:=fun a x => [(x 0,.ints .i64 a.d.st)]
theorem ok30:FSOk Try.prog 30 fs30:=by
  refine ⟨⟨_,Try.func30,by kernel_rfl,by kernel_rfl⟩,fun a => ⟨by simp [fs30,deM,push_cast,noMine,argOwn,Chunk.frArg],by simp [fs30,deM,push_cast,outOk,Chunk.ext],fun x => .inl (by simp [fs30,deM,push_cast,frNew,frOut,Chunk.fr])⟩,fun a hp => ?_⟩
  obtain ⟨L,LS,LC,⟨kind,st,low,high,code,i,v,b,en⟩,ctx⟩:=a
  have hl:st.length≤1000000:=hp
  change Tri Try.prog 30 [.ptr 0 L 0 0 0] (deM ⟨L,LS,LC,⟨kind,st,low,high,code,i,v,b,en⟩,ctx⟩) (postF fs30 ⟨L,LS,LC,⟨kind,st,low,high,code,i,v,b,en⟩,ctx⟩)
  refine tri_evS (hyp (l:=[(65,ent65),(70,ent70)]) (lp:=[]) ⟨e65,e70,trivial⟩ trivial) Try.func30 comp30 (rs:=[.cell 2 (some 2)]) (by rfl) Try.ntmps30 19 ?_
  simp -implicitDefEqProofs only [push_cast,zz,BEq.rfl,ite_true,ite_false,List.append_nil,reduceCtorEq,Nat.reduceAdd,Nat.reduceSub,Nat.reduceMul,Nat.reduceLeDiff,Nat.reduceLT,Nat.reduceEqDiff,Nat.reduceBEq,Nat.reduceBNe,Int.reduceNeg,Int.reduceToNat,ir30,deM,deV,deT,ivV,fs65,fs70,mdM,hl]
  intro X
  repeat (refine And.intro (by first | omega | trivial | (intros; omega)) ?_)
  intro X1
  repeat (refine And.intro (by first | omega | trivial | (intros; omega)) ?_)
  refine postF.mk' (fun j => X1 5 15) [some 0,some 1,some 2,some 15] ?_
  simp -implicitDefEqProofs only [push_cast,zz,BEq.rfl,ite_true,ite_false,List.append_nil,reduceCtorEq,Nat.reduceAdd,Nat.reduceSub,Nat.reduceMul,Nat.reduceLeDiff,Nat.reduceLT,Nat.reduceEqDiff,Nat.reduceBEq,Nat.reduceBNe,Int.reduceNeg,Int.reduceToNat,fs30,deM,deV,deT,ivV]
def ent30:Entry:=spOf fs30 invDe
theorem e30:EntryOk Try.prog 30 ent30:=entry_of ok30 invDe
@[push_cast] theorem ent30_app (us:List SV) (look:Look) (x:Nat→Xf.Loc) (k:Nat):ent30 us look x k = spOf fs30 invDe us look x k:=rfl
def b26_1:IR :=
  .seq (.reg false [⟨some 18,none,⟨[],[]⟩,.bin 0 .lss (.t 17) (.k (.int .i64 4))⟩] [] []) (.seq (.cond (.t 18) (.skip) (.exit 0)) (.seq (.block 1 (.reg false [⟨some 19,none,⟨[],[]⟩,.mov (.t 6)⟩,
    ⟨some 20,none,⟨[],[]⟩,.call none 22 57 [.t 19]⟩] [18,19,20] [])) (.reg false [⟨some 21,none,⟨[],[]⟩,.bin 0 .add (.t 17) (.k (.int .i64 1))⟩,
    ⟨some 17,none,⟨[],[]⟩,.mov (.t 21)⟩] [21] [])))
def r26_2:IR :=
  .seq (.reg false [⟨some 22,none,⟨[],[]⟩,.mov (.t 6)⟩,
    ⟨some 4,none,⟨[],[]⟩,.mov (.t 22)⟩,
    ⟨some 5,none,⟨[],[]⟩,.mov (.k (.int .i64 0))⟩] [6,17,22] []) (.ret)
def ir26:IR :=
  .seq (.reg false [⟨some 2,none,⟨[],[]⟩,.box 10 (.t 0)⟩,
    ⟨some 4,none,⟨[],[]⟩,.mov (.k nilP)⟩,
    ⟨some 5,none,⟨[],[]⟩,.mov (.k (.int .i64 0))⟩] [0,4,5] []) (.seq (.seq (.reg false [⟨some 7,none,⟨[],[]⟩,.ld false (some 2) 0 0 (.t 2)⟩,
    ⟨some 8,none,⟨[],[]⟩,.call (some 4) 11 55 [.t 7]⟩,
    ⟨some 9,none,⟨[],[]⟩,.not (.t 8)⟩] [7,8] []) (.cond (.t 9) (.seq (.reg false [⟨some 4,none,⟨[],[]⟩,.mov (.k nilP)⟩,
    ⟨some 5,none,⟨[],[]⟩,.mov (.k (.int .i64 10))⟩] [1,2,9] []) (.ret)) (.skip))) (.seq (.reg false [⟨some 10,none,⟨[],[]⟩,.ld false (some 2) 0 0 (.t 2)⟩,
    ⟨some 11,none,⟨[],[]⟩,.call (some 4) 15 56 [.t 10]⟩,
    ⟨some 12,none,⟨[],[]⟩,.bslice 19 []⟩,
    ⟨some 13,none,⟨[],[]⟩,.mov (.t 1)⟩,
    ⟨some 14,none,⟨[],[]⟩,.app 20 1 1 (.t 12) (.t 13)⟩,
    ⟨some 15,none,⟨[],[]⟩,.build [.int .i64 0,nilSV,.int .i64 0,.int .i64 0,.int .i64 0,.int .i64 0,.int .i64 0,.int .i64 0,.int .i64 0,.int .i64 0,.int .i64 0,.int .i64 0,.int .i64 0,.int .i64 0,.int .i64 0,.int .i64 0,.int .i64 0,.int .i64 0,.int .i64 0,.int .i64 0,.int .i64 0,.int .i64 0,.int .i64 0,.int .i64 0,.int .i64 0,.int .i64 0,.int .i64 0,.int .i64 0,.int .i64 0,.int .i64 0,.int .i64 0,.int .i64 0,.int .i64 0,.int .i64 0,.int .u64 0,.int .u64 0,nilSV,.int .i64 0,.int .u64 0,.int .i64 0,.bool false,.bool false] [(0,36,.t 11),(36,1,.t 14),(41,1,.k (.bool true))]⟩,
    ⟨some 16,none,⟨[],[]⟩,.box 21 (.t 15)⟩,
    ⟨some 6,none,⟨[],[]⟩,.mov (.t 16)⟩] [1,2,4,5,9,10,11,12,13,14,15,16] []) (.seq (.seq (.reg false [⟨some 17,none,⟨[],[]⟩,.mov (.k (.int .i64 0))⟩] [] []) (.block 0 (.loop b26_1))) (r26_2))))
def kp26_1:List Nat:=[6,17]
def kl26_1:List Nat:=[22,23,24,25]
attribute [push_cast] kp26_1 kl26_1
set_option maxRecDepth 4000 in
theorem comp26:(Try.f26.body.bind fun c => compC tab isP chkAll ir26 c) = some ir26:=by kernel_rfl
def b29_1:IR :=
  .seq (.seq (.reg false [⟨some 62,none,⟨[],[]⟩,.mov (.t 0)⟩,
    ⟨some 63,none,⟨[],[]⟩,.nilc (.t 62)⟩,
    ⟨some 64,none,⟨[],[]⟩,.fld (.t 63) 0⟩,
    ⟨some 65,none,⟨[],[]⟩,.call (some 4) 23 68 [.t 64]⟩] [62,63,64] []) (.cond (.t 65) (.skip) (.exit 1))) (.block 2 (.seq (.reg false [⟨some 66,none,⟨[],[]⟩,.mov (.t 0)⟩,
    ⟨some 67,none,⟨[],[]⟩,.nilc (.t 66)⟩,
    ⟨some 68,none,⟨[],[]⟩,.fld (.t 67) 0⟩,
    ⟨some 69,none,⟨[],[]⟩,.call none 27 69 [.t 68]⟩] [65,66,67,68,69] []) (.reg false [⟨some 70,none,⟨[],[]⟩,.mov (.t 0)⟩,
    ⟨some 71,none,⟨[],[]⟩,.call none 31 57 [.t 70]⟩] [70,71] [])))
def r29_2:IR :=
  .seq (.seq (.reg false [⟨some 72,none,⟨[],[]⟩,.mov (.t 0)⟩,
    ⟨some 73,none,⟨[],[]⟩,.nilc (.t 72)⟩,
    ⟨some 74,none,⟨[],[]⟩,.fld (.t 73) 39⟩,
    ⟨some 75,none,⟨[],[]⟩,.ld false none 0 0 (.t 74)⟩,
    ⟨some 76,none,⟨[],[]⟩,.bin 0 .gtr (.t 75) (.k (.int .i64 4))⟩] [72,73,74,75] []) (.cond (.t 76) (.seq (.reg false [⟨some 77,none,⟨[],[]⟩,.mov (.t 0)⟩,
    ⟨some 78,none,⟨[],[]⟩,.ld false (some 42) 0 0 (.t 8)⟩,
    ⟨some 79,none,⟨[],[]⟩,.nilc (.t 77)⟩,
    ⟨none,none,⟨[],[]⟩,.sto false 42 .i64 (.t 79) (.t 78)⟩] [6,8,76,77,78,79] []) (.seq (.reg false [⟨some 80,none,⟨[],[]⟩,.mov (.t 0)⟩,
    ⟨some 81,none,⟨[],[]⟩,.nilc (.t 80)⟩,
    ⟨some 82,none,⟨[],[]⟩,.fld (.t 81) 0⟩,
    ⟨some 83,none,⟨[],[]⟩,.fld (.t 82) 0⟩,
    ⟨some 84,none,⟨[],[]⟩,.fld (.t 83) 1⟩,
    ⟨some 85,none,⟨[],[]⟩,.ld false none 0 0 (.t 84)⟩,
    ⟨some 86,none,⟨[],[]⟩,.mov (.t 1)⟩,
    ⟨some 87,none,⟨[],[]⟩,.mov (.t 9)⟩,
    ⟨some 88,none,⟨[],[]⟩,.idxS (.t 85) (.t 86) 1⟩,
    ⟨none,none,⟨[],[]⟩,.sto true 1 .i64 (.t 88) (.t 87)⟩] [1,9,80,81,82,83,84,85,86,87,88] []) (.seq (.reg false [⟨some 89,none,⟨[],[]⟩,.mov (.t 0)⟩,
    ⟨some 90,none,⟨[],[]⟩,.nilc (.t 89)⟩,
    ⟨some 91,none,⟨[],[]⟩,.fld (.t 90) 40⟩,
    ⟨none,none,⟨[],[]⟩,.sto false 1 .i64 (.t 91) (.k (.bool true))⟩] [0,89,90,91] []) (.seq (.reg false [⟨some 4,none,⟨[],[]⟩,.mov (.k (.int .i64 0))⟩,
    ⟨some 5,none,⟨[],[]⟩,.mov (.k (.int .i64 6))⟩] [] []) (.ret))))) (.skip))) (.seq (.reg false [⟨some 92,none,⟨[],[]⟩,.mov (.t 6)⟩,
    ⟨some 4,none,⟨[],[]⟩,.mov (.t 92)⟩,
    ⟨some 5,none,⟨[],[]⟩,.mov (.k (.int .i64 0))⟩] [0,1,6,8,9,76,92] []) (.ret))
def ir29:IR :=
  .seq (.reg false [⟨some 4,none,⟨[],[]⟩,.mov (.k (.int .i64 0))⟩,
    ⟨some 5,none,⟨[],[]⟩,.mov (.k (.int .i64 0))⟩] [4,5] []) (.seq (.block 0 (.seq (.reg false [⟨some 11,none,⟨[],[]⟩,.mov (.t 0)⟩,
    ⟨some 12,none,⟨[],[]⟩,.call (some 4) 10 65 [.t 11]⟩,
    ⟨some 10,none,⟨[],[]⟩,.mov (.t 12)⟩] [11,12] []) (.cond (.t 10) (.seq (.reg false [⟨some 4,none,⟨[],[]⟩,.mov (.k (.int .i64 0))⟩,
    ⟨some 5,none,⟨[],[]⟩,.mov (.k (.int .i64 7))⟩] [0,1,10] []) (.ret)) (.seq (.reg false [⟨some 14,none,⟨[],[]⟩,.mov (.t 1)⟩,
    ⟨some 15,none,⟨[],[]⟩,.bin 0 .lss (.t 14) (.k (.int .i64 0))⟩,
    ⟨some 16,none,⟨[],[]⟩,.mov (.t 15)⟩,
    ⟨some 17,some (16,false),⟨[],[]⟩,.mov (.t 1)⟩,
    ⟨some 18,some (16,false),⟨[],[]⟩,.mov (.t 0)⟩,
    ⟨some 19,some (16,false),⟨[],[]⟩,.nilc (.t 18)⟩,
    ⟨some 20,some (16,false),⟨[],[]⟩,.fld (.t 19) 0⟩,
    ⟨some 21,some (16,false),⟨[],[]⟩,.fld (.t 20) 0⟩,
    ⟨some 22,some (16,false),⟨[],[]⟩,.fld (.t 21) 1⟩,
    ⟨some 23,some (16,false),⟨[],[]⟩,.ld false none 0 0 (.t 22)⟩,
    ⟨some 24,some (16,false),⟨[],[]⟩,.len (.t 23)⟩,
    ⟨some 25,some (16,false),⟨[],[]⟩,.bin 0 .geq (.t 17) (.t 24)⟩,
    ⟨some 26,none,⟨[],[]⟩,.pick (.t 16) (.k (.bool true)) (.t 25)⟩,
    ⟨some 13,none,⟨[],[]⟩,.mov (.t 26)⟩] [10,14,15,16,17,18,19,20,21,22,23,24,25,26] []) (.cond (.t 13) (.seq (.reg false [⟨some 4,none,⟨[],[]⟩,.mov (.k (.int .i64 0))⟩,
    ⟨some 5,none,⟨[],[]⟩,.mov (.k (.int .i64 2))⟩] [0,1,13] []) (.ret)) (.seq (.reg false [⟨some 28,none,⟨[],[]⟩,.mov (.t 0)⟩,
    ⟨some 29,none,⟨[],[]⟩,.nilc (.t 28)⟩,
    ⟨some 30,none,⟨[],[]⟩,.fld (.t 29) 40⟩,
    ⟨some 31,none,⟨[],[]⟩,.ld false none 0 0 (.t 30)⟩,
    ⟨some 27,none,⟨[],[]⟩,.mov (.t 31)⟩] [13,28,29,30,31] []) (.cond (.t 27) (.seq (.reg false [⟨some 4,none,⟨[],[]⟩,.mov (.k (.int .i64 0))⟩,
    ⟨some 5,none,⟨[],[]⟩,.mov (.k (.int .i64 6))⟩] [0,1,27] []) (.ret)) (.skip)))))))) (.seq (.reg false [⟨some 32,none,⟨[],[]⟩,.mov (.t 0)⟩,
    ⟨some 33,none,⟨[],[]⟩,.nilc (.t 32)⟩,
    ⟨some 34,none,⟨[],[]⟩,.fld (.t 33) 0⟩,
    ⟨some 35,none,⟨[],[]⟩,.mov (.t 1)⟩,
    ⟨some 36,none,⟨[],[]⟩,.call (some 4) 14 66 [.t 34,.t 35]⟩,
    ⟨some 6,none,⟨[],[]⟩,.mov (.k (.int .i64 0))⟩,
    ⟨some 7,none,⟨[],[]⟩,.mov (.t 36)⟩] [4,5,27,32,33,34,35,36] []) (.seq (.seq (.reg false [⟨some 37,none,⟨[],[]⟩,.mov (.t 0)⟩,
    ⟨some 38,none,⟨[],[]⟩,.nilc (.t 37)⟩,
    ⟨some 39,none,⟨[],[]⟩,.fld (.t 38) 38⟩,
    ⟨some 40,none,⟨[],[]⟩,.ld false none 0 0 (.t 39)⟩,
    ⟨some 41,none,⟨[],[]⟩,.mov (.t 7)⟩,
    ⟨some 42,none,⟨[],[]⟩,.bin 0 .leq (.t 40) (.t 41)⟩] [37,38,39,40,41] []) (.cond (.t 42) (.reg false [⟨some 6,none,⟨[],[]⟩,.mov (.k (.int .i64 1))⟩] [42] []) (.skip))) (.seq (.reg true [⟨some 43,none,⟨[],[]⟩,.mov (.t 0)⟩,
    ⟨some 44,none,⟨[],[]⟩,.nilc (.t 43)⟩,
    ⟨some 45,none,⟨[18],[]⟩,.ld false (some 42) 0 0 (.t 44)⟩,
    ⟨some 46,none,⟨[],[]⟩,.mov (.t 0)⟩,
    ⟨some 47,none,⟨[],[]⟩,.nilc (.t 46)⟩,
    ⟨some 48,none,⟨[],[]⟩,.fld (.t 47) 0⟩,
    ⟨some 49,none,⟨[],[]⟩,.fld (.t 48) 0⟩,
    ⟨some 50,none,⟨[],[]⟩,.fld (.t 49) 1⟩,
    ⟨some 51,none,⟨[18],[]⟩,.ld false none 0 0 (.t 50)⟩,
    ⟨some 52,none,⟨[],[]⟩,.mov (.t 1)⟩,
    ⟨some 53,none,⟨[],[]⟩,.idxS (.t 51) (.t 52) 1⟩,
    ⟨some 54,none,⟨[18],[]⟩,.ld true none 0 0 (.t 53)⟩,
    ⟨some 8,none,⟨[],[]⟩,.alloc 18 [.int .i64 0,nilSV,.int .i64 0,.int .i64 0,.int .i64 0,.int .i64 0,.int .i64 0,.int .i64 0,.int .i64 0,.int .i64 0,.int .i64 0,.int .i64 0,.int .i64 0,.int .i64 0,.int .i64 0,.int .i64 0,.int .i64 0,.int .i64 0,.int .i64 0,.int .i64 0,.int .i64 0,.int .i64 0,.int .i64 0,.int .i64 0,.int .i64 0,.int .i64 0,.int .i64 0,.int .i64 0,.int .i64 0,.int .i64 0,.int .i64 0,.int .i64 0,.int .i64 0,.int .i64 0,.int .u64 0,.int .u64 0,nilSV,.int .i64 0,.int .u64 0,.int .i64 0,.bool false,.bool false]⟩,
    ⟨none,none,⟨[],[18]⟩,.sto false 42 .i64 (.t 8) (.t 45)⟩,
    ⟨some 9,none,⟨[],[]⟩,.mov (.t 54)⟩] [42,43,44,45,46,47,48,49,50,51,52,53,54] []) (.seq (.reg false [⟨some 55,none,⟨[],[]⟩,.mov (.t 0)⟩,
    ⟨some 56,none,⟨[],[]⟩,.nilc (.t 55)⟩,
    ⟨some 57,none,⟨[],[]⟩,.fld (.t 56) 0⟩,
    ⟨some 58,none,⟨[],[]⟩,.mov (.t 1)⟩,
    ⟨some 59,none,⟨[],[]⟩,.mov (.t 6)⟩,
    ⟨some 60,none,⟨[],[]⟩,.mov (.t 7)⟩,
    ⟨some 61,none,⟨[],[]⟩,.call none 19 67 [.t 57,.t 58,.t 59,.t 60]⟩] [7,55,56,57,58,59,60,61] []) (.seq (.block 1 (.loop b29_1)) (r29_2)))))))
def kp29_1:List Nat:=[0,1,6,8,9]
def kl29_1:List Nat:=[23,24,25,26,27,28,29,30,31,32,33,34]
attribute [push_cast] kp29_1 kl29_1
set_option maxRecDepth 4000 in
theorem comp29:(Try.f29.body.bind fun c => compC tab isP chkAll ir29 c) = some ir29:=by kernel_rfl
theorem setsL_q2 (a b:SV) (z r:List SV) (h:z.length = r.length + 32):setsL (a :: b :: z) 2 (qsV++r) = a :: b :: (qsV++r):=by
  have:=setsL_at (qsV++r) [a,b] z (by rw [h,lenq])
  simpa using this
attribute [push_cast] setsL_q2
theorem set_self {xs:List Int} {i:Int} (h0:0≤i) (h1:i < xs.length):xs.set i.toNat (rd xs i) = xs:=by
  obtain ⟨k,rfl⟩:∃ k:Nat,i = k:=⟨i.toNat,by omega⟩
  rw [Int.toNat_natCast,rd_lt xs k (by omega),List.set_getElem_self]
def vN (code:List Int):Nat→Int
  | 0 => 0
  | k + 1 => shiftV code k (vN code k)
theorem shiftV_bd {code:List Int} (h:byAll code) {i v:Int} (h0:0≤i):0≤shiftV code i v∧shiftV code i v < 4294967296:=by
  have:=bytA_bd h h0
  unfold shiftV
  omega
theorem vN_bd {code:List Int} (h:byAll code):∀ k,0≤vN code k∧vN code k < 4294967296
  | 0 => by simp [vN]
  | k + 1 => shiftV_bd h (by omega)
def deK (kind:Int) (st code:List Int) (k:Nat):DeS:=⟨kind,st,0,4294967295,code,k,vN code k,beyP code k,false⟩
def newDe (kind:Int) (st code:List Int):DeS:=⟨kind,st,0,4294967295,code,4,vN code 4,beyP code 4,false⟩
structure NdA where
  L:Xf.Loc
  kind:Int
  st:List Int
  LB:Xf.Loc
  code:List Int
def invNd:List SV→Look→Option (NdA × List Nat)
  | [.agg [.int .i64 kind,.sl c _ 1 0 _],.sl d _ 1 0 _],look => match rowI (look c),rowO look d with
    | some (L,.i64,st),some (LB,code) => some (⟨L,kind,st,LB,code⟩,[c,d])
    | _,_ => none
  | _,_ => none
attribute [push_cast] invNd
def fs26:FS where
  A:=NdA
  args:=fun a => [.agg [.int .i64 a.kind,.sl 0 a.L 1 0 a.st.length],.sl 1 a.LB 1 0 a.code.length]
  mem:=fun a => [some (.ro,a.L,.ints .i64 a.st),some (.ro,a.LB,.ints .u8 a.code)]
  pre:=fun a => mdOk a.kind a.st∧a.code.length≤1000000000∧byAll a.code
  res:=fun a x => .tup [.ptr 4 (x 2) 0 0 0,.int .i64 0]
  out:=fun _ _ => []
  new:=fun a x => [(x 0,.ints .i64 a.st),(x 1,.ints .u8 a.code),(x 2,.cells (relabs (fun i => i + 1) (deV (x 0) (newDe a.kind a.st a.code) (x 1))))]
set_option maxRecDepth 8000 in
set_option maxHeartbeats 1000000 in
theorem ok26:FSOk Try.prog 26 fs26:=by
  refine ⟨⟨_,Try.func26,by kernel_rfl,by kernel_rfl⟩,fun a => ⟨by simp [fs26,push_cast,noMine,argOwn,Chunk.frArg],by simp [fs26,push_cast,outOk,Chunk.ext],fun x => .inl (by simp [fs26,push_cast,frNew,frOut,Chunk.fr])⟩,fun a hp => ?_⟩
  obtain ⟨L,kind,st,LB,code⟩:=a
  obtain ⟨hp',hc,hby⟩:mdOk kind st∧code.length≤1000000000∧byAll code:=hp
  have hl:st.length≤1000000:=by have:=hp'.2; omega
  change Tri Try.prog 26 [.agg [.int .i64 kind,.sl 0 L 1 0 st.length],.sl 1 LB 1 0 code.length] [some (.ro,L,.ints .i64 st),some (.ro,LB,.ints .u8 code)] (postF fs26 ⟨L,kind,st,LB,code⟩)
  refine tri_evS (hyp (l:=[(55,ent55),(56,ent56),(57,ent57)]) (lp:=[]) ⟨e55,e56,e57,trivial⟩ trivial) Try.func26 comp26 (rs:=[.tmp 4,.tmp 5]) (by rfl) Try.ntmps26 26 ?_
  simp -implicitDefEqProofs only [push_cast,zz,BEq.rfl,ite_true,ite_false,List.append_nil,reduceCtorEq,Nat.reduceAdd,Nat.reduceSub,Nat.reduceMul,Nat.reduceLeDiff,Nat.reduceLT,Nat.reduceEqDiff,Nat.reduceBEq,Nat.reduceBNe,Int.reduceNeg,Int.reduceToNat,ir26,fs55,fs56,mdM,ivV,qsV,hp',hl]
  intro X
  repeat (refine And.intro (by first | omega | trivial | (intros; omega)) ?_)
  intro X1
  repeat (refine And.intro (by first | omega | trivial | (intros; omega)) ?_)
  refine evS_loopU (A:=Nat) kp26_1 kl26_1 (fun k => [(17,.int .i64 k)]) (fun k => [(21,.mine,X1 6 21,.cells (relabs (fun i => bif i == 1 then 15 else 20) (deV (X1 1 15) (deK kind st code k) (X1 4 20))))])
    (fun k => k≤4) (fun k => 4 - k) 0 (Nat.zero_le _) (Sub.pt ?_) ?_
  · have e0:beyP code 0 = 0:=by unfold beyP; omega
    simp -implicitDefEqProofs only [push_cast,zz,BEq.rfl,ite_true,ite_false,List.append_nil,reduceCtorEq,Nat.reduceAdd,Nat.reduceSub,Nat.reduceMul,Nat.reduceLeDiff,Nat.reduceLT,Nat.reduceEqDiff,Nat.reduceBEq,Nat.reduceBNe,Int.reduceNeg,Int.reduceToNat,deV,deT,deK,ivV,qsV,vN,e0]
  intro k hk K hK
  have hk:k≤4:=hk
  by_cases hk':k < 4
  · have hki:(k:Int) < 4:=by omega
    have hin:inOk code k (vN code k) (beyP code k):=⟨hc,hby,by omega,by omega,(vN_bd hby k).1,(vN_bd hby k).2,rfl⟩
    have e1:shiftV code k (vN code k) = vN code (k + 1):=rfl
    simp -implicitDefEqProofs only [push_cast,zz,BEq.rfl,ite_true,ite_false,List.append_nil,reduceCtorEq,Nat.reduceAdd,Nat.reduceSub,Nat.reduceMul,Nat.reduceLeDiff,Nat.reduceLT,Nat.reduceEqDiff,Nat.reduceBEq,Nat.reduceBNe,Int.reduceNeg,Int.reduceToNat,b26_1,deV,deT,deK,ivV,fs57,hki,hin,e1]
    repeat (refine And.intro (by first | omega | trivial | (intros; omega)) ?_)
    refine hK (k + 1) (show k + 1≤4 by omega) (show 4 - (k + 1) < 4 - k by omega) _ _ (Sub.pt ?_)
    simp -implicitDefEqProofs only [push_cast,zz,BEq.rfl,ite_true,ite_false,List.append_nil,reduceCtorEq,Nat.reduceAdd,Nat.reduceSub,Nat.reduceMul,Nat.reduceLeDiff,Nat.reduceLT,Nat.reduceEqDiff,Nat.reduceBEq,Nat.reduceBNe,Int.reduceNeg,Int.reduceToNat,deV,deT,deK,ivV]
  · have hk2:k = 4:=by omega
    have hki:¬ (k:Int) < 4:=by omega
    clear hK
    simp -implicitDefEqProofs only [push_cast,zz,BEq.rfl,ite_true,ite_false,List.append_nil,reduceCtorEq,Nat.reduceAdd,Nat.reduceSub,Nat.reduceMul,Nat.reduceLeDiff,Nat.reduceLT,Nat.reduceEqDiff,Nat.reduceBEq,Nat.reduceBNe,Int.reduceNeg,Int.reduceToNat,b26_1,deV,deT,deK,ivV,hki,r26_2]
    refine postF.mk' (fun j => if j = 0 then X1 1 15 else if j = 1 then X1 4 20 else X1 6 21) [some 0,some 1,some 15,some 20,some 21] ?_
    have e1:(k:Int) = 4:=by omega
    have e2:vN code k = vN code 4:=by rw [hk2]
    simp -implicitDefEqProofs only [push_cast,zz,BEq.rfl,ite_true,ite_false,List.append_nil,reduceCtorEq,Nat.reduceAdd,Nat.reduceSub,Nat.reduceMul,Nat.reduceLeDiff,Nat.reduceLT,Nat.reduceEqDiff,Nat.reduceBEq,Nat.reduceBNe,Int.reduceNeg,Int.reduceToNat,fs26,deV,deT,deK,ivV,newDe,e1,e2]
def ent26:Entry:=spOf fs26 invNd
theorem e26:EntryOk Try.prog 26 ent26:=entry_of ok26 invNd
@[push_cast] theorem ent26_app (us:List SV) (look:Look) (x:Nat→Xf.Loc) (k:Nat):ent26 us look x k = spOf fs26 invNd us look x k:=rfl
def normD (code:List Int):Nat→Int→Int→Int→Int→Int × Int × Int × Int
  | 0,l,g,i,v => (l,g,i,v)
  | n + 1,l,g,i,v => if l / 16777216 = g / 16777216 then normD code n (l % 16777216 * 256) (g % 16777216 * 256 + 255) (i + 1) (shiftV code i v) else (l,g,i,v)
theorem normD_no (code:List Int) (n:Nat) {l g i v:Int} (e:¬ l / 16777216 = g / 16777216):normD code n l g i v = (l,g,i,v):=by
  cases n with
  | zero => rfl
  | succ n => rw [normD,if_neg e]
theorem normD_norm (code:List Int):∀ (n:Nat) (l g i v:Int),(normD code n l g i v).1 = (normP n l g).2.1∧(normD code n l g i v).2.1 = (normP n l g).2.2∧(normD code n l g i v).2.2.1 = i + (normP n l g).1.length
  | 0,l,g,i,v => by simp [normD,normP]
  | n + 1,l,g,i,v => by
    rw [normD,normP]
    split
    · have:=normD_norm code n (l % 16777216 * 256) (g % 16777216 * 256 + 255) (i + 1) (shiftV code i v)
      refine ⟨this.1,this.2.1,?_⟩
      rw [this.2.2]
      simp only [List.length_cons]
      omega
    · simp
theorem normD_val {code:List Int} (h:byAll code):∀ (n:Nat) (l g i v:Int),0≤i→0≤v→v < 4294967296→0≤(normD code n l g i v).2.2.2∧(normD code n l g i v).2.2.2 < 4294967296
  | 0,l,g,i,v,_,h0,h1 => ⟨h0,h1⟩
  | n + 1,l,g,i,v,hi,h0,h1 => by
    rw [normD]
    split
    · exact normD_val h n _ _ _ _ (by omega) (shiftV_bd h hi).1 (shiftV_bd h hi).2
    · exact ⟨h0,h1⟩
def DeS.ok (d:DeS):Prop:=ivOk2 d.kind d.st d.low d.high∧inOk d.code d.at_ d.value d.beyond∧d.at_≤d.code.length + 4
def bitD (d:DeS) (ctx:Int):Int:=if d.value≤midP d.low d.high (chP d.kind (rd d.st ctx)) then 1 else 0
def runD (d:DeS) (ctx:Int):Int × Int × Int × Int:=normD d.code 4 (lowP d.kind d.st d.low d.high ctx (bitD d ctx)) (highP d.kind d.st d.low d.high ctx (bitD d ctx)) d.at_ d.value
def gotE (d:DeS) (ctx:Int):Int:=if d.ended then 6 else if 4 < beyP d.code (runD d ctx).2.2.1 then 6 else 0
def gotB (d:DeS) (ctx:Int):Int:=if gotE d ctx = 0 then bitD d ctx else 0
def gotS (d:DeS) (ctx:Int):DeS :=
  if gotE d ctx = 0 then ⟨d.kind,d.st.set ctx.toNat (nxP d.kind (rd d.st ctx) (bitD d ctx)),(runD d ctx).1,(runD d ctx).2.1,d.code,(runD d ctx).2.2.1,(runD d ctx).2.2.2,beyP d.code (runD d ctx).2.2.1,false⟩
  else ⟨d.kind,d.st,d.low,d.high,d.code,d.at_,d.value,d.beyond,true⟩
theorem bitD_01 (d:DeS) (ctx:Int):bitD d ctx = 0∨bitD d ctx = 1:=by unfold bitD; split <;> simp
theorem gotS_ok {d:DeS} {ctx:Int} (H:d.ok) (h0:0≤ctx) (h1:ctx < d.st.length):(gotS d ctx).ok∧(gotS d ctx).st.length = d.st.length∧(gotS d ctx).kind = d.kind∧(gotS d ctx).code = d.code:=by
  obtain ⟨a,b,c⟩:=H
  unfold gotS
  split
  · rename_i he
    have hnr:=nrm_part (bit:=bitD d ctx) a h0 h1
    have hn:=norm_bd 4 hnr
    obtain ⟨n1,n2,n3⟩:=normD_norm d.code 4 (lowP d.kind d.st d.low d.high ctx (bitD d ctx)) (highP d.kind d.st d.low d.high ctx (bitD d ctx)) d.at_ d.value
    obtain ⟨a1,a2,a3,a4,a5,a6⟩:=a
    obtain ⟨b1,b2,b3,b4,b5,b6,b7⟩:=b
    have hv:=normD_val b2 4 (lowP d.kind d.st d.low d.high ctx (bitD d ctx)) (highP d.kind d.st d.low d.high ctx (bitD d ctx)) d.at_ d.value b3 b5 b6
    have hbey:beyP d.code (runD d ctx).2.2.1≤4:=by
      unfold gotE at he
      split at he
      · cases he
      · split at he
        · cases he
        · omega
    unfold DeS.ok ivOk2 inOk
    simp only [List.length_set]
    unfold runD at hbey ⊢
    rw [n1,n2]
    have:(normD d.code 4 (lowP d.kind d.st d.low d.high ctx (bitD d ctx)) (highP d.kind d.st d.low d.high ctx (bitD d ctx)) d.at_ d.value).2.2.1 - d.code.length≤4:=by unfold beyP at hbey; omega
    refine ⟨⟨⟨a1.set (nxP_ok (a1.at h0 h1) (bitD_01 d ctx)),a2,hn.2⟩,⟨b1,b2,by omega,by omega,hv.1,hv.2,trivial⟩,by omega⟩,trivial,trivial,trivial⟩
  · exact ⟨⟨a,b,c⟩,rfl,rfl,rfl⟩
def fs29:FS where
  A:=DeA
  args:=fun a => [.ptr 0 a.L 0 0 0,.int .i64 a.ctx]
  mem:=fun a => [some (.lent,a.L,.cells (deV a.LS a.d a.LC)),some (.lent,a.LS,.ints .i64 a.d.st),some (.ro,a.LC,.ints .u8 a.d.code)]
  pre:=fun a => a.d.ok∧0≤a.ctx∧a.ctx < a.d.st.length
  res:=fun a _ => .tup [.int .i64 (gotB a.d a.ctx),.int .i64 (gotE a.d a.ctx)]
  out:=fun a x => [some (some (.cells (deV a.LS (gotS a.d a.ctx) a.LC))),some (some (.ints .i64 (gotS a.d a.ctx).st))]
  new:=fun a x => []
theorem gotS_len (d:DeS) (ctx:Int):(gotS d ctx).st.length = d.st.length∧(gotS d ctx).code = d.code∧(gotS d ctx).kind = d.kind:=by
  unfold gotS; split <;> simp
set_option maxHeartbeats 2000000 in
theorem ok29:FSOk Try.prog 29 fs29:=by
  refine ⟨⟨_,Try.func29,by kernel_rfl,by kernel_rfl⟩,fun a => ⟨by simp [fs29,deV,deT,ivV,gotS_len,push_cast,noMine,argOwn,Chunk.frArg],by simp [fs29,deV,deT,ivV,gotS_len,push_cast,outOk,Chunk.ext],fun x => .inl (by simp [fs29,deV,deT,ivV,gotS_len,push_cast,frNew,frOut,Chunk.fr])⟩,fun a hp => ?_⟩
  obtain ⟨L,LS,LC,⟨kind,st,low,high,code,i,v,b,en⟩,ctx⟩:=a
  obtain ⟨⟨hiv,hin,hat⟩,h2,h3⟩:(ivOk2 kind st low high∧inOk code i v b∧i≤code.length + 4)∧0≤ctx∧ctx < st.length:=hp
  obtain ⟨b1,b2,b3,b4,b5,b6,b7⟩:=id hin
  change Tri Try.prog 29 [.ptr 0 L 0 0 0,.int .i64 ctx] [some (.lent,L,.cells (deV LS ⟨kind,st,low,high,code,i,v,b,en⟩ LC)),some (.lent,LS,.ints .i64 st),some (.ro,LC,.ints .u8 code)] (postF fs29 ⟨L,LS,LC,⟨kind,st,low,high,code,i,v,b,en⟩,ctx⟩)
  refine tri_evS (hyp (l:=[(65,ent65),(66,ent66),(67,ent67),(68,ent68),(69,ent69),(57,ent57)]) (lp:=[]) ⟨e65,e66,e67,e68,e69,e57,trivial⟩ trivial) Try.func29 comp29 (rs:=[.tmp 4,.tmp 5]) (by rfl) Try.ntmps29 35 ?_
  have c1:¬ ctx < 0:=by omega
  have c2:¬ (st.length:Int)≤ctx:=by omega
  have hok:(stsOk kind st∧st.length≤1000000∧0≤low∧low < high∧high < 4294967296):=⟨hiv.1,hiv.2.1,hiv.2.2.1,hiv.2.2.2.1,hiv.2.2.2.2.1⟩
  cases en with
  | true =>
    have e1:gotE ⟨kind,st,low,high,code,i,v,b,true⟩ ctx = 6:=rfl
    have e2:gotB ⟨kind,st,low,high,code,i,v,b,true⟩ ctx = 0:=rfl
    have e3:gotS ⟨kind,st,low,high,code,i,v,b,true⟩ ctx = ⟨kind,st,low,high,code,i,v,b,true⟩:=rfl
    simp -implicitDefEqProofs only [push_cast,zz,BEq.rfl,ite_true,ite_false,List.append_nil,reduceCtorEq,Nat.reduceAdd,Nat.reduceSub,Nat.reduceMul,Nat.reduceLeDiff,Nat.reduceLT,Nat.reduceEqDiff,Nat.reduceBEq,Nat.reduceBNe,Int.reduceNeg,Int.reduceToNat,ir29,deV,deT,ivV,fs65,deM,c1,c2]
    refine postF.mk' (fun _ => default) [some 0,some 1,some 2] ?_
    simp -implicitDefEqProofs only [push_cast,zz,BEq.rfl,ite_true,ite_false,List.append_nil,reduceCtorEq,Nat.reduceAdd,Nat.reduceSub,Nat.reduceMul,Nat.reduceLeDiff,Nat.reduceLT,Nat.reduceEqDiff,Nat.reduceBEq,Nat.reduceBNe,Int.reduceNeg,Int.reduceToNat,fs29,deV,deT,ivV,e1,e2,e3]
  | false =>
    obtain ⟨m,hm⟩:∃ m,midP low high (chP kind (rd st ctx)) = m:=⟨_,rfl⟩
    obtain ⟨bit,hbit⟩:∃ x,bitD ⟨kind,st,low,high,code,i,v,b,false⟩ ctx = x:=⟨_,rfl⟩
    have hb01:bit = 0∨bit = 1:=by rw [← hbit]; exact bitD_01 _ _
    have hbv:bit = if v≤m then 1 else 0:=by rw [← hbit,← hm]; rfl
    have hn:=nrm_part (bit:=bit) hiv h2 h3
    obtain ⟨r,hr⟩:∃ r,runD ⟨kind,st,low,high,code,i,v,b,false⟩ ctx = r:=⟨_,rfl⟩
    have hr':normD code 4 (lowP kind st low high ctx bit) (highP kind st low high ctx bit) i v = r:=by rw [← hr,← hbit]; rfl
    have hlo:(if bit = 1 then low else m + 1) = lowP kind st low high ctx bit:=by rw [← hm]; rfl
    have hhi:(if bit = 1 then m else high) = highP kind st low high ctx bit:=by rw [← hm]; rfl
    have hd0:(⟨kind,st,low,high,code,i,v,b,false⟩:DeS).ended = false:=rfl
    have hgE:gotE ⟨kind,st,low,high,code,i,v,b,false⟩ ctx = if 4 < beyP code r.2.2.1 then 6 else 0:=by
      unfold gotE
      rw [hd0,if_neg (by decide),hr]
    have main:∀ (l0 g0:Int) (M:Xf.Loc),nrm 4 l0 g0→normD code 4 l0 g0 i v = r→evS (spList [(65,ent65),(66,ent66),(67,ent67),(68,ent68),(69,ent69),(57,ent57)]) (spPList [])
        (retK [RV.tmp 4,RV.tmp 5] (postF fs29 ⟨L,LS,LC,⟨kind,st,low,high,code,i,v,b,false⟩,ctx⟩)) [Xf.Item.code (IR.loop b29_1),Xf.Item.blk 1,Xf.Item.code r29_2]
        (upS (List.replicate 93 none) [(0,.ptr 0 L 0 0 0),(1,.int .i64 ctx),(6,.int .i64 bit),(8,.ptr 18 M 0 0 0),(9,.int .i64 (rd st ctx))])
        ([some (.lent,L,.cells (ivV kind LS st.length l0 g0 (.sl 2 LC 1 0 code.length :: [.int .i64 i,.int .u64 v,.int .i64 b,.bool false,.bool true]))),some (.lent,LS,.ints .i64 (st.set ctx.toNat (nxP kind (rd st ctx) bit))),some (.ro,LC,.ints .u8 code),
          none,none,none,none,none,none,none,none,none,none,none,none,none,none,none,some (.mine,M,.cells (ivV kind LS st.length low high (.sl 2 LC 1 0 code.length :: [.int .i64 i,.int .u64 v,.int .i64 b,.bool false,.bool true])))]++List.replicate 19 none):=by
      intro l0 g0 M hn hr'
      obtain ⟨s0,hs0⟩:∃ s,rd st ctx = s:=⟨_,rfl⟩
      have hsl:(st.set ctx.toNat (nxP kind s0 bit)).length = st.length:=List.length_set
      have hback:(st.set ctx.toNat (nxP kind s0 bit)).set ctx.toNat s0 = st:=by
        rw [List.set_set,← hs0]
        exact set_self h2 h3
      have hS:gotS ⟨kind,st,low,high,code,i,v,b,false⟩ ctx = if gotE ⟨kind,st,low,high,code,i,v,b,false⟩ ctx = 0 then ⟨kind,st.set ctx.toNat (nxP kind s0 bit),r.1,r.2.1,code,r.2.2.1,r.2.2.2,beyP code r.2.2.1,false⟩ else ⟨kind,st,low,high,code,i,v,b,true⟩:=by
        unfold gotS
        rw [hr,hbit,← hs0]
      have hB:gotB ⟨kind,st,low,high,code,i,v,b,false⟩ ctx = if gotE ⟨kind,st,low,high,code,i,v,b,false⟩ ctx = 0 then bit else 0:=by
        unfold gotB
        rw [hbit]
      rw [hs0]
      obtain ⟨S,hSS⟩:∃ S,st.set ctx.toNat (nxP kind s0 bit) = S:=⟨_,rfl⟩
      rw [hSS] at hsl hback hS ⊢
      refine evS_loopU (A:=Nat × Int × Int × Int × Int) kp29_1 kl29_1 (fun y => []) (fun y => [(0,.lent,L,.cells (ivV kind LS st.length y.2.1 y.2.2.1 (.sl 2 LC 1 0 code.length :: [.int .i64 y.2.2.2.1,.int .u64 y.2.2.2.2,.int .i64 (beyP code y.2.2.2.1),.bool false,.bool true])))])
        (fun y => nrm y.1 y.2.1 y.2.2.1∧normD code y.1 y.2.1 y.2.2.1 y.2.2.2.1 y.2.2.2.2 = r∧0≤y.2.2.2.1∧y.2.2.2.1 + y.1≤code.length + 8∧0≤y.2.2.2.2∧y.2.2.2.2 < 4294967296) (fun y => y.1) (4,l0,g0,i,v) ⟨hn,hr',b3,by simp only; omega,b5,b6⟩ (Sub.pt ?_) ?_
      · simp -implicitDefEqProofs only [push_cast,zz,BEq.rfl,ite_true,ite_false,List.append_nil,reduceCtorEq,Nat.reduceAdd,Nat.reduceSub,Nat.reduceMul,Nat.reduceLeDiff,Nat.reduceLT,Nat.reduceEqDiff,Nat.reduceBEq,Nat.reduceBNe,Int.reduceNeg,Int.reduceToNat,ivV,b7]
      intro ⟨n,l,g,i',v'⟩ ⟨(hn:nrm n l g),(he:normD code n l g i' v' = r),(hi0:0≤i'),(hi1:i' + n≤code.length + 8),(hv0:0≤v'),(hv1:v' < 4294967296)⟩ K hK
      obtain ⟨n0,n1,n2,n3,n4,n5⟩:=id hn
      by_cases e:l / 16777216 = g / 16777216
      · cases n with
        | zero => exact absurd e (nrm_0 hn)
        | succ n =>
          have hs:=nrm_step hn e
          rw [normD,if_pos e] at he
          have hb:0≤l∧l < 4294967296∧0≤g∧g < 4294967296:=by omega
          have hin':inOk code i' v' (beyP code i'):=⟨b1,b2,hi0,by omega,hv0,hv1,rfl⟩
          have hsv:=shiftV_bd (v:=v') b2 hi0
          simp -implicitDefEqProofs only [push_cast,zz,BEq.rfl,ite_true,ite_false,List.append_nil,reduceCtorEq,Nat.reduceAdd,Nat.reduceSub,Nat.reduceMul,Nat.reduceLeDiff,Nat.reduceLT,Nat.reduceEqDiff,Nat.reduceBEq,Nat.reduceBNe,Int.reduceNeg,Int.reduceToNat,b29_1,ivV,deV,deT,fs68,fs69,fs57,e,hb,hsl,hin']
          repeat (refine And.intro (by first | omega | trivial | (intros; omega)) ?_)
          refine hK (n,l % 16777216 * 256,g % 16777216 * 256 + 255,i' + 1,shiftV code i' v') ⟨hs,he,by simp only; omega,by simp only; omega,hsv⟩ (Nat.lt_succ_self n) _ _ (Sub.pt ?_)
          simp -implicitDefEqProofs only [push_cast,zz,BEq.rfl,ite_true,ite_false,List.append_nil,reduceCtorEq,Nat.reduceAdd,Nat.reduceSub,Nat.reduceMul,Nat.reduceLeDiff,Nat.reduceLT,Nat.reduceEqDiff,Nat.reduceBEq,Nat.reduceBNe,Int.reduceNeg,Int.reduceToNat,ivV]
      · rw [normD_no code n e] at he
        subst he
        simp only at hgE hS hB
        clear hK
        by_cases hbe:4 < beyP code i'
        · rw [if_pos hbe] at hgE
          rw [hgE,if_neg (by decide)] at hS hB
          simp -implicitDefEqProofs only [push_cast,zz,BEq.rfl,ite_true,ite_false,List.append_nil,reduceCtorEq,Nat.reduceAdd,Nat.reduceSub,Nat.reduceMul,Nat.reduceLeDiff,Nat.reduceLT,Nat.reduceEqDiff,Nat.reduceBEq,Nat.reduceBNe,Int.reduceNeg,Int.reduceToNat,b29_1,r29_2,ivV,fs68,e,hsl,hbe,hback]
          repeat (refine And.intro (by first | omega | trivial | (intros; omega)) ?_)
          refine postF.mk' (fun _ => default) [some 0,some 1,some 2] ?_
          simp -implicitDefEqProofs only [push_cast,zz,BEq.rfl,ite_true,ite_false,List.append_nil,reduceCtorEq,Nat.reduceAdd,Nat.reduceSub,Nat.reduceMul,Nat.reduceLeDiff,Nat.reduceLT,Nat.reduceEqDiff,Nat.reduceBEq,Nat.reduceBNe,Int.reduceNeg,Int.reduceToNat,fs29,deV,deT,ivV,hgE,hS,hB]
        · rw [if_neg hbe] at hgE
          rw [hgE,if_pos rfl] at hS hB
          simp -implicitDefEqProofs only [push_cast,zz,BEq.rfl,ite_true,ite_false,List.append_nil,reduceCtorEq,Nat.reduceAdd,Nat.reduceSub,Nat.reduceMul,Nat.reduceLeDiff,Nat.reduceLT,Nat.reduceEqDiff,Nat.reduceBEq,Nat.reduceBNe,Int.reduceNeg,Int.reduceToNat,b29_1,r29_2,ivV,fs68,e,hsl,hbe]
          repeat (refine And.intro (by first | omega | trivial | (intros; omega)) ?_)
          refine postF.mk' (fun _ => default) [some 0,some 1,some 2] ?_
          simp -implicitDefEqProofs only [push_cast,zz,BEq.rfl,ite_true,ite_false,List.append_nil,reduceCtorEq,Nat.reduceAdd,Nat.reduceSub,Nat.reduceMul,Nat.reduceLeDiff,Nat.reduceLT,Nat.reduceEqDiff,Nat.reduceBEq,Nat.reduceBNe,Int.reduceNeg,Int.reduceToNat,fs29,deV,deT,ivV,hgE,hS,hB,hsl]
    by_cases hv:v≤m
    · rw [if_pos hv] at hbv
      subst hbv
      rw [if_pos rfl] at hlo hhi
      simp -implicitDefEqProofs only [push_cast,zz,BEq.rfl,ite_true,ite_false,List.append_nil,reduceCtorEq,Nat.reduceAdd,Nat.reduceSub,Nat.reduceMul,Nat.reduceLeDiff,Nat.reduceLT,Nat.reduceEqDiff,Nat.reduceBEq,Nat.reduceBNe,Int.reduceNeg,Int.reduceToNat,ir29,deV,deT,ivV,fs65,fs66,fs67,deM,IvA.ok,hok,c1,c2,h2,h3,hm,hv]
      intro X
      rw [← hlo,← hhi] at hr' hn
      exact main _ _ _ hn hr'
    · rw [if_neg hv] at hbv
      subst hbv
      rw [if_neg (by decide)] at hlo hhi
      simp -implicitDefEqProofs only [push_cast,zz,BEq.rfl,ite_true,ite_false,List.append_nil,reduceCtorEq,Nat.reduceAdd,Nat.reduceSub,Nat.reduceMul,Nat.reduceLeDiff,Nat.reduceLT,Nat.reduceEqDiff,Nat.reduceBEq,Nat.reduceBNe,Int.reduceNeg,Int.reduceToNat,ir29,deV,deT,ivV,fs65,fs66,fs67,deM,IvA.ok,hok,c1,c2,h2,h3,hm,hv]
      intro X
      rw [← hlo,← hhi] at hr' hn
      exact main _ _ _ hn hr'
def ent29:Entry:=spOf fs29 invDe
theorem e29:EntryOk Try.prog 29 ent29:=entry_of ok29 invDe
@[push_cast] theorem ent29_app (us:List SV) (look:Look) (x:Nat→Xf.Loc) (k:Nat):ent29 us look x k = spOf fs29 invDe us look x k:=rfl
def ir53:IR :=
  .seq (.reg false [⟨some 4,none,⟨[],[]⟩,.alloc 10 [.int .i64 0,nilSV]⟩,
    ⟨some 5,none,⟨[],[]⟩,.mov (.k (.int .i64 0))⟩] [5] []) (.seq (.seq (.reg false [⟨some 6,none,⟨[],[]⟩,.mov (.t 0)⟩,
    ⟨some 7,none,⟨[],[]⟩,.bin 0 .neq (.t 6) (.k (.int .i64 0))⟩,
    ⟨some 8,none,⟨[],[]⟩,.mov (.t 7)⟩,
    ⟨some 9,some (8,true),⟨[],[]⟩,.mov (.t 0)⟩,
    ⟨some 10,some (8,true),⟨[],[]⟩,.bin 0 .neq (.t 9) (.k (.int .i64 1))⟩,
    ⟨some 11,none,⟨[],[]⟩,.pick (.t 8) (.t 10) (.k (.bool false))⟩,
    ⟨some 12,none,⟨[],[]⟩,.mov (.t 11)⟩,
    ⟨some 13,some (12,false),⟨[],[]⟩,.mov (.t 1)⟩,
    ⟨some 14,some (12,false),⟨[],[]⟩,.bin 0 .lss (.t 13) (.k (.int .i64 0))⟩,
    ⟨some 15,none,⟨[],[]⟩,.pick (.t 12) (.k (.bool true)) (.t 14)⟩,
    ⟨some 16,none,⟨[],[]⟩,.mov (.t 15)⟩,
    ⟨some 17,some (16,false),⟨[],[]⟩,.mov (.t 1)⟩,
    ⟨some 18,some (16,false),⟨[],[]⟩,.bin 0 .gtr (.t 17) (.k (.int .i64 8192))⟩,
    ⟨some 19,none,⟨[],[]⟩,.pick (.t 16) (.k (.bool true)) (.t 18)⟩] [6,7,8,9,10,11,12,13,14,15,16,17,18] []) (.cond (.t 19) (.seq (.reg false [⟨some 20,none,⟨[],[]⟩,.build [.int .i64 0,nilSV] []⟩,
    ⟨none,none,⟨[],[]⟩,.sto false 2 .i64 (.t 4) (.t 20)⟩,
    ⟨some 5,none,⟨[],[]⟩,.mov (.k (.int .i64 2))⟩] [0,1,19,20] []) (.ret)) (.skip))) (.seq (.reg false [⟨some 21,none,⟨[],[]⟩,.mov (.t 0)⟩,
    ⟨some 22,none,⟨[],[]⟩,.mov (.t 1)⟩,
    ⟨some 23,none,⟨[],[]⟩,.mks 11 (.int .i64 0) 8 (.t 22) (.t 22)⟩,
    ⟨some 24,none,⟨[],[]⟩,.build [.int .i64 0,nilSV] [(0,1,.t 21),(1,1,.t 23)]⟩,
    ⟨none,none,⟨[],[]⟩,.sto false 2 .i64 (.t 4) (.t 24)⟩,
    ⟨some 5,none,⟨[],[]⟩,.mov (.k (.int .i64 0))⟩] [0,1,19,21,22,23,24] []) (.ret)))
set_option maxRecDepth 4000 in
theorem comp53:(Try.f53.body.bind fun c => compC tab isP chkAll ir53 c) = some ir53:=by kernel_rfl
def b83_1:IR :=
  .seq (.reg false [⟨some 9,none,⟨[],[]⟩,.bin 0 .lss (.t 8) (.t 7)⟩] [] []) (.seq (.cond (.t 9) (.skip) (.exit 0)) (.seq (.block 1 (.seq (.reg false [⟨some 10,none,⟨[],[]⟩,.mov (.t 8)⟩,
    ⟨some 5,none,⟨[],[]⟩,.mov (.t 10)⟩] [9,10] []) (.seq (.reg true [⟨some 11,none,⟨[],[]⟩,.fld (.t 3) 1⟩,
    ⟨some 12,none,⟨[],[]⟩,.ld false none 0 0 (.t 11)⟩,
    ⟨some 13,none,⟨[],[]⟩,.bin 0 .neq (.t 12) (.k (.int .i64 0))⟩,
    ⟨some 14,none,⟨[],[]⟩,.mov (.t 13)⟩,
    ⟨some 15,some (14,true),⟨[],[]⟩,.mov (.t 0)⟩,
    ⟨some 16,some (14,true),⟨[],[]⟩,.mov (.t 5)⟩,
    ⟨some 17,some (14,true),⟨[],[]⟩,.idxS (.t 15) (.t 16) 9⟩,
    ⟨some 18,some (14,true),⟨[],[]⟩,.fld (.t 17) 0⟩,
    ⟨some 19,some (14,true),⟨[],[]⟩,.fld (.t 18) 1⟩,
    ⟨some 20,some (14,true),⟨[],[]⟩,.ld true none 0 0 (.t 19)⟩,
    ⟨some 21,some (14,true),⟨[],[]⟩,.fld (.t 3) 1⟩,
    ⟨some 22,some (14,true),⟨[],[]⟩,.ld false none 0 0 (.t 21)⟩,
    ⟨some 23,some (14,true),⟨[],[]⟩,.bin 0 .eql (.t 20) (.t 22)⟩,
    ⟨some 24,none,⟨[],[]⟩,.pick (.t 14) (.t 23) (.k (.bool false))⟩,
    ⟨some 25,none,⟨[],[]⟩,.mov (.t 24)⟩,
    ⟨some 26,some (25,true),⟨[],[]⟩,.mov (.t 0)⟩,
    ⟨some 27,some (25,true),⟨[],[]⟩,.mov (.t 5)⟩,
    ⟨some 28,some (25,true),⟨[],[]⟩,.idxS (.t 26) (.t 27) 9⟩,
    ⟨some 29,some (25,true),⟨[],[]⟩,.fld (.t 28) 0⟩,
    ⟨some 30,some (25,true),⟨[],[]⟩,.fld (.t 29) 0⟩,
    ⟨some 31,some (25,true),⟨[],[]⟩,.ld true none 0 0 (.t 30)⟩,
    ⟨some 32,some (25,true),⟨[],[]⟩,.fld (.t 3) 0⟩,
    ⟨some 33,some (25,true),⟨[],[]⟩,.ld false none 0 0 (.t 32)⟩,
    ⟨some 34,some (25,true),⟨[],[]⟩,.bin 0 .add (.t 33) (.k (.int .i64 1))⟩,
    ⟨some 35,some (25,true),⟨[],[]⟩,.bin 0 .eql (.t 31) (.t 34)⟩,
    ⟨some 36,none,⟨[],[]⟩,.pick (.t 25) (.t 35) (.k (.bool false))⟩] [11,12,13,14,15,16,17,18,19,20,21,22,23,24,25,26,27,28,29,30,31,32,33,34,35] []) (.cond (.t 36) (.seq (.reg false [⟨some 37,none,⟨[],[]⟩,.mov (.t 0)⟩,
    ⟨some 38,none,⟨[],[]⟩,.mov (.t 5)⟩,
    ⟨some 39,none,⟨[],[]⟩,.idxS (.t 37) (.t 38) 9⟩,
    ⟨some 4,none,⟨[],[]⟩,.mov (.t 39)⟩] [0,3,5,7,8,36,37,38,39] []) (.ret)) (.skip))))) (.reg false [⟨some 40,none,⟨[],[]⟩,.bin 0 .add (.t 8) (.k (.int .i64 1))⟩,
    ⟨some 8,none,⟨[],[]⟩,.mov (.t 40)⟩] [4,5,36,40] [])))
def r83_2:IR :=
  .seq (.reg false [⟨some 4,none,⟨[],[]⟩,.mov (.k nilP)⟩] [0,3,7,8] []) (.ret)
def ir83:IR :=
  .seq (.reg false [⟨some 3,none,⟨[],[]⟩,.box 10 (.t 1)⟩,
    ⟨some 4,none,⟨[],[]⟩,.mov (.k nilP)⟩] [1,4] []) (.seq (.seq (.reg false [⟨some 6,none,⟨[],[]⟩,.mov (.t 0)⟩,
    ⟨some 7,none,⟨[],[]⟩,.len (.t 6)⟩,
    ⟨some 8,none,⟨[],[]⟩,.mov (.k (.int .i64 0))⟩] [6] []) (.block 0 (.loop b83_1))) (r83_2))
def kp83_1:List Nat:=[0,3,7,8]
def kl83_1:List Nat:=[]
attribute [push_cast] kp83_1 kl83_1
set_option maxRecDepth 4000 in
theorem comp83:(Try.f83.body.bind fun c => compC tab isP chkAll ir83 c) = some ir83:=by kernel_rfl
def fs53:FS where
  A:=BnA
  args:=fun a => [.int .i64 a.w,.int .i64 a.h]
  mem:=fun _ => []
  pre:=fun a => (a.w = 0∨a.w = 1)∧0≤a.h∧a.h≤8192
  res:=fun a x => .tup [.agg [.int .i64 a.w,.sl 0 (x 0) 1 0 a.h],.int .i64 0]
  out:=fun _ _ => []
  new:=fun a x => [(x 0,.ints .i64 (List.replicate a.h.toNat 0))]
def inv53:List SV→Look→Option (BnA × List Nat)
  | [.int .i64 w,.int .i64 h],look => some (⟨w,h,0⟩,[])
  | _,_ => none
attribute [push_cast] inv53
theorem ok53:FSOk Try.prog 53 fs53:=by
  refine ⟨⟨_,Try.func53,by kernel_rfl,by kernel_rfl⟩,fun a => ⟨by simp [fs53,push_cast,noMine,argOwn,Chunk.frArg],by simp [fs53,push_cast,outOk,Chunk.ext],fun x => .inl (by simp [fs53,push_cast,frNew,frOut,Chunk.fr])⟩,fun a hp => ?_⟩
  obtain ⟨w,h,n⟩:=a
  obtain ⟨h1,h2,h3⟩:(w = 0∨w = 1)∧0≤h∧h≤8192:=hp
  have c1:¬ (¬ w = 0∧¬ w = 1):=by omega
  have c2:¬ h < 0:=by omega
  have c3:¬ 8192 < h:=by omega
  change Tri Try.prog 53 [.int .i64 w,.int .i64 h] [] (postF fs53 ⟨w,h,n⟩)
  refine tri_evS (hyp (l:=[]) (lp:=[]) trivial trivial) Try.func53 comp53 (rs:=[.cell 4 (some 2),.tmp 5]) (by rfl) Try.ntmps53 12 ?_
  simp -implicitDefEqProofs only [push_cast,zz,BEq.rfl,ite_true,ite_false,List.append_nil,reduceCtorEq,Nat.reduceAdd,Nat.reduceSub,Nat.reduceMul,Nat.reduceLeDiff,Nat.reduceLT,Nat.reduceEqDiff,Nat.reduceBEq,Nat.reduceBNe,Int.reduceNeg,Int.reduceToNat,ir53,c1,c2,c3]
  intro X X1
  repeat (refine And.intro (by first | omega | trivial | (intros; omega)) ?_)
  refine postF.mk' (fun _ => X1 2 11) [some 11] ?_
  simp -implicitDefEqProofs only [push_cast,zz,BEq.rfl,ite_true,ite_false,List.append_nil,reduceCtorEq,Nat.reduceAdd,Nat.reduceSub,Nat.reduceMul,Nat.reduceLeDiff,Nat.reduceLT,Nat.reduceEqDiff,Nat.reduceBEq,Nat.reduceBNe,Int.reduceNeg,Int.reduceToNat,fs53]
def ent53:Entry:=spOf fs53 inv53
theorem e53:EntryOk Try.prog 53 ent53:=entry_of ok53 inv53
@[push_cast] theorem ent53_app (us:List SV) (look:Look) (x:Nat→Xf.Loc) (k:Nat):ent53 us look x k = spOf fs53 inv53 us look x k:=rfl
structure Pb where
  places:List Int
  w:Int
  parent:Int
  deriving Inhabited
structure Gr where
  band:Bd
  frm:Nat
  deriving Inhabited
def colsB (b:Bd):Int:=(b.w + 4 - 1) / 4
def rowsB (b:Bd):Int:=(b.h + 4 - 1) / 4
def Gr.rc (g:Gr):List RC:=[.int .i64 g.band.lv,.int .i64 g.band.kd,.int .i64 g.band.x,.int .i64 g.band.y,.int .i64 g.band.w,.int .i64 g.band.h,.int .i64 g.frm,.int .i64 (colsB g.band),.int .i64 (rowsB g.band)]
def rdGr (l:List Gr) (i:Nat):Gr:=l.getD i default
theorem recAt_Gr {l:List Gr} {i:Nat} (h:i < l.length) (z:List RC):recAt (i:Int) z (l.map Gr.rc) = (rdGr l i).rc:=by
  simp [recAt,rdGr,h]
theorem rdGr_nat {l:List Gr} {i:Nat} (h:i < l.length):rdGr l i = l[i]:=by simp [rdGr,h]
def getGr:List (List RC)→Option (List Gr)
  | [] => some []
  | [.int .i64 lv,.int .i64 kd,.int .i64 x,.int .i64 y,.int .i64 w,.int .i64 h,.int .i64 f,_,_] :: l => match getGr l with | some r => some (⟨⟨lv,kd,x,y,w,h⟩,f.toNat⟩ :: r) | none => none
  | _ => none
theorem getGr_map:∀ l:List Gr,getGr (l.map Gr.rc) = some l
  | [] => rfl
  | g :: l => by
    simp only [List.map_cons,Gr.rc,getGr]
    have:=getGr_map l
    rw [this]
    simp
def hitG (g:Gr) (b:Bd):Prop:=b.kd ≠ 0∧g.band.kd = b.kd∧g.band.lv = b.lv + 1
instance hitG_dec (g:Gr) (b:Bd):Decidable (hitG g b):=by unfold hitG; infer_instance
def findG (gs:List Gr) (b:Bd):Option Nat:=gs.findIdx? fun g => decide (hitG g b)
theorem findG_some {gs:List Gr} {b:Bd} {i:Nat} (hi:i < gs.length) (h:hitG (rdGr gs i) b) (hj:∀ j,j < i→¬ hitG (rdGr gs j) b):findG gs b = some i:=by
  unfold findG
  rw [List.findIdx?_eq_some_iff_getElem]
  refine ⟨hi,by rw [← rdGr_nat hi]; simpa using h,fun j hji => ?_⟩
  have:=hj j hji
  rw [rdGr_nat (by omega)] at this
  simpa using this
theorem findG_none {gs:List Gr} {b:Bd} (hj:∀ j,j < gs.length→¬ hitG (rdGr gs j) b):findG gs b = none:=by
  unfold findG
  rw [List.findIdx?_eq_none_iff]
  intro g hg
  obtain ⟨j,hjl,rfl⟩:=List.mem_iff_getElem.1 hg
  have:=hj j hjl
  rw [rdGr_nat hjl] at this
  simpa using this
theorem findG_lt {gs:List Gr} {b:Bd} {i:Nat} (h:findG gs b = some i):i < gs.length:=by
  unfold findG at h
  rw [List.findIdx?_eq_some_iff_getElem] at h
  exact h.1
structure PaA where
  L:Xf.Loc
  s:Nat
  gs:List Gr
  b:Bd
def ptrG (c:Nat) (L:Xf.Loc):Option Nat→SV
  | none => .val (.pointer none)
  | some i => .ptr c L (i:Nat) 9 0
def fs83:FS where
  A:=PaA
  args:=fun a => [.sl 0 a.L a.s 0 a.gs.length,a.b.sv]
  mem:=fun a => [some (.ro,a.L,.recs 9 false [] (a.gs.map Gr.rc))]
  pre:=fun a => a.gs.length≤1000∧(0 < a.gs.length→a.s = 9)∧-1000≤a.b.lv∧a.b.lv≤1000
  res:=fun a _ => ptrG 0 a.L (findG a.gs a.b)
  out:=fun _ _ => []
  new:=fun _ _ => []
def rowG (look:Look) (d:Nat):Option (Xf.Loc × List Gr) :=
  bif d == 4096 then some (nilLoc,[]) else match rowR (look d) with
    | some (L,9,_,r) => match getGr r with | some l => some (L,l) | none => none
    | _ => none
def inv83:List SV→Look→Option (PaA × List Nat)
  | [.sl d _ s 0 _,.agg [.int .i64 lv,.int .i64 kd,.int .i64 x,.int .i64 y,.int .i64 w,.int .i64 h]],look => match rowG look d with
    | some (L,gs) => some (⟨L,s,gs,⟨lv,kd,x,y,w,h⟩⟩,[d])
    | none => none
  | _,_ => none
attribute [push_cast] rowG inv83
theorem ok83:FSOk Try.prog 83 fs83:=by
  refine ⟨⟨_,Try.func83,by kernel_rfl,by kernel_rfl⟩,fun a => ⟨by simp [fs83,push_cast,noMine,argOwn,Chunk.frArg],by simp [fs83,push_cast,outOk,Chunk.ext],fun x => .inl (by simp [fs83,push_cast,frNew,frOut,Chunk.fr])⟩,fun a hp => ?_⟩
  obtain ⟨L,s,gs,b⟩:=a
  obtain ⟨h1,h2,h3,h4⟩:gs.length≤1000∧(0 < gs.length→s = 9)∧-1000≤b.lv∧b.lv≤1000:=hp
  change Tri Try.prog 83 [.sl 0 L s 0 gs.length,b.sv] [some (.ro,L,.recs 9 false [] (gs.map Gr.rc))] (postF fs83 ⟨L,s,gs,b⟩)
  have hf:=@findG_some gs b
  have hn:=@findG_none gs b
  have hhit:∀ g:Gr,hitG g b = (¬ b.kd = 0∧g.band.kd = b.kd∧g.band.lv = b.lv + 1):=fun g => rfl
  obtain ⟨F,hF⟩:∃ F,findG gs b = F:=⟨_,rfl⟩
  simp only [hF,hhit] at hf hn
  obtain ⟨lv,kd,x,y,w,h⟩:=b
  simp only at h3 h4 hf hn
  refine tri_evS (hyp (l:=[]) (lp:=[]) trivial trivial) Try.func83 comp83 (rs:=[.tmp 4]) (by rfl) Try.ntmps83 11 ?_
  simp -implicitDefEqProofs only [push_cast,zz,BEq.rfl,ite_true,ite_false,List.append_nil,reduceCtorEq,Nat.reduceAdd,Nat.reduceSub,Nat.reduceMul,Nat.reduceLeDiff,Nat.reduceLT,Nat.reduceEqDiff,Nat.reduceBEq,Nat.reduceBNe,Int.reduceNeg,Int.reduceToNat,ir83]
  intro X
  refine evS_loopU (A:=Nat) kp83_1 kl83_1 (fun i => [(8,.int .i64 i)]) (fun i => []) (fun i => i≤gs.length∧∀ j,j < i→¬ (¬ kd = 0∧(rdGr gs j).band.kd = kd∧(rdGr gs j).band.lv = lv + 1)) (fun i => gs.length - i) 0 ⟨Nat.zero_le _,fun j hj => by omega⟩ (Sub.pt ?_) ?_
  · simp -implicitDefEqProofs only [push_cast,zz,BEq.rfl,ite_true,ite_false,List.append_nil,reduceCtorEq,Nat.reduceAdd,Nat.reduceSub,Nat.reduceMul,Nat.reduceLeDiff,Nat.reduceLT,Nat.reduceEqDiff,Nat.reduceBEq,Nat.reduceBNe,Int.reduceNeg,Int.reduceToNat]
  intro i ⟨(hi:i≤gs.length),(hjj:∀ j,j < i→¬ (¬ kd = 0∧(rdGr gs j).band.kd = kd∧(rdGr gs j).band.lv = lv + 1))⟩ K hK
  by_cases hi':i < gs.length
  · obtain rfl:=h2 (by omega)
    have r1:=recAt_Gr hi' []
    have hii:(i:Int) < gs.length:=by omega
    have hlm:(gs.map Gr.rc).length = gs.length:=List.length_map _
    have hfi:=hf hi'
    have hK2:=fun (hno:¬ (¬ kd = 0∧(rdGr gs i).band.kd = kd∧(rdGr gs i).band.lv = lv + 1)) => hK (i + 1) ⟨show i + 1≤gs.length by omega,fun j hj => by
      by_cases e:j = i
      · rw [e]; exact hno
      · exact hjj j (by omega)⟩ (show gs.length - (i + 1) < gs.length - i by omega)
    clear hK
    obtain ⟨⟨⟨lv',kd',x',y',w',h'⟩,fr⟩,hg⟩:∃ g,rdGr gs i = g:=⟨_,rfl⟩
    rw [hg] at r1 hfi hK2
    simp only at hfi hK2
    by_cases hk0:kd = 0
    · simp -implicitDefEqProofs only [push_cast,zz,BEq.rfl,ite_true,ite_false,List.append_nil,reduceCtorEq,Nat.reduceAdd,Nat.reduceSub,Nat.reduceMul,Nat.reduceLeDiff,Nat.reduceLT,Nat.reduceEqDiff,Nat.reduceBEq,Nat.reduceBNe,Int.reduceNeg,Int.reduceToNat,b83_1,r1,Gr.rc,hii,hlm,hk0]
      repeat (refine And.intro (by first | omega | trivial | (intros; omega)) ?_)
      refine hK2 (fun h => h.1 hk0) _ _ (Sub.pt ?_)
      simp -implicitDefEqProofs only [push_cast,zz,BEq.rfl,ite_true,ite_false,List.append_nil,reduceCtorEq,Nat.reduceAdd,Nat.reduceSub,Nat.reduceMul,Nat.reduceLeDiff,Nat.reduceLT,Nat.reduceEqDiff,Nat.reduceBEq,Nat.reduceBNe,Int.reduceNeg,Int.reduceToNat,hk0]
    by_cases hk1:kd' = kd
    · by_cases hk2:lv' = lv + 1
      · have hfi:=hfi ⟨hk0,hk1,hk2⟩ hjj
        simp -implicitDefEqProofs only [push_cast,zz,BEq.rfl,ite_true,ite_false,List.append_nil,reduceCtorEq,Nat.reduceAdd,Nat.reduceSub,Nat.reduceMul,Nat.reduceLeDiff,Nat.reduceLT,Nat.reduceEqDiff,Nat.reduceBEq,Nat.reduceBNe,Int.reduceNeg,Int.reduceToNat,b83_1,r1,Gr.rc,hii,hlm,hk0,hk1,hk2]
        repeat (refine And.intro (by first | omega | trivial | (intros; omega)) ?_)
        refine postF.mk' (fun _ => default) [some 0] ?_
        simp -implicitDefEqProofs only [push_cast,zz,BEq.rfl,ite_true,ite_false,List.append_nil,reduceCtorEq,Nat.reduceAdd,Nat.reduceSub,Nat.reduceMul,Nat.reduceLeDiff,Nat.reduceLT,Nat.reduceEqDiff,Nat.reduceBEq,Nat.reduceBNe,Int.reduceNeg,Int.reduceToNat,fs83,hF,hfi,ptrG]
      · simp -implicitDefEqProofs only [push_cast,zz,BEq.rfl,ite_true,ite_false,List.append_nil,reduceCtorEq,Nat.reduceAdd,Nat.reduceSub,Nat.reduceMul,Nat.reduceLeDiff,Nat.reduceLT,Nat.reduceEqDiff,Nat.reduceBEq,Nat.reduceBNe,Int.reduceNeg,Int.reduceToNat,b83_1,r1,Gr.rc,hii,hlm,hk0,hk1,hk2]
        repeat (refine And.intro (by first | omega | trivial | (intros; omega)) ?_)
        refine hK2 (fun h => hk2 h.2.2) _ _ (Sub.pt ?_)
        simp -implicitDefEqProofs only [push_cast,zz,BEq.rfl,ite_true,ite_false,List.append_nil,reduceCtorEq,Nat.reduceAdd,Nat.reduceSub,Nat.reduceMul,Nat.reduceLeDiff,Nat.reduceLT,Nat.reduceEqDiff,Nat.reduceBEq,Nat.reduceBNe,Int.reduceNeg,Int.reduceToNat]
    · simp -implicitDefEqProofs only [push_cast,zz,BEq.rfl,ite_true,ite_false,List.append_nil,reduceCtorEq,Nat.reduceAdd,Nat.reduceSub,Nat.reduceMul,Nat.reduceLeDiff,Nat.reduceLT,Nat.reduceEqDiff,Nat.reduceBEq,Nat.reduceBNe,Int.reduceNeg,Int.reduceToNat,b83_1,r1,Gr.rc,hii,hlm,hk0,hk1]
      repeat (refine And.intro (by first | omega | trivial | (intros; omega)) ?_)
      refine hK2 (fun h => hk1 h.2.1) _ _ (Sub.pt ?_)
      simp -implicitDefEqProofs only [push_cast,zz,BEq.rfl,ite_true,ite_false,List.append_nil,reduceCtorEq,Nat.reduceAdd,Nat.reduceSub,Nat.reduceMul,Nat.reduceLeDiff,Nat.reduceLT,Nat.reduceEqDiff,Nat.reduceBEq,Nat.reduceBNe,Int.reduceNeg,Int.reduceToNat]
  · obtain rfl:i = gs.length:=by omega
    clear hK
    have hn:=hn hjj
    simp -implicitDefEqProofs only [push_cast,zz,BEq.rfl,ite_true,ite_false,List.append_nil,reduceCtorEq,Nat.reduceAdd,Nat.reduceSub,Nat.reduceMul,Nat.reduceLeDiff,Nat.reduceLT,Nat.reduceEqDiff,Nat.reduceBEq,Nat.reduceBNe,Int.reduceNeg,Int.reduceToNat,b83_1,r83_2,Int.lt_irrefl]
    refine postF.mk' (fun _ => default) [some 0] ?_
    simp -implicitDefEqProofs only [push_cast,zz,BEq.rfl,ite_true,ite_false,List.append_nil,reduceCtorEq,Nat.reduceAdd,Nat.reduceSub,Nat.reduceMul,Nat.reduceLeDiff,Nat.reduceLT,Nat.reduceEqDiff,Nat.reduceBEq,Nat.reduceBNe,Int.reduceNeg,Int.reduceToNat,fs83,hF,hn,ptrG]
def ent83:Entry:=spOf fs83 inv83
theorem e83:EntryOk Try.prog 83 ent83:=entry_of ok83 inv83
@[push_cast] theorem ent83_app (us:List SV) (look:Look) (x:Nat→Xf.Loc) (k:Nat):ent83 us look x k = spOf fs83 inv83 us look x k:=rfl
def b48_5:IR :=
  .seq (.seq (.reg false [⟨some 81,none,⟨[],[]⟩,.mov (.t 19)⟩,
    ⟨some 82,none,⟨[],[]⟩,.mov (.t 16)⟩,
    ⟨some 83,none,⟨[],[]⟩,.bin 0 .mul (.t 82) (.k (.int .i64 4))⟩,
    ⟨some 84,none,⟨[],[]⟩,.fld (.t 17) 1⟩,
    ⟨some 85,none,⟨[],[]⟩,.ld false none 0 0 (.t 84)⟩,
    ⟨some 86,none,⟨[],[]⟩,.bin 0 .add (.t 83) (.t 85)⟩,
    ⟨some 87,none,⟨[],[]⟩,.bin 0 .lss (.t 81) (.t 86)⟩] [81,82,83,84,85,86] []) (.cond (.t 87) (.skip) (.exit 8))) (.seq (.block 9 (.reg false [⟨some 90,none,⟨[],[]⟩,.fld (.t 17) 0⟩,
    ⟨some 91,none,⟨[],[]⟩,.ld false none 0 0 (.t 90)⟩,
    ⟨some 92,none,⟨[],[]⟩,.fld (.t 12) 3⟩,
    ⟨some 93,none,⟨[],[]⟩,.ld false none 0 0 (.t 92)⟩,
    ⟨some 94,none,⟨[],[]⟩,.mov (.t 18)⟩,
    ⟨some 95,none,⟨[],[]⟩,.bin 0 .add (.t 93) (.t 94)⟩,
    ⟨some 96,none,⟨[],[]⟩,.mov (.t 0)⟩,
    ⟨some 97,none,⟨[],[]⟩,.bin 0 .mul (.t 95) (.t 96)⟩,
    ⟨some 98,none,⟨[],[]⟩,.fld (.t 12) 2⟩,
    ⟨some 99,none,⟨[],[]⟩,.ld false none 0 0 (.t 98)⟩,
    ⟨some 100,none,⟨[],[]⟩,.bin 0 .add (.t 97) (.t 99)⟩,
    ⟨some 101,none,⟨[],[]⟩,.mov (.t 19)⟩,
    ⟨some 102,none,⟨[],[]⟩,.bin 0 .add (.t 100) (.t 101)⟩,
    ⟨some 103,none,⟨[],[]⟩,.bslice 21 [.t 102]⟩,
    ⟨some 104,none,⟨[],[]⟩,.app 22 1 8 (.t 91) (.t 103)⟩,
    ⟨some 105,none,⟨[],[]⟩,.fld (.t 17) 0⟩,
    ⟨none,none,⟨[],[]⟩,.sto false 1 .i64 (.t 105) (.t 104)⟩] [87,90,91,92,93,94,95,96,97,98,99,100,101,102,103,104,105] [])) (.reg false [⟨some 88,none,⟨[],[]⟩,.mov (.t 19)⟩,
    ⟨some 89,none,⟨[],[]⟩,.bin 0 .add (.t 88) (.k (.int .i64 1))⟩,
    ⟨some 19,none,⟨[],[]⟩,.mov (.t 89)⟩] [88,89] []))
def r48_6:IR :=
  .reg false [⟨some 77,none,⟨[],[]⟩,.mov (.t 18)⟩,
    ⟨some 78,none,⟨[],[]⟩,.bin 0 .add (.t 77) (.k (.int .i64 1))⟩,
    ⟨some 18,none,⟨[],[]⟩,.mov (.t 78)⟩] [19,77,78] []
def b48_4:IR :=
  .seq (.seq (.reg false [⟨some 69,none,⟨[],[]⟩,.mov (.t 18)⟩,
    ⟨some 70,none,⟨[],[]⟩,.mov (.t 15)⟩,
    ⟨some 71,none,⟨[],[]⟩,.bin 0 .mul (.t 70) (.k (.int .i64 4))⟩,
    ⟨some 72,none,⟨[],[]⟩,.bin 0 .add (.t 71) (.k (.int .i64 4))⟩,
    ⟨some 73,none,⟨[],[]⟩,.fld (.t 12) 5⟩,
    ⟨some 74,none,⟨[],[]⟩,.ld false none 0 0 (.t 73)⟩,
    ⟨some 75,none,⟨[],[]⟩,.mn (.t 72) (.t 74)⟩,
    ⟨some 76,none,⟨[],[]⟩,.bin 0 .lss (.t 69) (.t 75)⟩] [69,70,71,72,73,74,75] []) (.cond (.t 76) (.skip) (.exit 6))) (.seq (.block 7 (.seq (.reg false [⟨some 79,none,⟨[],[]⟩,.mov (.t 16)⟩,
    ⟨some 80,none,⟨[],[]⟩,.bin 0 .mul (.t 79) (.k (.int .i64 4))⟩,
    ⟨some 19,none,⟨[],[]⟩,.mov (.t 80)⟩] [76,79,80] []) (.block 8 (.loop b48_5)))) (r48_6))
def r48_7:IR :=
  .seq (.seq (.reg false [⟨some 106,none,⟨[],[]⟩,.mov (.t 14)⟩,
    ⟨some 107,none,⟨[],[]⟩,.binN .neq (.t 106) (.k nilP)⟩] [18,106] []) (.cond (.t 107) (.reg true [⟨some 108,none,⟨[],[]⟩,.mov (.t 14)⟩,
    ⟨some 109,none,⟨[],[]⟩,.nilc (.t 108)⟩,
    ⟨some 110,none,⟨[],[]⟩,.fld (.t 109) 6⟩,
    ⟨some 111,none,⟨[],[]⟩,.ld true none 0 0 (.t 110)⟩,
    ⟨some 112,none,⟨[],[]⟩,.mov (.t 15)⟩,
    ⟨some 113,none,⟨[],[]⟩,.bin 0 .quo (.t 112) (.k (.int .i64 2))⟩,
    ⟨some 114,none,⟨[],[]⟩,.mov (.t 14)⟩,
    ⟨some 115,none,⟨[],[]⟩,.nilc (.t 114)⟩,
    ⟨some 116,none,⟨[],[]⟩,.fld (.t 115) 8⟩,
    ⟨some 117,none,⟨[],[]⟩,.ld true none 0 0 (.t 116)⟩,
    ⟨some 118,none,⟨[],[]⟩,.bin 0 .sub (.t 117) (.k (.int .i64 1))⟩,
    ⟨some 119,none,⟨[],[]⟩,.mn (.t 113) (.t 118)⟩,
    ⟨some 120,none,⟨[],[]⟩,.mov (.t 14)⟩,
    ⟨some 121,none,⟨[],[]⟩,.nilc (.t 120)⟩,
    ⟨some 122,none,⟨[],[]⟩,.fld (.t 121) 7⟩,
    ⟨some 123,none,⟨[],[]⟩,.ld true none 0 0 (.t 122)⟩,
    ⟨some 124,none,⟨[],[]⟩,.bin 0 .mul (.t 119) (.t 123)⟩,
    ⟨some 125,none,⟨[],[]⟩,.bin 0 .add (.t 111) (.t 124)⟩,
    ⟨some 126,none,⟨[],[]⟩,.mov (.t 16)⟩,
    ⟨some 127,none,⟨[],[]⟩,.bin 0 .quo (.t 126) (.k (.int .i64 2))⟩,
    ⟨some 128,none,⟨[],[]⟩,.mov (.t 14)⟩,
    ⟨some 129,none,⟨[],[]⟩,.nilc (.t 128)⟩,
    ⟨some 130,none,⟨[],[]⟩,.fld (.t 129) 7⟩,
    ⟨some 131,none,⟨[],[]⟩,.ld true none 0 0 (.t 130)⟩,
    ⟨some 132,none,⟨[],[]⟩,.bin 0 .sub (.t 131) (.k (.int .i64 1))⟩,
    ⟨some 133,none,⟨[],[]⟩,.mn (.t 127) (.t 132)⟩,
    ⟨some 134,none,⟨[],[]⟩,.bin 0 .add (.t 125) (.t 133)⟩,
    ⟨some 135,none,⟨[],[]⟩,.fld (.t 17) 2⟩,
    ⟨none,none,⟨[],[]⟩,.sto false 1 .i64 (.t 135) (.t 134)⟩] [16,107,108,109,110,111,112,113,114,115,116,117,118,119,120,121,122,123,124,125,126,127,128,129,130,131,132,133,134,135] []) (.skip))) (.reg false [⟨some 136,none,⟨[],[]⟩,.mov (.t 9)⟩,
    ⟨some 137,none,⟨[],[]⟩,.ld false (some 4) 0 0 (.t 17)⟩,
    ⟨some 138,none,⟨[],[]⟩,.brecs 23 4 .i64 [.t 137]⟩,
    ⟨some 139,none,⟨[],[]⟩,.app 24 4 48 (.t 136) (.t 138)⟩,
    ⟨some 9,none,⟨[],[]⟩,.mov (.t 139)⟩] [16,17,107,136,137,138,139] [])
def r48_8:IR :=
  .reg false [⟨some 140,none,⟨[],[]⟩,.bin 0 .add (.t 57) (.k (.int .i64 1))⟩,
    ⟨some 57,none,⟨[],[]⟩,.mov (.t 140)⟩] [140] []
def b48_3:IR :=
  .seq (.reg false [⟨some 58,none,⟨[],[]⟩,.bin 0 .lss (.t 57) (.t 56)⟩] [] []) (.seq (.cond (.t 58) (.skip) (.exit 4)) (.seq (.block 5 (.seq (.reg false [⟨some 59,none,⟨[],[]⟩,.mov (.t 57)⟩,
    ⟨some 16,none,⟨[],[]⟩,.mov (.t 59)⟩] [58,59] []) (.seq (.reg false [⟨some 60,none,⟨[],[]⟩,.fld (.t 12) 4⟩,
    ⟨some 61,none,⟨[],[]⟩,.ld false none 0 0 (.t 60)⟩,
    ⟨some 62,none,⟨[],[]⟩,.mov (.t 16)⟩,
    ⟨some 63,none,⟨[],[]⟩,.bin 0 .mul (.t 62) (.k (.int .i64 4))⟩,
    ⟨some 64,none,⟨[],[]⟩,.bin 0 .sub (.t 61) (.t 63)⟩,
    ⟨some 65,none,⟨[],[]⟩,.mn (.k (.int .i64 4)) (.t 64)⟩,
    ⟨some 66,none,⟨[],[]⟩,.build [nilSV,.int .i64 0,.int .i64 0,.bool false] [(1,1,.t 65),(2,1,.k (.int .i64 (-1)))]⟩,
    ⟨some 17,none,⟨[],[]⟩,.alloc 20 [nilSV,.int .i64 0,.int .i64 0,.bool false]⟩,
    ⟨none,none,⟨[],[]⟩,.sto false 4 .i64 (.t 17) (.t 66)⟩] [60,61,62,63,64,65,66] []) (.seq (.seq (.reg false [⟨some 67,none,⟨[],[]⟩,.mov (.t 15)⟩,
    ⟨some 68,none,⟨[],[]⟩,.bin 0 .mul (.t 67) (.k (.int .i64 4))⟩,
    ⟨some 18,none,⟨[],[]⟩,.mov (.t 68)⟩] [67,68] []) (.block 6 (.loop b48_4))) (r48_7))))) (r48_8)))
def r48_9:IR :=
  .reg false [⟨some 141,none,⟨[],[]⟩,.bin 0 .add (.t 52) (.k (.int .i64 1))⟩,
    ⟨some 52,none,⟨[],[]⟩,.mov (.t 141)⟩] [15,56,57,141] []
def b48_2:IR :=
  .seq (.reg false [⟨some 53,none,⟨[],[]⟩,.bin 0 .lss (.t 52) (.t 51)⟩] [] []) (.seq (.cond (.t 53) (.skip) (.exit 2)) (.seq (.block 3 (.seq (.reg false [⟨some 54,none,⟨[],[]⟩,.mov (.t 52)⟩,
    ⟨some 15,none,⟨[],[]⟩,.mov (.t 54)⟩] [53,54] []) (.seq (.reg false [⟨some 55,none,⟨[],[]⟩,.fld (.t 13) 7⟩,
    ⟨some 56,none,⟨[],[]⟩,.ld false none 0 0 (.t 55)⟩,
    ⟨some 57,none,⟨[],[]⟩,.mov (.k (.int .i64 0))⟩] [55] []) (.block 4 (.loop b48_3))))) (r48_9)))
def r48_10:IR :=
  .reg false [⟨some 142,none,⟨[],[]⟩,.mov (.t 10)⟩,
    ⟨some 143,none,⟨[],[]⟩,.ld false (some 9) 0 0 (.t 13)⟩,
    ⟨some 144,none,⟨[],[]⟩,.brecs 25 9 .i64 [.t 143]⟩,
    ⟨some 145,none,⟨[],[]⟩,.app 26 9 72 (.t 142) (.t 144)⟩,
    ⟨some 10,none,⟨[],[]⟩,.mov (.t 145)⟩] [12,13,14,51,52,142,143,144,145] []
def r48_11:IR :=
  .reg false [⟨some 146,none,⟨[],[]⟩,.bin 0 .add (.t 29) (.k (.int .i64 1))⟩,
    ⟨some 29,none,⟨[],[]⟩,.mov (.t 146)⟩] [146] []
def b48_1:IR :=
  .seq (.reg false [⟨some 30,none,⟨[],[]⟩,.bin 0 .lss (.t 29) (.t 28)⟩] [] []) (.seq (.cond (.t 30) (.skip) (.exit 0)) (.seq (.block 1 (.seq (.reg false [⟨some 31,none,⟨[],[]⟩,.idxS (.t 27) (.t 29) 6⟩,
    ⟨some 32,none,⟨[],[]⟩,.ld true (some 6) 0 0 (.t 31)⟩,
    ⟨some 12,none,⟨[],[]⟩,.alloc 14 [.int .i64 0,.int .i64 0,.int .i64 0,.int .i64 0,.int .i64 0,.int .i64 0]⟩,
    ⟨none,none,⟨[],[]⟩,.sto false 6 .i64 (.t 12) (.t 32)⟩] [30,31,32] []) (.seq (.reg false [⟨some 33,none,⟨[],[]⟩,.ld false (some 6) 0 0 (.t 12)⟩,
    ⟨some 34,none,⟨[],[]⟩,.mov (.t 9)⟩,
    ⟨some 35,none,⟨[],[]⟩,.len (.t 34)⟩,
    ⟨some 36,none,⟨[],[]⟩,.fld (.t 12) 4⟩,
    ⟨some 37,none,⟨[],[]⟩,.ld false none 0 0 (.t 36)⟩,
    ⟨some 38,none,⟨[],[]⟩,.bin 0 .add (.t 37) (.k (.int .i64 4))⟩,
    ⟨some 39,none,⟨[],[]⟩,.bin 0 .sub (.t 38) (.k (.int .i64 1))⟩,
    ⟨some 40,none,⟨[],[]⟩,.bin 0 .quo (.t 39) (.k (.int .i64 4))⟩,
    ⟨some 41,none,⟨[],[]⟩,.fld (.t 12) 5⟩,
    ⟨some 42,none,⟨[],[]⟩,.ld false none 0 0 (.t 41)⟩,
    ⟨some 43,none,⟨[],[]⟩,.bin 0 .add (.t 42) (.k (.int .i64 4))⟩,
    ⟨some 44,none,⟨[],[]⟩,.bin 0 .sub (.t 43) (.k (.int .i64 1))⟩,
    ⟨some 45,none,⟨[],[]⟩,.bin 0 .quo (.t 44) (.k (.int .i64 4))⟩,
    ⟨some 46,none,⟨[],[]⟩,.build [.int .i64 0,.int .i64 0,.int .i64 0,.int .i64 0,.int .i64 0,.int .i64 0,.int .i64 0,.int .i64 0,.int .i64 0] [(0,6,.t 33),(6,1,.t 35),(7,1,.t 40),(8,1,.t 45)]⟩,
    ⟨some 13,none,⟨[],[]⟩,.alloc 15 [.int .i64 0,.int .i64 0,.int .i64 0,.int .i64 0,.int .i64 0,.int .i64 0,.int .i64 0,.int .i64 0,.int .i64 0]⟩,
    ⟨none,none,⟨[],[]⟩,.sto false 9 .i64 (.t 13) (.t 46)⟩] [33,34,35,36,37,38,39,40,41,42,43,44,45,46] []) (.seq (.reg false [⟨some 47,none,⟨[],[]⟩,.mov (.t 10)⟩,
    ⟨some 48,none,⟨[],[]⟩,.ld false (some 6) 0 0 (.t 12)⟩,
    ⟨some 49,none,⟨[],[]⟩,.call (some 4) 16 83 [.t 47,.t 48]⟩,
    ⟨some 14,none,⟨[],[]⟩,.mov (.t 49)⟩] [47,48,49] []) (.seq (.seq (.reg false [⟨some 50,none,⟨[],[]⟩,.fld (.t 13) 8⟩,
    ⟨some 51,none,⟨[],[]⟩,.ld false none 0 0 (.t 50)⟩,
    ⟨some 52,none,⟨[],[]⟩,.mov (.k (.int .i64 0))⟩] [50] []) (.block 2 (.loop b48_2))) (r48_10)))))) (r48_11)))
def r48_12:IR :=
  .seq (.reg false [⟨some 147,none,⟨[],[]⟩,.mov (.t 9)⟩,
    ⟨some 6,none,⟨[],[]⟩,.mov (.t 147)⟩] [0,9,10,27,28,29,147] []) (.ret)
def ir48:IR :=
  .seq (.reg false [⟨some 6,none,⟨[],[]⟩,.mov (.k nilSV)⟩] [6] []) (.seq (.reg false [⟨some 21,none,⟨[],[]⟩,.mov (.t 0)⟩,
    ⟨some 22,none,⟨[],[]⟩,.mov (.t 1)⟩,
    ⟨some 23,none,⟨[],[]⟩,.mov (.t 2)⟩,
    ⟨some 24,none,⟨[],[]⟩,.call (some 4) 10 54 [.t 21,.t 22,.t 23]⟩,
    ⟨some 20,none,⟨[],[]⟩,.mov (.t 24)⟩,
    ⟨some 25,none,⟨[],[]⟩,.ext (.t 20) 0⟩,
    ⟨some 26,none,⟨[],[]⟩,.ext (.t 20) 1⟩,
    ⟨some 7,none,⟨[],[]⟩,.mov (.t 25)⟩,
    ⟨some 8,none,⟨[],[]⟩,.mov (.t 26)⟩] [1,2,8,20,21,22,23,24,25,26] []) (.seq (.reg false [⟨some 9,none,⟨[],[]⟩,.mov (.k nilSV)⟩] [] []) (.seq (.reg false [⟨some 10,none,⟨[],[]⟩,.mov (.k nilSV)⟩] [] []) (.seq (.seq (.reg false [⟨some 27,none,⟨[],[]⟩,.mov (.t 7)⟩,
    ⟨some 28,none,⟨[],[]⟩,.len (.t 27)⟩,
    ⟨some 29,none,⟨[],[]⟩,.mov (.k (.int .i64 0))⟩] [7] []) (.block 0 (.loop b48_1))) (r48_12)))))
def kp48_5:List Nat:=[0,9,10,12,13,14,15,16,17,18,19,27,28,29,51,52,56,57]
def kl48_5:List Nat:=[21,22]
attribute [push_cast] kp48_5 kl48_5
def kp48_4:List Nat:=[0,9,10,12,13,14,15,16,17,18,27,28,29,51,52,56,57]
def kl48_4:List Nat:=[21,22]
attribute [push_cast] kp48_4 kl48_4
def kp48_3:List Nat:=[0,9,10,12,13,14,15,27,28,29,51,52,56,57]
def kl48_3:List Nat:=[20,21,22,23,24]
attribute [push_cast] kp48_3 kl48_3
def kp48_2:List Nat:=[0,9,10,12,13,14,27,28,29,51,52]
def kl48_2:List Nat:=[20,21,22,23,24]
attribute [push_cast] kp48_2 kl48_2
def kp48_1:List Nat:=[0,9,10,27,28,29]
def kl48_1:List Nat:=[14,15,16,17,18,19,20,21,22,23,24,25,26]
attribute [push_cast] kp48_1 kl48_1
set_option maxRecDepth 4000 in
theorem comp48:(Try.f48.body.bind fun c => compC tab isP chkAll ir48 c) = some ir48:=by kernel_rfl
def plF (W:Int) (b:Bd) (r c:Int) (dy dx:Nat):Int:=(b.y + (r * 4 + dy)) * W + b.x + (c * 4 + dx)
def kwB (b:Bd) (c:Int):Int:=min 4 (b.w - c * 4)
def khB (b:Bd) (r:Int):Int:=min (r * 4 + 4) b.h - r * 4
def plRow (W:Int) (b:Bd) (r c:Int) (dy n:Nat):List Int:=(List.range n).map (plF W b r c dy)
def plAll (W:Int) (b:Bd) (r c:Int) (m:Nat):List Int:=(List.range m).flatMap fun dy => plRow W b r c dy (kwB b c).toNat
theorem plRow_succ (W:Int) (b:Bd) (r c:Int) (dy n:Nat):plRow W b r c dy (n + 1) = plRow W b r c dy n++[plF W b r c dy n]:=by
  unfold plRow; rw [List.range_succ,List.map_append]; rfl
theorem plAll_succ (W:Int) (b:Bd) (r c:Int) (m:Nat):plAll W b r c (m + 1) = plAll W b r c m++plRow W b r c m (kwB b c).toNat:=by
  unfold plAll; rw [List.range_succ,List.flatMap_append]; simp
theorem plRow_len (W:Int) (b:Bd) (r c:Int) (dy n:Nat):(plRow W b r c dy n).length = n:=by unfold plRow; simp
theorem plAll_len (W:Int) (b:Bd) (r c:Int):∀ m,(plAll W b r c m).length = m * (kwB b c).toNat
  | 0 => by simp [plAll]
  | m + 1 => by rw [plAll_succ,List.length_append,plAll_len W b r c m,plRow_len,Nat.succ_mul]
def parP (gs:List Gr) (F:Option Nat) (r c:Int):Int :=
  match F with
  | none => -1
  | some i => (rdGr gs i).frm + min (r / 2) (rowsB (rdGr gs i).band - 1) * colsB (rdGr gs i).band + min (c / 2) (colsB (rdGr gs i).band - 1)
def bkAt (W:Int) (gs:List Gr) (b:Bd) (r c:Int):Pb:=⟨plAll W b r c (khB b r).toNat,kwB b c,parP gs (findG gs b) r c⟩
def bkRow (W:Int) (gs:List Gr) (b:Bd) (r:Int) (n:Nat):List Pb:=(List.range n).map fun c => bkAt W gs b r (c:Nat)
def bkBand (W:Int) (gs:List Gr) (b:Bd) (m:Nat):List Pb:=(List.range m).flatMap fun r => bkRow W gs b (r:Nat) (colsB b).toNat
theorem bkRow_succ (W:Int) (gs:List Gr) (b:Bd) (r:Int) (n:Nat):bkRow W gs b r (n + 1) = bkRow W gs b r n++[bkAt W gs b r n]:=by
  unfold bkRow; rw [List.range_succ,List.map_append]; rfl
theorem bkBand_succ (W:Int) (gs:List Gr) (b:Bd) (m:Nat):bkBand W gs b (m + 1) = bkBand W gs b m++bkRow W gs b m (colsB b).toNat:=by
  unfold bkBand; rw [List.range_succ,List.flatMap_append]; simp
theorem bkRow_len (W:Int) (gs:List Gr) (b:Bd) (r:Int) (n:Nat):(bkRow W gs b r n).length = n:=by unfold bkRow; simp
theorem bkBand_len (W:Int) (gs:List Gr) (b:Bd):∀ m,(bkBand W gs b m).length = m * (colsB b).toNat
  | 0 => by simp [bkBand]
  | m + 1 => by rw [bkBand_succ,List.length_append,bkBand_len W gs b m,bkRow_len,Nat.succ_mul]
def bkStep (W:Int) (s:List Pb × List Gr) (b:Bd):List Pb × List Gr:=(s.1++bkBand W s.2 b (rowsB b).toNat,s.2++[⟨b,s.1.length⟩])
def bkFold (W:Int) (l:List Bd):List Pb × List Gr:=l.foldl (bkStep W) ([],[])
theorem bkFold_succ (W:Int) {l:List Bd} {i:Nat} (h:i < l.length):bkFold W (l.take (i + 1)) = bkStep W (bkFold W (l.take i)) (rdBd l i):=by
  unfold bkFold
  rw [List.take_succ_eq_append_getElem h,List.foldl_append,rdBd_nat h]
  rfl
theorem bd_cr {b:Bd} (h:b.ok):0≤colsB b∧colsB b≤50∧0≤rowsB b∧rowsB b≤50:=by
  obtain ⟨h1,h2,h3,h4⟩:=h
  unfold colsB rowsB
  omega
def frmOk (n:Nat) (gs:List Gr):Prop:=∀ g ∈ gs,g.band.ok∧g.frm≤n
theorem bkFold_len (W:Int) {l:List Bd} (hl:∀ b ∈ l,b.ok):∀ i,i≤l.length→(bkFold W (l.take i)).1.length≤2500 * i∧(bkFold W (l.take i)).2.length = i∧frmOk (2500 * i) (bkFold W (l.take i)).2
  | 0,_ => by simp [bkFold,frmOk]
  | i + 1,hi => by
    obtain ⟨h1,h2,h3⟩:=bkFold_len W hl i (by omega)
    rw [bkFold_succ W (by omega)]
    have hb:=hl _ (rdBd_mem (show i < l.length by omega))
    have hcr:=bd_cr hb
    unfold bkStep
    simp only [List.length_append,List.length_singleton,bkBand_len]
    have:(rowsB (rdBd l i)).toNat * (colsB (rdBd l i)).toNat≤50 * 50:=Nat.mul_le_mul (by omega) (by omega)
    refine ⟨by omega,by omega,fun g hg => ?_⟩
    rcases List.mem_append.1 hg with h | h
    · have:=h3 g h
      exact ⟨this.1,by omega⟩
    · rw [List.mem_singleton] at h
      subst h
      exact ⟨hb,by simp only; omega⟩
theorem bdD_lv (w h n:Nat):∀ k,k≤n→∀ x ∈ bdD w h n k,0≤x.lv∧x.lv≤n
  | 0,_,x,hx => by
    simp only [bdD,List.mem_singleton] at hx
    subst hx
    simp only [bd0]; omega
  | k + 1,hk,x,hx => by
    rw [bdD,List.mem_append] at hx
    rcases hx with hx | hx
    · exact bdD_lv w h n k (by omega) x hx
    · simp only [bd3,List.mem_cons,List.not_mem_nil,or_false] at hx
      rcases hx with rfl | rfl | rfl <;> simp only <;> omega
theorem bnL_in {w h n:Int} (hb:bnOk w h n) {b:Bd} (hm:b ∈ bnL w h n):0≤b.x∧0≤b.y∧1≤b.w∧1≤b.h∧b.x + b.w≤w∧b.y + b.h≤h∧-1000≤b.lv∧b.lv≤1000:=by
  obtain ⟨q1,q2,q3,q4,q5,q6⟩:=id hb
  unfold bnL bnA at hm
  rw [if_pos hb] at hm
  have h1:=kept_in (w:=w.toNat) (h:=h.toNat) (n:=n.toNat) (by omega) (by omega) hm
  have h2:b ∈ bdD w.toNat h.toNat n.toNat n.toNat:=(List.mem_filter.1 hm).1
  have h3:=bdD_lv w.toNat h.toNat n.toNat n.toNat (Nat.le_refl _) b h2
  omega
def bkts (w h n:Int):List Pb:=(bkFold w (bnL w h n)).1
structure Bck where
  L:Xf.Loc
  b:Pb
  on:Bool
  deriving Inhabited
def Bck.rc (x:Bck):List RC:=[.row x.L .i64 x.b.places,.int .i64 x.b.w,.int .i64 x.b.parent,.bool x.on]
def bkOf (f:Nat→Xf.Loc) (l:List Pb):List Bck:=(List.range l.length).map fun i => ⟨f i,l.getD i default,false⟩
theorem bkOf_eq {l:List Bck} {m:List Pb} (h:l.map Bck.b = m) (ho:∀ x ∈ l,x.on = false):bkOf (fun i => (l.getD i default).L) m = l:=by
  subst h
  unfold bkOf
  refine List.ext_getElem (by simp) fun i h1 h2 => ?_
  have hi:i < l.length:=by simpa using h2
  simp only [List.getElem_map,List.getElem_range,List.getD_eq_getElem?_getD,List.getElem?_map,List.getElem?_eq_getElem hi,Option.map_some,Option.getD_some]
  have:=ho _ (List.getElem_mem hi)
  cases hx:l[i] with
  | mk L b on => rw [hx] at this; simp only at this; rw [this]
def slB (c:Nat) (M:Xf.Loc) (n:Nat):SV:=.sl c M (esz 4 n) 0 n
attribute [push_cast] slB
def fs48:FS where
  A:=BnA
  args:=fun a => [.int .i64 a.w,.int .i64 a.h,.int .i64 a.n]
  mem:=fun _ => []
  pre:=fun a => bnOk a.w a.h a.n
  res:=fun a x => slB 0 (x 0) (bkts a.w a.h a.n).length
  out:=fun _ _ => []
  new:=fun a x => [(x 0,.recs 4 true [] ((bkOf (fun i => x (i + 1)) (bkts a.w a.h a.n)).map Bck.rc))]
theorem relab_ptrG (N:Xf.Loc) (F:Option Nat):relab (rho [26] 16) (ptrG 0 N F) = ptrG 26 N F:=by cases F <;> rfl
theorem sub_all (xs:List Int):sub xs 0 xs.length = xs:=by simp [sub]
theorem par_bd {a c:Int} (h0:-1≤a) (h1:a≤50) (h2:0≤c) (h3:c≤50):-50≤a * c∧a * c≤2500:=by
  by_cases h:0≤a
  · have:=mul_bd h h1 h2 h3
    omega
  · have:a = -1:=by omega
    subst this
    omega
theorem bkMap_len (l:List Bck):(l.map Bck.rc).length = l.length:=List.length_map _
set_option maxHeartbeats 4000000 in
set_option maxRecDepth 4000 in
theorem ok48:FSOk Try.prog 48 fs48:=by
  refine ⟨⟨_,Try.func48,by kernel_rfl,by kernel_rfl⟩,fun a => ⟨by simp [fs48,push_cast,noMine,argOwn,Chunk.frArg],by simp [fs48,push_cast,outOk,Chunk.ext],fun x => .inl (by simp [fs48,push_cast,frNew,frOut,Chunk.fr])⟩,fun a hp => ?_⟩
  obtain ⟨w,h,n⟩:=a
  have hb:bnOk w h n:=hp
  obtain ⟨q1,q2,q3,q4,q5,q6⟩:=id hb
  change Tri Try.prog 48 [.int .i64 w,.int .i64 h,.int .i64 n] [] (postF fs48 ⟨w,h,n⟩)
  have hbk:bkts w h n = (bkFold w (bnL w h n)).1:=rfl
  have hin:∀ i:Nat,i < (bnL w h n).length→0≤(rdBd (bnL w h n) i).x∧0≤(rdBd (bnL w h n) i).y∧1≤(rdBd (bnL w h n) i).w∧1≤(rdBd (bnL w h n) i).h∧(rdBd (bnL w h n) i).x + (rdBd (bnL w h n) i).w≤w∧(rdBd (bnL w h n) i).y + (rdBd (bnL w h n) i).h≤h∧-1000≤(rdBd (bnL w h n) i).lv∧(rdBd (bnL w h n) i).lv≤1000:=fun i hi => bnL_in hb (rdBd_mem hi)
  have hmemok:∀ b ∈ bnL w h n,b.ok:=fun b hb => by
    obtain ⟨i,hi,rfl⟩:=List.mem_iff_getElem.1 hb
    have:=hin i hi
    rw [rdBd_nat hi] at this
    unfold Bd.ok
    omega
  have hl19:=bnL_le w h n
  have r1:∀ i:Nat,i < (bnL w h n).length→recAt (i:Int) [] (bnZ w h n) = (rdBd (bnL w h n) i).rc:=fun i hi => recAt_Bd (by omega) (by omega) [] _
  have hzl:(bnL w h n).length≤(bnZ w h n).length:=by unfold bnZ; rw [List.length_append,List.length_map]; omega
  obtain ⟨B,hB⟩:∃ B,bnL w h n = B:=⟨_,rfl⟩
  obtain ⟨Z,hZ⟩:∃ Z,bnZ w h n = Z:=⟨_,rfl⟩
  rw [hB] at hbk hin hmemok hl19 r1 hzl
  rw [hZ] at r1 hzl
  have hfl:=@bkFold_len w B hmemok
  refine tri_evS (hyp (l:=[(54,ent54),(83,ent83)]) (lp:=[]) ⟨e54,e83,trivial⟩ trivial) Try.func48 comp48 (rs:=[.tmp 6]) (by rfl) Try.ntmps48 27 ?_
  simp -implicitDefEqProofs only [push_cast,zz,BEq.rfl,ite_true,ite_false,List.append_nil,reduceCtorEq,Nat.reduceAdd,Nat.reduceSub,Nat.reduceMul,Nat.reduceLeDiff,Nat.reduceLT,Nat.reduceEqDiff,Nat.reduceBEq,Nat.reduceBNe,Int.reduceNeg,Int.reduceToNat,ir48,fs54,hb,hB,hZ,lx]
  intro X
  refine evS_loopU (A:=Nat × List Bck × Xf.Loc × Xf.Loc) kp48_1 kl48_1 (fun y => [(29,.int .i64 y.1),(9,slB 24 y.2.2.1 y.2.1.length),(10,.sl 26 y.2.2.2 (esz 9 y.1) 0 y.1)])
    (fun y => [(24,.mine,y.2.2.1,.recs 4 true [] (y.2.1.map Bck.rc)),(26,.mine,y.2.2.2,.recs 9 true [] ((bkFold w (B.take y.1)).2.map Gr.rc))])
    (fun y => y.1≤B.length∧y.2.1.map Bck.b = (bkFold w (B.take y.1)).1∧∀ x ∈ y.2.1,x.on = false) (fun y => B.length - y.1) (0,[],nilLoc,nilLoc) ⟨Nat.zero_le _,by simp [bkFold],by simp⟩ (Sub.of (mkG 30 [(10,10)]) ?_) ?_
  · have e0:((bkFold w (B.take 0)).2.map Gr.rc) = []:=by simp [bkFold]
    simp -implicitDefEqProofs only [push_cast,zz,BEq.rfl,ite_true,ite_false,List.append_nil,reduceCtorEq,Nat.reduceAdd,Nat.reduceSub,Nat.reduceMul,Nat.reduceLeDiff,Nat.reduceLT,Nat.reduceEqDiff,Nat.reduceBEq,Nat.reduceBNe,Int.reduceNeg,Int.reduceToNat,esz,e0]
  intro ⟨i,l,M,N⟩ ⟨(hi:i≤B.length),(hl:l.map Bck.b = (bkFold w (B.take i)).1),(hon:∀ x ∈ l,x.on = false)⟩ K hK
  by_cases hi':i < B.length
  · obtain ⟨b1,b2,b3,b4,b5,b6,b7,b8⟩:=hin i hi'
    have rr:=r1 i hi'
    have hii:(i:Int) < B.length:=by omega
    obtain ⟨f1,f2,f3⟩:=hfl i hi
    have hstep:=bkFold_succ w hi'
    obtain ⟨⟨lv,kd,x,y,bw,bh⟩,hb'⟩:∃ b,rdBd B i = b:=⟨_,rfl⟩
    rw [hb'] at b1 b2 b3 b4 b5 b6 b7 b8 rr hstep
    simp only at b1 b2 b3 b4 b5 b6 b7 b8
    obtain ⟨⟨O,G⟩,hOG⟩:∃ s,bkFold w (B.take i) = s:=⟨_,rfl⟩
    rw [hOG] at hl f1 f2 f3 hstep
    simp only at hl f1 f2 f3
    have hll:l.length = O.length:=by rw [← hl,List.length_map]
    have hgl:(G.map Gr.rc).length = i:=by rw [List.length_map,f2]
    have hgg:=getGr_map G
    obtain ⟨F,hF⟩:∃ F,findG G ⟨lv,kd,x,y,bw,bh⟩ = F:=⟨_,rfl⟩
    have hFr:=relab_ptrG N F
    have hbd:(⟨lv,kd,x,y,bw,bh⟩:Bd).ok:=by unfold Bd.ok; simp only; omega
    have hcr:=bd_cr hbd
    have hcols:colsB ⟨lv,kd,x,y,bw,bh⟩ = (bw + 4 - 1) / 4:=rfl
    have hrows:rowsB ⟨lv,kd,x,y,bw,bh⟩ = (bh + 4 - 1) / 4:=rfl
    obtain ⟨C,hC⟩:∃ C:Nat,(bw + 4 - 1) / 4 = (C:Int):=⟨((bw + 4 - 1) / 4).toNat,by omega⟩
    obtain ⟨R,hR⟩:∃ C:Nat,(bh + 4 - 1) / 4 = (C:Int):=⟨((bh + 4 - 1) / 4).toNat,by omega⟩
    rw [hC] at hcols
    rw [hR] at hrows
    simp -implicitDefEqProofs only [push_cast,zz,BEq.rfl,ite_true,ite_false,List.append_nil,reduceCtorEq,Nat.reduceAdd,Nat.reduceSub,Nat.reduceMul,Nat.reduceLeDiff,Nat.reduceLT,Nat.reduceEqDiff,Nat.reduceBEq,Nat.reduceBNe,Int.reduceNeg,Int.reduceToNat,b48_1,rr,Bd.rc,hii,hOG,fs83,hgg,f2,hF,hFr,hC,hR]
    intro X1
    refine ⟨by omega,by omega,by omega,fun X2 => ?_⟩
    repeat (refine And.intro (by first | omega | trivial | (intros; omega)) ?_)
    refine ⟨fun h0 => by (cases i with | zero => omega | succ i => rfl),by omega,by omega,?_⟩
    refine evS_loopU (A:=Nat × List Bck × Xf.Loc) kp48_2 kl48_2 (fun y => [(52,.int .i64 y.1),(9,slB 24 y.2.2 y.2.1.length)])
      (fun y => [(24,.mine,y.2.2,.recs 4 true [] (y.2.1.map Bck.rc))])
      (fun z => z.1≤R∧z.2.1.map Bck.b = O++bkBand w G ⟨lv,kd,x,y,bw,bh⟩ z.1∧∀ x ∈ z.2.1,x.on = false) (fun y => R - y.1) (0,l,M) ⟨Nat.zero_le _,by simp only [bkBand,List.range_zero,List.flatMap_nil,List.append_nil]; exact hl,hon⟩ (Sub.pt ?_) ?_
    · simp -implicitDefEqProofs only [push_cast,zz,BEq.rfl,ite_true,ite_false,List.append_nil,reduceCtorEq,Nat.reduceAdd,Nat.reduceSub,Nat.reduceMul,Nat.reduceLeDiff,Nat.reduceLT,Nat.reduceEqDiff,Nat.reduceBEq,Nat.reduceBNe,Int.reduceNeg,Int.reduceToNat]
    intro ⟨r,l2,M2⟩ ⟨(hr:r≤R),(hl2:l2.map Bck.b = O++bkBand w G ⟨lv,kd,x,y,bw,bh⟩ r),(hon2:∀ x ∈ l2,x.on = false)⟩ K2 hK2
    by_cases hr':r < R
    · have hri:(r:Int) < R:=by omega
      clear hK
      simp -implicitDefEqProofs only [push_cast,zz,BEq.rfl,ite_true,ite_false,List.append_nil,reduceCtorEq,Nat.reduceAdd,Nat.reduceSub,Nat.reduceMul,Nat.reduceLeDiff,Nat.reduceLT,Nat.reduceEqDiff,Nat.reduceBEq,Nat.reduceBNe,Int.reduceNeg,Int.reduceToNat,b48_2,hri]
      refine evS_loopU (A:=Nat × List Bck × Xf.Loc) kp48_3 kl48_3 (fun y => [(57,.int .i64 y.1),(9,slB 24 y.2.2 y.2.1.length)])
        (fun y => [(24,.mine,y.2.2,.recs 4 true [] (y.2.1.map Bck.rc))])
        (fun z => z.1≤C∧z.2.1.map Bck.b = (O++bkBand w G ⟨lv,kd,x,y,bw,bh⟩ r)++bkRow w G ⟨lv,kd,x,y,bw,bh⟩ r z.1∧∀ x ∈ z.2.1,x.on = false) (fun y => C - y.1) (0,l2,M2) ⟨Nat.zero_le _,by simp only [bkRow,List.range_zero,List.map_nil,List.append_nil]; exact hl2,hon2⟩ (Sub.pt ?_) ?_
      · simp -implicitDefEqProofs only [push_cast,zz,BEq.rfl,ite_true,ite_false,List.append_nil,reduceCtorEq,Nat.reduceAdd,Nat.reduceSub,Nat.reduceMul,Nat.reduceLeDiff,Nat.reduceLT,Nat.reduceEqDiff,Nat.reduceBEq,Nat.reduceBNe,Int.reduceNeg,Int.reduceToNat]
      intro ⟨c,l3,M3⟩ ⟨(hc:c≤C),(hl3:l3.map Bck.b = (O++bkBand w G ⟨lv,kd,x,y,bw,bh⟩ r)++bkRow w G ⟨lv,kd,x,y,bw,bh⟩ r c),(hon3:∀ x ∈ l3,x.on = false)⟩ K3 hK3
      by_cases hc':c < C
      · have hci:(c:Int) < C:=by omega
        clear hK2
        obtain ⟨kw,hkw⟩:∃ k,min 4 (bw - (c:Int) * 4) = k:=⟨_,rfl⟩
        simp -implicitDefEqProofs only [push_cast,zz,BEq.rfl,ite_true,ite_false,List.append_nil,reduceCtorEq,Nat.reduceAdd,Nat.reduceSub,Nat.reduceMul,Nat.reduceLeDiff,Nat.reduceLT,Nat.reduceEqDiff,Nat.reduceBEq,Nat.reduceBNe,Int.reduceNeg,Int.reduceToNat,b48_3,hci,hkw]
        intro X3
        repeat (refine And.intro (by first | omega | trivial | (intros; omega)) ?_)
        have hkwv:kwB ⟨lv,kd,x,y,bw,bh⟩ c = kw:=hkw
        have hkhv:khB ⟨lv,kd,x,y,bw,bh⟩ r = min ((r:Int) * 4 + 4) bh - (r:Int) * 4:=rfl
        obtain ⟨KW,hKW⟩:∃ k:Nat,kw = (k:Int):=⟨kw.toNat,by omega⟩
        obtain ⟨KH,hKH⟩:∃ k:Nat,min ((r:Int) * 4 + 4) bh - (r:Int) * 4 = (k:Int):=⟨(min ((r:Int) * 4 + 4) bh - (r:Int) * 4).toNat,by omega⟩
        rw [hKW] at hkwv
        rw [hKH] at hkhv
        obtain ⟨b,hbb⟩:∃ b:Bd,b = ⟨lv,kd,x,y,bw,bh⟩:=⟨_,rfl⟩
        refine evS_loopU (A:=Nat × Xf.Loc) kp48_4 kl48_4 (fun z => [(18,.int .i64 (r * 4 + z.1))])
          (fun z => [(20,.mine,X3 7 20,.cells [.sl 22 z.2 1 0 (plAll w b r c z.1).length,.int .i64 kw,.int .i64 (-1),.bool false]),(22,.mine,z.2,.ints .i64 (plAll w b r c z.1))])
          (fun z => z.1≤KH) (fun z => KH - z.1) (0,nilLoc) (Nat.zero_le _) (Sub.of (mkG 30 [(10,10),(14,14),(15,15),(20,20),(24,24),(26,26)]) ?_) ?_
        · have e0:plAll w b r c 0 = []:=rfl
          simp -implicitDefEqProofs only [push_cast,zz,BEq.rfl,ite_true,ite_false,List.append_nil,reduceCtorEq,Nat.reduceAdd,Nat.reduceSub,Nat.reduceMul,Nat.reduceLeDiff,Nat.reduceLT,Nat.reduceEqDiff,Nat.reduceBEq,Nat.reduceBNe,Int.reduceNeg,Int.reduceToNat,e0]
        intro ⟨dy,P⟩ hdy K4 hK4
        have hdy:dy≤KH:=hdy
        by_cases hdy':dy < KH
        · have hcond:(r:Int) * 4 + dy < min ((r:Int) * 4 + 4) bh:=by omega
          clear hK3
          simp -implicitDefEqProofs only [push_cast,zz,BEq.rfl,ite_true,ite_false,List.append_nil,reduceCtorEq,Nat.reduceAdd,Nat.reduceSub,Nat.reduceMul,Nat.reduceLeDiff,Nat.reduceLT,Nat.reduceEqDiff,Nat.reduceBEq,Nat.reduceBNe,Int.reduceNeg,Int.reduceToNat,b48_4,hcond]
          repeat (refine And.intro (by first | omega | trivial | (intros; omega)) ?_)
          refine evS_loopU (A:=Nat × Xf.Loc) kp48_5 kl48_5 (fun z => [(19,.int .i64 (c * 4 + z.1))])
            (fun z => [(20,.mine,X3 7 20,.cells [.sl 22 z.2 1 0 (plAll w b r c dy++plRow w b r c dy z.1).length,.int .i64 kw,.int .i64 (-1),.bool false]),(22,.mine,z.2,.ints .i64 (plAll w b r c dy++plRow w b r c dy z.1))])
            (fun z => z.1≤KW) (fun z => KW - z.1) (0,P) (Nat.zero_le _) (Sub.pt ?_) ?_
          · have e0:plAll w b r c dy++plRow w b r c dy 0 = plAll w b r c dy:=by simp [plRow]
            simp only [e0]
            simp -implicitDefEqProofs only [push_cast,zz,BEq.rfl,ite_true,ite_false,List.append_nil,reduceCtorEq,Nat.reduceAdd,Nat.reduceSub,Nat.reduceMul,Nat.reduceLeDiff,Nat.reduceLT,Nat.reduceEqDiff,Nat.reduceBEq,Nat.reduceBNe,Int.reduceNeg,Int.reduceToNat]
          intro ⟨dx,Q⟩ hdx K5 hK5
          have hdx:dx≤KW:=hdx
          by_cases hdx':dx < KW
          · have hcond2:(c:Int) * 4 + dx < (c:Int) * 4 + kw:=by omega
            clear hK4
            have hm:=mul_bd (a:=y + ((r:Int) * 4 + dy)) (b:=w) (A:=200) (B:=200) (by omega) (by omega) (by omega) (by omega)
            have hv:(y + ((r:Int) * 4 + dy)) * w + x + ((c:Int) * 4 + dx) = plF w b r c dy dx:=by rw [hbb]; rfl
            have hpl:((plAll w b r c dy++plRow w b r c dy dx).length:Int)≤1000:=by
              rw [List.length_append,plAll_len,plRow_len]
              have h1:(kwB b c).toNat≤4:=by rw [hbb,hkwv]; omega
              have h2:dy * (kwB b c).toNat≤4 * 4:=Nat.mul_le_mul (by omega) h1
              omega
            have hnx:plAll w b r c dy++plRow w b r c dy (dx + 1) = (plAll w b r c dy++plRow w b r c dy dx)++[plF w b r c dy dx]:=by rw [plRow_succ,List.append_assoc]
            obtain ⟨pl,hpl'⟩:∃ pl,plAll w b r c dy++plRow w b r c dy dx = pl:=⟨_,rfl⟩
            rw [hpl'] at hpl hnx
            have hpf:0≤plF w b r c dy dx∧plF w b r c dy dx≤50000:=by rw [← hv]; omega
            simp -implicitDefEqProofs only [push_cast,zz,BEq.rfl,ite_true,ite_false,List.append_nil,reduceCtorEq,Nat.reduceAdd,Nat.reduceSub,Nat.reduceMul,Nat.reduceLeDiff,Nat.reduceLT,Nat.reduceEqDiff,Nat.reduceBEq,Nat.reduceBNe,Int.reduceNeg,Int.reduceToNat,b48_5,hcond2,hpl',hv]
            refine ⟨by omega,by omega,by omega,by omega,fun X4 => ?_⟩
            repeat (refine And.intro (by first | omega | trivial | (intros; omega)) ?_)
            refine hK5 (dx + 1,X4 14 22) (show dx + 1≤KW by omega) (show KW - (dx + 1) < KW - dx by omega) _ _ (Sub.pt ?_)
            have e19:(c:Int) * 4 + ((dx:Int) + 1) = (c:Int) * 4 + dx + 1:=by omega
            simp -implicitDefEqProofs only [push_cast,zz,BEq.rfl,ite_true,ite_false,List.append_nil,reduceCtorEq,Nat.reduceAdd,Nat.reduceSub,Nat.reduceMul,Nat.reduceLeDiff,Nat.reduceLT,Nat.reduceEqDiff,Nat.reduceBEq,Nat.reduceBNe,Int.reduceNeg,Int.reduceToNat,hnx,List.length_append,e19]
          · have hcond2:¬ (c:Int) * 4 + dx < (c:Int) * 4 + kw:=by omega
            clear hK5
            have hnx:plAll w b r c dy++plRow w b r c dy dx = plAll w b r c (dy + 1):=by
              rw [plAll_succ,hbb,hkwv]
              have:dx = KW:=by omega
              rw [this,Int.toNat_natCast]
            simp -implicitDefEqProofs only [push_cast,zz,BEq.rfl,ite_true,ite_false,List.append_nil,reduceCtorEq,Nat.reduceAdd,Nat.reduceSub,Nat.reduceMul,Nat.reduceLeDiff,Nat.reduceLT,Nat.reduceEqDiff,Nat.reduceBEq,Nat.reduceBNe,Int.reduceNeg,Int.reduceToNat,b48_5,hcond2,hnx,r48_6]
            repeat (refine And.intro (by first | omega | trivial | (intros; omega)) ?_)
            refine hK4 (dy + 1,Q) (show dy + 1≤KH by omega) (show KH - (dy + 1) < KH - dy by omega) _ _ (Sub.pt ?_)
            have e18:(r:Int) * 4 + ((dy:Int) + 1) = (r:Int) * 4 + dy + 1:=by omega
            simp -implicitDefEqProofs only [push_cast,zz,BEq.rfl,ite_true,ite_false,List.append_nil,reduceCtorEq,Nat.reduceAdd,Nat.reduceSub,Nat.reduceMul,Nat.reduceLeDiff,Nat.reduceLT,Nat.reduceEqDiff,Nat.reduceBEq,Nat.reduceBNe,Int.reduceNeg,Int.reduceToNat,e18]
        · have hcond:¬ (r:Int) * 4 + dy < min ((r:Int) * 4 + 4) bh:=by omega
          clear hK4
          have hdk:dy = KH:=by omega
          have hpar:∀ q:Int,q = parP G F r c→(⟨plAll w b r c dy,kw,q⟩:Pb) = bkAt w G b r c:=fun q hq => by
            unfold bkAt
            rw [hbb,hF,hkwv,hkhv,hdk,hq,hKW,Int.toNat_natCast]
          have hlen3:l3.length≤50000:=by
            have:=congrArg List.length hl3
            rw [List.length_map,List.length_append,List.length_append,bkBand_len,bkRow_len] at this
            have h1:r * (colsB ⟨lv,kd,x,y,bw,bh⟩).toNat≤50 * 50:=Nat.mul_le_mul (by omega) (by omega)
            omega
          have hlm:=bkMap_len l3
          have hsub:=sub_all (plAll w b r c dy)
          have hnx:∀ (q:Int) (T:Xf.Loc),q = parP G F r c→(l3++[(⟨T,⟨plAll w b r c dy,kw,q⟩,false⟩:Bck)]).map Bck.b = (O++bkBand w G ⟨lv,kd,x,y,bw,bh⟩ r)++bkRow w G ⟨lv,kd,x,y,bw,bh⟩ r (c + 1):=fun q T hq => by
            rw [bkRow_succ,← List.append_assoc,← hl3,List.map_append,← hbb,← hpar q hq]
            rfl
          have hon4:∀ (q:Int) (T:Xf.Loc),∀ x ∈ l3++[(⟨T,⟨plAll w b r c dy,kw,q⟩,false⟩:Bck)],x.on = false:=fun q T x hx => by
            rcases List.mem_append.1 hx with h | h
            · exact hon3 x h
            · rw [List.mem_singleton] at h; rw [h]
          have hplb:((plAll w b r c dy).length:Int)≤1000:=by
            rw [plAll_len]
            have h1:(kwB b c).toNat≤4:=by rw [hbb,hkwv]; omega
            have h2:dy * (kwB b c).toNat≤4 * 4:=Nat.mul_le_mul (by omega) h1
            omega
          obtain ⟨pl,hpl'⟩:∃ pl,plAll w b r c dy = pl:=⟨_,rfl⟩
          rw [hpl'] at hplb hsub hnx hon4
          cases hFF:F with
          | none =>
            have hq:(-1:Int) = parP G F r c:=by rw [hFF]; rfl
            have hnx1:=fun T => hnx _ T hq
            have hrc:∀ T:Xf.Loc,(l3++[(⟨T,⟨pl,kw,-1⟩,false⟩:Bck)]).map Bck.rc = l3.map Bck.rc++[[.row T .i64 pl,.int .i64 kw,.int .i64 (-1),.bool false]]:=fun T => by rw [List.map_append]; rfl
            simp -implicitDefEqProofs only [push_cast,zz,BEq.rfl,ite_true,ite_false,List.append_nil,reduceCtorEq,Nat.reduceAdd,Nat.reduceSub,Nat.reduceMul,Nat.reduceLeDiff,Nat.reduceLT,Nat.reduceEqDiff,Nat.reduceBEq,Nat.reduceBNe,Int.reduceNeg,Int.reduceToNat,b48_4,hcond,hpl',r48_7,r48_8,hFF,ptrG,hsub,hlm]
            refine ⟨by omega,by omega,by omega,by omega,fun X4 => ?_⟩
            repeat (refine And.intro (by first | omega | trivial | (intros; omega)) ?_)
            refine hK3 (c + 1,l3++[⟨P.fr 0,⟨pl,kw,-1⟩,false⟩],X4 3 24) ⟨show c + 1≤C by omega,hnx1 _,hon4 _ _⟩ (show C - (c + 1) < C - c by omega) _ _ (Sub.pt ?_)
            simp -implicitDefEqProofs only [push_cast,zz,BEq.rfl,ite_true,ite_false,List.append_nil,reduceCtorEq,Nat.reduceAdd,Nat.reduceSub,Nat.reduceMul,Nat.reduceLeDiff,Nat.reduceLT,Nat.reduceEqDiff,Nat.reduceBEq,Nat.reduceBNe,Int.reduceNeg,Int.reduceToNat,hrc,hFF,ptrG,List.length_append,esz]
          | some j =>
            rw [hFF] at hF
            have hjl:=findG_lt hF
            have rj:=recAt_Gr hjl []
            obtain ⟨gok,gfr⟩:=f3 _ (by rw [rdGr_nat hjl]; exact List.getElem_mem hjl:rdGr G j ∈ G)
            have hq0:parP G F r c = (rdGr G j).frm + min ((r:Int) / 2) (rowsB (rdGr G j).band - 1) * colsB (rdGr G j).band + min ((c:Int) / 2) (colsB (rdGr G j).band - 1):=by rw [hFF]; rfl
            obtain ⟨g,hg⟩:∃ g,rdGr G j = g:=⟨_,rfl⟩
            rw [hg] at rj gok gfr hq0
            have hgcr:=bd_cr gok
            obtain ⟨gc,hgc⟩:∃ k,colsB g.band = k:=⟨_,rfl⟩
            obtain ⟨gr,hgr⟩:∃ k,rowsB g.band = k:=⟨_,rfl⟩
            rw [hgc,hgr] at hgcr hq0
            have hpb:=par_bd (a:=min ((r:Int) / 2) (gr - 1)) (c:=gc) (by omega) (by omega) (by omega) (by omega)
            obtain ⟨q,hq⟩:∃ q,parP G F r c = q:=⟨_,rfl⟩
            rw [hq] at hq0
            have hq0':=hq0.symm
            have hnx1:=fun T => hnx _ T hq.symm
            have hrc:∀ T:Xf.Loc,(l3++[(⟨T,⟨pl,kw,q⟩,false⟩:Bck)]).map Bck.rc = l3.map Bck.rc++[[.row T .i64 pl,.int .i64 kw,.int .i64 q,.bool false]]:=fun T => by rw [List.map_append]; rfl
            have hjn:j < i:=by omega
            simp -implicitDefEqProofs only [push_cast,zz,BEq.rfl,ite_true,ite_false,List.append_nil,reduceCtorEq,Nat.reduceAdd,Nat.reduceSub,Nat.reduceMul,Nat.reduceLeDiff,Nat.reduceLT,Nat.reduceEqDiff,Nat.reduceBEq,Nat.reduceBNe,Int.reduceNeg,Int.reduceToNat,b48_4,hcond,hpl',r48_7,r48_8,hFF,ptrG,hsub,hlm,rj,Gr.rc,hgl,hgc,hgr,hq0']
            repeat (refine And.intro (by first | omega | trivial | (intros; omega)) ?_)
            intro X4
            repeat (refine And.intro (by first | omega | trivial | (intros; omega)) ?_)
            refine hK3 (c + 1,l3++[⟨P.fr 0,⟨pl,kw,q⟩,false⟩],X4 3 24) ⟨show c + 1≤C by omega,hnx1 _,hon4 _ _⟩ (show C - (c + 1) < C - c by omega) _ _ (Sub.pt ?_)
            simp -implicitDefEqProofs only [push_cast,zz,BEq.rfl,ite_true,ite_false,List.append_nil,reduceCtorEq,Nat.reduceAdd,Nat.reduceSub,Nat.reduceMul,Nat.reduceLeDiff,Nat.reduceLT,Nat.reduceEqDiff,Nat.reduceBEq,Nat.reduceBNe,Int.reduceNeg,Int.reduceToNat,hrc,hFF,ptrG,List.length_append,esz]
      · have hcc:c = C:=by omega
        have hci:¬ (c:Int) < C:=by omega
        clear hK3
        rw [hcc,← show (colsB ⟨lv,kd,x,y,bw,bh⟩).toNat = C by rw [hcols,Int.toNat_natCast],List.append_assoc,← bkBand_succ] at hl3
        simp -implicitDefEqProofs only [push_cast,zz,BEq.rfl,ite_true,ite_false,List.append_nil,reduceCtorEq,Nat.reduceAdd,Nat.reduceSub,Nat.reduceMul,Nat.reduceLeDiff,Nat.reduceLT,Nat.reduceEqDiff,Nat.reduceBEq,Nat.reduceBNe,Int.reduceNeg,Int.reduceToNat,b48_3,hci,r48_9]
        repeat (refine And.intro (by first | omega | trivial | (intros; omega)) ?_)
        refine hK2 (r + 1,l3,M3) ⟨show r + 1≤R by omega,hl3,hon3⟩ (show R - (r + 1) < R - r by omega) _ _ (Sub.pt ?_)
        simp -implicitDefEqProofs only [push_cast,zz,BEq.rfl,ite_true,ite_false,List.append_nil,reduceCtorEq,Nat.reduceAdd,Nat.reduceSub,Nat.reduceMul,Nat.reduceLeDiff,Nat.reduceLT,Nat.reduceEqDiff,Nat.reduceBEq,Nat.reduceBNe,Int.reduceNeg,Int.reduceToNat]
    · have hrr:r = R:=by omega
      have hri:¬ (r:Int) < R:=by omega
      clear hK2
      have hfin:bkFold w (B.take (i + 1)) = (l2.map Bck.b,G++[⟨⟨lv,kd,x,y,bw,bh⟩,O.length⟩]):=by
        rw [hstep,bkStep,hl2,hrr]
        simp only [hrows,Int.toNat_natCast]
      have hgm:(G++[(⟨⟨lv,kd,x,y,bw,bh⟩,O.length⟩:Gr)]).map Gr.rc = G.map Gr.rc++[[.int .i64 lv,.int .i64 kd,.int .i64 x,.int .i64 y,.int .i64 bw,.int .i64 bh,.int .i64 O.length,.int .i64 C,.int .i64 R]]:=by
        rw [List.map_append]
        simp only [List.map_cons,List.map_nil,Gr.rc,hcols,hrows]
      have hfin2:(bkFold w (B.take (i + 1))).2.map Gr.rc = G.map Gr.rc++[[.int .i64 lv,.int .i64 kd,.int .i64 x,.int .i64 y,.int .i64 bw,.int .i64 bh,.int .i64 O.length,.int .i64 C,.int .i64 R]]:=by rw [hfin,hgm]
      simp -implicitDefEqProofs only [push_cast,zz,BEq.rfl,ite_true,ite_false,List.append_nil,reduceCtorEq,Nat.reduceAdd,Nat.reduceSub,Nat.reduceMul,Nat.reduceLeDiff,Nat.reduceLT,Nat.reduceEqDiff,Nat.reduceBEq,Nat.reduceBNe,Int.reduceNeg,Int.reduceToNat,b48_2,hri,r48_10,r48_11,hgl,hll]
      intro X3
      repeat (refine And.intro (by first | omega | trivial | (intros; omega)) ?_)
      refine hK (i + 1,l2,M2,X3 3 26) ⟨show i + 1≤B.length by omega,by rw [hfin],hon2⟩ (show B.length - (i + 1) < B.length - i by omega) _ _ (Sub.pt ?_)
      simp -implicitDefEqProofs only [push_cast,zz,BEq.rfl,ite_true,ite_false,List.append_nil,reduceCtorEq,Nat.reduceAdd,Nat.reduceSub,Nat.reduceMul,Nat.reduceLeDiff,Nat.reduceLT,Nat.reduceEqDiff,Nat.reduceBEq,Nat.reduceBNe,Int.reduceNeg,Int.reduceToNat,hfin2,esz]
  · have hii:i = B.length:=by omega
    have hic:¬ (i:Int) < B.length:=by omega
    clear hK
    rw [hii,List.take_length] at hl
    have hll:l.length = (bkts w h n).length:=by rw [hbk,← hl,List.length_map]
    have hbo:=bkOf_eq hl hon
    rw [← hbk] at hbo
    have h10:∀ i:Nat,¬ i + 1 = 0:=fun i => by omega
    simp -implicitDefEqProofs only [push_cast,zz,BEq.rfl,ite_true,ite_false,List.append_nil,reduceCtorEq,Nat.reduceAdd,Nat.reduceSub,Nat.reduceMul,Nat.reduceLeDiff,Nat.reduceLT,Nat.reduceEqDiff,Nat.reduceBEq,Nat.reduceBNe,Int.reduceNeg,Int.reduceToNat,b48_1,hic,r48_12]
    refine postF.mk' (fun j => if j = 0 then M else (l.getD (j - 1) default).L) [some 24] ?_
    simp -implicitDefEqProofs only [push_cast,zz,BEq.rfl,ite_true,ite_false,List.append_nil,reduceCtorEq,Nat.reduceAdd,Nat.reduceSub,Nat.reduceMul,Nat.reduceLeDiff,Nat.reduceLT,Nat.reduceEqDiff,Nat.reduceBEq,Nat.reduceBNe,Int.reduceNeg,Int.reduceToNat,fs48,h10,Nat.add_sub_cancel,hbo,hll]
def ent48:Entry:=spOf fs48 inv54
theorem e48:EntryOk Try.prog 48 ent48:=entry_of ok48 inv54
@[push_cast] theorem ent48_app (us:List SV) (look:Look) (x:Nat→Xf.Loc) (k:Nat):ent48 us look x k = spOf fs48 inv54 us look x k:=rfl
def ir92:IR :=
  .seq (.reg false [⟨some 4,none,⟨[],[]⟩,.mov (.k (.bool false))⟩] [4] []) (.seq (.reg true [⟨some 5,none,⟨[],[]⟩,.mov (.t 0)⟩,
    ⟨some 6,none,⟨[],[]⟩,.nilc (.t 5)⟩,
    ⟨some 7,none,⟨[],[]⟩,.fld (.t 6) 2⟩,
    ⟨some 8,none,⟨[],[]⟩,.ld false none 0 0 (.t 7)⟩,
    ⟨some 9,none,⟨[],[]⟩,.mov (.t 1)⟩,
    ⟨some 10,none,⟨[],[]⟩,.idxS (.t 8) (.t 9) 1⟩,
    ⟨some 11,none,⟨[],[]⟩,.ld true none 0 0 (.t 10)⟩,
    ⟨some 12,none,⟨[],[]⟩,.bin 0 .gtr (.t 11) (.k (.int .i64 0))⟩,
    ⟨some 13,none,⟨[],[]⟩,.mov (.t 12)⟩,
    ⟨some 14,some (13,true),⟨[],[]⟩,.mov (.t 0)⟩,
    ⟨some 15,some (13,true),⟨[],[]⟩,.nilc (.t 14)⟩,
    ⟨some 16,some (13,true),⟨[],[]⟩,.fld (.t 15) 2⟩,
    ⟨some 17,some (13,true),⟨[],[]⟩,.ld false none 0 0 (.t 16)⟩,
    ⟨some 18,some (13,true),⟨[],[]⟩,.mov (.t 1)⟩,
    ⟨some 19,some (13,true),⟨[],[]⟩,.idxS (.t 17) (.t 18) 1⟩,
    ⟨some 20,some (13,true),⟨[],[]⟩,.ld true none 0 0 (.t 19)⟩,
    ⟨some 21,some (13,true),⟨[],[]⟩,.mov (.t 0)⟩,
    ⟨some 22,some (13,true),⟨[],[]⟩,.nilc (.t 21)⟩,
    ⟨some 23,some (13,true),⟨[],[]⟩,.fld (.t 22) 3⟩,
    ⟨some 24,some (13,true),⟨[],[]⟩,.ld false none 0 0 (.t 23)⟩,
    ⟨some 25,some (13,true),⟨[],[]⟩,.bin 0 .leq (.t 20) (.t 24)⟩,
    ⟨some 26,none,⟨[],[]⟩,.pick (.t 13) (.t 25) (.k (.bool false))⟩,
    ⟨some 4,none,⟨[],[]⟩,.mov (.t 26)⟩] [0,1,5,6,7,8,9,10,11,12,13,14,15,16,17,18,19,20,21,22,23,24,25,26] []) (.ret))
set_option maxRecDepth 4000 in
theorem comp92:(Try.f92.body.bind fun c => compC tab isP chkAll ir92 c) = some ir92:=by kernel_rfl
def ir93:IR :=
  .seq (.reg false [⟨some 4,none,⟨[],[]⟩,.mov (.k (.int .i64 0))⟩] [4] []) (.seq (.seq (.reg true [⟨some 5,none,⟨[],[]⟩,.mov (.t 0)⟩,
    ⟨some 6,none,⟨[],[]⟩,.nilc (.t 5)⟩,
    ⟨some 7,none,⟨[],[]⟩,.fld (.t 6) 2⟩,
    ⟨some 8,none,⟨[],[]⟩,.ld false none 0 0 (.t 7)⟩,
    ⟨some 9,none,⟨[],[]⟩,.mov (.t 1)⟩,
    ⟨some 10,none,⟨[],[]⟩,.idxS (.t 8) (.t 9) 1⟩,
    ⟨some 11,none,⟨[],[]⟩,.ld true none 0 0 (.t 10)⟩,
    ⟨some 12,none,⟨[],[]⟩,.mov (.t 0)⟩,
    ⟨some 13,none,⟨[],[]⟩,.nilc (.t 12)⟩,
    ⟨some 14,none,⟨[],[]⟩,.fld (.t 13) 3⟩,
    ⟨some 15,none,⟨[],[]⟩,.ld false none 0 0 (.t 14)⟩,
    ⟨some 16,none,⟨[],[]⟩,.bin 0 .eql (.t 11) (.t 15)⟩] [0,1,5,6,7,8,9,10,11,12,13,14,15] []) (.cond (.t 16) (.seq (.reg false [⟨some 4,none,⟨[],[]⟩,.mov (.k (.int .i64 6))⟩] [16] []) (.ret)) (.skip))) (.seq (.reg false [⟨some 4,none,⟨[],[]⟩,.mov (.k (.int .i64 7))⟩] [16] []) (.ret)))
set_option maxRecDepth 4000 in
theorem comp93:(Try.f93.body.bind fun c => compC tab isP chkAll ir93 c) = some ir93:=by kernel_rfl
def ir94:IR :=
  .seq (.reg false [⟨some 4,none,⟨[],[]⟩,.mov (.k (.int .i64 0))⟩] [4] []) (.seq (.reg false [⟨some 5,none,⟨[],[]⟩,.mov (.k (.int .i64 8))⟩] [] []) (.seq (.seq (.reg true [⟨some 6,none,⟨[],[]⟩,.mov (.t 1)⟩,
    ⟨some 7,none,⟨[],[]⟩,.mov (.t 0)⟩,
    ⟨some 8,none,⟨[],[]⟩,.nilc (.t 7)⟩,
    ⟨some 9,none,⟨[],[]⟩,.fld (.t 8) 8⟩,
    ⟨some 10,none,⟨[],[]⟩,.ld false none 0 0 (.t 9)⟩,
    ⟨some 11,none,⟨[],[]⟩,.bin 0 .rem (.t 6) (.t 10)⟩,
    ⟨some 12,none,⟨[],[]⟩,.bin 0 .gtr (.t 11) (.k (.int .i64 0))⟩,
    ⟨some 13,none,⟨[],[]⟩,.mov (.t 12)⟩,
    ⟨some 14,some (13,true),⟨[],[]⟩,.mov (.t 0)⟩,
    ⟨some 15,some (13,true),⟨[],[]⟩,.nilc (.t 14)⟩,
    ⟨some 16,some (13,true),⟨[],[]⟩,.fld (.t 15) 7⟩,
    ⟨some 17,some (13,true),⟨[],[]⟩,.ld false none 0 0 (.t 16)⟩,
    ⟨some 18,some (13,true),⟨[],[]⟩,.mov (.t 1)⟩,
    ⟨some 19,some (13,true),⟨[],[]⟩,.bin 0 .sub (.t 18) (.k (.int .i64 1))⟩,
    ⟨some 20,some (13,true),⟨[],[]⟩,.idxS (.t 17) (.t 19) 1⟩,
    ⟨some 21,some (13,true),⟨[],[]⟩,.ld true none 0 0 (.t 20)⟩,
    ⟨some 22,some (13,true),⟨[],[]⟩,.mov (.t 0)⟩,
    ⟨some 23,some (13,true),⟨[],[]⟩,.nilc (.t 22)⟩,
    ⟨some 24,some (13,true),⟨[],[]⟩,.fld (.t 23) 7⟩,
    ⟨some 25,some (13,true),⟨[],[]⟩,.ld false none 0 0 (.t 24)⟩,
    ⟨some 26,some (13,true),⟨[],[]⟩,.mov (.t 1)⟩,
    ⟨some 27,some (13,true),⟨[],[]⟩,.idxS (.t 25) (.t 26) 1⟩,
    ⟨some 28,some (13,true),⟨[],[]⟩,.ld true none 0 0 (.t 27)⟩,
    ⟨some 29,some (13,true),⟨[],[]⟩,.bin 0 .eql (.t 21) (.t 28)⟩,
    ⟨some 30,none,⟨[],[]⟩,.pick (.t 13) (.t 29) (.k (.bool false))⟩,
    ⟨some 31,none,⟨[],[]⟩,.mov (.t 30)⟩,
    ⟨some 32,some (31,true),⟨[],[]⟩,.mov (.t 0)⟩,
    ⟨some 33,some (31,true),⟨[],[]⟩,.nilc (.t 32)⟩,
    ⟨some 34,some (31,true),⟨[],[]⟩,.fld (.t 33) 2⟩,
    ⟨some 35,some (31,true),⟨[],[]⟩,.ld false none 0 0 (.t 34)⟩,
    ⟨some 36,some (31,true),⟨[],[]⟩,.mov (.t 1)⟩,
    ⟨some 37,some (31,true),⟨[],[]⟩,.bin 0 .sub (.t 36) (.k (.int .i64 1))⟩,
    ⟨some 38,some (31,true),⟨[],[]⟩,.idxS (.t 35) (.t 37) 1⟩,
    ⟨some 39,some (31,true),⟨[],[]⟩,.ld true none 0 0 (.t 38)⟩,
    ⟨some 40,some (31,true),⟨[],[]⟩,.bin 0 .gtr (.t 39) (.k (.int .i64 0))⟩,
    ⟨some 41,none,⟨[],[]⟩,.pick (.t 31) (.t 40) (.k (.bool false))⟩] [6,7,8,9,10,11,12,13,14,15,16,17,18,19,20,21,22,23,24,25,26,27,28,29,30,31,32,33,34,35,36,37,38,39,40] []) (.cond (.t 41) (.reg false [⟨some 42,none,⟨[],[]⟩,.mov (.t 5)⟩,
    ⟨some 43,none,⟨[],[]⟩,.bin 0 .add (.t 42) (.k (.int .i64 1))⟩,
    ⟨some 5,none,⟨[],[]⟩,.mov (.t 43)⟩] [41,42,43] []) (.skip))) (.seq (.seq (.reg true [⟨some 44,none,⟨[],[]⟩,.mov (.t 1)⟩,
    ⟨some 45,none,⟨[],[]⟩,.mov (.t 0)⟩,
    ⟨some 46,none,⟨[],[]⟩,.nilc (.t 45)⟩,
    ⟨some 47,none,⟨[],[]⟩,.fld (.t 46) 8⟩,
    ⟨some 48,none,⟨[],[]⟩,.ld false none 0 0 (.t 47)⟩,
    ⟨some 49,none,⟨[],[]⟩,.bin 0 .geq (.t 44) (.t 48)⟩,
    ⟨some 50,none,⟨[],[]⟩,.mov (.t 49)⟩,
    ⟨some 51,some (50,true),⟨[],[]⟩,.mov (.t 0)⟩,
    ⟨some 52,some (50,true),⟨[],[]⟩,.nilc (.t 51)⟩,
    ⟨some 53,some (50,true),⟨[],[]⟩,.fld (.t 52) 7⟩,
    ⟨some 54,some (50,true),⟨[],[]⟩,.ld false none 0 0 (.t 53)⟩,
    ⟨some 55,some (50,true),⟨[],[]⟩,.mov (.t 1)⟩,
    ⟨some 56,some (50,true),⟨[],[]⟩,.mov (.t 0)⟩,
    ⟨some 57,some (50,true),⟨[],[]⟩,.nilc (.t 56)⟩,
    ⟨some 58,some (50,true),⟨[],[]⟩,.fld (.t 57) 8⟩,
    ⟨some 59,some (50,true),⟨[],[]⟩,.ld false none 0 0 (.t 58)⟩,
    ⟨some 60,some (50,true),⟨[],[]⟩,.bin 0 .sub (.t 55) (.t 59)⟩,
    ⟨some 61,some (50,true),⟨[],[]⟩,.idxS (.t 54) (.t 60) 1⟩,
    ⟨some 62,some (50,true),⟨[],[]⟩,.ld true none 0 0 (.t 61)⟩,
    ⟨some 63,some (50,true),⟨[],[]⟩,.mov (.t 0)⟩,
    ⟨some 64,some (50,true),⟨[],[]⟩,.nilc (.t 63)⟩,
    ⟨some 65,some (50,true),⟨[],[]⟩,.fld (.t 64) 7⟩,
    ⟨some 66,some (50,true),⟨[],[]⟩,.ld false none 0 0 (.t 65)⟩,
    ⟨some 67,some (50,true),⟨[],[]⟩,.mov (.t 1)⟩,
    ⟨some 68,some (50,true),⟨[],[]⟩,.idxS (.t 66) (.t 67) 1⟩,
    ⟨some 69,some (50,true),⟨[],[]⟩,.ld true none 0 0 (.t 68)⟩,
    ⟨some 70,some (50,true),⟨[],[]⟩,.bin 0 .eql (.t 62) (.t 69)⟩,
    ⟨some 71,none,⟨[],[]⟩,.pick (.t 50) (.t 70) (.k (.bool false))⟩,
    ⟨some 72,none,⟨[],[]⟩,.mov (.t 71)⟩,
    ⟨some 73,some (72,true),⟨[],[]⟩,.mov (.t 0)⟩,
    ⟨some 74,some (72,true),⟨[],[]⟩,.nilc (.t 73)⟩,
    ⟨some 75,some (72,true),⟨[],[]⟩,.fld (.t 74) 2⟩,
    ⟨some 76,some (72,true),⟨[],[]⟩,.ld false none 0 0 (.t 75)⟩,
    ⟨some 77,some (72,true),⟨[],[]⟩,.mov (.t 1)⟩,
    ⟨some 78,some (72,true),⟨[],[]⟩,.mov (.t 0)⟩,
    ⟨some 79,some (72,true),⟨[],[]⟩,.nilc (.t 78)⟩,
    ⟨some 80,some (72,true),⟨[],[]⟩,.fld (.t 79) 8⟩,
    ⟨some 81,some (72,true),⟨[],[]⟩,.ld false none 0 0 (.t 80)⟩,
    ⟨some 82,some (72,true),⟨[],[]⟩,.bin 0 .sub (.t 77) (.t 81)⟩,
    ⟨some 83,some (72,true),⟨[],[]⟩,.idxS (.t 76) (.t 82) 1⟩,
    ⟨some 84,some (72,true),⟨[],[]⟩,.ld true none 0 0 (.t 83)⟩,
    ⟨some 85,some (72,true),⟨[],[]⟩,.bin 0 .gtr (.t 84) (.k (.int .i64 0))⟩,
    ⟨some 86,none,⟨[],[]⟩,.pick (.t 72) (.t 85) (.k (.bool false))⟩] [0,1,41,44,45,46,47,48,49,50,51,52,53,54,55,56,57,58,59,60,61,62,63,64,65,66,67,68,69,70,71,72,73,74,75,76,77,78,79,80,81,82,83,84,85] []) (.cond (.t 86) (.reg false [⟨some 87,none,⟨[],[]⟩,.mov (.t 5)⟩,
    ⟨some 88,none,⟨[],[]⟩,.bin 0 .add (.t 87) (.k (.int .i64 1))⟩,
    ⟨some 5,none,⟨[],[]⟩,.mov (.t 88)⟩] [86,87,88] []) (.skip))) (.seq (.reg false [⟨some 89,none,⟨[],[]⟩,.mov (.t 5)⟩,
    ⟨some 4,none,⟨[],[]⟩,.mov (.t 89)⟩] [5,86,89] []) (.ret)))))
set_option maxRecDepth 4000 in
theorem comp94:(Try.f94.body.bind fun c => compC tab isP chkAll ir94 c) = some ir94:=by kernel_rfl
structure StL where
  L:Xf.Loc
  Z:Xf.Loc
  M:Xf.Loc
  I:Xf.Loc
  K:Xf.Loc
  S:Xf.Loc
  B:Xf.Loc
structure StS where
  size:List Int
  minus:List Bool
  since:List Int
  now:Int
  list:List Bck
  kind:Int
  nst:Int
  band:List Int
  w:Int
def stV (p:StL) (s:StS):List SV:=[.sl 1 p.Z 1 0 s.size.length,.sl 2 p.M 1 0 s.minus.length,.sl 3 p.I 1 0 s.since.length,.int .i64 s.now,slB 4 p.K s.list.length,.int .i64 s.kind,.sl 5 p.S 1 0 s.nst,.sl 6 p.B 1 0 s.band.length,.int .i64 s.w]
def stM (p:StL) (s:StS):Mem:=[some (.ro,p.L,.cells (stV p s)),some (.ro,p.Z,.ints .i64 s.size),some (.ro,p.M,.bools s.minus),some (.ro,p.I,.ints .i64 s.since),some (.ro,p.K,.recs 4 false [] (s.list.map Bck.rc)),none,some (.ro,p.B,.ints .i64 s.band)]
def getBk:List (List RC)→Option (List Bck)
  | [] => some []
  | [.row L .i64 xs,.int .i64 w,.int .i64 q,.bool on] :: l => match getBk l with | some r => some (⟨L,⟨xs,w,q⟩,on⟩ :: r) | none => none
  | _ => none
theorem getBk_map:∀ l:List Bck,getBk (l.map Bck.rc) = some l
  | [] => rfl
  | g :: l => by
    simp only [List.map_cons,Bck.rc,getBk]
    have:=getBk_map l
    rw [this]
@[push_cast] theorem getBk_map' (l:List Bck):getBk (l.map Bck.rc) = some l:=getBk_map l
def rowK (look:Look) (d:Nat):Option (Xf.Loc × List Bck) :=
  match rowR (look d) with
    | some (L,4,_,r) => match getBk r with | some l => some (L,l) | none => none
    | _ => none
def rowBl:Option ME→Option (Xf.Loc × List Bool)
  | some (_,L,.bools xs) => some (L,xs)
  | _ => none
def invSt (look:Look) (c:Nat):Option (StL × StS × List Nat) :=
  match rowC (look c) with
  | some (L,[.sl a _ 1 0 _,.sl b _ 1 0 _,.sl d _ 1 0 _,.int .i64 now,.sl e _ _ 0 _,.int .i64 kind,.sl f S 1 0 nst,.sl g _ 1 0 _,.int .i64 w]) =>
    match rowI (look a),rowBl (look b),rowI (look d),rowK look e,rowI (look g) with
    | some (Z,.i64,size),some (M,minus),some (I,.i64,since),some (K,list),some (B,.i64,band) => some (⟨L,Z,M,I,K,S,B⟩,⟨size,minus,since,now,list,kind,nst,band,w⟩,[c,a,b,d,e,f,g])
    | _,_,_,_,_ => none
  | _ => none
attribute [push_cast] rowK rowBl invSt
def stWf (s:StS) (n:Nat):Prop:=s.size.length = n∧s.minus.length = n∧s.since.length = n∧s.band.length = n∧n≤8192∧0≤s.now∧s.now≤1000∧s.list.length≤50000∧(0 < n→0 < s.w)∧s.w≤200 ∧
  ∀ b ∈ s.list,-1≤b.b.parent∧b.b.parent < s.list.length∧b.b.places.length≤16∧∀ x ∈ b.b.places,0≤x∧x < n
structure SAtA where
  p:StL
  s:StS
  at_:Int
def sAtOk (a:SAtA):Prop:=stWf a.s a.s.since.length∧0≤a.at_∧a.at_ < a.s.since.length
def invAt:List SV→Look→Option (SAtA × List Nat)
  | [.ptr c _ 0 0 0,.int .i64 i],look => match invSt look c with
    | some (p,s,g) => some (⟨p,s,i⟩,g)
    | none => none
  | _,_ => none
attribute [push_cast] invAt
def oldP (s:StS) (i:Int):Prop:=0 < rd s.since i∧rd s.since i≤s.now
instance oldP_dec (s:StS) (i:Int):Decidable (oldP s i):=by unfold oldP; infer_instance
def fs92:FS where
  A:=SAtA
  args:=fun a => [.ptr 0 a.p.L 0 0 0,.int .i64 a.at_]
  mem:=fun a => stM a.p a.s
  pre:=sAtOk
  res:=fun a _ => .bool (decide (oldP a.s a.at_))
  out:=fun _ _ => []
  new:=fun _ _ => []
theorem ok92:FSOk Try.prog 92 fs92:=by
  refine ⟨⟨_,Try.func92,by kernel_rfl,by kernel_rfl⟩,fun a => ⟨by simp [fs92,stM,push_cast,noMine,argOwn,Chunk.frArg],by simp [fs92,stM,push_cast,outOk,Chunk.ext],fun x => .inl (by simp [fs92,stM,push_cast,frNew,frOut,Chunk.fr])⟩,fun a hp => ?_⟩
  obtain ⟨p,s,i⟩:=a
  obtain ⟨h1,h2,h3⟩:stWf s s.since.length∧0≤i∧i < s.since.length:=hp
  change Tri Try.prog 92 [.ptr 0 p.L 0 0 0,.int .i64 i] (stM p s) (postF fs92 ⟨p,s,i⟩)
  have hd:decide (oldP s i) = (if 0 < rd s.since i then decide (rd s.since i≤s.now) else false):=by
    by_cases h:0 < rd s.since i <;> simp [oldP,h]
  refine tri_evS (hyp (l:=[]) (lp:=[]) trivial trivial) Try.func92 comp92 (rs:=[.tmp 4]) (by rfl) Try.ntmps92 10 ?_
  by_cases h:0 < rd s.since i
  · rw [if_pos h] at hd
    simp -implicitDefEqProofs only [push_cast,zz,BEq.rfl,ite_true,ite_false,List.append_nil,reduceCtorEq,Nat.reduceAdd,Nat.reduceSub,Nat.reduceMul,Nat.reduceLeDiff,Nat.reduceLT,Nat.reduceEqDiff,Nat.reduceBEq,Nat.reduceBNe,Int.reduceNeg,Int.reduceToNat,ir92,stM,stV,h]
    repeat (refine And.intro (by first | omega | trivial | (intros; omega)) ?_)
    refine postF.mk' (fun _ => default) [some 0,some 1,some 2,some 3,some 4,none,some 6] ?_
    simp -implicitDefEqProofs only [push_cast,zz,BEq.rfl,ite_true,ite_false,List.append_nil,reduceCtorEq,Nat.reduceAdd,Nat.reduceSub,Nat.reduceMul,Nat.reduceLeDiff,Nat.reduceLT,Nat.reduceEqDiff,Nat.reduceBEq,Nat.reduceBNe,Int.reduceNeg,Int.reduceToNat,fs92,stM,stV,hd]
  · rw [if_neg h] at hd
    simp -implicitDefEqProofs only [push_cast,zz,BEq.rfl,ite_true,ite_false,List.append_nil,reduceCtorEq,Nat.reduceAdd,Nat.reduceSub,Nat.reduceMul,Nat.reduceLeDiff,Nat.reduceLT,Nat.reduceEqDiff,Nat.reduceBEq,Nat.reduceBNe,Int.reduceNeg,Int.reduceToNat,ir92,stM,stV,h]
    repeat (refine And.intro (by first | omega | trivial | (intros; omega)) ?_)
    refine postF.mk' (fun _ => default) [some 0,some 1,some 2,some 3,some 4,none,some 6] ?_
    simp -implicitDefEqProofs only [push_cast,zz,BEq.rfl,ite_true,ite_false,List.append_nil,reduceCtorEq,Nat.reduceAdd,Nat.reduceSub,Nat.reduceMul,Nat.reduceLeDiff,Nat.reduceLT,Nat.reduceEqDiff,Nat.reduceBEq,Nat.reduceBNe,Int.reduceNeg,Int.reduceToNat,fs92,stM,stV,hd]
def ent92:Entry:=spOf fs92 invAt
theorem e92:EntryOk Try.prog 92 ent92:=entry_of ok92 invAt
@[push_cast] theorem ent92_app (us:List SV) (look:Look) (x:Nat→Xf.Loc) (k:Nat):ent92 us look x k = spOf fs92 invAt us look x k:=rfl
def dctxP (s:StS) (i:Int):Int:=if rd s.since i = s.now then 6 else 7
def fs93:FS where
  A:=SAtA
  args:=fun a => [.ptr 0 a.p.L 0 0 0,.int .i64 a.at_]
  mem:=fun a => stM a.p a.s
  pre:=sAtOk
  res:=fun a _ => .int .i64 (dctxP a.s a.at_)
  out:=fun _ _ => []
  new:=fun _ _ => []
theorem ok93:FSOk Try.prog 93 fs93:=by
  refine ⟨⟨_,Try.func93,by kernel_rfl,by kernel_rfl⟩,fun a => ⟨by simp [fs93,stM,push_cast,noMine,argOwn,Chunk.frArg],by simp [fs93,stM,push_cast,outOk,Chunk.ext],fun x => .inl (by simp [fs93,stM,push_cast,frNew,frOut,Chunk.fr])⟩,fun a hp => ?_⟩
  obtain ⟨p,s,i⟩:=a
  obtain ⟨h1,h2,h3⟩:stWf s s.since.length∧0≤i∧i < s.since.length:=hp
  change Tri Try.prog 93 [.ptr 0 p.L 0 0 0,.int .i64 i] (stM p s) (postF fs93 ⟨p,s,i⟩)
  refine tri_evS (hyp (l:=[]) (lp:=[]) trivial trivial) Try.func93 comp93 (rs:=[.tmp 4]) (by rfl) Try.ntmps93 10 ?_
  by_cases h:rd s.since i = s.now
  · have hd:dctxP s i = 6:=if_pos h
    simp -implicitDefEqProofs only [push_cast,zz,BEq.rfl,ite_true,ite_false,List.append_nil,reduceCtorEq,Nat.reduceAdd,Nat.reduceSub,Nat.reduceMul,Nat.reduceLeDiff,Nat.reduceLT,Nat.reduceEqDiff,Nat.reduceBEq,Nat.reduceBNe,Int.reduceNeg,Int.reduceToNat,ir93,stM,stV,h]
    repeat (refine And.intro (by first | omega | trivial | (intros; omega)) ?_)
    refine postF.mk' (fun _ => default) [some 0,some 1,some 2,some 3,some 4,none,some 6] ?_
    simp -implicitDefEqProofs only [push_cast,zz,BEq.rfl,ite_true,ite_false,List.append_nil,reduceCtorEq,Nat.reduceAdd,Nat.reduceSub,Nat.reduceMul,Nat.reduceLeDiff,Nat.reduceLT,Nat.reduceEqDiff,Nat.reduceBEq,Nat.reduceBNe,Int.reduceNeg,Int.reduceToNat,fs93,stM,stV,hd]
  · have hd:dctxP s i = 7:=if_neg h
    simp -implicitDefEqProofs only [push_cast,zz,BEq.rfl,ite_true,ite_false,List.append_nil,reduceCtorEq,Nat.reduceAdd,Nat.reduceSub,Nat.reduceMul,Nat.reduceLeDiff,Nat.reduceLT,Nat.reduceEqDiff,Nat.reduceBEq,Nat.reduceBNe,Int.reduceNeg,Int.reduceToNat,ir93,stM,stV,h]
    repeat (refine And.intro (by first | omega | trivial | (intros; omega)) ?_)
    refine postF.mk' (fun _ => default) [some 0,some 1,some 2,some 3,some 4,none,some 6] ?_
    simp -implicitDefEqProofs only [push_cast,zz,BEq.rfl,ite_true,ite_false,List.append_nil,reduceCtorEq,Nat.reduceAdd,Nat.reduceSub,Nat.reduceMul,Nat.reduceLeDiff,Nat.reduceLT,Nat.reduceEqDiff,Nat.reduceBEq,Nat.reduceBNe,Int.reduceNeg,Int.reduceToNat,fs93,stM,stV,hd]
def ent93:Entry:=spOf fs93 invAt
theorem e93:EntryOk Try.prog 93 ent93:=entry_of ok93 invAt
@[push_cast] theorem ent93_app (us:List SV) (look:Look) (x:Nat→Xf.Loc) (k:Nat):ent93 us look x k = spOf fs93 invAt us look x k:=rfl
def leftP (s:StS) (i:Int):Prop:=0 < i % s.w∧rd s.band (i - 1) = rd s.band i∧0 < rd s.since (i - 1)
def upP (s:StS) (i:Int):Prop:=s.w≤i∧rd s.band (i - s.w) = rd s.band i∧0 < rd s.since (i - s.w)
instance leftP_dec (s:StS) (i:Int):Decidable (leftP s i):=by unfold leftP; infer_instance
instance upP_dec (s:StS) (i:Int):Decidable (upP s i):=by unfold upP; infer_instance
def nctxP (s:StS) (i:Int):Int:=8 + (if leftP s i then 1 else 0) + (if upP s i then 1 else 0)
def fs94:FS where
  A:=SAtA
  args:=fun a => [.ptr 0 a.p.L 0 0 0,.int .i64 a.at_]
  mem:=fun a => stM a.p a.s
  pre:=sAtOk
  res:=fun a _ => .int .i64 (nctxP a.s a.at_)
  out:=fun _ _ => []
  new:=fun _ _ => []
set_option maxHeartbeats 1000000 in
theorem ok94:FSOk Try.prog 94 fs94:=by
  refine ⟨⟨_,Try.func94,by kernel_rfl,by kernel_rfl⟩,fun a => ⟨by simp [fs94,stM,push_cast,noMine,argOwn,Chunk.frArg],by simp [fs94,stM,push_cast,outOk,Chunk.ext],fun x => .inl (by simp [fs94,stM,push_cast,frNew,frOut,Chunk.fr])⟩,fun a hp => ?_⟩
  obtain ⟨p,s,i⟩:=a
  obtain ⟨h1,h2,h3⟩:stWf s s.since.length∧0≤i∧i < s.since.length:=hp
  obtain ⟨o1,o2,o3,o4,o5,o6,o7,o8,o9,o10,o11⟩:=h1
  have o9:=o9 (by omega)
  change Tri Try.prog 94 [.ptr 0 p.L 0 0 0,.int .i64 i] (stM p s) (postF fs94 ⟨p,s,i⟩)
  have hm:i % s.w≤i:=by
    have:=Int.emod_add_mul_ediv i s.w
    have:=Int.mul_nonneg (Int.le_of_lt o9) (Int.ediv_nonneg h2 (Int.le_of_lt o9))
    omega
  have hm0:0≤i % s.w:=Int.emod_nonneg _ (by omega)
  have hn:nctxP s i = 8 + (if leftP s i then 1 else 0) + (if upP s i then 1 else 0):=rfl
  refine tri_evS (hyp (l:=[]) (lp:=[]) trivial trivial) Try.func94 comp94 (rs:=[.tmp 4]) (by rfl) Try.ntmps94 10 ?_
  by_cases hL:leftP s i
  · obtain ⟨l1,l2,l3⟩:=id hL
    rw [if_pos hL] at hn
    by_cases hU:upP s i
    · obtain ⟨u1,u2,u3⟩:=id hU
      rw [if_pos hU] at hn
      simp -implicitDefEqProofs only [push_cast,zz,BEq.rfl,ite_true,ite_false,List.append_nil,reduceCtorEq,Nat.reduceAdd,Nat.reduceSub,Nat.reduceMul,Nat.reduceLeDiff,Nat.reduceLT,Nat.reduceEqDiff,Nat.reduceBEq,Nat.reduceBNe,Int.reduceNeg,Int.reduceToNat,ir94,stM,stV,l1,l2,l3,u1,u2,u3]
      repeat (refine And.intro (by first | omega | trivial | (intros; omega)) ?_)
      refine postF.mk' (fun _ => default) [some 0,some 1,some 2,some 3,some 4,none,some 6] ?_
      simp -implicitDefEqProofs only [push_cast,zz,BEq.rfl,ite_true,ite_false,List.append_nil,reduceCtorEq,Nat.reduceAdd,Nat.reduceSub,Nat.reduceMul,Nat.reduceLeDiff,Nat.reduceLT,Nat.reduceEqDiff,Nat.reduceBEq,Nat.reduceBNe,Int.reduceNeg,Int.reduceToNat,fs94,stM,stV,hn]
    · have hU':¬ (s.w≤i∧rd s.band (i - s.w) = rd s.band i∧0 < rd s.since (i - s.w)):=hU
      rw [if_neg hU] at hn
      simp -implicitDefEqProofs only [push_cast,zz,BEq.rfl,ite_true,ite_false,List.append_nil,reduceCtorEq,Nat.reduceAdd,Nat.reduceSub,Nat.reduceMul,Nat.reduceLeDiff,Nat.reduceLT,Nat.reduceEqDiff,Nat.reduceBEq,Nat.reduceBNe,Int.reduceNeg,Int.reduceToNat,ir94,stM,stV,l1,l2,l3,hU']
      repeat (refine And.intro (by first | omega | trivial | (intros; omega)) ?_)
      refine postF.mk' (fun _ => default) [some 0,some 1,some 2,some 3,some 4,none,some 6] ?_
      simp -implicitDefEqProofs only [push_cast,zz,BEq.rfl,ite_true,ite_false,List.append_nil,reduceCtorEq,Nat.reduceAdd,Nat.reduceSub,Nat.reduceMul,Nat.reduceLeDiff,Nat.reduceLT,Nat.reduceEqDiff,Nat.reduceBEq,Nat.reduceBNe,Int.reduceNeg,Int.reduceToNat,fs94,stM,stV,hn]
  · have hL':¬ (0 < i % s.w∧rd s.band (i - 1) = rd s.band i∧0 < rd s.since (i - 1)):=hL
    rw [if_neg hL] at hn
    by_cases hU:upP s i
    · obtain ⟨u1,u2,u3⟩:=id hU
      rw [if_pos hU] at hn
      simp -implicitDefEqProofs only [push_cast,zz,BEq.rfl,ite_true,ite_false,List.append_nil,reduceCtorEq,Nat.reduceAdd,Nat.reduceSub,Nat.reduceMul,Nat.reduceLeDiff,Nat.reduceLT,Nat.reduceEqDiff,Nat.reduceBEq,Nat.reduceBNe,Int.reduceNeg,Int.reduceToNat,ir94,stM,stV,hL',u1,u2,u3]
      repeat (refine And.intro (by first | omega | trivial | (intros; omega)) ?_)
      refine postF.mk' (fun _ => default) [some 0,some 1,some 2,some 3,some 4,none,some 6] ?_
      simp -implicitDefEqProofs only [push_cast,zz,BEq.rfl,ite_true,ite_false,List.append_nil,reduceCtorEq,Nat.reduceAdd,Nat.reduceSub,Nat.reduceMul,Nat.reduceLeDiff,Nat.reduceLT,Nat.reduceEqDiff,Nat.reduceBEq,Nat.reduceBNe,Int.reduceNeg,Int.reduceToNat,fs94,stM,stV,hn]
    · have hU':¬ (s.w≤i∧rd s.band (i - s.w) = rd s.band i∧0 < rd s.since (i - s.w)):=hU
      rw [if_neg hU] at hn
      simp -implicitDefEqProofs only [push_cast,zz,BEq.rfl,ite_true,ite_false,List.append_nil,reduceCtorEq,Nat.reduceAdd,Nat.reduceSub,Nat.reduceMul,Nat.reduceLeDiff,Nat.reduceLT,Nat.reduceEqDiff,Nat.reduceBEq,Nat.reduceBNe,Int.reduceNeg,Int.reduceToNat,ir94,stM,stV,hL',hU']
      repeat (refine And.intro (by first | omega | trivial | (intros; omega)) ?_)
      refine postF.mk' (fun _ => default) [some 0,some 1,some 2,some 3,some 4,none,some 6] ?_
      simp -implicitDefEqProofs only [push_cast,zz,BEq.rfl,ite_true,ite_false,List.append_nil,reduceCtorEq,Nat.reduceAdd,Nat.reduceSub,Nat.reduceMul,Nat.reduceLeDiff,Nat.reduceLT,Nat.reduceEqDiff,Nat.reduceBEq,Nat.reduceBNe,Int.reduceNeg,Int.reduceToNat,fs94,stM,stV,hn]
def ent94:Entry:=spOf fs94 invAt
theorem e94:EntryOk Try.prog 94 ent94:=entry_of ok94 invAt
@[push_cast] theorem ent94_app (us:List SV) (look:Look) (x:Nat→Xf.Loc) (k:Nat):ent94 us look x k = spOf fs94 invAt us look x k:=rfl
def b60_1:IR :=
  .seq (.reg false [⟨some 15,none,⟨[],[]⟩,.bin 0 .lss (.t 14) (.t 13)⟩] [] []) (.seq (.cond (.t 15) (.skip) (.exit 0)) (.seq (.block 1 (.seq (.reg false [⟨some 16,none,⟨[],[]⟩,.idxS (.t 12) (.t 14) 1⟩,
    ⟨some 17,none,⟨[],[]⟩,.ld true none 0 0 (.t 16)⟩,
    ⟨some 9,none,⟨[],[]⟩,.mov (.t 17)⟩] [15,16,17] []) (.seq (.reg false [⟨some 18,none,⟨[],[]⟩,.mov (.t 0)⟩,
    ⟨some 19,none,⟨[],[]⟩,.mov (.t 9)⟩,
    ⟨some 20,none,⟨[],[]⟩,.call (some 4) 11 92 [.t 18,.t 19]⟩] [9,18,19] []) (.cond (.t 20) (.reg false [⟨some 6,none,⟨[],[]⟩,.mov (.k (.int .i64 1))⟩] [20] []) (.reg false [⟨some 7,none,⟨[],[]⟩,.mov (.k (.bool false))⟩] [20] []))))) (.reg false [⟨some 21,none,⟨[],[]⟩,.bin 0 .add (.t 14) (.k (.int .i64 1))⟩,
    ⟨some 14,none,⟨[],[]⟩,.mov (.t 21)⟩] [21] [])))
def r60_2:IR :=
  .seq (.reg false [⟨some 10,none,⟨[],[]⟩,.mov (.k (.int .i64 0))⟩] [12,13,14] []) (.seq (.seq (.reg false [⟨some 22,none,⟨[],[]⟩,.fld (.t 3) 2⟩,
    ⟨some 23,none,⟨[],[]⟩,.ld false none 0 0 (.t 22)⟩,
    ⟨some 24,none,⟨[],[]⟩,.bin 0 .geq (.t 23) (.k (.int .i64 0))⟩] [22,23] []) (.cond (.t 24) (.seq (.reg false [⟨some 10,none,⟨[],[]⟩,.mov (.k (.int .i64 1))⟩] [24] []) (.seq (.reg true [⟨some 25,none,⟨[],[]⟩,.mov (.t 0)⟩,
    ⟨some 26,none,⟨[],[]⟩,.nilc (.t 25)⟩,
    ⟨some 27,none,⟨[],[]⟩,.fld (.t 26) 4⟩,
    ⟨some 28,none,⟨[],[]⟩,.ld false none 0 0 (.t 27)⟩,
    ⟨some 29,none,⟨[],[]⟩,.fld (.t 3) 2⟩,
    ⟨some 30,none,⟨[],[]⟩,.ld false none 0 0 (.t 29)⟩,
    ⟨some 31,none,⟨[],[]⟩,.idxS (.t 28) (.t 30) 4⟩,
    ⟨some 32,none,⟨[],[]⟩,.fld (.t 31) 3⟩,
    ⟨some 33,none,⟨[],[]⟩,.ld true none 0 0 (.t 32)⟩] [0,3,25,26,27,28,29,30,31,32] []) (.cond (.t 33) (.reg false [⟨some 10,none,⟨[],[]⟩,.mov (.k (.int .i64 2))⟩] [33] []) (.skip)))) (.skip))) (.seq (.reg false [⟨some 34,none,⟨[],[]⟩,.mov (.t 10)⟩,
    ⟨some 35,none,⟨[],[]⟩,.bin 0 .mul (.k (.int .i64 2)) (.t 34)⟩,
    ⟨some 36,none,⟨[],[]⟩,.mov (.t 6)⟩,
    ⟨some 37,none,⟨[],[]⟩,.bin 0 .add (.t 35) (.t 36)⟩,
    ⟨some 38,none,⟨[],[]⟩,.mov (.t 7)⟩,
    ⟨some 39,none,⟨[],[]⟩,.not (.t 38)⟩,
    ⟨some 4,none,⟨[],[]⟩,.mov (.t 37)⟩,
    ⟨some 5,none,⟨[],[]⟩,.mov (.t 39)⟩] [0,3,6,7,10,24,33,34,35,36,37,38,39] []) (.ret)))
def ir60:IR :=
  .seq (.reg false [⟨some 3,none,⟨[],[]⟩,.box 10 (.t 1)⟩,
    ⟨some 4,none,⟨[],[]⟩,.mov (.k (.int .i64 0))⟩,
    ⟨some 5,none,⟨[],[]⟩,.mov (.k (.bool false))⟩] [1,4,5] []) (.seq (.reg false [⟨some 6,none,⟨[],[]⟩,.mov (.k (.int .i64 0))⟩,
    ⟨some 7,none,⟨[],[]⟩,.mov (.k (.bool true))⟩] [] []) (.seq (.seq (.reg false [⟨some 11,none,⟨[],[]⟩,.fld (.t 3) 0⟩,
    ⟨some 12,none,⟨[],[]⟩,.ld false none 0 0 (.t 11)⟩,
    ⟨some 13,none,⟨[],[]⟩,.len (.t 12)⟩,
    ⟨some 14,none,⟨[],[]⟩,.mov (.k (.int .i64 0))⟩] [11] []) (.block 0 (.loop b60_1))) (r60_2)))
def kp60_1:List Nat:=[0,3,6,7,12,13,14]
def kl60_1:List Nat:=[11,12,13,14]
attribute [push_cast] kp60_1 kl60_1
set_option maxRecDepth 4000 in
theorem comp60:(Try.f60.body.bind fun c => compC tab isP chkAll ir60 c) = some ir60:=by kernel_rfl
def ir95:IR :=
  .reg true [⟨some 6,none,⟨[],[]⟩,.mov (.t 0)⟩,
    ⟨some 7,none,⟨[],[]⟩,.nilc (.t 6)⟩,
    ⟨some 8,none,⟨[],[]⟩,.fld (.t 7) 2⟩,
    ⟨some 9,none,⟨[],[]⟩,.ld false none 0 0 (.t 8)⟩,
    ⟨some 10,none,⟨[],[]⟩,.mov (.t 1)⟩,
    ⟨some 11,none,⟨[],[]⟩,.mov (.t 0)⟩,
    ⟨some 12,none,⟨[],[]⟩,.nilc (.t 11)⟩,
    ⟨some 13,none,⟨[],[]⟩,.fld (.t 12) 1⟩,
    ⟨some 14,none,⟨[],[]⟩,.ld false none 0 0 (.t 13)⟩,
    ⟨some 15,none,⟨[],[]⟩,.mov (.t 1)⟩,
    ⟨some 16,none,⟨[],[]⟩,.mov (.t 0)⟩,
    ⟨some 17,none,⟨[],[]⟩,.nilc (.t 16)⟩,
    ⟨some 18,none,⟨[],[]⟩,.fld (.t 17) 3⟩,
    ⟨some 19,none,⟨[],[]⟩,.ld false none 0 0 (.t 18)⟩,
    ⟨some 20,none,⟨[],[]⟩,.bin 0 .add (.t 19) (.k (.int .i64 1))⟩,
    ⟨some 21,none,⟨[],[]⟩,.mov (.t 2)⟩,
    ⟨some 22,none,⟨[],[]⟩,.idxS (.t 9) (.t 10) 1⟩,
    ⟨none,none,⟨[],[]⟩,.sto true 1 .i64 (.t 22) (.t 20)⟩,
    ⟨some 23,none,⟨[],[]⟩,.idxS (.t 14) (.t 15) 1⟩,
    ⟨none,none,⟨[],[]⟩,.sto true 1 .i64 (.t 23) (.t 21)⟩] [0,1,2,6,7,8,9,10,11,12,13,14,15,16,17,18,19,20,21,22,23] []
set_option maxRecDepth 4000 in
theorem comp95:(Try.f95.body.bind fun c => compC tab isP chkAll ir95 c) = some ir95:=by kernel_rfl
def ir59:IR :=
  .seq (.reg false [⟨some 3,none,⟨[],[]⟩,.mov (.k (.bool false))⟩] [3] []) (.seq (.reg true [⟨some 4,none,⟨[],[]⟩,.ld false none 0 0 (.t 0)⟩,
    ⟨some 5,none,⟨[],[]⟩,.ld false none 0 0 (.t 1)⟩,
    ⟨some 6,none,⟨[],[]⟩,.idxS (.t 4) (.t 5) 1⟩,
    ⟨some 7,none,⟨[],[]⟩,.ld true none 0 0 (.t 6)⟩,
    ⟨some 8,none,⟨[],[]⟩,.callp 51 [.t 7]⟩,
    ⟨some 9,none,⟨[],[]⟩,.ld false none 0 0 (.t 2)⟩,
    ⟨some 10,none,⟨[],[]⟩,.bin 0 .shr (.t 8) (.t 9)⟩,
    ⟨some 11,none,⟨[],[]⟩,.bin 0 .and (.t 10) (.k (.int .i64 1))⟩,
    ⟨some 12,none,⟨[],[]⟩,.bin 0 .eql (.t 11) (.k (.int .i64 1))⟩,
    ⟨some 3,none,⟨[],[]⟩,.mov (.t 12)⟩] [0,1,2,4,5,6,7,8,9,10,11,12] []) (.ret))
set_option maxRecDepth 4000 in
theorem comp59:(Try.f59.body.bind fun c => compC tab isP chkAll ir59 c) = some ir59:=by kernel_rfl
def ir64:IR :=
  .seq (.reg false [⟨some 2,none,⟨[],[]⟩,.mov (.k (.bool false))⟩] [2] []) (.seq (.reg false [⟨some 3,none,⟨[],[]⟩,.ld false none 0 0 (.t 0)⟩,
    ⟨some 4,none,⟨[],[]⟩,.ld false none 0 0 (.t 1)⟩,
    ⟨some 5,none,⟨[],[]⟩,.idxS (.t 3) (.t 4) 1⟩,
    ⟨some 6,none,⟨[],[]⟩,.ld true none 0 0 (.t 5)⟩,
    ⟨some 7,none,⟨[],[]⟩,.bin 0 .lss (.t 6) (.k (.int .i64 0))⟩,
    ⟨some 2,none,⟨[],[]⟩,.mov (.t 7)⟩] [0,1,3,4,5,6,7] []) (.ret))
set_option maxRecDepth 4000 in
theorem comp64:(Try.f64.body.bind fun c => compC tab isP chkAll ir64 c) = some ir64:=by kernel_rfl
def ir58:IR :=
  .seq (.reg false [⟨some 3,none,⟨[],[]⟩,.box 20 (.t 0)⟩,
    ⟨some 4,none,⟨[],[]⟩,.mov (.k (.val .nilFunc))⟩] [0,4] []) (.seq (.reg false [⟨some 5,none,⟨[],[]⟩,.mkf 59 [.t 1,.t 3,.t 2]⟩,
    ⟨some 4,none,⟨[],[]⟩,.mov (.t 5)⟩] [1,2,3,5] []) (.ret))
set_option maxRecDepth 4000 in
theorem comp58:(Try.f58.body.bind fun c => compC tab isP chkAll ir58 c) = some ir58:=by kernel_rfl
def rdBk (l:List Bck) (i:Nat):Bck:=l.getD i default
theorem recAt_Bk {l:List Bck} {i:Nat} (h:i < l.length) (z:List RC):recAt (i:Int) z (l.map Bck.rc) = (rdBk l i).rc:=by
  simp [recAt,rdBk,h]
theorem rdBk_nat {l:List Bck} {i:Nat} (h:i < l.length):rdBk l i = l[i]:=by simp [rdBk,h]
def Bck.sv (x:Bck) (c:Nat):SV:=.agg [.sl c x.L 1 0 x.b.places.length,.int .i64 x.b.w,.int .i64 x.b.parent,.bool x.on]
structure BkA where
  p:StL
  s:StS
  b:Bck
def bkWf (s:StS) (b:Pb):Prop:=-1≤b.parent∧b.parent < s.list.length∧b.places.length≤16∧∀ x ∈ b.places,0≤x∧x < s.since.length
def someP (s:StS) (pl:List Int):Bool:=pl.any fun x => decide (oldP s x)
def allP (s:StS) (pl:List Int):Bool:=pl.all fun x => decide (oldP s x)
def abP (s:StS) (q:Int):Int:=if 0≤q then (if (rdBk s.list q.toNat).on = true then 2 else 1) else 0
def bctxP (s:StS) (b:Pb):Int:=2 * abP s b.parent + (if someP s b.places = true then 1 else 0)
def invBk:List SV→Look→Option (BkA × List Nat)
  | [.ptr c _ 0 0 0,.agg [.sl d _ 1 0 _,.int .i64 w,.int .i64 q,.bool on]],look => match invSt look c,rowI (look d) with
    | some (p,s,g),some (L,.i64,xs) => some (⟨p,s,⟨L,⟨xs,w,q⟩,on⟩⟩,g++[d])
    | _,_ => none
  | _,_ => none
attribute [push_cast] invBk
theorem any_take {pl:List Int} {f:Int→Bool} {i:Nat} (h:i < pl.length):(pl.take (i + 1)).any f = ((pl.take i).any f || f (rd pl (i:Nat))):=by
  rw [List.take_succ_eq_append_getElem h,List.any_append,rd_lt pl i h]; simp
theorem all_take {pl:List Int} {f:Int→Bool} {i:Nat} (h:i < pl.length):(pl.take (i + 1)).all f = ((pl.take i).all f && f (rd pl (i:Nat))):=by
  rw [List.take_succ_eq_append_getElem h,List.all_append,rd_lt pl i h]; simp
theorem rd_mem {pl:List Int} {i:Nat} (h:i < pl.length):rd pl (i:Nat) ∈ pl:=by rw [rd_lt pl i h]; exact List.getElem_mem h
def fs60:FS where
  A:=BkA
  args:=fun a => [.ptr 0 a.p.L 0 0 0,a.b.sv 7]
  mem:=fun a => stM a.p a.s++[some (.ro,a.b.L,.ints .i64 a.b.b.places)]
  pre:=fun a => stWf a.s a.s.since.length∧bkWf a.s a.b.b
  res:=fun a _ => .tup [.int .i64 (bctxP a.s a.b.b),.bool (!allP a.s a.b.b.places)]
  out:=fun _ _ => []
  new:=fun _ _ => []
set_option maxHeartbeats 1000000 in
theorem ok60:FSOk Try.prog 60 fs60:=by
  refine ⟨⟨_,Try.func60,by kernel_rfl,by kernel_rfl⟩,fun a => ⟨by simp [fs60,stM,push_cast,noMine,argOwn,Chunk.frArg],by simp [fs60,stM,push_cast,outOk,Chunk.ext],fun x => .inl (by simp [fs60,stM,push_cast,frNew,frOut,Chunk.fr])⟩,fun a hp => ?_⟩
  obtain ⟨p,s,⟨L,⟨pl,w,q⟩,on⟩⟩:=a
  obtain ⟨h1,h2,h3,h4,h5⟩:stWf s s.since.length∧-1≤q∧q < s.list.length∧pl.length≤16∧∀ x ∈ pl,0≤x∧x < s.since.length:=hp
  have hst:=h1
  obtain ⟨o1,o2,o3,o4,o5,o6,o7,o8,o9,o10,o11⟩:=h1
  change Tri Try.prog 60 [.ptr 0 p.L 0 0 0,.agg [.sl 7 L 1 0 pl.length,.int .i64 w,.int .i64 q,.bool on]] (stM p s++[some (.ro,L,.ints .i64 pl)]) (postF fs60 ⟨p,s,⟨L,⟨pl,w,q⟩,on⟩⟩)
  have hfin:bctxP s ⟨pl,w,q⟩ = 2 * abP s q + (if someP s pl = true then 1 else 0):=rfl
  refine tri_evS (hyp (l:=[(92,ent92)]) (lp:=[]) ⟨e92,trivial⟩ trivial) Try.func60 comp60 (rs:=[.tmp 4,.tmp 5]) (by rfl) Try.ntmps60 15 ?_
  simp -implicitDefEqProofs only [push_cast,zz,BEq.rfl,ite_true,ite_false,List.append_nil,reduceCtorEq,Nat.reduceAdd,Nat.reduceSub,Nat.reduceMul,Nat.reduceLeDiff,Nat.reduceLT,Nat.reduceEqDiff,Nat.reduceBEq,Nat.reduceBNe,Int.reduceNeg,Int.reduceToNat,ir60,stM,stV]
  intro X
  refine evS_loopU (A:=Nat) kp60_1 kl60_1 (fun i => [(6,.int .i64 (if someP s (pl.take i) = true then 1 else 0)),(7,.bool (allP s (pl.take i))),(14,.int .i64 i)]) (fun i => []) (fun i => i≤pl.length) (fun i => pl.length - i) 0 (Nat.zero_le _) (Sub.pt ?_) ?_
  · have e0:someP s (pl.take 0) = false:=rfl
    have e1:allP s (pl.take 0) = true:=rfl
    simp -implicitDefEqProofs only [push_cast,zz,BEq.rfl,ite_true,ite_false,List.append_nil,reduceCtorEq,Nat.reduceAdd,Nat.reduceSub,Nat.reduceMul,Nat.reduceLeDiff,Nat.reduceLT,Nat.reduceEqDiff,Nat.reduceBEq,Nat.reduceBNe,Int.reduceNeg,Int.reduceToNat,e0,e1]
  intro i hi K hK
  have hi:i≤pl.length:=hi
  by_cases hi':i < pl.length
  · have hii:(i:Int) < pl.length:=by omega
    have hx:=h5 _ (rd_mem hi')
    have ha:someP s (pl.take (i + 1)) = (someP s (pl.take i) || decide (oldP s (rd pl (i:Nat)))):=any_take hi'
    have hb:allP s (pl.take (i + 1)) = (allP s (pl.take i) && decide (oldP s (rd pl (i:Nat)))):=all_take hi'
    obtain ⟨x,hxx⟩:∃ x,rd pl (i:Int) = x:=⟨_,rfl⟩
    rw [hxx] at hx ha hb
    by_cases hold:oldP s x
    · have e1:decide (oldP s x) = true:=decide_eq_true hold
      rw [e1,Bool.or_true] at ha
      rw [e1,Bool.and_true] at hb
      simp -implicitDefEqProofs only [push_cast,zz,BEq.rfl,ite_true,ite_false,List.append_nil,reduceCtorEq,Nat.reduceAdd,Nat.reduceSub,Nat.reduceMul,Nat.reduceLeDiff,Nat.reduceLT,Nat.reduceEqDiff,Nat.reduceBEq,Nat.reduceBNe,Int.reduceNeg,Int.reduceToNat,b60_1,stM,stV,fs92,sAtOk,hst,hx,hxx,hii,hold]
      repeat (refine And.intro (by first | omega | trivial | (intros; omega)) ?_)
      refine hK (i + 1) (show i + 1≤pl.length by omega) (show pl.length - (i + 1) < pl.length - i by omega) _ _ (Sub.pt ?_)
      simp -implicitDefEqProofs only [push_cast,zz,BEq.rfl,ite_true,ite_false,List.append_nil,reduceCtorEq,Nat.reduceAdd,Nat.reduceSub,Nat.reduceMul,Nat.reduceLeDiff,Nat.reduceLT,Nat.reduceEqDiff,Nat.reduceBEq,Nat.reduceBNe,Int.reduceNeg,Int.reduceToNat,stM,stV,ha,hb]
    · have e1:decide (oldP s x) = false:=decide_eq_false hold
      rw [e1,Bool.or_false] at ha
      rw [e1,Bool.and_false] at hb
      simp -implicitDefEqProofs only [push_cast,zz,BEq.rfl,ite_true,ite_false,List.append_nil,reduceCtorEq,Nat.reduceAdd,Nat.reduceSub,Nat.reduceMul,Nat.reduceLeDiff,Nat.reduceLT,Nat.reduceEqDiff,Nat.reduceBEq,Nat.reduceBNe,Int.reduceNeg,Int.reduceToNat,b60_1,stM,stV,fs92,sAtOk,hst,hx,hxx,hii,hold]
      repeat (refine And.intro (by first | omega | trivial | (intros; omega)) ?_)
      refine hK (i + 1) (show i + 1≤pl.length by omega) (show pl.length - (i + 1) < pl.length - i by omega) _ _ (Sub.pt ?_)
      simp -implicitDefEqProofs only [push_cast,zz,BEq.rfl,ite_true,ite_false,List.append_nil,reduceCtorEq,Nat.reduceAdd,Nat.reduceSub,Nat.reduceMul,Nat.reduceLeDiff,Nat.reduceLT,Nat.reduceEqDiff,Nat.reduceBEq,Nat.reduceBNe,Int.reduceNeg,Int.reduceToNat,stM,stV,ha,hb]
  · obtain rfl:i = pl.length:=by omega
    clear hK
    obtain ⟨u,hu⟩:∃ u,(if someP s pl = true then (1:Int) else 0) = u:=⟨_,rfl⟩
    have hub:0≤u∧u≤1:=by rw [← hu]; split <;> omega
    rw [hu] at hfin
    have hlm:=bkMap_len s.list
    by_cases hq:0≤q
    · obtain ⟨k,rfl⟩:∃ k:Nat,q = k:=⟨q.toNat,by omega⟩
      have he4:esz 4 s.list.length = 4:=esz_pos (by omega)
      have rk:=recAt_Bk (l:=s.list) (i:=k) (by omega) []
      have hab:abP s (k:Int) = if (rdBk s.list k).on = true then 2 else 1:=by unfold abP; rw [if_pos hq,Int.toNat_natCast]
      obtain ⟨⟨L',b',on'⟩,hbk⟩:∃ b,rdBk s.list k = b:=⟨_,rfl⟩
      rw [hbk] at rk hab
      simp only at hab
      cases on' with
      | true =>
        rw [if_pos rfl] at hab
        rw [hab] at hfin
        simp -implicitDefEqProofs only [push_cast,zz,BEq.rfl,ite_true,ite_false,List.append_nil,reduceCtorEq,Nat.reduceAdd,Nat.reduceSub,Nat.reduceMul,Nat.reduceLeDiff,Nat.reduceLT,Nat.reduceEqDiff,Nat.reduceBEq,Nat.reduceBNe,Int.reduceNeg,Int.reduceToNat,b60_1,r60_2,stM,stV,Int.lt_irrefl,List.take_length,hu,hq,rk,Bck.rc,hlm,he4]
        repeat (refine And.intro (by first | omega | trivial | (intros; omega)) ?_)
        refine postF.mk' (fun _ => default) [some 0,some 1,some 2,some 3,some 4,none,some 6,some 7] ?_
        simp -implicitDefEqProofs only [push_cast,zz,BEq.rfl,ite_true,ite_false,List.append_nil,reduceCtorEq,Nat.reduceAdd,Nat.reduceSub,Nat.reduceMul,Nat.reduceLeDiff,Nat.reduceLT,Nat.reduceEqDiff,Nat.reduceBEq,Nat.reduceBNe,Int.reduceNeg,Int.reduceToNat,fs60,stM,stV,hfin,he4]
      | false =>
        rw [if_neg (by decide)] at hab
        rw [hab] at hfin
        simp -implicitDefEqProofs only [push_cast,zz,BEq.rfl,ite_true,ite_false,List.append_nil,reduceCtorEq,Nat.reduceAdd,Nat.reduceSub,Nat.reduceMul,Nat.reduceLeDiff,Nat.reduceLT,Nat.reduceEqDiff,Nat.reduceBEq,Nat.reduceBNe,Int.reduceNeg,Int.reduceToNat,b60_1,r60_2,stM,stV,Int.lt_irrefl,List.take_length,hu,hq,rk,Bck.rc,hlm,he4]
        repeat (refine And.intro (by first | omega | trivial | (intros; omega)) ?_)
        refine postF.mk' (fun _ => default) [some 0,some 1,some 2,some 3,some 4,none,some 6,some 7] ?_
        simp -implicitDefEqProofs only [push_cast,zz,BEq.rfl,ite_true,ite_false,List.append_nil,reduceCtorEq,Nat.reduceAdd,Nat.reduceSub,Nat.reduceMul,Nat.reduceLeDiff,Nat.reduceLT,Nat.reduceEqDiff,Nat.reduceBEq,Nat.reduceBNe,Int.reduceNeg,Int.reduceToNat,fs60,stM,stV,hfin,he4]
    · have hab:abP s q = 0:=if_neg hq
      rw [hab] at hfin
      simp -implicitDefEqProofs only [push_cast,zz,BEq.rfl,ite_true,ite_false,List.append_nil,reduceCtorEq,Nat.reduceAdd,Nat.reduceSub,Nat.reduceMul,Nat.reduceLeDiff,Nat.reduceLT,Nat.reduceEqDiff,Nat.reduceBEq,Nat.reduceBNe,Int.reduceNeg,Int.reduceToNat,b60_1,r60_2,stM,stV,Int.lt_irrefl,List.take_length,hu,hq]
      repeat (refine And.intro (by first | omega | trivial | (intros; omega)) ?_)
      refine postF.mk' (fun _ => default) [some 0,some 1,some 2,some 3,some 4,none,some 6,some 7] ?_
      simp -implicitDefEqProofs only [push_cast,zz,BEq.rfl,ite_true,ite_false,List.append_nil,reduceCtorEq,Nat.reduceAdd,Nat.reduceSub,Nat.reduceMul,Nat.reduceLeDiff,Nat.reduceLT,Nat.reduceEqDiff,Nat.reduceBEq,Nat.reduceBNe,Int.reduceNeg,Int.reduceToNat,fs60,stM,stV,hfin]
def ent60:Entry:=spOf fs60 invBk
theorem e60:EntryOk Try.prog 60 ent60:=entry_of ok60 invBk
@[push_cast] theorem ent60_app (us:List SV) (look:Look) (x:Nat→Xf.Loc) (k:Nat):ent60 us look x k = spOf fs60 invBk us look x k:=rfl
structure BcA where
  p:StL
  s:StS
  at_:Int
  b:Bool
def invBc:List SV→Look→Option (BcA × List Nat)
  | [.ptr c _ 0 0 0,.int .i64 i,.bool b],look => match invSt look c with
    | some (p,s,g) => some (⟨p,s,i,b⟩,g)
    | none => none
  | _,_ => none
attribute [push_cast] invBc
def fs95:FS where
  A:=BcA
  args:=fun a => [.ptr 0 a.p.L 0 0 0,.int .i64 a.at_,.bool a.b]
  mem:=fun a => [some (.ro,a.p.L,.cells (stV a.p a.s)),none,some (.lent,a.p.M,.bools a.s.minus),some (.lent,a.p.I,.ints .i64 a.s.since),none,none,none]
  pre:=fun a => stWf a.s a.s.since.length∧0≤a.at_∧a.at_ < a.s.since.length
  res:=fun a _ => .tup []
  out:=fun a _ => [none,none,some (some (.bools (a.s.minus.set a.at_.toNat a.b))),some (some (.ints .i64 (a.s.since.set a.at_.toNat (a.s.now + 1))))]
  new:=fun _ _ => []
theorem ok95:FSOk Try.prog 95 fs95:=by
  refine ⟨⟨_,Try.func95,by kernel_rfl,by kernel_rfl⟩,fun a => ⟨by simp [fs95,stM,push_cast,noMine,argOwn,Chunk.frArg],by simp [fs95,stM,push_cast,outOk,Chunk.ext],fun x => .inl (by simp [fs95,stM,push_cast,frNew,frOut,Chunk.fr])⟩,fun a hp => ?_⟩
  obtain ⟨p,s,i,b⟩:=a
  obtain ⟨h1,h2,h3⟩:stWf s s.since.length∧0≤i∧i < s.since.length:=hp
  obtain ⟨o1,o2,o3,o4,o5,o6,o7,o8,o9,o10,o11⟩:=h1
  change Tri Try.prog 95 [.ptr 0 p.L 0 0 0,.int .i64 i,.bool b] [some (.ro,p.L,.cells (stV p s)),none,some (.lent,p.M,.bools s.minus),some (.lent,p.I,.ints .i64 s.since),none,none,none] (postF fs95 ⟨p,s,i,b⟩)
  refine tri_evS (hyp (l:=[]) (lp:=[]) trivial trivial) Try.func95 comp95 (rs:=[]) (by rfl) Try.ntmps95 10 ?_
  simp -implicitDefEqProofs only [push_cast,zz,BEq.rfl,ite_true,ite_false,List.append_nil,reduceCtorEq,Nat.reduceAdd,Nat.reduceSub,Nat.reduceMul,Nat.reduceLeDiff,Nat.reduceLT,Nat.reduceEqDiff,Nat.reduceBEq,Nat.reduceBNe,Int.reduceNeg,Int.reduceToNat,ir95,stV]
  repeat (refine And.intro (by first | omega | trivial | (intros; omega)) ?_)
  refine postF.mk' (fun _ => default) [some 0,none,some 2,some 3,none,none,none] ?_
  simp -implicitDefEqProofs only [push_cast,zz,BEq.rfl,ite_true,ite_false,List.append_nil,reduceCtorEq,Nat.reduceAdd,Nat.reduceSub,Nat.reduceMul,Nat.reduceLeDiff,Nat.reduceLT,Nat.reduceEqDiff,Nat.reduceBEq,Nat.reduceBNe,Int.reduceNeg,Int.reduceToNat,fs95,stV]
def ent95:Entry:=spOf fs95 invBc
theorem e95:EntryOk Try.prog 95 ent95:=entry_of ok95 invBc
@[push_cast] theorem ent95_app (us:List SV) (look:Look) (x:Nat→Xf.Loc) (k:Nat):ent95 us look x k = spOf fs95 invBc us look x k:=rfl
theorem and_1 {x:Int} (h0:0≤x) (h1:x < 9223372036854775808):bitop .and .i64 x 1 = x % 2:=by
  obtain ⟨k,rfl⟩:∃ k:Nat,x = k:=⟨x.toNat,by omega⟩
  have e:((BitVec.ofInt 64 (k:Int)) &&& (BitVec.ofInt 64 1)).toNat = k % 2:=by
    rw [BitVec.toNat_and,BitVec.toNat_ofInt,BitVec.toNat_ofInt]
    rw [show (((1:Int) % ((2 ^ 64:Nat):Int)).toNat) = 2 ^ 1 - 1 by decide,Nat.and_two_pow_sub_one_eq_mod]
    omega
  show IntKind.i64.wrap _ = _
  have e':(BitVec.toNat ((BitVec.ofInt IntKind.i64.bits (k:Int)) &&& (BitVec.ofInt IntKind.i64.bits 1))) = k % 2:=e
  simp only [e']
  rw [inR_wrap (k:=.i64) (by simp only [inR,push_cast]; omega)]
  omega
def absI (n:Int):Int:=max n (-n)
def digP (f:List Int) (x t:Int):Bool:=decide (absI (rd f x) / 2 ^ t.toNat % 2 = 1)
def ofWf (f:List Int) (n:Nat):Prop:=f.length = n∧∀ x ∈ f,-1000000000≤x∧x≤1000000000
theorem ofWf.at {f:List Int} {n:Nat} (h:ofWf f n) {i:Int} (h0:0≤i) (h1:i < n):-1000000000≤rd f i∧rd f i≤1000000000:=by
  obtain ⟨k,rfl⟩:∃ k:Nat,i = k:=⟨i.toNat,by omega⟩
  obtain ⟨a,b⟩:=h
  rw [rd_lt f k (by omega)]
  exact b _ (List.getElem_mem _)
theorem dig_bd {v:Int} (h0:-1000000000≤v) (h1:v≤1000000000) (t:Nat):0≤max v (-v) / 2 ^ t∧max v (-v) / 2 ^ t < 9223372036854775808:=by
  have a:=Int.ediv_nonneg (a:=max v (-v)) (b:=2 ^ t) (by omega) (Int.le_of_lt (pow_pos' t))
  have b:max v (-v) / 2 ^ t≤max v (-v):=Int.ediv_le_self _ (by omega)
  exact ⟨a,by omega⟩
theorem bits_i64:((IntKind.i64.bits:Nat):Int) = 64:=rfl
structure WdA where
  L1:Xf.Loc
  L2:Xf.Loc
  L3:Xf.Loc
  F:Xf.Loc
  f:List Int
  at_:Int
  t:Int
def wdM (a:WdA):Mem:=[some (.ro,a.L1,.cells [.sl 3 a.F 1 0 a.f.length]),some (.ro,a.L2,.cells [.int .i64 a.at_]),some (.ro,a.L3,.cells [.int .i64 a.t]),some (.ro,a.F,.ints .i64 a.f)]
def invWd:List SV→Look→Option (WdA × List Nat)
  | [.ptr a _ 0 0 0,.ptr b _ 0 0 0,.ptr c _ 0 0 0],look => match rowC (look a),rowC (look b),rowC (look c) with
    | some (L1,[.sl d _ 1 0 _]),some (L2,[.int .i64 i]),some (L3,[.int .i64 t]) => match rowI (look d) with
      | some (F,.i64,f) => some (⟨L1,L2,L3,F,f,i,t⟩,[a,b,c,d])
      | _ => none
    | _,_,_ => none
  | _,_ => none
attribute [push_cast] invWd
def fs59:FS where
  A:=WdA
  args:=fun a => [.ptr 0 a.L1 0 0 0,.ptr 1 a.L2 0 0 0,.ptr 2 a.L3 0 0 0]
  mem:=wdM
  pre:=fun a => ofWf a.f a.f.length∧0≤a.at_∧a.at_ < a.f.length∧0≤a.t∧a.t≤60
  res:=fun a _ => .bool (digP a.f a.at_ a.t)
  out:=fun _ _ => []
  new:=fun _ _ => []
theorem ok59:FSOk Try.prog 59 fs59:=by
  refine ⟨⟨_,Try.func59,by kernel_rfl,by kernel_rfl⟩,fun a => ⟨by simp [fs59,wdM,push_cast,noMine,argOwn,Chunk.frArg],by simp [fs59,wdM,push_cast,outOk,Chunk.ext],fun x => .inl (by simp [fs59,wdM,push_cast,frNew,frOut,Chunk.fr])⟩,fun a hp => ?_⟩
  obtain ⟨L1,L2,L3,F,f,i,t⟩:=a
  obtain ⟨h1,h2,h3,h4,h5⟩:ofWf f f.length∧0≤i∧i < f.length∧0≤t∧t≤60:=hp
  have hv:=h1.at h2 h3
  have hb64:=bits_i64
  change Tri Try.prog 59 [.ptr 0 L1 0 0 0,.ptr 1 L2 0 0 0,.ptr 2 L3 0 0 0] (wdM ⟨L1,L2,L3,F,f,i,t⟩) (postF fs59 ⟨L1,L2,L3,F,f,i,t⟩)
  have hd:digP f i t = decide (max (rd f i) (-rd f i) / 2 ^ t.toNat % 2 = 1):=rfl
  obtain ⟨v,hvv⟩:∃ v,rd f i = v:=⟨_,rfl⟩
  rw [hvv] at hv hd
  have hdb:=dig_bd hv.1 hv.2 t.toNat
  have ha:=and_1 hdb.1 hdb.2
  refine tri_evS (hyp (l:=[]) (lp:=[(51,absF)]) trivial ⟨p51,trivial⟩) Try.func59 comp59 (rs:=[.tmp 3]) (by rfl) Try.ntmps59 10 ?_
  simp -implicitDefEqProofs only [push_cast,zz,BEq.rfl,ite_true,ite_false,List.append_nil,reduceCtorEq,Nat.reduceAdd,Nat.reduceSub,Nat.reduceMul,Nat.reduceLeDiff,Nat.reduceLT,Nat.reduceEqDiff,Nat.reduceBEq,Nat.reduceBNe,Int.reduceNeg,Int.reduceToNat,ir59,wdM,hvv,ha]
  repeat (refine And.intro (by first | omega | trivial | (intros; omega)) ?_)
  refine postF.mk' (fun _ => default) [some 0,some 1,some 2,some 3] ?_
  simp -implicitDefEqProofs only [push_cast,zz,BEq.rfl,ite_true,ite_false,List.append_nil,reduceCtorEq,Nat.reduceAdd,Nat.reduceSub,Nat.reduceMul,Nat.reduceLeDiff,Nat.reduceLT,Nat.reduceEqDiff,Nat.reduceBEq,Nat.reduceBNe,Int.reduceNeg,Int.reduceToNat,fs59,wdM,hd]
def ent59:Entry:=spOf fs59 invWd
theorem e59:EntryOk Try.prog 59 ent59:=entry_of ok59 invWd
@[push_cast] theorem ent59_app (us:List SV) (look:Look) (x:Nat→Xf.Loc) (k:Nat):ent59 us look x k = spOf fs59 invWd us look x k:=rfl
structure NgA where
  L1:Xf.Loc
  L2:Xf.Loc
  F:Xf.Loc
  f:List Int
  at_:Int
def ngM (a:NgA):Mem:=[some (.ro,a.L1,.cells [.sl 2 a.F 1 0 a.f.length]),some (.ro,a.L2,.cells [.int .i64 a.at_]),some (.ro,a.F,.ints .i64 a.f)]
def invNg:List SV→Look→Option (NgA × List Nat)
  | [.ptr a _ 0 0 0,.ptr b _ 0 0 0],look => match rowC (look a),rowC (look b) with
    | some (L1,[.sl d _ 1 0 _]),some (L2,[.int .i64 i]) => match rowI (look d) with
      | some (F,.i64,f) => some (⟨L1,L2,F,f,i⟩,[a,b,d])
      | _ => none
    | _,_ => none
  | _,_ => none
attribute [push_cast] invNg
def fs64:FS where
  A:=NgA
  args:=fun a => [.ptr 0 a.L1 0 0 0,.ptr 1 a.L2 0 0 0]
  mem:=ngM
  pre:=fun a => 0≤a.at_∧a.at_ < a.f.length
  res:=fun a _ => .bool (decide (rd a.f a.at_ < 0))
  out:=fun _ _ => []
  new:=fun _ _ => []
theorem ok64:FSOk Try.prog 64 fs64:=by
  refine ⟨⟨_,Try.func64,by kernel_rfl,by kernel_rfl⟩,fun a => ⟨by simp [fs64,ngM,push_cast,noMine,argOwn,Chunk.frArg],by simp [fs64,ngM,push_cast,outOk,Chunk.ext],fun x => .inl (by simp [fs64,ngM,push_cast,frNew,frOut,Chunk.fr])⟩,fun a hp => ?_⟩
  obtain ⟨L1,L2,F,f,i⟩:=a
  obtain ⟨h2,h3⟩:0≤i∧i < f.length:=hp
  change Tri Try.prog 64 [.ptr 0 L1 0 0 0,.ptr 1 L2 0 0 0] (ngM ⟨L1,L2,F,f,i⟩) (postF fs64 ⟨L1,L2,F,f,i⟩)
  refine tri_evS (hyp (l:=[]) (lp:=[]) trivial trivial) Try.func64 comp64 (rs:=[.tmp 2]) (by rfl) Try.ntmps64 10 ?_
  simp -implicitDefEqProofs only [push_cast,zz,BEq.rfl,ite_true,ite_false,List.append_nil,reduceCtorEq,Nat.reduceAdd,Nat.reduceSub,Nat.reduceMul,Nat.reduceLeDiff,Nat.reduceLT,Nat.reduceEqDiff,Nat.reduceBEq,Nat.reduceBNe,Int.reduceNeg,Int.reduceToNat,ir64,ngM]
  repeat (refine And.intro (by first | omega | trivial | (intros; omega)) ?_)
  refine postF.mk' (fun _ => default) [some 0,some 1,some 2] ?_
  simp -implicitDefEqProofs only [push_cast,zz,BEq.rfl,ite_true,ite_false,List.append_nil,reduceCtorEq,Nat.reduceAdd,Nat.reduceSub,Nat.reduceMul,Nat.reduceLeDiff,Nat.reduceLT,Nat.reduceEqDiff,Nat.reduceBEq,Nat.reduceBNe,Int.reduceNeg,Int.reduceToNat,fs64,ngM]
def ent64:Entry:=spOf fs64 invNg
theorem e64:EntryOk Try.prog 64 ent64:=entry_of ok64 invNg
@[push_cast] theorem ent64_app (us:List SV) (look:Look) (x:Nat→Xf.Loc) (k:Nat):ent64 us look x k = spOf fs64 invNg us look x k:=rfl
structure DgA where
  L1:Xf.Loc
  L2:Xf.Loc
  at_:Int
def invDg:List SV→Look→Option (DgA × List Nat)
  | [.int .i64 i,.ptr a L1 0 0 0,.ptr b L2 0 0 0],look => some (⟨L1,L2,i⟩,[a,b])
  | _,_ => none
attribute [push_cast] invDg
def fs58:FS where
  A:=DgA
  args:=fun a => [.int .i64 a.at_,.ptr 0 a.L1 0 0 0,.ptr 1 a.L2 0 0 0]
  mem:=fun _ => [none,none]
  pre:=fun _ => True
  res:=fun a x => .fn 59 [.ptr 0 a.L1 0 0 0,.ptr 2 (x 0) 0 0 0,.ptr 1 a.L2 0 0 0]
  out:=fun _ _ => []
  new:=fun a x => [(x 0,.cells [.int .i64 a.at_])]
theorem ok58:FSOk Try.prog 58 fs58:=by
  refine ⟨⟨_,Try.func58,by kernel_rfl,by kernel_rfl⟩,fun a => ⟨by simp [fs58,push_cast,noMine,argOwn,Chunk.frArg],by simp [fs58,push_cast,outOk,Chunk.ext],fun x => .inl (by simp [fs58,push_cast,frNew,frOut,Chunk.fr])⟩,fun a hp => ?_⟩
  obtain ⟨L1,L2,i⟩:=a
  change Tri Try.prog 58 [.int .i64 i,.ptr 0 L1 0 0 0,.ptr 1 L2 0 0 0] [none,none] (postF fs58 ⟨L1,L2,i⟩)
  refine tri_evS (hyp (l:=[]) (lp:=[]) trivial trivial) Try.func58 comp58 (rs:=[.tmp 4]) (by rfl) Try.ntmps58 21 ?_
  simp -implicitDefEqProofs only [push_cast,zz,BEq.rfl,ite_true,ite_false,List.append_nil,reduceCtorEq,Nat.reduceAdd,Nat.reduceSub,Nat.reduceMul,Nat.reduceLeDiff,Nat.reduceLT,Nat.reduceEqDiff,Nat.reduceBEq,Nat.reduceBNe,Int.reduceNeg,Int.reduceToNat,ir58]
  intro X
  refine postF.mk' (fun _ => X 0 20) [none,none,some 20] ?_
  simp -implicitDefEqProofs only [push_cast,zz,BEq.rfl,ite_true,ite_false,List.append_nil,reduceCtorEq,Nat.reduceAdd,Nat.reduceSub,Nat.reduceMul,Nat.reduceLeDiff,Nat.reduceLT,Nat.reduceEqDiff,Nat.reduceBEq,Nat.reduceBNe,Int.reduceNeg,Int.reduceToNat,fs58]
def ent58:Entry:=spOf fs58 invDg
theorem e58:EntryOk Try.prog 58 ent58:=entry_of ok58 invDg
@[push_cast] theorem ent58_app (us:List SV) (look:Look) (x:Nat→Xf.Loc) (k:Nat):ent58 us look x k = spOf fs58 invDg us look x k:=rfl
def b62_1:IR :=
  .seq (.reg false [⟨some 15,none,⟨[],[]⟩,.bin 0 .lss (.t 14) (.t 13)⟩] [] []) (.seq (.cond (.t 15) (.skip) (.exit 0)) (.seq (.block 1 (.seq (.reg false [⟨some 16,none,⟨[],[]⟩,.idxS (.t 12) (.t 14) 1⟩,
    ⟨some 17,none,⟨[],[]⟩,.ld true none 0 0 (.t 16)⟩,
    ⟨some 10,none,⟨[],[]⟩,.mov (.t 17)⟩] [15,16,17] []) (.seq (.reg false [⟨some 18,none,⟨[],[]⟩,.mov (.t 0)⟩,
    ⟨some 19,none,⟨[],[]⟩,.mov (.t 10)⟩,
    ⟨some 20,none,⟨[],[]⟩,.call (some 4) 11 92 [.t 18,.t 19]⟩,
    ⟨some 21,none,⟨[],[]⟩,.not (.t 20)⟩,
    ⟨some 22,none,⟨[],[]⟩,.mov (.t 21)⟩,
    ⟨some 23,some (22,true),⟨[],[]⟩,.mov (.t 3)⟩,
    ⟨some 24,some (22,true),⟨[],[]⟩,.mov (.t 10)⟩,
    ⟨some 25,some (22,true),⟨[],[]⟩,.idxS (.t 23) (.t 24) 1⟩,
    ⟨some 26,some (22,true),⟨[],[]⟩,.ld true none 0 0 (.t 25)⟩,
    ⟨some 27,some (22,true),⟨[],[]⟩,.callp 51 [.t 26]⟩,
    ⟨some 28,some (22,true),⟨[],[]⟩,.mov (.t 2)⟩,
    ⟨some 29,some (22,true),⟨[],[]⟩,.bin 0 .shr (.t 27) (.t 28)⟩,
    ⟨some 30,some (22,true),⟨[],[]⟩,.bin 0 .and (.t 29) (.k (.int .i64 1))⟩,
    ⟨some 31,some (22,true),⟨[],[]⟩,.bin 0 .eql (.t 30) (.k (.int .i64 1))⟩,
    ⟨some 32,none,⟨[],[]⟩,.pick (.t 22) (.t 31) (.k (.bool false))⟩] [10,18,19,20,21,22,23,24,25,26,27,28,29,30,31] []) (.cond (.t 32) (.seq (.reg false [⟨some 8,none,⟨[],[]⟩,.mov (.k (.bool true))⟩] [0,2,3,12,13,14,32] []) (.ret)) (.skip))))) (.reg false [⟨some 33,none,⟨[],[]⟩,.bin 0 .add (.t 14) (.k (.int .i64 1))⟩,
    ⟨some 14,none,⟨[],[]⟩,.mov (.t 33)⟩] [8,32,33] [])))
def r62_2:IR :=
  .seq (.reg false [⟨some 8,none,⟨[],[]⟩,.mov (.k (.bool false))⟩] [0,2,3,12,13,14] []) (.ret)
def ir62:IR :=
  .seq (.reg false [⟨some 5,none,⟨[],[]⟩,.box 10 (.t 1)⟩,
    ⟨some 8,none,⟨[],[]⟩,.mov (.k (.bool false))⟩] [1,8] []) (.seq (.seq (.reg false [⟨some 11,none,⟨[],[]⟩,.fld (.t 5) 0⟩,
    ⟨some 12,none,⟨[],[]⟩,.ld false none 0 0 (.t 11)⟩,
    ⟨some 13,none,⟨[],[]⟩,.len (.t 12)⟩,
    ⟨some 14,none,⟨[],[]⟩,.mov (.k (.int .i64 0))⟩] [5,11] []) (.block 0 (.loop b62_1))) (r62_2))
def kp62_1:List Nat:=[0,2,3,12,13,14]
def kl62_1:List Nat:=[11,12,13,14]
attribute [push_cast] kp62_1 kl62_1
set_option maxRecDepth 4000 in
theorem comp62:(Try.f62.body.bind fun c => compC tab isP chkAll ir62 c) = some ir62:=by kernel_rfl
def ir61:IR :=
  .seq (.reg false [⟨some 4,none,⟨[],[]⟩,.mov (.k (.bool false))⟩] [4] []) (.seq (.reg true [⟨some 5,none,⟨[20],[]⟩,.ld false none 0 0 (.t 0)⟩,
    ⟨some 6,none,⟨[],[]⟩,.ld false none 0 0 (.t 1)⟩,
    ⟨some 7,none,⟨[],[]⟩,.nilc (.t 6)⟩,
    ⟨some 8,none,⟨[],[]⟩,.ld true (some 4) 20 1 (.t 7)⟩,
    ⟨some 9,none,⟨[20],[]⟩,.ld false none 0 0 (.t 2)⟩,
    ⟨some 10,none,⟨[20],[]⟩,.ld false none 0 0 (.t 3)⟩,
    ⟨some 11,none,⟨[],[]⟩,.call (some 4) 21 62 [.t 5,.t 8,.t 9,.t 10]⟩,
    ⟨some 4,none,⟨[],[]⟩,.mov (.t 11)⟩] [0,1,2,3,5,6,7,8,9,10,11] []) (.ret))
set_option maxRecDepth 4000 in
theorem comp61:(Try.f61.body.bind fun c => compC tab isP chkAll ir61 c) = some ir61:=by kernel_rfl
def onP (s:StS) (pl f:List Int) (t:Int):Bool:=pl.any fun x => !decide (oldP s x) && digP f x t
structure BoA where
  p:StL
  s:StS
  b:Bck
  F:Xf.Loc
  f:List Int
  t:Int
def invBo:List SV→Look→Option (BoA × List Nat)
  | [.ptr c _ 0 0 0,.agg [.sl d _ 1 0 _,.int .i64 w,.int .i64 q,.bool on],.int .i64 t,.sl e _ 1 0 _],look => match invSt look c,rowI (look d),rowI (look e) with
    | some (p,s,g),some (L,.i64,xs),some (F,.i64,f) => some (⟨p,s,⟨L,⟨xs,w,q⟩,on⟩,F,f,t⟩,g++[d,e])
    | _,_,_ => none
  | _,_ => none
attribute [push_cast] invBo
def onWf (s:StS) (pl f:List Int) (t:Int):Prop:=stWf s s.since.length∧ofWf f s.since.length∧pl.length≤16∧(∀ x ∈ pl,0≤x∧x < s.since.length)∧0≤t∧t≤60
def fs62:FS where
  A:=BoA
  args:=fun a => [.ptr 0 a.p.L 0 0 0,a.b.sv 7,.int .i64 a.t,.sl 8 a.F 1 0 a.f.length]
  mem:=fun a => stM a.p a.s++[some (.ro,a.b.L,.ints .i64 a.b.b.places),some (.ro,a.F,.ints .i64 a.f)]
  pre:=fun a => onWf a.s a.b.b.places a.f a.t
  res:=fun a _ => .bool (onP a.s a.b.b.places a.f a.t)
  out:=fun _ _ => []
  new:=fun _ _ => []
set_option maxHeartbeats 1000000 in
theorem ok62:FSOk Try.prog 62 fs62:=by
  refine ⟨⟨_,Try.func62,by kernel_rfl,by kernel_rfl⟩,fun a => ⟨by simp [fs62,stM,push_cast,noMine,argOwn,Chunk.frArg],by simp [fs62,stM,push_cast,outOk,Chunk.ext],fun x => .inl (by simp [fs62,stM,push_cast,frNew,frOut,Chunk.fr])⟩,fun a hp => ?_⟩
  obtain ⟨p,s,⟨L,⟨pl,w,q⟩,on⟩,F,f,t⟩:=a
  obtain ⟨h1,h2,h3,h4,h5,h6⟩:stWf s s.since.length∧ofWf f s.since.length∧pl.length≤16∧(∀ x ∈ pl,0≤x∧x < s.since.length)∧0≤t∧t≤60:=hp
  have hst:=h1
  have hb64:=bits_i64
  have hfl:=h2.1
  obtain ⟨o1,o2,o3,o4,o5,o6,o7,o8,o9,o10,o11⟩:=h1
  change Tri Try.prog 62 [.ptr 0 p.L 0 0 0,.agg [.sl 7 L 1 0 pl.length,.int .i64 w,.int .i64 q,.bool on],.int .i64 t,.sl 8 F 1 0 f.length] (stM p s++[some (.ro,L,.ints .i64 pl),some (.ro,F,.ints .i64 f)]) (postF fs62 ⟨p,s,⟨L,⟨pl,w,q⟩,on⟩,F,f,t⟩)
  refine tri_evS (hyp (l:=[(92,ent92)]) (lp:=[(51,absF)]) ⟨e92,trivial⟩ ⟨p51,trivial⟩) Try.func62 comp62 (rs:=[.tmp 8]) (by rfl) Try.ntmps62 15 ?_
  simp -implicitDefEqProofs only [push_cast,zz,BEq.rfl,ite_true,ite_false,List.append_nil,reduceCtorEq,Nat.reduceAdd,Nat.reduceSub,Nat.reduceMul,Nat.reduceLeDiff,Nat.reduceLT,Nat.reduceEqDiff,Nat.reduceBEq,Nat.reduceBNe,Int.reduceNeg,Int.reduceToNat,ir62,stM,stV]
  intro X
  refine evS_loopU (A:=Nat) kp62_1 kl62_1 (fun i => [(14,.int .i64 i)]) (fun i => []) (fun i => i≤pl.length∧onP s (pl.take i) f t = false) (fun i => pl.length - i) 0 ⟨Nat.zero_le _,rfl⟩ (Sub.pt ?_) ?_
  · simp -implicitDefEqProofs only [push_cast,zz,BEq.rfl,ite_true,ite_false,List.append_nil,reduceCtorEq,Nat.reduceAdd,Nat.reduceSub,Nat.reduceMul,Nat.reduceLeDiff,Nat.reduceLT,Nat.reduceEqDiff,Nat.reduceBEq,Nat.reduceBNe,Int.reduceNeg,Int.reduceToNat]
  intro i ⟨(hi:i≤pl.length),(hno:onP s (pl.take i) f t = false)⟩ K hK
  by_cases hi':i < pl.length
  · have hii:(i:Int) < pl.length:=by omega
    have hx:=h4 _ (rd_mem hi')
    have hst1:onP s (pl.take (i + 1)) f t = (onP s (pl.take i) f t || (!decide (oldP s (rd pl (i:Nat))) && digP f (rd pl (i:Nat)) t)):=any_take hi'
    have hyes:(!decide (oldP s (rd pl (i:Nat))) && digP f (rd pl (i:Nat)) t) = true→onP s pl f t = true:=fun h => List.any_eq_true.2 ⟨_,rd_mem hi',h⟩
    obtain ⟨x,hxx⟩:∃ x,rd pl (i:Int) = x:=⟨_,rfl⟩
    rw [hxx] at hx hst1 hyes
    have hv:=h2.at hx.1 hx.2
    have hd:digP f x t = decide (max (rd f x) (-rd f x) / 2 ^ t.toNat % 2 = 1):=rfl
    obtain ⟨v,hvv⟩:∃ v,rd f x = v:=⟨_,rfl⟩
    rw [hvv] at hv hd
    have hdb:=dig_bd hv.1 hv.2 t.toNat
    have ha:=and_1 hdb.1 hdb.2
    by_cases hold:oldP s x
    · have e1:decide (oldP s x) = true:=decide_eq_true hold
      rw [e1,hno] at hst1
      clear hyes
      simp -implicitDefEqProofs only [push_cast,zz,BEq.rfl,ite_true,ite_false,List.append_nil,reduceCtorEq,Nat.reduceAdd,Nat.reduceSub,Nat.reduceMul,Nat.reduceLeDiff,Nat.reduceLT,Nat.reduceEqDiff,Nat.reduceBEq,Nat.reduceBNe,Int.reduceNeg,Int.reduceToNat,b62_1,stM,stV,fs92,sAtOk,hst,hx,hxx,hii,hold]
      repeat (refine And.intro (by first | omega | trivial | (intros; omega)) ?_)
      refine hK (i + 1) ⟨show i + 1≤pl.length by omega,hst1⟩ (show pl.length - (i + 1) < pl.length - i by omega) _ _ (Sub.pt ?_)
      simp -implicitDefEqProofs only [push_cast,zz,BEq.rfl,ite_true,ite_false,List.append_nil,reduceCtorEq,Nat.reduceAdd,Nat.reduceSub,Nat.reduceMul,Nat.reduceLeDiff,Nat.reduceLT,Nat.reduceEqDiff,Nat.reduceBEq,Nat.reduceBNe,Int.reduceNeg,Int.reduceToNat,stM,stV]
    · have e1:decide (oldP s x) = false:=decide_eq_false hold
      rw [e1,hno] at hst1
      rw [e1] at hyes
      by_cases hdg:max v (-v) / 2 ^ t.toNat % 2 = 1
      · have hyes:=hyes (by rw [hd,decide_eq_true hdg]; rfl)
        clear hK
        simp -implicitDefEqProofs only [push_cast,zz,BEq.rfl,ite_true,ite_false,List.append_nil,reduceCtorEq,Nat.reduceAdd,Nat.reduceSub,Nat.reduceMul,Nat.reduceLeDiff,Nat.reduceLT,Nat.reduceEqDiff,Nat.reduceBEq,Nat.reduceBNe,Int.reduceNeg,Int.reduceToNat,b62_1,stM,stV,fs92,sAtOk,hst,hx,hxx,hii,hold,hvv,ha,hdg]
        repeat (refine And.intro (by first | omega | trivial | (intros; omega)) ?_)
        refine postF.mk' (fun _ => default) [some 0,some 1,some 2,some 3,some 4,none,some 6,some 7,some 8] ?_
        simp -implicitDefEqProofs only [push_cast,zz,BEq.rfl,ite_true,ite_false,List.append_nil,reduceCtorEq,Nat.reduceAdd,Nat.reduceSub,Nat.reduceMul,Nat.reduceLeDiff,Nat.reduceLT,Nat.reduceEqDiff,Nat.reduceBEq,Nat.reduceBNe,Int.reduceNeg,Int.reduceToNat,fs62,stM,stV,hyes]
      · rw [hd,decide_eq_false hdg] at hst1
        simp -implicitDefEqProofs only [push_cast,zz,BEq.rfl,ite_true,ite_false,List.append_nil,reduceCtorEq,Nat.reduceAdd,Nat.reduceSub,Nat.reduceMul,Nat.reduceLeDiff,Nat.reduceLT,Nat.reduceEqDiff,Nat.reduceBEq,Nat.reduceBNe,Int.reduceNeg,Int.reduceToNat,b62_1,stM,stV,fs92,sAtOk,hst,hx,hxx,hii,hold,hvv,ha,hdg]
        repeat (refine And.intro (by first | omega | trivial | (intros; omega)) ?_)
        refine hK (i + 1) ⟨show i + 1≤pl.length by omega,hst1⟩ (show pl.length - (i + 1) < pl.length - i by omega) _ _ (Sub.pt ?_)
        simp -implicitDefEqProofs only [push_cast,zz,BEq.rfl,ite_true,ite_false,List.append_nil,reduceCtorEq,Nat.reduceAdd,Nat.reduceSub,Nat.reduceMul,Nat.reduceLeDiff,Nat.reduceLT,Nat.reduceEqDiff,Nat.reduceBEq,Nat.reduceBNe,Int.reduceNeg,Int.reduceToNat,stM,stV]
  · obtain rfl:i = pl.length:=by omega
    clear hK
    rw [List.take_length] at hno
    simp -implicitDefEqProofs only [push_cast,zz,BEq.rfl,ite_true,ite_false,List.append_nil,reduceCtorEq,Nat.reduceAdd,Nat.reduceSub,Nat.reduceMul,Nat.reduceLeDiff,Nat.reduceLT,Nat.reduceEqDiff,Nat.reduceBEq,Nat.reduceBNe,Int.reduceNeg,Int.reduceToNat,b62_1,r62_2,stM,stV,Int.lt_irrefl]
    refine postF.mk' (fun _ => default) [some 0,some 1,some 2,some 3,some 4,none,some 6,some 7,some 8] ?_
    simp -implicitDefEqProofs only [push_cast,zz,BEq.rfl,ite_true,ite_false,List.append_nil,reduceCtorEq,Nat.reduceAdd,Nat.reduceSub,Nat.reduceMul,Nat.reduceLeDiff,Nat.reduceLT,Nat.reduceEqDiff,Nat.reduceBEq,Nat.reduceBNe,Int.reduceNeg,Int.reduceToNat,fs62,stM,stV,hno]
def ent62:Entry:=spOf fs62 invBo
theorem e62:EntryOk Try.prog 62 ent62:=entry_of ok62 invBo
@[push_cast] theorem ent62_app (us:List SV) (look:Look) (x:Nat→Xf.Loc) (k:Nat):ent62 us look x k = spOf fs62 invBo us look x k:=rfl
structure WoA where
  p:StL
  s:StS
  i:Nat
  Ls:Xf.Loc
  Lb:Xf.Loc
  Lt:Xf.Loc
  Lf:Xf.Loc
  F:Xf.Loc
  f:List Int
  t:Int
def woM (a:WoA):Mem:=stM a.p a.s++[some (.ro,a.Ls,.cells [.ptr 0 a.p.L 0 0 0]),some (.ro,a.Lb,.cells [.ptr 4 a.p.K (a.i:Nat) 4 0]),some (.ro,a.Lt,.cells [.int .i64 a.t]),some (.ro,a.Lf,.cells [.sl 11 a.F 1 0 a.f.length]),some (.ro,a.F,.ints .i64 a.f)]
def invWo:List SV→Look→Option (WoA × List Nat)
  | [.ptr a _ 0 0 0,.ptr b _ 0 0 0,.ptr c _ 0 0 0,.ptr d _ 0 0 0],look => match rowC (look a),rowC (look b),rowC (look c),rowC (look d) with
    | some (Ls,[.ptr m _ 0 0 0]),some (Lb,[.ptr _ _ i 4 0]),some (Lt,[.int .i64 t]),some (Lf,[.sl e _ 1 0 _]) => match invSt look m,rowI (look e) with
      | some (p,s,g),some (F,.i64,f) => some (⟨p,s,i.toNat,Ls,Lb,Lt,Lf,F,f,t⟩,g++[a,b,c,d,e])
      | _,_ => none
    | _,_,_,_ => none
  | _,_ => none
attribute [push_cast] invWo
def fs61:FS where
  A:=WoA
  args:=fun a => [.ptr 7 a.Ls 0 0 0,.ptr 8 a.Lb 0 0 0,.ptr 9 a.Lt 0 0 0,.ptr 10 a.Lf 0 0 0]
  mem:=woM
  pre:=fun a => a.i < a.s.list.length∧onWf a.s (rdBk a.s.list a.i).b.places a.f a.t
  res:=fun a _ => .bool (onP a.s (rdBk a.s.list a.i).b.places a.f a.t)
  out:=fun _ _ => []
  new:=fun _ _ => []
set_option maxHeartbeats 1000000 in
theorem ok61:FSOk Try.prog 61 fs61:=by
  refine ⟨⟨_,Try.func61,by kernel_rfl,by kernel_rfl⟩,fun a => ⟨by simp [fs61,woM,stM,push_cast,noMine,argOwn,Chunk.frArg],by simp [fs61,woM,stM,push_cast,outOk,Chunk.ext],fun x => .inl (by simp [fs61,woM,stM,push_cast,frNew,frOut,Chunk.fr])⟩,fun a hp => ?_⟩
  obtain ⟨p,s,i,Ls,Lb,Lt,Lf,F,f,t⟩:=a
  obtain ⟨h1,h2⟩:i < s.list.length∧onWf s (rdBk s.list i).b.places f t:=hp
  change Tri Try.prog 61 [.ptr 7 Ls 0 0 0,.ptr 8 Lb 0 0 0,.ptr 9 Lt 0 0 0,.ptr 10 Lf 0 0 0] (woM ⟨p,s,i,Ls,Lb,Lt,Lf,F,f,t⟩) (postF fs61 ⟨p,s,i,Ls,Lb,Lt,Lf,F,f,t⟩)
  have rk:=recAt_Bk h1 []
  have hlm:=bkMap_len s.list
  obtain ⟨⟨L',⟨pl,w,q⟩,on'⟩,hbk⟩:∃ b,rdBk s.list i = b:=⟨_,rfl⟩
  rw [hbk] at rk h2
  simp only at h2
  refine tri_evS (hyp (l:=[(62,ent62)]) (lp:=[]) ⟨e62,trivial⟩ trivial) Try.func61 comp61 (rs:=[.tmp 4]) (by rfl) Try.ntmps61 25 ?_
  simp -implicitDefEqProofs only [push_cast,zz,BEq.rfl,ite_true,ite_false,List.append_nil,reduceCtorEq,Nat.reduceAdd,Nat.reduceSub,Nat.reduceMul,Nat.reduceLeDiff,Nat.reduceLT,Nat.reduceEqDiff,Nat.reduceBEq,Nat.reduceBNe,Int.reduceNeg,Int.reduceToNat,ir61,woM,stM,stV,rk,Bck.rc,hlm,fs62,Bck.sv,h2]
  repeat (refine And.intro (by first | omega | trivial | (intros; omega)) ?_)
  refine postF.mk' (fun _ => default) [some 0,some 1,some 2,some 3,some 4,none,some 6,some 7,some 8,some 9,some 10,some 11] ?_
  simp -implicitDefEqProofs only [push_cast,zz,BEq.rfl,ite_true,ite_false,List.append_nil,reduceCtorEq,Nat.reduceAdd,Nat.reduceSub,Nat.reduceMul,Nat.reduceLeDiff,Nat.reduceLT,Nat.reduceEqDiff,Nat.reduceBEq,Nat.reduceBNe,Int.reduceNeg,Int.reduceToNat,fs61,woM,stM,stV,hbk]
def ent61:Entry:=spOf fs61 invWo
theorem e61:EntryOk Try.prog 61 ent61:=entry_of ok61 invWo
@[push_cast] theorem ent61_app (us:List SV) (look:Look) (x:Nat→Xf.Loc) (k:Nat):ent61 us look x k = spOf fs61 invWo us look x k:=rfl
def ir42:IR :=
  .seq (.reg false [⟨some 5,none,⟨[],[]⟩,.mov (.k (.bool false))⟩,
    ⟨some 6,none,⟨[],[]⟩,.mov (.k (.int .i64 0))⟩] [5,6] []) (.seq (.reg false [⟨some 9,none,⟨[],[]⟩,.mov (.t 1)⟩,
    ⟨some 10,none,⟨[],[]⟩,.callv (some 4) 20 (.t 9) []⟩,
    ⟨some 7,none,⟨[],[]⟩,.mov (.t 10)⟩] [1,9,10] []) (.seq (.reg false [⟨some 8,none,⟨[],[]⟩,.mov (.k (.int .i64 0))⟩] [] []) (.seq (.seq (.reg false [⟨some 11,none,⟨[],[]⟩,.mov (.t 7)⟩] [] []) (.cond (.t 11) (.reg false [⟨some 8,none,⟨[],[]⟩,.mov (.k (.int .i64 1))⟩] [11] []) (.skip))) (.seq (.reg false [⟨some 12,none,⟨[],[]⟩,.mov (.t 7)⟩,
    ⟨some 13,none,⟨[],[]⟩,.ld false none 0 0 (.t 2)⟩,
    ⟨some 14,none,⟨[],[]⟩,.mov (.t 0)⟩,
    ⟨some 15,none,⟨[],[]⟩,.mov (.t 8)⟩,
    ⟨some 16,none,⟨[],[]⟩,.call none 24 43 [.t 13,.t 14,.t 15]⟩,
    ⟨some 5,none,⟨[],[]⟩,.mov (.t 12)⟩,
    ⟨some 6,none,⟨[],[]⟩,.mov (.t 16)⟩] [0,2,7,8,11,12,13,14,15,16] []) (.ret)))))
set_option maxRecDepth 4000 in
theorem comp42:(Try.f42.body.bind fun c => compC tab isP chkAll ir42 c) = some ir42:=by kernel_rfl
def ir28:IR :=
  .seq (.reg false [⟨some 5,none,⟨[],[]⟩,.mov (.k (.bool false))⟩,
    ⟨some 6,none,⟨[],[]⟩,.mov (.k (.int .i64 0))⟩] [1,5,6] []) (.seq (.reg false [⟨some 10,none,⟨[],[]⟩,.ld false none 0 0 (.t 2)⟩,
    ⟨some 11,none,⟨[],[]⟩,.mov (.t 0)⟩,
    ⟨some 12,none,⟨[],[]⟩,.call none 20 29 [.t 10,.t 11]⟩,
    ⟨some 9,none,⟨[],[]⟩,.mov (.t 12)⟩,
    ⟨some 13,none,⟨[],[]⟩,.ext (.t 9) 0⟩,
    ⟨some 14,none,⟨[],[]⟩,.ext (.t 9) 1⟩,
    ⟨some 7,none,⟨[],[]⟩,.mov (.t 13)⟩,
    ⟨some 8,none,⟨[],[]⟩,.mov (.t 14)⟩] [0,2,9,10,11,12,13,14] []) (.seq (.reg false [⟨some 15,none,⟨[],[]⟩,.mov (.t 7)⟩,
    ⟨some 16,none,⟨[],[]⟩,.bin 0 .eql (.t 15) (.k (.int .i64 1))⟩,
    ⟨some 17,none,⟨[],[]⟩,.mov (.t 8)⟩,
    ⟨some 5,none,⟨[],[]⟩,.mov (.t 16)⟩,
    ⟨some 6,none,⟨[],[]⟩,.mov (.t 17)⟩] [7,8,15,16,17] []) (.ret)))
set_option maxRecDepth 4000 in
theorem comp28:(Try.f28.body.bind fun c => compC tab isP chkAll ir28 c) = some ir28:=by kernel_rfl
inductive WE where
  | dig (L1 L2 L3 F:Xf.Loc) (f:List Int) (at_ t:Int)
  | neg (L1 L2 F:Xf.Loc) (f:List Int) (at_:Int)
  | on (p:StL) (s:StS) (i:Nat) (Ls Lb Lt Lf F:Xf.Loc) (f:List Int) (t:Int)
def WE.val:WE→Bool
  | .dig _ _ _ _ f i t => digP f i t
  | .neg _ _ _ f i => decide (rd f i < 0)
  | .on _ s i _ _ _ _ _ f t => onP s (rdBk s.list i).b.places f t
def WE.wf:WE→Prop
  | .dig _ _ _ _ f i t => ofWf f f.length∧0≤i∧i < f.length∧0≤t∧t≤60
  | .neg _ _ _ f i => 0≤i∧i < f.length
  | .on _ s i _ _ _ _ _ f t => i < s.list.length∧onWf s (rdBk s.list i).b.places f t
def WE.fn:WE→SV
  | .dig L1 L2 L3 _ _ _ _ => .fn 59 [.ptr 4 L1 0 0 0,.ptr 5 L2 0 0 0,.ptr 6 L3 0 0 0]
  | .neg L1 L2 _ _ _ => .fn 64 [.ptr 4 L1 0 0 0,.ptr 5 L2 0 0 0]
  | .on _ _ _ Ls Lb Lt Lf _ _ _ => .fn 61 [.ptr 11 Ls 0 0 0,.ptr 12 Lb 0 0 0,.ptr 13 Lt 0 0 0,.ptr 14 Lf 0 0 0]
def WE.mem:WE→Mem
  | .dig L1 L2 L3 F f i t => [some (.ro,L1,.cells [.sl 7 F 1 0 f.length]),some (.ro,L2,.cells [.int .i64 i]),some (.ro,L3,.cells [.int .i64 t]),some (.ro,F,.ints .i64 f)]
  | .neg L1 L2 F f i => [some (.ro,L1,.cells [.sl 6 F 1 0 f.length]),some (.ro,L2,.cells [.int .i64 i]),some (.ro,F,.ints .i64 f)]
  | .on p s i Ls Lb Lt Lf F f t => [some (.ro,p.L,.cells (relabs (fun i => i + 4) (stV p s))),some (.ro,p.Z,.ints .i64 s.size),some (.ro,p.M,.bools s.minus),some (.ro,p.I,.ints .i64 s.since),some (.ro,p.K,.recs 4 false [] (s.list.map Bck.rc)),none,some (.ro,p.B,.ints .i64 s.band),
      some (.ro,Ls,.cells [.ptr 4 p.L 0 0 0]),some (.ro,Lb,.cells [.ptr 8 p.K (i:Nat) 4 0]),some (.ro,Lt,.cells [.int .i64 t]),some (.ro,Lf,.cells [.sl 15 F 1 0 f.length]),some (.ro,F,.ints .i64 f)]
def WE.top:WE→Nat
  | .dig .. => 8
  | .neg .. => 7
  | .on .. => 16
def b2i (b:Bool):Int:=if b = true then 1 else 0
structure PeA where
  L:Xf.Loc
  LS:Xf.Loc
  LO:Xf.Loc
  LX:Xf.Loc
  e:EnS
  ctx:Int
  w:WE
def invPe:List SV→Look→Option (PeA × List Nat)
  | [.int .i64 ctx,.fn g cs,.ptr x _ 0 0 0],look => match rowC (look x) with
    | some (LX,[.ptr c _ 0 0 0]) => match invEn [.ptr c nilLoc 0 0 0] look with
      | some (⟨L,LS,LO,e,_,_⟩,h) => bif g == 59 then (match invWd cs look with
          | some (⟨L1,L2,L3,F,f,i,t⟩,k) => some (⟨L,LS,LO,LX,e,ctx,.dig L1 L2 L3 F f i t⟩,h++(x :: k))
          | none => none)
        else bif g == 64 then (match invNg cs look with
          | some (⟨L1,L2,F,f,i⟩,k) => some (⟨L,LS,LO,LX,e,ctx,.neg L1 L2 F f i⟩,h++(x :: k))
          | none => none)
        else bif g == 61 then (match invWo cs look with
          | some (⟨p,s,i,Ls,Lb,Lt,Lf,F,f,t⟩,k) => some (⟨L,LS,LO,LX,e,ctx,.on p s i Ls Lb Lt Lf F f t⟩,h++(x :: k))
          | none => none)
        else none
      | none => none
    | _ => none
  | _,_ => none
attribute [push_cast] invPe
def fs42:FS where
  A:=PeA
  args:=fun a => [.int .i64 a.ctx,a.w.fn,.ptr 3 a.LX 0 0 0]
  mem:=fun a => [some (.lent,a.L,.cells (enV a.LS a.e 2 a.LO)),some (.lent,a.LS,.ints .i64 a.e.st),some (.lent,a.LO,.ints .u8 a.e.out),some (.ro,a.LX,.cells [.ptr 0 a.L 0 0 0])]++a.w.mem
  pre:=fun a => a.e.ok∧0≤a.ctx∧a.ctx < a.e.st.length∧a.e.out.length≤100000000∧a.w.wf
  res:=fun a _ => .tup [.bool a.w.val,.int .i64 0]
  out:=fun a x => [some (some (.cells (enV a.LS (putP a.e a.ctx (b2i a.w.val)) a.w.top (x 0)))),some (some (.ints .i64 (putP a.e a.ctx (b2i a.w.val)).st)),some none]
  new:=fun a x => [(x 0,.ints .u8 (putP a.e a.ctx (b2i a.w.val)).out)]
  newGot:=true
theorem b2i_01 (b:Bool):b2i b = 0∨b2i b = 1:=by cases b <;> simp [b2i]
set_option maxHeartbeats 4000000 in
theorem ok42:FSOk Try.prog 42 fs42:=by
  refine ⟨⟨_,Try.func42,by kernel_rfl,by kernel_rfl⟩,fun a => ?_,fun a hp => ?_⟩
  · obtain ⟨L,LS,LO,LX,e,ctx,w⟩:=a
    cases w <;> exact ⟨by simp [fs42,WE.mem,push_cast,noMine,argOwn,Chunk.frArg],by simp [fs42,WE.mem,enV,ivV,putP,push_cast,outOk,Chunk.ext],fun x => .inl (by simp [fs42,push_cast,frNew,frOut,Chunk.fr])⟩
  obtain ⟨L,LS,LO,LX,⟨kind,st,low,high,out⟩,ctx,w⟩:=a
  obtain ⟨h1,h2,h3,h4,h5⟩:ivOk2 kind st low high∧0≤ctx∧ctx < st.length∧out.length≤100000000∧w.wf:=hp
  have h1':(⟨kind,st,low,high,out⟩:EnS).ok:=h1
  obtain ⟨v,hv⟩:∃ v,w.val = v:=⟨_,rfl⟩
  have hbi:b2i v = 0∨b2i v = 1:=b2i_01 v
  obtain ⟨E,hE⟩:∃ E,putP ⟨kind,st,low,high,out⟩ ctx (b2i v) = E:=⟨_,rfl⟩
  have hst:(E.st.length:Int) = st.length:=by rw [← hE]; simp [putP]
  cases w with
  | dig L1 L2 L3 F f i t =>
    change Tri Try.prog 42 [.int .i64 ctx,.fn 59 [.ptr 4 L1 0 0 0,.ptr 5 L2 0 0 0,.ptr 6 L3 0 0 0],.ptr 3 LX 0 0 0]
      [some (.lent,L,.cells (enV LS ⟨kind,st,low,high,out⟩ 2 LO)),some (.lent,LS,.ints .i64 st),some (.lent,LO,.ints .u8 out),some (.ro,LX,.cells [.ptr 0 L 0 0 0]),some (.ro,L1,.cells [.sl 7 F 1 0 f.length]),some (.ro,L2,.cells [.int .i64 i]),some (.ro,L3,.cells [.int .i64 t]),some (.ro,F,.ints .i64 f)] (postF fs42 _)
    have hv':digP f i t = v:=hv
    obtain ⟨g1,g2,g3,g4,g5⟩:ofWf f f.length∧0≤i∧i < f.length∧0≤t∧t≤60:=h5
    refine tri_evS (hyp (l:=[(59,ent59),(61,ent61),(64,ent64),(43,ent43)]) (lp:=[]) ⟨e59,e61,e64,e43,trivial⟩ trivial) Try.func42 comp42 (rs:=[.tmp 5,.tmp 6]) (by rfl) Try.ntmps42 28 ?_
    cases v with
    | true =>
      have e1:b2i true = 1:=rfl
      rw [e1] at hE
      simp -implicitDefEqProofs only [push_cast,zz,BEq.rfl,ite_true,ite_false,List.append_nil,reduceCtorEq,Nat.reduceAdd,Nat.reduceSub,Nat.reduceMul,Nat.reduceLeDiff,Nat.reduceLT,Nat.reduceEqDiff,Nat.reduceBEq,Nat.reduceBNe,Int.reduceNeg,Int.reduceToNat,ir42,enV,ivV,fs59,wdM,g1,g2,g3,g4,g5,hv',fs43,h1',hE]
      intro X
      repeat (refine And.intro (by first | omega | trivial | (intros; omega)) ?_)
      refine postF.mk' (fun _ => X 4 24) [some 0,some 1,none,some 3,some 4,some 5,some 6,some 7,some 24] ?_
      simp -implicitDefEqProofs only [push_cast,zz,BEq.rfl,ite_true,ite_false,List.append_nil,reduceCtorEq,Nat.reduceAdd,Nat.reduceSub,Nat.reduceMul,Nat.reduceLeDiff,Nat.reduceLT,Nat.reduceEqDiff,Nat.reduceBEq,Nat.reduceBNe,Int.reduceNeg,Int.reduceToNat,fs42,enV,ivV,WE.mem,WE.top,hv,e1,hE,hst]
    | false =>
      have e1:b2i false = 0:=rfl
      rw [e1] at hE
      simp -implicitDefEqProofs only [push_cast,zz,BEq.rfl,ite_true,ite_false,List.append_nil,reduceCtorEq,Nat.reduceAdd,Nat.reduceSub,Nat.reduceMul,Nat.reduceLeDiff,Nat.reduceLT,Nat.reduceEqDiff,Nat.reduceBEq,Nat.reduceBNe,Int.reduceNeg,Int.reduceToNat,ir42,enV,ivV,fs59,wdM,g1,g2,g3,g4,g5,hv',fs43,h1',hE]
      intro X
      repeat (refine And.intro (by first | omega | trivial | (intros; omega)) ?_)
      refine postF.mk' (fun _ => X 4 24) [some 0,some 1,none,some 3,some 4,some 5,some 6,some 7,some 24] ?_
      simp -implicitDefEqProofs only [push_cast,zz,BEq.rfl,ite_true,ite_false,List.append_nil,reduceCtorEq,Nat.reduceAdd,Nat.reduceSub,Nat.reduceMul,Nat.reduceLeDiff,Nat.reduceLT,Nat.reduceEqDiff,Nat.reduceBEq,Nat.reduceBNe,Int.reduceNeg,Int.reduceToNat,fs42,enV,ivV,WE.mem,WE.top,hv,e1,hE,hst]
  | neg L1 L2 F f i =>
    change Tri Try.prog 42 [.int .i64 ctx,.fn 64 [.ptr 4 L1 0 0 0,.ptr 5 L2 0 0 0],.ptr 3 LX 0 0 0]
      [some (.lent,L,.cells (enV LS ⟨kind,st,low,high,out⟩ 2 LO)),some (.lent,LS,.ints .i64 st),some (.lent,LO,.ints .u8 out),some (.ro,LX,.cells [.ptr 0 L 0 0 0]),some (.ro,L1,.cells [.sl 6 F 1 0 f.length]),some (.ro,L2,.cells [.int .i64 i]),some (.ro,F,.ints .i64 f)] (postF fs42 _)
    have hv':decide (rd f i < 0) = v:=hv
    obtain ⟨g1,g2⟩:0≤i∧i < f.length:=h5
    refine tri_evS (hyp (l:=[(59,ent59),(61,ent61),(64,ent64),(43,ent43)]) (lp:=[]) ⟨e59,e61,e64,e43,trivial⟩ trivial) Try.func42 comp42 (rs:=[.tmp 5,.tmp 6]) (by rfl) Try.ntmps42 28 ?_
    cases v with
    | true =>
      have e1:b2i true = 1:=rfl
      rw [e1] at hE
      simp -implicitDefEqProofs only [push_cast,zz,BEq.rfl,ite_true,ite_false,List.append_nil,reduceCtorEq,Nat.reduceAdd,Nat.reduceSub,Nat.reduceMul,Nat.reduceLeDiff,Nat.reduceLT,Nat.reduceEqDiff,Nat.reduceBEq,Nat.reduceBNe,Int.reduceNeg,Int.reduceToNat,ir42,enV,ivV,fs64,ngM,g1,g2,hv',fs43,h1',hE]
      intro X
      repeat (refine And.intro (by first | omega | trivial | (intros; omega)) ?_)
      refine postF.mk' (fun _ => X 4 24) [some 0,some 1,none,some 3,some 4,some 5,some 6,some 24] ?_
      simp -implicitDefEqProofs only [push_cast,zz,BEq.rfl,ite_true,ite_false,List.append_nil,reduceCtorEq,Nat.reduceAdd,Nat.reduceSub,Nat.reduceMul,Nat.reduceLeDiff,Nat.reduceLT,Nat.reduceEqDiff,Nat.reduceBEq,Nat.reduceBNe,Int.reduceNeg,Int.reduceToNat,fs42,enV,ivV,WE.mem,WE.top,hv,e1,hE,hst]
    | false =>
      have e1:b2i false = 0:=rfl
      rw [e1] at hE
      simp -implicitDefEqProofs only [push_cast,zz,BEq.rfl,ite_true,ite_false,List.append_nil,reduceCtorEq,Nat.reduceAdd,Nat.reduceSub,Nat.reduceMul,Nat.reduceLeDiff,Nat.reduceLT,Nat.reduceEqDiff,Nat.reduceBEq,Nat.reduceBNe,Int.reduceNeg,Int.reduceToNat,ir42,enV,ivV,fs64,ngM,g1,g2,hv',fs43,h1',hE]
      intro X
      repeat (refine And.intro (by first | omega | trivial | (intros; omega)) ?_)
      refine postF.mk' (fun _ => X 4 24) [some 0,some 1,none,some 3,some 4,some 5,some 6,some 24] ?_
      simp -implicitDefEqProofs only [push_cast,zz,BEq.rfl,ite_true,ite_false,List.append_nil,reduceCtorEq,Nat.reduceAdd,Nat.reduceSub,Nat.reduceMul,Nat.reduceLeDiff,Nat.reduceLT,Nat.reduceEqDiff,Nat.reduceBEq,Nat.reduceBNe,Int.reduceNeg,Int.reduceToNat,fs42,enV,ivV,WE.mem,WE.top,hv,e1,hE,hst]
  | on p s i Ls Lb Lt Lf F f t =>
    change Tri Try.prog 42 [.int .i64 ctx,.fn 61 [.ptr 11 Ls 0 0 0,.ptr 12 Lb 0 0 0,.ptr 13 Lt 0 0 0,.ptr 14 Lf 0 0 0],.ptr 3 LX 0 0 0]
      [some (.lent,L,.cells (enV LS ⟨kind,st,low,high,out⟩ 2 LO)),some (.lent,LS,.ints .i64 st),some (.lent,LO,.ints .u8 out),some (.ro,LX,.cells [.ptr 0 L 0 0 0]),some (.ro,p.L,.cells (relabs (fun i => i + 4) (stV p s))),some (.ro,p.Z,.ints .i64 s.size),some (.ro,p.M,.bools s.minus),some (.ro,p.I,.ints .i64 s.since),some (.ro,p.K,.recs 4 false [] (s.list.map Bck.rc)),none,some (.ro,p.B,.ints .i64 s.band),some (.ro,Ls,.cells [.ptr 4 p.L 0 0 0]),some (.ro,Lb,.cells [.ptr 8 p.K (i:Nat) 4 0]),some (.ro,Lt,.cells [.int .i64 t]),some (.ro,Lf,.cells [.sl 15 F 1 0 f.length]),some (.ro,F,.ints .i64 f)] (postF fs42 _)
    have hv':onP s (rdBk s.list i).b.places f t = v:=hv
    obtain ⟨g1,g2⟩:i < s.list.length∧onWf s (rdBk s.list i).b.places f t:=h5
    refine tri_evS (hyp (l:=[(59,ent59),(61,ent61),(64,ent64),(43,ent43)]) (lp:=[]) ⟨e59,e61,e64,e43,trivial⟩ trivial) Try.func42 comp42 (rs:=[.tmp 5,.tmp 6]) (by rfl) Try.ntmps42 28 ?_
    cases v with
    | true =>
      have e1:b2i true = 1:=rfl
      rw [e1] at hE
      simp -implicitDefEqProofs only [push_cast,zz,BEq.rfl,ite_true,ite_false,List.append_nil,reduceCtorEq,Nat.reduceAdd,Nat.reduceSub,Nat.reduceMul,Nat.reduceLeDiff,Nat.reduceLT,Nat.reduceEqDiff,Nat.reduceBEq,Nat.reduceBNe,Int.reduceNeg,Int.reduceToNat,ir42,enV,ivV,fs61,woM,stM,stV,Int.toNat_natCast,g1,g2,hv',fs43,h1',hE]
      intro X
      repeat (refine And.intro (by first | omega | trivial | (intros; omega)) ?_)
      refine postF.mk' (fun _ => X 4 24) [some 0,some 1,none,some 3,some 4,some 5,some 6,some 7,some 8,none,some 10,some 11,some 12,some 13,some 14,some 15,some 24] ?_
      simp -implicitDefEqProofs only [push_cast,zz,BEq.rfl,ite_true,ite_false,List.append_nil,reduceCtorEq,Nat.reduceAdd,Nat.reduceSub,Nat.reduceMul,Nat.reduceLeDiff,Nat.reduceLT,Nat.reduceEqDiff,Nat.reduceBEq,Nat.reduceBNe,Int.reduceNeg,Int.reduceToNat,fs42,enV,ivV,WE.mem,WE.top,hv,e1,hE,hst,stV,stM]
    | false =>
      have e1:b2i false = 0:=rfl
      rw [e1] at hE
      simp -implicitDefEqProofs only [push_cast,zz,BEq.rfl,ite_true,ite_false,List.append_nil,reduceCtorEq,Nat.reduceAdd,Nat.reduceSub,Nat.reduceMul,Nat.reduceLeDiff,Nat.reduceLT,Nat.reduceEqDiff,Nat.reduceBEq,Nat.reduceBNe,Int.reduceNeg,Int.reduceToNat,ir42,enV,ivV,fs61,woM,stM,stV,Int.toNat_natCast,g1,g2,hv',fs43,h1',hE]
      intro X
      repeat (refine And.intro (by first | omega | trivial | (intros; omega)) ?_)
      refine postF.mk' (fun _ => X 4 24) [some 0,some 1,none,some 3,some 4,some 5,some 6,some 7,some 8,none,some 10,some 11,some 12,some 13,some 14,some 15,some 24] ?_
      simp -implicitDefEqProofs only [push_cast,zz,BEq.rfl,ite_true,ite_false,List.append_nil,reduceCtorEq,Nat.reduceAdd,Nat.reduceSub,Nat.reduceMul,Nat.reduceLeDiff,Nat.reduceLT,Nat.reduceEqDiff,Nat.reduceBEq,Nat.reduceBNe,Int.reduceNeg,Int.reduceToNat,fs42,enV,ivV,WE.mem,WE.top,hv,e1,hE,hst,stV,stM]
def ent42:Entry:=spOf fs42 invPe
theorem e42:EntryOk Try.prog 42 ent42:=entry_of ok42 invPe
@[push_cast] theorem ent42_app (us:List SV) (look:Look) (x:Nat→Xf.Loc) (k:Nat):ent42 us look x k = spOf fs42 invPe us look x k:=rfl
structure GeA where
  L:Xf.Loc
  LS:Xf.Loc
  LC:Xf.Loc
  LX:Xf.Loc
  d:DeS
  ctx:Int
  w:SV
def invGe:List SV→Look→Option (GeA × List Nat)
  | [.int .i64 ctx,w,.ptr x _ 0 0 0],look => match rowC (look x) with
    | some (LX,[.ptr c _ 0 0 0]) => match invDe [.ptr c nilLoc 0 0 0] look with
      | some (⟨L,LS,LC,d,_⟩,h) => some (⟨L,LS,LC,LX,d,ctx,w⟩,h++[x])
      | none => none
    | _ => none
  | _,_ => none
attribute [push_cast] invGe
def fs28:FS where
  A:=GeA
  args:=fun a => [.int .i64 a.ctx,a.w,.ptr 3 a.LX 0 0 0]
  mem:=fun a => [some (.lent,a.L,.cells (deV a.LS a.d a.LC)),some (.lent,a.LS,.ints .i64 a.d.st),some (.ro,a.LC,.ints .u8 a.d.code),some (.ro,a.LX,.cells [.ptr 0 a.L 0 0 0])]
  pre:=fun a => a.d.ok∧0≤a.ctx∧a.ctx < a.d.st.length
  res:=fun a _ => .tup [.bool (decide (gotB a.d a.ctx = 1)),.int .i64 (gotE a.d a.ctx)]
  out:=fun a x => [some (some (.cells (deV a.LS (gotS a.d a.ctx) a.LC))),some (some (.ints .i64 (gotS a.d a.ctx).st))]
  new:=fun a x => []
set_option maxHeartbeats 1000000 in
theorem ok28:FSOk Try.prog 28 fs28:=by
  refine ⟨⟨_,Try.func28,by kernel_rfl,by kernel_rfl⟩,fun a => ⟨by simp [fs28,deV,deT,ivV,gotS_len,push_cast,noMine,argOwn,Chunk.frArg],by simp [fs28,deV,deT,ivV,gotS_len,push_cast,outOk,Chunk.ext],fun x => .inl (by simp [fs28,deV,deT,ivV,gotS_len,push_cast,frNew,frOut,Chunk.fr])⟩,fun a hp => ?_⟩
  obtain ⟨L,LS,LC,LX,d,ctx,w⟩:=a
  obtain ⟨h1,h2,h3⟩:d.ok∧0≤ctx∧ctx < d.st.length:=hp
  have hl:=(gotS_len d ctx).1
  have hl2:=(gotS_len d ctx).2.1
  obtain ⟨D,hD⟩:∃ D,gotS d ctx = D:=⟨_,rfl⟩
  rw [hD] at hl hl2
  have hl':(D.st.length:Int) = d.st.length:=by rw [hl]
  change Tri Try.prog 28 [.int .i64 ctx,w,.ptr 3 LX 0 0 0] [some (.lent,L,.cells (deV LS d LC)),some (.lent,LS,.ints .i64 d.st),some (.ro,LC,.ints .u8 d.code),some (.ro,LX,.cells [.ptr 0 L 0 0 0])] (postF fs28 ⟨L,LS,LC,LX,d,ctx,w⟩)
  refine tri_evS (hyp (l:=[(29,ent29)]) (lp:=[]) ⟨e29,trivial⟩ trivial) Try.func28 comp28 (rs:=[.tmp 5,.tmp 6]) (by rfl) Try.ntmps28 24 ?_
  simp -implicitDefEqProofs only [push_cast,zz,BEq.rfl,ite_true,ite_false,List.append_nil,reduceCtorEq,Nat.reduceAdd,Nat.reduceSub,Nat.reduceMul,Nat.reduceLeDiff,Nat.reduceLT,Nat.reduceEqDiff,Nat.reduceBEq,Nat.reduceBNe,Int.reduceNeg,Int.reduceToNat,ir28,deV,deT,ivV,fs29,h1,h2,h3]
  repeat (refine And.intro (by first | omega | trivial | (intros; omega)) ?_)
  refine postF.mk' (fun _ => default) [some 0,some 1,some 2,some 3] ?_
  simp -implicitDefEqProofs only [push_cast,zz,BEq.rfl,ite_true,ite_false,List.append_nil,reduceCtorEq,Nat.reduceAdd,Nat.reduceSub,Nat.reduceMul,Nat.reduceLeDiff,Nat.reduceLT,Nat.reduceEqDiff,Nat.reduceBEq,Nat.reduceBNe,Int.reduceNeg,Int.reduceToNat,fs28,deV,deT,ivV,hD,hl',hl2]
def ent28:Entry:=spOf fs28 invGe
theorem e28:EntryOk Try.prog 28 ent28:=entry_of ok28 invGe
@[push_cast] theorem ent28_app (us:List SV) (look:Look) (x:Nat→Xf.Loc) (k:Nat):ent28 us look x k = spOf fs28 invGe us look x k:=rfl
def orP (x t:Int):Int:=((x.toNat ||| 2 ^ t.toNat:Nat):Int)
theorem pw_lt {t:Int} (h0:0≤t) (h1:t≤30):2 ^ t.toNat≤1073741824∧0 < 2 ^ t.toNat:=by
  have:=Nat.pow_le_pow_right (n:=2) (by decide) (show t.toNat≤30 by omega)
  exact ⟨this,Nat.pow_pos (by decide)⟩
theorem orP_bd {x t:Int} (h0:0≤x) (h1:x < 1099511627776) (h2:0≤t) (h3:t≤30):0≤orP x t∧orP x t < 1099511627776:=by
  have hp:=pw_lt h2 h3
  have:x.toNat ||| 2 ^ t.toNat < 2 ^ 40:=Nat.or_lt_two_pow (by omega) (by omega)
  unfold orP
  omega
theorem or_i64 {x t:Int} (h0:0≤x) (h1:x < 1099511627776) (h2:0≤t) (h3:t≤30):bitop .or .i64 x (2 ^ t.toNat) = orP x t:=by
  have hb:=orP_bd h0 h1 h2 h3
  have hp:=pw_lt h2 h3
  obtain ⟨m,hm⟩:∃ m:Nat,2 ^ t.toNat = m:=⟨_,rfl⟩
  have hm':(2:Int) ^ t.toNat = (m:Int):=by rw [← hm]; simp
  rw [hm']
  unfold orP at hb ⊢
  rw [hm] at hp hb ⊢
  obtain ⟨k,rfl⟩:∃ k:Nat,x = k:=⟨x.toNat,by omega⟩
  rw [Int.toNat_natCast] at hb ⊢
  have e:((BitVec.ofInt 64 (k:Int)) ||| (BitVec.ofInt 64 (m:Int))).toNat = k ||| m:=by
    rw [BitVec.toNat_or,BitVec.toNat_ofInt,BitVec.toNat_ofInt]
    rw [show (((k:Int) % ((2 ^ 64:Nat):Int)).toNat) = k by omega,show (((m:Int) % ((2 ^ 64:Nat):Int)).toNat) = m by omega]
  show IntKind.i64.wrap _ = _
  have e':(BitVec.toNat ((BitVec.ofInt IntKind.i64.bits (k:Int)) ||| (BitVec.ofInt IntKind.i64.bits (m:Int)))) = k ||| m:=e
  simp only [e']
  rw [inR_wrap (k:=.i64) (by simp only [inR,push_cast]; omega)]
def numG {β:Type} (bit:β→Int→Bool→Bool × Int × β) (s:StS) (x:β) (i t:Int) (on dig neg:Bool):StS × β × Int :=
  if oldP s i then
    (if (bit x (dctxP s i) dig).2.1 = 0 then
      (if (bit x (dctxP s i) dig).1 = true then { s with size:=s.size.set i.toNat (orP (rd s.size i) t) } else s,(bit x (dctxP s i) dig).2.2,0)
    else (s,(bit x (dctxP s i) dig).2.2,(bit x (dctxP s i) dig).2.1))
  else if on = true then
    (if (bit x (nctxP s i) dig).2.1 = 0 then
      (if (bit x (nctxP s i) dig).1 = true then
        (if (bit (bit x (nctxP s i) dig).2.2 11 neg).2.1 = 0 then
          ({ s with size:=s.size.set i.toNat (orP (rd s.size i) t),minus:=s.minus.set i.toNat (bit (bit x (nctxP s i) dig).2.2 11 neg).1,since:=s.since.set i.toNat (s.now + 1) },(bit (bit x (nctxP s i) dig).2.2 11 neg).2.2,0)
        else (s,(bit (bit x (nctxP s i) dig).2.2 11 neg).2.2,(bit (bit x (nctxP s i) dig).2.2 11 neg).2.1))
      else (s,(bit x (nctxP s i) dig).2.2,0))
    else (s,(bit x (nctxP s i) dig).2.2,(bit x (nctxP s i) dig).2.1))
  else (s,x,0)
def putG (e:EnS) (ctx:Int) (w:Bool):Bool × Int × EnS:=(w,0,putP e ctx (b2i w))
def getG (d:DeS) (ctx:Int) (_:Bool):Bool × Int × DeS:=(decide (gotB d ctx = 1),gotE d ctx,gotS d ctx)
def szWf (s:StS):Prop:=∀ x ∈ s.size,0≤x∧x < 1099511627776
theorem szWf.at {s:StS} (h:szWf s) {i:Int} (h0:0≤i) (h1:i < s.size.length):0≤rd s.size i∧rd s.size i < 1099511627776:=by
  obtain ⟨k,rfl⟩:∃ k:Nat,i = k:=⟨i.toNat,by omega⟩
  rw [rd_lt _ k (by omega)]
  exact h _ (List.getElem_mem _)
theorem numG_enc_old {s:StS} {e:EnS} {i t:Int} {on dig neg:Bool} (h:oldP s i):numG putG s e i t on dig neg = (if dig = true then { s with size:=s.size.set i.toNat (orP (rd s.size i) t) } else s,putP e (dctxP s i) (b2i dig),0):=by
  unfold numG; rw [if_pos h]; simp only [putG,if_true]; rfl
theorem numG_enc_new {s:StS} {e:EnS} {i t:Int} {dig neg:Bool} (h:¬ oldP s i):numG putG s e i t true dig neg = if dig = true then ({ s with size:=s.size.set i.toNat (orP (rd s.size i) t),minus:=s.minus.set i.toNat neg,since:=s.since.set i.toNat (s.now + 1) },putP (putP e (nctxP s i) (b2i dig)) 11 (b2i neg),0) else (s,putP e (nctxP s i) (b2i dig),0):=by
  unfold numG; rw [if_neg h]; simp only [putG,if_true]
theorem numG_off {β:Type} {bit:β→Int→Bool→Bool × Int × β} {s:StS} {x:β} {i t:Int} {dig neg:Bool} (h:¬ oldP s i):numG bit s x i t false dig neg = (s,x,0):=by
  unfold numG; rw [if_neg h,if_neg (by decide)]
def ir63:IR :=
  .seq (.reg false [⟨some 14,none,⟨[],[]⟩,.mov (.k (.int .i64 0))⟩] [14] []) (.seq (.block 0 (.seq (.reg false [⟨some 21,none,⟨[],[]⟩,.mov (.t 0)⟩,
    ⟨some 22,none,⟨[],[]⟩,.mov (.t 1)⟩,
    ⟨some 23,none,⟨[],[]⟩,.call (some 4) 20 92 [.t 21,.t 22]⟩,
    ⟨some 20,none,⟨[],[]⟩,.mov (.t 23)⟩] [21,22,23] []) (.cond (.t 20) (.seq (.reg false [⟨some 25,none,⟨[],[]⟩,.mov (.t 6)⟩,
    ⟨some 26,none,⟨[],[]⟩,.mov (.t 0)⟩,
    ⟨some 27,none,⟨[],[]⟩,.mov (.t 1)⟩,
    ⟨some 28,none,⟨[],[]⟩,.call (some 4) 24 93 [.t 26,.t 27]⟩,
    ⟨some 29,none,⟨[],[]⟩,.mov (.t 4)⟩,
    ⟨some 30,none,⟨[],[]⟩,.callv none 28 (.t 25) [.t 28,.t 29]⟩,
    ⟨some 24,none,⟨[],[]⟩,.mov (.t 30)⟩,
    ⟨some 31,none,⟨[],[]⟩,.ext (.t 24) 0⟩,
    ⟨some 32,none,⟨[],[]⟩,.ext (.t 24) 1⟩,
    ⟨some 15,none,⟨[],[]⟩,.mov (.t 31)⟩,
    ⟨some 16,none,⟨[],[]⟩,.mov (.t 32)⟩] [3,4,5,6,20,24,25,26,27,28,29,30,31,32] []) (.seq (.seq (.reg false [⟨some 33,none,⟨[],[]⟩,.mov (.t 16)⟩,
    ⟨some 34,none,⟨[],[]⟩,.bin 0 .neq (.t 33) (.k (.int .i64 0))⟩] [33] []) (.cond (.t 34) (.seq (.reg false [⟨some 35,none,⟨[],[]⟩,.mov (.t 16)⟩,
    ⟨some 14,none,⟨[],[]⟩,.mov (.t 35)⟩] [0,1,2,15,16,34,35] []) (.ret)) (.skip))) (.seq (.reg false [⟨some 36,none,⟨[],[]⟩,.mov (.t 15)⟩] [14,15,16,34] []) (.cond (.t 36) (.reg true [⟨some 37,none,⟨[],[]⟩,.mov (.t 0)⟩,
    ⟨some 38,none,⟨[],[]⟩,.nilc (.t 37)⟩,
    ⟨some 39,none,⟨[],[]⟩,.fld (.t 38) 0⟩,
    ⟨some 40,none,⟨[],[]⟩,.ld false none 0 0 (.t 39)⟩,
    ⟨some 41,none,⟨[],[]⟩,.mov (.t 1)⟩,
    ⟨some 42,none,⟨[],[]⟩,.idxS (.t 40) (.t 41) 1⟩,
    ⟨some 43,none,⟨[],[]⟩,.ld true none 0 0 (.t 42)⟩,
    ⟨some 44,none,⟨[],[]⟩,.mov (.t 2)⟩,
    ⟨some 45,none,⟨[],[]⟩,.bin 0 .shl (.k (.int .i64 1)) (.t 44)⟩,
    ⟨some 46,none,⟨[],[]⟩,.bin 0 .or (.t 43) (.t 45)⟩,
    ⟨some 47,none,⟨[],[]⟩,.idxS (.t 40) (.t 41) 1⟩,
    ⟨none,none,⟨[],[]⟩,.sto true 1 .i64 (.t 47) (.t 46)⟩] [0,1,2,36,37,38,39,40,41,42,43,44,45,46,47] []) (.skip))))) (.seq (.reg false [⟨some 49,none,⟨[],[]⟩,.mov (.t 3)⟩,
    ⟨some 48,none,⟨[],[]⟩,.mov (.t 49)⟩] [3,20,49] []) (.cond (.t 48) (.seq (.reg false [⟨some 51,none,⟨[],[]⟩,.mov (.t 6)⟩,
    ⟨some 52,none,⟨[],[]⟩,.mov (.t 0)⟩,
    ⟨some 53,none,⟨[],[]⟩,.mov (.t 1)⟩,
    ⟨some 54,none,⟨[],[]⟩,.call (some 4) 32 94 [.t 52,.t 53]⟩,
    ⟨some 55,none,⟨[],[]⟩,.mov (.t 4)⟩,
    ⟨some 56,none,⟨[],[]⟩,.callv none 36 (.t 51) [.t 54,.t 55]⟩,
    ⟨some 50,none,⟨[],[]⟩,.mov (.t 56)⟩,
    ⟨some 57,none,⟨[],[]⟩,.ext (.t 50) 0⟩,
    ⟨some 58,none,⟨[],[]⟩,.ext (.t 50) 1⟩,
    ⟨some 17,none,⟨[],[]⟩,.mov (.t 57)⟩,
    ⟨some 18,none,⟨[],[]⟩,.mov (.t 58)⟩] [4,48,50,51,52,53,54,55,56,57,58] []) (.seq (.seq (.reg false [⟨some 59,none,⟨[],[]⟩,.mov (.t 18)⟩,
    ⟨some 60,none,⟨[],[]⟩,.bin 0 .neq (.t 59) (.k (.int .i64 0))⟩,
    ⟨some 61,none,⟨[],[]⟩,.mov (.t 60)⟩,
    ⟨some 62,some (61,false),⟨[],[]⟩,.mov (.t 17)⟩,
    ⟨some 63,some (61,false),⟨[],[]⟩,.not (.t 62)⟩,
    ⟨some 64,none,⟨[],[]⟩,.pick (.t 61) (.k (.bool true)) (.t 63)⟩] [17,59,60,61,62,63] []) (.cond (.t 64) (.seq (.reg false [⟨some 65,none,⟨[],[]⟩,.mov (.t 18)⟩,
    ⟨some 14,none,⟨[],[]⟩,.mov (.t 65)⟩] [0,1,2,5,6,18,64,65] []) (.ret)) (.skip))) (.seq (.reg false [⟨some 67,none,⟨[],[]⟩,.mov (.t 6)⟩,
    ⟨some 68,none,⟨[],[]⟩,.mov (.t 5)⟩,
    ⟨some 69,none,⟨[],[]⟩,.callv none 40 (.t 67) [.k (.int .i64 11),.t 68]⟩,
    ⟨some 66,none,⟨[],[]⟩,.mov (.t 69)⟩,
    ⟨some 70,none,⟨[],[]⟩,.ext (.t 66) 0⟩,
    ⟨some 71,none,⟨[],[]⟩,.ext (.t 66) 1⟩,
    ⟨some 19,none,⟨[],[]⟩,.mov (.t 70)⟩,
    ⟨some 18,none,⟨[],[]⟩,.mov (.t 71)⟩] [5,6,14,64,66,67,68,69,70,71] []) (.seq (.seq (.reg false [⟨some 72,none,⟨[],[]⟩,.mov (.t 18)⟩,
    ⟨some 73,none,⟨[],[]⟩,.bin 0 .neq (.t 72) (.k (.int .i64 0))⟩] [72] []) (.cond (.t 73) (.seq (.reg false [⟨some 74,none,⟨[],[]⟩,.mov (.t 18)⟩,
    ⟨some 14,none,⟨[],[]⟩,.mov (.t 74)⟩] [0,1,2,18,19,73,74] []) (.ret)) (.skip))) (.seq (.reg true [⟨some 75,none,⟨[],[]⟩,.mov (.t 0)⟩,
    ⟨some 76,none,⟨[],[]⟩,.nilc (.t 75)⟩,
    ⟨some 77,none,⟨[],[]⟩,.fld (.t 76) 0⟩,
    ⟨some 78,none,⟨[],[]⟩,.ld false none 0 0 (.t 77)⟩,
    ⟨some 79,none,⟨[],[]⟩,.mov (.t 1)⟩,
    ⟨some 80,none,⟨[],[]⟩,.idxS (.t 78) (.t 79) 1⟩,
    ⟨some 81,none,⟨[],[]⟩,.ld true none 0 0 (.t 80)⟩,
    ⟨some 82,none,⟨[],[]⟩,.mov (.t 2)⟩,
    ⟨some 83,none,⟨[],[]⟩,.bin 0 .shl (.k (.int .i64 1)) (.t 82)⟩,
    ⟨some 84,none,⟨[],[]⟩,.bin 0 .or (.t 81) (.t 83)⟩,
    ⟨some 85,none,⟨[],[]⟩,.idxS (.t 78) (.t 79) 1⟩,
    ⟨none,none,⟨[],[]⟩,.sto true 1 .i64 (.t 85) (.t 84)⟩] [2,14,18,73,75,76,77,78,79,80,81,82,83,84,85] []) (.reg false [⟨some 86,none,⟨[],[]⟩,.mov (.t 0)⟩,
    ⟨some 87,none,⟨[],[]⟩,.mov (.t 1)⟩,
    ⟨some 88,none,⟨[],[]⟩,.mov (.t 19)⟩,
    ⟨some 89,none,⟨[],[]⟩,.call none 44 95 [.t 86,.t 87,.t 88]⟩] [0,1,19,86,87,88,89] [])))))) (.skip)))))) (.seq (.reg false [⟨some 14,none,⟨[],[]⟩,.mov (.k (.int .i64 0))⟩] [0,1,2,4,5,6,36,48] []) (.ret)))
set_option maxRecDepth 4000 in
theorem comp63:(Try.f63.body.bind fun c => compC tab isP chkAll ir63 c) = some ir63:=by kernel_rfl
structure NuA where
  p:StL
  s:StS
  L:Xf.Loc
  LS:Xf.Loc
  LO:Xf.Loc
  LX:Xf.Loc
  e:EnS
  L1:Xf.Loc
  L2:Xf.Loc
  L3:Xf.Loc
  L4:Xf.Loc
  F:Xf.Loc
  f:List Int
  at_:Int
  t:Int
  on:Bool
def nuM (a:NuA):Mem:=[some (.ro,a.p.L,.cells (stV a.p a.s)),some (.lent,a.p.Z,.ints .i64 a.s.size),some (.lent,a.p.M,.bools a.s.minus),some (.lent,a.p.I,.ints .i64 a.s.since),some (.ro,a.p.K,.recs 4 false [] (a.s.list.map Bck.rc)),none,some (.ro,a.p.B,.ints .i64 a.s.band),
  some (.lent,a.L,.cells (relabs (fun i => i + 7) (enV a.LS a.e 2 a.LO))),some (.lent,a.LS,.ints .i64 a.e.st),some (.lent,a.LO,.ints .u8 a.e.out),some (.ro,a.LX,.cells [.ptr 7 a.L 0 0 0]),
  some (.ro,a.L1,.cells [.sl 15 a.F 1 0 a.f.length]),some (.ro,a.L2,.cells [.int .i64 a.at_]),some (.ro,a.L3,.cells [.int .i64 a.t]),some (.ro,a.L4,.cells [.int .i64 a.at_]),some (.ro,a.F,.ints .i64 a.f)]
def nuR (a:NuA):StS × EnS × Int:=numG putG a.s a.e a.at_ a.t a.on (digP a.f a.at_ a.t) (decide (rd a.f a.at_ < 0))
def invNu:List SV→Look→Option (NuA × List Nat)
  | [.ptr c _ 0 0 0,.int .i64 i,.int .i64 t,.bool on,.fn _ [.ptr a _ 0 0 0,.ptr b _ 0 0 0,.ptr d _ 0 0 0],.fn _ [_,.ptr e _ 0 0 0],.fn _ [.ptr x _ 0 0 0]],look => match invSt look c,rowC (look x),rowC (look a),rowC (look b),rowC (look d),rowC (look e) with
    | some (p,s,g),some (LX,[.ptr k _ 0 0 0]),some (L1,[.sl y _ 1 0 _]),some (L2,_),some (L3,_),some (L4,_) => match invEn [.ptr k nilLoc 0 0 0] look,rowI (look y) with
      | some (⟨L,LS,LO,en,_,_⟩,h),some (F,.i64,f) => some (⟨p,s,L,LS,LO,LX,en,L1,L2,L3,L4,F,f,i,t,on⟩,g++(h++[x,a,b,d,e,y]))
      | _,_ => none
    | _,_,_,_,_,_ => none
  | _,_ => none
attribute [push_cast] invNu
def nuOk (s:StS) (e:EnS) (f:List Int) (i t:Int):Prop:=stWf s s.since.length∧szWf s∧e.ok∧e.st.length = 12∧e.out.length≤90000000∧ofWf f s.since.length∧0≤i∧i < s.since.length∧0≤t∧t≤30
def fs63E:FS where
  A:=NuA
  args:=fun a => [.ptr 0 a.p.L 0 0 0,.int .i64 a.at_,.int .i64 a.t,.bool a.on,.fn 59 [.ptr 11 a.L1 0 0 0,.ptr 12 a.L2 0 0 0,.ptr 13 a.L3 0 0 0],.fn 64 [.ptr 11 a.L1 0 0 0,.ptr 14 a.L4 0 0 0],.fn 42 [.ptr 10 a.LX 0 0 0]]
  mem:=nuM
  pre:=fun a => nuOk a.s a.e a.f a.at_ a.t
  res:=fun a _ => .int .i64 0
  out:=fun a x => [none,some (some (.ints .i64 (nuR a).1.size)),some (some (.bools (nuR a).1.minus)),some (some (.ints .i64 (nuR a).1.since)),none,none,none,some (some (.cells (relabs (fun i => i + 7) (enV a.LS (nuR a).2.1 9 (x 0))))),some (some (.ints .i64 (nuR a).2.1.st)),some none]
  new:=fun a x => [(x 0,.ints .u8 (nuR a).2.1.out)]
  newGot:=true
theorem numG_len {β:Type} (bit:β→Int→Bool→Bool × Int × β) (s:StS) (x:β) (i t:Int) (on dig neg:Bool) :
    (numG bit s x i t on dig neg).1.size.length = s.size.length∧(numG bit s x i t on dig neg).1.minus.length = s.minus.length∧(numG bit s x i t on dig neg).1.since.length = s.since.length:=by
  unfold numG
  split
  · split
    · split <;> simp
    · simp
  · split
    · split
      · split
        · split <;> simp
        · simp
      · simp
    · simp
theorem numE_st (s:StS) (e:EnS) (i t:Int) (on dig neg:Bool):(numG putG s e i t on dig neg).2.1.st.length = e.st.length:=by
  by_cases h:oldP s i
  · rw [numG_enc_old h]; simp [putP]
  · cases on with
    | true => rw [numG_enc_new h]; split <;> simp [putP]
    | false => rw [numG_off h]
set_option maxHeartbeats 4000000 in
theorem ok63E:FSOk Try.prog 63 fs63E:=by
  refine ⟨⟨_,Try.func63,by kernel_rfl,by kernel_rfl⟩,fun a => ?_,fun a hp => ?_⟩
  · have hl:=numG_len putG a.s a.e a.at_ a.t a.on (digP a.f a.at_ a.t) (decide (rd a.f a.at_ < 0))
    have h2:=numE_st a.s a.e a.at_ a.t a.on (digP a.f a.at_ a.t) (decide (rd a.f a.at_ < 0))
    exact ⟨by simp [fs63E,nuM,push_cast,noMine,argOwn,Chunk.frArg],by simp [fs63E,nuM,nuR,hl,h2,enV,ivV,push_cast,outOk,Chunk.ext],fun x => .inl (by simp [fs63E,push_cast,frNew,frOut,Chunk.fr])⟩
  obtain ⟨p,s,L,LS,LO,LX,e,L1,L2,L3,L4,F,f,i,t,on⟩:=a
  obtain ⟨h1,h2,h3,h4,h5,h6,h7,h8,h9,h10⟩:nuOk s e f i t:=hp
  have hst:=h1
  obtain ⟨o1,o2,o3,o4,o5,o6,o7,o8,o9,o10,o11⟩:=h1
  have hfl:=h6.1
  have hofl:ofWf f f.length:=by rw [hfl]; exact h6
  have hsz:=h2.at (i:=i) (by omega) (by omega)
  have hor:=or_i64 hsz.1 hsz.2 h9 h10
  have horb:=orP_bd hsz.1 hsz.2 h9 h10
  have hpw:=pw_lt h9 h10
  have hpI:(2:Int) ^ t.toNat≤1073741824∧0 < (2:Int) ^ t.toNat:=by
    have e:(2:Int) ^ t.toNat = ((2 ^ t.toNat:Nat):Int):=by simp
    omega
  obtain ⟨T,hT⟩:∃ T,(2:Int) ^ t.toNat = T:=⟨_,rfl⟩
  rw [hT] at hpI hor
  have hb64:=bits_i64
  obtain ⟨dg,hdg⟩:∃ v,digP f i t = v:=⟨_,rfl⟩
  obtain ⟨ng,hng⟩:∃ v,decide (rd f i < 0) = v:=⟨_,rfl⟩
  have hr:nuR ⟨p,s,L,LS,LO,LX,e,L1,L2,L3,L4,F,f,i,t,on⟩ = numG putG s e i t on dg ng:=by rw [← hdg,← hng]; rfl
  obtain ⟨sz,hszz⟩:∃ v,rd s.size i = v:=⟨_,rfl⟩
  obtain ⟨oz,hoz⟩:∃ v,orP sz t = v:=⟨_,rfl⟩
  rw [hszz,hoz] at hor horb
  change Tri Try.prog 63 [.ptr 0 p.L 0 0 0,.int .i64 i,.int .i64 t,.bool on,.fn 59 [.ptr 11 L1 0 0 0,.ptr 12 L2 0 0 0,.ptr 13 L3 0 0 0],.fn 64 [.ptr 11 L1 0 0 0,.ptr 14 L4 0 0 0],.fn 42 [.ptr 10 LX 0 0 0]] (nuM ⟨p,s,L,LS,LO,LX,e,L1,L2,L3,L4,F,f,i,t,on⟩) (postF fs63E ⟨p,s,L,LS,LO,LX,e,L1,L2,L3,L4,F,f,i,t,on⟩)
  refine tri_evS (hyp (l:=[(92,ent92),(93,ent93),(94,ent94),(42,ent42),(95,ent95)]) (lp:=[]) ⟨e92,e93,e94,e42,e95,trivial⟩ trivial) Try.func63 comp63 (rs:=[.tmp 14]) (by rfl) Try.ntmps63 48 ?_
  by_cases hold:oldP s i
  · have hc:0≤dctxP s i∧dctxP s i < 12:=by unfold dctxP; split <;> omega
    rw [numG_enc_old hold] at hr
    have hput:=putP_ok (e:=e) (ctx:=dctxP s i) (bit:=b2i dg) h3 hc.1 (by omega) (b2i_01 _)
    obtain ⟨e1,he1⟩:∃ e1,putP e (dctxP s i) (b2i dg) = e1:=⟨_,rfl⟩
    rw [he1] at hr hput
    obtain ⟨c,hcc⟩:∃ c,dctxP s i = c:=⟨_,rfl⟩
    rw [hcc] at hc he1
    have hput3:(e1.st.length:Int) = e.st.length:=by omega
    cases dg with
    | true =>
      rw [if_pos rfl] at hr
      have hr1:(nuR ⟨p,s,L,LS,LO,LX,e,L1,L2,L3,L4,F,f,i,t,on⟩).2.1 = e1:=by rw [hr]
      have hr2:(nuR ⟨p,s,L,LS,LO,LX,e,L1,L2,L3,L4,F,f,i,t,on⟩).1 = { s with size:=s.size.set i.toNat (orP (rd s.size i) t) }:=by rw [hr]
      simp -implicitDefEqProofs only [push_cast,zz,BEq.rfl,ite_true,ite_false,List.append_nil,reduceCtorEq,Nat.reduceAdd,Nat.reduceSub,Nat.reduceMul,Nat.reduceLeDiff,Nat.reduceLT,Nat.reduceEqDiff,Nat.reduceBEq,Nat.reduceBNe,Int.reduceNeg,Int.reduceToNat,ir63,nuM,stM,stV,enV,ivV,fs92,fs93,fs94,fs95,fs42,WE.mem,WE.fn,WE.val,WE.wf,WE.top,sAtOk,hst,hold,hofl,h3,hdg,hng,hszz,Int.one_mul,hT,hor,hcc,he1]
      repeat (refine And.intro (by first | omega | trivial | (intros; omega)) ?_)
      intro X
      repeat (refine And.intro (by first | omega | trivial | (intros; omega)) ?_)
      refine postF.mk' (fun _ => X 5 28) [some 0,some 1,some 2,some 3,some 4,none,some 6,some 7,some 8,none,some 10,some 11,some 12,some 13,some 14,some 15,some 28] ?_
      simp -implicitDefEqProofs only [push_cast,zz,BEq.rfl,ite_true,ite_false,List.append_nil,reduceCtorEq,Nat.reduceAdd,Nat.reduceSub,Nat.reduceMul,Nat.reduceLeDiff,Nat.reduceLT,Nat.reduceEqDiff,Nat.reduceBEq,Nat.reduceBNe,Int.reduceNeg,Int.reduceToNat,fs63E,nuM,stV,enV,ivV,hr1,hr2,hszz,hoz,hput3,List.length_set]
    | false =>
      rw [if_neg (by decide)] at hr
      have hr1:(nuR ⟨p,s,L,LS,LO,LX,e,L1,L2,L3,L4,F,f,i,t,on⟩).2.1 = e1:=by rw [hr]
      have hr2:(nuR ⟨p,s,L,LS,LO,LX,e,L1,L2,L3,L4,F,f,i,t,on⟩).1 = s:=by rw [hr]
      simp -implicitDefEqProofs only [push_cast,zz,BEq.rfl,ite_true,ite_false,List.append_nil,reduceCtorEq,Nat.reduceAdd,Nat.reduceSub,Nat.reduceMul,Nat.reduceLeDiff,Nat.reduceLT,Nat.reduceEqDiff,Nat.reduceBEq,Nat.reduceBNe,Int.reduceNeg,Int.reduceToNat,ir63,nuM,stM,stV,enV,ivV,fs92,fs93,fs94,fs95,fs42,WE.mem,WE.fn,WE.val,WE.wf,WE.top,sAtOk,hst,hold,hofl,h3,hdg,hng,hszz,Int.one_mul,hT,hor,hcc,he1]
      repeat (refine And.intro (by first | omega | trivial | (intros; omega)) ?_)
      intro X
      repeat (refine And.intro (by first | omega | trivial | (intros; omega)) ?_)
      refine postF.mk' (fun _ => X 5 28) [some 0,some 1,some 2,some 3,some 4,none,some 6,some 7,some 8,none,some 10,some 11,some 12,some 13,some 14,some 15,some 28] ?_
      simp -implicitDefEqProofs only [push_cast,zz,BEq.rfl,ite_true,ite_false,List.append_nil,reduceCtorEq,Nat.reduceAdd,Nat.reduceSub,Nat.reduceMul,Nat.reduceLeDiff,Nat.reduceLT,Nat.reduceEqDiff,Nat.reduceBEq,Nat.reduceBNe,Int.reduceNeg,Int.reduceToNat,fs63E,nuM,stV,enV,ivV,hr1,hr2,hput3]
  · cases on with
    | false =>
      rw [numG_off hold] at hr
      have hr1:(nuR ⟨p,s,L,LS,LO,LX,e,L1,L2,L3,L4,F,f,i,t,false⟩).2.1 = e:=by rw [hr]
      have hr2:(nuR ⟨p,s,L,LS,LO,LX,e,L1,L2,L3,L4,F,f,i,t,false⟩).1 = s:=by rw [hr]
      simp -implicitDefEqProofs only [push_cast,zz,BEq.rfl,ite_true,ite_false,List.append_nil,reduceCtorEq,Nat.reduceAdd,Nat.reduceSub,Nat.reduceMul,Nat.reduceLeDiff,Nat.reduceLT,Nat.reduceEqDiff,Nat.reduceBEq,Nat.reduceBNe,Int.reduceNeg,Int.reduceToNat,ir63,nuM,stM,stV,enV,ivV,fs92,fs93,fs94,fs95,fs42,WE.mem,WE.fn,WE.val,WE.wf,WE.top,sAtOk,hst,hold,hofl,h3,hdg,hng,hszz,Int.one_mul,hT,hor]
      repeat (refine And.intro (by first | omega | trivial | (intros; omega)) ?_)
      refine postF.mk' (fun _ => LO) [some 0,some 1,some 2,some 3,some 4,none,some 6,some 7,some 8,none,some 10,some 11,some 12,some 13,some 14,some 15,some 9] ?_
      simp -implicitDefEqProofs only [push_cast,zz,BEq.rfl,ite_true,ite_false,List.append_nil,reduceCtorEq,Nat.reduceAdd,Nat.reduceSub,Nat.reduceMul,Nat.reduceLeDiff,Nat.reduceLT,Nat.reduceEqDiff,Nat.reduceBEq,Nat.reduceBNe,Int.reduceNeg,Int.reduceToNat,fs63E,nuM,stV,enV,ivV,hr1,hr2]
    | true =>
      have hc:0≤nctxP s i∧nctxP s i < 12:=by unfold nctxP; split <;> split <;> omega
      rw [numG_enc_new hold] at hr
      have hput:=putP_ok (e:=e) (ctx:=nctxP s i) (bit:=b2i dg) h3 hc.1 (by omega) (b2i_01 _)
      obtain ⟨e1,he1⟩:∃ e1,putP e (nctxP s i) (b2i dg) = e1:=⟨_,rfl⟩
      rw [he1] at hr hput
      obtain ⟨c,hcc⟩:∃ c,nctxP s i = c:=⟨_,rfl⟩
      rw [hcc] at hc he1
      have hput3:(e1.st.length:Int) = e.st.length:=by omega
      cases dg with
      | true =>
        rw [if_pos rfl] at hr
        have hput':=putP_ok (e:=e1) (ctx:=11) (bit:=b2i ng) hput.1 (by omega) (by omega) (b2i_01 _)
        obtain ⟨e2,he2⟩:∃ e2,putP e1 11 (b2i ng) = e2:=⟨_,rfl⟩
        rw [he2] at hr hput'
        have hput4:(e2.st.length:Int) = e.st.length:=by omega
        have hok1:=hput.1
        have hst':stWf { s with size:=s.size.set i.toNat oz } s.since.length:=⟨by simp only [List.length_set]; exact o1,o2,o3,o4,o5,o6,o7,o8,o9,o10,o11⟩
        have hr1:(nuR ⟨p,s,L,LS,LO,LX,e,L1,L2,L3,L4,F,f,i,t,true⟩).2.1 = e2:=by rw [hr]
        have hr2:(nuR ⟨p,s,L,LS,LO,LX,e,L1,L2,L3,L4,F,f,i,t,true⟩).1 = { s with size:=s.size.set i.toNat (orP (rd s.size i) t),minus:=s.minus.set i.toNat ng,since:=s.since.set i.toNat (s.now + 1) }:=by rw [hr]
        simp -implicitDefEqProofs only [push_cast,zz,BEq.rfl,ite_true,ite_false,List.append_nil,reduceCtorEq,Nat.reduceAdd,Nat.reduceSub,Nat.reduceMul,Nat.reduceLeDiff,Nat.reduceLT,Nat.reduceEqDiff,Nat.reduceBEq,Nat.reduceBNe,Int.reduceNeg,Int.reduceToNat,ir63,nuM,stM,stV,enV,ivV,fs92,fs93,fs94,fs95,fs42,WE.mem,WE.fn,WE.val,WE.wf,WE.top,sAtOk,hst,hold,hofl,h3,hdg,hng,hszz,Int.one_mul,hT,hor,hcc,he1,he2,hok1,List.length_set,hst']
        repeat (refine And.intro (by first | omega | trivial | (intros; omega)) ?_)
        intro X
        repeat (refine And.intro (by first | omega | trivial | (intros; omega)) ?_)
        refine postF.mk' (fun _ => X 2 40) [some 0,some 1,some 2,some 3,some 4,none,some 6,some 7,some 8,none,some 10,some 11,some 12,some 13,some 14,some 15,some 40] ?_
        simp -implicitDefEqProofs only [push_cast,zz,BEq.rfl,ite_true,ite_false,List.append_nil,reduceCtorEq,Nat.reduceAdd,Nat.reduceSub,Nat.reduceMul,Nat.reduceLeDiff,Nat.reduceLT,Nat.reduceEqDiff,Nat.reduceBEq,Nat.reduceBNe,Int.reduceNeg,Int.reduceToNat,fs63E,nuM,stV,enV,ivV,hr1,hr2,hszz,hoz,hput3,hput4,List.length_set]
      | false =>
        rw [if_neg (by decide)] at hr
        have hr1:(nuR ⟨p,s,L,LS,LO,LX,e,L1,L2,L3,L4,F,f,i,t,true⟩).2.1 = e1:=by rw [hr]
        have hr2:(nuR ⟨p,s,L,LS,LO,LX,e,L1,L2,L3,L4,F,f,i,t,true⟩).1 = s:=by rw [hr]
        simp -implicitDefEqProofs only [push_cast,zz,BEq.rfl,ite_true,ite_false,List.append_nil,reduceCtorEq,Nat.reduceAdd,Nat.reduceSub,Nat.reduceMul,Nat.reduceLeDiff,Nat.reduceLT,Nat.reduceEqDiff,Nat.reduceBEq,Nat.reduceBNe,Int.reduceNeg,Int.reduceToNat,ir63,nuM,stM,stV,enV,ivV,fs92,fs93,fs94,fs95,fs42,WE.mem,WE.fn,WE.val,WE.wf,WE.top,sAtOk,hst,hold,hofl,h3,hdg,hng,hszz,Int.one_mul,hT,hor,hcc,he1]
        repeat (refine And.intro (by first | omega | trivial | (intros; omega)) ?_)
        intro X
        repeat (refine And.intro (by first | omega | trivial | (intros; omega)) ?_)
        refine postF.mk' (fun _ => X 5 36) [some 0,some 1,some 2,some 3,some 4,none,some 6,some 7,some 8,none,some 10,some 11,some 12,some 13,some 14,some 15,some 36] ?_
        simp -implicitDefEqProofs only [push_cast,zz,BEq.rfl,ite_true,ite_false,List.append_nil,reduceCtorEq,Nat.reduceAdd,Nat.reduceSub,Nat.reduceMul,Nat.reduceLeDiff,Nat.reduceLT,Nat.reduceEqDiff,Nat.reduceBEq,Nat.reduceBNe,Int.reduceNeg,Int.reduceToNat,fs63E,nuM,stV,enV,ivV,hr1,hr2,hput3]
def ent63E:Entry:=spOf fs63E invNu
theorem e63E:EntryOk Try.prog 63 ent63E:=entry_of ok63E invNu
@[push_cast] theorem ent63E_app (us:List SV) (look:Look) (x:Nat→Xf.Loc) (k:Nat):ent63E us look x k = spOf fs63E invNu us look x k:=rfl
structure NdA2 where
  p:StL
  s:StS
  L:Xf.Loc
  LS:Xf.Loc
  LC:Xf.Loc
  LX:Xf.Loc
  d:DeS
  w1:SV
  w2:SV
  at_:Int
  t:Int
  on:Bool
def ndM (a:NdA2):Mem:=[some (.ro,a.p.L,.cells (stV a.p a.s)),some (.lent,a.p.Z,.ints .i64 a.s.size),some (.lent,a.p.M,.bools a.s.minus),some (.lent,a.p.I,.ints .i64 a.s.since),some (.ro,a.p.K,.recs 4 false [] (a.s.list.map Bck.rc)),none,some (.ro,a.p.B,.ints .i64 a.s.band),
  some (.lent,a.L,.cells (relabs (fun i => i + 7) (deV a.LS a.d a.LC))),some (.lent,a.LS,.ints .i64 a.d.st),some (.ro,a.LC,.ints .u8 a.d.code),some (.ro,a.LX,.cells [.ptr 7 a.L 0 0 0])]
def ndR (a:NdA2):StS × DeS × Int:=numG getG a.s a.d a.at_ a.t a.on false false
def invNd2:List SV→Look→Option (NdA2 × List Nat)
  | [.ptr c _ 0 0 0,.int .i64 i,.int .i64 t,.bool on,w1,w2,.fn _ [.ptr x _ 0 0 0]],look => match invSt look c,rowC (look x) with
    | some (p,s,g),some (LX,[.ptr k _ 0 0 0]) => match invDe [.ptr k nilLoc 0 0 0] look with
      | some (⟨L,LS,LC,d,_⟩,h) => some (⟨p,s,L,LS,LC,LX,d,w1,w2,i,t,on⟩,g++(h++[x]))
      | _ => none
    | _,_ => none
  | _,_ => none
attribute [push_cast] invNd2
def ndOk (s:StS) (d:DeS) (i t:Int):Prop:=stWf s s.since.length∧szWf s∧d.ok∧d.st.length = 12∧0≤i∧i < s.since.length∧0≤t∧t≤30
def fs63D:FS where
  A:=NdA2
  args:=fun a => [.ptr 0 a.p.L 0 0 0,.int .i64 a.at_,.int .i64 a.t,.bool a.on,a.w1,a.w2,.fn 28 [.ptr 10 a.LX 0 0 0]]
  mem:=ndM
  pre:=fun a => ndOk a.s a.d a.at_ a.t
  res:=fun a _ => .int .i64 (ndR a).2.2
  out:=fun a x => [none,some (some (.ints .i64 (ndR a).1.size)),some (some (.bools (ndR a).1.minus)),some (some (.ints .i64 (ndR a).1.since)),none,none,none,some (some (.cells (relabs (fun i => i + 7) (deV a.LS (ndR a).2.1 a.LC)))),some (some (.ints .i64 (ndR a).2.1.st))]
  new:=fun _ _ => []
theorem numD_len (s:StS) (d:DeS) (i t:Int) (on dig neg:Bool):(numG getG s d i t on dig neg).2.1.st.length = d.st.length∧(numG getG s d i t on dig neg).2.1.code = d.code:=by
  unfold numG getG
  split
  · split
    · exact ⟨(gotS_len _ _).1,(gotS_len _ _).2.1⟩
    · exact ⟨(gotS_len _ _).1,(gotS_len _ _).2.1⟩
  · split
    · split
      · split
        · split
          · simp only [(gotS_len _ _).1,(gotS_len _ _).2.1,and_self]
          · simp only [(gotS_len _ _).1,(gotS_len _ _).2.1,and_self]
        · exact ⟨(gotS_len _ _).1,(gotS_len _ _).2.1⟩
      · exact ⟨(gotS_len _ _).1,(gotS_len _ _).2.1⟩
    · exact ⟨rfl,rfl⟩
theorem numG_dec_old {s:StS} {d:DeS} {i t:Int} {on dig neg:Bool} (h:oldP s i):numG getG s d i t on dig neg = if gotE d (dctxP s i) = 0 then (if gotB d (dctxP s i) = 1 then { s with size:=s.size.set i.toNat (orP (rd s.size i) t) } else s,gotS d (dctxP s i),0) else (s,gotS d (dctxP s i),gotE d (dctxP s i)):=by
  unfold numG getG; rw [if_pos h]; simp only [decide_eq_true_eq]
theorem numG_dec_new {s:StS} {d:DeS} {i t:Int} {dig neg:Bool} (h:¬ oldP s i):numG getG s d i t true dig neg =
    if gotE d (nctxP s i) = 0 then (if gotB d (nctxP s i) = 1 then (if gotE (gotS d (nctxP s i)) 11 = 0 then ({ s with size:=s.size.set i.toNat (orP (rd s.size i) t),minus:=s.minus.set i.toNat (decide (gotB (gotS d (nctxP s i)) 11 = 1)),since:=s.since.set i.toNat (s.now + 1) },gotS (gotS d (nctxP s i)) 11,0)
      else (s,gotS (gotS d (nctxP s i)) 11,gotE (gotS d (nctxP s i)) 11)) else (s,gotS d (nctxP s i),0)) else (s,gotS d (nctxP s i),gotE d (nctxP s i)):=by
  unfold numG getG; rw [if_neg h]; simp only [decide_eq_true_eq,if_true]
set_option maxHeartbeats 4000000 in
theorem ok63D:FSOk Try.prog 63 fs63D:=by
  refine ⟨⟨_,Try.func63,by kernel_rfl,by kernel_rfl⟩,fun a => ?_,fun a hp => ?_⟩
  · have hl:=numG_len getG a.s a.d a.at_ a.t a.on false false
    have h2:=numD_len a.s a.d a.at_ a.t a.on false false
    exact ⟨by simp [fs63D,ndM,push_cast,noMine,argOwn,Chunk.frArg],by simp [fs63D,ndM,ndR,hl,h2,deV,deT,ivV,push_cast,outOk,Chunk.ext],fun x => .inl (by simp [fs63D,push_cast,frNew,frOut,Chunk.fr])⟩
  obtain ⟨p,s,L,LS,LC,LX,d,w1,w2,i,t,on⟩:=a
  obtain ⟨h1,h2,h3,h4,h7,h8,h9,h10⟩:ndOk s d i t:=hp
  have hst:=h1
  obtain ⟨o1,o2,o3,o4,o5,o6,o7,o8,o9,o10,o11⟩:=h1
  have hsz:=h2.at (i:=i) (by omega) (by omega)
  have hor:=or_i64 hsz.1 hsz.2 h9 h10
  have horb:=orP_bd hsz.1 hsz.2 h9 h10
  have hpw:=pw_lt h9 h10
  have hpI:(2:Int) ^ t.toNat≤1073741824∧0 < (2:Int) ^ t.toNat:=by
    have e:(2:Int) ^ t.toNat = ((2 ^ t.toNat:Nat):Int):=by simp
    omega
  obtain ⟨T,hT⟩:∃ T,(2:Int) ^ t.toNat = T:=⟨_,rfl⟩
  rw [hT] at hpI hor
  have hb64:=bits_i64
  have hr:ndR ⟨p,s,L,LS,LC,LX,d,w1,w2,i,t,on⟩ = numG getG s d i t on false false:=rfl
  obtain ⟨sz,hszz⟩:∃ v,rd s.size i = v:=⟨_,rfl⟩
  obtain ⟨oz,hoz⟩:∃ v,orP sz t = v:=⟨_,rfl⟩
  rw [hszz,hoz] at hor horb
  change Tri Try.prog 63 [.ptr 0 p.L 0 0 0,.int .i64 i,.int .i64 t,.bool on,w1,w2,.fn 28 [.ptr 10 LX 0 0 0]] (ndM ⟨p,s,L,LS,LC,LX,d,w1,w2,i,t,on⟩) (postF fs63D ⟨p,s,L,LS,LC,LX,d,w1,w2,i,t,on⟩)
  refine tri_evS (hyp (l:=[(92,ent92),(93,ent93),(94,ent94),(28,ent28),(95,ent95)]) (lp:=[]) ⟨e92,e93,e94,e28,e95,trivial⟩ trivial) Try.func63 comp63 (rs:=[.tmp 14]) (by rfl) Try.ntmps63 48 ?_
  by_cases hold:oldP s i
  · have hc:0≤dctxP s i∧dctxP s i < 12:=by unfold dctxP; split <;> omega
    rw [numG_dec_old hold] at hr
    obtain ⟨c,hcc⟩:∃ c,dctxP s i = c:=⟨_,rfl⟩
    rw [hcc] at hc hr
    have hD:=gotS_len d c
    obtain ⟨d1,hd1⟩:∃ d1,gotS d c = d1:=⟨_,rfl⟩
    rw [hd1] at hr hD
    have hD3:(d1.st.length:Int) = d.st.length:=by rw [hD.1]
    have hD4:d1.code = d.code:=hD.2.1
    by_cases he:gotE d c = 0
    · rw [if_pos he] at hr
      by_cases hb:gotB d c = 1
      · rw [if_pos hb] at hr
        have hr1:(ndR ⟨p,s,L,LS,LC,LX,d,w1,w2,i,t,on⟩).2.1 = d1:=by rw [hr]
        have hr2:(ndR ⟨p,s,L,LS,LC,LX,d,w1,w2,i,t,on⟩).1 = { s with size:=s.size.set i.toNat (orP (rd s.size i) t) }:=by rw [hr]
        have hr3:(ndR ⟨p,s,L,LS,LC,LX,d,w1,w2,i,t,on⟩).2.2 = 0:=by rw [hr]
        simp -implicitDefEqProofs only [push_cast,zz,BEq.rfl,ite_true,ite_false,List.append_nil,reduceCtorEq,Nat.reduceAdd,Nat.reduceSub,Nat.reduceMul,Nat.reduceLeDiff,Nat.reduceLT,Nat.reduceEqDiff,Nat.reduceBEq,Nat.reduceBNe,Int.reduceNeg,Int.reduceToNat,ir63,ndM,stM,stV,deV,deT,ivV,fs92,fs93,fs94,fs95,fs28,sAtOk,hst,hold,h3,hszz,Int.one_mul,hT,hor,hcc,hd1,he,hb]
        repeat (refine And.intro (by first | omega | trivial | (intros; omega)) ?_)
        refine postF.mk' (fun _ => default) [some 0,some 1,some 2,some 3,some 4,none,some 6,some 7,some 8,some 9,some 10] ?_
        simp -implicitDefEqProofs only [push_cast,zz,BEq.rfl,ite_true,ite_false,List.append_nil,reduceCtorEq,Nat.reduceAdd,Nat.reduceSub,Nat.reduceMul,Nat.reduceLeDiff,Nat.reduceLT,Nat.reduceEqDiff,Nat.reduceBEq,Nat.reduceBNe,Int.reduceNeg,Int.reduceToNat,fs63D,ndM,stV,deV,deT,ivV,hr1,hr2,hr3,hszz,hoz,List.length_set,hD3,hD4]
      · rw [if_neg hb] at hr
        have hr1:(ndR ⟨p,s,L,LS,LC,LX,d,w1,w2,i,t,on⟩).2.1 = d1:=by rw [hr]
        have hr2:(ndR ⟨p,s,L,LS,LC,LX,d,w1,w2,i,t,on⟩).1 = s:=by rw [hr]
        have hr3:(ndR ⟨p,s,L,LS,LC,LX,d,w1,w2,i,t,on⟩).2.2 = 0:=by rw [hr]
        simp -implicitDefEqProofs only [push_cast,zz,BEq.rfl,ite_true,ite_false,List.append_nil,reduceCtorEq,Nat.reduceAdd,Nat.reduceSub,Nat.reduceMul,Nat.reduceLeDiff,Nat.reduceLT,Nat.reduceEqDiff,Nat.reduceBEq,Nat.reduceBNe,Int.reduceNeg,Int.reduceToNat,ir63,ndM,stM,stV,deV,deT,ivV,fs92,fs93,fs94,fs95,fs28,sAtOk,hst,hold,h3,hszz,Int.one_mul,hT,hor,hcc,hd1,he,hb]
        repeat (refine And.intro (by first | omega | trivial | (intros; omega)) ?_)
        refine postF.mk' (fun _ => default) [some 0,some 1,some 2,some 3,some 4,none,some 6,some 7,some 8,some 9,some 10] ?_
        simp -implicitDefEqProofs only [push_cast,zz,BEq.rfl,ite_true,ite_false,List.append_nil,reduceCtorEq,Nat.reduceAdd,Nat.reduceSub,Nat.reduceMul,Nat.reduceLeDiff,Nat.reduceLT,Nat.reduceEqDiff,Nat.reduceBEq,Nat.reduceBNe,Int.reduceNeg,Int.reduceToNat,fs63D,ndM,stV,deV,deT,ivV,hr1,hr2,hr3,hszz,hoz,List.length_set,hD3,hD4]
    · rw [if_neg he] at hr
      have hr1:(ndR ⟨p,s,L,LS,LC,LX,d,w1,w2,i,t,on⟩).2.1 = d1:=by rw [hr]
      have hr2:(ndR ⟨p,s,L,LS,LC,LX,d,w1,w2,i,t,on⟩).1 = s:=by rw [hr]
      have hr3:(ndR ⟨p,s,L,LS,LC,LX,d,w1,w2,i,t,on⟩).2.2 = gotE d c:=by rw [hr]
      simp -implicitDefEqProofs only [push_cast,zz,BEq.rfl,ite_true,ite_false,List.append_nil,reduceCtorEq,Nat.reduceAdd,Nat.reduceSub,Nat.reduceMul,Nat.reduceLeDiff,Nat.reduceLT,Nat.reduceEqDiff,Nat.reduceBEq,Nat.reduceBNe,Int.reduceNeg,Int.reduceToNat,ir63,ndM,stM,stV,deV,deT,ivV,fs92,fs93,fs94,fs95,fs28,sAtOk,hst,hold,h3,hszz,Int.one_mul,hT,hor,hcc,hd1,he]
      repeat (refine And.intro (by first | omega | trivial | (intros; omega)) ?_)
      refine postF.mk' (fun _ => default) [some 0,some 1,some 2,some 3,some 4,none,some 6,some 7,some 8,some 9,some 10] ?_
      simp -implicitDefEqProofs only [push_cast,zz,BEq.rfl,ite_true,ite_false,List.append_nil,reduceCtorEq,Nat.reduceAdd,Nat.reduceSub,Nat.reduceMul,Nat.reduceLeDiff,Nat.reduceLT,Nat.reduceEqDiff,Nat.reduceBEq,Nat.reduceBNe,Int.reduceNeg,Int.reduceToNat,fs63D,ndM,stV,deV,deT,ivV,hr1,hr2,hr3,hszz,hoz,List.length_set,hD3,hD4]
  · cases on with
    | false =>
      rw [numG_off hold] at hr
      have hr1:(ndR ⟨p,s,L,LS,LC,LX,d,w1,w2,i,t,false⟩).2.1 = d:=by rw [hr]
      have hr2:(ndR ⟨p,s,L,LS,LC,LX,d,w1,w2,i,t,false⟩).1 = s:=by rw [hr]
      have hr3:(ndR ⟨p,s,L,LS,LC,LX,d,w1,w2,i,t,false⟩).2.2 = 0:=by rw [hr]
      simp -implicitDefEqProofs only [push_cast,zz,BEq.rfl,ite_true,ite_false,List.append_nil,reduceCtorEq,Nat.reduceAdd,Nat.reduceSub,Nat.reduceMul,Nat.reduceLeDiff,Nat.reduceLT,Nat.reduceEqDiff,Nat.reduceBEq,Nat.reduceBNe,Int.reduceNeg,Int.reduceToNat,ir63,ndM,stM,stV,deV,deT,ivV,fs92,fs93,fs94,fs95,fs28,sAtOk,hst,hold,h3,hszz,Int.one_mul,hT,hor]
      repeat (refine And.intro (by first | omega | trivial | (intros; omega)) ?_)
      refine postF.mk' (fun _ => default) [some 0,some 1,some 2,some 3,some 4,none,some 6,some 7,some 8,some 9,some 10] ?_
      simp -implicitDefEqProofs only [push_cast,zz,BEq.rfl,ite_true,ite_false,List.append_nil,reduceCtorEq,Nat.reduceAdd,Nat.reduceSub,Nat.reduceMul,Nat.reduceLeDiff,Nat.reduceLT,Nat.reduceEqDiff,Nat.reduceBEq,Nat.reduceBNe,Int.reduceNeg,Int.reduceToNat,fs63D,ndM,stV,deV,deT,ivV,hr1,hr2,hr3,hszz,hoz,List.length_set]
    | true =>
      have hc:0≤nctxP s i∧nctxP s i < 12:=by unfold nctxP; split <;> split <;> omega
      rw [numG_dec_new hold] at hr
      obtain ⟨c,hcc⟩:∃ c,nctxP s i = c:=⟨_,rfl⟩
      rw [hcc] at hc hr
      have hD:=gotS_len d c
      have hDok:=(gotS_ok (ctx:=c) h3 hc.1 (by omega)).1
      obtain ⟨d1,hd1⟩:∃ d1,gotS d c = d1:=⟨_,rfl⟩
      rw [hd1] at hr hD hDok
      have hD3:(d1.st.length:Int) = d.st.length:=by rw [hD.1]
      have hD4:d1.code = d.code:=hD.2.1
      by_cases he:gotE d c = 0
      · rw [if_pos he] at hr
        by_cases hb:gotB d c = 1
        · rw [if_pos hb] at hr
          have hE1:(⟨d1.kind,d1.st,d1.low,d1.high,d.code,d1.at_,d1.value,d1.beyond,d1.ended⟩:DeS) = d1:=by rw [← hD4]
          have hF:=gotS_len d1 11
          obtain ⟨d2,hd2⟩:∃ d2,gotS d1 11 = d2:=⟨_,rfl⟩
          rw [hd2] at hr hF
          have hF3:(d2.st.length:Int) = d.st.length:=by rw [hF.1,hD3]
          have hF4:d2.code = d.code:=by rw [hF.2.1,hD4]
          by_cases he2:gotE d1 11 = 0
          · rw [if_pos he2] at hr
            have hst':stWf { s with size:=s.size.set i.toNat oz } s.since.length:=⟨by simp only [List.length_set]; exact o1,o2,o3,o4,o5,o6,o7,o8,o9,o10,o11⟩
            obtain ⟨bb,hbb⟩:∃ bb,decide (gotB d1 11 = 1) = bb:=⟨_,rfl⟩
            rw [hbb] at hr
            have hr1:(ndR ⟨p,s,L,LS,LC,LX,d,w1,w2,i,t,true⟩).2.1 = d2:=by rw [hr]
            have hr2:(ndR ⟨p,s,L,LS,LC,LX,d,w1,w2,i,t,true⟩).1 = { s with size:=s.size.set i.toNat (orP (rd s.size i) t),minus:=s.minus.set i.toNat bb,since:=s.since.set i.toNat (s.now + 1) }:=by rw [hr]
            have hr3:(ndR ⟨p,s,L,LS,LC,LX,d,w1,w2,i,t,true⟩).2.2 = 0:=by rw [hr]
            simp -implicitDefEqProofs only [push_cast,zz,BEq.rfl,ite_true,ite_false,List.append_nil,reduceCtorEq,Nat.reduceAdd,Nat.reduceSub,Nat.reduceMul,Nat.reduceLeDiff,Nat.reduceLT,Nat.reduceEqDiff,Nat.reduceBEq,Nat.reduceBNe,Int.reduceNeg,Int.reduceToNat,ir63,ndM,stM,stV,deV,deT,ivV,fs92,fs93,fs94,fs95,fs28,sAtOk,hst,hold,h3,hszz,Int.one_mul,hT,hor,hcc,hd1,he,hb,hE1,hd2,he2,hbb,hDok,hst',List.length_set,hD3,hD4]
            repeat (refine And.intro (by first | omega | trivial | (intros; omega)) ?_)
            refine postF.mk' (fun _ => default) [some 0,some 1,some 2,some 3,some 4,none,some 6,some 7,some 8,some 9,some 10] ?_
            simp -implicitDefEqProofs only [push_cast,zz,BEq.rfl,ite_true,ite_false,List.append_nil,reduceCtorEq,Nat.reduceAdd,Nat.reduceSub,Nat.reduceMul,Nat.reduceLeDiff,Nat.reduceLT,Nat.reduceEqDiff,Nat.reduceBEq,Nat.reduceBNe,Int.reduceNeg,Int.reduceToNat,fs63D,ndM,stV,deV,deT,ivV,hr1,hr2,hr3,hszz,hoz,List.length_set,hF3,hF4]
          · rw [if_neg he2] at hr
            have hr1:(ndR ⟨p,s,L,LS,LC,LX,d,w1,w2,i,t,true⟩).2.1 = d2:=by rw [hr]
            have hr2:(ndR ⟨p,s,L,LS,LC,LX,d,w1,w2,i,t,true⟩).1 = s:=by rw [hr]
            have hr3:(ndR ⟨p,s,L,LS,LC,LX,d,w1,w2,i,t,true⟩).2.2 = gotE d1 11:=by rw [hr]
            simp -implicitDefEqProofs only [push_cast,zz,BEq.rfl,ite_true,ite_false,List.append_nil,reduceCtorEq,Nat.reduceAdd,Nat.reduceSub,Nat.reduceMul,Nat.reduceLeDiff,Nat.reduceLT,Nat.reduceEqDiff,Nat.reduceBEq,Nat.reduceBNe,Int.reduceNeg,Int.reduceToNat,ir63,ndM,stM,stV,deV,deT,ivV,fs92,fs93,fs94,fs95,fs28,sAtOk,hst,hold,h3,hszz,Int.one_mul,hT,hor,hcc,hd1,he,hb,hE1,hd2,he2,hDok,hD3,hD4]
            repeat (refine And.intro (by first | omega | trivial | (intros; omega)) ?_)
            refine postF.mk' (fun _ => default) [some 0,some 1,some 2,some 3,some 4,none,some 6,some 7,some 8,some 9,some 10] ?_
            simp -implicitDefEqProofs only [push_cast,zz,BEq.rfl,ite_true,ite_false,List.append_nil,reduceCtorEq,Nat.reduceAdd,Nat.reduceSub,Nat.reduceMul,Nat.reduceLeDiff,Nat.reduceLT,Nat.reduceEqDiff,Nat.reduceBEq,Nat.reduceBNe,Int.reduceNeg,Int.reduceToNat,fs63D,ndM,stV,deV,deT,ivV,hr1,hr2,hr3,hszz,hoz,List.length_set,hF3,hF4]
        · rw [if_neg hb] at hr
          have hr1:(ndR ⟨p,s,L,LS,LC,LX,d,w1,w2,i,t,true⟩).2.1 = d1:=by rw [hr]
          have hr2:(ndR ⟨p,s,L,LS,LC,LX,d,w1,w2,i,t,true⟩).1 = s:=by rw [hr]
          have hr3:(ndR ⟨p,s,L,LS,LC,LX,d,w1,w2,i,t,true⟩).2.2 = 0:=by rw [hr]
          simp -implicitDefEqProofs only [push_cast,zz,BEq.rfl,ite_true,ite_false,List.append_nil,reduceCtorEq,Nat.reduceAdd,Nat.reduceSub,Nat.reduceMul,Nat.reduceLeDiff,Nat.reduceLT,Nat.reduceEqDiff,Nat.reduceBEq,Nat.reduceBNe,Int.reduceNeg,Int.reduceToNat,ir63,ndM,stM,stV,deV,deT,ivV,fs92,fs93,fs94,fs95,fs28,sAtOk,hst,hold,h3,hszz,Int.one_mul,hT,hor,hcc,hd1,he,hb]
          repeat (refine And.intro (by first | omega | trivial | (intros; omega)) ?_)
          refine postF.mk' (fun _ => default) [some 0,some 1,some 2,some 3,some 4,none,some 6,some 7,some 8,some 9,some 10] ?_
          simp -implicitDefEqProofs only [push_cast,zz,BEq.rfl,ite_true,ite_false,List.append_nil,reduceCtorEq,Nat.reduceAdd,Nat.reduceSub,Nat.reduceMul,Nat.reduceLeDiff,Nat.reduceLT,Nat.reduceEqDiff,Nat.reduceBEq,Nat.reduceBNe,Int.reduceNeg,Int.reduceToNat,fs63D,ndM,stV,deV,deT,ivV,hr1,hr2,hr3,hszz,hoz,List.length_set,hD3,hD4]
      · rw [if_neg he] at hr
        have hr1:(ndR ⟨p,s,L,LS,LC,LX,d,w1,w2,i,t,true⟩).2.1 = d1:=by rw [hr]
        have hr2:(ndR ⟨p,s,L,LS,LC,LX,d,w1,w2,i,t,true⟩).1 = s:=by rw [hr]
        have hr3:(ndR ⟨p,s,L,LS,LC,LX,d,w1,w2,i,t,true⟩).2.2 = gotE d c:=by rw [hr]
        simp -implicitDefEqProofs only [push_cast,zz,BEq.rfl,ite_true,ite_false,List.append_nil,reduceCtorEq,Nat.reduceAdd,Nat.reduceSub,Nat.reduceMul,Nat.reduceLeDiff,Nat.reduceLT,Nat.reduceEqDiff,Nat.reduceBEq,Nat.reduceBNe,Int.reduceNeg,Int.reduceToNat,ir63,ndM,stM,stV,deV,deT,ivV,fs92,fs93,fs94,fs95,fs28,sAtOk,hst,hold,h3,hszz,Int.one_mul,hT,hor,hcc,hd1,he]
        repeat (refine And.intro (by first | omega | trivial | (intros; omega)) ?_)
        refine postF.mk' (fun _ => default) [some 0,some 1,some 2,some 3,some 4,none,some 6,some 7,some 8,some 9,some 10] ?_
        simp -implicitDefEqProofs only [push_cast,zz,BEq.rfl,ite_true,ite_false,List.append_nil,reduceCtorEq,Nat.reduceAdd,Nat.reduceSub,Nat.reduceMul,Nat.reduceLeDiff,Nat.reduceLT,Nat.reduceEqDiff,Nat.reduceBEq,Nat.reduceBNe,Int.reduceNeg,Int.reduceToNat,fs63D,ndM,stV,deV,deT,ivV,hr1,hr2,hr3,hszz,hoz,List.length_set,hD3,hD4]
def ent63D:Entry:=spOf fs63D invNd2
theorem e63D:EntryOk Try.prog 63 ent63D:=entry_of ok63D invNd2
@[push_cast] theorem ent63D_app (us:List SV) (look:Look) (x:Nat→Xf.Loc) (k:Nat):ent63D us look x k = spOf fs63D invNd2 us look x k:=rfl
def plsG {β:Type} (bit:β→Int→Bool→Bool × Int × β) (f:List Int) (t:Int) (on:Bool):List Int→StS→β→StS × β × Int
  | [],s,x => (s,x,0)
  | i :: l,s,x =>
    if (numG bit s x i t on (digP f i t) (decide (rd f i < 0))).2.2 = 0 then plsG bit f t on l (numG bit s x i t on (digP f i t) (decide (rd f i < 0))).1 (numG bit s x i t on (digP f i t) (decide (rd f i < 0))).2.1
    else numG bit s x i t on (digP f i t) (decide (rd f i < 0))
def onBk (l:List Bck) (i:Nat) (b:Bool):List Bck:=l.set i ⟨(rdBk l i).L,(rdBk l i).b,b⟩
def setOn (s:StS) (i:Nat) (b:Bool):StS:=⟨s.size,s.minus,s.since,s.now,onBk s.list i b,s.kind,s.nst,s.band,s.w⟩
def bktG {β:Type} (bit:β→Int→Bool→Bool × Int × β) (f:List Int) (t:Int) (i:Nat) (s:StS) (x:β):StS × β × Int :=
  if allP s (rdBk s.list i).b.places = true then plsG bit f t false (rdBk s.list i).b.places (setOn s i false) x
  else if (bit x (bctxP (setOn s i false) (rdBk s.list i).b) (onP s (rdBk s.list i).b.places f t)).2.1 = 0 then
    plsG bit f t (bit x (bctxP (setOn s i false) (rdBk s.list i).b) (onP s (rdBk s.list i).b.places f t)).1 (rdBk s.list i).b.places (setOn s i (bit x (bctxP (setOn s i false) (rdBk s.list i).b) (onP s (rdBk s.list i).b.places f t)).1) (bit x (bctxP (setOn s i false) (rdBk s.list i).b) (onP s (rdBk s.list i).b.places f t)).2.2
  else (setOn s i false,(bit x (bctxP (setOn s i false) (rdBk s.list i).b) (onP s (rdBk s.list i).b.places f t)).2.2,(bit x (bctxP (setOn s i false) (rdBk s.list i).b) (onP s (rdBk s.list i).b.places f t)).2.1)
def slcG {β:Type} (bit:β→Int→Bool→Bool × Int × β) (f:List Int) (t:Int):Nat→Nat→StS→β→StS × β × Int
  | 0,_,s,x => (⟨s.size,s.minus,s.since,s.now + 1,s.list,s.kind,s.nst,s.band,s.w⟩,x,0)
  | k + 1,i,s,x => if (bktG bit f t i s x).2.2 = 0 then slcG bit f t k (i + 1) (bktG bit f t i s x).1 (bktG bit f t i s x).2.1 else bktG bit f t i s x
def sameS (a s:StS):Prop:=a.size.length = s.size.length∧a.minus.length = s.minus.length∧a.since.length = s.since.length∧a.now = s.now∧a.list = s.list∧a.kind = s.kind∧a.nst = s.nst∧a.band = s.band∧a.w = s.w
theorem sameS.refl (s:StS):sameS s s:=⟨rfl,rfl,rfl,rfl,rfl,rfl,rfl,rfl,rfl⟩
theorem sameS.trans {a b c:StS} (h:sameS a b) (g:sameS b c):sameS a c:=by
  obtain ⟨h1,h2,h3,h4,h5,h6,h7,h8,h9⟩:=h
  obtain ⟨g1,g2,g3,g4,g5,g6,g7,g8,g9⟩:=g
  exact ⟨h1.trans g1,h2.trans g2,h3.trans g3,h4.trans g4,h5.trans g5,h6.trans g6,h7.trans g7,h8.trans g8,h9.trans g9⟩
theorem sameS.wf {a s:StS} (h:sameS a s) {n:Nat} (hs:stWf s n):stWf a n:=by
  obtain ⟨h1,h2,h3,h4,h5,h6,h7,h8,h9⟩:=h
  unfold stWf at hs ⊢
  rw [h1,h2,h3,h4,h5,h8,h9]
  exact hs
theorem numG_same {β:Type} (bit:β→Int→Bool→Bool × Int × β) (s:StS) (x:β) (i t:Int) (on dig neg:Bool):sameS (numG bit s x i t on dig neg).1 s:=by
  obtain ⟨h1,h2,h3⟩:=numG_len bit s x i t on dig neg
  refine ⟨h1,h2,h3,?_⟩
  clear h1 h2 h3
  unfold numG
  split
  · split
    · split <;> simp
    · simp
  · split
    · split
      · split
        · split <;> simp
        · simp
      · simp
    · simp
theorem szWf_set {s:StS} (h:szWf s) {i:Int} (h0:0≤i) (h1:i < s.size.length) {t:Int} (t0:0≤t) (t1:t≤30):∀ x ∈ s.size.set i.toNat (orP (rd s.size i) t),0≤x∧x < 1099511627776:=fun x hx => by
  rcases List.mem_or_eq_of_mem_set hx with h' | rfl
  · exact h x h'
  · have:=h.at h0 h1
    exact orP_bd this.1 this.2 t0 t1
theorem numG_sz {β:Type} (bit:β→Int→Bool→Bool × Int × β) {s:StS} (x:β) {i t:Int} (on dig neg:Bool) (h:szWf s) (h0:0≤i) (h1:i < s.size.length) (t0:0≤t) (t1:t≤30):szWf (numG bit s x i t on dig neg).1:=by
  have hs:=szWf_set h h0 h1 t0 t1
  unfold numG
  split
  · split
    · split
      · exact hs
      · exact h
    · exact h
  · split
    · split
      · split
        · split
          · exact hs
          · exact h
        · exact h
      · exact h
    · exact h
theorem dctxP_bd (s:StS) (i:Int):0≤dctxP s i∧dctxP s i < 12:=by unfold dctxP; split <;> omega
theorem nctxP_bd (s:StS) (i:Int):0≤nctxP s i∧nctxP s i < 12:=by unfold nctxP; split <;> split <;> omega
theorem bctxP_bd (s:StS) (b:Pb):0≤bctxP s b∧bctxP s b < 12:=by
  unfold bctxP abP
  split
  · split <;> split <;> omega
  · split <;> omega
def enAft (e e':EnS) (k:Nat):Prop:=e'.ok∧e'.out.length≤e.out.length + k∧e'.st.length = e.st.length∧e'.kind = e.kind
theorem enAft.trans {a b c:EnS} {j k:Nat} (h:enAft a b j) (g:enAft b c k):enAft a c (j + k):=by
  obtain ⟨h1,h2,h3,h4⟩:=h
  obtain ⟨g1,g2,g3,g4⟩:=g
  exact ⟨g1,by omega,g3.trans h3,g4.trans h4⟩
theorem enAft.mono {a b:EnS} {j k:Nat} (h:enAft a b j) (hk:j≤k):enAft a b k:=⟨h.1,by have:=h.2.1; omega,h.2.2⟩
theorem putAft {e:EnS} {c:Int} (h:e.ok) (hs:e.st.length = 12) (hc:0≤c∧c < 12) (b:Bool):enAft e (putP e c (b2i b)) 4 :=
  putP_ok h hc.1 (by omega) (b2i_01 b)
theorem numE_aft (s:StS) {e:EnS} (i t:Int) (on dig neg:Bool) (h:e.ok) (hs:e.st.length = 12):enAft e (numG putG s e i t on dig neg).2.1 8∧(numG putG s e i t on dig neg).2.2 = 0:=by
  by_cases ho:oldP s i
  · rw [numG_enc_old ho]
    have:=putAft h hs (dctxP_bd s i) dig
    exact ⟨this.mono (by decide),rfl⟩
  · cases on with
    | true =>
      rw [numG_enc_new ho]
      have h1:=putAft h hs (nctxP_bd s i) dig
      have h2:=putAft (c:=11) h1.1 (by rw [h1.2.2.1,hs]) (by omega) neg
      split
      · exact ⟨h1.trans h2,rfl⟩
      · exact ⟨h1.mono (by decide),rfl⟩
    | false =>
      rw [numG_off ho]
      exact ⟨⟨h,by simp,rfl,rfl⟩,rfl⟩
def deAft (d d':DeS):Prop:=d'.ok∧d'.st.length = d.st.length∧d'.kind = d.kind∧d'.code = d.code
theorem deAft.trans {a b c:DeS} (h:deAft a b) (g:deAft b c):deAft a c:=by
  obtain ⟨h1,h2,h3,h4⟩:=h
  obtain ⟨g1,g2,g3,g4⟩:=g
  exact ⟨g1,g2.trans h2,g3.trans h3,g4.trans h4⟩
theorem gotAft {d:DeS} {c:Int} (h:d.ok) (hs:d.st.length = 12) (hc:0≤c∧c < 12):deAft d (gotS d c) :=
  gotS_ok h hc.1 (by omega)
theorem numD_aft (s:StS) {d:DeS} (i t:Int) (on dig neg:Bool) (h:d.ok) (hs:d.st.length = 12):deAft d (numG getG s d i t on dig neg).2.1:=by
  by_cases ho:oldP s i
  · rw [numG_dec_old ho]
    have:=gotAft h hs (dctxP_bd s i)
    split
    · exact this
    · exact this
  · cases on with
    | true =>
      rw [numG_dec_new ho]
      have h1:=gotAft h hs (nctxP_bd s i)
      have h2:=gotAft (c:=11) h1.1 (by rw [h1.2.1,hs]) (by omega)
      split
      · split
        · split
          · exact h1.trans h2
          · exact h1.trans h2
        · exact h1
      · exact h1
    | false =>
      rw [numG_off ho]
      exact ⟨h,rfl,rfl,rfl⟩
theorem onBk_rc {l:List Bck} {i:Nat} (b:Bool):(onBk l i b).map Bck.rc = (l.map Bck.rc).set i [.row (rdBk l i).L .i64 (rdBk l i).b.places,.int .i64 (rdBk l i).b.w,.int .i64 (rdBk l i).b.parent,.bool b]:=by
  unfold onBk; rw [List.map_set]; rfl
theorem onBk_at {l:List Bck} {i:Nat} (h:i < l.length) (b:Bool):rdBk (onBk l i b) i = ⟨(rdBk l i).L,(rdBk l i).b,b⟩:=by
  unfold onBk rdBk; simp [h]
theorem onBk_on {l:List Bck} {i:Nat} (h:i < l.length) (a b:Bool):onBk (onBk l i a) i b = onBk l i b:=by
  have:=onBk_at h a
  unfold onBk at this ⊢
  rw [this]; simp
theorem onBk_len (l:List Bck) (i:Nat) (b:Bool):(onBk l i b).length = l.length:=by unfold onBk; simp
theorem onBk_mem {l:List Bck} {i:Nat} (hi:i < l.length) {b:Bool} {x:Bck} (h:x ∈ onBk l i b):∃ y ∈ l,x.L = y.L∧x.b = y.b:=by
  rcases List.mem_or_eq_of_mem_set h with h | rfl
  · exact ⟨x,h,rfl,rfl⟩
  · exact ⟨rdBk l i,by rw [rdBk_nat hi]; exact List.getElem_mem hi,rfl,rfl⟩
theorem setOn_wf {s:StS} {n i:Nat} {b:Bool} (hi:i < s.list.length) (h:stWf s n):stWf (setOn s i b) n:=by
  obtain ⟨o1,o2,o3,o4,o5,o6,o7,o8,o9,o10,o11⟩:=h
  refine ⟨o1,o2,o3,o4,o5,o6,o7,by simp only [setOn,onBk_len]; exact o8,o9,o10,fun x hx => ?_⟩
  obtain ⟨y,hy,_,e⟩:=onBk_mem hi hx
  rw [e]
  simp only [setOn,onBk_len]
  exact o11 y hy
def sameK (l m:List Bck):Prop:=l.map (fun x => (x.L,x.b)) = m.map (fun x => (x.L,x.b))
theorem sameK.refl (l:List Bck):sameK l l:=rfl
theorem sameK.on {l m:List Bck} (h:sameK l m) (i:Nat) (hi:i < l.length) (b:Bool):sameK (onBk l i b) m:=by
  unfold sameK at h ⊢
  rw [← h]
  unfold onBk
  rw [List.map_set]
  rw [show ((rdBk l i).L,(rdBk l i).b) = (l.map (fun x => (x.L,x.b)))[i]'(by simpa using hi) by simp [rdBk_nat hi]]
  rw [List.set_getElem_self]
theorem sameK.len {l m:List Bck} (h:sameK l m):l.length = m.length:=by
  have:=congrArg List.length h
  simpa using this
theorem rows_sameK {l m:List Bck} (h:sameK l m) {y:Addr} (hr:rows (.recs 4 false [] (l.map Bck.rc)) y):rows (.recs 4 false [] (m.map Bck.rc)) y:=by
  obtain ⟨L,k,xs,⟨r,hr,hm⟩,ho⟩:=hr
  refine ⟨L,k,xs,?_,ho⟩
  obtain ⟨b,hb,rfl⟩:=List.mem_map.1 hr
  have hb':(b.L,b.b) ∈ m.map (fun x => (x.L,x.b)):=by rw [← h]; exact List.mem_map.2 ⟨b,hb,rfl⟩
  obtain ⟨c,hc,e⟩:=List.mem_map.1 hb'
  simp only [Prod.mk.injEq] at e
  refine ⟨c.rc,List.mem_map.2 ⟨c,hc,rfl⟩,?_⟩
  unfold Bck.rc at hm ⊢
  rw [e.1,e.2]
  simp only [List.mem_cons,List.not_mem_nil,or_false,reduceCtorEq] at hm ⊢
  exact hm
def simS (a s:StS):Prop:=a.size.length = s.size.length∧a.minus.length = s.minus.length∧a.since.length = s.since.length∧a.now = s.now∧sameK a.list s.list∧a.kind = s.kind∧a.nst = s.nst∧a.band = s.band∧a.w = s.w
theorem simS.refl (s:StS):simS s s:=⟨rfl,rfl,rfl,rfl,rfl,rfl,rfl,rfl,rfl⟩
theorem simS.same {a b s:StS} (g:sameS a b) (h:simS b s):simS a s:=by
  obtain ⟨h1,h2,h3,h4,h5,h6,h7,h8,h9⟩:=h
  obtain ⟨g1,g2,g3,g4,g5,g6,g7,g8,g9⟩:=g
  exact ⟨g1.trans h1,g2.trans h2,g3.trans h3,g4.trans h4,by rw [g5]; exact h5,g6.trans h6,g7.trans h7,g8.trans h8,g9.trans h9⟩
theorem simS.on {b s:StS} {i:Nat} (hi:i < b.list.length) (h:simS b s) (v:Bool):simS (setOn b i v) s:=by
  obtain ⟨h1,h2,h3,h4,h5,h6,h7,h8,h9⟩:=h
  exact ⟨h1,h2,h3,h4,h5.on i hi v,h6,h7,h8,h9⟩
theorem plsG_cons {β:Type} (bit:β→Int→Bool→Bool × Int × β) (f:List Int) (t:Int) (on:Bool) {pl:List Int} {j:Nat} (hj:j < pl.length) (s:StS) (x:β) :
    plsG bit f t on (pl.drop j) s x = if (numG bit s x (rd pl (j:Nat)) t on (digP f (rd pl (j:Nat)) t) (decide (rd f (rd pl (j:Nat)) < 0))).2.2 = 0 then plsG bit f t on (pl.drop (j + 1)) (numG bit s x (rd pl (j:Nat)) t on (digP f (rd pl (j:Nat)) t) (decide (rd f (rd pl (j:Nat)) < 0))).1 (numG bit s x (rd pl (j:Nat)) t on (digP f (rd pl (j:Nat)) t) (decide (rd f (rd pl (j:Nat)) < 0))).2.1
    else numG bit s x (rd pl (j:Nat)) t on (digP f (rd pl (j:Nat)) t) (decide (rd f (rd pl (j:Nat)) < 0)):=by
  rw [rd_lt pl j hj,List.drop_eq_getElem_cons hj,plsG]
theorem sameK.on' {l m:List Bck} (h:sameK l m) (i:Nat) (b:Bool):sameK (onBk l i b) m:=by
  by_cases hi:i < l.length
  · exact h.on i hi b
  · unfold onBk
    rw [List.set_eq_of_length_le (by omega)]
    exact h
theorem plsG_list {β:Type} (bit:β→Int→Bool→Bool × Int × β) (f:List Int) (t:Int) (on:Bool):∀ (l:List Int) (s:StS) (x:β),(plsG bit f t on l s x).1.list = s.list
  | [],s,x => rfl
  | i :: l,s,x => by
    have h:=(numG_same bit s x i t on (digP f i t) (decide (rd f i < 0))).2.2.2.2.1
    rw [plsG]
    split
    · rw [plsG_list bit f t on l]; exact h
    · exact h
theorem bktG_k {β:Type} (bit:β→Int→Bool→Bool × Int × β) (f:List Int) (t:Int) (i:Nat) (s:StS) (x:β):sameK (bktG bit f t i s x).1.list s.list:=by
  unfold bktG
  split
  · rw [plsG_list]; exact (sameK.refl _).on' i false
  · split
    · rw [plsG_list]; exact (sameK.refl _).on' i _
    · exact (sameK.refl _).on' i false
theorem slcG_k {β:Type} (bit:β→Int→Bool→Bool × Int × β) (f:List Int) (t:Int):∀ (k i:Nat) (s:StS) (x:β),sameK (slcG bit f t k i s x).1.list s.list
  | 0,i,s,x => sameK.refl _
  | k + 1,i,s,x => by
    rw [slcG]
    split
    · exact Eq.trans (slcG_k bit f t k (i + 1) _ _) (bktG_k bit f t i s x)
    · exact bktG_k bit f t i s x
structure SlA where
  p:StL
  s:StS
  L:Xf.Loc
  LS:Xf.Loc
  LO:Xf.Loc
  LX:Xf.Loc
  e:EnS
  F:Xf.Loc
  f:List Int
  t:Int
def slM (a:SlA):Mem:=[some (.lent,a.p.L,.cells (stV a.p a.s)),some (.lent,a.p.Z,.ints .i64 a.s.size),some (.lent,a.p.M,.bools a.s.minus),some (.lent,a.p.I,.ints .i64 a.s.since),some (.lent,a.p.K,.recs 4 false [] (a.s.list.map Bck.rc)),none,some (.ro,a.p.B,.ints .i64 a.s.band),
  some (.lent,a.L,.cells (relabs (fun i => i + 7) (enV a.LS a.e 2 a.LO))),some (.lent,a.LS,.ints .i64 a.e.st),some (.lent,a.LO,.ints .u8 a.e.out),some (.ro,a.LX,.cells [.ptr 7 a.L 0 0 0]),some (.ro,a.F,.ints .i64 a.f)]
def slR (a:SlA):StS × EnS × Int:=slcG putG a.f a.t a.s.list.length 0 a.s a.e
def invSl:List SV→Look→Option (SlA × List Nat)
  | [.ptr c _ 0 0 0,.int .i64 t,.sl y _ 1 0 _,.fn _ [.ptr x _ 0 0 0]],look => match invSt look c,rowC (look x),rowI (look y) with
    | some (p,s,g),some (LX,[.ptr k _ 0 0 0]),some (F,.i64,f) => match invEn [.ptr k nilLoc 0 0 0] look with
      | some (⟨L,LS,LO,e,_,_⟩,h) => some (⟨p,s,L,LS,LO,LX,e,F,f,t⟩,g++(h++[x,y]))
      | _ => none
    | _,_,_ => none
  | _,_ => none
attribute [push_cast] invSl
def slOk (s:StS) (e:EnS) (f:List Int) (t:Int):Prop:=stWf s s.since.length∧szWf s∧e.ok∧e.st.length = 12∧e.out.length≤1000000∧ofWf f s.since.length∧0≤t∧t≤30
def fs27E:FS where
  A:=SlA
  args:=fun a => [.ptr 0 a.p.L 0 0 0,.int .i64 a.t,.sl 11 a.F 1 0 a.f.length,.fn 42 [.ptr 10 a.LX 0 0 0]]
  mem:=slM
  pre:=fun a => slOk a.s a.e a.f a.t
  res:=fun a _ => .int .i64 0
  out:=fun a x => [some (some (.cells (stV a.p (slR a).1))),some (some (.ints .i64 (slR a).1.size)),some (some (.bools (slR a).1.minus)),some (some (.ints .i64 (slR a).1.since)),some (some (.recs 4 false [] ((slR a).1.list.map Bck.rc))),none,none,some (some (.cells (relabs (fun i => i + 7) (enV a.LS (slR a).2.1 5 (x 0))))),some (some (.ints .i64 (slR a).2.1.st)),some none]
  new:=fun a x => [(x 0,.ints .u8 (slR a).2.1.out)]
  newGot:=true
theorem plsE_inv (f:List Int) (t:Int) (t0:0≤t) (t1:t≤30) (on:Bool):∀ (l:List Int) (s:StS) (e:EnS) (n:Nat),stWf s n→szWf s→e.ok→e.st.length = 12→(∀ x ∈ l,0≤x∧x < n) →
    sameS (plsG putG f t on l s e).1 s∧szWf (plsG putG f t on l s e).1∧enAft e (plsG putG f t on l s e).2.1 (8 * l.length)∧(plsG putG f t on l s e).2.2 = 0
  | [],s,e,n,hs,hz,he,h12,hl => ⟨sameS.refl s,hz,⟨he,by simp [plsG],rfl,rfl⟩,rfl⟩
  | i :: l,s,e,n,hs,hz,he,h12,hl => by
    have hi:=hl i List.mem_cons_self
    have h1:=numG_same putG s e i t on (digP f i t) (decide (rd f i < 0))
    have h2:=numG_sz putG e on (digP f i t) (decide (rd f i < 0)) hz hi.1 (by have:=hs.1; omega) t0 t1
    obtain ⟨h3,h4⟩:=numE_aft s i t on (digP f i t) (decide (rd f i < 0)) he h12
    rw [plsG,if_pos h4]
    obtain ⟨k1,k2,k3,k4⟩:=plsE_inv f t t0 t1 on l _ _ n (h1.wf hs) h2 h3.1 (by rw [h3.2.2.1,h12]) (fun x hx => hl x (List.mem_cons_of_mem _ hx))
    exact ⟨k1.trans h1,k2,(h3.trans k3).mono (by simp only [List.length_cons]; omega),k4⟩
theorem bktE_inv (f:List Int) (t:Int) (t0:0≤t) (t1:t≤30) (i:Nat) (s:StS) (e:EnS) (n:Nat) (hs:stWf s n) (hz:szWf s) (he:e.ok) (h12:e.st.length = 12) (hi:i < s.list.length) :
    simS (bktG putG f t i s e).1 s∧szWf (bktG putG f t i s e).1∧enAft e (bktG putG f t i s e).2.1 132∧(bktG putG f t i s e).2.2 = 0:=by
  obtain ⟨b1,b2,b3,b4⟩:=hs.2.2.2.2.2.2.2.2.2.2 _ (by rw [rdBk_nat hi]; exact List.getElem_mem hi:rdBk s.list i ∈ s.list)
  unfold bktG
  split
  · obtain ⟨k1,k2,k3,k4⟩:=plsE_inv f t t0 t1 false (rdBk s.list i).b.places (setOn s i false) e n (setOn_wf hi hs) hz he h12 b4
    exact ⟨simS.same k1 ((simS.refl s).on hi false),k2,k3.mono (by omega),k4⟩
  · simp only [putG,if_true]
    have hp:=putAft he h12 (bctxP_bd (setOn s i false) (rdBk s.list i).b) (onP s (rdBk s.list i).b.places f t)
    obtain ⟨k1,k2,k3,k4⟩:=plsE_inv f t t0 t1 (onP s (rdBk s.list i).b.places f t) (rdBk s.list i).b.places (setOn s i (onP s (rdBk s.list i).b.places f t)) _ n (setOn_wf hi hs) hz hp.1 (by rw [hp.2.2.1,h12]) b4
    exact ⟨simS.same k1 ((simS.refl s).on hi _),k2,(hp.trans k3).mono (by omega),k4⟩
theorem simS.wf {a s:StS} (h:simS a s) {n:Nat} (hs:stWf s n):stWf a n:=by
  obtain ⟨h1,h2,h3,h4,h5,h6,h7,h8,h9⟩:=h
  obtain ⟨o1,o2,o3,o4,o5,o6,o7,o8,o9,o10,o11⟩:=hs
  refine ⟨h1.trans o1,h2.trans o2,h3.trans o3,by rw [h8]; exact o4,o5,by rw [h4]; exact o6,by rw [h4]; exact o7,by rw [h5.len]; exact o8,by rw [h9]; exact o9,by rw [h9]; exact o10,fun b hb => ?_⟩
  have hb':(b.L,b.b) ∈ s.list.map (fun x => (x.L,x.b)):=by rw [← h5]; exact List.mem_map.2 ⟨b,hb,rfl⟩
  obtain ⟨c,hc,e⟩:=List.mem_map.1 hb'
  simp only [Prod.mk.injEq] at e
  rw [← e.2,h5.len]
  exact o11 c hc
theorem simS.trans {a b c:StS} (h:simS a b) (g:simS b c):simS a c:=by
  obtain ⟨h1,h2,h3,h4,h5,h6,h7,h8,h9⟩:=h
  obtain ⟨g1,g2,g3,g4,g5,g6,g7,g8,g9⟩:=g
  exact ⟨h1.trans g1,h2.trans g2,h3.trans g3,h4.trans g4,Eq.trans h5 g5,h6.trans g6,h7.trans g7,h8.trans g8,h9.trans g9⟩
theorem slcE_inv (f:List Int) (t:Int) (t0:0≤t) (t1:t≤30) (n:Nat):∀ (k i:Nat) (s:StS) (e:EnS),stWf s n→szWf s→e.ok→e.st.length = 12→i + k = s.list.length →
    simS (slcG putG f t k i s e).1 { s with now:=s.now + 1 }∧szWf (slcG putG f t k i s e).1∧enAft e (slcG putG f t k i s e).2.1 (132 * k)∧(slcG putG f t k i s e).2.2 = 0
  | 0,i,s,e,hs,hz,he,h12,hik => ⟨simS.refl _,hz,⟨he,by simp [slcG],rfl,rfl⟩,rfl⟩
  | k + 1,i,s,e,hs,hz,he,h12,hik => by
    obtain ⟨k1,k2,k3,k4⟩:=bktE_inv f t t0 t1 i s e n hs hz he h12 (by omega)
    rw [slcG,if_pos k4]
    obtain ⟨j1,j2,j3,j4⟩:=slcE_inv f t t0 t1 n k (i + 1) _ _ (k1.wf hs) k2 k3.1 (by rw [k3.2.2.1,h12]) (by rw [k1.2.2.2.2.1.len]; omega)
    refine ⟨j1.trans ?_,j2,(k3.trans j3).mono (by omega),j4⟩
    obtain ⟨h1,h2,h3,h4,h5,h6,h7,h8,h9⟩:=k1
    exact ⟨h1,h2,h3,by simp only; rw [h4],h5,h6,h7,h8,h9⟩
def b27_2:IR :=
  .seq (.reg false [⟨some 66,none,⟨[],[]⟩,.bin 0 .lss (.t 65) (.t 64)⟩] [] []) (.seq (.cond (.t 66) (.skip) (.exit 2)) (.seq (.block 3 (.seq (.reg false [⟨some 67,none,⟨[],[]⟩,.idxS (.t 63) (.t 65) 1⟩,
    ⟨some 68,none,⟨[],[]⟩,.ld true none 0 0 (.t 67)⟩,
    ⟨some 17,none,⟨[],[]⟩,.alloc 34 [.int .i64 0]⟩,
    ⟨none,none,⟨[],[]⟩,.sto false 1 .i64 (.t 17) (.t 68)⟩] [66,67,68] []) (.seq (.reg true [⟨some 69,none,⟨[35,36,37,38],[]⟩,.ld false none 0 0 (.t 4)⟩,
    ⟨some 70,none,⟨[35,36,37,38],[]⟩,.ld false none 0 0 (.t 17)⟩,
    ⟨some 71,none,⟨[35,36,37,38],[]⟩,.ld false none 0 0 (.t 5)⟩,
    ⟨some 72,none,⟨[35,36,37,38],[]⟩,.ld false none 0 0 (.t 11)⟩,
    ⟨some 73,none,⟨[],[]⟩,.nilc (.t 72)⟩,
    ⟨some 74,none,⟨[],[]⟩,.fld (.t 73) 3⟩,
    ⟨some 75,none,⟨[35,36,37,38],[]⟩,.ld true none 0 0 (.t 74)⟩,
    ⟨some 76,none,⟨[],[]⟩,.mov (.t 9)⟩,
    ⟨some 77,none,⟨[],[]⟩,.ld false none 0 0 (.t 17)⟩,
    ⟨some 78,none,⟨[],[]⟩,.callv (some 4) 35 (.t 76) [.t 77]⟩,
    ⟨some 79,none,⟨[],[]⟩,.mkf 64 [.t 6,.t 17]⟩,
    ⟨some 80,none,⟨[],[]⟩,.mov (.t 3)⟩,
    ⟨some 81,none,⟨[],[]⟩,.call none 39 63 [.t 69,.t 70,.t 71,.t 75,.t 78,.t 79,.t 80]⟩,
    ⟨some 18,none,⟨[],[]⟩,.mov (.t 81)⟩] [17,69,70,71,72,73,74,75,76,77,78,79,80,81] []) (.seq (.reg false [⟨some 82,none,⟨[],[]⟩,.mov (.t 18)⟩,
    ⟨some 83,none,⟨[],[]⟩,.bin 0 .neq (.t 82) (.k (.int .i64 0))⟩] [82] []) (.cond (.t 83) (.seq (.reg false [⟨some 84,none,⟨[],[]⟩,.mov (.t 18)⟩,
    ⟨some 8,none,⟨[],[]⟩,.mov (.t 84)⟩] [3,4,5,6,9,11,18,24,25,63,64,65,83,84] []) (.ret)) (.skip)))))) (.reg false [⟨some 85,none,⟨[],[]⟩,.bin 0 .add (.t 65) (.k (.int .i64 1))⟩,
    ⟨some 65,none,⟨[],[]⟩,.mov (.t 85)⟩] [8,18,83,85] [])))
def r27_3:IR :=
  .reg false [⟨some 86,none,⟨[],[]⟩,.bin 0 .add (.t 25) (.k (.int .i64 1))⟩,
    ⟨some 25,none,⟨[],[]⟩,.mov (.t 86)⟩] [11,63,64,65,86] []
def b27_1:IR :=
  .seq (.reg false [⟨some 26,none,⟨[],[]⟩,.bin 0 .lss (.t 25) (.t 24)⟩] [] []) (.seq (.cond (.t 26) (.skip) (.exit 0)) (.seq (.block 1 (.seq (.reg false [⟨some 27,none,⟨[],[]⟩,.mov (.t 25)⟩,
    ⟨some 10,none,⟨[],[]⟩,.mov (.t 27)⟩] [26,27] []) (.seq (.reg false [⟨some 28,none,⟨[],[]⟩,.ld false none 0 0 (.t 4)⟩,
    ⟨some 29,none,⟨[],[]⟩,.nilc (.t 28)⟩,
    ⟨some 30,none,⟨[],[]⟩,.fld (.t 29) 4⟩,
    ⟨some 31,none,⟨[],[]⟩,.ld false none 0 0 (.t 30)⟩,
    ⟨some 32,none,⟨[],[]⟩,.mov (.t 10)⟩,
    ⟨some 33,none,⟨[],[]⟩,.idxS (.t 31) (.t 32) 4⟩,
    ⟨some 11,none,⟨[],[]⟩,.alloc 23 [.val (.pointer none)]⟩,
    ⟨none,none,⟨[],[]⟩,.sto false 1 .i64 (.t 11) (.t 33)⟩] [10,28,29,30,31,32,33] []) (.seq (.reg false [⟨some 34,none,⟨[],[]⟩,.ld false none 0 0 (.t 11)⟩,
    ⟨some 35,none,⟨[],[]⟩,.nilc (.t 34)⟩,
    ⟨some 36,none,⟨[],[]⟩,.fld (.t 35) 3⟩,
    ⟨none,none,⟨[],[]⟩,.sto true 1 .i64 (.t 36) (.k (.bool false))⟩] [34,35,36] []) (.seq (.seq (.reg true [⟨some 38,none,⟨[24],[]⟩,.ld false none 0 0 (.t 4)⟩,
    ⟨some 39,none,⟨[],[]⟩,.ld false none 0 0 (.t 11)⟩,
    ⟨some 40,none,⟨[],[]⟩,.nilc (.t 39)⟩,
    ⟨some 41,none,⟨[],[]⟩,.ld true (some 4) 24 1 (.t 40)⟩,
    ⟨some 42,none,⟨[],[]⟩,.call (some 4) 25 60 [.t 38,.t 41]⟩,
    ⟨some 37,none,⟨[],[]⟩,.mov (.t 42)⟩,
    ⟨some 43,none,⟨[],[]⟩,.ext (.t 37) 0⟩,
    ⟨some 44,none,⟨[],[]⟩,.ext (.t 37) 1⟩,
    ⟨some 12,none,⟨[],[]⟩,.mov (.t 43)⟩,
    ⟨some 13,none,⟨[],[]⟩,.mov (.t 44)⟩] [37,38,39,40,41,42,43,44] []) (.seq (.reg false [⟨some 45,none,⟨[],[]⟩,.mov (.t 13)⟩] [13] []) (.cond (.t 45) (.seq (.reg false [⟨some 47,none,⟨[],[]⟩,.mov (.t 3)⟩,
    ⟨some 48,none,⟨[],[]⟩,.mov (.t 12)⟩,
    ⟨some 49,none,⟨[],[]⟩,.mkf 61 [.t 4,.t 11,.t 5,.t 6]⟩,
    ⟨some 50,none,⟨[],[]⟩,.callv none 29 (.t 47) [.t 48,.t 49]⟩,
    ⟨some 46,none,⟨[],[]⟩,.mov (.t 50)⟩,
    ⟨some 51,none,⟨[],[]⟩,.ext (.t 46) 0⟩,
    ⟨some 52,none,⟨[],[]⟩,.ext (.t 46) 1⟩,
    ⟨some 14,none,⟨[],[]⟩,.mov (.t 51)⟩,
    ⟨some 15,none,⟨[],[]⟩,.mov (.t 52)⟩] [12,45,46,47,48,49,50,51,52] []) (.seq (.seq (.reg false [⟨some 53,none,⟨[],[]⟩,.mov (.t 15)⟩,
    ⟨some 54,none,⟨[],[]⟩,.bin 0 .neq (.t 53) (.k (.int .i64 0))⟩] [53] []) (.cond (.t 54) (.seq (.reg false [⟨some 55,none,⟨[],[]⟩,.mov (.t 15)⟩,
    ⟨some 8,none,⟨[],[]⟩,.mov (.t 55)⟩] [3,4,5,6,9,11,14,15,24,25,54,55] []) (.ret)) (.skip))) (.reg false [⟨some 56,none,⟨[],[]⟩,.ld false none 0 0 (.t 11)⟩,
    ⟨some 57,none,⟨[],[]⟩,.mov (.t 14)⟩,
    ⟨some 58,none,⟨[],[]⟩,.nilc (.t 56)⟩,
    ⟨some 59,none,⟨[],[]⟩,.fld (.t 58) 3⟩,
    ⟨none,none,⟨[],[]⟩,.sto true 1 .i64 (.t 59) (.t 57)⟩] [8,14,15,54,56,57,58,59] []))) (.skip)))) (.seq (.reg false [⟨some 60,none,⟨[],[]⟩,.ld false none 0 0 (.t 11)⟩,
    ⟨some 61,none,⟨[],[]⟩,.nilc (.t 60)⟩,
    ⟨some 62,none,⟨[],[]⟩,.fld (.t 61) 0⟩,
    ⟨some 63,none,⟨[],[]⟩,.ld true none 33 1 (.t 62)⟩,
    ⟨some 64,none,⟨[],[]⟩,.len (.t 63)⟩,
    ⟨some 65,none,⟨[],[]⟩,.mov (.k (.int .i64 0))⟩] [12,45,60,61,62] []) (.block 2 (.loop b27_2)))))))) (r27_3)))
def r27_4:IR :=
  .seq (.reg false [⟨some 87,none,⟨[],[]⟩,.ld false none 0 0 (.t 4)⟩,
    ⟨some 88,none,⟨[],[]⟩,.nilc (.t 87)⟩,
    ⟨some 89,none,⟨[],[]⟩,.fld (.t 88) 3⟩,
    ⟨some 90,none,⟨[],[]⟩,.ld false none 0 0 (.t 89)⟩,
    ⟨some 91,none,⟨[],[]⟩,.bin 0 .add (.t 90) (.k (.int .i64 1))⟩,
    ⟨some 92,none,⟨[],[]⟩,.nilc (.t 87)⟩,
    ⟨some 93,none,⟨[],[]⟩,.fld (.t 92) 3⟩,
    ⟨none,none,⟨[],[]⟩,.sto false 1 .i64 (.t 93) (.t 91)⟩] [3,4,5,6,9,24,25,87,88,89,90,91,92,93] []) (.seq (.reg false [⟨some 8,none,⟨[],[]⟩,.mov (.k (.int .i64 0))⟩] [] []) (.ret))
def ir27:IR :=
  .seq (.reg false [⟨some 4,none,⟨[],[]⟩,.box 20 (.t 0)⟩,
    ⟨some 5,none,⟨[],[]⟩,.box 21 (.t 1)⟩,
    ⟨some 6,none,⟨[],[]⟩,.box 22 (.t 2)⟩,
    ⟨some 8,none,⟨[],[]⟩,.mov (.k (.int .i64 0))⟩] [0,1,2,8] []) (.seq (.reg false [⟨some 19,none,⟨[],[]⟩,.mkf 58 [.t 6,.t 5]⟩,
    ⟨some 9,none,⟨[],[]⟩,.mov (.t 19)⟩] [19] []) (.seq (.seq (.reg false [⟨some 20,none,⟨[],[]⟩,.ld false none 0 0 (.t 4)⟩,
    ⟨some 21,none,⟨[],[]⟩,.nilc (.t 20)⟩,
    ⟨some 22,none,⟨[],[]⟩,.fld (.t 21) 4⟩,
    ⟨some 23,none,⟨[],[]⟩,.ld false none 0 0 (.t 22)⟩,
    ⟨some 24,none,⟨[],[]⟩,.len (.t 23)⟩,
    ⟨some 25,none,⟨[],[]⟩,.mov (.k (.int .i64 0))⟩] [20,21,22,23] []) (.block 0 (.loop b27_1))) (r27_4)))
def kp27_2:List Nat:=[3,4,5,6,9,11,24,25,63,64,65]
def kl27_2:List Nat:=[34,35,36,37,38,39,40,41,42]
attribute [push_cast] kp27_2 kl27_2
def kp27_1:List Nat:=[3,4,5,6,9,24,25]
def kl27_1:List Nat:=[23,24,25,26,27,28,29,30,31,32,33,34,35,36,37,38,39,40,41,42]
attribute [push_cast] kp27_1 kl27_1
set_option maxRecDepth 4000 in
theorem comp27:(Try.f27.body.bind fun c => compC tab isP chkAll ir27 c) = some ir27:=by kernel_rfl
theorem slE_rows (a:SlA) (x:Nat→Xf.Loc):rowsOk fs27E a x:=by
  have k1:=slcG_k putG a.f a.t a.s.list.length 0 a.s a.e
  refine .inr ⟨fun j L ch h => .inl ?_,fun c ch h => ?_⟩
  · cases j with
    | zero => simp [fs27E] at h; rw [← h.2]; rfl
    | succ j => simp [fs27E] at h
  · rcases c with _ | _ | _ | _ | _ | _ | _ | _ | _ | _ | c
    all_goals simp [fs27E,lk] at h
    all_goals subst h
    · exact .inl rfl
    · exact .inl rfl
    · exact .inl rfl
    · exact .inl rfl
    · exact .inr fun y hy => .inr ⟨_,rfl,rows_sameK k1 hy⟩
    · exact .inl rfl
    · exact .inl rfl
set_option maxHeartbeats 4000000 in
theorem ok27E:FSOk Try.prog 27 fs27E:=by
  refine ⟨⟨_,Try.func27,by kernel_rfl,by kernel_rfl⟩,fun a => ⟨by simp [fs27E,slM,push_cast,noMine,argOwn,Chunk.frArg],by simp [fs27E,slM,stV,enV,ivV,push_cast,outOk,Chunk.ext],fun x => slE_rows a x⟩,fun a hp => ?_⟩
  obtain ⟨p,s0,L,LS,LO,LX,e0,F,f,t⟩:=a
  obtain ⟨h1,h2,h3,h4,h5,h6,h7,h8⟩:slOk s0 e0 f t:=hp
  obtain ⟨n,hn⟩:∃ n,s0.since.length = n:=⟨_,rfl⟩
  rw [hn] at h1 h6
  have hfl:=h6.1
  have hofl:ofWf f f.length:=by rw [hfl]; exact h6
  have hR0:slR ⟨p,s0,L,LS,LO,LX,e0,F,f,t⟩ = slcG putG f t s0.list.length 0 s0 e0:=rfl
  obtain ⟨R,hR⟩:∃ R,slR ⟨p,s0,L,LS,LO,LX,e0,F,f,t⟩ = R:=⟨_,rfl⟩
  rw [hR] at hR0
  obtain ⟨size0,minus0,since0,now,list0,kind,nst,band,w⟩:=s0
  obtain ⟨o1,o2,o3,o4,o5,o6,o7,o8,o9,o10,o11⟩:=id h1
  simp only at o1 o2 o3 o4 o5 o6 o7 o8 o9 o10 o11 hR0
  obtain ⟨m,hm⟩:∃ m,list0.length = m:=⟨_,rfl⟩
  rw [hm] at hR0
  have hb64:=bits_i64
  change Tri Try.prog 27 [.ptr 0 p.L 0 0 0,.int .i64 t,.sl 11 F 1 0 f.length,.fn 42 [.ptr 10 LX 0 0 0]] (slM ⟨p,⟨size0,minus0,since0,now,list0,kind,nst,band,w⟩,L,LS,LO,LX,e0,F,f,t⟩) (postF fs27E ⟨p,⟨size0,minus0,since0,now,list0,kind,nst,band,w⟩,L,LS,LO,LX,e0,F,f,t⟩)
  refine tri_evS (hyp (l:=[(58,ent58),(60,ent60),(42,ent42),(63,ent63E)]) (lp:=[]) ⟨e58,e60,e42,e63E,trivial⟩ trivial) Try.func27 comp27 (rs:=[.tmp 8]) (by rfl) Try.ntmps27 43 ?_
  have he4:(k:Nat)→k < m→esz 4 m = 4:=fun k hk => esz_pos (by omega)
  simp -implicitDefEqProofs only [push_cast,zz,BEq.rfl,ite_true,ite_false,List.append_nil,reduceCtorEq,Nat.reduceAdd,Nat.reduceSub,Nat.reduceMul,Nat.reduceLeDiff,Nat.reduceLT,Nat.reduceEqDiff,Nat.reduceBEq,Nat.reduceBNe,Int.reduceNeg,Int.reduceToNat,ir27,slM,stV,enV,ivV,o1,o2,o3,o4,hm]
  intro X
  refine evS_loopU (A:=Nat × StS × EnS × Xf.Loc) kp27_1 kl27_1 (fun y => [(25,.int .i64 y.1)])
    (fun y => [(1,.lent,p.Z,.ints .i64 y.2.1.size),(2,.lent,p.M,.bools y.2.1.minus),(3,.lent,p.I,.ints .i64 y.2.1.since),(4,.lent,p.K,.recs 4 false [] (y.2.1.list.map Bck.rc)),(7,.lent,L,.cells (relabs (fun i => i + 7) (enV LS y.2.2.1 2 y.2.2.2))),(8,.lent,LS,.ints .i64 y.2.2.1.st),(9,.got,y.2.2.2,.ints .u8 y.2.2.1.out)])
    (fun y => y.1≤m∧slcG putG f t (m - y.1) y.1 y.2.1 y.2.2.1 = R∧simS y.2.1 ⟨size0,minus0,since0,now,list0,kind,nst,band,w⟩∧szWf y.2.1∧enAft e0 y.2.2.1 (132 * y.1)) (fun y => m - y.1) (0,⟨size0,minus0,since0,now,list0,kind,nst,band,w⟩,e0,LO) ⟨Nat.zero_le _,hR0.symm,simS.refl _,h2,h3,Nat.le_refl _,rfl,rfl⟩ (Sub.pt ?_) ?_
  · simp -implicitDefEqProofs only [push_cast,zz,BEq.rfl,ite_true,ite_false,List.append_nil,reduceCtorEq,Nat.reduceAdd,Nat.reduceSub,Nat.reduceMul,Nat.reduceLeDiff,Nat.reduceLT,Nat.reduceEqDiff,Nat.reduceBEq,Nat.reduceBNe,Int.reduceNeg,Int.reduceToNat,enV,ivV,o1,o2,o3,o4,hm]
  intro ⟨i,s,e,M⟩ ⟨(hi:i≤m),(hs:slcG putG f t (m - i) i s e = R),(hsim:simS s _),(hz:szWf s),(haft:enAft e0 e (132 * i))⟩ K hK
  have hwf:=hsim.wf h1
  obtain ⟨size,minus,since,now',list,kind',nst',band',w'⟩:=s
  obtain ⟨rfl,rfl,rfl,rfl,rfl⟩:now' = now∧kind' = kind∧nst' = nst∧band' = band∧w' = w:=⟨hsim.2.2.2.1,hsim.2.2.2.2.2⟩
  have hlm:list.length = m:=by rw [← hm]; exact hsim.2.2.2.2.1.len
  obtain ⟨p1,p2,p3,p4,p5,p6,p7,p8,p9,p10,p11⟩:=id hwf
  simp only at p1 p2 p3 p8 p9 p11
  have ho8:m≤50000:=by omega
  by_cases hi':i < m
  · have hii:(i:Int) < m:=by omega
    have he4':=he4 i hi'
    have rk:=recAt_Bk (l:=list) (i:=i) (by omega) []
    have hmapl:(list.map Bck.rc).length = m:=by rw [List.length_map,hlm]
    have hset0:=(onBk_rc (l:=list) (i:=i) false).symm
    have hsetl:(onBk list i false).length = m:=by rw [onBk_len,hlm]
    have hkat:=onBk_at (l:=list) (i:=i) (by omega) false
    have rk1:=recAt_Bk (l:=onBk list i false) (i:=i) (by omega) []
    have hset1:=fun v => (onBk_rc (l:=onBk list i false) (i:=i) v).symm.trans (by rw [onBk_on (by omega)])
    have hwf1:=setOn_wf (s:=⟨size,minus,since,now',list,kind',nst',band',w'⟩) (b:=false) (show i < list.length by omega) hwf
    have hbki:=p11 _ (by rw [rdBk_nat (show i < list.length by omega)]; exact List.getElem_mem _:rdBk list i ∈ list)
    simp only [setOn] at hwf1
    obtain ⟨⟨L',⟨pl,bw,q⟩,on'⟩,hbk⟩:∃ b,rdBk list i = b:=⟨_,rfl⟩
    rw [hbk] at rk hset0 hkat hbki
    rw [hkat] at rk1 hset1
    simp only at hbki
    obtain ⟨V,hV⟩:∃ V,onP ⟨size,minus,since,now',list,kind',nst',band',w'⟩ pl f t = V:=⟨_,rfl⟩
    obtain ⟨l1,hl1⟩:∃ l,onBk list i false = l:=⟨_,rfl⟩
    obtain ⟨B,hB⟩:∃ B,bktG putG f t i ⟨size,minus,since,now',list,kind',nst',band',w'⟩ e = B:=⟨_,rfl⟩
    have hbA:allP ⟨size,minus,since,now',list,kind',nst',band',w'⟩ pl = true→B = plsG putG f t false pl ⟨size,minus,since,now',l1,kind',nst',band',w'⟩ e:=fun h => by
      rw [← hB,← hl1]; unfold bktG; simp only [hbk,h,if_true]; rfl
    have hbN:¬ allP ⟨size,minus,since,now',list,kind',nst',band',w'⟩ pl = true→B = plsG putG f t V pl ⟨size,minus,since,now',onBk list i V,kind',nst',band',w'⟩ (putP e (bctxP ⟨size,minus,since,now',l1,kind',nst',band',w'⟩ ⟨pl,bw,q⟩) (b2i V)):=fun h => by
      rw [← hB,← hl1,← hV]; unfold bktG; simp only [hbk,h,if_false]; rfl
    rw [hl1] at hset0 hsetl rk1 hset1 hwf1
    have hbi:=bktE_inv f t h7 h8 i ⟨size,minus,since,now',list,kind',nst',band',w'⟩ e n hwf hz haft.1 (by have:=haft.2.2.1; omega) (by simp only; omega)
    have hsl:slcG putG f t (m - (i + 1)) (i + 1) B.1 B.2.1 = R:=by
      rw [show m - i = (m - (i + 1)) + 1 by omega,slcG,if_pos hbi.2.2.2,hB] at hs
      exact hs
    rw [hB] at hbi
    have he12:e.st.length = 12:=by have:=haft.2.2.1; omega
    have hoe:e.out.length≤8000000:=by have:=haft.2.1; omega
    have b4:=hbki.2.2.2
    have hml1:(l1.map Bck.rc).length = m:=by rw [List.length_map,hsetl]
    by_cases hall:allP ⟨size,minus,since,now',list,kind',nst',band',w'⟩ pl = true
    · have hall':allP ⟨size,minus,since,now',l1,kind',nst',band',w'⟩ pl = true:=hall
      have hbA:=hbA hall
      have haftA:enAft e e (4 + 8 * 0):=⟨haft.1,by omega,rfl,rfl⟩
      simp -implicitDefEqProofs only [push_cast,zz,BEq.rfl,ite_true,ite_false,List.append_nil,reduceCtorEq,Nat.reduceAdd,Nat.reduceSub,Nat.reduceMul,Nat.reduceLeDiff,Nat.reduceLT,Nat.reduceEqDiff,Nat.reduceBEq,Nat.reduceBNe,Int.reduceNeg,Int.reduceToNat,b27_1,stM,stV,enV,ivV,hii,rk,rk1,Bck.rc,hset0,hmapl,hml1,he4',Int.toNat_natCast,fs60,Bck.sv,p1,p2,p3,o4,hsetl,hwf1,bkWf,hbki,hall']
      intro X1
      repeat (refine And.intro (by first | omega | trivial | (intros; omega)) ?_)
      refine evS_loopU (A:=Nat × StS × EnS × Xf.Loc) kp27_2 kl27_2 (fun y => [(65,.int .i64 y.1)])
        (fun y => [(1,.lent,p.Z,.ints .i64 y.2.1.size),(2,.lent,p.M,.bools y.2.1.minus),(3,.lent,p.I,.ints .i64 y.2.1.since),(7,.lent,L,.cells (relabs (fun i => i + 7) (enV LS y.2.2.1 2 y.2.2.2))),(8,.lent,LS,.ints .i64 y.2.2.1.st),(9,.got,y.2.2.2,.ints .u8 y.2.2.1.out)])
        (fun y => y.1≤pl.length∧plsG putG f t false (pl.drop y.1) y.2.1 y.2.2.1 = B∧sameS y.2.1 ⟨size,minus,since,now',l1,kind',nst',band',w'⟩∧szWf y.2.1∧enAft e y.2.2.1 (4 + 8 * y.1)) (fun y => pl.length - y.1) (0,⟨size,minus,since,now',l1,kind',nst',band',w'⟩,e,M) ⟨Nat.zero_le _,hbA.symm,sameS.refl _,hz,haftA⟩ (Sub.pt ?_) ?_
      · simp -implicitDefEqProofs only [push_cast,zz,BEq.rfl,ite_true,ite_false,List.append_nil,reduceCtorEq,Nat.reduceAdd,Nat.reduceSub,Nat.reduceMul,Nat.reduceLeDiff,Nat.reduceLT,Nat.reduceEqDiff,Nat.reduceBEq,Nat.reduceBNe,Int.reduceNeg,Int.reduceToNat,enV,ivV,p1,p2,p3,he4']
      intro ⟨j,s2,e2,M2⟩ ⟨(hj:j≤pl.length),(hp2:plsG putG f t false (pl.drop j) s2 e2 = B),(hsame:sameS s2 _),(hz2:szWf s2),(haft2:enAft e e2 (4 + 8 * j))⟩ K2 hK2
      have hwf2:stWf s2 n:=hsame.wf (by first | exact hwf1 | exact hwf2)
      obtain ⟨size2,minus2,since2,now2,list2,kind2,nst2,band2,w2⟩:=s2
      obtain ⟨rfl,rfl,rfl,rfl,rfl,rfl⟩:now' = now2∧l1 = list2∧kind' = kind2∧nst' = nst2∧band' = band2∧w' = w2:=⟨hsame.2.2.2.1.symm,hsame.2.2.2.2.1.symm,hsame.2.2.2.2.2.1.symm,hsame.2.2.2.2.2.2.1.symm,hsame.2.2.2.2.2.2.2.1.symm,hsame.2.2.2.2.2.2.2.2.symm⟩
      have q1:size2.length = n:=hwf2.1
      have q2:minus2.length = n:=hwf2.2.1
      have q3:since2.length = n:=hwf2.2.2.1
      by_cases hj':j < pl.length
      · have hji:(j:Int) < pl.length:=by omega
        have hx:=b4 _ (rd_mem hj')
        have hcons:=plsG_cons putG f t false hj' ⟨size2,minus2,since2,now',l1,kind',nst',band',w'⟩ e2
        rw [hp2] at hcons
        obtain ⟨x,hxx⟩:∃ x,rd pl (j:Int) = x:=⟨_,rfl⟩
        rw [hxx] at hx hcons
        have a1:=numG_same putG ⟨size2,minus2,since2,now',l1,kind',nst',band',w'⟩ e2 x t false (digP f x t) (decide (rd f x < 0))
        have a2:=numG_sz putG e2 false (digP f x t) (decide (rd f x < 0)) hz2 hx.1 (by simp only; omega) h7 h8
        obtain ⟨a3,a4⟩:=numE_aft ⟨size2,minus2,since2,now',l1,kind',nst',band',w'⟩ x t false (digP f x t) (decide (rd f x < 0)) haft2.1 (by have:=haft2.2.2.1; omega)
        rw [if_pos a4] at hcons
        have hnuR:∀ L1 L2 L3 L4,nuR ⟨p,⟨size2,minus2,since2,now',l1,kind',nst',band',w'⟩,L,LS,M2,LX,e2,L1,L2,L3,L4,F,f,x,t,false⟩ = numG putG ⟨size2,minus2,since2,now',l1,kind',nst',band',w'⟩ e2 x t false (digP f x t) (decide (rd f x < 0)):=fun _ _ _ _ => rfl
        have hnu:nuOk ⟨size2,minus2,since2,now',l1,kind',nst',band',w'⟩ e2 f x t:=⟨by rw [q3]; exact hwf2,hz2,haft2.1,by have:=haft2.2.2.1; omega,by have:=haft2.2.1; omega,by rw [q3]; exact h6,hx.1,by rw [q3]; exact hx.2,h7,h8⟩
        obtain ⟨N,hN⟩:∃ N,numG putG ⟨size2,minus2,since2,now',l1,kind',nst',band',w'⟩ e2 x t false (digP f x t) (decide (rd f x < 0)) = N:=⟨_,rfl⟩
        rw [hN] at hcons a1 a2 a3
        simp only [hN] at hnuR
        obtain ⟨⟨size3,minus3,since3,now3,list3,kind3,nst3,band3,w3⟩,e3,er3⟩:=N
        obtain ⟨rfl,rfl,rfl,rfl,rfl,rfl⟩:now' = now3∧l1 = list3∧kind' = kind3∧nst' = nst3∧band' = band3∧w' = w3:=⟨a1.2.2.2.1.symm,a1.2.2.2.2.1.symm,a1.2.2.2.2.2.1.symm,a1.2.2.2.2.2.2.1.symm,a1.2.2.2.2.2.2.2.1.symm,a1.2.2.2.2.2.2.2.2.symm⟩
        have q5:size3.length = n:=a1.1.trans q1
        have q6:minus3.length = n:=a1.2.1.trans q2
        have q7:since3.length = n:=a1.2.2.1.trans q3
        have q8:(e3.st.length:Int) = e2.st.length:=by rw [a3.2.2.1]
        clear hK
        simp -implicitDefEqProofs only [push_cast,zz,BEq.rfl,ite_true,ite_false,List.append_nil,reduceCtorEq,Nat.reduceAdd,Nat.reduceSub,Nat.reduceMul,Nat.reduceLeDiff,Nat.reduceLT,Nat.reduceEqDiff,Nat.reduceBEq,Nat.reduceBNe,Int.reduceNeg,Int.reduceToNat,b27_2,stM,stV,enV,ivV,hji,hxx,fs58,fs63E,nuM,rk1,Bck.rc,hml1,q1,q2,q3,q5,q6,q7,q8,p1,p2,p3,o4,hsetl,he4',Int.toNat_natCast,hnu,hnuR]
        repeat (refine And.intro (by first | omega | trivial | (intros; omega)) ?_)
        intro X2
        repeat (refine And.intro (by first | omega | trivial | (intros; omega)) ?_)
        intro X3
        repeat (refine And.intro (by first | omega | trivial | (intros; omega)) ?_)
        refine hK2 (j + 1,⟨size3,minus3,since3,now',l1,kind',nst',band',w'⟩,e3,X3 12 39) ⟨show j + 1≤pl.length by omega,hcons.symm,a1.trans hsame,a2,(haft2.trans a3).mono (by omega)⟩ (show pl.length - (j + 1) < pl.length - j by omega) _ _ (Sub.of (mkG 43 [(0,0),(1,1),(2,2),(3,3),(4,4),(6,6),(7,7),(8,8),(9,39),(10,10),(11,11),(20,20),(21,21),(22,22),(23,23),(24,24),(33,33)]) ?_)
        simp -implicitDefEqProofs only [push_cast,zz,BEq.rfl,ite_true,ite_false,List.append_nil,reduceCtorEq,Nat.reduceAdd,Nat.reduceSub,Nat.reduceMul,Nat.reduceLeDiff,Nat.reduceLT,Nat.reduceEqDiff,Nat.reduceBEq,Nat.reduceBNe,Int.reduceNeg,Int.reduceToNat,enV,ivV,q1,q2,q3,q5,q6,q7,q8,he4']
      · obtain rfl:j = pl.length:=by omega
        rw [List.drop_length,plsG] at hp2
        subst hp2
        simp only at hsl hbi
        clear hK2
        simp -implicitDefEqProofs only [push_cast,zz,BEq.rfl,ite_true,ite_false,List.append_nil,reduceCtorEq,Nat.reduceAdd,Nat.reduceSub,Nat.reduceMul,Nat.reduceLeDiff,Nat.reduceLT,Nat.reduceEqDiff,Nat.reduceBEq,Nat.reduceBNe,Int.reduceNeg,Int.reduceToNat,b27_2,r27_3,Int.lt_irrefl]
        repeat (refine And.intro (by first | omega | trivial | (intros; omega)) ?_)
        refine hK (i + 1,⟨size2,minus2,since2,now',l1,kind',nst',band',w'⟩,e2,M2) ⟨show i + 1≤m by omega,hsl,hbi.1.trans hsim,hbi.2.1,(haft.trans hbi.2.2.1).mono (by omega)⟩ (show m - (i + 1) < m - i by omega) _ _ (Sub.pt ?_)
        simp -implicitDefEqProofs only [push_cast,zz,BEq.rfl,ite_true,ite_false,List.append_nil,reduceCtorEq,Nat.reduceAdd,Nat.reduceSub,Nat.reduceMul,Nat.reduceLeDiff,Nat.reduceLT,Nat.reduceEqDiff,Nat.reduceBEq,Nat.reduceBNe,Int.reduceNeg,Int.reduceToNat,enV,ivV,q1,q2,q3,p1,p2,p3,he4']
    · have hall':¬ allP ⟨size,minus,since,now',l1,kind',nst',band',w'⟩ pl = true:=hall
      have hbN:=hbN hall
      have hcb:=bctxP_bd ⟨size,minus,since,now',l1,kind',nst',band',w'⟩ ⟨pl,bw,q⟩
      have hputA:=putAft haft.1 he12 hcb V
      have hV':onP ⟨size,minus,since,now',l1,kind',nst',band',w'⟩ pl f t = V:=hV
      obtain ⟨c,hcc⟩:∃ c,bctxP ⟨size,minus,since,now',l1,kind',nst',band',w'⟩ ⟨pl,bw,q⟩ = c:=⟨_,rfl⟩
      rw [hcc] at hbN hcb hputA
      obtain ⟨e1,he1⟩:∃ e1,putP e c (b2i V) = e1:=⟨_,rfl⟩
      rw [he1] at hbN hputA
      have haftN:enAft e e1 (4 + 8 * 0):=hputA
      have hok:e.ok:=haft.1
      have he1l:(e1.st.length:Int) = e.st.length:=by rw [hputA.2.2.1]
      have hkat1:rdBk l1 i = ⟨L',⟨pl,bw,q⟩,false⟩:=by rw [← hl1]; exact hkat
      have honwf:onWf ⟨size,minus,since,now',l1,kind',nst',band',w'⟩ pl f t:=⟨by simp only [p3]; exact hwf1,by simp only [p3]; exact h6,hbki.2.2.1,by simp only [p3]; exact hbki.2.2.2,h7,by omega⟩
      obtain ⟨l2,hl2⟩:∃ l,onBk list i V = l:=⟨_,rfl⟩
      have hset1:=hset1 V
      rw [hl2] at hset1 hbN
      have hsetl2:l2.length = m:=by rw [← hl2,onBk_len,hlm]
      have hml2:(l2.map Bck.rc).length = m:=by rw [List.length_map,hsetl2]
      have hkat2:rdBk l2 i = ⟨L',⟨pl,bw,q⟩,V⟩:=by
        rw [← hl2,onBk_at (by omega),hbk]
      have rk2:=recAt_Bk (l:=l2) (i:=i) (by omega) []
      rw [hkat2] at rk2
      have hwf2:=setOn_wf (s:=⟨size,minus,since,now',list,kind',nst',band',w'⟩) (b:=V) (show i < list.length by omega) hwf
      simp only [setOn,hl2] at hwf2
      simp -implicitDefEqProofs only [push_cast,zz,BEq.rfl,ite_true,ite_false,List.append_nil,reduceCtorEq,Nat.reduceAdd,Nat.reduceSub,Nat.reduceMul,Nat.reduceLeDiff,Nat.reduceLT,Nat.reduceEqDiff,Nat.reduceBEq,Nat.reduceBNe,Int.reduceNeg,Int.reduceToNat,b27_1,stM,stV,enV,ivV,hii,rk,rk1,Bck.rc,hset0,hmapl,hml1,he4',Int.toNat_natCast,fs60,Bck.sv,p1,p2,p3,o4,hsetl,hwf1,bkWf,hbki,hall',fs42,WE.mem,WE.fn,WE.val,WE.wf,WE.top,hkat1,hV',hcc,he1,honwf,hok,hset1,he1l,rk2,hml2]
      intro X1
      repeat (refine And.intro (by first | omega | trivial | (intros; omega)) ?_)
      intro X4
      repeat (refine And.intro (by first | omega | trivial | (intros; omega)) ?_)
      refine evS_loopU (A:=Nat × StS × EnS × Xf.Loc) kp27_2 kl27_2 (fun y => [(65,.int .i64 y.1)])
        (fun y => [(1,.lent,p.Z,.ints .i64 y.2.1.size),(2,.lent,p.M,.bools y.2.1.minus),(3,.lent,p.I,.ints .i64 y.2.1.since),(7,.lent,L,.cells (relabs (fun i => i + 7) (enV LS y.2.2.1 22 y.2.2.2))),(8,.lent,LS,.ints .i64 y.2.2.1.st),(29,.got,y.2.2.2,.ints .u8 y.2.2.1.out)])
        (fun y => y.1≤pl.length∧plsG putG f t V (pl.drop y.1) y.2.1 y.2.2.1 = B∧sameS y.2.1 ⟨size,minus,since,now',l2,kind',nst',band',w'⟩∧szWf y.2.1∧enAft e y.2.2.1 (4 + 8 * y.1)) (fun y => pl.length - y.1) (0,⟨size,minus,since,now',l2,kind',nst',band',w'⟩,e1,(X4 3 29)) ⟨Nat.zero_le _,hbN.symm,sameS.refl _,hz,haftN⟩ (Sub.pt ?_) ?_
      · simp -implicitDefEqProofs only [push_cast,zz,BEq.rfl,ite_true,ite_false,List.append_nil,reduceCtorEq,Nat.reduceAdd,Nat.reduceSub,Nat.reduceMul,Nat.reduceLeDiff,Nat.reduceLT,Nat.reduceEqDiff,Nat.reduceBEq,Nat.reduceBNe,Int.reduceNeg,Int.reduceToNat,enV,ivV,p1,p2,p3,he4',he1l]
      intro ⟨j,s2,e2,M2⟩ ⟨(hj:j≤pl.length),(hp2:plsG putG f t V (pl.drop j) s2 e2 = B),(hsame:sameS s2 _),(hz2:szWf s2),(haft2:enAft e e2 (4 + 8 * j))⟩ K2 hK2
      have hwf2:stWf s2 n:=hsame.wf (by first | exact hwf1 | exact hwf2)
      obtain ⟨size2,minus2,since2,now2,list2,kind2,nst2,band2,w2⟩:=s2
      obtain ⟨rfl,rfl,rfl,rfl,rfl,rfl⟩:now' = now2∧l2 = list2∧kind' = kind2∧nst' = nst2∧band' = band2∧w' = w2:=⟨hsame.2.2.2.1.symm,hsame.2.2.2.2.1.symm,hsame.2.2.2.2.2.1.symm,hsame.2.2.2.2.2.2.1.symm,hsame.2.2.2.2.2.2.2.1.symm,hsame.2.2.2.2.2.2.2.2.symm⟩
      have q1:size2.length = n:=hwf2.1
      have q2:minus2.length = n:=hwf2.2.1
      have q3:since2.length = n:=hwf2.2.2.1
      by_cases hj':j < pl.length
      · have hji:(j:Int) < pl.length:=by omega
        have hx:=b4 _ (rd_mem hj')
        have hcons:=plsG_cons putG f t V hj' ⟨size2,minus2,since2,now',l2,kind',nst',band',w'⟩ e2
        rw [hp2] at hcons
        obtain ⟨x,hxx⟩:∃ x,rd pl (j:Int) = x:=⟨_,rfl⟩
        rw [hxx] at hx hcons
        have a1:=numG_same putG ⟨size2,minus2,since2,now',l2,kind',nst',band',w'⟩ e2 x t V (digP f x t) (decide (rd f x < 0))
        have a2:=numG_sz putG e2 V (digP f x t) (decide (rd f x < 0)) hz2 hx.1 (by simp only; omega) h7 h8
        obtain ⟨a3,a4⟩:=numE_aft ⟨size2,minus2,since2,now',l2,kind',nst',band',w'⟩ x t V (digP f x t) (decide (rd f x < 0)) haft2.1 (by have:=haft2.2.2.1; omega)
        rw [if_pos a4] at hcons
        have hnuR:∀ L1 L2 L3 L4,nuR ⟨p,⟨size2,minus2,since2,now',l2,kind',nst',band',w'⟩,L,LS,M2,LX,e2,L1,L2,L3,L4,F,f,x,t,V⟩ = numG putG ⟨size2,minus2,since2,now',l2,kind',nst',band',w'⟩ e2 x t V (digP f x t) (decide (rd f x < 0)):=fun _ _ _ _ => rfl
        have hnu:nuOk ⟨size2,minus2,since2,now',l2,kind',nst',band',w'⟩ e2 f x t:=⟨by rw [q3]; exact hwf2,hz2,haft2.1,by have:=haft2.2.2.1; omega,by have:=haft2.2.1; omega,by rw [q3]; exact h6,hx.1,by rw [q3]; exact hx.2,h7,h8⟩
        obtain ⟨N,hN⟩:∃ N,numG putG ⟨size2,minus2,since2,now',l2,kind',nst',band',w'⟩ e2 x t V (digP f x t) (decide (rd f x < 0)) = N:=⟨_,rfl⟩
        rw [hN] at hcons a1 a2 a3
        simp only [hN] at hnuR
        obtain ⟨⟨size3,minus3,since3,now3,list3,kind3,nst3,band3,w3⟩,e3,er3⟩:=N
        obtain ⟨rfl,rfl,rfl,rfl,rfl,rfl⟩:now' = now3∧l2 = list3∧kind' = kind3∧nst' = nst3∧band' = band3∧w' = w3:=⟨a1.2.2.2.1.symm,a1.2.2.2.2.1.symm,a1.2.2.2.2.2.1.symm,a1.2.2.2.2.2.2.1.symm,a1.2.2.2.2.2.2.2.1.symm,a1.2.2.2.2.2.2.2.2.symm⟩
        have q5:size3.length = n:=a1.1.trans q1
        have q6:minus3.length = n:=a1.2.1.trans q2
        have q7:since3.length = n:=a1.2.2.1.trans q3
        have q8:(e3.st.length:Int) = e2.st.length:=by rw [a3.2.2.1]
        clear hK
        simp -implicitDefEqProofs only [push_cast,zz,BEq.rfl,ite_true,ite_false,List.append_nil,reduceCtorEq,Nat.reduceAdd,Nat.reduceSub,Nat.reduceMul,Nat.reduceLeDiff,Nat.reduceLT,Nat.reduceEqDiff,Nat.reduceBEq,Nat.reduceBNe,Int.reduceNeg,Int.reduceToNat,b27_2,stM,stV,enV,ivV,hji,hxx,fs58,fs63E,nuM,rk2,Bck.rc,hml2,q1,q2,q3,q5,q6,q7,q8,p1,p2,p3,o4,hsetl2,he4',Int.toNat_natCast,hnu,hnuR]
        repeat (refine And.intro (by first | omega | trivial | (intros; omega)) ?_)
        intro X2
        repeat (refine And.intro (by first | omega | trivial | (intros; omega)) ?_)
        intro X3
        repeat (refine And.intro (by first | omega | trivial | (intros; omega)) ?_)
        refine hK2 (j + 1,⟨size3,minus3,since3,now',l2,kind',nst',band',w'⟩,e3,X3 12 39) ⟨show j + 1≤pl.length by omega,hcons.symm,a1.trans hsame,a2,(haft2.trans a3).mono (by omega)⟩ (show pl.length - (j + 1) < pl.length - j by omega) _ _ (Sub.of (mkG 43 [(0,0),(1,1),(2,2),(3,3),(4,4),(6,6),(7,7),(8,8),(29,39),(10,10),(11,11),(20,20),(21,21),(22,22),(23,23),(24,24),(33,33)]) ?_)
        simp -implicitDefEqProofs only [push_cast,zz,BEq.rfl,ite_true,ite_false,List.append_nil,reduceCtorEq,Nat.reduceAdd,Nat.reduceSub,Nat.reduceMul,Nat.reduceLeDiff,Nat.reduceLT,Nat.reduceEqDiff,Nat.reduceBEq,Nat.reduceBNe,Int.reduceNeg,Int.reduceToNat,enV,ivV,q1,q2,q3,q5,q6,q7,q8,he4']
      · obtain rfl:j = pl.length:=by omega
        rw [List.drop_length,plsG] at hp2
        subst hp2
        simp only at hsl hbi
        clear hK2
        simp -implicitDefEqProofs only [push_cast,zz,BEq.rfl,ite_true,ite_false,List.append_nil,reduceCtorEq,Nat.reduceAdd,Nat.reduceSub,Nat.reduceMul,Nat.reduceLeDiff,Nat.reduceLT,Nat.reduceEqDiff,Nat.reduceBEq,Nat.reduceBNe,Int.reduceNeg,Int.reduceToNat,b27_2,r27_3,Int.lt_irrefl]
        repeat (refine And.intro (by first | omega | trivial | (intros; omega)) ?_)
        refine hK (i + 1,⟨size2,minus2,since2,now',l2,kind',nst',band',w'⟩,e2,M2) ⟨show i + 1≤m by omega,hsl,hbi.1.trans hsim,hbi.2.1,(haft.trans hbi.2.2.1).mono (by omega)⟩ (show m - (i + 1) < m - i by omega) _ _ (Sub.of (mkG 43 [(0,0),(1,1),(2,2),(3,3),(4,4),(6,6),(7,7),(8,8),(9,29),(10,10),(11,11),(20,20),(21,21),(22,22)]) ?_)
        simp -implicitDefEqProofs only [push_cast,zz,BEq.rfl,ite_true,ite_false,List.append_nil,reduceCtorEq,Nat.reduceAdd,Nat.reduceSub,Nat.reduceMul,Nat.reduceLeDiff,Nat.reduceLT,Nat.reduceEqDiff,Nat.reduceBEq,Nat.reduceBNe,Int.reduceNeg,Int.reduceToNat,enV,ivV,q1,q2,q3,p1,p2,p3,he4']
  · obtain rfl:i = m:=by omega
    have hii:¬ (i:Int) < i:=by omega
    rw [Nat.sub_self,slcG] at hs
    subst hs
    have ho6:now'≤1000:=o7
    clear hK
    simp -implicitDefEqProofs only [push_cast,zz,BEq.rfl,ite_true,ite_false,List.append_nil,reduceCtorEq,Nat.reduceAdd,Nat.reduceSub,Nat.reduceMul,Nat.reduceLeDiff,Nat.reduceLT,Nat.reduceEqDiff,Nat.reduceBEq,Nat.reduceBNe,Int.reduceNeg,Int.reduceToNat,b27_1,r27_4,Int.lt_irrefl,enV,ivV]
    repeat (refine And.intro (by first | omega | trivial | (intros; omega)) ?_)
    refine postF.mk' (fun _ => M) [some 0,some 1,some 2,some 3,some 4,none,some 6,some 7,some 8,none,some 10,some 11,some 9] ?_
    simp -implicitDefEqProofs only [push_cast,zz,BEq.rfl,ite_true,ite_false,List.append_nil,reduceCtorEq,Nat.reduceAdd,Nat.reduceSub,Nat.reduceMul,Nat.reduceLeDiff,Nat.reduceLT,Nat.reduceEqDiff,Nat.reduceBEq,Nat.reduceBNe,Int.reduceNeg,Int.reduceToNat,fs27E,slM,stV,enV,ivV,hR,p1,p2,p3,o1,o2,o3,o4,hm,hlm]
def ent27E:Entry:=spOf fs27E invSl
theorem e27E:EntryOk Try.prog 27 ent27E:=entry_of ok27E invSl
@[push_cast] theorem ent27E_app (us:List SV) (look:Look) (x:Nat→Xf.Loc) (k:Nat):ent27E us look x k = spOf fs27E invSl us look x k:=rfl
theorem numG_get (s:StS) (d:DeS) (i t:Int) (on dig neg:Bool):numG getG s d i t on dig neg = numG getG s d i t on false false:=rfl
structure SqA where
  p:StL
  s:StS
  L:Xf.Loc
  LS:Xf.Loc
  LC:Xf.Loc
  LX:Xf.Loc
  d:DeS
  F:Xf.Loc
  f:List Int
  t:Int
def sqM (a:SqA):Mem:=[some (.lent,a.p.L,.cells (stV a.p a.s)),some (.lent,a.p.Z,.ints .i64 a.s.size),some (.lent,a.p.M,.bools a.s.minus),some (.lent,a.p.I,.ints .i64 a.s.since),some (.lent,a.p.K,.recs 4 false [] (a.s.list.map Bck.rc)),none,some (.ro,a.p.B,.ints .i64 a.s.band),
  some (.lent,a.L,.cells (relabs (fun i => i + 7) (deV a.LS a.d a.LC))),some (.lent,a.LS,.ints .i64 a.d.st),some (.ro,a.LC,.ints .u8 a.d.code),some (.ro,a.LX,.cells [.ptr 7 a.L 0 0 0]),some (.ro,a.F,.ints .i64 a.f)]
def sqR (a:SqA):StS × DeS × Int:=slcG getG a.f a.t a.s.list.length 0 a.s a.d
def invSq:List SV→Look→Option (SqA × List Nat)
  | [.ptr c _ 0 0 0,.int .i64 t,.sl y _ 1 0 _,.fn _ [.ptr x _ 0 0 0]],look => match invSt look c,rowC (look x),rowI (look y) with
    | some (p,s,g),some (LX,[.ptr k _ 0 0 0]),some (F,.i64,f) => match invDe [.ptr k nilLoc 0 0 0] look with
      | some (⟨L,LS,LC,d,_⟩,h) => some (⟨p,s,L,LS,LC,LX,d,F,f,t⟩,g++(h++[x,y]))
      | _ => none
    | _,_,_ => none
  | _,_ => none
attribute [push_cast] invSq
def sqOk (s:StS) (d:DeS) (f:List Int) (t:Int):Prop:=stWf s s.since.length∧szWf s∧d.ok∧d.st.length = 12∧ofWf f s.since.length∧0≤t∧t≤30
def fs27D:FS where
  A:=SqA
  args:=fun a => [.ptr 0 a.p.L 0 0 0,.int .i64 a.t,.sl 11 a.F 1 0 a.f.length,.fn 28 [.ptr 10 a.LX 0 0 0]]
  mem:=sqM
  pre:=fun a => sqOk a.s a.d a.f a.t
  res:=fun a _ => .int .i64 (sqR a).2.2
  out:=fun a x => [some (some (.cells (stV a.p (sqR a).1))),some (some (.ints .i64 (sqR a).1.size)),some (some (.bools (sqR a).1.minus)),some (some (.ints .i64 (sqR a).1.since)),some (some (.recs 4 false [] ((sqR a).1.list.map Bck.rc))),none,none,some (some (.cells (relabs (fun i => i + 7) (deV a.LS (sqR a).2.1 a.LC)))),some (some (.ints .i64 (sqR a).2.1.st))]
  new:=fun _ _ => []
end Go.Proofs.Ythicgkilfjjifaa
