import Derived.Test.YthicgkilfjjifaaGreatPEncodes1
set_option linter.unusedVariables false
set_option linter.unusedSimpArgs false
set_option maxRecDepth 1000
namespace Go.Proofs.YthicgkilfjjifaaGreat
open Xf
theorem ok54:FSOk Tryz.prog 54 fs54:=by
 refine⟨⟨_,Tryz.func54,by kernel_rfl,by kernel_rfl⟩,fun a=>⟨by simp[fs54,mdM,push_cast,noMine,argOwn,Chunk.frArg],by simp[fs54,mdM,push_cast,outOk,Chunk.ext],fun x=>.inl (by simp[fs54,mdM,push_cast,frNew,frOut,Chunk.fr])⟩,fun a hp=>?_⟩
 obtain⟨L,kind,st⟩:=a
 obtain⟨⟨h1,h2⟩,h3⟩:((kind=0∨kind=1)/\∀ s∈st,sttOk kind s)/\st.length<=8192:=hp
 change Tri Tryz.prog 54 [.agg [.int .i64 kind,.sl 0 L 1 0 st.length]] [some (.ro,L,.ints .i64 st)] (postF fs54 ⟨L,kind,st⟩)
 refine tri_evS (hyp (l:=[]) (lp:=[]) trivial trivial) Tryz.func54 comp54 (rs:=[.tmp 2]) (by rfl) Tryz.ntmps54 11 ?_
 have c1:¬ (¬ kind=0/\¬ kind=1):=by omega
 have c2:¬ (8192:Int)<st.length:=by omega
 obtain⟨e,he⟩:∃ e:Int,e=if kind=1 then 65535 else 63:=⟨_,rfl⟩
 have hall:∀ i:Nat,i<st.length->0<=rd st i/\rd st i<=e:=fun i hi=>by
  rw[rd_lt st i hi]
  obtain⟨a,b,c⟩:=h2 _ (List.getElem_mem hi)
  rw[he]
  split
  ·exact⟨a,by have:=b (by assumption);omega⟩
  ·exact⟨a,by have:=c (by assumption);omega⟩
 have loop:∀ (X:Xf.Loc),evS (spList []) (spPList []) (retK [RV.tmp 2] (postF fs54 ⟨L,kind,st⟩)) [Xf.Item.code (IR.loop b54_1),Xf.Item.blk 0,Xf.Item.code r54_2] (upS (List.replicate 38 none) [(3,.int .i64 e),(24,.sl 0 L 1 0 st.length),(25,.int .i64 st.length),(26,.int .i64 0)])
   [some (.ro,L,.ints .i64 st),none,none,none,none,none,none,none,none,none,some (.mine,X,.cells [.int .i64 kind,.sl 0 L 1 0 st.length]),none]:=fun X=>by
  refine evS_loopU (A:=Nat) kp54_1 kl54_1 (fun i=>[(26,.int .i64 i)]) (fun i=>[]) (fun i=>i<=st.length) (fun i=>st.length-i) 0 (Nat.zero_le _) (Sub.pt ?_) ?_
  ·simp -implicitDefEqProofs only[push_cast,zz,seval]
  intro i hi K hK
  have hi:i<=st.length:=hi
  by_cases hi':i<st.length
  ·obtain⟨a1,a2⟩:=hall i hi'
   have hii:(i:Int)<st.length:=by omega
   obtain⟨s,hs⟩:∃ s,rd st i=s:=⟨_,rfl⟩
   rw[hs]at a1 a2
   have a3:¬ s<0:=by omega
   have a4:¬ e<s:=by omega
   simp -implicitDefEqProofs only[push_cast,zz,seval,b54_1,hs,hii,a3,a4]
   repeat refine om_ ?_
   refine hK (i+1) (show i+1<=st.length by omega) (show st.length-(i+1)<st.length-i by omega) _ _ (Sub.pt ?_)
   simp -implicitDefEqProofs only[push_cast,zz,seval]
  ·obtain rfl:i=st.length:=by omega
   clear hK
   simp -implicitDefEqProofs only[push_cast,zz,seval,b54_1,r54_2,Int.lt_irrefl]
   refine postF.mk' (fun _=>default) [some 0] ?_
   simp -implicitDefEqProofs only[push_cast,zz,seval,fs54,mdM]
 rcases h1 with rfl | rfl
 ·rw[if_neg (by decide)]at he
  subst he
  simp -implicitDefEqProofs only[push_cast,zz,seval,ir54,c1,c2]
  intro X
  first | exact⟨fun h=>absurd h (by decide),fun _=>loop _⟩ | exact loop _
 ·rw[if_pos rfl]at he
  subst he
  simp -implicitDefEqProofs only[push_cast,zz,seval,ir54,c1,c2]
  intro X
  exact loop _
def ent54:Entry:=spOf fs54 invMd
theorem e54:EntryOk Tryz.prog 54 ent54:=entry_of ok54 invMd
@[push_cast] theorem ent54_app (us:List SV) (look:Look) (x:Nat->Xf.Loc) (k:Nat):ent54 us look x k=spOf fs54 invMd us look x k:=rfl
structure ByA where
 L:Xf.Loc
 code:List Int
 i:Int
def invBy:List SV->Look->Option (ByA×List Nat)
 | [.sl c _ 1 0 _,.int .i64 i],look=>match rowI (look c)with
  | some (L,.u8,code)=>some (⟨L,code,i⟩,[c])
  | _=>none
 | _,_=>none
attribute [push_cast] invBy
def fs102:FS where
 A:=ByA
 args:=fun a=>[.sl 0 a.L 1 0 a.code.length,.int .i64 a.i]
 mem:=fun a=>[some (.ro,a.L,.ints .u8 a.code)]
 pre:=fun a=>byAll a.code/\0<=a.i
 res:=fun a _=>.int .u64 (bytA a.code a.i)
 out:=fun _ _=>[]
 new:=fun _ _=>[]
theorem ok102:FSOk Tryz.prog 102 fs102:=by
 refine⟨⟨_,Tryz.func102,by kernel_rfl,by kernel_rfl⟩,fun a=>⟨by simp[fs102,push_cast,noMine,argOwn,Chunk.frArg],by simp[fs102,push_cast,outOk,Chunk.ext],fun x=>.inl (by simp[fs102,push_cast,frNew,frOut,Chunk.fr])⟩,fun a hp=>?_⟩
 obtain⟨L,code,i⟩:=a
 obtain⟨h1,h2⟩:byAll code/\0<=i:=hp
 have hb:=bytA_bd h1 h2
 change Tri Tryz.prog 102 [.sl 0 L 1 0 code.length,.int .i64 i] [some (.ro,L,.ints .u8 code)] (postF fs102 ⟨L,code,i⟩)
 refine tri_evS (hyp (l:=[]) (lp:=[]) trivial trivial) Tryz.func102 comp102 (rs:=[.tmp 4]) (by rfl) Tryz.ntmps102 10 ?_
 by_cases hi:i<code.length
 ·have e:bytA code i=rd code i:=by unfold bytA;rw[if_pos hi]
  rw[e]at hb
  simp -implicitDefEqProofs only[push_cast,zz,seval,ir102,hi]
  repeat refine om_ ?_
  refine postF.mk' (fun _=>default) [some 0] ?_
  simp -implicitDefEqProofs only[push_cast,zz,seval,fs102,e]
 ·have e:bytA code i=0:=by unfold bytA;rw[if_neg hi]
  simp -implicitDefEqProofs only[push_cast,zz,seval,ir102,hi]
  refine postF.mk' (fun _=>default) [some 0] ?_
  simp -implicitDefEqProofs only[push_cast,zz,seval,fs102,e]
def ent102:Entry:=spOf fs102 invBy
theorem e102:EntryOk Tryz.prog 102 ent102:=entry_of ok102 invBy
@[push_cast] theorem ent102_app (us:List SV) (look:Look) (x:Nat->Xf.Loc) (k:Nat):ent102 us look x k=spOf fs102 invBy us look x k:=rfl
def rdV (LS:Xf.Loc) (d:DeS) (LC:Xf.Loc):List SV:=[.int .i64 d.kind,.sl 1 LS 1 0 d.st.length,.int .u64 d.low,.int .u64 d.high,.sl 2 LC 1 0 d.code.length,.int .i64 d.at_,.int .u64 d.value,.int .i64 d.beyond,.bool d.ended]
def b89_1:IR:=
 .seq (.seq (r_ [o_ 70 (.ld false (some 2) 0 0 (.t 8)),o_ 71 (.callp 99 [.t 70])] [70]) (.cond (.t 71) (.skip) (.exit 0))) (.block 1 (.seq (r_ [o_ 72 (.ld false (some 2) 0 0 (.t 8)),o_ 73 (.callp 100 [.t 72]),s_ 2 .i64 8 73] [71,72,73]) (.seq (r_ [m_ 74 10,o_ 75 (.bin 0 .rem (.t 74) (.k (.int .u64 16777216))),o_ 76 (.bin 0 .mul (.t 75) (.k (.int .u64 256))),m_ 77 0,n_ 78 77,f_ 79 78 4,l_ 80 79,m_ 81 9,o_ 82 (.call (some 4) 11 102 [.t 80,.t 81]),b_ 83 .add 76 82,m_ 10 83] [74,75,76,77,78,79,80,81,82,83]) (r_ [m_ 84 9,a_ 85 84 1,m_ 9 85] [84,85]))))
def r89_2:IR:=
 .seq (r_ [m_ 86 9,m_ 87 0,n_ 88 87,f_ 89 88 4,l_ 90 89,h_ 91 90,b_ 92 .sub 86 91,o_ 93 (.mx (Z_ 0) (.t 92)),m_ 11 93] [86,87,88,89,90,91,92,93]) (.seq (.seq (r_ [m_ 94 11,c_ 95 .gtr 94 4] [94]) (.cond (.t 95) (.seq (r_ [m_ 96 0,n_ 97 96,f_ 98 97 8,O_ (.sto false 1 .i64 (.t 98) (.k (.bool true)))] [0,1,7,8,9,10,11,95,96,97,98]) (.seq (r_ [z_ 4 0,z_ 5 6] []) (.ret))) (.skip))) (.seq (R_ [m_ 99 0,n_ 100 99,f_ 101 100 0,f_ 102 101 1,l_ 103 102,m_ 104 1,m_ 105 0,n_ 106 105,f_ 107 106 0,f_ 108 107 0,l_ 109 108,m_ 110 0,n_ 111 110,f_ 112 111 0,f_ 113 112 1,l_ 114 113,m_ 115 1,i_ 116 114 115 1,L_ 117 116,m_ 118 7,o_ 119 (.callp 98 [.t 109,.t 117,.t 118]),i_ 120 103 104 1,S_ 1 .i64 120 119] [1,4,5,95,99,100,101,102,103,104,105,106,107,108,109,110,111,112,113,114,115,116,117,118,119,120]) (.seq (r_ [m_ 121 0,m_ 122 0,m_ 123 0,m_ 124 0,o_ 125 (.ld false (some 2) 0 0 (.t 8)),m_ 126 9,m_ 127 10,m_ 128 11,n_ 129 121,f_ 130 129 2,s_ 2 .i64 130 125,n_ 131 122,f_ 132 131 5,s_ 1 .i64 132 126,n_ 133 123,f_ 134 133 6,s_ 1 .i64 134 127,n_ 135 124,f_ 136 135 7,s_ 1 .i64 136 128] [0,8,9,10,11,121,122,123,124,125,126,127,128,129,130,131,132,133,134,135,136]) (.seq (r_ [m_ 137 7,m_ 4 137,z_ 5 0] [7,137]) (.ret)))))
def ir89:IR:=
 .seq (r_ [z_ 4 0,z_ 5 0] [4,5]) (.seq (.seq (r_ [m_ 12 0,o_ 13 (.binN .eql (.t 12) (.k nilP))] [12]) (.cond (.t 13) (.seq (r_ [z_ 4 0,z_ 5 7] [0,1,13]) (.ret)) (.skip))) (.seq (.seq (r_ [m_ 14 1,c_ 15 .lss 14 0,m_ 16 15,q_ 16 (m_ 17 1),q_ 16 (m_ 18 0),q_ 16 (n_ 19 18),q_ 16 (f_ 20 19 0),q_ 16 (f_ 21 20 1),q_ 16 (l_ 22 21),q_ 16 (h_ 23 22),q_ 16 (b_ 24 .geq 17 23),k_ 25 16 24] [4,5,13,14,15,16,17,18,19,20,21,22,23,24]) (.cond (.t 25) (.seq (r_ [z_ 4 0,z_ 5 2] [0,1,25]) (.ret)) (.skip))) (.seq (.seq (r_ [m_ 26 0,n_ 27 26,f_ 28 27 8,l_ 29 28] [4,5,25,26,27,28]) (.cond (.t 29) (.seq (r_ [z_ 4 0,z_ 5 6] [0,1,29]) (.ret)) (.skip))) (.seq (R_ [m_ 30 0,n_ 31 30,f_ 32 31 0,f_ 33 32 0,l_ 34 33,m_ 35 0,n_ 36 35,f_ 37 36 0,f_ 38 37 1,l_ 39 38,m_ 40 1,i_ 41 39 40 1,L_ 42 41,o_ 43 (.callp 96 [.t 34,.t 42]),m_ 6 43] [4,5,29,30,31,32,33,34,35,36,37,38,39,40,41,42,43]) (.seq (r_ [z_ 7 0] []) (.seq (.seq (R_ [m_ 44 0,n_ 45 44,f_ 46 45 6,l_ 47 46,m_ 48 0,n_ 49 48,f_ 50 49 2,o_ 51 (.ld false (some 2) 0 0 (.t 50)),m_ 52 6,o_ 53 (.callp 101 [.t 51,.t 52]),b_ 54 .leq 47 53] [44,45,46,47,48,49,50,51,52,53]) (.cond (.t 54) (r_ [z_ 7 1] [54]) (.skip))) (.seq (R_ [m_ 55 0,n_ 56 55,f_ 57 56 2,⟨some 58,none,⟨[10],[]⟩,.ld false (some 2) 0 0 (.t 57)⟩,m_ 59 6,m_ 60 7,o_ 61 (.callp 97 [.t 58,.t 59,.t 60]),m_ 62 0,n_ 63 62,f_ 64 63 5,⟨some 65,none,⟨[10],[]⟩,.ld false none 0 0 (.t 64)⟩,m_ 66 0,n_ 67 66,f_ 68 67 6,⟨some 69,none,⟨[10],[]⟩,.ld false none 0 0 (.t 68)⟩,o_ 8 (.alloc 10 [.int .u64 0,.int .u64 0]),⟨none,none,⟨[],[10]⟩,.sto false 2 .i64 (.t 8) (.t 61)⟩,m_ 9 65,m_ 10 69] [6,54,55,56,57,58,59,60,61,62,63,64,65,66,67,68,69]) (.seq (.block 0 (.loop b89_1)) (r89_2)))))))))
def kp89_1:List Nat:=[0,1,7,8,9,10]
def kl89_1:List Nat:=[11,12,13,14]
attribute [push_cast] kp89_1 kl89_1
set_option maxRecDepth 4000 in
theorem comp89:(Tryz.f89.body.bind fun c=>compC tab isP chkAll ir89 c)=some ir89:=by kernel_rfl
structure RdA where
 L:Xf.Loc
 LS:Xf.Loc
 LC:Xf.Loc
 d:DeS
 ctx:Int
def invRd:List SV->Look->Option (RdA×List Nat)
 | [.ptr c _ 0 0 0,.int .i64 ctx],look=>match rowC (look c)with
  | some (L,[.int .i64 kind,.sl d LS 1 0 _,.int .u64 low,.int .u64 high,.sl e _ 1 0 _,.int .i64 i,.int .u64 v,.int .i64 b,.bool en])=>match rowI (look d),rowI (look e)with
   | some (_,.i64,st),some (LC,.u8,code)=>some (⟨L,LS,LC,⟨kind,st,low,high,code,i,v,b,en⟩,ctx⟩,[c,d,e])
   | _,_=>none
  | _=>none
 | _,_=>none
attribute [push_cast] invRd
def fs89:FS where
 A:=RdA
 args:=fun a=>[.ptr 0 a.L 0 0 0,.int .i64 a.ctx]
 mem:=fun a=>[some (.lent,a.L,.cells (rdV a.LS a.d a.LC)),some (.lent,a.LS,.ints .i64 a.d.st),some (.ro,a.LC,.ints .u8 a.d.code)]
 pre:=fun a=>a.d.ok/\0<=a.ctx/\a.ctx<a.d.st.length
 res:=fun a _=>.tup [.int .i64 (gotB a.d a.ctx),.int .i64 (gotE a.d a.ctx)]
 out:=fun a x=>[some (some (.cells (rdV a.LS (gotS a.d a.ctx) a.LC))),some (some (.ints .i64 (gotS a.d a.ctx).st))]
 new:=fun a x=>[]
set_option maxRecDepth 4000 in
set_option maxHeartbeats 2000000 in
theorem ok89:FSOk Tryz.prog 89 fs89:=by
 refine⟨⟨_,Tryz.func89,by kernel_rfl,by kernel_rfl⟩,fun a=>⟨by simp[fs89,rdV,gotS_len,push_cast,noMine,argOwn,Chunk.frArg],by simp[fs89,rdV,gotS_len,push_cast,outOk,Chunk.ext],fun x=>.inl (by simp[fs89,rdV,gotS_len,push_cast,frNew,frOut,Chunk.fr])⟩,fun a hp=>?_⟩
 obtain⟨L,LS,LC,⟨kind,st,low,high,code,i,v,b,en⟩,ctx⟩:=a
 obtain⟨⟨hiv,hin,hat⟩,h2,h3⟩:(ivOk2 kind st low high/\inOk code i v b/\i<=code.length+4)/\0<=ctx/\ctx<st.length:=hp
 obtain⟨b1,b2,b3,b4,b5,b6,b7⟩:=id hin
 obtain⟨z1,z2,z3,z4,z5,z6⟩:=id hiv
 change Tri Tryz.prog 89 [.ptr 0 L 0 0 0,.int .i64 ctx] [some (.lent,L,.cells (rdV LS ⟨kind,st,low,high,code,i,v,b,en⟩ LC)),some (.lent,LS,.ints .i64 st),some (.ro,LC,.ints .u8 code)] (postF fs89 ⟨L,LS,LC,⟨kind,st,low,high,code,i,v,b,en⟩,ctx⟩)
 refine tri_evS (hyp (l:=[(102,ent102)]) (lp:=[(96,likF),(98,aftF),(101,rmidF),(97,rpartF),(99,rfixF),(100,rshF)]) ⟨e102,trivial⟩ ⟨p96,p98,p101,p97,p99,p100,trivial⟩) Tryz.func89 comp89 (rs:=[.tmp 4,.tmp 5]) (by rfl) Tryz.ntmps89 15 ?_
 have c1:¬ ctx<0:=by omega
 have c2:¬ (st.length:Int)<=ctx:=by omega
 cases en with
 | true=>
  have e1:gotE ⟨kind,st,low,high,code,i,v,b,true⟩ ctx=6:=rfl
  have e2:gotB ⟨kind,st,low,high,code,i,v,b,true⟩ ctx=0:=rfl
  have e3:gotS ⟨kind,st,low,high,code,i,v,b,true⟩ ctx=⟨kind,st,low,high,code,i,v,b,true⟩:=rfl
  simp -implicitDefEqProofs only[push_cast,zz,seval,ir89,rdV,c1,c2]
  refine postF.mk' (fun _=>default) [some 0,some 1,some 2] ?_
  simp -implicitDefEqProofs only[push_cast,zz,seval,fs89,rdV,e1,e2,e3]
 | false=>
  have hs:=z1.at h2 h3
  have hkd:=z1.1
  have hc:=chP_bd hs
  have hmb:=midP_bd z3 (Int.le_of_lt z4) z5 hc.1 hc.2
  obtain⟨m,hm⟩:∃ m,midP low high (chP kind (rd st ctx))=m:=⟨_,rfl⟩
  rw[hm]at hmb
  obtain⟨bit,hbit⟩:∃ x,bitD ⟨kind,st,low,high,code,i,v,b,false⟩ ctx=x:=⟨_,rfl⟩
  have hb01:bit=0∨bit=1:=by rw[<-hbit];exact bitD_01 _ _
  have hbv:bit=if v<=m then 1 else 0:=by rw[<-hbit,<-hm];rfl
  have hn:=nrm_part (bit:=bit) hiv h2 h3
  obtain⟨r,hr⟩:∃ r,runD ⟨kind,st,low,high,code,i,v,b,false⟩ ctx=r:=⟨_,rfl⟩
  have hr':normD code 4 (lowP kind st low high ctx bit) (highP kind st low high ctx bit) i v=r:=by rw[<-hr,<-hbit];rfl
  have hlo:(if bit=1 then low else m+1)=lowP kind st low high ctx bit:=by rw[<-hm];rfl
  have hhi:(if bit=1 then m else high)=highP kind st low high ctx bit:=by rw[<-hm];rfl
  have hd0:(⟨kind,st,low,high,code,i,v,b,false⟩:DeS).ended=false:=rfl
  have hgE:gotE ⟨kind,st,low,high,code,i,v,b,false⟩ ctx=if 4<beyP code r.2.2.1 then 6 else 0:=by
   unfold gotE
   rw[hd0,if_neg (by decide),hr]
  have main:∀ (l0 g0:Int) (M:Xf.Loc),nrm 4 l0 g0->normD code 4 l0 g0 i v=r->evS (spList [(102,ent102)]) (spPList [(96,likF),(98,aftF),(101,rmidF),(97,rpartF),(99,rfixF),(100,rshF)])
    (retK [RV.tmp 4,RV.tmp 5] (postF fs89 ⟨L,LS,LC,⟨kind,st,low,high,code,i,v,b,false⟩,ctx⟩)) [Xf.Item.code (IR.loop b89_1),Xf.Item.blk 0,Xf.Item.code r89_2]
    (upS (List.replicate 138 none) [(0,.ptr 0 L 0 0 0),(1,.int .i64 ctx),(7,.int .i64 bit),(8,.ptr 10 M 0 0 0),(9,.int .i64 i),(10,.int .u64 v)])
    ([some (.lent,L,.cells (rdV LS ⟨kind,st,low,high,code,i,v,b,false⟩ LC)),some (.lent,LS,.ints .i64 st),some (.ro,LC,.ints .u8 code),none,none,none,none,none,none,none,some (.mine,M,.cells [.int .u64 l0,.int .u64 g0])]++List.replicate 7 none):=by
   intro l0 g0 M hn hr'
   obtain⟨s0,hs0⟩:∃ s,rd st ctx=s:=⟨_,rfl⟩
   have hsl:(st.set ctx.toNat (nxP kind s0 bit)).length=st.length:=List.length_set
   have hS:gotS ⟨kind,st,low,high,code,i,v,b,false⟩ ctx=if gotE ⟨kind,st,low,high,code,i,v,b,false⟩ ctx=0 then ⟨kind,st.set ctx.toNat (nxP kind s0 bit),r.1,r.2.1,code,r.2.2.1,r.2.2.2,beyP code r.2.2.1,false⟩else ⟨kind,st,low,high,code,i,v,b,true⟩:=by
    unfold gotS
    rw[hr,hbit,<-hs0]
   have hB:gotB ⟨kind,st,low,high,code,i,v,b,false⟩ ctx=if gotE ⟨kind,st,low,high,code,i,v,b,false⟩ ctx=0 then bit else 0:=by
    unfold gotB
    rw[hbit]
   rw[hs0]at hs hc
   refine evS_loopU (A:=Nat×Int×Int×Int×Int) kp89_1 kl89_1 (fun y=>[(9,.int .i64 y.2.2.2.1),(10,.int .u64 y.2.2.2.2)]) (fun y=>[(10,.mine,M,.cells [.int .u64 y.2.1,.int .u64 y.2.2.1])])
    (fun y=>nrm y.1 y.2.1 y.2.2.1/\normD code y.1 y.2.1 y.2.2.1 y.2.2.2.1 y.2.2.2.2=r/\0<=y.2.2.2.1/\y.2.2.2.1+y.1<=code.length+8/\0<=y.2.2.2.2/\y.2.2.2.2<4294967296) (fun y=>y.1) (4,l0,g0,i,v) ⟨hn,hr',b3,by simp only;omega,b5,b6⟩ (Sub.pt ?_) ?_
   ·simp -implicitDefEqProofs only[push_cast,zz,seval,rdV]
   intro ⟨n,l,g,i',v'⟩ ⟨(hn:nrm n l g),(he:normD code n l g i' v'=r),(hi0:0<=i'),(hi1:i'+n<=code.length+8),(hv0:0<=v'),(hv1:v'<4294967296)⟩ K hK
   obtain⟨n0,n1,n2,n3,n4,n5⟩:=id hn
   by_cases e:l / 16777216=g / 16777216
   ·cases n with
    | zero=>exact absurd e (nrm_0 hn)
    | succ n=>
     have hs:=nrm_step hn e
     rw[normD,if_pos e]at he
     have hsv:=shiftV_bd (v:=v') b2 hi0
     have hsd:v' % 16777216*256+bytA code i'=shiftV code i' v':=rfl
     have hby:=bytA_bd b2 hi0
     simp -implicitDefEqProofs only[push_cast,zz,seval,b89_1,rdV,fs102,e,b2,hsd]
     repeat refine om_ ?_
     refine hK (n,l % 16777216*256,g % 16777216*256+255,i'+1,shiftV code i' v') ⟨hs,he,by simp only;omega,by simp only;omega,hsv⟩ (Nat.lt_succ_self n) _ _ (Sub.pt ?_)
     simp -implicitDefEqProofs only[push_cast,zz,seval,rdV]
   ·rw[normD_no code n e]at he
    subst he
    simp only at hgE hS hB
    clear hK
    have hbm:max 0 (i'-(code.length:Int))=beyP code i':=rfl
    by_cases hbe:4<beyP code i'
    ·rw[if_pos hbe]at hgE
     rw[hgE,if_neg (by decide)]at hS hB
     simp -implicitDefEqProofs only[push_cast,zz,seval,b89_1,r89_2,rdV,e,hbm,hbe]
     repeat refine om_ ?_
     refine postF.mk' (fun _=>default) [some 0,some 1,some 2] ?_
     simp -implicitDefEqProofs only[push_cast,zz,seval,fs89,rdV,hgE,hS,hB]
    ·rw[if_neg hbe]at hgE
     rw[hgE,if_pos rfl]at hS hB
     simp -implicitDefEqProofs only[push_cast,zz,seval,b89_1,r89_2,rdV,e,hbm,hbe,hs0]
     repeat refine om_ ?_
     refine postF.mk' (fun _=>default) [some 0,some 1,some 2] ?_
     simp -implicitDefEqProofs only[push_cast,zz,seval,fs89,rdV,hgE,hS,hB,hsl]
  have h01:¬ (0:Int)=1:=by decide
  by_cases hv:v<=m
  ·rw[if_pos hv]at hbv
   subst hbv
   rw[if_pos rfl]at hlo hhi
   simp -implicitDefEqProofs only[push_cast,zz,seval,ir89,rdV,c1,c2,hm,hv]
   repeat refine om_ ?_
   intro X
   repeat refine om_ ?_
   rw[<-hlo,<-hhi]at hr' hn
   exact main _ _ _ hn hr'
  ·rw[if_neg hv]at hbv
   subst hbv
   rw[if_neg (by decide)]at hlo hhi
   simp -implicitDefEqProofs only[push_cast,zz,seval,ir89,rdV,c1,c2,hm,hv,h01]
   repeat refine om_ ?_
   intro X
   repeat refine om_ ?_
   rw[<-hlo,<-hhi]at hr' hn
   exact main _ _ _ hn hr'
def ent89:Entry:=spOf fs89 invRd
theorem e89:EntryOk Tryz.prog 89 ent89:=entry_of ok89 invRd
@[push_cast] theorem ent89_app (us:List SV) (look:Look) (x:Nat->Xf.Loc) (k:Nat):ent89 us look x k=spOf fs89 invRd us look x k:=rfl
def b88_1:IR:=
 .seq (.seq (r_ [m_ 76 0,n_ 77 76,f_ 78 77 2,o_ 79 (.ld false (some 2) 0 0 (.t 78)),o_ 80 (.callp 99 [.t 79])] [76,77,78,79]) (.cond (.t 80) (.skip) (.exit 0))) (.block 1 (.seq (R_ [m_ 81 0,m_ 82 0,n_ 83 82,f_ 84 83 4,⟨some 85,none,⟨[10],[]⟩,.ld false none 0 0 (.t 84)⟩,m_ 86 0,n_ 87 86,f_ 88 87 2,f_ 89 88 1,l_ 90 89,o_ 91 (.bin 0 .shr (.t 90) (.k (.int .u64 24))),o_ 92 (.cvt 0 .u8 (.t 91)),o_ 93 (.bslice 10 [.t 92]),o_ 94 (.app 11 1 1 (.t 85) (.t 93)),n_ 95 81,f_ 96 95 4,s_ 1 .u8 96 94] [80,81,82,83,84,85,86,87,88,89,90,91,92,93,94,95,96]) (r_ [m_ 97 0,m_ 98 0,n_ 99 98,f_ 100 99 2,o_ 101 (.ld false (some 2) 0 0 (.t 100)),o_ 102 (.callp 100 [.t 101]),n_ 103 97,f_ 104 103 2,s_ 2 .i64 104 102] [97,98,99,100,101,102,103,104])))
def r88_2:IR:=
 .seq (r_ [z_ 6 0] [0]) (.ret)
def ir88:IR:=
 .seq (r_ [z_ 6 0] [6]) (.seq (.seq (r_ [m_ 8 0,o_ 9 (.binN .eql (.t 8) (.k nilP))] [8]) (.cond (.t 9) (.seq (r_ [z_ 6 7] [0,1,2,9]) (.ret)) (.skip))) (.seq (.seq (r_ [m_ 10 1,c_ 11 .lss 10 0,m_ 12 11,q_ 12 (m_ 13 1),q_ 12 (m_ 14 0),q_ 12 (n_ 15 14),q_ 12 (f_ 16 15 0),q_ 12 (f_ 17 16 1),q_ 12 (l_ 18 17),q_ 12 (h_ 19 18),q_ 12 (b_ 20 .geq 13 19),k_ 21 12 20,m_ 22 21,q_ 22 (m_ 23 2),q_ 22 (c_ 24 .neq 23 0),q_ 22 (m_ 25 24),p_ 25 (m_ 26 2),p_ 25 (c_ 27 .neq 26 1),q_ 22 (K_ 28 25 27),k_ 29 22 28] [6,9,10,11,12,13,14,15,16,17,18,19,20,21,22,23,24,25,26,27,28]) (.cond (.t 29) (.seq (r_ [z_ 6 2] [0,1,2,29]) (.ret)) (.skip))) (.seq (R_ [m_ 30 0,n_ 31 30,f_ 32 31 0,f_ 33 32 0,l_ 34 33,m_ 35 0,n_ 36 35,f_ 37 36 0,f_ 38 37 1,l_ 39 38,m_ 40 1,i_ 41 39 40 1,L_ 42 41,o_ 43 (.callp 96 [.t 34,.t 42]),m_ 7 43] [6,29,30,31,32,33,34,35,36,37,38,39,40,41,42,43]) (.seq (r_ [m_ 44 0,m_ 45 0,n_ 46 45,f_ 47 46 2,o_ 48 (.ld false (some 2) 0 0 (.t 47)),m_ 49 7,m_ 50 2,o_ 51 (.callp 97 [.t 48,.t 49,.t 50]),n_ 52 44,f_ 53 52 2,s_ 2 .i64 53 51] [7,44,45,46,47,48,49,50,51,52,53]) (.seq (R_ [m_ 54 0,n_ 55 54,f_ 56 55 0,f_ 57 56 1,l_ 58 57,m_ 59 1,m_ 60 0,n_ 61 60,f_ 62 61 0,f_ 63 62 0,l_ 64 63,m_ 65 0,n_ 66 65,f_ 67 66 0,f_ 68 67 1,l_ 69 68,m_ 70 1,i_ 71 69 70 1,L_ 72 71,m_ 73 2,o_ 74 (.callp 98 [.t 64,.t 72,.t 73]),i_ 75 58 59 1,S_ 1 .i64 75 74] [1,2,54,55,56,57,58,59,60,61,62,63,64,65,66,67,68,69,70,71,72,73,74,75]) (.seq (.block 0 (.loop b88_1)) (r88_2)))))))
def kp88_1:List Nat:=[0]
def kl88_1:List Nat:=[10,11]
attribute [push_cast] kp88_1 kl88_1
set_option maxRecDepth 4000 in
theorem comp88:(Tryz.f88.body.bind fun c=>compC tab isP chkAll ir88 c)=some ir88:=by kernel_rfl
def reV (LS:Xf.Loc) (e:EnS) (d:Nat) (LO:Xf.Loc):List SV:=[.int .i64 e.kind,.sl 1 LS 1 0 e.st.length,.int .u64 e.low,.int .u64 e.high,.sl d LO 1 0 e.out.length]
def invRe:List SV->Look->Option (EnA×List Nat)
 | .ptr c _ 0 0 0::us,look=>match rowC (look c)with
  | some (L,[.int .i64 kind,.sl d LS 1 0 _,.int .u64 low,.int .u64 high,.sl e _ 1 0 _])=>match rowI (look d),rowO look e with
   | some (_,.i64,st),some (LO,out)=>match us with
     | []=>some (⟨L,LS,LO,⟨kind,st,low,high,out⟩,0,0⟩,[c,d,e])
     | [.int .i64 ctx,.int .i64 bit]=>some (⟨L,LS,LO,⟨kind,st,low,high,out⟩,ctx,bit⟩,[c,d,e])
     | _=>none
   | _,_=>none
  | _=>none
 | _,_=>none
attribute [push_cast] invRe
def fs88:FS where
 A:=EnA
 args:=fun a=>[.ptr 0 a.L 0 0 0,.int .i64 a.ctx,.int .i64 a.bit]
 mem:=fun a=>[some (.lent,a.L,.cells (reV a.LS a.e 2 a.LO)),some (.lent,a.LS,.ints .i64 a.e.st),some (.lent,a.LO,.ints .u8 a.e.out)]
 pre:=fun a=>a.e.ok/\0<=a.ctx/\a.ctx<a.e.st.length/\(a.bit=0∨a.bit=1)/\a.e.out.length<=100000000
 res:=fun a _=>.int .i64 0
 out:=fun a x=>[some (some (.cells (reV a.LS (putP a.e a.ctx a.bit) 3 (x 0)))),some (some (.ints .i64 (putP a.e a.ctx a.bit).st)),some none]
 new:=fun a x=>[(x 0,.ints .u8 (putP a.e a.ctx a.bit).out)]
 newGot:=true
set_option maxHeartbeats 1000000 in
theorem ok88:FSOk Tryz.prog 88 fs88:=by
 refine⟨⟨_,Tryz.func88,by kernel_rfl,by kernel_rfl⟩,fun a=>⟨by simp[fs88,reV,putP,push_cast,noMine,argOwn,Chunk.frArg],by simp[fs88,reV,putP,push_cast,outOk,Chunk.ext],fun x=>.inl (by simp[fs88,reV,putP,push_cast,frNew,frOut,Chunk.fr])⟩,fun a hp=>?_⟩
 obtain⟨L,LS,LO,⟨kind,st,low,high,out⟩,ctx,bit⟩:=a
 obtain⟨h1,h2,h3,h4,h5⟩:ivOk2 kind st low high/\0<=ctx/\ctx<st.length/\(bit=0∨bit=1)/\out.length<=100000000:=hp
 obtain⟨z1,z2,z3,z4,z5,z6⟩:=id h1
 have hn:=nrm_part (bit:=bit) h1 h2 h3
 have hs:=z1.at h2 h3
 have hkd:=z1.1
 have hc:=chP_bd hs
 have hmb:=midP_bd z3 (Int.le_of_lt z4) z5 hc.1 hc.2
 obtain⟨E,hE⟩:∃ E,putP ⟨kind,st,low,high,out⟩ ctx bit=E:=⟨_,rfl⟩
 have hE1:E.kind=kind:=by rw[<-hE];rfl
 have hE2:E.st=st.set ctx.toNat (nxP kind (rd st ctx) bit):=by rw[<-hE];rfl
 have hE3:(out++(normP 4 (lowP kind st low high ctx bit) (highP kind st low high ctx bit)).1,(normP 4 (lowP kind st low high ctx bit) (highP kind st low high ctx bit)).2)=(E.out,E.low,E.high):=by rw[<-hE];rfl
 have hlo:lowP kind st low high ctx bit=if bit=1 then low else midP low high (chP kind (rd st ctx))+1:=rfl
 have hhi:highP kind st low high ctx bit=if bit=1 then midP low high (chP kind (rd st ctx))else high:=rfl
 obtain⟨m,hm⟩:∃ m,midP low high (chP kind (rd st ctx))=m:=⟨_,rfl⟩
 obtain⟨s0,hs0⟩:∃ s,rd st ctx=s:=⟨_,rfl⟩
 rw[hm]at hmb hlo hhi
 rw[hs0]at hs hc hE2 hm
 obtain⟨l0,hll⟩:∃ l,lowP kind st low high ctx bit=l:=⟨_,rfl⟩
 obtain⟨g0,hgg⟩:∃ l,highP kind st low high ctx bit=l:=⟨_,rfl⟩
 rw[hll,hgg]at hn hE3
 rw[hll]at hlo
 rw[hgg]at hhi
 obtain⟨S,hSS⟩:∃ l,st.set ctx.toNat (nxP kind s0 bit)=l:=⟨_,rfl⟩
 have hSl:S.length=st.length:=by rw[<-hSS,List.length_set]
 rw[hSS]at hE2
 change Tri Tryz.prog 88 [.ptr 0 L 0 0 0,.int .i64 ctx,.int .i64 bit] [some (.lent,L,.cells (reV LS ⟨kind,st,low,high,out⟩ 2 LO)),some (.lent,LS,.ints .i64 st),some (.lent,LO,.ints .u8 out)] (postF fs88 ⟨L,LS,LO,⟨kind,st,low,high,out⟩,ctx,bit⟩)
 refine tri_evS (hyp (l:=[]) (lp:=[(96,likF),(98,aftF),(97,rpartF),(99,rfixF),(100,rshF)]) trivial ⟨p96,p98,p97,p99,p100,trivial⟩) Tryz.func88 comp88 (rs:=[.tmp 6]) (by rfl) Tryz.ntmps88 12 ?_
 have c1:¬ ctx<0:=by omega
 have c2:¬ (st.length:Int)<=ctx:=by omega
 have c3:bit=0∨bit=1:=h4
 have h01:¬ (0:Int)=1:=by decide
 have main:evS (spList []) (spPList [(96,likF),(98,aftF),(97,rpartF),(99,rfixF),(100,rshF)])
    (retK [RV.tmp 6] (postF fs88 ⟨L,LS,LO,⟨kind,st,low,high,out⟩,ctx,bit⟩)) [Xf.Item.code (IR.loop b88_1),Xf.Item.blk 0,Xf.Item.code r88_2]
    (upS (List.replicate 105 none) [(0,.ptr 0 L 0 0 0)])
    ([some (.lent,L,.cells [.int .i64 kind,.sl 1 LS 1 0 st.length,.int .u64 l0,.int .u64 g0,.sl 2 LO 1 0 out.length]),some (.lent,LS,.ints .i64 S),some (.lent,LO,.ints .u8 out)]++List.replicate 12 none):=by
  refine evS_loopU (A:=Nat×Xf.Loc×Int×Int×List Int) kp88_1 kl88_1 (fun y=>[]) (fun y=>[(0,.lent,L,.cells [.int .i64 kind,.sl 1 LS 1 0 st.length,.int .u64 y.2.2.1,.int .u64 y.2.2.2.1,.sl 2 y.2.1 1 0 y.2.2.2.2.length]),(2,.got,y.2.1,.ints .u8 y.2.2.2.2)])
   (fun y=>nrm y.1 y.2.2.1 y.2.2.2.1/\(y.2.2.2.2++(normP y.1 y.2.2.1 y.2.2.2.1).1,(normP y.1 y.2.2.1 y.2.2.2.1).2)=(E.out,E.low,E.high)/\y.2.2.2.2.length+y.1<=100000004) (fun y=>y.1) (4,LO,l0,g0,out) ⟨hn,hE3,by simp only;omega⟩ (Sub.pt ?_) ?_
  ·simp -implicitDefEqProofs only[push_cast,zz,seval]
  intro ⟨n,M,l,g,o⟩ ⟨(hn:nrm n l g),(he:(o++(normP n l g).1,(normP n l g).2)=(E.out,E.low,E.high)),(ho:o.length+n<=100000004)⟩ K hK
  obtain⟨n0,n1,n2,n3,n4,n5⟩:=id hn
  by_cases e:l / 16777216=g / 16777216
  ·cases n with
   | zero=>exact absurd e (nrm_0 hn)
   | succ n=>
    have hs:=nrm_step hn e
    rw[norm_yes e]at he
    have he':((o++[l / 16777216])++(normP n (l % 16777216*256) (g % 16777216*256+255)).1,(normP n (l % 16777216*256) (g % 16777216*256+255)).2)=(E.out,E.low,E.high):=by
     rw[<-he,List.append_assoc];rfl
    rw[e]at he'
    simp -implicitDefEqProofs only[push_cast,zz,seval,b88_1,e,pw24,hSl]
    repeat refine om_ ?_
    intro X
    repeat refine om_ ?_
    refine hK (n,X 13 11,l % 16777216*256,g % 16777216*256+255,o++[g / 16777216]) ⟨hs,he',by simp only[List.length_append,List.length_singleton];omega⟩ (Nat.lt_succ_self n) _ _ (Sub.of (mkG 12 [(0,0),(1,1),(2,11)]) ?_)
    simp -implicitDefEqProofs only[push_cast,zz,seval,List.length_append]
  ·rw[norm_no n e,List.append_nil]at he
   have e1:E.out=o:=(congrArg Prod.fst he).symm
   have e2:E.low=l:=(congrArg (fun x=>x.2.1) he).symm
   have e3:E.high=g:=(congrArg (fun x=>x.2.2) he).symm
   clear hK
   simp -implicitDefEqProofs only[push_cast,zz,seval,b88_1,r88_2,e,hSl]
   repeat refine om_ ?_
   refine postF.mk' (fun _=>M) [some 0,some 1,none,some 2] ?_
   simp -implicitDefEqProofs only[push_cast,zz,seval,fs88,reV,hE,hE1,hE2,e1,e2,e3,hSl]
 rcases h4 with rfl | rfl
 ·rw[if_neg h01]at hlo hhi
  subst hlo
  subst hhi
  simp -implicitDefEqProofs only[push_cast,zz,seval,ir88,reV,c1,c2,hs0,hm,h01,hSS]
  repeat refine om_ ?_
  exact main
 ·rw[if_pos rfl]at hlo hhi
  subst hlo
  subst hhi
  simp -implicitDefEqProofs only[push_cast,zz,seval,ir88,reV,c1,c2,hs0,hm,h01,hSS]
  repeat refine om_ ?_
  exact main
def ent88:Entry:=spOf fs88 invRe
theorem e88:EntryOk Tryz.prog 88 ent88:=entry_of ok88 invRe
@[push_cast] theorem ent88_app (us:List SV) (look:Look) (x:Nat->Xf.Loc) (k:Nat):ent88 us look x k=spOf fs88 invRe us look x k:=rfl
def ir86:IR:=
 .seq (r_ [z_ 2 0] [2]) (.seq (r_ [m_ 3 0,a_ 4 3 3,c_ 5 .quo 4 4,m_ 2 5] [0,3,4,5]) (.ret))
set_option maxRecDepth 4000 in
theorem comp86:(Tryz.f86.body.bind fun c=>compC tab isP chkAll ir86 c)=some ir86:=by kernel_rfl
def b87_2:IR:=
 .seq (r_ [b_ 60 .lss 59 58] []) (.seq (.cond (.t 60) (.skip) (.exit 2)) (.seq (.block 3 (.seq (r_ [m_ 61 59,i_ 62 57 59 8,o_ 63 (.ld true (some 8) 0 0 (.t 62)),o_ 15 (.alloc 12 [y_,y_,y_,y_,y_,y_,y_,y_]),m_ 14 61,s_ 8 .i64 15 63] [60,61,62,63]) (.seq (r_ [f_ 64 15 0,l_ 65 64,m_ 66 12,b_ 67 .eql 65 66,m_ 68 67,p_ 68 (f_ 69 15 1),p_ 68 (l_ 70 69),p_ 68 (m_ 71 3),p_ 68 (b_ 72 .eql 70 71),K_ 73 68 72,m_ 74 73,p_ 74 (f_ 75 15 2),p_ 74 (l_ 76 75),p_ 74 (m_ 77 4),p_ 74 (b_ 78 .eql 76 77),K_ 79 74 78] [15,64,65,66,67,68,69,70,71,72,73,74,75,76,77,78]) (.cond (.t 79) (.seq (r_ [m_ 80 14,m_ 10 80] [1,3,4,11,12,14,23,24,25,57,58,59,79,80]) (.ret)) (.skip))))) (r_ [a_ 81 59 1,m_ 59 81] [10,14,79,81])))
def r87_3:IR:=
 r_ [a_ 82 25 1,m_ 25 82] [12,57,58,59,82]
def b87_1:IR:=
 .seq (r_ [b_ 26 .lss 25 24] []) (.seq (.cond (.t 26) (.skip) (.exit 0)) (.seq (.block 1 (.seq (r_ [m_ 27 25,i_ 28 23 25 6,o_ 29 (.ld true (some 6) 0 0 (.t 28)),o_ 13 (.alloc 11 [y_,y_,y_,y_,y_,y_]),m_ 12 27,s_ 6 .i64 13 29] [26,27,28,29]) (.seq (.seq (r_ [f_ 30 13 1,l_ 31 30,f_ 32 11 1,l_ 33 32,b_ 34 .neq 31 33,m_ 35 34,q_ 35 (f_ 36 13 0),q_ 35 (l_ 37 36),q_ 35 (f_ 38 11 0),q_ 35 (l_ 39 38),q_ 35 (a_ 40 39 1),q_ 35 (b_ 41 .neq 37 40),k_ 42 35 41] [30,31,32,33,34,35,36,37,38,39,40,41]) (.cond (.t 42) (.exit 1) (.skip))) (.seq (R_ [m_ 43 3,c_ 44 .quo 43 2,f_ 45 13 4,l_ 46 45,o_ 47 (.callp 86 [.t 46]),c_ 48 .sub 47 1,o_ 49 (.mn (.t 44) (.t 48)),m_ 50 4,c_ 51 .quo 50 2,f_ 52 13 5,l_ 53 52,o_ 54 (.callp 86 [.t 53]),c_ 55 .sub 54 1,o_ 56 (.mn (.t 51) (.t 55)),m_ 3 49,m_ 4 56] [13,42,43,44,45,46,47,48,49,50,51,52,53,54,55,56]) (.seq (r_ [m_ 57 1,h_ 58 57,z_ 59 0] []) (.block 2 (.loop b87_2))))))) (r87_3)))
def r87_4:IR:=
 .seq (r_ [z_ 10 (-1)] [1,3,4,11,23,24,25]) (.ret)
def ir87:IR:=
 .seq (r_ [z_ 10 0] [10]) (.seq (r_ [m_ 16 0,m_ 17 2,i_ 18 16 17 6,o_ 19 (.ld true (some 6) 0 0 (.t 18)),o_ 11 (.alloc 10 [y_,y_,y_,y_,y_,y_]),s_ 6 .i64 11 19] [2,16,17,18,19]) (.seq (.seq (r_ [f_ 20 11 1,l_ 21 20,c_ 22 .eql 21 0] [20,21]) (.cond (.t 22) (.seq (r_ [z_ 10 (-1)] [0,1,3,4,11,22]) (.ret)) (.skip))) (.seq (.seq (r_ [m_ 23 0,h_ 24 23,z_ 25 0] [0,10,22]) (.block 0 (.loop b87_1))) (r87_4))))
def kp87_2:List Nat:=[1,3,4,11,12,23,24,25,57,58,59]
def kl87_2:List Nat:=[12]
attribute [push_cast] kp87_2 kl87_2
def kp87_1:List Nat:=[1,3,4,11,23,24,25]
def kl87_1:List Nat:=[11,12]
attribute [push_cast] kp87_1 kl87_1
set_option maxRecDepth 4000 in
theorem comp87:(Tryz.f87.body.bind fun c=>compC tab isP chkAll ir87 c)=some ir87:=by kernel_rfl
structure Rb where
 band:Int
 i:Int
 j:Int
 x:Int
 y:Int
 w:Int
 h:Int
 par:Int
 deriving Inhabited
def Rb.rc (b:Rb):List RC:=[.int .i64 b.band,.int .i64 b.i,.int .i64 b.j,.int .i64 b.x,.int .i64 b.y,.int .i64 b.w,.int .i64 b.h,.int .i64 b.par]
def rdRb (l:List Rb) (i:Nat):Rb:=l.getD i default
theorem rdRb_nat {l:List Rb} {i:Nat} (h:i<l.length):rdRb l i=l[i]:=by simp[rdRb,h]
theorem recAt_Rb {l:List Rb} {i:Nat} (h:i<l.length) (z:List RC):recAt (i:Int) z (l.map Rb.rc)=(rdRb l i).rc:=by
 simp[recAt,rdRb,h]
def getRb:List (List RC)->Option (List Rb)
 | []=>some []
 | [.int .i64 a,.int .i64 b,.int .i64 c,.int .i64 d,.int .i64 e,.int .i64 f,.int .i64 g,.int .i64 h]::l=>match getRb l with | some r=>some (⟨a,b,c,d,e,f,g,h⟩::r) | none=>none
 | _=>none
theorem getRb_map:∀ l:List Rb,getRb (l.map Rb.rc)=some l
 | []=>rfl
 | g::l=>by
  simp only[List.map_cons,Rb.rc,getRb]
  have:=getRb_map l
  rw[this]
@[push_cast] theorem getRb_map' (l:List Rb):getRb (l.map Rb.rc)=some l:=getRb_map l
def getBds:List (List RC)->Option (List Bd)
 | []=>some []
 | [.int .i64 a,.int .i64 b,.int .i64 c,.int .i64 d,.int .i64 e,.int .i64 f]::l=>match getBds l with | some r=>some (⟨a,b,c,d,e,f⟩::r) | none=>none
 | _=>none
theorem getBds_map:∀ l:List Bd,getBds (l.map Bd.rc)=some l
 | []=>rfl
 | g::l=>by
  simp only[List.map_cons,Bd.rc,getBds]
  have:=getBds_map l
  rw[this]
@[push_cast] theorem getBds_map' (l:List Bd):getBds (l.map Bd.rc)=some l:=getBds_map l
def rowRb (look:Look) (d:Nat):Option (Xf.Loc×List Rb):=
 bif d==4096 then some (nilLoc,[])else match rowR (look d)with
  | some (L,8,_,r)=>match getRb r with | some l=>some (L,l) | none=>none
  | _=>none
def rowBds (look:Look) (d:Nat):Option (Xf.Loc×List Bd):=
 bif d==4096 then some (nilLoc,[])else match rowR (look d)with
  | some (L,6,_,r)=>match getBds r with | some l=>some (L,l) | none=>none
  | _=>none
attribute [push_cast] rowRb rowBds
theorem fI_some {α:Type} {l:List α} {p:α->Bool} {i:Nat} {a:α} (hi:l[i]?=some a) (h:p a=true) (hj:∀ (j:Nat) (b:α),j<i->l[j]?=some b->p b=false):l.findIdx? p=some i:=by
 have hl:i<l.length:=(List.getElem?_eq_some_iff.1 hi).1
 rw[List.findIdx?_eq_some_iff_getElem]
 refine⟨hl,by rw[(List.getElem?_eq_some_iff.1 hi).2];exact h,fun j hji=>?_⟩
 have:=hj j _ hji (List.getElem?_eq_getElem (by omega))
 simpa using this
theorem fI_none {α:Type} {l:List α} {p:α->Bool} (hj:∀ (j:Nat) (b:α),l[j]?=some b->p b=false):l.findIdx? p=none:=by
 rw[List.findIdx?_eq_none_iff]
 intro g hg
 obtain⟨j,hjl,rfl⟩:=List.mem_iff_getElem.1 hg
 have:=hj j _ (List.getElem?_eq_getElem hjl)
 simpa using this
def hitR (k i j:Int) (x:Rb):Bool:=decide (x.band=k/\x.i=i/\x.j=j)
def rpS (l:List Rb) (k i j:Int):Option Nat:=l.findIdx? (hitR k i j)
def rpG (bs:List Bd) (l:List Rb) (b:Bd):Nat->Nat->Int->Int->Int
 | 0,_,_,_=>-1
 | n+1,k,i,j=>
  if (rdBd bs k).kd=b.kd/\(rdBd bs k).lv=b.lv+1 then
   (match rpS l k (min (i / 2) (colsB (rdBd bs k)-1)) (min (j / 2) (rowsB (rdBd bs k)-1))with
    | some m=>(m:Int)
    | none=>rpG bs l b n (k+1) (min (i / 2) (colsB (rdBd bs k)-1)) (min (j / 2) (rowsB (rdBd bs k)-1)))
  else rpG bs l b n (k+1) i j
def rpar (bs:List Bd) (l:List Rb) (k:Nat) (i j:Int):Int:=if (rdBd bs k).kd=0 then -1 else rpG bs l (rdBd bs k) bs.length 0 i j
def colF:EntryP
 | [.int .i64 n]=>some (0<=n/\n<=1000000,.int .i64 ((n+4-1) / 4))
 | _=>none
attribute [push_cast] colF
theorem p86:EntryPOk Tryz.prog 86 colF:=by
 refine⟨⟨_,Tryz.func86,by kernel_rfl,by kernel_rfl⟩,fun us p v h hp=>?_⟩
 unfold colF at h
 split at h<;>cases h
 rename_i n
 obtain⟨h0,h1⟩:=hp
 refine tri_evS (hyp (l:=[]) (lp:=[]) trivial trivial) Tryz.func86 comp86 (rs:=[.tmp 2]) (by rfl) Tryz.ntmps86 10 ?_
 have e:(n+3) / 4=(n+4-1) / 4:=by rw[show n+4-1=n+3 by omega]
 simp -implicitDefEqProofs only[push_cast,zz,seval,ir86,e]
 all_goals omega
structure RpA where
 LB:Xf.Loc
 sb:Nat
 bs:List Bd
 L:Xf.Loc
 s:Nat
 l:List Rb
 k:Nat
 i:Int
 j:Int
def bdsWf (bs:List Bd):Prop:=bs.length<=1000/\∀ b∈bs,(b.ok/\1<=b.w/\1<=b.h)/\-1000<=b.lv/\b.lv<=1000
def fs87:FS where
 A:=RpA
 args:=fun a=>[.sl 0 a.LB a.sb 0 a.bs.length,.sl 1 a.L a.s 0 a.l.length,.int .i64 a.k,.int .i64 a.i,.int .i64 a.j]
 mem:=fun a=>[some (.ro,a.LB,.recs 6 false [] (a.bs.map Bd.rc)),some (.ro,a.L,.recs 8 false [] (a.l.map Rb.rc))]
 pre:=fun a=>bdsWf a.bs/\a.l.length<=1000000/\(0<a.bs.length->a.sb=6)/\(0<a.l.length->a.s=8)/\a.k<a.bs.length/\(0<=a.i/\a.i<=1000)/\0<=a.j/\a.j<=1000
 res:=fun a _=>.int .i64 (rpar a.bs a.l a.k a.i a.j)
 out:=fun _ _=>[]
 new:=fun _ _=>[]
def invRp:List SV->Look->Option (RpA×List Nat)
 | [.sl c _ s 0 _,.sl d _ s' 0 _,.int .i64 k,.int .i64 i,.int .i64 j],look=>match rowBds look c,rowRb look d with
  | some (LB,bs),some (L,l)=>some (⟨LB,s,bs,L,s',l,k.toNat,i,j⟩,[c,d])
  | _,_=>none
 | _,_=>none
attribute [push_cast] invRp
set_option maxHeartbeats 2000000 in
theorem ok87:FSOk Tryz.prog 87 fs87:=by
 refine⟨⟨_,Tryz.func87,by kernel_rfl,by kernel_rfl⟩,fun a=>⟨by simp[fs87,push_cast,noMine,argOwn,Chunk.frArg],by simp[fs87,push_cast,outOk,Chunk.ext],fun x=>.inl (by simp[fs87,push_cast,frNew,frOut,Chunk.fr])⟩,fun a hp=>?_⟩
 obtain⟨LB,sb,bs,L,s,l,k0,i0,j0⟩:=a
 obtain⟨⟨h1,h2⟩,h3,h4,h5,h6,h7,h8⟩:bdsWf bs/\l.length<=1000000/\(0<bs.length->sb=6)/\(0<l.length->s=8)/\k0<bs.length/\(0<=i0/\i0<=1000)/\0<=j0/\j0<=1000:=hp
 obtain rfl:=h4 (by omega)
 have hR:rpar bs l k0 i0 j0=if (rdBd bs k0).kd=0 then -1 else rpG bs l (rdBd bs k0) bs.length 0 i0 j0:=rfl
 obtain⟨R,hRR⟩:∃ R,rpar bs l k0 i0 j0=R:=⟨_,rfl⟩
 rw[hRR]at hR
 have hmb:(bs.map Bd.rc).length=bs.length:=List.length_map _
 have hml:(l.map Rb.rc).length=l.length:=List.length_map _
 have r0:recAt (k0:Int) [] (bs.map Bd.rc)=(rdBd bs k0).rc:=recAt_Bd' (by omega) (by omega) []
 have hb0:=h2 _ (rdBd_mem h6)
 obtain⟨⟨lv,kd,bx,by',bw,bh⟩,hb⟩:∃ b,rdBd bs k0=b:=⟨_,rfl⟩
 rw[hb]at hR r0 hb0
 simp only at hR hb0
 change Tri Tryz.prog 87 [.sl 0 LB 6 0 bs.length,.sl 1 L s 0 l.length,.int .i64 k0,.int .i64 i0,.int .i64 j0] [some (.ro,LB,.recs 6 false [] (bs.map Bd.rc)),some (.ro,L,.recs 8 false [] (l.map Rb.rc))] (postF fs87 ⟨LB,6,bs,L,s,l,k0,i0,j0⟩)
 refine tri_evS (hyp (l:=[]) (lp:=[(86,colF)]) trivial ⟨p86,trivial⟩) Tryz.func87 comp87 (rs:=[.tmp 10]) (by rfl) Tryz.ntmps87 13 ?_
 by_cases hk0:kd=0
 ·rw[if_pos hk0]at hR
  simp -implicitDefEqProofs only[push_cast,zz,seval,ir87,r0,Bd.rc,hmb,hk0]
  intro X
  repeat refine om_ ?_
  refine postF.mk' (fun _=>default) [some 0,some 1] ?_
  simp -implicitDefEqProofs only[push_cast,zz,seval,fs87,hRR,hR]
 rw[if_neg hk0]at hR
 simp -implicitDefEqProofs only[push_cast,zz,seval,ir87,r0,Bd.rc,hmb,hk0]
 intro X
 repeat refine om_ ?_
 refine evS_loopU (A:=Nat×Int×Int) kp87_1 kl87_1 (fun y=>[(25,.int .i64 y.1),(3,.int .i64 y.2.1),(4,.int .i64 y.2.2)]) (fun _=>[])
  (fun y=>y.1<=bs.length/\rpG bs l ⟨lv,kd,bx,by',bw,bh⟩ (bs.length-y.1) y.1 y.2.1 y.2.2=R/\(0<=y.2.1/\y.2.1<=1000)/\0<=y.2.2/\y.2.2<=1000) (fun y=>bs.length-y.1) (0,i0,j0) ⟨Nat.zero_le _,hR.symm,h7,h8⟩ (Sub.pt ?_) ?_
 ·simp -implicitDefEqProofs only[push_cast,zz,seval]
 intro ⟨k,i,j⟩ ⟨(hk:k<=bs.length),(hG:rpG bs l ⟨lv,kd,bx,by',bw,bh⟩ (bs.length-k) k i j=R),⟨(hi0:0<=i),(hi1:i<=1000)⟩,(hj0:0<=j),(hj1:j<=1000)⟩ K hK
 by_cases hk':k<bs.length
 ·have hki:(k:Int)<bs.length:=by omega
  have r1:recAt (k:Int) [] (bs.map Bd.rc)=(rdBd bs k).rc:=recAt_Bd' (by omega) (by omega) []
  have hb1:=h2 _ (rdBd_mem hk')
  rw[show bs.length-k=(bs.length-(k+1))+1 by omega,rpG]at hG
  obtain⟨⟨lv1,kd1,bx1,by1,bw1,bh1⟩,hbb⟩:∃ b,rdBd bs k=b:=⟨_,rfl⟩
  have hc1:colsB ⟨lv1,kd1,bx1,by1,bw1,bh1⟩=(bw1+4-1) / 4:=rfl
  have hc2:rowsB ⟨lv1,kd1,bx1,by1,bw1,bh1⟩=(bh1+4-1) / 4:=rfl
  rw[hbb]at r1 hb1 hG
  rw[hc1,hc2]at hG
  simp only at hb1 hG
  obtain⟨⟨⟨w0,w1,w2,w3⟩,w6,w7⟩,w4,w5⟩:=hb1
  simp only at w0 w1 w2 w3
  obtain⟨⟨⟨v0,v1,v2,v3⟩,v6,v7⟩,v4,v5⟩:=hb0
  simp only at v0 v1 v2 v3
  by_cases e1:kd1=kd
  ·by_cases e2:lv1=lv+1
   ·rw[if_pos ⟨e1,e2⟩]at hG
    obtain⟨i1,hi1'⟩:∃ x,min (i / 2) ((bw1+4-1) / 4-1)=x:=⟨_,rfl⟩
    obtain⟨j1,hj1'⟩:∃ x,min (j / 2) ((bh1+4-1) / 4-1)=x:=⟨_,rfl⟩
    rw[hi1',hj1']at hG
    have hit:∀ x:Rb,hitR k i1 j1 x=decide (x.band=k/\x.i=i1/\x.j=j1):=fun x=>rfl
    simp -implicitDefEqProofs only[push_cast,zz,seval,b87_1,r1,Bd.rc,hmb,hki,e1,e2]
    intro X1
    repeat refine om_ ?_
    refine evS_loopU (A:=Nat) kp87_2 kl87_2 (fun n=>[(59,.int .i64 n)]) (fun _=>[]) (fun n=>n<=l.length/\∀ (m:Nat) (b:Rb),m<n->l[m]?=some b->hitR k i1 j1 b=false) (fun n=>l.length-n) 0 ⟨Nat.zero_le _,fun m b hm=>by omega⟩ (Sub.pt ?_) ?_
    ·simp -implicitDefEqProofs only[push_cast,zz,seval]
    intro n ⟨(hn:n<=l.length),(hno:∀ (m:Nat) (b:Rb),m<n->l[m]?=some b->hitR k i1 j1 b=false)⟩ K2 hK2
    by_cases hn':n<l.length
    ·obtain rfl:=h5 (by omega)
     have hni:(n:Int)<l.length:=by omega
     have r2:=recAt_Rb hn' []
     have hget:l[n]?=some (rdRb l n):=by rw[rdRb_nat hn',List.getElem?_eq_getElem hn']
     obtain⟨⟨b1,bi,bj,bx2,by2,bw2,bh2,bp⟩,hrb⟩:∃ b,rdRb l n=b:=⟨_,rfl⟩
     rw[hrb]at r2 hget
     have hcont:=fun(hm:hitR k i1 j1 ⟨b1,bi,bj,bx2,by2,bw2,bh2,bp⟩=false)=>hK2 (n+1) ⟨show n+1<=l.length by omega,fun m b hmn hb=>by
      by_cases e:m=n
      ·subst e;rw[hget]at hb;cases hb;exact hm
      ·exact hno m b (by omega) hb⟩ (show l.length-(n+1)<l.length-n by omega)
     rw[hit]at hcont
     simp only at hcont
     have hfound:hitR k i1 j1 ⟨b1,bi,bj,bx2,by2,bw2,bh2,bp⟩=true->R=n:=fun h=>by
      rw[<-hG,show rpS l k i1 j1=some n from fI_some hget h hno]
     rw[hit]at hfound
     simp only at hfound
     clear hK hK2
     by_cases f1:b1=k
     ·by_cases f2:bi=i1
      ·by_cases f3:bj=j1
       ·have hRn:=hfound (decide_eq_true ⟨f1,f2,f3⟩)
        clear hcont
        simp -implicitDefEqProofs only[push_cast,zz,seval,b87_2,r2,Rb.rc,hml,hni,hi1',hj1',f1,f2,f3]
        repeat refine om_ ?_
        intro X2
        repeat refine om_ ?_
        refine postF.mk' (fun _=>default) [some 0,some 1] ?_
        simp -implicitDefEqProofs only[push_cast,zz,seval,fs87,hRR,hRn]
       ·have hc:=hcont (decide_eq_false fun h=>f3 h.2.2)
        simp -implicitDefEqProofs only[push_cast,zz,seval,b87_2,r2,Rb.rc,hml,hni,hi1',hj1',f1,f2,f3]
        repeat refine om_ ?_
        intro X2
        repeat refine om_ ?_
        refine hc _ _ (Sub.pt ?_)
        simp -implicitDefEqProofs only[push_cast,zz,seval,hi1',hj1']
      ·have hc:=hcont (decide_eq_false fun h=>f2 h.2.1)
       simp -implicitDefEqProofs only[push_cast,zz,seval,b87_2,r2,Rb.rc,hml,hni,hi1',hj1',f1,f2]
       repeat refine om_ ?_
       intro X2
       repeat refine om_ ?_
       refine hc _ _ (Sub.pt ?_)
       simp -implicitDefEqProofs only[push_cast,zz,seval,hi1',hj1']
     ·have hc:=hcont (decide_eq_false fun h=>f1 h.1)
      simp -implicitDefEqProofs only[push_cast,zz,seval,b87_2,r2,Rb.rc,hml,hni,hi1',hj1',f1]
      repeat refine om_ ?_
      intro X2
      repeat refine om_ ?_
      refine hc _ _ (Sub.pt ?_)
      simp -implicitDefEqProofs only[push_cast,zz,seval,hi1',hj1']
    ·have hnl:n=l.length:=by omega
     rw[show rpS l k i1 j1=none from fI_none fun m b hb=>hno m b (by have:=(List.getElem?_eq_some_iff.1 hb).1;omega) hb]at hG
     simp only at hG
     have hnn:¬ (n:Int)<l.length:=by omega
     clear hK2
     simp -implicitDefEqProofs only[push_cast,zz,seval,b87_2,r87_3,hnn]
     repeat refine om_ ?_
     refine hK (k+1,i1,j1) ⟨show k+1<=bs.length by omega,hG,⟨by simp only;omega,by simp only;omega⟩,by simp only;omega,by simp only;omega⟩ (show bs.length-(k+1)<bs.length-k by omega) _ _ (Sub.pt ?_)
     simp -implicitDefEqProofs only[push_cast,zz,seval,hi1',hj1']
   ·rw[if_neg (fun h=>e2 h.2)]at hG
    simp -implicitDefEqProofs only[push_cast,zz,seval,b87_1,r87_3,r1,Bd.rc,hmb,hki,e1,e2]
    intro X1
    repeat refine om_ ?_
    refine hK (k+1,i,j) ⟨show k+1<=bs.length by omega,hG,⟨hi0,hi1⟩,hj0,hj1⟩ (show bs.length-(k+1)<bs.length-k by omega) _ _ (Sub.pt ?_)
    simp -implicitDefEqProofs only[push_cast,zz,seval]
  ·rw[if_neg (fun h=>e1 h.1)]at hG
   simp -implicitDefEqProofs only[push_cast,zz,seval,b87_1,r87_3,r1,Bd.rc,hmb,hki,e1]
   intro X1
   repeat refine om_ ?_
   refine hK (k+1,i,j) ⟨show k+1<=bs.length by omega,hG,⟨hi0,hi1⟩,hj0,hj1⟩ (show bs.length-(k+1)<bs.length-k by omega) _ _ (Sub.pt ?_)
   simp -implicitDefEqProofs only[push_cast,zz,seval]
 ·have hkb:k=bs.length:=by omega
  have hki:¬ (k:Int)<bs.length:=by omega
  rw[hkb,Nat.sub_self,rpG]at hG
  clear hK
  simp -implicitDefEqProofs only[push_cast,zz,seval,b87_1,r87_4,hki]
  refine postF.mk' (fun _=>default) [some 0,some 1] ?_
  simp -implicitDefEqProofs only[push_cast,zz,seval,fs87,hRR,<-hG]
def ent87:Entry:=spOf fs87 invRp
theorem e87:EntryOk Tryz.prog 87 ent87:=entry_of ok87 invRp
@[push_cast] theorem ent87_app (us:List SV) (look:Look) (x:Nat->Xf.Loc) (k:Nat):ent87 us look x k=spOf fs87 invRp us look x k:=rfl
def b51_3:IR:=
 .seq (.seq (r_ [m_ 37 14,f_ 38 12 4,l_ 39 38,o_ 40 (.callp 86 [.t 39]),b_ 41 .lss 37 40] [37,38,39,40]) (.cond (.t 41) (.skip) (.exit 4))) (.seq (.block 5 (.seq (r_ [m_ 44 11,m_ 45 14,m_ 46 13,f_ 47 12 2,l_ 48 47,m_ 49 14,o_ 50 (.bin 0 .mul (Z_ 4) (.t 49)),b_ 51 .add 48 50,f_ 52 12 3,l_ 53 52,m_ 54 13,o_ 55 (.bin 0 .mul (Z_ 4) (.t 54)),b_ 56 .add 53 55,f_ 57 12 4,l_ 58 57,m_ 59 14,o_ 60 (.bin 0 .mul (Z_ 4) (.t 59)),b_ 61 .sub 58 60,o_ 62 (.mn (Z_ 4) (.t 61)),f_ 63 12 5,l_ 64 63,m_ 65 13,o_ 66 (.bin 0 .mul (Z_ 4) (.t 65)),b_ 67 .sub 64 66,o_ 68 (.mn (Z_ 4) (.t 67)),o_ 69 (.build [y_,y_,y_,y_,y_,y_,y_,y_] [(0,1,.t 44),(1,1,.t 45),(2,1,.t 46),(3,1,.t 51),(4,1,.t 56),(5,1,.t 62),(6,1,.t 68)]),o_ 15 (.alloc 15 [y_,y_,y_,y_,y_,y_,y_,y_]),s_ 8 .i64 15 69] [41,44,45,46,47,48,49,50,51,52,53,54,55,56,57,58,59,60,61,62,63,64,65,66,67,68,69]) (.seq (r_ [m_ 70 8,m_ 71 10,m_ 72 11,m_ 73 14,m_ 74 13,o_ 75 (.call (some 4) 16 87 [.t 70,.t 71,.t 72,.t 73,.t 74]),f_ 76 15 7,s_ 1 .i64 76 75] [70,71,72,73,74,75,76]) (r_ [m_ 77 10,o_ 78 (.ld false (some 8) 0 0 (.t 15)),o_ 79 (.brecs 20 8 .i64 [.t 78]),o_ 80 (.app 21 8 64 (.t 77) (.t 79)),m_ 10 80] [15,77,78,79,80])))) (r_ [m_ 42 14,a_ 43 42 1,m_ 14 43] [42,43]))
def r51_4:IR:=
 r_ [m_ 35 13,a_ 36 35 1,m_ 13 36] [14,35,36]
def b51_2:IR:=
 .seq (.seq (r_ [m_ 30 13,f_ 31 12 5,l_ 32 31,o_ 33 (.callp 86 [.t 32]),b_ 34 .lss 30 33] [30,31,32,33]) (.cond (.t 34) (.skip) (.exit 2))) (.seq (.block 3 (.seq (r_ [z_ 14 0] [34]) (.block 4 (.loop b51_3)))) (r51_4))
def r51_5:IR:=
 r_ [a_ 81 25 1,m_ 25 81] [11,12,13,81]
def b51_1:IR:=
 .seq (r_ [b_ 26 .lss 25 24] []) (.seq (.cond (.t 26) (.skip) (.exit 0)) (.seq (.block 1 (.seq (r_ [m_ 27 25,i_ 28 23 25 6,o_ 29 (.ld true (some 6) 0 0 (.t 28)),o_ 12 (.alloc 14 [y_,y_,y_,y_,y_,y_]),m_ 11 27,s_ 6 .i64 12 29] [26,27,28,29]) (.seq (r_ [z_ 13 0] []) (.block 2 (.loop b51_2))))) (r51_5)))
def r51_6:IR:=
 .seq (r_ [m_ 82 8,m_ 83 10,m_ 6 82,m_ 7 83] [8,10,23,24,25,82,83]) (.ret)
def ir51:IR:=
 .seq (r_ [o_ 6 (.mov (.k nilSV)),o_ 7 (.mov (.k nilSV))] [6,7]) (.seq (r_ [m_ 17 0,m_ 18 1,m_ 19 2,o_ 20 (.call (some 4) 10 85 [.t 17,.t 18,.t 19]),m_ 16 20,e_ 21 16 0,e_ 22 16 1,m_ 8 21,m_ 9 22] [0,1,2,9,16,17,18,19,20,21,22]) (.seq (r_ [o_ 10 (.mov (.k nilSV))] []) (.seq (.seq (r_ [m_ 23 8,h_ 24 23,z_ 25 0] []) (.block 0 (.loop b51_1))) (r51_6))))
def kp51_3:List Nat:=[8,10,11,12,13,14,23,24,25]
def kl51_3:List Nat:=[15,16,17,18,19,20,21]
attribute [push_cast] kp51_3 kl51_3
def kp51_2:List Nat:=[8,10,11,12,13,23,24,25]
def kl51_2:List Nat:=[15,16,17,18,19,20,21]
attribute [push_cast] kp51_2 kl51_2
def kp51_1:List Nat:=[8,10,23,24,25]
def kl51_1:List Nat:=[14,15,16,17,18,19,20,21]
attribute [push_cast] kp51_1 kl51_1
set_option maxRecDepth 4000 in
theorem comp51:(Tryz.f51.body.bind fun c=>compC tab isP chkAll ir51 c)=some ir51:=by kernel_rfl
def rbAt (bs:List Bd) (O:List Rb) (k j i:Nat):Rb:=⟨k,i,j,(rdBd bs k).x+4*i,(rdBd bs k).y+4*j,min 4 ((rdBd bs k).w-4*i),min 4 ((rdBd bs k).h-4*j),rpar bs O k i j⟩
def rbRow (bs:List Bd) (O:List Rb) (k j:Nat):Nat->List Rb
 | 0=>O
 | i+1=>rbRow bs O k j i++[rbAt bs (rbRow bs O k j i) k j i]
def rbBand (bs:List Bd) (O:List Rb) (k:Nat):Nat->List Rb
 | 0=>O
 | j+1=>rbRow bs (rbBand bs O k j) k j (colsB (rdBd bs k)).toNat
def rbAll (bs:List Bd):Nat->List Rb
 | 0=>[]
 | k+1=>rbBand bs (rbAll bs k) k (rowsB (rdBd bs k)).toNat
theorem rbRow_len (bs:List Bd) (O:List Rb) (k j:Nat):∀ i,(rbRow bs O k j i).length=O.length+i
 | 0=>rfl
 | i+1=>by rw[rbRow,List.length_append,rbRow_len bs O k j i];rfl
theorem rbBand_len (bs:List Bd) (O:List Rb) (k:Nat):∀ j,(rbBand bs O k j).length=O.length+j*(colsB (rdBd bs k)).toNat
 | 0=>by simp[rbBand]
 | j+1=>by rw[rbBand,rbRow_len,rbBand_len bs O k j,Nat.succ_mul];omega
def rbL (w h n:Int):List Rb:=rbAll (bnL w h n) (bnL w h n).length
theorem rbAll_len {bs:List Bd} (hl:∀ b∈bs,b.ok):∀ k,k<=bs.length->(rbAll bs k).length<=2500*k
 | 0,_=>by simp[rbAll]
 | k+1,hk=>by
  have ih:=rbAll_len hl k (by omega)
  have hb:=bd_cr (hl _ (rdBd_mem (show k<bs.length by omega)))
  rw[rbAll,rbBand_len]
  have:(rowsB (rdBd bs k)).toNat*(colsB (rdBd bs k)).toNat<=50*50:=Nat.mul_le_mul (by omega) (by omega)
  omega
theorem rbAll_bk (W:Int) {bs:List Bd}:∀ k,k<=bs.length->(rbAll bs k).length=(bkFold W (bs.take k)).1.length
 | 0,_=>by simp[rbAll,bkFold]
 | k+1,hk=>by
  rw[rbAll,rbBand_len,bkFold_succ W (by omega),rbAll_bk W k (by omega)]
  unfold bkStep
  simp only[List.length_append,bkBand_len]
theorem rbL_len (w h n:Int):(rbL w h n).length=(bkts w h n).length:=by
 unfold rbL bkts
 rw[rbAll_bk w _ (Nat.le_refl _),List.take_length]
def fs51:FS where
 A:=BnA
 args:=fun a=>[.int .i64 a.w,.int .i64 a.h,.int .i64 a.n]
 mem:=fun _=>[]
 pre:=fun a=>bnOk a.w a.h a.n
 res:=fun a x=>.tup [.sl 0 (lx (0<(bnL a.w a.h a.n).length) x 0) (esz 6 (bnL a.w a.h a.n).length) 0 (bnL a.w a.h a.n).length,.sl 1 (x 1) (esz 8 (rbL a.w a.h a.n).length) 0 (rbL a.w a.h a.n).length]
 out:=fun _ _=>[]
 new:=fun a x=>[(lx (0<(bnL a.w a.h a.n).length) x 0,.recs 6 true [] ((bnL a.w a.h a.n).map Bd.rc)),(x 1,.recs 8 true [] ((rbL a.w a.h a.n).map Rb.rc))]
set_option maxHeartbeats 4000000 in
theorem ok51:FSOk Tryz.prog 51 fs51:=by
 refine⟨⟨_,Tryz.func51,by kernel_rfl,by kernel_rfl⟩,fun a=>⟨by simp[fs51,push_cast,noMine,argOwn,Chunk.frArg],by simp[fs51,push_cast,outOk,Chunk.ext],fun x=>.inl (by simp[fs51,push_cast,frNew,frOut,Chunk.fr])⟩,fun a hp=>?_⟩
 obtain⟨w,h,n⟩:=a
 have hb:bnOk w h n:=hp
 change Tri Tryz.prog 51 [.int .i64 w,.int .i64 h,.int .i64 n] [] (postF fs51 ⟨w,h,n⟩)
 have hin:∀ i:Nat,i<(bnL w h n).length->0<=(rdBd (bnL w h n) i).x/\0<=(rdBd (bnL w h n) i).y/\1<=(rdBd (bnL w h n) i).w/\1<=(rdBd (bnL w h n) i).h/\(rdBd (bnL w h n) i).x+(rdBd (bnL w h n) i).w<=w/\(rdBd (bnL w h n) i).y+(rdBd (bnL w h n) i).h<=h/\-1000<=(rdBd (bnL w h n) i).lv/\(rdBd (bnL w h n) i).lv<=1000:=fun i hi=>bnL_in hb (rdBd_mem hi)
 have hl19:=bnL_le w h n
 obtain⟨q1,q2,q3,q4,q5,q6⟩:=id hb
 have hwfB:bdsWf (bnL w h n):=⟨by omega,fun b hm=>by have:=bnL_in hb hm;unfold Bd.ok;omega⟩
 have hrl:rbL w h n=rbAll (bnL w h n) (bnL w h n).length:=rfl
 have hlx:lx (0<(bnL w h n).length) (fun _=>nilLoc) 0=nilLoc:=by unfold lx;split<;>rfl
 obtain⟨B,hB⟩:∃ B,bnL w h n=B:=⟨_,rfl⟩
 rw[hB]at hin hl19 hwfB hrl
 have hall:=rbAll_len (bs:=B) (fun b hm=>(hwfB.2 b hm).1.1)
 have hBl:(B.map Bd.rc).length=B.length:=List.length_map _
 refine tri_evS (hyp (l:=[(85,ent85),(87,ent87)]) (lp:=[(86,colF)]) ⟨e85,e87,trivial⟩ ⟨p86,trivial⟩) Tryz.func51 comp51 (rs:=[.tmp 6,.tmp 7]) (by rfl) Tryz.ntmps51 22 ?_
 simp -implicitDefEqProofs only[push_cast,zz,seval,ir51,fs85,hB,hb]
 intro X
 repeat refine om_ ?_
 obtain⟨LB,hLB⟩:∃ L,lx (0<B.length) (fun j=>X 3 (10+j)) 0=L:=⟨_,rfl⟩
 have hLB2:∀ M:Xf.Loc,lx (0<B.length) (fun j=>if j=0 then X 3 (10+0)else M) 0=LB:=fun M=>by
  rw[<-hLB];unfold lx;split<;>rfl
 rw[hLB]
 have he6:∀ k:Nat,k<B.length->esz 6 B.length=6:=fun k hk=>esz_pos (by omega)
 refine evS_loopU (A:=Nat×Xf.Loc) kp51_1 kl51_1 (fun y=>[(25,.int .i64 y.1),(10,.sl 11 y.2 (esz 8 (rbAll B y.1).length) 0 (rbAll B y.1).length)]) (fun y=>[(11,.mine,y.2,.recs 8 true [] ((rbAll B y.1).map Rb.rc))])
  (fun y=>y.1<=B.length) (fun y=>B.length-y.1) (0,nilLoc) (Nat.zero_le _) (Sub.of (mkG 22 [(10,10)]) ?_) ?_
 ·have e0:rbAll B 0=[]:=rfl
  simp -implicitDefEqProofs only[push_cast,zz,seval,e0,List.map_nil,List.length_nil,esz]
 intro ⟨k,M⟩ hk K hK
 have hk:k<=B.length:=hk
 by_cases hk':k<B.length
 ·have hki:(k:Int)<B.length:=by omega
  obtain⟨b1,b2,b3,b4,b5,b6,b7,b8⟩:=hin k hk'
  have r1:recAt (k:Int) [] (B.map Bd.rc)=(rdBd B k).rc:=recAt_Bd' (by omega) (by omega) []
  have he6':=he6 k hk'
  have hlen:=hall k hk
  have hstep:rbAll B (k+1)=rbBand B (rbAll B k) k (rowsB (rdBd B k)).toNat:=rfl
  have hbl:=fun j=>rbBand_len B (rbAll B k) k j
  obtain⟨O,hO⟩:∃ O,rbAll B k=O:=⟨_,rfl⟩
  rw[hO]at hlen hstep
  simp only[hO]at hbl
  obtain⟨⟨lv,kd,bx,by',bw,bh⟩,hbb⟩:∃ b,rdBd B k=b:=⟨_,rfl⟩
  have hc1:colsB ⟨lv,kd,bx,by',bw,bh⟩=(bw+4-1) / 4:=rfl
  have hc2:rowsB ⟨lv,kd,bx,by',bw,bh⟩=(bh+4-1) / 4:=rfl
  rw[hbb]at r1 hstep b1 b2 b3 b4 b5 b6 b7 b8
  simp only[hbb]at hbl
  rw[hc2]at hstep
  simp only[hc1]at hbl
  simp only at b1 b2 b3 b4 b5 b6 b7 b8
  obtain⟨C,hC⟩:∃ C:Nat,(bw+4-1) / 4=(C:Int):=⟨((bw+4-1) / 4).toNat,by omega⟩
  obtain⟨R,hR⟩:∃ C:Nat,(bh+4-1) / 4=(C:Int):=⟨((bh+4-1) / 4).toNat,by omega⟩
  rw[hR,Int.toNat_natCast]at hstep
  simp only[hC,Int.toNat_natCast]at hbl
  have hbs:∀ j,rbBand B O k (j+1)=rbRow B (rbBand B O k j) k j C:=fun j=>by rw[rbBand,hbb,hc1,hC,Int.toNat_natCast]
  have hat:∀ (O:List Rb) (j i:Nat),(rbAt B O k j i).rc=[.int .i64 k,.int .i64 i,.int .i64 j,.int .i64 (bx+4*i),.int .i64 (by'+4*j),.int .i64 (min 4 (bw-4*i)),.int .i64 (min 4 (bh-4*j)),.int .i64 (rpar B O k i j)]:=fun O j i=>by unfold rbAt Rb.rc;rw[hbb]
  have hC50:C<=50:=by omega
  have hR50:R<=50:=by omega
  simp -implicitDefEqProofs only[push_cast,zz,seval,b51_1,hki,r1,Bd.rc,hBl,hO,he6']
  intro X1
  repeat refine om_ ?_
  refine evS_loopU (A:=Nat×Xf.Loc) kp51_2 kl51_2 (fun y=>[(13,.int .i64 y.1),(10,.sl 11 y.2 (esz 8 (rbBand B O k y.1).length) 0 (rbBand B O k y.1).length)]) (fun y=>[(11,.mine,y.2,.recs 8 true [] ((rbBand B O k y.1).map Rb.rc))])
   (fun y=>y.1<=R) (fun y=>R-y.1) (0,M) (Nat.zero_le _) (Sub.pt ?_) ?_
  ·have e0:rbBand B O k 0=O:=rfl
   simp -implicitDefEqProofs only[push_cast,zz,seval,e0]
  intro ⟨j,M2⟩ hj K2 hK2
  have hj:j<=R:=hj
  by_cases hj':j<R
  ·have hji:(j:Int)<R:=by omega
   have hl2:=hbl j
   have hs2:=hbs j
   obtain⟨O2,hO2⟩:∃ z,rbBand B O k j=z:=⟨_,rfl⟩
   rw[hO2]at hl2 hs2
   have hm2:j*C<=50*50:=Nat.mul_le_mul (by omega) hC50
   have hrl2:=fun i=>rbRow_len B O2 k j i
   clear hK
   simp -implicitDefEqProofs only[push_cast,zz,seval,b51_2,hji,hR,hO2]
   repeat refine om_ ?_
   refine evS_loopU (A:=Nat×Xf.Loc) kp51_3 kl51_3 (fun y=>[(14,.int .i64 y.1),(10,.sl 11 y.2 (esz 8 (rbRow B O2 k j y.1).length) 0 (rbRow B O2 k j y.1).length)]) (fun y=>[(11,.mine,y.2,.recs 8 true [] ((rbRow B O2 k j y.1).map Rb.rc))])
    (fun y=>y.1<=C) (fun y=>C-y.1) (0,M2) (Nat.zero_le _) (Sub.pt ?_) ?_
   ·have e0:rbRow B O2 k j 0=O2:=rfl
    simp -implicitDefEqProofs only[push_cast,zz,seval,e0]
   intro ⟨i,M3⟩ hi K3 hK3
   have hi:i<=C:=hi
   by_cases hi':i<C
   ·have hii:(i:Int)<C:=by omega
    have hl3:=hrl2 i
    have hs3:rbRow B O2 k j (i+1)=rbRow B O2 k j i++[rbAt B (rbRow B O2 k j i) k j i]:=rfl
    have hat3:=hat (rbRow B O2 k j i) j i
    obtain⟨O3,hO3⟩:∃ O,rbRow B O2 k j i=O:=⟨_,rfl⟩
    rw[hO3]at hl3 hs3 hat3
    have hml3:(O3.map Rb.rc).length=O3.length:=List.length_map _
    have hmap:(rbRow B O2 k j (i+1)).map Rb.rc=O3.map Rb.rc++[[.int .i64 k,.int .i64 i,.int .i64 j,.int .i64 (bx+4*i),.int .i64 (by'+4*j),.int .i64 (min 4 (bw-4*i)),.int .i64 (min 4 (bh-4*j)),.int .i64 (rpar B O3 k i j)]]:=by
     rw[hs3,List.map_append,List.map_cons,List.map_nil,hat3]
    have hl4:(rbRow B O2 k j (i+1)).length=O3.length+1:=by rw[hs3,List.length_append];rfl
    have hes:0<O3.length->esz 8 O3.length=8:=fun h=>esz_pos h
    have he4:esz 8 (O3.length+1)=8:=esz_pos (by omega)
    have hB0:0<B.length:=by omega
    clear hK2
    simp -implicitDefEqProofs only[push_cast,zz,seval,b51_3,hii,hC,hO3,fs87,hwfB,he6',hes,Int.toNat_natCast]
    repeat refine om_ ?_
    intro X2
    repeat refine om_ ?_
    intro X3
    repeat refine om_ ?_
    refine hK3 (i+1,X3 3 21) (show i+1<=C by omega) (show C-(i+1)<C-i by omega) _ _ (Sub.of (mkG 22 [(10,10),(14,14),(11,21)]) ?_)
    simp -implicitDefEqProofs only[push_cast,zz,seval,hmap,hl4,he4]
   ·have hiC:i=C:=by omega
    have hii:¬ (i:Int)<C:=by omega
    clear hK3
    rw[hiC,<-hs2]
    simp -implicitDefEqProofs only[push_cast,zz,seval,b51_3,r51_4,Int.lt_irrefl,hC]
    repeat refine om_ ?_
    refine hK2 (j+1,M3) (show j+1<=R by omega) (show R-(j+1)<R-j by omega) _ _ (Sub.pt ?_)
    simp -implicitDefEqProofs only[push_cast,zz,seval]
  ·have hjR:j=R:=by omega
   have hji:¬ (j:Int)<R:=by omega
   clear hK2
   rw[hjR,<-hstep]
   simp -implicitDefEqProofs only[push_cast,zz,seval,b51_2,r51_5,Int.lt_irrefl,hR]
   repeat refine om_ ?_
   refine hK (k+1,M2) (show k+1<=B.length by omega) (show B.length-(k+1)<B.length-k by omega) _ _ (Sub.pt ?_)
   simp -implicitDefEqProofs only[push_cast,zz,seval,he6']
 ·have hkB:k=B.length:=by omega
  have hki:¬ (k:Int)<B.length:=by omega
  clear hK
  rw[hkB,<-hrl]
  simp -implicitDefEqProofs only[push_cast,zz,seval,b51_1,r51_6,Int.lt_irrefl]
  refine postF.mk' (fun j=>if j=0 then X 3 (10+0)else M) [some 10,some 11] ?_
  simp -implicitDefEqProofs only[push_cast,zz,seval,fs51,hB,hLB2]
def ent51:Entry:=spOf fs51 inv32
theorem e51:EntryOk Tryz.prog 51 ent51:=entry_of ok51 inv32
@[push_cast] theorem ent51_app (us:List SV) (look:Look) (x:Nat->Xf.Loc) (k:Nat):ent51 us look x k=spOf fs51 inv32 us look x k:=rfl
def b57_2:IR:=
 .seq (.seq (r_ [m_ 21 7,f_ 22 3 3,l_ 23 22,f_ 24 3 5,l_ 25 24,b_ 26 .add 23 25,b_ 27 .lss 21 26] [21,22,23,24,25,26]) (.cond (.t 27) (.skip) (.exit 2))) (.seq (.block 3 (.seq (R_ [m_ 30 0,n_ 31 30,f_ 32 31 6,l_ 33 32,m_ 34 6,m_ 35 0,n_ 36 35,f_ 37 36 0,l_ 38 37,b_ 39 .mul 34 38,m_ 40 7,b_ 41 .add 39 40,i_ 42 33 41 1,L_ 43 42,c_ 44 .geq 43 0] [27,30,31,32,33,34,35,36,37,38,39,40,41,42,43]) (.cond (.t 44) (r_ [m_ 45 5,a_ 46 45 1,m_ 5 46] [44,45,46]) (.skip)))) (r_ [m_ 28 7,a_ 29 28 1,m_ 7 29] [28,29,44]))
def r57_3:IR:=
 r_ [m_ 17 6,a_ 18 17 1,m_ 6 18] [7,17,18]
def b57_1:IR:=
 .seq (.seq (r_ [m_ 10 6,f_ 11 3 4,l_ 12 11,f_ 13 3 6,l_ 14 13,b_ 15 .add 12 14,b_ 16 .lss 10 15] [10,11,12,13,14,15]) (.cond (.t 16) (.skip) (.exit 0))) (.seq (.block 1 (.seq (r_ [f_ 19 3 3,l_ 20 19,m_ 7 20] [16,19,20]) (.block 2 (.loop b57_2)))) (r57_3))
def r57_4:IR:=
 .seq (r_ [m_ 47 5,m_ 4 47] [0,3,5,6,47]) (.ret)
def ir57:IR:=
 .seq (r_ [o_ 3 (.box 10 (.t 1)),z_ 4 0] [1,4]) (.seq (r_ [z_ 5 0] []) (.seq (.seq (r_ [f_ 8 3 4,l_ 9 8,m_ 6 9] [8,9]) (.block 0 (.loop b57_1))) (r57_4)))
def kp57_2:List Nat:=[0,3,5,6,7]
def kl57_2:List Nat:=[]
attribute [push_cast] kp57_2 kl57_2
def kp57_1:List Nat:=[0,3,5,6]
def kl57_1:List Nat:=[]
attribute [push_cast] kp57_1 kl57_1
set_option maxRecDepth 4000 in
theorem comp57:(Tryz.f57.body.bind fun c=>compC tab isP chkAll ir57 c)=some ir57:=by kernel_rfl
def ir90:IR:=
 .seq (r_ [o_ 5 (.box 10 (.t 1)),z_ 8 0] [1,8]) (.seq (r_ [z_ 9 0] []) (.seq (.seq (r_ [m_ 10 2,f_ 11 5 2,l_ 12 11,b_ 13 .gtr 10 12] [10,11,12]) (.cond (.t 13) (R_ [m_ 14 9,m_ 15 0,n_ 16 15,f_ 17 16 6,l_ 18 17,m_ 19 3,m_ 20 0,n_ 21 20,f_ 22 21 0,l_ 23 22,b_ 24 .mul 19 23,m_ 25 2,b_ 26 .add 24 25,c_ 27 .sub 26 1,i_ 28 18 27 1,L_ 29 28,c_ 30 .geq 29 0,o_ 31 (.callp 58 [.t 30]),b_ 32 .add 14 31,m_ 9 32] [13,14,15,16,17,18,19,20,21,22,23,24,25,26,27,28,29,30,31,32]) (.skip))) (.seq (.seq (r_ [m_ 33 3,f_ 34 5 3,l_ 35 34,b_ 36 .gtr 33 35] [5,13,33,34,35]) (.cond (.t 36) (R_ [m_ 37 9,m_ 38 0,n_ 39 38,f_ 40 39 6,l_ 41 40,m_ 42 3,c_ 43 .sub 42 1,m_ 44 0,n_ 45 44,f_ 46 45 0,l_ 47 46,b_ 48 .mul 43 47,m_ 49 2,b_ 50 .add 48 49,i_ 51 41 50 1,L_ 52 51,c_ 53 .geq 52 0,o_ 54 (.callp 58 [.t 53]),b_ 55 .add 37 54,m_ 9 55] [0,2,3,36,37,38,39,40,41,42,43,44,45,46,47,48,49,50,51,52,53,54,55]) (.skip))) (.seq (r_ [m_ 56 9,m_ 8 56] [0,2,3,9,36,56]) (.ret)))))
set_option maxRecDepth 4000 in
theorem comp90:(Tryz.f90.body.bind fun c=>compC tab isP chkAll ir90 c)=some ir90:=by kernel_rfl
theorem place_bd {w h c y:Int} (c0:0<=c) (c1:c<w) (y0:0<=y) (y1:y<h) (hw:w<=200) (hh:h<=200):0<=y*w/\y*w+c<w*h/\y*w<=40000/\w<=y*w+w:=by
 have h1:0<=y*w:=Int.mul_nonneg y0 (by omega)
 have h2:y*w<=(h-1)*w:=Int.mul_le_mul_of_nonneg_right (by omega) (by omega)
 have h3:(h-1)*w=w*h-w:=by rw[Int.sub_mul,Int.one_mul,Int.mul_comm]
 have h4:=(mul_bd y0 (show y<=200 by omega) (show 0<=w by omega) hw).2
 exact⟨h1,by omega,by omega,by omega⟩
structure WkL where
 L:Xf.Loc
 B:Xf.Loc
 K:Xf.Loc
 N:Xf.Loc
 M:Xf.Loc
 I:Xf.Loc
 O:Xf.Loc
structure WkS where
 w:Int
 h:Int
 bands:List Bd
 bks:List Rb
 known:List Int
 minus:List Bool
 since:List Int
 ol:Int
def wkV (p:WkL) (s:WkS):List SV:=[.int .i64 s.w,.int .i64 s.h,.sl 1 p.B (esz 6 s.bands.length) 0 s.bands.length,.sl 2 p.K (esz 8 s.bks.length) 0 s.bks.length,.sl 3 p.N 1 0 s.known.length,.sl 4 p.M 1 0 s.minus.length,.sl 5 p.I 1 0 s.since.length,.sl 6 p.O 1 0 s.ol]
def invWk (look:Look) (c:Nat):Option (WkL×WkS×List Nat):=
 match rowC (look c)with
 | some (L,[.int .i64 w,.int .i64 h,.sl a _ _ 0 _,.sl b _ _ 0 _,.sl d _ 1 0 _,.sl e _ 1 0 _,.sl f _ 1 0 _,.sl g O 1 0 ol])=>
  match rowBds look a,rowRb look b,rowI (look d),rowBl (look e),rowI (look f)with
  | some (B,bands),some (K,bks),some (N,.i64,known),some (M,minus),some (I,.i64,since)=>some (⟨L,B,K,N,M,I,O⟩,⟨w,h,bands,bks,known,minus,since,ol⟩,[c,a,b,d,e,f,g])
  | _,_,_,_,_=>none
 | _=>none
attribute [push_cast] invWk
def wkWf (s:WkS):Prop:=0<=s.w/\s.w<=200/\0<=s.h/\s.h<=200/\(s.known.length:Int)=s.w*s.h/\(s.minus.length:Int)=s.w*s.h/\(s.since.length:Int)=s.w*s.h
def Rb.inp (b:Rb) (w h:Int):Prop:=0<=b.x/\0<=b.y/\0<=b.w/\b.w<=4/\0<=b.h/\b.h<=4/\b.x+b.w<=w/\b.y+b.h<=h
def Rb.sv (b:Rb):SV:=.agg [.int .i64 b.band,.int .i64 b.i,.int .i64 b.j,.int .i64 b.x,.int .i64 b.y,.int .i64 b.w,.int .i64 b.h,.int .i64 b.par]
attribute [push_cast] Rb.sv
structure WkA where
 p:WkL
 s:WkS
 b:Rb
def invCo:List SV->Look->Option (WkA×List Nat)
 | [.ptr c _ 0 0 0,.agg [.int .i64 k,.int .i64 i,.int .i64 j,.int .i64 x,.int .i64 y,.int .i64 w,.int .i64 h,.int .i64 par]],look=>match invWk look c with
  | some (p,s,g)=>some (⟨p,s,⟨k,i,j,x,y,w,h,par⟩⟩,g)
  | none=>none
 | _,_=>none
attribute [push_cast] invCo
def ctN (since:List Int) (w x y:Int):Nat->Int
 | 0=>0
 | n+1=>ctN since w x y n+(if 0<=rd since (y*w+(x+n))then 1 else 0)
def ctR (since:List Int) (w x y bw:Int):Nat->Int
 | 0=>0
 | n+1=>ctR since w x y bw n+ctN since w x (y+n) bw.toNat
theorem ctN_bd (since:List Int) (w x y:Int):∀ n:Nat,0<=ctN since w x y n/\ctN since w x y n<=n
 | 0=>by simp[ctN]
 | n+1=>by have:=ctN_bd since w x y n;rw[ctN];split<;>omega
theorem ctR_bd (since:List Int) (w x y bw:Int) (h0:0<=bw) (h:bw<=4):∀ n:Nat,0<=ctR since w x y bw n/\ctR since w x y bw n<=4*n
 | 0=>by simp[ctR]
 | n+1=>by have:=ctR_bd since w x y bw h0 h n;have:=ctN_bd since w x (y+n) bw.toNat;rw[ctR];omega
def cntP (since:List Int) (w:Int) (b:Rb):Int:=ctR since w b.x b.y b.w b.h.toNat
def fs57:FS where
 A:=WkA
 args:=fun a=>[.ptr 0 a.p.L 0 0 0,a.b.sv]
 mem:=fun a=>[some (.ro,a.p.L,.cells (wkV a.p a.s)),none,none,none,none,some (.ro,a.p.I,.ints .i64 a.s.since),none]
 pre:=fun a=>wkWf a.s/\a.b.inp a.s.w a.s.h
 res:=fun a _=>.int .i64 (cntP a.s.since a.s.w a.b)
 out:=fun _ _=>[]
 new:=fun _ _=>[]
set_option maxHeartbeats 1000000 in
theorem ok57:FSOk Tryz.prog 57 fs57:=by
 refine⟨⟨_,Tryz.func57,by kernel_rfl,by kernel_rfl⟩,fun a=>⟨by simp[fs57,push_cast,noMine,argOwn,Chunk.frArg],by simp[fs57,push_cast,outOk,Chunk.ext],fun x=>.inl (by simp[fs57,push_cast,frNew,frOut,Chunk.fr])⟩,fun a hp=>?_⟩
 obtain⟨p,s,⟨k,i,j,x,y,bw,bh,par⟩⟩:=a
 obtain⟨⟨w1,w2,w3,w4,w5,w6,w7⟩,⟨i1,i2,i3,i4,i5,i6,i7,i8⟩⟩:wkWf s/\(0<=x/\0<=y/\0<=bw/\bw<=4/\0<=bh/\bh<=4/\x+bw<=s.w/\y+bh<=s.h):=hp
 change Tri Tryz.prog 57 [.ptr 0 p.L 0 0 0,.agg [.int .i64 k,.int .i64 i,.int .i64 j,.int .i64 x,.int .i64 y,.int .i64 bw,.int .i64 bh,.int .i64 par]] [some (.ro,p.L,.cells (wkV p s)),none,none,none,none,some (.ro,p.I,.ints .i64 s.since),none] (postF fs57 ⟨p,s,⟨k,i,j,x,y,bw,bh,par⟩⟩)
 obtain⟨BW,hBW⟩:∃ n:Nat,bw=n:=⟨bw.toNat,by omega⟩
 obtain⟨BH,hBH⟩:∃ n:Nat,bh=n:=⟨bh.toNat,by omega⟩
 subst hBW hBH
 have hfin:cntP s.since s.w ⟨k,i,j,x,y,BW,BH,par⟩=ctR s.since s.w x y BW BH:=by unfold cntP;rw[Int.toNat_natCast]
 have hR:=ctR_bd s.since s.w x y BW i3 i4
 refine tri_evS (hyp (l:=[]) (lp:=[]) trivial trivial) Tryz.func57 comp57 (rs:=[.tmp 4]) (by rfl) Tryz.ntmps57 11 ?_
 simp -implicitDefEqProofs only[push_cast,zz,seval,ir57,wkV]
 intro X
 obtain⟨M,hM⟩:∃ M,X 0 10=M:=⟨_,rfl⟩
 rw[hM]
 refine evS_loopU (A:=Nat) kp57_1 kl57_1 (fun n=>[(5,.int .i64 (ctR s.since s.w x y BW n)),(6,.int .i64 (y+n))]) (fun _=>[]) (fun n=>n<=BH) (fun n=>BH-n) 0 (Nat.zero_le _) (Sub.pt ?_) ?_
 ·simp -implicitDefEqProofs only[push_cast,zz,seval,ctR]
 intro n hn K hK
 have hn:n<=BH:=hn
 by_cases hn':n<BH
 ·have hc:y+(n:Int)<y+BH:=by omega
  have hRn:=hR n
  have hs:ctR s.since s.w x y BW (n+1)=ctR s.since s.w x y BW n+ctN s.since s.w x (y+n) BW:=by rw[ctR,Int.toNat_natCast]
  have hN:=ctN_bd s.since s.w x (y+n)
  simp -implicitDefEqProofs only[push_cast,zz,seval,b57_1,hc]
  repeat refine om_ ?_
  refine evS_loopU (A:=Nat) kp57_2 kl57_2 (fun m=>[(5,.int .i64 (ctR s.since s.w x y BW n+ctN s.since s.w x (y+n) m)),(7,.int .i64 (x+m))]) (fun _=>[]) (fun m=>m<=BW) (fun m=>BW-m) 0 (Nat.zero_le _) (Sub.pt ?_) ?_
  ·simp -implicitDefEqProofs only[push_cast,zz,seval,ctN]
  intro m hm K2 hK2
  have hm:m<=BW:=hm
  by_cases hm':m<BW
  ·have hc2:x+(m:Int)<x+BW:=by omega
   have hpl:=place_bd (w:=s.w) (h:=s.h) (c:=x+m) (y:=y+n) (by omega) (by omega) (by omega) (by omega) w2 w4
   have hs2:ctN s.since s.w x (y+n) (m+1)=ctN s.since s.w x (y+n) m+(if 0<=rd s.since ((y+n)*s.w+(x+m))then 1 else 0):=rfl
   have hNm:=hN m
   obtain⟨q,hq⟩:∃ q,(y+(n:Int))*s.w=q:=⟨_,rfl⟩
   rw[hq]at hpl hs2
   clear hK
   by_cases h0:0<=rd s.since (q+(x+m))
   ·rw[if_pos h0]at hs2
    simp -implicitDefEqProofs only[push_cast,zz,seval,b57_2,hc2,hq,h0]
    repeat refine om_ ?_
    refine hK2 (m+1) (show m+1<=BW by omega) (show BW-(m+1)<BW-m by omega) _ _ (Sub.pt ?_)
    simp -implicitDefEqProofs only[push_cast,zz,seval,hs2,Int.add_assoc]
   ·rw[if_neg h0]at hs2
    simp -implicitDefEqProofs only[push_cast,zz,seval,b57_2,hc2,hq,h0]
    repeat refine om_ ?_
    refine hK2 (m+1) (show m+1<=BW by omega) (show BW-(m+1)<BW-m by omega) _ _ (Sub.pt ?_)
    simp -implicitDefEqProofs only[push_cast,zz,seval,hs2,Int.add_assoc]
  ·obtain rfl:m=BW:=by omega
   clear hK2
   simp -implicitDefEqProofs only[push_cast,zz,seval,b57_2,r57_3,Int.lt_irrefl]
   repeat refine om_ ?_
   refine hK (n+1) (show n+1<=BH by omega) (show BH-(n+1)<BH-n by omega) _ _ (Sub.pt ?_)
   simp -implicitDefEqProofs only[push_cast,zz,seval,hs,Int.add_assoc]
 ·obtain rfl:n=BH:=by omega
  clear hK
  simp -implicitDefEqProofs only[push_cast,zz,seval,b57_1,r57_4,Int.lt_irrefl]
  repeat refine om_ ?_
  refine postF.mk' (fun _=>default) [some 0,none,none,none,none,some 5,none] ?_
  simp -implicitDefEqProofs only[push_cast,zz,seval,fs57,wkV,hfin]
def ent57:Entry:=spOf fs57 invCo
theorem e57:EntryOk Tryz.prog 57 ent57:=entry_of ok57 invCo
@[push_cast] theorem ent57_app (us:List SV) (look:Look) (x:Nat->Xf.Loc) (k:Nat):ent57 us look x k=spOf fs57 invCo us look x k:=rfl
structure NbA where
 p:WkL
 s:WkS
 b:Bd
 c:Int
 y:Int
def invNb:List SV->Look->Option (NbA×List Nat)
 | [.ptr c _ 0 0 0,.agg [.int .i64 lv,.int .i64 kd,.int .i64 x,.int .i64 y,.int .i64 w,.int .i64 h],.int .i64 i,.int .i64 j],look=>match invWk look c with
  | some (p,s,g)=>some (⟨p,s,⟨lv,kd,x,y,w,h⟩,i,j⟩,g)
  | none=>none
 | _,_=>none
attribute [push_cast] invNb
def nbP (since:List Int) (w:Int) (b:Bd) (c y:Int):Int:=
 (if b.x<c then (if 0<=rd since (y*w+c-1)then 1 else 0)else 0)+(if b.y<y then (if 0<=rd since ((y-1)*w+c)then 1 else 0)else 0)
theorem nbP_bd (since:List Int) (w:Int) (b:Bd) (c y:Int):0<=nbP since w b c y/\nbP since w b c y<=2:=by
 unfold nbP
 split<;>split<;>(try split)<;>(try split)<;>omega
def fs90:FS where
 A:=NbA
 args:=fun a=>[.ptr 0 a.p.L 0 0 0,a.b.sv,.int .i64 a.c,.int .i64 a.y]
 mem:=fun a=>[some (.ro,a.p.L,.cells (wkV a.p a.s)),none,none,none,none,some (.ro,a.p.I,.ints .i64 a.s.since),none]
 pre:=fun a=>wkWf a.s/\0<=a.b.x/\0<=a.b.y/\0<=a.c/\a.c<a.s.w/\0<=a.y/\a.y<a.s.h
 res:=fun a _=>.int .i64 (nbP a.s.since a.s.w a.b a.c a.y)
 out:=fun _ _=>[]
 new:=fun _ _=>[]
set_option maxHeartbeats 1000000 in
theorem ok90:FSOk Tryz.prog 90 fs90:=by
 refine⟨⟨_,Tryz.func90,by kernel_rfl,by kernel_rfl⟩,fun a=>⟨by simp[fs90,push_cast,noMine,argOwn,Chunk.frArg],by simp[fs90,push_cast,outOk,Chunk.ext],fun x=>.inl (by simp[fs90,push_cast,frNew,frOut,Chunk.fr])⟩,fun a hp=>?_⟩
 obtain⟨p,s,⟨lv,kd,x,y,bw,bh⟩,c,r⟩:=a
 obtain⟨⟨w1,w2,w3,w4,w5,w6,w7⟩,i1,i2,i3,i4,i5,i6⟩:wkWf s/\0<=x/\0<=y/\0<=c/\c<s.w/\0<=r/\r<s.h:=hp
 change Tri Tryz.prog 90 [.ptr 0 p.L 0 0 0,.agg [.int .i64 lv,.int .i64 kd,.int .i64 x,.int .i64 y,.int .i64 bw,.int .i64 bh],.int .i64 c,.int .i64 r] [some (.ro,p.L,.cells (wkV p s)),none,none,none,none,some (.ro,p.I,.ints .i64 s.since),none] (postF fs90 ⟨p,s,⟨lv,kd,x,y,bw,bh⟩,c,r⟩)
 have hpl:=place_bd i3 i4 i5 i6 w2 w4
 have hn:nbP s.since s.w ⟨lv,kd,x,y,bw,bh⟩ c r=(if x<c then (if 0<=rd s.since (r*s.w+c-1)then 1 else 0)else 0)+(if y<r then (if 0<=rd s.since ((r-1)*s.w+c)then 1 else 0)else 0):=rfl
 have h10:(1:Int)*1=1:=rfl
 refine tri_evS (hyp (l:=[]) (lp:=[(58,oneF)]) trivial ⟨p58,trivial⟩) Tryz.func90 comp90 (rs:=[.tmp 8]) (by rfl) Tryz.ntmps90 11 ?_
 obtain⟨q,hq⟩:∃ q,r*s.w=q:=⟨_,rfl⟩
 obtain⟨u,hu⟩:∃ u,(r-1)*s.w=u:=⟨_,rfl⟩
 have hu1:u=q-s.w:=by rw[<-hu,<-hq,Int.sub_mul,Int.one_mul]
 rw[hq]at hpl
 rw[hq,hu]at hn
 have hup:y<r->0<=u/\u+c<s.w*s.h/\u<=40000/\r-1<=200:=fun h=>by
  have:=place_bd i3 i4 (show 0<=r-1 by omega) (show r-1<s.h by omega) w2 w4
  rw[hu]at this
  omega
 by_cases ha:x<c
 ·rw[if_pos ha]at hn
  by_cases hb:y<r
  ·rw[if_pos hb]at hn
   have hup:=hup hb
   simp -implicitDefEqProofs only[push_cast,zz,seval,ir90,wkV,hq,hu,ha,hb]
   intro X
   repeat refine om_ ?_
   refine postF.mk' (fun _=>default) [some 0,none,none,none,none,some 5,none] ?_
   simp -implicitDefEqProofs only[push_cast,zz,seval,fs90,wkV,hn]
  ·rw[if_neg hb]at hn
   simp -implicitDefEqProofs only[push_cast,zz,seval,ir90,wkV,hq,hu,ha,hb]
   intro X
   repeat refine om_ ?_
   refine postF.mk' (fun _=>default) [some 0,none,none,none,none,some 5,none] ?_
   simp -implicitDefEqProofs only[push_cast,zz,seval,fs90,wkV,hn]
 ·rw[if_neg ha]at hn
  by_cases hb:y<r
  ·rw[if_pos hb]at hn
   have hup:=hup hb
   simp -implicitDefEqProofs only[push_cast,zz,seval,ir90,wkV,hq,hu,ha,hb]
   intro X
   repeat refine om_ ?_
   refine postF.mk' (fun _=>default) [some 0,none,none,none,none,some 5,none] ?_
   simp -implicitDefEqProofs only[push_cast,zz,seval,fs90,wkV,hn]
  ·rw[if_neg hb]at hn
   simp -implicitDefEqProofs only[push_cast,zz,seval,ir90,wkV,hq,hu,ha,hb]
   intro X
   repeat refine om_ ?_
   refine postF.mk' (fun _=>default) [some 0,none,none,none,none,some 5,none] ?_
   simp -implicitDefEqProofs only[push_cast,zz,seval,fs90,wkV,hn]
def ent90:Entry:=spOf fs90 invNb
theorem e90:EntryOk Tryz.prog 90 ent90:=entry_of ok90 invNb
@[push_cast] theorem ent90_app (us:List SV) (look:Look) (x:Nat->Xf.Loc) (k:Nat):ent90 us look x k=spOf fs90 invNb us look x k:=rfl
def ir59:IR:=
 .seq (r_ [z_ 6 0] [6]) (.seq (.block 0 (.seq (r_ [m_ 10 0,n_ 11 10,f_ 12 11 2,l_ 13 12,c_ 14 .neq 13 0,m_ 9 14] [10,11,12,13,14]) (.cond (.t 9) (.seq (r_ [z_ 6 0] [0,1,2,9]) (.ret)) (.seq (r_ [m_ 16 0,n_ 17 16,f_ 18 17 0,l_ 19 18,o_ 20 (.binN .neq (.t 19) (.k nilP)),m_ 15 20] [9,16,17,18,19,20]) (.cond (.t 15) (.seq (r_ [m_ 21 0,n_ 22 21,f_ 23 22 0,l_ 24 23,m_ 25 1,m_ 26 2,o_ 27 (.call none 10 88 [.t 24,.t 25,.t 26])] [0,1,15,21,22,23,24,25,26,27]) (.seq (r_ [m_ 28 2,m_ 6 28] [2,28]) (.ret))) (.skip)))))) (.seq (r_ [m_ 30 0,n_ 31 30,f_ 32 31 1,l_ 33 32,m_ 34 1,o_ 35 (.call none 14 89 [.t 33,.t 34]),m_ 29 35,e_ 36 29 0,e_ 37 29 1,m_ 7 36,m_ 8 37] [1,2,6,15,29,30,31,32,33,34,35,36,37]) (.seq (.seq (r_ [m_ 38 8,c_ 39 .neq 38 0] [38]) (.cond (.t 39) (.seq (r_ [m_ 40 0,m_ 41 8,n_ 42 40,f_ 43 42 2,s_ 1 .i64 43 41] [0,7,8,39,40,41,42,43]) (.seq (r_ [z_ 6 0] []) (.ret))) (.skip))) (.seq (r_ [m_ 44 7,m_ 6 44] [0,7,8,39,44]) (.ret)))))
set_option maxRecDepth 4000 in
theorem comp59:(Tryz.f59.body.bind fun c=>compC tab isP chkAll ir59 c)=some ir59:=by kernel_rfl
structure BiA where
 LZ:Xf.Loc
 L:Xf.Loc
 LS:Xf.Loc
 LC:Xf.Loc
 d:DeS
 fail:Int
 ctx:Int
 bit:Int
def ir61:IR:=
 .seq (r_ [o_ 14 (.box 20 (.t 5))] [5]) (.seq (r_ [m_ 22 8,m_ 23 0,n_ 24 23,f_ 25 24 0,l_ 26 25,b_ 27 .mul 22 26,m_ 28 7,b_ 29 .add 27 28,m_ 18 29] [22,23,24,25,26,27,28,29]) (.seq (r_ [z_ 19 0,z_ 20 0] []) (.seq (.seq (r_ [m_ 30 4,o_ 31 (.binS .neq (.t 30) (.k nilSV))] [30]) (.cond (.t 31) (R_ [m_ 32 4,m_ 33 18,i_ 34 32 33 1,L_ 35 34,o_ 36 (.callp 53 [.t 35]),m_ 37 3,b_ 38 .shr 36 37,c_ 39 .rem 38 2,m_ 40 4,m_ 41 18,i_ 42 40 41 1,L_ 43 42,c_ 44 .lss 43 0,o_ 45 (.callp 58 [.t 44]),m_ 19 39,m_ 20 45] [4,31,32,33,34,35,36,37,38,39,40,41,42,43,44,45]) (.skip))) (.block 0 (.seq (r_ [m_ 47 0,n_ 48 47,f_ 49 48 6,l_ 50 49,m_ 51 18,i_ 52 50 51 1,L_ 53 52,c_ 54 .geq 53 0,m_ 46 54] [4,31,47,48,49,50,51,52,53,54]) (.cond (.t 46) (.seq (r_ [z_ 21 7] [6,7,8,14,20,46]) (.seq (.seq (r_ [m_ 55 0,n_ 56 55,f_ 57 56 6,l_ 58 57,m_ 59 18,i_ 60 58 59 1,L_ 61 60,m_ 62 2,c_ 63 .sub 62 1,b_ 64 .eql 61 63] [2,55,56,57,58,59,60,61,62,63]) (.cond (.t 64) (r_ [z_ 21 6] [64]) (.skip))) (.regT (.split 3 10 (.split 6 10 (.leaf [0,1,2,3,4,5,6,7,8,9,10,11,12,13,14,15]) (.leaf [0,1,2,3,4,5,7,8,9,10,6,11,12,13,14,15])) (.leaf [0,1,2,4,7,8,9,10,3,5,6,11,12,13,14,15])) [m_ 65 0,n_ 66 65,f_ 67 66 4,⟨some 68,none,⟨[21,22,23,24],[]⟩,.ld false none 0 0 (.t 67)⟩,m_ 69 18,i_ 70 68 69 1,⟨some 71,none,⟨[21,22,23,24],[]⟩,.ld true none 0 0 (.t 70)⟩,m_ 72 1,m_ 73 21,m_ 74 19,o_ 75 (.call none 21 59 [.t 72,.t 73,.t 74]),m_ 76 3,b_ 77 .shl 75 76,b_ 78 .add 71 77,i_ 79 68 69 1,S_ 1 .i64 79 78] [0,1,3,18,19,21,64,65,66,67,68,69,70,71,72,73,74,75,76,77,78,79] []))) (.seq (r_ [m_ 81 6,m_ 80 81] [6,46,81]) (.cond (.t 80) (.seq (r_ [m_ 82 1,m_ 83 0,o_ 84 (.ld false (some 6) 0 0 (.t 14)),m_ 85 7,m_ 86 8,o_ 87 (.call (some 4) 25 90 [.t 83,.t 84,.t 85,.t 86]),o_ 88 (.bin 0 .add (Z_ 8) (.t 87)),m_ 89 19,o_ 90 (.call none 29 59 [.t 82,.t 88,.t 89]),c_ 91 .eql 90 1] [7,8,14,19,80,82,83,84,85,86,87,88,89,90]) (.cond (.t 91) (.seq (R_ [m_ 92 0,n_ 93 92,f_ 94 93 4,l_ 95 94,m_ 96 18,m_ 97 0,n_ 98 97,f_ 99 98 6,l_ 100 99,m_ 101 18,m_ 102 3,o_ 103 (.bin 0 .shl (Z_ 1) (.t 102)),m_ 104 2,i_ 105 95 96 1,S_ 1 .i64 105 103,i_ 106 100 101 1,S_ 1 .i64 106 104] [2,3,91,92,93,94,95,96,97,98,99,100,101,102,103,104,105,106]) (.regT (.split 3 7 (.leaf [0,1,2,3,4,5,6,7,8,9,10]) (.leaf [0,1,2,4,5,6,7,3,8,9,10])) [m_ 107 0,n_ 108 107,f_ 109 108 5,⟨some 110,none,⟨[33,34,35,36],[]⟩,.ld false none 0 0 (.t 109)⟩,m_ 111 18,m_ 112 1,m_ 113 20,o_ 114 (.call none 33 59 [.t 112,Z_ 11,.t 113]),c_ 115 .eql 114 1,i_ 116 110 111 1,S_ 1 .i64 116 115] [0,1,18,20,107,108,109,110,111,112,113,114,115,116] [])) (.skip))) (.skip)))))))))
set_option maxRecDepth 4000 in
theorem comp61:(Tryz.f61.body.bind fun c=>compC tab isP chkAll ir61 c)=some ir61:=by kernel_rfl
structure RwS where
 known:List Int
 minus:List Bool
 since:List Int
 d:DeS
 fail:Int
def rctx (since:List Int) (i n:Int):Int:=if rd since i=n-1 then 6 else 7
structure NrA where
 p:WkL
 s:WkS
 LZ:Xf.Loc
 L:Xf.Loc
 LS:Xf.Loc
 LC:Xf.Loc
 d:DeS
 fail:Int
 n:Int
 t:Int
 b:Bd
 on:Bool
 c:Int
 y:Int
def knB (l:List Int) (B:Int):Prop:=∀ x∈l,0<=x/\x<=B
theorem knB.at {l:List Int} {B:Int} (h:knB l B) {i:Int} (h0:0<=i) (h1:i<l.length):0<=rd l i/\rd l i<=B:=by
 obtain⟨k,rfl⟩:∃ k:Nat,i=k:=⟨i.toNat,by omega⟩
 rw[rd_lt l k (by omega)]
 exact h _ (List.getElem_mem _)
theorem knB.set {l:List Int} {B:Int} (h:knB l B) {i:Nat} {v:Int} (h0:0<=v) (h1:v<=B):knB (l.set i v) B:=fun x hx=>by
 rcases List.mem_or_eq_of_mem_set hx with h2 | h2
 ·exact h x h2
 ·rw[h2];exact⟨h0,h1⟩
theorem knB.mono {l:List Int} {B C:Int} (h:knB l B) (hb:B<=C):knB l C:=fun x hx=>⟨(h x hx).1,Int.le_trans (h x hx).2 hb⟩
def knM:Int:=1000000000000000
def rwSame (a s:RwS):Prop:=a.known.length=s.known.length/\a.minus.length=s.minus.length/\a.since.length=s.since.length/\a.d.st.length=s.d.st.length/\a.d.code=s.d.code/\a.d.kind=s.d.kind
theorem rwSame.refl (s:RwS):rwSame s s:=⟨rfl,rfl,rfl,rfl,rfl,rfl⟩
theorem rwSame.trans {a b c:RwS} (h:rwSame a b) (g:rwSame b c):rwSame a c:=by
 obtain⟨h1,h2,h3,h4,h5,h6⟩:=h
 obtain⟨g1,g2,g3,g4,g5,g6⟩:=g
 exact⟨h1.trans g1,h2.trans g2,h3.trans g3,h4.trans g4,h5.trans g5,h6.trans g6⟩
def rwOk (B:Int) (s:RwS):Prop:=knB s.known B/\s.d.ok/\s.d.st.length=12
theorem rwOk.mono {B C:Int} {s:RwS} (h:rwOk B s) (hb:B<=C):rwOk C s:=⟨h.1.mono hb,h.2⟩
theorem pw_24 {t:Int} (h0:0<=t) (h1:t<=24):(2:Int)^t.toNat<=16777216/\0<(2:Int)^t.toNat:=by
 have a:=Nat.pow_le_pow_right (n:=2) (by decide) (show t.toNat<=24 by omega)
 have b:0<2^t.toNat:=Nat.pow_pos (by decide)
 have e:(2:Int)^t.toNat=((2^t.toNat:Nat):Int):=by simp
 omega
structure RsS where
 s:RwS
 on:List Bool
def aboveP (on:List Bool) (par:Int):Int:=if 0<=par then 1+(if rdB on par then 1 else 0)else 0
def rctxB (since:List Int) (on:List Bool) (w:Int) (b:Rb):Int:=2*aboveP on b.par+(if 0<cntP since w b then 1 else 0)
theorem rctxB_bd (since:List Int) (on:List Bool) (w:Int) (b:Rb):0<=rctxB since on w b/\rctxB since on w b<6:=by
 unfold rctxB aboveP
 split<;>split<;>(try split)<;>omega
def b60_2:IR:=
 .seq (.seq (r_ [m_ 25 10,f_ 26 6 3,l_ 27 26,f_ 28 6 5,l_ 29 28,b_ 30 .add 27 29,b_ 31 .lss 25 30] [25,26,27,28,29,30]) (.cond (.t 31) (.skip) (.exit 2))) (.seq (.block 3 (.seq (r_ [m_ 34 9,m_ 35 0,n_ 36 35,f_ 37 36 0,l_ 38 37,b_ 39 .mul 34 38,m_ 40 10,b_ 41 .add 39 40,m_ 11 41] [31,34,35,36,37,38,39,40,41]) (.seq (r_ [m_ 42 0,n_ 43 42,f_ 44 43 6,l_ 45 44,m_ 46 11,i_ 47 45 46 1,L_ 48 47,c_ 49 .lss 48 0,m_ 50 49,p_ 50 (m_ 51 1),p_ 50 (m_ 52 11),p_ 50 (i_ 53 51 52 1),p_ 50 (L_ 54 53),p_ 50 (o_ 55 (.callp 53 [.t 54])),p_ 50 (m_ 56 3),p_ 50 (b_ 57 .shr 55 56),p_ 50 (c_ 58 .rem 57 2),p_ 50 (c_ 59 .eql 58 1),K_ 60 50 59] [11,42,43,44,45,46,47,48,49,50,51,52,53,54,55,56,57,58,59]) (.cond (.t 60) (.seq (r_ [o_ 8 (.mov (.k (.bool true)))] [0,1,3,6,9,10,60]) (.ret)) (.skip))))) (r_ [m_ 32 10,a_ 33 32 1,m_ 10 33] [8,32,33,60]))
def r60_3:IR:=
 r_ [m_ 21 9,a_ 22 21 1,m_ 9 22] [10,21,22]
def b60_1:IR:=
 .seq (.seq (r_ [m_ 14 9,f_ 15 6 4,l_ 16 15,f_ 17 6 6,l_ 18 17,b_ 19 .add 16 18,b_ 20 .lss 14 19] [14,15,16,17,18,19]) (.cond (.t 20) (.skip) (.exit 0))) (.seq (.block 1 (.seq (r_ [f_ 23 6 3,l_ 24 23,m_ 10 24] [20,23,24]) (.block 2 (.loop b60_2)))) (r60_3))
def r60_4:IR:=
 .seq (r_ [o_ 8 (.mov (.k (.bool false)))] [0,1,3,6,9]) (.ret)
def ir60:IR:=
 .seq (r_ [o_ 6 (.box 10 (.t 2)),o_ 8 (.mov (.k (.bool false)))] [2,8]) (.seq (.seq (r_ [f_ 12 6 4,l_ 13 12,m_ 9 13] [12,13]) (.block 0 (.loop b60_1))) (r60_4))
def kp60_2:List Nat:=[0,1,3,6,9,10]
def kl60_2:List Nat:=[]
attribute [push_cast] kp60_2 kl60_2
def kp60_1:List Nat:=[0,1,3,6,9]
def kl60_1:List Nat:=[]
attribute [push_cast] kp60_1 kl60_1
set_option maxRecDepth 4000 in
theorem comp60:(Tryz.f60.body.bind fun c=>compC tab isP chkAll ir60 c)=some ir60:=by kernel_rfl
def hitB (since f:List Int) (t i:Int):Bool:=decide (rd since i<0/\max (rd f i) (-rd f i) / 2^t.toNat % 2=1)
def becP (since f:List Int) (w t:Int) (b:Rb):Bool:=(List.range b.h.toNat).any fun n=>(List.range b.w.toNat).any fun m=>hitB since f t ((b.y+(n:Nat))*w+(b.x+(m:Nat)))
theorem becP_yes {since f:List Int} {w t:Int} {b:Rb} {n m:Nat} (hn:n<b.h.toNat) (hm:m<b.w.toNat) (h:hitB since f t ((b.y+n)*w+(b.x+m))=true):becP since f w t b=true:=
 List.any_eq_true.2 ⟨n,List.mem_range.2 hn,List.any_eq_true.2 ⟨m,List.mem_range.2 hm,h⟩⟩
theorem becP_no {since f:List Int} {w t:Int} {b:Rb} (h:∀ n m:Nat,n<b.h.toNat->m<b.w.toNat->hitB since f t ((b.y+n)*w+(b.x+m))=false):becP since f w t b=false:=by
 cases e:becP since f w t b with
 | false=>rfl
 | true=>
  obtain⟨n,hn,h1⟩:=List.any_eq_true.1 e
  obtain⟨m,hm,h2⟩:=List.any_eq_true.1 h1
  rw[h n m (List.mem_range.1 hn) (List.mem_range.1 hm)]at h2
  cases h2
structure BsA where
 p:WkL
 s:WkS
 F:Xf.Loc
 f:List Int
 b:Rb
 t:Int
def rowFi (look:Look) (e:Nat):Option (Xf.Loc×List Int):=
 bif e==4096 then some (nilLoc,[])else match rowI (look e)with
  | some (L,.i64,xs)=>some (L,xs)
  | _=>none
def invBs:List SV->Look->Option (BsA×List Nat)
 | [.ptr c _ 0 0 0,.sl e _ 1 0 _,.agg [.int .i64 k,.int .i64 i,.int .i64 j,.int .i64 x,.int .i64 y,.int .i64 w,.int .i64 h,.int .i64 par],.int .i64 t],look=>match invWk look c,rowFi look e with
  | some (p,s,g),some (F,f)=>some (⟨p,s,F,f,⟨k,i,j,x,y,w,h,par⟩,t⟩,g++[e])
  | _,_=>none
 | _,_=>none
attribute [push_cast] rowFi invBs
def fs60:FS where
 A:=BsA
 args:=fun a=>[.ptr 0 a.p.L 0 0 0,.sl 7 a.F 1 0 a.f.length,a.b.sv,.int .i64 a.t]
 mem:=fun a=>[some (.ro,a.p.L,.cells (wkV a.p a.s)),none,none,none,none,some (.ro,a.p.I,.ints .i64 a.s.since),none,some (.ro,a.F,.ints .i64 a.f)]
 pre:=fun a=>wkWf a.s/\a.b.inp a.s.w a.s.h/\ofWf a.f a.f.length/\a.f.length=a.s.since.length/\0<=a.t/\a.t<=30
 res:=fun a _=>.bool (becP a.s.since a.f a.s.w a.t a.b)
 out:=fun _ _=>[]
 new:=fun _ _=>[]
set_option maxHeartbeats 1000000 in
theorem ok60:FSOk Tryz.prog 60 fs60:=by
 refine⟨⟨_,Tryz.func60,by kernel_rfl,by kernel_rfl⟩,fun a=>⟨by simp[fs60,push_cast,noMine,argOwn,Chunk.frArg],by simp[fs60,push_cast,outOk,Chunk.ext],fun x=>.inl (by simp[fs60,push_cast,frNew,frOut,Chunk.fr])⟩,fun a hp=>?_⟩
 obtain⟨p,s,F,f,⟨k,i,j,x,y,bw,bh,par⟩,t⟩:=a
 obtain⟨⟨w1,w2,w3,w4,w5,w6,w7⟩,⟨i1,i2,i3,i4,i5,i6,i7,i8⟩,hf,hfl,t0,t1⟩:wkWf s/\(0<=x/\0<=y/\0<=bw/\bw<=4/\0<=bh/\bh<=4/\x+bw<=s.w/\y+bh<=s.h)/\ofWf f f.length/\f.length=s.since.length/\0<=t/\t<=30:=hp
 change Tri Tryz.prog 60 [.ptr 0 p.L 0 0 0,.sl 7 F 1 0 f.length,.agg [.int .i64 k,.int .i64 i,.int .i64 j,.int .i64 x,.int .i64 y,.int .i64 bw,.int .i64 bh,.int .i64 par],.int .i64 t] [some (.ro,p.L,.cells (wkV p s)),none,none,none,none,some (.ro,p.I,.ints .i64 s.since),none,some (.ro,F,.ints .i64 f)] (postF fs60 ⟨p,s,F,f,⟨k,i,j,x,y,bw,bh,par⟩,t⟩)
 obtain⟨BW,hBW⟩:∃ n:Nat,bw=n:=⟨bw.toNat,by omega⟩
 obtain⟨BH,hBH⟩:∃ n:Nat,bh=n:=⟨bh.toNat,by omega⟩
 subst hBW hBH
 have hyes:=fun n m=>becP_yes (since:=s.since) (f:=f) (w:=s.w) (t:=t) (b:=⟨k,i,j,x,y,BW,BH,par⟩) (n:=n) (m:=m)
 have hno:=becP_no (since:=s.since) (f:=f) (w:=s.w) (t:=t) (b:=⟨k,i,j,x,y,BW,BH,par⟩)
 simp only[Int.toNat_natCast]at hyes hno
 have hb64:=bits_i64
 refine tri_evS (hyp (l:=[]) (lp:=[(53,absF)]) trivial ⟨p53,trivial⟩) Tryz.func60 comp60 (rs:=[.tmp 8]) (by rfl) Tryz.ntmps60 11 ?_
 simp -implicitDefEqProofs only[push_cast,zz,seval,ir60,wkV]
 intro X
 obtain⟨M,hM⟩:∃ M,X 0 10=M:=⟨_,rfl⟩
 rw[hM]
 refine evS_loopU (A:=Nat) kp60_1 kl60_1 (fun n=>[(9,.int .i64 (y+n))]) (fun _=>[]) (fun n=>n<=BH/\∀ n' m:Nat,n'<n->m<BW->hitB s.since f t ((y+n')*s.w+(x+m))=false) (fun n=>BH-n) 0 ⟨Nat.zero_le _,fun n' m h=>by omega⟩ (Sub.pt ?_) ?_
 ·simp -implicitDefEqProofs only[push_cast,zz,seval]
 intro n ⟨(hn:n<=BH),(hall:∀ n' m:Nat,n'<n->m<BW->hitB s.since f t ((y+n')*s.w+(x+m))=false)⟩ K hK
 by_cases hn':n<BH
 ·have hc:y+(n:Int)<y+BH:=by omega
  simp -implicitDefEqProofs only[push_cast,zz,seval,b60_1,hc]
  repeat refine om_ ?_
  refine evS_loopU (A:=Nat) kp60_2 kl60_2 (fun m=>[(10,.int .i64 (x+m))]) (fun _=>[]) (fun m=>m<=BW/\∀ m':Nat,m'<m->hitB s.since f t ((y+n)*s.w+(x+m'))=false) (fun m=>BW-m) 0 ⟨Nat.zero_le _,fun m' h=>by omega⟩ (Sub.pt ?_) ?_
  ·simp -implicitDefEqProofs only[push_cast,zz,seval]
  intro m ⟨(hm:m<=BW),(hall2:∀ m':Nat,m'<m->hitB s.since f t ((y+n)*s.w+(x+m'))=false)⟩ K2 hK2
  by_cases hm':m<BW
  ·have hc2:x+(m:Int)<x+BW:=by omega
   have hpl:=place_bd (w:=s.w) (h:=s.h) (c:=x+m) (y:=y+n) (by omega) (by omega) (by omega) (by omega) w2 w4
   have hv:=hf.at (i:=(y+n)*s.w+(x+m)) (by omega) (by omega)
   have hy:=hyes n m hn' hm'
   have hh:hitB s.since f t ((y+n)*s.w+(x+m))=decide (rd s.since ((y+n)*s.w+(x+m))<0/\max (rd f ((y+n)*s.w+(x+m))) (-rd f ((y+n)*s.w+(x+m))) / 2^t.toNat % 2=1):=rfl
   have hdb:=dig_bd hv.1 hv.2 t.toNat
   have hnx:hitB s.since f t ((y+n)*s.w+(x+m))=false->∀ m':Nat,m'<m+1->hitB s.since f t ((y+n)*s.w+(x+m'))=false:=fun h m' hlt=>by
    by_cases e:m'=m
    ·rw[e];exact h
    ·exact hall2 m' (by omega)
   obtain⟨q,hq⟩:∃ q,(y+(n:Int))*s.w=q:=⟨_,rfl⟩
   rw[hq]at hpl hv hy hh hdb hnx
   clear hK
   by_cases h0:rd s.since (q+(x+m))<0
   ·by_cases h1:max (rd f (q+(x+m))) (-rd f (q+(x+m))) / 2^t.toNat % 2=1
    ·have hy:=hy (by rw[hh];exact decide_eq_true ⟨h0,h1⟩)
     clear hK2
     simp -implicitDefEqProofs only[push_cast,zz,seval,b60_2,hc2,hq,h0,h1]
     repeat refine om_ ?_
     refine postF.mk' (fun _=>default) [some 0,none,none,none,none,some 5,none,some 7] ?_
     simp -implicitDefEqProofs only[push_cast,zz,seval,fs60,wkV,hy]
    ·have hz:=hnx (by rw[hh];exact decide_eq_false (fun h=>h1 h.2))
     simp -implicitDefEqProofs only[push_cast,zz,seval,b60_2,hc2,hq,h0,h1]
     repeat refine om_ ?_
     refine hK2 (m+1) ⟨show m+1<=BW by omega,by rw[hq];exact hz⟩ (show BW-(m+1)<BW-m by omega) _ _ (Sub.pt ?_)
     simp -implicitDefEqProofs only[push_cast,zz,seval,Int.add_assoc]
   ·have hz:=hnx (by rw[hh];exact decide_eq_false (fun h=>h0 h.1))
    simp -implicitDefEqProofs only[push_cast,zz,seval,b60_2,hc2,hq,h0]
    repeat refine om_ ?_
    refine hK2 (m+1) ⟨show m+1<=BW by omega,by rw[hq];exact hz⟩ (show BW-(m+1)<BW-m by omega) _ _ (Sub.pt ?_)
    simp -implicitDefEqProofs only[push_cast,zz,seval,Int.add_assoc]
  ·have hmm:m=BW:=by omega
   have hci:¬ x+(m:Int)<x+BW:=by omega
   clear hK2
   simp -implicitDefEqProofs only[push_cast,zz,seval,b60_2,r60_3,hci]
   repeat refine om_ ?_
   refine hK (n+1) ⟨show n+1<=BH by omega,fun n' m' h1 h2=>?_⟩ (show BH-(n+1)<BH-n by omega) _ _ (Sub.pt ?_)
   ·by_cases e:n'=n
    ·rw[e];exact hall2 m' (by omega)
    ·exact hall n' m' (by omega) h2
   ·simp -implicitDefEqProofs only[push_cast,zz,seval,Int.add_assoc]
 ·have hnn:n=BH:=by omega
  have hci:¬ y+(n:Int)<y+BH:=by omega
  have hz:=hno (fun n' m' h1 h2=>hall n' m' (by omega) h2)
  clear hK
  simp -implicitDefEqProofs only[push_cast,zz,seval,b60_1,r60_4,hci]
  repeat refine om_ ?_
  refine postF.mk' (fun _=>default) [some 0,none,none,none,none,some 5,none,some 7] ?_
  simp -implicitDefEqProofs only[push_cast,zz,seval,fs60,wkV,hz]
def ent60:Entry:=spOf fs60 invBs
theorem e60:EntryOk Tryz.prog 60 ent60:=entry_of ok60 invBs
@[push_cast] theorem ent60_app (us:List SV) (look:Look) (x:Nat->Xf.Loc) (k:Nat):ent60 us look x k=spOf fs60 invBs us look x k:=rfl
def b24_3:IR:=
 .seq (.seq (r_ [m_ 96 15,f_ 97 11 3,l_ 98 97,f_ 99 11 5,l_ 100 99,b_ 101 .add 98 100,b_ 102 .lss 96 101] [96,97,98,99,100,101]) (.cond (.t 102) (.skip) (.exit 4))) (.seq (.block 5 (R_ [m_ 105 0,m_ 106 1,m_ 107 2,m_ 108 3,m_ 109 4,m_ 110 0,n_ 111 110,f_ 112 111 2,l_ 113 112,f_ 114 11 0,l_ 115 114,i_ 116 113 115 6,o_ 117 (.ld true (some 6) 0 0 (.t 116)),m_ 118 0,n_ 119 118,f_ 120 119 7,l_ 121 120,m_ 122 10,i_ 123 121 122 1,L_ 124 123,m_ 125 15,m_ 126 14,o_ 127 (.call none 34 61 [.t 105,.t 106,.t 107,.t 108,.t 109,.t 117,.t 124,.t 125,.t 126])] [102,105,106,107,108,109,110,111,112,113,114,115,116,117,118,119,120,121,122,123,124,125,126,127])) (r_ [m_ 103 15,a_ 104 103 1,m_ 15 104] [103,104]))
def r24_4:IR:=
 r_ [m_ 92 14,a_ 93 92 1,m_ 14 93] [15,92,93]
def b24_2:IR:=
 .seq (.seq (r_ [m_ 85 14,f_ 86 11 4,l_ 87 86,f_ 88 11 6,l_ 89 88,b_ 90 .add 87 89,b_ 91 .lss 85 90] [85,86,87,88,89,90]) (.cond (.t 91) (.skip) (.exit 2))) (.seq (.block 3 (.seq (r_ [f_ 94 11 3,l_ 95 94,m_ 15 95] [91,94,95]) (.block 4 (.loop b24_3)))) (r24_4))
def r24_5:IR:=
 r_ [a_ 128 30 1,m_ 30 128] [10,11,14,128]
def b24_1:IR:=
 .seq (r_ [b_ 31 .lss 30 29] []) (.seq (.cond (.t 31) (.skip) (.exit 0)) (.seq (.block 1 (.seq (r_ [m_ 32 30,i_ 33 28 30 8,o_ 34 (.ld true (some 8) 0 0 (.t 33)),o_ 11 (.alloc 21 [y_,y_,y_,y_,y_,y_,y_,y_]),m_ 10 32,s_ 8 .i64 11 34] [31,32,33,34]) (.seq (r_ [m_ 35 0,o_ 36 (.ld false (some 8) 0 0 (.t 11)),o_ 37 (.call (some 4) 22 57 [.t 35,.t 36]),m_ 12 37] [35,36,37]) (.seq (.seq (r_ [m_ 38 12,f_ 39 11 5,l_ 40 39,f_ 41 11 6,l_ 42 41,b_ 43 .mul 40 42,b_ 44 .lss 38 43] [38,39,40,41,42,43]) (.cond (.t 44) (.seq (r_ [z_ 13 0] [44]) (.seq (.seq (r_ [f_ 45 11 7,l_ 46 45,c_ 47 .geq 46 0] [45,46]) (.cond (.t 47) (R_ [m_ 48 0,n_ 49 48,f_ 50 49 7,l_ 51 50,f_ 52 11 7,l_ 53 52,i_ 54 51 53 1,L_ 55 54,o_ 56 (.callp 58 [.t 55]),o_ 57 (.bin 0 .add (Z_ 1) (.t 56)),m_ 13 57] [47,48,49,50,51,52,53,54,55,56,57]) (.skip))) (.regT (.split 3 22 (.leaf [0,1,2,3,4,5,6,7,8,9,10,11,12,13,14,15,16,17,18,19,20,21,22,23,24,25]) (.leaf [0,1,2,4,5,6,7,8,9,10,11,12,13,14,15,16,17,18,19,20,21,22,3,23,24,25])) [m_ 58 0,n_ 59 58,f_ 60 59 7,⟨some 61,none,⟨[26,27,28,29,30,31,32,33],[]⟩,.ld false none 0 0 (.t 60)⟩,m_ 62 10,m_ 63 1,m_ 64 13,o_ 65 (.bin 0 .mul (Z_ 2) (.t 64)),m_ 66 12,c_ 67 .gtr 66 0,o_ 68 (.callp 58 [.t 67]),b_ 69 .add 65 68,m_ 70 4,o_ 71 (.binS .neq (.t 70) (.k nilSV)),m_ 72 71,p_ 72 (m_ 73 0),p_ 72 (m_ 74 4),p_ 72 (o_ 75 (.ld false (some 8) 0 0 (.t 11))),p_ 72 (m_ 76 3),p_ 72 (o_ 77 (.call (some 4) 26 60 [.t 73,.t 74,.t 75,.t 76])),K_ 78 72 77,o_ 79 (.callp 58 [.t 78]),o_ 80 (.call none 30 59 [.t 63,.t 69,.t 79]),c_ 81 .eql 80 1,i_ 82 61 62 1,S_ 1 .i64 82 81] [12,13,47,58,59,60,61,62,63,64,65,66,67,68,69,70,71,72,73,74,75,76,77,78,79,80,81,82] []))) (.skip))) (.seq (r_ [f_ 83 11 4,l_ 84 83,m_ 14 84] [12,44,83,84]) (.block 2 (.loop b24_2))))))) (r24_5)))
def ir24:IR:=
 .seq (r_ [m_ 16 0,m_ 17 0,n_ 18 17,f_ 19 18 3,l_ 20 19,h_ 21 20,o_ 22 (.mks 20 (.bool false) 1 (.t 21) (.t 21)),n_ 23 16,f_ 24 23 7,s_ 1 .i64 24 22] [16,17,18,19,20,21,22,23,24]) (.seq (r_ [m_ 25 0,n_ 26 25,f_ 27 26 3,l_ 28 27,h_ 29 28,z_ 30 0] [25,26,27]) (.block 0 (.loop b24_1)))
def kp24_3:List Nat:=[0,1,2,3,4,10,11,14,15,28,29,30]
def kl24_3:List Nat:=[34,35,36,37]
attribute [push_cast] kp24_3 kl24_3
def kp24_2:List Nat:=[0,1,2,3,4,10,11,14,28,29,30]
def kl24_2:List Nat:=[34,35,36,37]
attribute [push_cast] kp24_2 kl24_2
def kp24_1:List Nat:=[0,1,2,3,4,28,29,30]
def kl24_1:List Nat:=[21,22,23,24,25,26,27,28,29,30,31,32,33,34,35,36,37]
attribute [push_cast] kp24_1 kl24_1
set_option maxRecDepth 4000 in
theorem comp24:(Tryz.f24.body.bind fun c=>compC tab isP chkAll ir24 c)=some ir24:=by kernel_rfl
structure SrA where
 p:WkL
 s:WkS
 LZ:Xf.Loc
 L:Xf.Loc
 LS:Xf.Loc
 LC:Xf.Loc
 d:DeS
 fail:Int
 n:Int
 t:Int
def wkW (p:WkL) (s:WkS) (o:Nat) (LO:Xf.Loc) (ol:Int):List SV:=[.int .i64 s.w,.int .i64 s.h,.sl 1 p.B (esz 6 s.bands.length) 0 s.bands.length,.sl 2 p.K (esz 8 s.bks.length) 0 s.bks.length,.sl 3 p.N 1 0 s.known.length,.sl 4 p.M 1 0 s.minus.length,.sl 5 p.I 1 0 s.since.length,.sl o LO 1 0 ol]
def bksOk (s:WkS):Prop:=s.bks.length<=50000/\(∀ b∈s.bks,b.inp s.w s.h/\0<=b.band/\b.band<s.bands.length/\b.par<s.bks.length)/\∀ b∈s.bands,0<=b.x/\0<=b.y
def ir21:IR:=
 .seq (r_ [o_ 2 (.alloc 10 [y_,nilSV])] []) (.seq (r_ [m_ 3 0,o_ 4 (.mks 11 (.int .i64 0) 8 (Z_ 12) (Z_ 12)),o_ 5 (.build [y_,nilSV] [(0,1,.t 3),(1,1,.t 4)]),s_ 2 .i64 2 5] [0,3,4,5]) (.ret))
set_option maxRecDepth 4000 in
theorem comp21:(Tryz.f21.body.bind fun c=>compC tab isP chkAll ir21 c)=some ir21:=by kernel_rfl
def b20_1:IR:=
 .seq (r_ [b_ 53 .lss 52 51] []) (.seq (.cond (.t 53) (.skip) (.exit 0)) (.seq (.block 1 (.seq (r_ [m_ 54 52,m_ 8 54] [53,54]) (r_ [m_ 55 7,n_ 56 55,f_ 57 56 6,l_ 58 57,m_ 59 8,i_ 60 58 59 1,O_ (.sto true 1 .i64 (.t 60) (Z_ (-1)))] [8,55,56,57,58,59,60]))) (r_ [a_ 61 52 1,m_ 52 61] [61])))
def r20_2:IR:=
 .seq (r_ [m_ 62 7,m_ 6 62] [7,51,52,62]) (.ret)
def ir20:IR:=
 .seq (r_ [o_ 6 (.mov (.k nilP))] [6]) (.seq (r_ [m_ 9 0,m_ 10 1,o_ 11 (.build [y_,y_,nilSV,nilSV,nilSV,nilSV,nilSV,nilSV] [(0,1,.t 9),(1,1,.t 10)]),o_ 12 (.box 10 (.t 11)),m_ 7 12] [9,10,11,12]) (.seq (r_ [m_ 14 7,m_ 15 7,m_ 16 0,m_ 17 1,m_ 18 2,o_ 19 (.call (some 4) 11 51 [.t 16,.t 17,.t 18]),m_ 13 19,e_ 20 13 0,e_ 21 13 1,n_ 22 14,f_ 23 22 2,s_ 1 .i64 23 20,n_ 24 15,f_ 25 24 3,s_ 1 .i64 25 21] [2,13,14,15,16,17,18,19,20,21,22,23,24,25]) (.seq (R_ [m_ 26 7,m_ 27 7,m_ 28 7,m_ 29 0,m_ 30 1,b_ 31 .mul 29 30,o_ 32 (.mks 15 (.int .i64 0) 8 (.t 31) (.t 31)),m_ 33 0,m_ 34 1,b_ 35 .mul 33 34,o_ 36 (.mks 16 (.bool false) 1 (.t 35) (.t 35)),m_ 37 0,m_ 38 1,b_ 39 .mul 37 38,o_ 40 (.mks 17 (.int .i64 0) 8 (.t 39) (.t 39)),n_ 41 26,f_ 42 41 4,⟨none,none,⟨[16,17],[]⟩,.sto false 1 .i64 (.t 42) (.t 32)⟩,n_ 43 27,f_ 44 43 5,⟨none,none,⟨[17],[]⟩,.sto false 1 .i64 (.t 44) (.t 36)⟩,n_ 45 28,f_ 46 45 6,s_ 1 .i64 46 40] [0,1,26,27,28,29,30,31,32,33,34,35,36,37,38,39,40,41,42,43,44,45,46]) (.seq (.seq (r_ [m_ 47 7,n_ 48 47,f_ 49 48 6,l_ 50 49,h_ 51 50,z_ 52 0] [47,48,49,50]) (.block 0 (.loop b20_1))) (r20_2)))))
def kp20_1:List Nat:=[7,51,52]
def kl20_1:List Nat:=[]
attribute [push_cast] kp20_1 kl20_1
set_option maxRecDepth 4000 in
theorem comp20:(Tryz.f20.body.bind fun c=>compC tab isP chkAll ir20 c)=some ir20:=by kernel_rfl
structure KnA where
 kind:Int
def fs21:FS where
 A:=KnA
 args:=fun a=>[.int .i64 a.kind]
 mem:=fun _=>[]
 pre:=fun _=>True
 res:=fun a x=>.agg [.int .i64 a.kind,.sl 0 (x 0) 1 0 12]
 out:=fun _ _=>[]
 new:=fun a x=>[(x 0,.ints .i64 (List.replicate 12 0))]
def inv21:List SV->Look->Option (KnA×List Nat)
 | [.int .i64 k],look=>some (⟨k⟩,[])
 | _,_=>none
attribute [push_cast] inv21
theorem ok21:FSOk Tryz.prog 21 fs21:=by
 refine⟨⟨_,Tryz.func21,by kernel_rfl,by kernel_rfl⟩,fun a=>⟨by simp[fs21,push_cast,noMine,argOwn,Chunk.frArg],by simp[fs21,push_cast,outOk,Chunk.ext],fun x=>.inl (by simp[fs21,push_cast,frNew,frOut,Chunk.fr])⟩,fun a hp=>?_⟩
 obtain⟨kind⟩:=a
 change Tri Tryz.prog 21 [.int .i64 kind] [] (postF fs21 ⟨kind⟩)
 have h12:(12:Int).toNat=12:=rfl
 refine tri_evS (hyp (l:=[]) (lp:=[]) trivial trivial) Tryz.func21 comp21 (rs:=[.cell 2 (some 2)]) (by rfl) Tryz.ntmps21 12 ?_
 simp -implicitDefEqProofs only[push_cast,zz,seval,ir21,h12]
 intro X X1
 repeat refine om_ ?_
 refine postF.mk' (fun _=>X1 1 11) [some 11] ?_
 simp -implicitDefEqProofs only[push_cast,zz,seval,fs21]
def ent21:Entry:=spOf fs21 inv21
theorem e21:EntryOk Tryz.prog 21 ent21:=entry_of ok21 inv21
@[push_cast] theorem ent21_app (us:List SV) (look:Look) (x:Nat->Xf.Loc) (k:Nat):ent21 us look x k=spOf fs21 inv21 us look x k:=rfl
theorem rep_set {N i:Nat} (h:i<N):(List.replicate i (-1:Int)++List.replicate (N-i) 0).set i (-1)=List.replicate (i+1) (-1)++List.replicate (N-(i+1)) 0:=by
 rw[List.set_append_right _ _ (by simp),List.length_replicate,Nat.sub_self,show N-i=(N-(i+1))+1 by omega,List.replicate_succ,List.set_cons_zero,List.replicate_succ' (n:=i),List.append_assoc]
 rfl
def fs20:FS where
 A:=BnA
 args:=fun a=>[.int .i64 a.w,.int .i64 a.h,.int .i64 a.n]
 mem:=fun _=>[]
 pre:=fun a=>bnOk a.w a.h a.n/\a.w*a.h<=8192
 res:=fun a x=>.ptr 5 (x 5) 0 0 0
 out:=fun _ _=>[]
 new:=fun a x=>[(lx (0<(bnL a.w a.h a.n).length) x 0,.recs 6 true [] ((bnL a.w a.h a.n).map Bd.rc)),(x 1,.recs 8 true [] ((rbL a.w a.h a.n).map Rb.rc)),(x 2,.ints .i64 (List.replicate (a.w*a.h).toNat 0)),(x 3,.bools (List.replicate (a.w*a.h).toNat false)),(x 4,.ints .i64 (List.replicate (a.w*a.h).toNat (-1))),
  (x 5,.cells [.int .i64 a.w,.int .i64 a.h,.sl 0 (lx (0<(bnL a.w a.h a.n).length) x 0) (esz 6 (bnL a.w a.h a.n).length) 0 (bnL a.w a.h a.n).length,.sl 1 (x 1) (esz 8 (rbL a.w a.h a.n).length) 0 (rbL a.w a.h a.n).length,.sl 2 (x 2) 1 0 (a.w*a.h),.sl 3 (x 3) 1 0 (a.w*a.h),.sl 4 (x 4) 1 0 (a.w*a.h),.sl 4096 nilLoc0 1 0 0])]
set_option maxRecDepth 4000 in
set_option maxHeartbeats 2000000 in
theorem ok20:FSOk Tryz.prog 20 fs20:=by
 refine⟨⟨_,Tryz.func20,by kernel_rfl,by kernel_rfl⟩,fun a=>⟨by simp[fs20,push_cast,noMine,argOwn,Chunk.frArg],by simp[fs20,push_cast,outOk,Chunk.ext],fun x=>.inl (by simp[fs20,push_cast,frNew,frOut,Chunk.fr])⟩,fun a hp=>?_⟩
 obtain⟨w,h,n⟩:=a
 obtain⟨hb,hwh⟩:bnOk w h n/\w*h<=8192:=hp
 obtain⟨q1,q2,q3,q4,q5,q6⟩:=id hb
 have hwh0:0<=w*h:=Int.mul_nonneg q3 q5
 change Tri Tryz.prog 20 [.int .i64 w,.int .i64 h,.int .i64 n] [] (postF fs20 ⟨w,h,n⟩)
 obtain⟨N,hN⟩:∃ N:Nat,w*h=(N:Int):=⟨(w*h).toNat,by omega⟩
 rw[hN]at hwh
 obtain⟨BK,hBK⟩:∃ B,rbL w h n=B:=⟨_,rfl⟩
 obtain⟨B,hB⟩:∃ B,bnL w h n=B:=⟨_,rfl⟩
 refine tri_evS (hyp (l:=[(51,ent51)]) (lp:=[]) ⟨e51,trivial⟩ trivial) Tryz.func20 comp20 (rs:=[.tmp 6]) (by rfl) Tryz.ntmps20 18 ?_
 simp -implicitDefEqProofs only[push_cast,zz,seval,ir20,fs51,hb,hB,hBK,hN,Int.toNat_natCast]
 repeat refine om_ ?_
 intro X
 repeat refine om_ ?_
 intro X1
 repeat refine om_ ?_
 intro X2
 repeat refine om_ ?_
 obtain⟨LB,hLB⟩:∃ L,lx (0<B.length) (fun j=>X1 5 (11+j)) 0=L:=⟨_,rfl⟩
 have hLB2:∀ M1 M2 M3 M4 M5:Xf.Loc,lx (0<B.length) (fun j=>if j=0 then X1 5 (11+0)else if j=1 then M1 else if j=2 then M2 else if j=3 then M3 else if j=4 then M4 else M5) 0=LB:=fun _ _ _ _ _=>by
  rw[<-hLB];unfold lx;split<;>rfl
 rw[hLB]
 refine evS_loopU (A:=Nat) kp20_1 kl20_1 (fun i=>[(52,.int .i64 i)]) (fun i=>[(17,.mine,X2 14 17,.ints .i64 (List.replicate i (-1)++List.replicate (N-i) 0))]) (fun i=>i<=N) (fun i=>N-i) 0 (Nat.zero_le _) (Sub.pt ?_) ?_
 ·simp -implicitDefEqProofs only[push_cast,zz,seval,List.replicate_zero,List.nil_append,Nat.sub_zero]
 intro i hi K hK
 have hi:i<=N:=hi
 by_cases hi':i<N
 ·have hii:(i:Int)<N:=by omega
  have hs:=rep_set hi'
  obtain⟨l,hl⟩:∃ l,List.replicate i (-1:Int)++List.replicate (N-i) 0=l:=⟨_,rfl⟩
  have hll:l.length=N:=by rw[<-hl];simp;omega
  rw[hl]at hs
  simp -implicitDefEqProofs only[push_cast,zz,seval,b20_1,hii,hl,hs]
  repeat refine om_ ?_
  refine hK (i+1) (show i+1<=N by omega) (show N-(i+1)<N-i by omega) _ _ (Sub.pt ?_)
  simp -implicitDefEqProofs only[push_cast,zz,seval,hs,Int.toNat_natCast,List.replicate_succ,List.cons_append]
 ·obtain rfl:i=N:=by omega
  clear hK
  simp -implicitDefEqProofs only[push_cast,zz,seval,b20_1,r20_2,Int.lt_irrefl,Nat.sub_self,List.replicate_zero,List.append_nil]
  refine postF.mk' (fun j=>if j=0 then X1 5 (11+0)else if j=1 then X1 5 12 else if j=2 then X2 6 15 else if j=3 then X2 10 16 else if j=4 then X2 14 17 else X 3 10) [some 11,some 12,some 15,some 16,some 17,some 10] ?_
  simp -implicitDefEqProofs only[push_cast,zz,seval,fs20,hB,hBK,hN,hLB2,Int.toNat_natCast]
def ent20:Entry:=spOf fs20 inv32
theorem e20:EntryOk Tryz.prog 20 ent20:=entry_of ok20 inv32
@[push_cast] theorem ent20_app (us:List SV) (look:Look) (x:Nat->Xf.Loc) (k:Nat):ent20 us look x k=spOf fs20 inv32 us look x k:=rfl
theorem rpG_lt (bs:List Bd) (l:List Rb) (b:Bd):∀ (n k:Nat) (i j:Int),rpG bs l b n k i j<(l.length:Int)
 | 0,_,_,_=>by rw[rpG];omega
 | n+1,k,i,j=>by
  rw[rpG]
  split
  ·split
   ·rename_i m hm
    unfold rpS at hm
    have:=(List.findIdx?_eq_some_iff_getElem.1 hm).1
    omega
   ·exact rpG_lt bs l b n _ _ _
  ·exact rpG_lt bs l b n _ _ _
theorem rpar_lt (bs:List Bd) (l:List Rb) (k:Nat) (i j:Int):rpar bs l k i j<(l.length:Int):=by
 unfold rpar
 split
 ·omega
 ·exact rpG_lt _ _ _ _ _ _ _
def rbIn (w h:Int) (nb m:Nat) (b:Rb):Prop:=b.inp w h/\0<=b.band/\b.band<nb/\b.par<m
theorem rbIn.mono {w h:Int} {nb m m':Nat} {b:Rb} (H:rbIn w h nb m b) (hm:m<=m'):rbIn w h nb m' b:=⟨H.1,H.2.1,H.2.2.1,by have:=H.2.2.2;omega⟩
theorem rbRow_in {w h:Int} {bs:List Bd} {k:Nat} (hk:k<bs.length) (hb:0<=(rdBd bs k).x/\0<=(rdBd bs k).y/\1<=(rdBd bs k).w/\1<=(rdBd bs k).h/\(rdBd bs k).x+(rdBd bs k).w<=w/\(rdBd bs k).y+(rdBd bs k).h<=h) (j:Nat) (hj:4*(j:Int)<(rdBd bs k).h) (O:List Rb) (hO:∀ b∈O,rbIn w h bs.length O.length b) :
  ∀ i:Nat,4*(i:Int)<(rdBd bs k).w+4->∀ b∈rbRow bs O k j i,rbIn w h bs.length (rbRow bs O k j i).length b
 | 0,_,b,hm=>hO b hm
 | i+1,hi,b,hm=>by
  rw[rbRow]at hm ⊢
  rw[List.length_append]
  rcases List.mem_append.1 hm with h1 | h1
  ·exact(rbRow_in hk hb j hj O hO i (by omega) b h1).mono (by omega)
  ·rw[List.mem_singleton]at h1
   subst h1
   have hp:=rpar_lt bs (rbRow bs O k j i) k i j
   refine⟨⟨?_,?_,?_,?_,?_,?_,?_,?_⟩,?_,?_,?_⟩<;>simp only[rbAt]<;>omega
theorem rbBand_in {w h:Int} {bs:List Bd} {k:Nat} (hk:k<bs.length) (hb:0<=(rdBd bs k).x/\0<=(rdBd bs k).y/\1<=(rdBd bs k).w/\1<=(rdBd bs k).h/\(rdBd bs k).x+(rdBd bs k).w<=w/\(rdBd bs k).y+(rdBd bs k).h<=h) (O:List Rb) (hO:∀ b∈O,rbIn w h bs.length O.length b) :
  ∀ j:Nat,4*(j:Int)<(rdBd bs k).h+4->∀ b∈rbBand bs O k j,rbIn w h bs.length (rbBand bs O k j).length b
 | 0,_,b,hm=>hO b hm
 | j+1,hj,b,hm=>by
  rw[rbBand]at hm ⊢
  exact rbRow_in hk hb j (by omega) _ (rbBand_in hk hb O hO j (by omega)) _ (by unfold colsB;omega) b hm
theorem rbAll_in {w h:Int} {bs:List Bd} (hb:∀ k,k<bs.length->0<=(rdBd bs k).x/\0<=(rdBd bs k).y/\1<=(rdBd bs k).w/\1<=(rdBd bs k).h/\(rdBd bs k).x+(rdBd bs k).w<=w/\(rdBd bs k).y+(rdBd bs k).h<=h) :
  ∀ k:Nat,k<=bs.length->∀ b∈rbAll bs k,rbIn w h bs.length (rbAll bs k).length b
 | 0,_,b,hm=>by cases hm
 | k+1,hk,b,hm=>by
  rw[rbAll]at hm ⊢
  have hbk:=hb k (by omega)
  exact rbBand_in (by omega) hbk _ (rbAll_in hb k (by omega)) _ (by unfold rowsB;omega) b hm
theorem rbL_ok {w h n:Int} (hb:bnOk w h n):(rbL w h n).length<=50000/\(∀ b∈rbL w h n,b.inp w h/\0<=b.band/\b.band<(bnL w h n).length/\b.par<(rbL w h n).length)/\∀ b∈bnL w h n,0<=b.x/\0<=b.y:=by
 have hl19:=bnL_le w h n
 obtain⟨q1,q2,q3,q4,q5,q6⟩:=id hb
 have hall:=rbAll_len (bs:=bnL w h n) (fun b hm=>by have:=bnL_in hb hm;unfold Bd.ok;omega) (bnL w h n).length (Nat.le_refl _)
 refine⟨by unfold rbL;omega,fun b hm=>?_,fun b hm=>by have:=bnL_in hb hm;omega⟩
 exact rbAll_in (w:=w) (h:=h) (fun k hk=>by have:=bnL_in hb (rdBd_mem hk);omega) _ (Nat.le_refl _) b hm
def mulP (k:Nat) (v:Int):Prop:=∃ q:Nat,v=((q*2^k:Nat):Int)
theorem mulP_half {k:Nat} {v:Int} (h:mulP (k+1) v):mulP k v:=by
 obtain⟨q,rfl⟩:=h
 exact⟨q*2,by rw[Nat.pow_succ,Nat.mul_comm (2^k) 2,Nat.mul_assoc]⟩
theorem mulP_zero (k:Nat):mulP k 0:=⟨0,by simp⟩
theorem mulP_or {k:Nat} {v:Int} (h:mulP (k+1) v):orP v (k:Int)=v+2^(k:Int).toNat/\mulP k (v+2^(k:Int).toNat):=by
 obtain⟨q,rfl⟩:=h
 have e:q*2^(k+1)=(2*q)*2^k:=by rw[Nat.pow_succ,Nat.mul_comm (2^k) 2,<-Nat.mul_assoc,Nat.mul_comm q 2]
 have e2:(((2*q)*2^k:Nat):Int)+2^(k:Int).toNat=(((2*q+1)*2^k:Nat):Int):=by
  rw[Int.toNat_natCast,Nat.add_mul,Nat.one_mul,Int.natCast_add]
  congr 1
 rw[e,e2]
 refine⟨?_,2*q+1,rfl⟩
 rw[orP_nat,or_mul,or_even]
def rl (w:Int) (B:List Int) (n:Int) (k N:Nat) (s:StS) (r:RwS) (l:List Int):Prop:=
 s.w=w/\s.band=B/\r.fail=0/\s.now=n/\r.known=s.size/\r.minus=s.minus/\s.size.length=N/\s.minus.length=N/\s.since.length=N/\r.since.length=N /\
 (∀ i:Nat,i<N->rd r.since i=rd s.since i-1/\0<=rd s.since i/\rd s.since i<=n+1/\(rd s.since i=0->rd s.size i=0)/\mulP k (rd s.size i)) /\
 ∀ i:Nat,(i:Int)∈l->rd s.since i<=n/\mulP (k+1) (rd s.size i)
theorem rl.tail {w:Int} {B:List Int} {n:Int} {k N:Nat} {s:StS} {r:RwS} {p:Int} {l:List Int} (H:rl w B n k N s r (p::l)):rl w B n k N s r l:=by
 obtain⟨a1,a2,a3,a4,a5,a6,a7,a8,a9,a10,a11,a12⟩:=H
 exact⟨a1,a2,a3,a4,a5,a6,a7,a8,a9,a10,a11,fun i hi=>a12 i (List.mem_cons_of_mem _ hi)⟩
theorem rl.upd {w:Int} {B:List Int} {n:Int} {k N p:Nat} {s:StS} {r:RwS} {l:List Int} {v u:Int} {m:Bool} {z:DeS} (H:rl w B n k N s r ((p:Int)::l)) (hp:p<N) (hn:¬ (p:Int)∈l)
  (hu:0<=u/\u<=n+1) (h0:u=0->v=0) (hv:mulP k v) :
  rl w B n k N { s with size:=s.size.set p v,minus:=s.minus.set p m,since:=s.since.set p u } ⟨r.known.set p v,r.minus.set p m,r.since.set p (u-1),z,0⟩ l:=by
 obtain⟨a1,a2,a3,a4,a5,a6,a7,a8,a9,a10,a11,a12⟩:=H
 refine⟨a1,a2,rfl,a4,by simp only[a5],by simp only[a6],by simp only[List.length_set];exact a7,by simp only[List.length_set];exact a8,by simp only[List.length_set];exact a9,by simp only[List.length_set];exact a10,fun i hi=>?_,fun i hi=>?_⟩
 ·simp only
  by_cases e:p=i
  ·subst e
   rw[rd_st_same (by omega),rd_st_same (by omega),rd_st_same (by omega)]
   exact⟨rfl,hu.1,hu.2,h0,hv⟩
  ·rw[rd_st_ne e,rd_st_ne e,rd_st_ne e]
   exact a11 i hi
 ·have e:p≠i:=fun h=>hn (h▸hi)
  simp only
  rw[rd_st_ne e,rd_st_ne e]
  exact a12 i (List.mem_cons_of_mem _ hi)
theorem setB_self {xs:List Bool} {i:Nat} (h:i<xs.length):xs.set i (rdB xs i)=xs:=by
 rw[rdB_lt xs i h];simp
theorem setI_self {xs:List Int} {i:Nat} (h:i<xs.length):xs.set i (rd xs i)=xs:=by
 rw[rd_lt xs i h];simp
def plQ (w:Int) (Q:List (Int×Int)):List Int:=Q.map fun q=>q.1*w+q.2
def nbOk (w:Int) (B:List Int) (bd:Bd) (c y p:Int):Prop:=(0<p % w/\rd B (p-1)=rd B p↔bd.x<c)/\(w<=p/\rd B (p-w)=rd B p↔bd.y<y)
theorem nctx_eq {w:Int} {B:List Int} {n:Int} {k N p:Nat} {s:StS} {r:RwS} {l:List Int} {c y:Int} {bd:Bd} (H:rl w B n k N s r l) (hp:p<N) (h:nbOk w B bd c y p) (hpp:y*w+c=p) (hw:0<=w):nctxP s p=8+nbP r.since w bd c y:=by
 obtain⟨a1,a2,a3,a4,a5,a6,a7,a8,a9,a10,a11,a12⟩:=H
 obtain⟨h1,h2⟩:=h
 have e1:leftP s p↔bd.x<c/\0<=rd r.since (y*w+c-1):=by
  unfold leftP
  rw[a1,a2,<-and_assoc,h1,hpp]
  constructor
  ·rintro⟨g1,g2⟩
   refine⟨g1,?_⟩
   obtain⟨g3,_⟩:=h1.2 g1
   have:0<p:=by
    rcases Nat.eq_zero_or_pos p with h0 | h0
    ·subst h0;simp at g3
    ·exact h0
   have:=(a11 (p-1) (by omega)).1
   rw[show((p-1:Nat):Int)=(p:Int)-1 by omega]at this
   omega
  ·rintro⟨g1,g2⟩
   refine⟨g1,?_⟩
   obtain⟨g3,_⟩:=h1.2 g1
   have:0<p:=by
    rcases Nat.eq_zero_or_pos p with h0 | h0
    ·subst h0;simp at g3
    ·exact h0
   have:=(a11 (p-1) (by omega)).1
   rw[show((p-1:Nat):Int)=(p:Int)-1 by omega]at this
   omega
 have hup:(y-1)*w+c=p-w:=by rw[Int.sub_mul,Int.one_mul];omega
 have e2:upP s p↔bd.y<y/\0<=rd r.since ((y-1)*w+c):=by
  unfold upP
  rw[a1,a2,<-and_assoc,h2,hup]
  constructor
  ·rintro⟨g1,g2⟩
   refine⟨g1,?_⟩
   obtain⟨g3,_⟩:=h2.2 g1
   have:=(a11 ((p:Int)-w).toNat (by omega)).1
   rw[show((((p:Int)-w).toNat:Nat):Int)=(p:Int)-w by omega]at this
   omega
  ·rintro⟨g1,g2⟩
   refine⟨g1,?_⟩
   obtain⟨g3,_⟩:=h2.2 g1
   have:=(a11 ((p:Int)-w).toNat (by omega)).1
   rw[show((((p:Int)-w).toNat:Nat):Int)=(p:Int)-w by omega]at this
   omega
 unfold nctxP nbP
 simp only[e1,e2]
 by_cases x1:bd.x<c<;>by_cases x2:bd.y<y<;>by_cases x3:0<=rd r.since (y*w+c-1)<;>by_cases x4:0<=rd r.since ((y-1)*w+c)<;>simp[x1,x2,x3,x4]
def cRow (x y:Int) (m:Nat):List (Int×Int):=(List.range m).map fun dx=>(y,x+(dx:Nat))
def cRows (x y bw:Int) (m:Nat):List (Int×Int):=(List.range m).flatMap fun dy=>cRow x (y+(dy:Nat)) bw.toNat
def cQ (b:Rb):List (Int×Int):=cRows b.x b.y b.w b.h.toNat
theorem cRow_succ (x y:Int) (m:Nat):cRow x y (m+1)=cRow x y m++[(y,x+(m:Nat))]:=by
 unfold cRow;rw[List.range_succ,List.map_append];rfl
theorem cRows_succ (x y bw:Int) (m:Nat):cRows x y bw (m+1)=cRows x y bw m++cRow x (y+(m:Nat)) bw.toNat:=by
 unfold cRows;rw[List.range_succ,List.flatMap_append];simp
theorem plQ_app (w:Int) (Q R:List (Int×Int)):plQ w (Q++R)=plQ w Q++plQ w R:=List.map_append
def sigP (since:List Int) (p:Int):Bool:=decide (0<=rd since p)
theorem ctN_Q (since:List Int) (w x y:Int):∀ m,ctN since w x y m=(((plQ w (cRow x y m)).countP (sigP since):Nat):Int)
 | 0=>rfl
 | m+1=>by
  rw[ctN,cRow_succ,plQ_app,List.countP_append,ctN_Q since w x y m]
  have e:(plQ w [(y,x+(m:Nat))]).countP (sigP since)=if 0<=rd since (y*w+(x+(m:Nat)))then 1 else 0:=by
   unfold plQ sigP
   by_cases h:0<=rd since (y*w+(x+(m:Nat)))<;>simp[h]
  rw[e]
  split<;>simp
theorem ctR_Q (since:List Int) (w x y bw:Int):∀ m,ctR since w x y bw m=(((plQ w (cRows x y bw m)).countP (sigP since):Nat):Int)
 | 0=>rfl
 | m+1=>by
  rw[ctR,cRows_succ,plQ_app,List.countP_append,ctR_Q since w x y bw m,ctN_Q]
  simp
theorem cntP_Q (since:List Int) (w:Int) (b:Rb):cntP since w b=(((plQ w (cQ b)).countP (sigP since):Nat):Int):=ctR_Q _ _ _ _ _ _
theorem cRows_len (x y bw:Int):∀ m,(cRows x y bw m).length=m*bw.toNat
 | 0=>by simp[cRows]
 | m+1=>by rw[cRows_succ,List.length_append,cRows_len x y bw m,Nat.succ_mul];simp[cRow]
theorem cQ_len {w:Int} {b:Rb} (h0:0<=b.w) (h1:0<=b.h):(((plQ w (cQ b)).length:Nat):Int)=b.w*b.h:=by
 unfold plQ cQ
 rw[List.length_map,cRows_len,Int.natCast_mul,Int.mul_comm]
 rw[show((b.w.toNat:Nat):Int)=b.w by omega,show((b.h.toNat:Nat):Int)=b.h by omega]
theorem mem_cRow {x y:Int} {m:Nat} {q:Int×Int}:q∈cRow x y m↔q.1=y/\x<=q.2/\q.2<x+m:=by
 unfold cRow
 rw[List.mem_map]
 constructor
 ·rintro⟨i,hi,rfl⟩
  have:=List.mem_range.1 hi
  exact⟨rfl,show x<=x+(i:Int) by omega,show x+(i:Int)<x+(m:Int) by omega⟩
 ·rintro⟨h1,h2,h3⟩
  refine⟨(q.2-x).toNat,List.mem_range.2 (by omega),?_⟩
  rw[<-h1]
  exact Prod.ext rfl (by simp only;omega)
def sameB (w:Int) (b:Rb) (B:Pb) (i:Nat):Prop:=B.places=plQ w (cQ b)/\B.parent=b.par/\b.par<i/\0<=b.w/\0<=b.h
def onR (w:Int) (bks:List Rb) (i:Nat) (s:StS) (on:List Bool):Prop:=
 s.list.length=bks.length/\on.length=bks.length/\(∀ j,j<i->rdB on j=(rdBk s.list j).on)/\(∀ j,i<=j->j<bks.length->rdB on j=false)/\∀ j,j<bks.length->sameB w (rdRb bks j) (rdBk s.list j).b j
theorem old_sig {w:Int} {B:List Int} {n:Int} {k N:Nat} {s:StS} {r:RwS} {l:List Int} {p:Int} (H:rl w B n k N s r l) (hp:0<=p/\p<N) (hm:p∈l):oldP s p↔0<=rd r.since p:=by
 obtain⟨a1,a2,a3,a4,a5,a6,a7,a8,a9,a10,a11,a12⟩:=H
 obtain⟨i,rfl⟩:∃ i:Nat,p=i:=⟨p.toNat,by omega⟩
 obtain⟨b1,b2,b3,b4,b5⟩:=a11 i (by omega)
 obtain⟨c1,c2⟩:=a12 i hm
 unfold oldP
 rw[a4,b1]
 omega
theorem onR.set {w:Int} {bks:List Rb} {i:Nat} {s s':StS} {on:List Bool} {v:Bool} (H:onR w bks i s on) (hi:i<bks.length) (hl:s'.list=onBk s.list i v):onR w bks (i+1) s' (on.set i v):=by
 obtain⟨h1,h2,h3,h4,h5⟩:=H
 refine⟨by rw[hl,onBk_len,h1],by rw[List.length_set,h2],fun j hj=>?_,fun j hj hj2=>?_,fun j hj=>?_⟩
 ·rw[hl]
  by_cases e:i=j
  ·subst e
   rw[rdB_st_same (by omega),onBk_at (by omega)]
  ·rw[rdB_st_ne e,onBk_ne e]
   exact h3 j (by omega)
 ·rw[rdB_st_ne (by omega)]
  exact h4 j (by omega) hj2
 ·rw[hl]
  by_cases e:i=j
  ·subst e
   rw[onBk_at (by omega)]
   exact h5 i hi
  ·rw[onBk_ne e]
   exact h5 j hj
theorem ab_eq {w:Int} {bks:List Rb} {i:Nat} {s:StS} {on:List Bool} {q:Int} {v:Bool} (H:onR w bks i s on) (hq:q<i):abP (setOn s i v) q=aboveP on q:=by
 obtain⟨h1,h2,h3,h4,h5⟩:=H
 unfold abP aboveP
 by_cases h:0<=q
 ·rw[if_pos h,if_pos h]
  have e:(rdBk (setOn s i v).list q.toNat).on=rdB on q:=by
   show(rdBk (onBk s.list i v) q.toNat).on=_
   rw[onBk_ne (by omega),<-h3 q.toNat (by omega),show((q.toNat:Nat):Int)=q by omega]
  rw[e]
  split<;>rfl
 ·rw[if_neg h,if_neg h]
def plB (w:Int) (l:List Rb):List Int:=l.flatMap fun b=>plQ w (cQ b)
def listOk (w:Int) (B:List Int) (N:Nat) (bands:List Bd) (bks:List Rb):Prop:=
 (plB w bks).Nodup/\∀ b∈bks,∀ q∈cQ b,0<=q.1*w+q.2/\q.1*w+q.2<N/\nbOk w B (rdBd bands b.band) q.2 q.1 (q.1*w+q.2)
theorem pls_kind {β:Type} (bit:β->Int->Bool->Bool×Int×β) (f:List Int) (t:Int) (on:Bool):∀ (l:List Int) (s:StS) (x:β),(plsG bit f t on l s x).1.kind=s.kind
 | [],s,x=>rfl
 | i::l,s,x=>by
  have h:=(numG_same bit s x i t on (digP f i t) (decide (rd f i<0))).2.2.2.2.2.1
  rw[plsG]
  split
  ·rw[pls_kind bit f t on l,h]
  ·exact h
theorem bkt_kind {β:Type} (bit:β->Int->Bool->Bool×Int×β) (f:List Int) (t:Int) (i:Nat) (s:StS) (x:β):(bktG bit f t i s x).1.kind=s.kind:=by
 unfold bktG
 split
 ·rw[pls_kind];rfl
 ·split
  ·rw[pls_kind];rfl
  ·rfl
theorem slc_kind {β:Type} (bit:β->Int->Bool->Bool×Int×β) (f:List Int) (t:Int):∀ (k i:Nat) (s:StS) (x:β),(slcG bit f t k i s x).1.kind=s.kind
 | 0,i,s,x=>rfl
 | k+1,i,s,x=>by
  rw[slcG]
  split
  ·rw[slc_kind bit f t k,bkt_kind]
  ·exact bkt_kind bit f t i s x
def rl0 (w:Int) (B:List Int) (n:Int) (K N:Nat) (bks:List Rb) (s:StS) (r:RwS):Prop:=
 s.w=w/\s.band=B/\r.fail=0/\s.now=n/\r.known=s.size/\r.minus=s.minus/\s.size.length=N/\s.minus.length=N/\s.since.length=N/\r.since.length=N /\
 (∀ i:Nat,i<N->rd r.since i=rd s.since i-1/\0<=rd s.since i/\rd s.since i<=n/\(rd s.since i=0->rd s.size i=0)/\mulP K (rd s.size i)) /\
 s.kind=r.d.kind/\s.list.length=bks.length/\∀ j,j<bks.length->sameB w (rdRb bks j) (rdBk s.list j).b j
theorem fI_snoc {α:Type} (l:List α) (x:α) (p:α->Bool):(l++[x]).findIdx? p=(l.findIdx? p).or (if p x=true then some l.length else none):=by
 rw[List.findIdx?_append]
 cases h:l.findIdx? p<;>by_cases e:p x=true<;>simp[List.findIdx?_cons,e]
theorem rps_row (bs:List Bd) (O:List Rb) (k j a I J:Nat):∀ n,rpS (rbRow bs O k j n) a I J=(rpS O a I J).or (if k=a/\J=j/\I<n then some (O.length+I)else none)
 | 0=>by simp[rbRow]
 | n+1=>by
  have ih:=rps_row bs O k j a I J n
  have hl:=rbRow_len bs O k j n
  have hh:hitR a I J (rbAt bs (rbRow bs O k j n) k j n)=decide (k=a/\n=I/\j=J):=by
   unfold hitR rbAt
   simp only
   rw[decide_eq_decide]
   omega
  rw[rbRow]
  unfold rpS at ih ⊢
  rw[fI_snoc,ih,hh,hl,Option.or_assoc]
  congr 1
  by_cases c1:k=a/\J=j/\I<n
  ·rw[if_pos c1,Option.some_or,if_pos ⟨c1.1,c1.2.1,by omega⟩]
  ·rw[if_neg c1]
   by_cases c2:k=a/\n=I/\j=J
   ·rw[if_pos (decide_eq_true c2),if_pos ⟨c2.1,c2.2.2.symm,by omega⟩,c2.2.1];rfl
   ·rw[if_neg (by rw[decide_eq_true_eq];exact c2),if_neg (by omega)];rfl
theorem rps_band (bs:List Bd) (O:List Rb) (k a I J:Nat):∀ m,rpS (rbBand bs O k m) a I J=(rpS O a I J).or (if k=a/\J<m/\I<(colsB (rdBd bs k)).toNat then some (O.length+J*(colsB (rdBd bs k)).toNat+I)else none)
 | 0=>by simp[rbBand]
 | m+1=>by
  rw[rbBand,rps_row,rps_band bs O k a I J m,rbBand_len,Option.or_assoc]
  congr 1
  by_cases c1:k=a/\J<m/\I<(colsB (rdBd bs k)).toNat
  ·rw[if_pos c1,Option.some_or,if_pos ⟨c1.1,by omega,c1.2.2⟩]
  ·rw[if_neg c1]
   by_cases c2:k=a/\J=m/\I<(colsB (rdBd bs k)).toNat
   ·rw[if_pos c2,if_pos ⟨c2.1,by omega,c2.2.2⟩,c2.2.1];rfl
   ·rw[if_neg c2,if_neg (by omega)];rfl
theorem rps_all (bs:List Bd) (a I J:Nat):∀ K,rpS (rbAll bs K) a I J=if a<K/\J<(rowsB (rdBd bs a)).toNat/\I<(colsB (rdBd bs a)).toNat then some ((rbAll bs a).length+J*(colsB (rdBd bs a)).toNat+I)else none
 | 0=>by simp[rbAll,rpS]
 | K+1=>by
  rw[rbAll,rps_band,rps_all bs a I J K]
  by_cases c1:a<K/\J<(rowsB (rdBd bs a)).toNat/\I<(colsB (rdBd bs a)).toNat
  ·rw[if_pos c1,Option.some_or,if_pos ⟨by omega,c1.2⟩]
  ·rw[if_neg c1]
   by_cases c2:K=a
   ·subst c2
    by_cases c3:J<(rowsB (rdBd bs K)).toNat/\I<(colsB (rdBd bs K)).toNat
    ·rw[if_pos ⟨rfl,c3⟩,if_pos ⟨by omega,c3⟩];rfl
    ·rw[if_neg (fun h=>c3 h.2),if_neg (fun h=>c3 h.2)];rfl
   ·rw[if_neg (fun h=>c2 h.1),if_neg (fun h=>c1 ⟨by omega,h.2⟩)];rfl
def rbTo (bs:List Bd) (k j i:Nat):List Rb:=rbRow bs (rbBand bs (rbAll bs k) k j) k j i
theorem rbTo_lt {bs:List Bd} {k j i a I J:Nat} (ha:a<k) (hJ:J<(rowsB (rdBd bs a)).toNat) (hI:I<(colsB (rdBd bs a)).toNat):rpS (rbTo bs k j i) a I J=some ((rbAll bs a).length+J*(colsB (rdBd bs a)).toNat+I):=by
 unfold rbTo
 rw[rps_row,rps_band,rps_all,if_pos ⟨ha,hJ,hI⟩];rfl
theorem rbRow_mem {bs:List Bd} {O:List Rb} {k j:Nat} {b:Rb}:∀ {n:Nat},b∈rbRow bs O k j n->b∈O∨∃ i,i<n/\b=rbAt bs (rbRow bs O k j i) k j i
 | 0,h=>.inl h
 | n+1,h=>by
  rw[rbRow]at h
  rcases List.mem_append.1 h with h | h
  ·rcases rbRow_mem h with h | ⟨i,hi,e⟩
   ·exact .inl h
   ·exact .inr ⟨i,by omega,e⟩
  ·exact .inr ⟨n,by omega,List.mem_singleton.1 h⟩
theorem rbBand_mem {bs:List Bd} {O:List Rb} {k:Nat} {b:Rb}:∀ {m:Nat},b∈rbBand bs O k m->b∈O∨∃ j i,j<m/\i<(colsB (rdBd bs k)).toNat/\b=rbAt bs (rbRow bs (rbBand bs O k j) k j i) k j i
 | 0,h=>.inl h
 | m+1,h=>by
  rw[rbBand]at h
  rcases rbRow_mem h with h | ⟨i,hi,e⟩
  ·rcases rbBand_mem h with h | ⟨j,i,hj,hi,e⟩
   ·exact .inl h
   ·exact .inr ⟨j,i,by omega,hi,e⟩
  ·exact .inr ⟨m,i,by omega,hi,e⟩
theorem rbAll_mem {bs:List Bd} {b:Rb}:∀ {K:Nat},b∈rbAll bs K->∃ k j i,k<K/\j<(rowsB (rdBd bs k)).toNat/\i<(colsB (rdBd bs k)).toNat/\b=rbAt bs (rbTo bs k j i) k j i
 | 0,h=>by cases h
 | K+1,h=>by
  rw[rbAll]at h
  rcases rbBand_mem h with h | ⟨j,i,hj,hi,e⟩
  ·obtain⟨k,j,i,h1,h2⟩:=rbAll_mem h
   exact⟨k,j,i,by omega,h2⟩
  ·exact⟨K,j,i,by omega,hj,hi,e⟩
theorem rbTo_mem {bs:List Bd} {k j i:Nat} {b:Rb} (h:b∈rbTo bs k j i):b.band<=k:=by
 unfold rbTo at h
 rcases rbRow_mem h with h | ⟨i,hi,e⟩
 ·rcases rbBand_mem h with h | ⟨j,i,hj,hi,e⟩
  ·obtain⟨k',j,i,h1,h2,h3,e⟩:=rbAll_mem h
   rw[e];simp only[rbAt];omega
  ·rw[e];simp only[rbAt];omega
 ·rw[e];simp only[rbAt];omega
theorem rpG_late {bs:List Bd} {k j0 i0:Nat}:∀ (n k0:Nat) (i j:Int),k<=k0->rpG bs (rbTo bs k j0 i0) (rdBd bs k) n k0 i j=-1
 | 0,_,_,_,_=>rfl
 | n+1,k0,i,j,h=>by
  rw[rpG]
  split
  ·rename_i hm
   have hne:k≠k0:=fun e=>by rw[e]at hm;have:=hm.2;omega
   have e:∀ I J:Int,rpS (rbTo bs k j0 i0) k0 I J=none:=fun I J=>by
    refine fI_none fun m b hb=>?_
    have:=rbTo_mem (List.mem_of_getElem? hb)
    unfold hitR
    rw[decide_eq_false_iff_not]
    omega
   rw[e]
   exact rpG_late n (k0+1) _ _ (by omega)
  ·exact rpG_late n (k0+1) _ _ (by omega)
theorem gr_at (W:Int) {bs:List Bd}:∀ k,k<=bs.length->(bkFold W (bs.take k)).2.length=k/\∀ m,m<k->rdGr (bkFold W (bs.take k)).2 m=⟨rdBd bs m,(rbAll bs m).length⟩
 | 0,_=>⟨by simp[bkFold],fun m h=>by omega⟩
 | k+1,hk=>by
  obtain⟨h1,h2⟩:=gr_at W (bs:=bs) k (by omega)
  have e:(bkFold W (bs.take (k+1))).2=(bkFold W (bs.take k)).2++[⟨rdBd bs k,(bkFold W (bs.take k)).1.length⟩]:=by rw[bkFold_succ W (by omega)];rfl
  rw[e]
  refine⟨by rw[List.length_append,h1];rfl,fun m hm=>?_⟩
  by_cases c:m=k
  ·subst c
   unfold rdGr
   rw[List.getD_eq_getElem?_getD,List.getElem?_append_right (by omega),h1,Nat.sub_self,<-rbAll_bk W (bs:=bs) m (by omega)];rfl
  ·have:=h2 m (by omega)
   unfold rdGr at this ⊢
   rw[List.getD_eq_getElem?_getD,List.getElem?_append_left (by omega),<-List.getD_eq_getElem?_getD]
   exact this
theorem rpG_eq (W:Int) {bs:List Bd} {k j i:Nat} (hk:k<bs.length) (hb:∀ m,m<bs.length->1<=(rdBd bs m).w/\1<=(rdBd bs m).h) (h0:(rdBd bs k).kd≠0):∀ (n k0:Nat),k0<=k->k0+n=bs.length->(∀ m,m<k0->¬ hitG (rdGr (bkFold W (bs.take k)).2 m) (rdBd bs k)) ->
  rpG bs (rbTo bs k j i) (rdBd bs k) n k0 i j=parP (bkFold W (bs.take k)).2 (findG (bkFold W (bs.take k)).2 (rdBd bs k)) j i
 | 0,k0,h1,h2,h3=>by omega
 | n+1,k0,h1,h2,h3=>by
  obtain⟨g1,g2⟩:=gr_at W k (by omega:k<=bs.length)
  by_cases e:k0=k
  ·subst e
   rw[rpG_late _ _ _ _ (Nat.le_refl _),findG_none (fun m hm=>h3 m (by omega))]
   rfl
  ·have hlt:k0<k:=by omega
   have hg:=g2 k0 hlt
   rw[rpG]
   by_cases hm:(rdBd bs k0).kd=(rdBd bs k).kd/\(rdBd bs k0).lv=(rdBd bs k).lv+1
   ·rw[if_pos hm]
    obtain⟨b1,b2⟩:=hb k0 (by omega)
    obtain⟨I,hI⟩:∃ I:Nat,min ((i:Int) / 2) (colsB (rdBd bs k0)-1)=I:=⟨(min ((i:Int) / 2) (colsB (rdBd bs k0)-1)).toNat,by unfold colsB;omega⟩
    obtain⟨J,hJ⟩:∃ J:Nat,min ((j:Int) / 2) (rowsB (rdBd bs k0)-1)=J:=⟨(min ((j:Int) / 2) (rowsB (rdBd bs k0)-1)).toNat,by unfold rowsB;omega⟩
    rw[hI,hJ,rbTo_lt hlt (by omega) (by omega)]
    have hf:findG (bkFold W (bs.take k)).2 (rdBd bs k)=some k0:=findG_some (by omega) (by rw[hg];exact⟨h0,hm.1,hm.2⟩) (fun m h=>h3 m h)
    rw[hf]
    unfold parP
    simp only[hg,hI,hJ]
    rw[Int.natCast_add,Int.natCast_add,Int.natCast_mul,show(((colsB (rdBd bs k0)).toNat:Nat):Int)=colsB (rdBd bs k0) by omega]
   ·rw[if_neg hm]
    refine rpG_eq W hk hb h0 n (k0+1) (by omega) (by omega) fun m h=>?_
    by_cases c:m=k0
    ·subst c
     rw[hg]
     exact fun H=>hm ⟨H.2.1,H.2.2⟩
    ·exact h3 m (by omega)
theorem rpar_eq (W:Int) {bs:List Bd} {k:Nat} (j i:Nat) (hk:k<bs.length) (hb:∀ m,m<bs.length->1<=(rdBd bs m).w/\1<=(rdBd bs m).h):rpar bs (rbTo bs k j i) k i j=parP (bkFold W (bs.take k)).2 (findG (bkFold W (bs.take k)).2 (rdBd bs k)) j i:=by
 unfold rpar
 by_cases h0:(rdBd bs k).kd=0
 ·rw[if_pos h0,findG_none (fun m _ H=>H.1 h0)];rfl
 ·rw[if_neg h0]
  exact rpG_eq W hk hb h0 bs.length 0 (by omega) (by omega) (fun m h=>by omega)
theorem pl_row (w:Int) (X Y r c:Int) (b:Bd) (dy:Nat) (hX:X=b.x+4*c) (hY:Y=b.y+4*r) (m:Nat):plQ w (cRow X (Y+(dy:Nat)) m)=plRow w b r c dy m:=by
 unfold plQ cRow plRow
 rw[List.map_map]
 refine List.map_congr_left fun dx _=>?_
 simp only[Function.comp,plF]
 subst hX hY
 rw[show b.y+4*r+(dy:Int)=b.y+(r*4+dy) by omega]
 omega
theorem pl_eq (w:Int) (b:Bd) (r c:Int) (q:Rb) (hx:q.x=b.x+4*c) (hy:q.y=b.y+4*r) (hw:q.w=min 4 (b.w-4*c)) (hh:q.h=min 4 (b.h-4*r)):plQ w (cQ q)=plAll w b r c (khB b r).toNat:=by
 have e1:q.h.toNat=(khB b r).toNat:=by unfold khB;omega
 have e2:q.w.toNat=(kwB b c).toNat:=by unfold kwB;omega
 unfold cQ
 rw[e1,hx,hy]
 obtain⟨m,hm⟩:∃ m,(khB b r).toNat=m:=⟨_,rfl⟩
 rw[hm]
 clear hm
 induction m with
 | zero=>rfl
 | succ m ih=>rw[cRows_succ,plQ_app,ih,plAll_succ,e2,pl_row w _ _ r c b m rfl rfl]
def kyR (w:Int) (b:Rb):List Int×Int:=(plQ w (cQ b),b.par)
def kyP (B:Pb):List Int×Int:=(B.places,B.parent)
theorem ky_row (w:Int) {bs:List Bd} {k:Nat} (hk:k<bs.length) (hb:∀ m,m<bs.length->1<=(rdBd bs m).w/\1<=(rdBd bs m).h) (j:Nat):∀ n,(rbTo bs k j n).map (kyR w)=(rbBand bs (rbAll bs k) k j).map (kyR w)++(bkRow w (bkFold w (bs.take k)).2 (rdBd bs k) j n).map kyP
 | 0=>by simp[rbTo,rbRow,bkRow]
 | n+1=>by
  have ih:=ky_row w hk hb j n
  have e:rbTo bs k j (n+1)=rbTo bs k j n++[rbAt bs (rbTo bs k j n) k j n]:=rfl
  rw[e,List.map_append,ih,bkRow_succ,List.map_append,List.append_assoc]
  congr 2
  simp only[List.map_cons,List.map_nil,kyR,kyP,bkAt]
  rw[pl_eq w (rdBd bs k) j n (rbAt bs (rbTo bs k j n) k j n) rfl rfl rfl rfl]
  have:(rbAt bs (rbTo bs k j n) k j n).par=rpar bs (rbTo bs k j n) k n j:=rfl
  rw[this,rpar_eq w j n hk hb]
theorem ky_band (w:Int) {bs:List Bd} {k:Nat} (hk:k<bs.length) (hb:∀ m,m<bs.length->1<=(rdBd bs m).w/\1<=(rdBd bs m).h):∀ m,(rbBand bs (rbAll bs k) k m).map (kyR w)=(rbAll bs k).map (kyR w)++(bkBand w (bkFold w (bs.take k)).2 (rdBd bs k) m).map kyP
 | 0=>by simp[rbBand,bkBand]
 | m+1=>by
  have e:rbBand bs (rbAll bs k) k (m+1)=rbTo bs k m (colsB (rdBd bs k)).toNat:=rfl
  rw[e,ky_row w hk hb,ky_band w hk hb m,bkBand_succ,List.map_append,List.append_assoc]
theorem ky_all (w:Int) {bs:List Bd} (hb:∀ m,m<bs.length->1<=(rdBd bs m).w/\1<=(rdBd bs m).h):∀ k,k<=bs.length->(rbAll bs k).map (kyR w)=(bkFold w (bs.take k)).1.map kyP
 | 0,_=>by simp[rbAll,bkFold]
 | k+1,hk=>by
  rw[rbAll,ky_band w (by omega) hb,ky_all w hb k (by omega),bkFold_succ w (by omega)]
  unfold bkStep
  simp only[List.map_append]
def parLt (l:List Rb):Prop:=∀ i,i<l.length->(rdRb l i).par<i
theorem parLt.snoc {l:List Rb} {b:Rb} (H:parLt l) (h:b.par<l.length):parLt (l++[b]):=fun i hi=>by
 by_cases e:i<l.length
 ·have:=H i e
  unfold rdRb at this ⊢
  rw[List.getD_eq_getElem?_getD,List.getElem?_append_left e,<-List.getD_eq_getElem?_getD]
  exact this
 ·have e2:i=l.length:=by simp only[List.length_append,List.length_singleton]at hi;omega
  subst e2
  unfold rdRb
  rw[List.getD_eq_getElem?_getD,List.getElem?_append_right (Nat.le_refl _),Nat.sub_self]
  exact h
theorem parLt_row {bs:List Bd} {O:List Rb} {k j:Nat} (H:parLt O):∀ n,parLt (rbRow bs O k j n)
 | 0=>H
 | n+1=>(parLt_row H n).snoc (rpar_lt _ _ _ _ _)
theorem parLt_band {bs:List Bd} {O:List Rb} {k:Nat} (H:parLt O):∀ m,parLt (rbBand bs O k m)
 | 0=>H
 | m+1=>parLt_row (parLt_band H m) _
theorem parLt_all {bs:List Bd}:∀ k,parLt (rbAll bs k)
 | 0=>fun i hi=>by simp[rbAll]at hi
 | k+1=>parLt_band (parLt_all k) _
theorem co_inj {w y x y' x':Int} (h0:0<=x) (h1:x<w) (g0:0<=x') (g1:x'<w) (e:y*w+x=y'*w+x'):y=y'/\x=x':=by
 by_cases a:y<y'
 ·have:=Int.mul_le_mul_of_nonneg_right (show y+1<=y' by omega) (show 0<=w by omega)
  rw[Int.add_mul,Int.one_mul]at this
  omega
 ·by_cases b:y'<y
  ·have:=Int.mul_le_mul_of_nonneg_right (show y'+1<=y by omega) (show 0<=w by omega)
   rw[Int.add_mul,Int.one_mul]at this
   omega
  ·have e2:y=y':=by omega
   subst e2
   omega
theorem co_nn {w y x:Int} (hw:0<=w) (hy:0<=y) (hx:0<=x):0<=y*w+x:=by have:=Int.mul_nonneg hy hw;omega
theorem co_lt {w h y x:Int} (hy:0<=y) (hy1:y<h) (hx:0<=x) (hx1:x<w):y*w+x<w*h:=by
 have:=Int.mul_le_mul_of_nonneg_right (show y+1<=h by omega) (show 0<=w by omega)
 rw[Int.add_mul,Int.one_mul,Int.mul_comm h w]at this
 omega
theorem brow_rd {W:Int} {b:Bd} {i:Int} {B:List Int} {y:Nat} {Y X:Int} (x0:0<=X) (x1:X<W) (b0:0<=b.x) (y0:0<=b.y) (Y0:0<=Y) (hl:Y*W+X<B.length):∀ k:Nat,b.x+k<=W->rd (brow W b i B y k) (Y*W+X)=if Y=b.y+y/\b.x<=X/\X<b.x+k then i else rd B (Y*W+X)
 | 0,_=>by
  rw[if_neg (by omega)];rfl
 | k+1,hk=>by
  have ih:=brow_rd (i:=i) (B:=B) (y:=y) x0 x1 b0 y0 Y0 hl k (by omega)
  have hp:=co_nn (w:=W) (by omega) Y0 x0
  have hlen:=brow_len W b i B y k
  rw[brow_succ]
  have hq:=co_nn (w:=W) (y:=b.y+y) (x:=b.x+k) (by omega) (by omega) (by omega)
  obtain⟨p,hpp⟩:∃ p:Nat,Y*W+X=p:=⟨(Y*W+X).toNat,by omega⟩
  obtain⟨q,hqq⟩:∃ q:Nat,(b.y+y)*W+b.x+k=q:=⟨((b.y+y)*W+b.x+k).toNat,by omega⟩
  rw[hqq,Int.toNat_natCast]
  by_cases e:q=p
  ·subst e
   have:=co_inj (y:=Y) (y':=b.y+y) (x':=b.x+k) x0 x1 (by omega) (by omega) (by omega)
   rw[hpp,rd_st_same (by omega),if_pos (by omega)]
  ·have hne:¬ (Y=b.y+y/\X=b.x+k):=fun h=>e (by rw[h.1,h.2]at hpp;omega)
   rw[hpp]at ih ⊢
   rw[rd_st_ne e,ih]
   by_cases c:Y=b.y+y/\b.x<=X/\X<b.x+k
   ·rw[if_pos c,if_pos (by omega)]
   ·rw[if_neg c,if_neg (by omega)]
theorem ball_rd {W:Int} {b:Bd} {i:Int} {B:List Int} {Y X:Int} (x0:0<=X) (x1:X<W) (b0:0<=b.x) (y0:0<=b.y) (w0:0<=b.w) (w1:b.x+b.w<=W) (Y0:0<=Y) (hl:Y*W+X<B.length):∀ m:Nat,rd (ball W b i B m) (Y*W+X)=if b.y<=Y/\Y<b.y+m/\b.x<=X/\X<b.x+b.w then i else rd B (Y*W+X)
 | 0=>by rw[if_neg (by omega)];rfl
 | m+1=>by
  rw[ball_succ,brow_rd x0 x1 b0 y0 Y0 (by rw[ball_len];exact hl) _ (by omega),ball_rd x0 x1 b0 y0 w0 w1 Y0 hl m]
  by_cases c:Y=b.y+m/\b.x<=X/\X<b.x+(b.w.toNat:Nat)
  ·rw[if_pos c,if_pos (by omega)]
  ·rw[if_neg c]
   by_cases d:b.y<=Y/\Y<b.y+m/\b.x<=X/\X<b.x+b.w
   ·rw[if_pos d,if_pos (by omega)]
   ·rw[if_neg d,if_neg (by omega)]
def bsOk (w h:Int) (bs:List Bd):Prop:=(∀ k,k<bs.length->0<=(rdBd bs k).x/\0<=(rdBd bs k).y/\1<=(rdBd bs k).w/\1<=(rdBd bs k).h/\(rdBd bs k).x+(rdBd bs k).w<=w/\(rdBd bs k).y+(rdBd bs k).h<=h) /\
 (∀ (a c:Nat) (y x:Int),a<bs.length->c<bs.length->inBd (rdBd bs a) y x=true->inBd (rdBd bs c) y x=true->a=c) /\
 ∀ y x:Int,0<=y->y<h->0<=x->x<w->∃ k:Nat,k<bs.length/\inBd (rdBd bs k) y x=true
theorem in_iff {b:Bd} {y x:Int}:inBd b y x=true↔b.x<=x/\x<b.x+b.w/\b.y<=y/\y<b.y+b.h:=by unfold inBd;rw[decide_eq_true_eq]
theorem bfold_rd {w h:Int} {bs:List Bd} (H:bsOk w h bs) {k:Nat} (hk:k<bs.length) {Y X:Int} (hin:inBd (rdBd bs k) Y X=true):∀ K,k<K->K<=bs.length->rd (bfold w bs (w*h).toNat K) (Y*w+X)=k
 | 0,h,_=>by omega
 | K+1,h1,h2=>by
  obtain⟨b1,b2,b3,b4,b5,b6⟩:=H.1 K (by omega)
  obtain⟨c1,c2,c3,c4,c5,c6⟩:=H.1 k hk
  have hi:=in_iff.1 hin
  have hlt:=co_lt (w:=w) (h:=h) (y:=Y) (x:=X) (by omega) (by omega) (by omega) (by omega)
  have hnn:=co_nn (w:=w) (y:=Y) (x:=X) (by omega) (by omega) (by omega)
  rw[bfold,ball_rd (by omega) (by omega) b1 b2 (by omega) b5 (by omega) (by rw[bfold_len];omega)]
  by_cases e:k=K
  ·subst e
   rw[if_pos (by omega)]
  ·rw[if_neg fun hh=>e (H.2.1 k K Y X hk (by omega) hin (in_iff.2 (by omega)))]
   exact bfold_rd H hk hin K (by omega) (by omega)
theorem emod_co {y w c:Int} (h0:0<=c) (h1:c<w):(y*w+c) % w=c:=by
 rw[Int.add_comm,Int.add_mul_emod_self_right]
 exact Int.emod_eq_of_lt h0 h1
theorem nb_ok {w h:Int} {bs:List Bd} (H:bsOk w h bs) {k:Nat} (hk:k<bs.length) {y c:Int} (hin:inBd (rdBd bs k) y c=true):nbOk w (bfold w bs (w*h).toNat bs.length) (rdBd bs k) c y (y*w+c):=by
 obtain⟨c1,c2,c3,c4,c5,c6⟩:=H.1 k hk
 have hi:=in_iff.1 hin
 have hB:∀ {m:Nat} {Y X:Int},m<bs.length->inBd (rdBd bs m) Y X=true->rd (bfold w bs (w*h).toNat bs.length) (Y*w+X)=m:=fun hm hin=>bfold_rd H hm hin bs.length hm (Nat.le_refl _)
 have hp:=hB hk hin
 refine⟨?_,?_⟩
 ·rw[emod_co (by omega) (by omega),hp,show y*w+c-1=y*w+(c-1) by omega]
  constructor
  ·rintro⟨g1,g2⟩
   obtain⟨m,hm,hin2⟩:=H.2.2 y (c-1) (by omega) (by omega) (by omega) (by omega)
   rw[hB hm hin2]at g2
   obtain rfl:m=k:=by omega
   have:=in_iff.1 hin2
   omega
  ·intro g
   exact⟨by omega,hB hk (in_iff.2 (by omega))⟩
 ·have e:y*w+c-w=(y-1)*w+c:=by rw[Int.sub_mul,Int.one_mul];omega
  rw[hp,e]
  constructor
  ·rintro⟨g1,g2⟩
   have hy:1<=y:=by
    by_cases h1:1<=y
    ·exact h1
    ·have:y=0:=by omega
     subst this
     rw[Int.zero_mul]at g1
     omega
   obtain⟨m,hm,hin2⟩:=H.2.2 (y-1) c (by omega) (by omega) (by omega) (by omega)
   rw[hB hm hin2]at g2
   obtain rfl:m=k:=by omega
   have:=in_iff.1 hin2
   omega
  ·intro g
   refine⟨?_,hB hk (in_iff.2 (by omega))⟩
   have:=Int.mul_le_mul_of_nonneg_right (show 1<=y by omega) (show 0<=w by omega)
   rw[Int.one_mul]at this
   omega
theorem bn_one {w h n:Int} (hb:bnOk w h n) {y x:Int} (y0:0<=y) (y1:y<h) (x0:0<=x) (x1:x<w):cov (bnL w h n) y x=1:=by
 obtain⟨q1,q2,q3,q4,q5,q6⟩:=id hb
 obtain⟨w,rfl⟩:∃ k:Nat,w=k:=⟨w.toNat,by omega⟩
 obtain⟨h,rfl⟩:∃ k:Nat,h=k:=⟨h.toNat,by omega⟩
 obtain⟨n,rfl⟩:∃ k:Nat,n=k:=⟨n.toNat,by omega⟩
 obtain⟨y,rfl⟩:∃ k:Nat,y=k:=⟨y.toNat,by omega⟩
 obtain⟨x,rfl⟩:∃ k:Nat,x=k:=⟨x.toNat,by omega⟩
 have hcov:=cov_all (w:=w) (h:=h) (n:=n) (by omega) (by omega) y x (by omega) (by omega)
 have hbn:bnL (w:Int) h n=keptBd (bdD w h n n):=by unfold bnL bnA;rw[if_pos hb];simp
 rw[hbn]
 exact hcov
theorem cov_two {l:List Bd} {a c:Nat} (hac:a<c) (hc:c<l.length) {y x:Int} (h1:inBd (rdBd l a) y x=true) (h2:inBd (rdBd l c) y x=true):2<=cov l y x:=by
 have e:=cov_take hc y x
 rw[if_pos h2]at e
 have h3:0<cov (l.take c) y x:=by
  unfold cov
  refine List.countP_pos_iff.2 ⟨rdBd l a,?_,h1⟩
  rw[rdBd_nat (by omega)]
  exact List.mem_take_iff_getElem.2 ⟨a,by omega,rfl⟩
 have h4:cov (l.take (c+1)) y x<=cov l y x:=(List.take_sublist _ _).countP_le
 omega
theorem bn_ok {w h n:Int} (hb:bnOk w h n):bsOk w h (bnL w h n):=by
 have hin:∀ k,k<(bnL w h n).length->0<=(rdBd (bnL w h n) k).x/\0<=(rdBd (bnL w h n) k).y/\1<=(rdBd (bnL w h n) k).w/\1<=(rdBd (bnL w h n) k).h/\(rdBd (bnL w h n) k).x+(rdBd (bnL w h n) k).w<=w/\(rdBd (bnL w h n) k).y+(rdBd (bnL w h n) k).h<=h:=fun k hk=>by
  have:=bnL_in hb (rdBd_mem hk);omega
 refine⟨hin,fun a c y x ha hc h1 h2=>?_,fun y x y0 y1 x0 x1=>?_⟩
 ·have i1:=in_iff.1 h1
  have i2:=hin a ha
  have h3:=bn_one hb (y:=y) (x:=x) (by omega) (by omega) (by omega) (by omega)
  by_cases l1:a<c
  ·have:=cov_two l1 hc h1 h2;omega
  ·by_cases l2:c<a
   ·have:=cov_two l2 ha h2 h1;omega
   ·omega
 ·have h3:=bn_one hb y0 y1 x0 x1
  unfold cov at h3
  obtain⟨b,hbm,hb2⟩:=List.countP_pos_iff.1 (show 0<(bnL w h n).countP fun b=>inBd b y x by omega)
  obtain⟨k,hk,rfl⟩:=List.mem_iff_getElem.1 hbm
  exact⟨k,hk,by rw[rdBd_nat hk];exact hb2⟩
theorem memQ {b:Rb} {q:Int×Int} (h:q∈cQ b):b.y<=q.1/\q.1<b.y+b.h/\b.x<=q.2/\q.2<b.x+b.w:=by
 unfold cQ cRows at h
 obtain⟨i,hi,hq⟩:=List.mem_flatMap.1 h
 have:=List.mem_range.1 hi
 obtain⟨a,c,d⟩:=mem_cRow.1 hq
 omega
theorem at_in {bs:List Bd} {O:List Rb} {k j i:Nat} {q:Int×Int} (h:q∈cQ (rbAt bs O k j i)):inBd (rdBd bs k) q.1 q.2=true/\(rdBd bs k).y+4*j<=q.1/\q.1<(rdBd bs k).y+4*j+4/\(rdBd bs k).x+4*i<=q.2/\q.2<(rdBd bs k).x+4*i+4:=by
 have:=memQ h
 simp only[rbAt]at this
 exact⟨in_iff.2 (by omega),by omega⟩
def dis (a b:Rb):Prop:=∀ q,q∈cQ a->∀ r,r∈cQ b->q≠r
theorem at_dis {w h:Int} {bs:List Bd} (H:bsOk w h bs) {k j i:Nat} (hk:k<bs.length) {b:Rb} (hb:b∈rbTo bs k j i):dis b (rbAt bs (rbTo bs k j i) k j i):=by
 have key:∀ {O:List Rb} {k' j' i':Nat},k'<bs.length->(k'≠k∨j'≠j∨i'≠i)->dis (rbAt bs O k' j' i') (rbAt bs (rbTo bs k j i) k j i):=fun {O k' j' i'} hk' hne q hq r hr e=>by
  subst e
  obtain⟨a1,a2⟩:=at_in hq
  obtain⟨b1,b2⟩:=at_in hr
  have:=H.2.1 k' k q.1 q.2 hk' hk a1 b1
  subst this
  omega
 unfold rbTo at hb
 rcases rbRow_mem hb with h | ⟨i',hi,e⟩
 ·rcases rbBand_mem h with h | ⟨j',i',hj,hi,e⟩
  ·obtain⟨k',j',i',h1,h2,h3,e⟩:=rbAll_mem h
   rw[e];exact key (by omega) (.inl (by omega))
  ·rw[e];exact key hk (.inr (.inl (by omega)))
 ·rw[e];exact key hk (.inr (.inr (by omega)))
theorem row_dis {w h:Int} {bs:List Bd} (H:bsOk w h bs) {k j:Nat} (hk:k<bs.length) (h0:(rbBand bs (rbAll bs k) k j).Pairwise dis):∀ n,(rbTo bs k j n).Pairwise dis
 | 0=>h0
 | n+1=>by
  have e:rbTo bs k j (n+1)=rbTo bs k j n++[rbAt bs (rbTo bs k j n) k j n]:=rfl
  rw[e,List.pairwise_append]
  exact⟨row_dis H hk h0 n,List.pairwise_singleton _ _,fun a ha b hb=>by rw[List.mem_singleton.1 hb];exact at_dis H hk ha⟩
theorem band_dis {w h:Int} {bs:List Bd} (H:bsOk w h bs) {k:Nat} (hk:k<bs.length) (h0:(rbAll bs k).Pairwise dis):∀ m,(rbBand bs (rbAll bs k) k m).Pairwise dis
 | 0=>h0
 | m+1=>row_dis H hk (band_dis H hk h0 m) _
theorem all_dis {w h:Int} {bs:List Bd} (H:bsOk w h bs):∀ k,k<=bs.length->(rbAll bs k).Pairwise dis
 | 0,_=>List.Pairwise.nil
 | k+1,hk=>band_dis H (by omega) (all_dis H k (by omega)) _
theorem cQ_nodup (b:Rb):(cQ b).Nodup:=by
 unfold cQ cRows List.Nodup
 rw[List.pairwise_flatMap]
 refine⟨fun dy _=>?_,?_⟩
 ·unfold cRow
  rw[List.pairwise_map]
  refine List.Pairwise.imp (fun {a c} (hac:a<c) e=>?_) (List.pairwise_lt_range (n:=b.w.toNat))
  have:=(Prod.ext_iff.1 e).2
  simp only at this
  omega
 ·refine List.Pairwise.imp (fun {a c} (hac:a<c) q hq r hr e=>?_) (List.pairwise_lt_range (n:=b.h.toNat))
  have h1:=(mem_cRow.1 hq).1
  have h2:=(mem_cRow.1 hr).1
  rw[e]at h1
  omega
theorem plB_nodup {w h:Int} {bs:List Bd} (H:bsOk w h bs):(plB w (rbAll bs bs.length)).Nodup:=by
 have e:plB w (rbAll bs bs.length)=((rbAll bs bs.length).flatMap cQ).map fun q=>q.1*w+q.2:=by
  unfold plB plQ
  rw[List.map_flatMap]
 have hn:((rbAll bs bs.length).flatMap cQ).Pairwise (·≠ ·):=by
  rw[List.pairwise_flatMap]
  exact⟨fun b _=>cQ_nodup b,all_dis H _ (Nat.le_refl _)⟩
 have hin:∀ q∈(rbAll bs bs.length).flatMap cQ,0<=q.2/\q.2<w:=fun q hq=>by
  obtain⟨b,hb,hq⟩:=List.mem_flatMap.1 hq
  obtain⟨k,j,i,h1,h2,h3,rfl⟩:=rbAll_mem hb
  have:=in_iff.1 (at_in hq).1
  have:=H.1 k h1
  omega
 rw[e]
 unfold List.Nodup
 rw[List.pairwise_map]
 refine hn.imp_of_mem fun {a c} ha hc hne e=>hne ?_
 obtain⟨h1,h2⟩:=hin a ha
 obtain⟨h3,h4⟩:=hin c hc
 obtain⟨e1,e2⟩:=co_inj h1 h2 h3 h4 e
 exact Prod.ext e1 e2
theorem list_ok {w h n:Int} (hb:bnOk w h n):listOk w (bandL w h n) (w*h).toNat (bnL w h n) (rbL w h n):=by
 have H:=bn_ok hb
 refine⟨plB_nodup H,fun b hbm q hq=>?_⟩
 obtain⟨k,j,i,h1,h2,h3,rfl⟩:=rbAll_mem hbm
 have hi:=(at_in hq).1
 have hi2:=in_iff.1 hi
 have hk:=H.1 k h1
 have hlt:=co_lt (w:=w) (h:=h) (y:=q.1) (x:=q.2) (by omega) (by omega) (by omega) (by omega)
 have hnn:=co_nn (w:=w) (y:=q.1) (x:=q.2) (by omega) (by omega) (by omega)
 exact⟨hnn,by omega,nb_ok H h1 hi⟩
theorem bk_same {w h n:Int} (hb:bnOk w h n) (kd:Int):∀ j,j<(rbL w h n).length->sameB w (rdRb (rbL w h n) j) (rdBk (st00 ⟨w,h,n,kd⟩).list j).b j:=fun j hj=>by
 have H:=bn_ok hb
 have hl:=rbL_len w h n
 have hk:(rbL w h n).map (kyR w)=(bkts w h n).map kyP:=by
  have:=ky_all w (bs:=bnL w h n) (fun m hm=>by have:=H.1 m hm;omega) (bnL w h n).length (Nat.le_refl _)
  rw[List.take_length]at this
  exact this
 have hj2:j<(bkts w h n).length:=by omega
 have hkj:kyR w (rbL w h n)[j]=kyP (bkts w h n)[j]:=by
  have h1:((rbL w h n).map (kyR w))[j]?=some (kyR w (rbL w h n)[j]):=by rw[List.getElem?_map,List.getElem?_eq_getElem hj];rfl
  have h2:((bkts w h n).map kyP)[j]?=some (kyP (bkts w h n)[j]):=by rw[List.getElem?_map,List.getElem?_eq_getElem hj2];rfl
  rw[hk,h2]at h1
  exact(Option.some.inj h1).symm
 have e:(rdBk (st00 ⟨w,h,n,kd⟩).list j).b=(bkts w h n)[j]:=by
  show(rdBk (bkOf (fun _=>nilLoc) (bkts w h n)) j).b=_
  rw[bkOf_at _ hj2]
  simp only[List.getD_eq_getElem?_getD,List.getElem?_eq_getElem hj2,Option.getD_some]
 rw[e]
 have e2:rdRb (rbL w h n) j=(rbL w h n)[j]:=rdRb_nat hj
 have hpar:=parLt_all (bs:=bnL w h n) (bnL w h n).length j hj
 have hpar:(rdRb (rbL w h n) j).par<j:=hpar
 have hin:=(rbL_ok hb).2.1 _ (List.getElem_mem hj)
 rw[e2]at hpar ⊢
 exact⟨(Prod.ext_iff.1 hkj).1.symm,(Prod.ext_iff.1 hkj).2.symm,hpar,hin.1.2.2.1,hin.1.2.2.2.2.1⟩
theorem rd_rep (N:Nat) (v:Int) {i:Nat} (h:i<N):rd (List.replicate N v) i=v:=by rw[rd_lt _ _ (by rw[List.length_replicate];exact h)];simp
structure RwE where
 known:List Int
 minus:List Bool
 since:List Int
 e:EnS
def RwE.toD (s:RwE):RwS:=⟨s.known,s.minus,s.since,newDe 0 [] [],0⟩
def rnE (w n t:Int) (bd:Bd) (on:Bool) (c y:Int) (f:List Int) (s:RwE):RwE:=
 if 0<=rd s.since (y*w+c)then
  ⟨s.known.set (y*w+c).toNat (rd s.known (y*w+c)+b2i (digP f (y*w+c) t)*2^t.toNat),s.minus,s.since,putP s.e (rctx s.since (y*w+c) n) (b2i (digP f (y*w+c) t))⟩
 else if on then
  if digP f (y*w+c) t then
   ⟨s.known.set (y*w+c).toNat (2^t.toNat),s.minus.set (y*w+c).toNat (decide (rd f (y*w+c)<0)),s.since.set (y*w+c).toNat n,putP (putP s.e (8+nbP s.since w bd c y) 1) 11 (b2i (decide (rd f (y*w+c)<0)))⟩
  else ⟨s.known,s.minus,s.since,putP s.e (8+nbP s.since w bd c y) 0⟩
 else s
theorem rnE_len (w n t:Int) (bd:Bd) (on:Bool) (c y:Int) (f:List Int) (s:RwE):(rnE w n t bd on c y f s).known.length=s.known.length/\(rnE w n t bd on c y f s).minus.length=s.minus.length/\(rnE w n t bd on c y f s).since.length=s.since.length/\(rnE w n t bd on c y f s).e.st.length=s.e.st.length/\(rnE w n t bd on c y f s).e.kind=s.e.kind:=by
 unfold rnE
 split
 ·simp[putP]
 ·split
  ·split<;>simp[putP]
  ·simp
theorem num_eqE {w:Int} {B:List Int} {n:Int} {k N p:Nat} {s:StS} {r:RwE} {l:List Int} {c y:Int} {bd:Bd} {on:Bool} (f:List Int) (H:rl w B n k N s r.toD ((p:Int)::l)) (hp:p<N) (hn:¬ (p:Int)∈l)
  (hpp:y*w+c=p) (h0:0<=n) (hc:nctxP s p=8+nbP r.since w bd c y) :
  (numG putG s r.e p k on (digP f p k) (decide (rd f p<0))).2.2=0/\(numG putG s r.e p k on (digP f p k) (decide (rd f p<0))).2.1=(rnE w n k bd on c y f r).e /\
  rl w B n k N (numG putG s r.e p k on (digP f p k) (decide (rd f p<0))).1 (rnE w n k bd on c y f r).toD l:=by
 have H':=H
 obtain⟨a1,a2,a3,a4,a5,a6,a7,a8,a9,a10,a11,a12⟩:=H'
 have a5:r.known=s.size:=a5
 have a6:r.minus=s.minus:=a6
 obtain⟨b1,b2,b3,b4,b5⟩:=a11 p hp
 have b1:rd r.since p=rd s.since p-1:=b1
 obtain⟨c1,c2⟩:=a12 p List.mem_cons_self
 obtain⟨o1,o2⟩:=mulP_or c2
 have hz0:∀ z:RwE,(rl w B n k N s ⟨r.known,r.minus,r.since,newDe 0 [] [],0⟩ l):=fun _=>H.tail
 unfold rnE
 rw[hpp,Int.toNat_natCast]
 by_cases ho:oldP s p
 ·have hr:0<=rd r.since p:=by have:=ho.1;omega
  have hcx:rctx r.since p n=dctxP s p:=by
   unfold rctx dctxP
   by_cases e:rd s.since p=s.now
   ·rw[if_pos e,if_pos (by omega)]
   ·rw[if_neg e,if_neg (by omega)]
  rw[if_pos hr,hcx,numG_enc_old ho]
  cases hd:digP f p k with
  | false=>
   rw[if_neg (by decide)]
   have e0:b2i false=0:=rfl
   refine⟨rfl,rfl,?_⟩
   simp only[RwE.toD,e0,Int.zero_mul,Int.add_zero]
   rw[a5,setI_self (by omega),<-a5]
   exact H.tail
  | true=>
   rw[if_pos rfl]
   have e1:b2i true=1:=rfl
   refine⟨rfl,rfl,?_⟩
   have:=H.upd (v:=rd s.size p+2^(k:Int).toNat) (u:=rd s.since p) (m:=rdB s.minus p) (z:=newDe 0 [] []) hp hn ⟨b2,b3⟩ (fun h=>by have:=ho.1;omega) o2
   simp only[RwE.toD]at this ⊢
   rw[a6,setB_self (by omega),setI_self (by omega),<-b1,setI_self (by simp only[RwE.toD]at a10;omega)]at this
   rw[Int.toNat_natCast]at this o1
   rw[e1,Int.one_mul,o1,a5,a6,Int.toNat_natCast]
   rw[a5]at this
   exact this
 ·have hr:¬ 0<=rd r.since p:=fun h=>ho ⟨by omega,by omega⟩
  have hz:rd s.since p=0:=by
   by_cases e:0<rd s.since p
   ·exact absurd ⟨e,by omega⟩ ho
   ·omega
  have hsz:=b4 hz
  rw[if_neg hr]
  cases on with
  | false=>
   rw[if_neg (by decide),numG_off ho]
   exact⟨rfl,rfl,H.tail⟩
  | true=>
   rw[if_pos rfl,<-hc,numG_enc_new ho]
   cases hd:digP f p k with
   | false=>
    rw[if_neg (by decide),if_neg (by decide)]
    exact⟨rfl,rfl,H.tail⟩
   | true=>
    rw[if_pos rfl,if_pos rfl]
    refine⟨rfl,rfl,?_⟩
    have:=H.upd (v:=2^(k:Int).toNat) (u:=s.now+1) (m:=decide (rd f p<0)) (z:=newDe 0 [] []) hp hn ⟨by omega,by omega⟩ (fun h=>by omega) (by rw[hsz,Int.zero_add]at o2;exact o2)
    simp only[RwE.toD]at this ⊢
    rw[Int.add_sub_cancel,show r.since.set p s.now=r.since.set p n by rw[a4]]at this
    rw[o1,hsz,Int.zero_add]
    exact this
def eRow (w n t:Int) (bd:Bd) (on:Bool) (y x:Int) (f:List Int) (s:RwE):Nat->RwE
 | 0=>s
 | m+1=>rnE w n t bd on (x+m) y f (eRow w n t bd on y x f s m)
def eRect (w n t:Int) (bd:Bd) (on:Bool) (b:Rb) (f:List Int) (s:RwE):Nat->RwE
 | 0=>s
 | m+1=>eRow w n t bd on (b.y+m) b.x f (eRect w n t bd on b f s m) b.w.toNat
def eQ (w n t:Int) (bd:Bd) (on:Bool) (f:List Int):List (Int×Int)->RwE->RwE
 | [],r=>r
 | q::Q,r=>eQ w n t bd on f Q (rnE w n t bd on q.2 q.1 f r)
theorem eQ_app {w n t:Int} {bd:Bd} {on:Bool} {f:List Int}:∀ (Q R:List (Int×Int)) (s:RwE),eQ w n t bd on f (Q++R) s=eQ w n t bd on f R (eQ w n t bd on f Q s)
 | [],R,s=>rfl
 | q::Q,R,s=>by rw[List.cons_append,eQ,eQ,eQ_app Q R]
theorem eRow_Q (w n t:Int) (bd:Bd) (on:Bool) (y x:Int) (f:List Int) (s:RwE):∀ m,eRow w n t bd on y x f s m=eQ w n t bd on f (cRow x y m) s
 | 0=>rfl
 | m+1=>by rw[eRow,cRow_succ,eQ_app,eRow_Q w n t bd on y x f s m];rfl
theorem eRect_Q (w n t:Int) (bd:Bd) (on:Bool) (b:Rb) (f:List Int) (s:RwE):∀ m,eRect w n t bd on b f s m=eQ w n t bd on f (cRows b.x b.y b.w m) s
 | 0=>rfl
 | m+1=>by rw[eRect,cRows_succ,eQ_app,eRow_Q,eRect_Q w n t bd on b f s m]
theorem pls_eqE {w:Int} {B:List Int} {n:Int} {k N:Nat} {f:List Int} {bd:Bd} {on:Bool} (hw:0<=w) (h0:0<=n):∀ (Q:List (Int×Int)) (s:StS) (r:RwE) (l:List Int),rl w B n k N s r.toD (plQ w Q++l)->(plQ w Q++l).Nodup ->
  (∀ q∈Q,0<=q.1*w+q.2/\q.1*w+q.2<N/\nbOk w B bd q.2 q.1 (q.1*w+q.2)) ->
  (plsG putG f k on (plQ w Q) s r.e).2.2=0/\(plsG putG f k on (plQ w Q) s r.e).2.1=(eQ w n k bd on f Q r).e/\rl w B n k N (plsG putG f k on (plQ w Q) s r.e).1 (eQ w n k bd on f Q r).toD l
 | [],s,r,l,H,hn,hq=>⟨rfl,rfl,H⟩
 | (y,c)::Q,s,r,l,H,hn,hq=>by
  obtain⟨q1,q2,q3⟩:=hq (y,c) List.mem_cons_self
  simp only at q1 q2 q3
  obtain⟨p,hp⟩:∃ p:Nat,y*w+c=p:=⟨(y*w+c).toNat,by omega⟩
  have e:plQ w ((y,c)::Q)=(p:Int)::plQ w Q:=by unfold plQ;rw[List.map_cons,hp]
  rw[e,List.cons_append]at H hn
  rw[e]
  rw[hp]at q2 q3
  obtain⟨n1,n2⟩:=List.nodup_cons.1 hn
  have hcx:=nctx_eq H (by omega) q3 hp hw
  obtain⟨m1,m2,m3⟩:=num_eqE (on:=on) f H (by omega) n1 hp h0 hcx
  rw[plsG,eQ,if_pos m1,m2]
  exact pls_eqE hw h0 Q _ _ l m3 n2 (fun q h=>hq q (List.mem_cons_of_mem _ h))
structure RsE where
 s:RwE
 on:List Bool
def becQ (since f:List Int) (w t:Int) (b:Rb):Bool:=(plQ w (cQ b)).any fun p=>decide (rd since p<0)&&digP f p t
theorem any_congrP {α:Type} {l:List α} {p q:α->Bool} (h:∀ a∈l,p a=q a):l.any p=l.any q:=by
 induction l with
 | nil=>rfl
 | cons a l ih=>rw[List.any_cons,List.any_cons,h a List.mem_cons_self,ih fun b hb=>h b (List.mem_cons_of_mem _ hb)]
theorem becP_Q (since f:List Int) (w t:Int) (b:Rb):becP since f w t b=becQ since f w t b:=by
 unfold becP becQ plQ cQ cRows cRow
 rw[List.any_map,List.any_flatMap]
 refine any_congrP (fun n _=>?_)
 rw[List.any_map]
 refine any_congrP (fun m _=>?_)
 simp only[Function.comp,hitB,digP,absI]
 rw[Bool.decide_and]
 rfl
def eask (w t:Int) (b:Rb) (f:List Int) (x:RsE) (k:Nat):RsE:=
 if cntP x.s.since w b<b.w*b.h then
  ⟨⟨x.s.known,x.s.minus,x.s.since,putP x.s.e (rctxB x.s.since x.on w b) (b2i (becP x.s.since f w t b))⟩,x.on.set k (becP x.s.since f w t b)⟩
 else x
def ebk (w n t:Int) (bands:List Bd) (b:Rb) (f:List Int) (x:RsE) (k:Nat):RsE:=
 ⟨eRect w n t (rdBd bands b.band) (rdB (eask w t b f x k).on k) b f (eask w t b f x k).s b.h.toNat,(eask w t b f x k).on⟩
def eSl (w n t:Int) (bands:List Bd) (bks:List Rb) (f:List Int) (s:RwE):Nat->RsE
 | 0=>⟨s,List.replicate bks.length false⟩
 | k+1=>ebk w n t bands (rdRb bks k) f (eSl w n t bands bks f s k) k
theorem bkt_eqE {w:Int} {B:List Int} {n:Int} {k N:Nat} {f:List Int} {bands:List Bd} {bks:List Rb} {i:Nat} {s:StS} {x:RsE} {l:List Int} (hw:0<=w) (h0:0<=n) (hi:i<bks.length)
  (H:rl w B n k N s x.s.toD (plQ w (cQ (rdRb bks i))++l)) (hn:(plQ w (cQ (rdRb bks i))++l).Nodup)
  (hq:∀ q∈cQ (rdRb bks i),0<=q.1*w+q.2/\q.1*w+q.2<N/\nbOk w B (rdBd bands (rdRb bks i).band) q.2 q.1 (q.1*w+q.2)) (ho:onR w bks i s x.on) :
  (bktG putG f k i s x.s.e).2.2=0/\(bktG putG f k i s x.s.e).2.1=(ebk w n k bands (rdRb bks i) f x i).s.e /\
   rl w B n k N (bktG putG f k i s x.s.e).1 (ebk w n k bands (rdRb bks i) f x i).s.toD l/\onR w bks (i+1) (bktG putG f k i s x.s.e).1 (ebk w n k bands (rdRb bks i) f x i).on:=by
 obtain⟨g1,g2,g3,g4,g5⟩:=ho.2.2.2.2 i hi
 have hlist:i<s.list.length:=by rw[ho.1];exact hi
 obtain⟨b,hb⟩:∃ b,rdRb bks i=b:=⟨_,rfl⟩
 rw[hb]at H hn hq g1 g2 g3 g4 g5 ⊢
 obtain⟨P,hP⟩:∃ P,(rdBk s.list i).b=P:=⟨_,rfl⟩
 rw[hP]at g1 g2
 have hsig:∀ p∈plQ w (cQ b),(oldP s p↔sigP x.s.since p=true):=fun p hp=>by
  obtain⟨q,hqm,rfl⟩:=List.mem_map.1 hp
  obtain⟨q1,q2,_⟩:=hq q hqm
  rw[old_sig H ⟨q1,q2⟩ (List.mem_append_left _ hp)]
  unfold sigP RwE.toD
  rw[decide_eq_true_eq]
 have hall:allP s P.places=true↔¬ cntP x.s.since w b<b.w*b.h:=by
  rw[cntP_Q,<-cQ_len (w:=w) g4 g5,g1]
  unfold allP
  rw[List.all_eq_true]
  have hle:=List.countP_le_length (p:=sigP x.s.since) (l:=plQ w (cQ b))
  have hce:=List.countP_eq_length (p:=sigP x.s.since) (l:=plQ w (cQ b))
  constructor
  ·intro h
   have:=hce.2 fun a ha=>(hsig a ha).1 (of_decide_eq_true (h a ha))
   omega
  ·intro h a ha
   exact decide_eq_true ((hsig a ha).2 (hce.1 (by omega) a ha))
 have hsome:someP s P.places=true↔0<cntP x.s.since w b:=by
  rw[cntP_Q,g1]
  unfold someP
  rw[List.any_eq_true]
  have hce:=List.countP_pos_iff (p:=sigP x.s.since) (l:=plQ w (cQ b))
  constructor
  ·rintro⟨a,ha,hd⟩
   have:=hce.2 ⟨a,ha,(hsig a ha).1 (of_decide_eq_true hd)⟩
   omega
  ·intro h
   obtain⟨a,ha,hd⟩:=hce.1 (by omega)
   exact⟨a,ha,decide_eq_true ((hsig a ha).2 hd)⟩
 have hon:onP s P.places f k=becP x.s.since f w k b:=by
  rw[becP_Q]
  unfold onP becQ
  rw[g1]
  refine any_congrP (fun p hp=>?_)
  have h1:=hsig p hp
  congr 1
  unfold sigP at h1
  rw[decide_eq_true_eq]at h1
  by_cases h:oldP s p
  ·rw[decide_eq_true h,decide_eq_false (by have:=h1.1 h;omega)];rfl
  ·rw[decide_eq_false h,decide_eq_true (Int.not_le.1 fun h'=>h (h1.2 h'))];rfl
 have hctx:bctxP (setOn s i false) P=rctxB x.s.since x.on w b:=by
  have e:someP (setOn s i false) P.places=someP s P.places:=rfl
  unfold bctxP rctxB
  rw[g2,ab_eq ho g3,e]
  by_cases h:someP s P.places=true
  ·rw[if_pos h,if_pos (hsome.1 h)]
  ·rw[if_neg h,if_neg (fun h'=>h (hsome.2 h'))]
 have hQ:cRows b.x b.y b.w b.h.toNat=cQ b:=rfl
 rw[bktG_put,hP]
 unfold ebk
 rw[eRect_Q,hQ]
 by_cases ha:allP s P.places=true
 ·have he:eask w k b f x i=x:=if_neg (hall.1 ha)
  rw[if_pos ha,he,ho.2.2.2.1 i (Nat.le_refl _) hi,g1]
  have H':rl w B n k N (setOn s i false) x.s.toD (plQ w (cQ b)++l):=H
  obtain⟨m1,m2,m3⟩:=pls_eqE (f:=f) (bd:=rdBd bands b.band) (on:=false) hw h0 (cQ b) _ _ l H' hn hq
  refine⟨m1,m2,m3,?_⟩
  have hl:=plsG_list putG f k false (plQ w (cQ b)) (setOn s i false) x.s.e
  have:=ho.set (v:=false) (s':=(plsG putG f k false (plQ w (cQ b)) (setOn s i false) x.s.e).1) hi hl
  rw[<-ho.2.2.2.1 i (Nat.le_refl _) hi,setB_self (by rw[ho.2.1];exact hi)]at this
  rw[ho.2.2.2.1 i (Nat.le_refl _) hi]at this
  exact this
 ·have hc:cntP x.s.since w b<b.w*b.h:=by
   by_cases h:cntP x.s.since w b<b.w*b.h
   ·exact h
   ·exact absurd (hall.2 h) ha
  have he:eask w k b f x i=⟨⟨x.s.known,x.s.minus,x.s.since,putP x.s.e (rctxB x.s.since x.on w b) (b2i (becP x.s.since f w k b))⟩,x.on.set i (becP x.s.since f w k b)⟩:=if_pos hc
  rw[if_neg ha,he,hctx,hon]
  simp only
  rw[rdB_st_same (by rw[ho.2.1];exact hi)]
  obtain⟨v,hv⟩:∃ v,becP x.s.since f w k b=v:=⟨_,rfl⟩
  rw[hv,g1]
  have H':rl w B n k N (setOn s i v) (⟨x.s.known,x.s.minus,x.s.since,putP x.s.e (rctxB x.s.since x.on w b) (b2i v)⟩:RwE).toD (plQ w (cQ b)++l):=H
  obtain⟨m1,m2,m3⟩:=pls_eqE (f:=f) (bd:=rdBd bands b.band) (on:=v) hw h0 (cQ b) _ _ l H' hn hq
  exact⟨m1,m2,m3,ho.set hi (plsG_list putG f k v (plQ w (cQ b)) (setOn s i v) _)⟩
theorem slc_preE {w:Int} {B:List Int} {n:Int} {k N:Nat} {f:List Int} {bands:List Bd} {bks:List Rb} {s:StS} {r:RwE} (hw:0<=w) (h0:0<=n) (hL:listOk w B N bands bks)
  (H:rl w B n k N s r.toD (plB w bks)) (ho:onR w bks 0 s (List.replicate bks.length false)) :
  ∀ i,i<=bks.length->∃ s',rl w B n k N s' (eSl w n k bands bks f r i).s.toD (plB w (bks.drop i))/\onR w bks i s' (eSl w n k bands bks f r i).on/\slcG putG f k bks.length 0 s r.e=slcG putG f k (bks.length-i) i s' (eSl w n k bands bks f r i).s.e
 | 0,_=>⟨s,H,ho,rfl⟩
 | i+1,hi=>by
  obtain⟨s',g1,g2,g3⟩:=slc_preE (f:=f) hw h0 hL H ho i (by omega)
  have hi':i<bks.length:=by omega
  have hd:plB w (bks.drop i)=plQ w (cQ (rdRb bks i))++plB w (bks.drop (i+1)):=by
   unfold plB
   rw[List.drop_eq_getElem_cons hi',List.flatMap_cons,rdRb_nat hi']
  have hnd:(plB w (bks.drop i)).Nodup:=by
   have e:plB w bks=plB w (bks.take i)++plB w (bks.drop i):=by
    unfold plB
    rw[<-List.flatMap_append,List.take_append_drop]
   have:=hL.1
   rw[e]at this
   exact(List.nodup_append.1 this).2.1
  rw[hd]at g1 hnd
  have hq:=hL.2 (rdRb bks i) (by rw[rdRb_nat hi'];exact List.getElem_mem _)
  obtain⟨m1,m2,m3,m4⟩:=bkt_eqE (f:=f) hw h0 hi' g1 hnd hq g2
  rw[show bks.length-i=(bks.length-(i+1))+1 by omega,slcG,if_pos m1,m2]at g3
  rw[eSl]
  exact⟨_,m3,m4,g3⟩
def reSame (a s:RwE):Prop:=a.known.length=s.known.length/\a.minus.length=s.minus.length/\a.since.length=s.since.length/\a.e.st.length=s.e.st.length/\a.e.kind=s.e.kind
theorem reSame.refl (s:RwE):reSame s s:=⟨rfl,rfl,rfl,rfl,rfl⟩
theorem reSame.trans {a b c:RwE} (h:reSame a b) (g:reSame b c):reSame a c:=by
 obtain⟨h1,h2,h3,h4,h5⟩:=h
 obtain⟨g1,g2,g3,g4,g5⟩:=g
 exact⟨h1.trans g1,h2.trans g2,h3.trans g3,h4.trans g4,h5.trans g5⟩
theorem eRow_same (w n t:Int) (bd:Bd) (on:Bool) (y x:Int) (f:List Int) (s:RwE):∀ m,reSame (eRow w n t bd on y x f s m) s
 | 0=>reSame.refl s
 | m+1=>reSame.trans (rnE_len _ _ _ _ _ _ _ _ _) (eRow_same w n t bd on y x f s m)
theorem eRect_same (w n t:Int) (bd:Bd) (on:Bool) (b:Rb) (f:List Int) (s:RwE):∀ m,reSame (eRect w n t bd on b f s m) s
 | 0=>reSame.refl s
 | m+1=>reSame.trans (eRow_same _ _ _ _ _ _ _ _ _ _) (eRect_same w n t bd on b f s m)
theorem eask_same (w t:Int) (b:Rb) (f:List Int) (x:RsE) (k:Nat):reSame (eask w t b f x k).s x.s/\(eask w t b f x k).on.length=x.on.length:=by
 unfold eask
 split
 ·exact⟨⟨rfl,rfl,rfl,by simp[putP],rfl⟩,List.length_set⟩
 ·exact⟨reSame.refl _,rfl⟩
theorem eSl_same (w n t:Int) (bands:List Bd) (bks:List Rb) (f:List Int) (s:RwE):∀ k,reSame (eSl w n t bands bks f s k).s s/\(eSl w n t bands bks f s k).on.length=bks.length
 | 0=>⟨reSame.refl s,List.length_replicate⟩
 | k+1=>by
  have ih:=eSl_same w n t bands bks f s k
  have h:=eask_same w t (rdRb bks k) f (eSl w n t bands bks f s k) k
  exact⟨(eRect_same _ _ _ _ _ _ _ _ _).trans (h.1.trans ih.1),h.2.trans ih.2⟩
def eStep (w n t:Int) (bands:List Bd) (bks:List Rb) (f:List Int) (s:RwE):RwE:=(eSl w n t bands bks f ⟨s.known,s.minus,s.since,newEn s.e.kind s.e.st⟩ bks.length).s
def eG (w:Int) (bands:List Bd) (bks:List Rb) (f:List Int):Nat->Int->RwE->List (List Int)
 | 0,_,_=>[]
 | k+1,n,s=>encEnd (eStep w n k bands bks f s).e::eG w bands bks f k (n+1) (eStep w n k bands bks f s)
def rlE (w:Int) (B:List Int) (n:Int) (K N:Nat) (bks:List Rb) (s:StS) (r:RwE):Prop:=rl0 w B n K N bks s ⟨r.known,r.minus,r.since,newDe r.e.kind [] [],0⟩
theorem step_eqE {w:Int} {B:List Int} {n:Int} {k N:Nat} {f:List Int} {bands:List Bd} {bks:List Rb} {s:StS} {r:RwE} (hw:0<=w) (h0:0<=n) (hL:listOk w B N bands bks) (H:rlE w B n (k+1) N bks s r) :
  (encStep f k s r.e.st).2.1=(eStep w n k bands bks f r).e/\rlE w B (n+1) k N bks (encStep f k s r.e.st).1 (eStep w n k bands bks f r):=by
 obtain⟨a1,a2,a3,a4,a5,a6,a7,a8,a9,a10,a11,a12,a13,a14⟩:=H
 have hplm:∀ p:Nat,(p:Int)∈plB w bks->p<N:=fun p hp=>by
  obtain⟨b,hb,hp⟩:=List.mem_flatMap.1 hp
  obtain⟨q,hq,e⟩:=List.mem_map.1 hp
  have:=(hL.2 b hb q hq).2.1
  omega
 have a12:s.kind=r.e.kind:=a12
 have Hr:rl w B n k N s (⟨r.known,r.minus,r.since,newEn s.kind r.e.st⟩:RwE).toD (plB w bks):=
  ⟨a1,a2,rfl,a4,a5,a6,a7,a8,a9,a10,fun i hi=>by
   obtain⟨b1,b2,b3,b4,b5⟩:=a11 i hi
   exact⟨b1,b2,by omega,b4,mulP_half b5⟩,fun i hi=>by
   obtain⟨b1,b2,b3,b4,b5⟩:=a11 i (hplm i hi)
   exact⟨b3,b5⟩⟩
 have ho:onR w bks 0 s (List.replicate bks.length false):=⟨a13,List.length_replicate,fun j hj=>by omega,fun j _ hj=>by rw[rdB_lt _ _ (by rw[List.length_replicate];exact hj)];simp,a14⟩
 obtain⟨s',g1,g2,g3⟩:=slc_preE (f:=f) hw h0 hL Hr ho bks.length (Nat.le_refl _)
 have hkd:=slc_kind putG f (k:Int) bks.length 0 s (newEn s.kind r.e.st)
 have hsm:=(eSl_same w n k bands bks f ⟨r.known,r.minus,r.since,newEn s.kind r.e.st⟩ bks.length).1
 unfold encStep eStep
 rw[a13,<-a12]
 obtain⟨X,hX⟩:∃ X,eSl w n k bands bks f ⟨r.known,r.minus,r.since,newEn s.kind r.e.st⟩ bks.length=X:=⟨_,rfl⟩
 rw[hX]at g1 g2 g3 hsm ⊢
 rw[Nat.sub_self,List.drop_length]at *
 simp only[slcG]at g3
 rw[g3]at hkd ⊢
 obtain⟨c1,c2,c3,c4,c5,c6,c7,c8,c9,c10,c11,c12⟩:=g1
 refine⟨rfl,c1,c2,rfl,by simp only;omega,c5,c6,c7,c8,c9,c10,c11,?_,g2.1,g2.2.2.2.2⟩
 have e:X.s.e.kind=s.kind:=hsm.2.2.2.2
 exact hkd.trans e.symm
theorem encG_eq {w:Int} {B:List Int} {N:Nat} {f:List Int} {bands:List Bd} {bks:List Rb} (hw:0<=w) (hL:listOk w B N bands bks):∀ (K:Nat) (n:Int) (s:StS) (r:RwE),0<=n->rlE w B n K N bks s r->encG f K s r.e.st=eG w bands bks f K n r
 | 0,n,s,r,h0,H=>rfl
 | K+1,n,s,r,h0,H=>by
  obtain⟨m1,m2⟩:=step_eqE (f:=f) hw h0 hL H
  rw[encG,eG,m1]
  congr 1
  exact encG_eq hw hL K (n+1) _ _ (by omega) m2
def re0 (w h kd:Int):RwE:=⟨List.replicate (w*h).toNat 0,List.replicate (w*h).toNat false,List.replicate (w*h).toNat (-1),newEn kd (List.replicate 12 0)⟩
def refP (p:Pl) (lv kd:Int):List (List Int):=if p.Ok/\argsOk lv kd then eG p.w (bnL p.w p.h lv) (rbL p.w p.h lv) p.xs (planesP p.xs).toNat 0 (re0 p.w p.h kd)else []
theorem enc_eq (p:Pl) (lv kd:Int):encP p lv kd=refP p lv kd:=by
 unfold encP refP
 by_cases h:p.Ok/\argsOk lv kd
 ·rw[if_pos h,if_pos h]
  obtain⟨⟨⟨a1,a2,a3,a4,a5⟩,b1,hall⟩,c1,c2,c3⟩:=h
  have hb:bnOk p.w p.h lv:=⟨c1,c2,a1,a3,a2,a4⟩
  have hl:=rbL_len p.w p.h lv
  exact encG_eq a1 (list_ok hb) _ 0 (st00 ⟨p.w,p.h,lv,kd⟩) (re0 p.w p.h kd) (Int.le_refl _) ⟨rfl,rfl,rfl,rfl,rfl,rfl,List.length_replicate,List.length_replicate,List.length_replicate,List.length_replicate,fun i hi=>by
    simp only[st00,st0,re0,RwE.toD]
    rw[rd_rep _ _ hi,rd_rep _ _ hi]
    exact⟨by omega,by omega,by omega,fun _=>rfl,mulP_zero _⟩,rfl,by rw[hl];exact bkOf_len _ _,bk_same hb kd⟩
 ·rw[if_neg h,if_neg h]
structure BeA where
 LZ:Xf.Loc
 L:Xf.Loc
 LS:Xf.Loc
 LO:Xf.Loc
 e:EnS
 ctx:Int
 bit:Int
def zeV (L:Xf.Loc):List SV:=[.ptr 1 L 0 0 0,nilP,.int .i64 0]
def invBe:List SV->Look->Option (BeA×List Nat)
 | [.ptr c _ 0 0 0,.int .i64 ctx,.int .i64 bit],look=>match rowC (look c)with
  | some (LZ,[.ptr k _ 0 0 0,_,_])=>match invRe [.ptr k nilLoc 0 0 0,.int .i64 ctx,.int .i64 bit] look with
   | some (⟨L,LS,LO,e,_,_⟩,h)=>some (⟨LZ,L,LS,LO,e,ctx,bit⟩,c::h)
   | none=>none
  | _=>none
 | _,_=>none
attribute [push_cast] invBe
def beM (LZ L LS LO:Xf.Loc) (e:EnS):Mem:=[some (.ro,LZ,.cells (zeV L)),some (.lent,L,.cells (relabs (fun i=>i+1) (reV LS e 2 LO))),some (.lent,LS,.ints .i64 e.st),some (.lent,LO,.ints .u8 e.out)]
def fs59E:FS where
 A:=BeA
 args:=fun a=>[.ptr 0 a.LZ 0 0 0,.int .i64 a.ctx,.int .i64 a.bit]
 mem:=fun a=>beM a.LZ a.L a.LS a.LO a.e
 pre:=fun a=>a.e.ok/\0<=a.ctx/\a.ctx<a.e.st.length/\(a.bit=0∨a.bit=1)/\a.e.out.length<=100000000
 res:=fun a _=>.int .i64 a.bit
 out:=fun a x=>[none,some (some (.cells (relabs (fun i=>i+1) (reV a.LS (putP a.e a.ctx a.bit) 3 (x 0))))),some (some (.ints .i64 (putP a.e a.ctx a.bit).st)),some none]
 new:=fun a x=>[(x 0,.ints .u8 (putP a.e a.ctx a.bit).out)]
 newGot:=true
set_option maxHeartbeats 1000000 in
theorem ok59E:FSOk Tryz.prog 59 fs59E:=by
 refine⟨⟨_,Tryz.func59,by kernel_rfl,by kernel_rfl⟩,fun a=>⟨by simp[fs59E,beM,zeV,reV,putP,push_cast,noMine,argOwn,Chunk.frArg],by simp[fs59E,beM,zeV,reV,putP,push_cast,outOk,Chunk.ext],fun x=>.inl (by simp[fs59E,beM,zeV,reV,putP,push_cast,frNew,frOut,Chunk.fr])⟩,fun a hp=>?_⟩
 obtain⟨LZ,L,LS,LO,e,ctx,bit⟩:=a
 obtain⟨p1,p2,p3,p4,p5⟩:e.ok/\0<=ctx/\ctx<e.st.length/\(bit=0∨bit=1)/\e.out.length<=100000000:=hp
 change Tri Tryz.prog 59 [.ptr 0 LZ 0 0 0,.int .i64 ctx,.int .i64 bit] (beM LZ L LS LO e) (postF fs59E ⟨LZ,L,LS,LO,e,ctx,bit⟩)
 obtain⟨E,hE⟩:∃ E,putP e ctx bit=E:=⟨_,rfl⟩
 have hl:(E.st.length:Int)=e.st.length:=by rw[<-hE];simp[putP]
 refine tri_evS (hyp (l:=[(88,ent88),(89,ent89)]) (lp:=[]) ⟨e88,e89,trivial⟩ trivial) Tryz.func59 comp59 (rs:=[.tmp 6]) (by rfl) Tryz.ntmps59 18 ?_
 simp -implicitDefEqProofs only[push_cast,zz,seval,ir59,beM,zeV,reV,fs88,p1,p2,p3,p4,p5,hE]
 repeat refine om_ ?_
 intro X
 repeat refine om_ ?_
 refine postF.mk' (fun _=>X 6 10) [some 0,some 1,some 2,none,some 10] ?_
 simp -implicitDefEqProofs only[push_cast,zz,seval,fs59E,beM,zeV,reV,hE,hl]
def ent59E:Entry:=spOf fs59E invBe
theorem e59E:EntryOk Tryz.prog 59 ent59E:=entry_of ok59E invBe
@[push_cast] theorem ent59E_app (us:List SV) (look:Look) (x:Nat->Xf.Loc) (k:Nat):ent59E us look x k=spOf fs59E invBe us look x k:=rfl
structure NwA where
 p:WkL
 s:WkS
 LZ:Xf.Loc
 L:Xf.Loc
 LS:Xf.Loc
 LO:Xf.Loc
 e:EnS
 F:Xf.Loc
 f:List Int
 n:Int
 t:Int
 b:Bd
 on:Bool
 c:Int
 y:Int
def nwS (a:NwA):RwE:=⟨a.s.known,a.s.minus,a.s.since,a.e⟩
def nwR (a:NwA):RwE:=rnE a.s.w a.n a.t a.b a.on a.c a.y a.f (nwS a)
def nwM (a:NwA):Mem:=[some (.ro,a.p.L,.cells (wkV a.p a.s)),some (.ro,a.p.B,.recs 6 false [] (a.s.bands.map Bd.rc)),some (.ro,a.p.K,.recs 8 false [] (a.s.bks.map Rb.rc)),some (.lent,a.p.N,.ints .i64 a.s.known),some (.lent,a.p.M,.bools a.s.minus),some (.lent,a.p.I,.ints .i64 a.s.since),none,
 some (.ro,a.LZ,.cells (relabs (fun i=>i+7) (zeV a.L))),some (.lent,a.L,.cells (relabs (fun i=>i+8) (reV a.LS a.e 2 a.LO))),some (.lent,a.LS,.ints .i64 a.e.st),some (.lent,a.LO,.ints .u8 a.e.out),some (.ro,a.F,.ints .i64 a.f)]
def invNw:List SV->Look->Option (NwA×List Nat)
 | [.ptr c _ 0 0 0,.ptr z _ 0 0 0,.int .i64 n,.int .i64 t,.sl k F 1 0 _,.agg [.int .i64 lv,.int .i64 kd,.int .i64 x,.int .i64 y,.int .i64 w,.int .i64 h],.bool on,.int .i64 i,.int .i64 j],look=>match invWk look c,invBe [.ptr z nilLoc 0 0 0,.int .i64 0,.int .i64 0] look,rowI (look k)with
  | some (p,s,g),some (⟨LZ,L,LS,LO,e,_,_⟩,h'),some (_,.i64,f)=>some (⟨p,s,LZ,L,LS,LO,e,F,f,n,t,⟨lv,kd,x,y,w,h⟩,on,i,j⟩,g++(h'++[k]))
  | _,_,_=>none
 | _,_=>none
attribute [push_cast] invNw
def fs61E:FS where
 A:=NwA
 args:=fun a=>[.ptr 0 a.p.L 0 0 0,.ptr 7 a.LZ 0 0 0,.int .i64 a.n,.int .i64 a.t,.sl 11 a.F 1 0 a.f.length,a.b.sv,.bool a.on,.int .i64 a.c,.int .i64 a.y]
 mem:=nwM
 pre:=fun a=>wkWf a.s/\knB a.s.known knM/\a.e.ok/\a.e.st.length=12/\a.e.out.length<=90000000/\a.F.nil=false/\ofWf a.f a.s.since.length/\0<=a.n/\a.n<=30/\0<=a.t/\a.t<=30/\0<=a.b.x/\0<=a.b.y/\0<=a.c/\a.c<a.s.w/\0<=a.y/\a.y<a.s.h
 res:=fun a _=>.tup []
 out:=fun a x=>[none,none,none,some (some (.ints .i64 (nwR a).known)),some (some (.bools (nwR a).minus)),some (some (.ints .i64 (nwR a).since)),none,none,some (some (.cells (relabs (fun i=>i+8) (reV a.LS (nwR a).e 4 (x 0))))),some (some (.ints .i64 (nwR a).e.st)),some none]
 new:=fun a x=>[(x 0,.ints .u8 (nwR a).e.out)]
 newGot:=true
theorem nwR_len (a:NwA):(nwR a).known.length=a.s.known.length/\(nwR a).minus.length=a.s.minus.length/\(nwR a).since.length=a.s.since.length/\(nwR a).e.st.length=a.e.st.length/\(nwR a).e.kind=a.e.kind:=rnE_len _ _ _ _ _ _ _ _ _
theorem b2i_dec (g:Int) (h:g=0∨g=1):b2i (decide (g=1))=g:=by rcases h with rfl | rfl<;>rfl
set_option maxRecDepth 4000 in
set_option maxHeartbeats 4000000 in
theorem ok61E:FSOk Tryz.prog 61 fs61E:=by
 refine⟨⟨_,Tryz.func61,by kernel_rfl,by kernel_rfl⟩,fun a=>⟨by simp[fs61E,nwM,nwR_len,zeV,reV,push_cast,noMine,argOwn,Chunk.frArg],by simp[fs61E,nwM,nwR_len,zeV,reV,push_cast,outOk,Chunk.ext],fun x=>.inl (by simp[fs61E,nwM,nwR_len,zeV,reV,push_cast,frNew,frOut,Chunk.fr])⟩,fun a hp=>?_⟩
 obtain⟨p,s,LZ,L,LS,LO,e,F,f,n,t,⟨lv,kd,x,y,bw,bh⟩,on,c,r⟩:=a
 obtain⟨⟨w1,w2,w3,w4,w5,w6,w7⟩,hk,he,h12,ho,hF,hf,n0,n1,t0,t1,i1,i2,i3,i4,i5,i6⟩:wkWf s/\knB s.known knM/\e.ok/\e.st.length=12/\e.out.length<=90000000/\F.nil=false/\ofWf f s.since.length/\0<=n/\n<=30/\0<=t/\t<=30/\0<=x/\0<=y/\0<=c/\c<s.w/\0<=r/\r<s.h:=hp
 have hwf:wkWf s:=⟨w1,w2,w3,w4,w5,w6,w7⟩
 have hfl:=hf.1
 change Tri Tryz.prog 61 [.ptr 0 p.L 0 0 0,.ptr 7 LZ 0 0 0,.int .i64 n,.int .i64 t,.sl 11 F 1 0 f.length,.agg [.int .i64 lv,.int .i64 kd,.int .i64 x,.int .i64 y,.int .i64 bw,.int .i64 bh],.bool on,.int .i64 c,.int .i64 r] (nwM ⟨p,s,LZ,L,LS,LO,e,F,f,n,t,⟨lv,kd,x,y,bw,bh⟩,on,c,r⟩) (postF fs61E ⟨p,s,LZ,L,LS,LO,e,F,f,n,t,⟨lv,kd,x,y,bw,bh⟩,on,c,r⟩)
 have hpl:=place_bd i3 i4 i5 i6 w2 w4
 have hr:nwR ⟨p,s,LZ,L,LS,LO,e,F,f,n,t,⟨lv,kd,x,y,bw,bh⟩,on,c,r⟩=rnE s.w n t ⟨lv,kd,x,y,bw,bh⟩ on c r f ⟨s.known,s.minus,s.since,e⟩:=rfl
 unfold rnE at hr
 simp only at hr
 have hpI:(2:Int)^t.toNat<=1073741824/\0<(2:Int)^t.toNat:=by
  have hpw:=pw_lt t0 t1
  have e:(2:Int)^t.toNat=((2^t.toNat:Nat):Int):=by simp
  omega
 have hv:=hf.at (i:=r*s.w+c) (by omega) (by omega)
 have hdb:=dig_bd hv.1 hv.2 t.toNat
 have hdg:digP f (r*s.w+c) t=decide (max (rd f (r*s.w+c)) (-rd f (r*s.w+c)) / 2^t.toNat % 2=1):=rfl
 obtain⟨T,hT⟩:∃ T,(2:Int)^t.toNat=T:=⟨_,rfl⟩
 have hb64:=bits_i64
 have hnb:=nbP_bd s.since s.w ⟨lv,kd,x,y,bw,bh⟩ c r
 have hkn:=hk.at (i:=r*s.w+c) (by omega) (by omega)
 have hkM:knM=1000000000000000:=rfl
 rw[hT]at hr hpI hdb hdg
 obtain⟨N,hN⟩:∃ N,nbP s.since s.w ⟨lv,kd,x,y,bw,bh⟩ c r=N:=⟨_,rfl⟩
 rw[hN]at hr hnb
 obtain⟨q,hq⟩:∃ q,r*s.w=q:=⟨_,rfl⟩
 rw[hq]at hr hpl hkn hv hdb hdg
 obtain⟨v,hvv⟩:∃ v,rd f (q+c)=v:=⟨_,rfl⟩
 rw[hvv]at hr hv hdb hdg
 obtain⟨g,hg⟩:∃ g,max v (-v) / T % 2=g:=⟨_,rfl⟩
 have hg01:g=0∨g=1:=by omega
 rw[hg]at hdg
 have hgb:=b2i_dec g hg01
 rw[hdg]at hr
 have hre:∀ (z:EnS) (d:Nat) (M:Xf.Loc),reV LS z d M=[.int .i64 z.kind,.sl 1 LS 1 0 z.st.length,.int .u64 z.low,.int .u64 z.high,.sl d M 1 0 z.out.length]:=fun z d M=>rfl
 have hη:∀ z:EnS,(⟨z.kind,z.st,z.low,z.high,z.out⟩:EnS)=z:=fun z=>rfl
 obtain⟨ng,hng⟩:∃ b,decide (v<0)=b:=⟨_,rfl⟩
 rw[hng]at hr
 have hone:(if ng=true then (1:Int)else 0)=b2i ng:=rfl
 have hn01:=b2i_01 ng
 refine tri_evS (hyp (l:=[(59,ent59E),(90,ent90)]) (lp:=[(53,absF),(58,oneF)]) ⟨e59E,e90,trivial⟩ ⟨p53,p58,trivial⟩) Tryz.func61 comp61 (rs:=[]) (by rfl) Tryz.ntmps61 37 ?_
 obtain⟨sn,hsn⟩:∃ v,rd s.since (q+c)=v:=⟨_,rfl⟩
 rw[hsn]at hr
 by_cases hold:0<=sn
 ·rw[if_pos hold,hgb]at hr
  have hgT:0<=g*T/\g*T<=T:=by rcases hg01 with h | h<;>rw[h]<;>omega
  obtain⟨cx,hcx⟩:∃ v,rctx s.since (q+c) n=v:=⟨_,rfl⟩
  rw[hcx]at hr
  have hcv:cx=if sn=n-1 then 6 else 7:=by rw[<-hcx,<-hsn];rfl
  have hcb:0<=cx/\cx<12:=by rw[hcv];split<;>omega
  have hput:=putP_ok (e:=e) (ctx:=cx) (bit:=g) he hcb.1 (by omega) hg01
  obtain⟨E,hE⟩:∃ E,putP e cx g=E:=⟨_,rfl⟩
  rw[hE]at hr hput
  obtain⟨x1,x2,x3,x4⟩:=hput
  by_cases h6:sn=n-1
  ·rw[if_pos h6]at hcv
   subst hcv h6
   simp (maxSteps:=3000000) -implicitDefEqProofs only[push_cast,zz,seval,ir61,nwM,wkV,zeV,hre,hη,hF,Bool.not_false,hq,hvv,hT,hg,hng,hone,hsn,hold,fs59E,beM,hE,x3]
   repeat refine om_ ?_
   intro X
   repeat refine om_ ?_
   refine⟨fun X2=>?_,fun X2=>?_,fun X2=>?_⟩
   ·repeat refine om_ ?_
    refine postF.mk' (fun _=>X2 10 21) [some 0,some 1,some 2,some 3,some 4,some 5,none,some 7,some 8,some 9,none,some 11,some 21] ?_
    simp -implicitDefEqProofs only[push_cast,zz,seval,fs61E,nwM,wkV,zeV,hre,hr,x3,List.length_set]
   ·repeat refine om_ ?_
    refine postF.mk' (fun _=>X2 9 21) [some 0,some 1,some 2,some 3,some 4,some 5,none,some 7,some 8,some 9,none,some 11,some 21] ?_
    simp -implicitDefEqProofs only[push_cast,zz,seval,fs61E,nwM,wkV,zeV,hre,hr,x3,List.length_set]
   ·repeat refine om_ ?_
    refine postF.mk' (fun _=>X2 7 21) [some 0,some 1,some 2,some 3,some 4,some 5,none,some 7,some 8,some 9,none,some 11,some 21] ?_
    simp -implicitDefEqProofs only[push_cast,zz,seval,fs61E,nwM,wkV,zeV,hre,hr,x3,List.length_set]
  ·rw[if_neg h6]at hcv
   subst hcv
   simp (maxSteps:=3000000) -implicitDefEqProofs only[push_cast,zz,seval,ir61,nwM,wkV,zeV,hre,hη,hF,Bool.not_false,hq,hvv,hT,hg,hng,hone,hsn,hold,h6,fs59E,beM,hE,x3]
   repeat refine om_ ?_
   intro X
   repeat refine om_ ?_
   refine⟨fun X2=>?_,fun X2=>?_,fun X2=>?_⟩
   ·repeat refine om_ ?_
    refine postF.mk' (fun _=>X2 10 21) [some 0,some 1,some 2,some 3,some 4,some 5,none,some 7,some 8,some 9,none,some 11,some 21] ?_
    simp -implicitDefEqProofs only[push_cast,zz,seval,fs61E,nwM,wkV,zeV,hre,hr,x3,List.length_set]
   ·repeat refine om_ ?_
    refine postF.mk' (fun _=>X2 9 21) [some 0,some 1,some 2,some 3,some 4,some 5,none,some 7,some 8,some 9,none,some 11,some 21] ?_
    simp -implicitDefEqProofs only[push_cast,zz,seval,fs61E,nwM,wkV,zeV,hre,hr,x3,List.length_set]
   ·repeat refine om_ ?_
    refine postF.mk' (fun _=>X2 7 21) [some 0,some 1,some 2,some 3,some 4,some 5,none,some 7,some 8,some 9,none,some 11,some 21] ?_
    simp -implicitDefEqProofs only[push_cast,zz,seval,fs61E,nwM,wkV,zeV,hre,hr,x3,List.length_set]
 ·rw[if_neg hold]at hr
  cases on with
  | false=>
   rw[if_neg (by decide)]at hr
   simp (maxSteps:=3000000) -implicitDefEqProofs only[push_cast,zz,seval,ir61,nwM,wkV,zeV,hre,hF,Bool.not_false,hq,hvv,hT,hg,hng,hone,hsn,hold]
   repeat refine om_ ?_
   intro X
   repeat refine om_ ?_
   refine postF.mk' (fun _=>LO) [some 0,some 1,some 2,some 3,some 4,some 5,none,some 7,some 8,some 9,none,some 11,some 10] ?_
   simp -implicitDefEqProofs only[push_cast,zz,seval,fs61E,nwM,wkV,zeV,hre,hr]
  | true=>
   rw[if_pos rfl]at hr
   have hput:=putP_ok (e:=e) (ctx:=8+N) (bit:=g) he (by omega) (by omega) hg01
   obtain⟨E,hE⟩:∃ E,putP e (8+N) g=E:=⟨_,rfl⟩
   rw[hE]at hput
   obtain⟨x1,x2,x3,x4⟩:=hput
   by_cases hb:g=1
   ·rw[if_pos (decide_eq_true hb)]at hr
    subst hb
    rw[hE]at hr
    have hput2:=putP_ok (e:=E) (ctx:=11) (bit:=b2i ng) x1 (by decide) (by omega) hn01
    obtain⟨E2,hE2⟩:∃ E2,putP E 11 (b2i ng)=E2:=⟨_,rfl⟩
    rw[hE2]at hr hput2
    obtain⟨y1,y2,y3,y4⟩:=hput2
    have hng1:decide (b2i ng=1)=ng:=by cases ng<;>rfl
    simp (maxSteps:=3000000) -implicitDefEqProofs only[push_cast,zz,seval,ir61,nwM,wkV,zeV,hre,hη,hF,Bool.not_false,hq,hvv,hT,hg,hng,hone,hsn,hold,fs59E,beM,fs90,hN,hE,x3,hE2,y3,hng1,Int.one_mul,List.length_set]
    repeat refine om_ ?_
    intro X
    repeat refine om_ ?_
    refine⟨fun X2=>?_,fun X2=>?_⟩
    ·repeat refine om_ ?_
     refine postF.mk' (fun _=>X2 7 33) [some 0,some 1,some 2,some 3,some 4,some 5,none,some 7,some 8,some 9,none,some 11,some 33] ?_
     simp -implicitDefEqProofs only[push_cast,zz,seval,fs61E,nwM,wkV,zeV,hre,hr,x3,y3,List.length_set]
    ·repeat refine om_ ?_
     refine postF.mk' (fun _=>X2 6 33) [some 0,some 1,some 2,some 3,some 4,some 5,none,some 7,some 8,some 9,none,some 11,some 33] ?_
     simp -implicitDefEqProofs only[push_cast,zz,seval,fs61E,nwM,wkV,zeV,hre,hr,x3,y3,List.length_set]
   ·rw[if_neg (by rw[decide_eq_true_eq];exact hb)]at hr
    have hg0:g=0:=by omega
    subst hg0
    rw[hE]at hr
    simp (maxSteps:=3000000) -implicitDefEqProofs only[push_cast,zz,seval,ir61,nwM,wkV,zeV,hre,hη,hF,Bool.not_false,hq,hvv,hT,hg,hng,hone,hsn,hold,fs59E,beM,fs90,hN,hE,x3]
    repeat refine om_ ?_
    intro X
    repeat refine om_ ?_
    intro X2
    repeat refine om_ ?_
    refine postF.mk' (fun _=>X2 8 29) [some 0,some 1,some 2,some 3,some 4,some 5,none,some 7,some 8,some 9,none,some 11,some 29] ?_
    simp -implicitDefEqProofs only[push_cast,zz,seval,fs61E,nwM,wkV,zeV,hre,hr,x3]
def ent61E:Entry:=spOf fs61E invNw
theorem e61E:EntryOk Tryz.prog 61 ent61E:=entry_of ok61E invNw
@[push_cast] theorem ent61E_app (us:List SV) (look:Look) (x:Nat->Xf.Loc) (k:Nat):ent61E us look x k=spOf fs61E invNw us look x k:=rfl
def reOk (B:Int) (C:Nat) (s:RwE):Prop:=knB s.known B/\s.e.ok/\s.e.st.length=12/\s.e.out.length<=C
theorem reOk.mono {B B':Int} {C C':Nat} {s:RwE} (h:reOk B C s) (hb:B<=B') (hc:C<=C'):reOk B' C' s:=⟨h.1.mono hb,h.2.1,h.2.2.1,by have:=h.2.2.2;omega⟩
theorem rnE_ok {w h n t:Int} {bd:Bd} {on:Bool} {c y B:Int} {C:Nat} {f:List Int} {s:RwE} (H:reOk B C s) (hB:0<=B) (hl:(s.known.length:Int)=w*h) (w2:w<=200) (w4:h<=200) (t0:0<=t) (t1:t<=24) (c0:0<=c) (c1:c<w) (y0:0<=y) (y1:y<h) :
  reOk (B+16777216) (C+8) (rnE w n t bd on c y f s):=by
 obtain⟨a1,a2,a3,a4⟩:=H
 have hp:=place_bd c0 c1 y0 y1 w2 w4
 have hT:=pw_24 t0 t1
 have hk:=a1.at (i:=y*w+c) (by omega) (by omega)
 have hnb:=nbP_bd s.since w bd c y
 obtain⟨T,hTT⟩:∃ T,(2:Int)^t.toNat=T:=⟨_,rfl⟩
 unfold rnE
 rw[hTT]at hT ⊢
 split
 ·have hc:0<=rctx s.since (y*w+c) n/\rctx s.since (y*w+c) n<12:=by unfold rctx;split<;>omega
  have h1:=putP_ok (e:=s.e) (bit:=b2i (digP f (y*w+c) t)) a2 hc.1 (by omega) (b2i_01 _)
  have hv:=b2i_01 (digP f (y*w+c) t)
  refine⟨(a1.mono (by omega)).set ?_ ?_,h1.1,h1.2.2.1.trans a3,by have:=h1.2.1;simp only;omega⟩
  ·rcases hv with hv | hv<;>rw[hv]<;>omega
  ·rcases hv with hv | hv<;>rw[hv]<;>omega
 ·split
  ·split
   ·have h1:=putP_ok (e:=s.e) (ctx:=8+nbP s.since w bd c y) (bit:=1) a2 (by omega) (by omega) (.inr rfl)
    have h2:=putP_ok (e:=putP s.e (8+nbP s.since w bd c y) 1) (ctx:=11) (bit:=b2i (decide (rd f (y*w+c)<0))) h1.1 (by omega) (by rw[h1.2.2.1];omega) (b2i_01 _)
    exact⟨(a1.mono (by omega)).set (by omega) (by omega),h2.1,h2.2.2.1.trans (h1.2.2.1.trans a3),by have:=h1.2.1;have:=h2.2.1;simp only;omega⟩
   ·have h1:=putP_ok (e:=s.e) (ctx:=8+nbP s.since w bd c y) (bit:=0) a2 (by omega) (by omega) (.inl rfl)
    exact⟨a1.mono (by omega),h1.1,h1.2.2.1.trans a3,by have:=h1.2.1;simp only;omega⟩
  ·exact⟨a1.mono (by omega),a2,a3,by omega⟩
theorem eRow_ok {w h n t:Int} {bd:Bd} {on:Bool} {y x B:Int} {C:Nat} {f:List Int} {s:RwE} (H:reOk B C s) (hB:0<=B) (hl:(s.known.length:Int)=w*h) (w2:w<=200) (w4:h<=200) (t0:0<=t) (t1:t<=24) (y0:0<=y) (y1:y<h) (x0:0<=x) :
  ∀ m:Nat,x+m<=w->reOk (B+16777216*m) (C+8*m) (eRow w n t bd on y x f s m)
 | 0,_=>H.mono (by omega) (by omega)
 | m+1,hm=>by
  have ih:=eRow_ok (n:=n) (bd:=bd) (on:=on) (f:=f) H hB hl w2 w4 t0 t1 y0 y1 x0 m (by omega)
  have:=eRow_same w n t bd on y x f s m
  exact(rnE_ok ih (by omega) (by rw[this.1];exact hl) w2 w4 t0 t1 (by omega) (by omega) y0 y1).mono (by omega) (by omega)
theorem eRect_ok {w h n t:Int} {bd:Bd} {on:Bool} {b:Rb} {B:Int} {C:Nat} {f:List Int} {s:RwE} (H:reOk B C s) (hB:0<=B) (hl:(s.known.length:Int)=w*h) (w2:w<=200) (w4:h<=200) (t0:0<=t) (t1:t<=24) (hb:b.inp w h) :
  ∀ m:Nat,(m:Int)<=b.h->reOk (B+67108864*m) (C+32*m) (eRect w n t bd on b f s m)
 | 0,_=>H.mono (by omega) (by omega)
 | m+1,hm=>by
  have ih:=eRect_ok (n:=n) (bd:=bd) (on:=on) (f:=f) H hB hl w2 w4 t0 t1 hb m (by omega)
  have:=eRect_same w n t bd on b f s m
  obtain⟨b1,b2,b3,b4,b5,b6,b7,b8⟩:=hb
  exact(eRow_ok (n:=n) (bd:=bd) (on:=on) (f:=f) (y:=b.y+m) (x:=b.x) ih (by omega) (by rw[this.1];exact hl) w2 w4 t0 t1 (by omega) (by omega) b1 b.w.toNat (by omega)).mono (by omega) (by omega)
theorem eask_ok {w t:Int} {b:Rb} {f:List Int} {x:RsE} {k:Nat} {B:Int} {C:Nat} (H:reOk B C x.s):reOk B (C+4) (eask w t b f x k).s:=by
 obtain⟨a1,a2,a3,a4⟩:=H
 have hc:=rctxB_bd x.s.since x.on w b
 unfold eask
 split
 ·have h1:=putP_ok (e:=x.s.e) (ctx:=rctxB x.s.since x.on w b) (bit:=b2i (becP x.s.since f w t b)) a2 hc.1 (by omega) (b2i_01 _)
  exact⟨a1,h1.1,h1.2.2.1.trans a3,by have:=h1.2.1;simp only;omega⟩
 ·exact⟨a1,a2,a3,by omega⟩
theorem eSl_ok {w h n t:Int} {bands:List Bd} {bks:List Rb} {f:List Int} {B:Int} {C:Nat} {s:RwE} (H:reOk B C s) (hB:0<=B) (hl:(s.known.length:Int)=w*h) (w2:w<=200) (w4:h<=200) (t0:0<=t) (t1:t<=24) (hb:∀ b∈bks,b.inp w h) :
  ∀ k:Nat,k<=bks.length->reOk (B+268435456*k) (C+132*k) (eSl w n t bands bks f s k).s
 | 0,_=>H.mono (by omega) (by omega)
 | k+1,hk=>by
  have ih:=eSl_ok (n:=n) (bands:=bands) (f:=f) H hB hl w2 w4 t0 t1 hb k (by omega)
  have hs:=eSl_same w n t bands bks f s k
  have hr:=eask_same w t (rdRb bks k) f (eSl w n t bands bks f s k) k
  have hbk:(rdRb bks k).inp w h:=hb _ (by rw[rdRb_nat (by omega)];exact List.getElem_mem _)
  have h1:=eask_ok (w:=w) (t:=t) (b:=rdRb bks k) (f:=f) (k:=k) ih
  have hbh:=hbk.2.2.2.2
  exact(eRect_ok (n:=n) (bd:=rdBd bands (rdRb bks k).band) (on:=rdB (eask w t (rdRb bks k) f (eSl w n t bands bks f s k) k).on k) (f:=f) h1 (by omega) (by rw[hr.1.1,hs.1.1];exact hl) w2 w4 t0 t1 hbk (rdRb bks k).h.toNat (by omega)).mono (by omega) (by omega)
theorem evS_sub {sp:Sp} {spP:SpP} {T:KT} {b:IR} {S:List Xf.Item} {sl sl0:List Ent} {m m0:Mem} (hs:Sub sl m sl0 m0) (h:evS sp spP T (.code (.loop b)::S) sl0 m0):evS sp spP T (.code (.loop b)::S) sl m:=by
 obtain⟨α,I,R,μ,⟨x,h0,hx⟩,h⟩:=h
 exact⟨α,I,R,μ,⟨x,h0,fun b1 w0 W a w hh=>hx b1 w0 W a w (hs b1 w0 W a w hh)⟩,h⟩
structure SeA where
 p:WkL
 s:WkS
 LZ:Xf.Loc
 L:Xf.Loc
 LS:Xf.Loc
 LO:Xf.Loc
 e:EnS
 F:Xf.Loc
 f:List Int
 n:Int
 t:Int
def seR (a:SeA):RsE:=eSl a.s.w a.n a.t a.s.bands a.s.bks a.f ⟨a.s.known,a.s.minus,a.s.since,a.e⟩ a.s.bks.length
def seM (a:SeA):Mem:=[some (.lent,a.p.L,.cells (wkV a.p a.s)),some (.ro,a.p.B,.recs 6 false [] (a.s.bands.map Bd.rc)),some (.ro,a.p.K,.recs 8 false [] (a.s.bks.map Rb.rc)),some (.lent,a.p.N,.ints .i64 a.s.known),some (.lent,a.p.M,.bools a.s.minus),some (.lent,a.p.I,.ints .i64 a.s.since),none,
 some (.ro,a.LZ,.cells (relabs (fun i=>i+7) (zeV a.L))),some (.lent,a.L,.cells (relabs (fun i=>i+8) (reV a.LS a.e 2 a.LO))),some (.lent,a.LS,.ints .i64 a.e.st),some (.lent,a.LO,.ints .u8 a.e.out),some (.ro,a.F,.ints .i64 a.f)]
def invSe:List SV->Look->Option (SeA×List Nat)
 | [.ptr c _ 0 0 0,.ptr z _ 0 0 0,.int .i64 n,.int .i64 t,.sl k F 1 0 _],look=>match invWk look c,invBe [.ptr z nilLoc 0 0 0,.int .i64 0,.int .i64 0] look,rowI (look k)with
  | some (p,s,g),some (⟨LZ,L,LS,LO,e,_,_⟩,h'),some (_,.i64,f)=>some (⟨p,s,LZ,L,LS,LO,e,F,f,n,t⟩,g++(h'++[k]))
  | _,_,_=>none
 | _,_=>none
attribute [push_cast] invSe
def fs24E:FS where
 A:=SeA
 args:=fun a=>[.ptr 0 a.p.L 0 0 0,.ptr 7 a.LZ 0 0 0,.int .i64 a.n,.int .i64 a.t,.sl 11 a.F 1 0 a.f.length]
 mem:=seM
 pre:=fun a=>wkWf a.s/\bksOk a.s/\knB a.s.known 900000000000000/\a.e.ok/\a.e.st.length=12/\a.e.out.length<=1000000/\a.F.nil=false/\ofWf a.f a.s.since.length/\0<=a.n/\a.n<=30/\0<=a.t/\a.t<=24
 res:=fun a _=>.tup []
 out:=fun a x=>[some (some (.cells (wkW a.p a.s 12 (x 0) a.s.bks.length))),none,none,some (some (.ints .i64 (seR a).s.known)),some (some (.bools (seR a).s.minus)),some (some (.ints .i64 (seR a).s.since)),none,none,some (some (.cells (relabs (fun i=>i+8) (reV a.LS (seR a).s.e 5 (x 1))))),some (some (.ints .i64 (seR a).s.e.st)),some none]
 new:=fun a x=>[(x 0,.bools (seR a).on),(x 1,.ints .u8 (seR a).s.e.out)]
 newGot:=true
theorem seR_len (a:SeA):(seR a).s.known.length=a.s.known.length/\(seR a).s.minus.length=a.s.minus.length/\(seR a).s.since.length=a.s.since.length/\(seR a).s.e.st.length=a.e.st.length/\(seR a).s.e.kind=a.e.kind:=(eSl_same _ _ _ _ _ _ _ _).1
set_option maxRecDepth 8000 in
set_option maxHeartbeats 4000000 in
theorem ok24E:FSOk Tryz.prog 24 fs24E:=by
 refine⟨⟨_,Tryz.func24,by kernel_rfl,by kernel_rfl⟩,fun a=>⟨by simp[fs24E,seM,seR_len,zeV,reV,wkV,wkW,push_cast,noMine,argOwn,Chunk.frArg],by simp[fs24E,seM,seR_len,zeV,reV,wkV,wkW,push_cast,outOk,Chunk.ext],fun x=>.inl (by simp[fs24E,seM,seR_len,zeV,reV,wkV,wkW,push_cast,frNew,frOut,Chunk.fr])⟩,fun a hp=>?_⟩
 obtain⟨p,s,LZ,L,LS,LO,e,F,f,n,t⟩:=a
 obtain⟨hwf,hbk,hk,he,h12,ho,hF,hf,n0,n1,t0,t1⟩:wkWf s/\bksOk s/\knB s.known 900000000000000/\e.ok/\e.st.length=12/\e.out.length<=1000000/\F.nil=false/\ofWf f s.since.length/\0<=n/\n<=30/\0<=t/\t<=24:=hp
 obtain⟨w1,w2,w3,w4,w5,w6,w7⟩:=id hwf
 obtain⟨v1,v2,v3⟩:=id hbk
 have hfl:=hf.1
 have hofl:ofWf f f.length:=by rw[hfl];exact hf
 change Tri Tryz.prog 24 [.ptr 0 p.L 0 0 0,.ptr 7 LZ 0 0 0,.int .i64 n,.int .i64 t,.sl 11 F 1 0 f.length] (seM ⟨p,s,LZ,L,LS,LO,e,F,f,n,t⟩) (postF fs24E ⟨p,s,LZ,L,LS,LO,e,F,f,n,t⟩)
 have hfin:seR ⟨p,s,LZ,L,LS,LO,e,F,f,n,t⟩=eSl s.w n t s.bands s.bks f ⟨s.known,s.minus,s.since,e⟩ s.bks.length:=rfl
 have hη:∀ z:EnS,(⟨z.kind,z.st,z.low,z.high,z.out⟩:EnS)=z:=fun z=>rfl
 have hre:∀ (z:EnS) (d:Nat) (M:Xf.Loc),reV LS z d M=[.int .i64 z.kind,.sl 1 LS 1 0 z.st.length,.int .u64 z.low,.int .u64 z.high,.sl d M 1 0 z.out.length]:=fun z d M=>rfl
 have hsame:=eSl_same s.w n t s.bands s.bks f ⟨s.known,s.minus,s.since,e⟩
 have hok:=eSl_ok (w:=s.w) (h:=s.h) (n:=n) (t:=t) (bands:=s.bands) (bks:=s.bks) (f:=f) (B:=900000000000000) (C:=1000000) (s:=⟨s.known,s.minus,s.since,e⟩) ⟨hk,he,h12,ho⟩ (by decide) w5 w2 w4 t0 t1 (fun b hb=>(v2 b hb).1)
 have hKl:(s.bks.map Rb.rc).length=s.bks.length:=List.length_map _
 have hBl:(s.bands.map Bd.rc).length=s.bands.length:=List.length_map _
 refine tri_evS (hyp (l:=[(57,ent57),(60,ent60),(59,ent59E),(61,ent61E)]) (lp:=[(58,oneF)]) ⟨e57,e60,e59E,e61E,trivial⟩ ⟨p58,trivial⟩) Tryz.func24 comp24 (rs:=[]) (by rfl) Tryz.ntmps24 38 ?_
 simp -implicitDefEqProofs only[push_cast,zz,seval,ir24,seM,wkV,Int.toNat_natCast]
 intro X
 repeat refine om_ ?_
 obtain⟨M,hM⟩:∃ M,X 6 20=M:=⟨_,rfl⟩
 rw[hM]
 refine evS_loopU (A:=Nat×Xf.Loc) kp24_1 kl24_1 (fun y=>[(30,.int .i64 y.1)]) (fun y=>[(3,.lent,p.N,.ints .i64 (eSl s.w n t s.bands s.bks f ⟨s.known,s.minus,s.since,e⟩ y.1).s.known),(4,.lent,p.M,.bools (eSl s.w n t s.bands s.bks f ⟨s.known,s.minus,s.since,e⟩ y.1).s.minus),(5,.lent,p.I,.ints .i64 (eSl s.w n t s.bands s.bks f ⟨s.known,s.minus,s.since,e⟩ y.1).s.since),(8,.lent,L,.cells (relabs (fun i=>i+8) (reV LS (eSl s.w n t s.bands s.bks f ⟨s.known,s.minus,s.since,e⟩ y.1).s.e 2 y.2))),(9,.lent,LS,.ints .i64 (eSl s.w n t s.bands s.bks f ⟨s.known,s.minus,s.since,e⟩ y.1).s.e.st),(10,.got,y.2,.ints .u8 (eSl s.w n t s.bands s.bks f ⟨s.known,s.minus,s.since,e⟩ y.1).s.e.out),(20,.mine,M,.bools (eSl s.w n t s.bands s.bks f ⟨s.known,s.minus,s.since,e⟩ y.1).on)])
  (fun y=>y.1<=s.bks.length) (fun y=>s.bks.length-y.1) (0,LO) (Nat.zero_le _) (Sub.pt ?_) ?_
 ·have e0:eSl s.w n t s.bands s.bks f ⟨s.known,s.minus,s.since,e⟩ 0=⟨⟨s.known,s.minus,s.since,e⟩,List.replicate s.bks.length false⟩:=rfl
  simp -implicitDefEqProofs only[push_cast,zz,seval,e0,hre]
 intro ⟨k,M1⟩ hk K hK
 have hk:k<=s.bks.length:=hk
 by_cases hk':k<s.bks.length
 ·have hki:(k:Int)<s.bks.length:=by omega
  have r1:recAt (k:Int) [] (s.bks.map Rb.rc)=(rdRb s.bks k).rc:=recAt_Rb hk' []
  have he8:esz 8 s.bks.length=8:=esz_pos (by omega)
  obtain⟨g1,g2⟩:=hsame k
  have g3:=hok k hk
  have hst:eSl s.w n t s.bands s.bks f ⟨s.known,s.minus,s.since,e⟩ (k+1)=ebk s.w n t s.bands (rdRb s.bks k) f (eSl s.w n t s.bands s.bks f ⟨s.known,s.minus,s.since,e⟩ k) k:=rfl
  have hb:=v2 (rdRb s.bks k) (by rw[rdRb_nat hk'];exact List.getElem_mem _)
  obtain⟨⟨⟨kn,mn,sn,e1⟩,on⟩,hR⟩:∃ r,eSl s.w n t s.bands s.bks f ⟨s.known,s.minus,s.since,e⟩ k=r:=⟨_,rfl⟩
  rw[hR]at g1 g2 g3 hst
  obtain⟨⟨bi,bI,bJ,x,y,bw,bh,par⟩,hbb⟩:∃ b,rdRb s.bks k=b:=⟨_,rfl⟩
  rw[hbb]at hst hb r1
  obtain⟨a1,a2,a3,a4,a5⟩:=g1
  simp only at a1 a2 a3 a4 a5 g2
  obtain⟨hinp,j1,j2,j3⟩:=hb
  simp only at j1 j2 j3
  have hwf1:wkWf ⟨s.w,s.h,s.bands,s.bks,kn,mn,sn,s.bks.length⟩:=⟨w1,w2,w3,w4,by simp only;rw[a1];exact w5,by simp only;rw[a2];exact w6,by simp only;rw[a3];exact w7⟩
  obtain⟨c,hc⟩:∃ c,cntP sn s.w ⟨bi,bI,bJ,x,y,bw,bh,par⟩=c:=⟨_,rfl⟩
  obtain⟨oc,hoc⟩:∃ v:Int,(if 0<c then 1 else 0)=v:=⟨_,rfl⟩
  have hoc1:0<=oc/\oc<=1:=by rw[<-hoc];split<;>omega
  obtain⟨q1,q2,q3,q4,q5,q6,q7,q8⟩:=id hinp
  simp only at q1 q2 q3 q4 q5 q6 q7 q8
  obtain⟨BW,hBW⟩:∃ n:Nat,bw=n:=⟨bw.toNat,by omega⟩
  obtain⟨BH,hBH⟩:∃ n:Nat,bh=n:=⟨bh.toNat,by omega⟩
  subst hBW hBH
  have hwh:=mul_bd q3 q4 q5 q6
  have hrs:=eask_same s.w t ⟨bi,bI,bJ,x,y,BW,BH,par⟩ f ⟨⟨kn,mn,sn,e1⟩,on⟩ k
  have hro:=eask_ok (w:=s.w) (t:=t) (b:=⟨bi,bI,bJ,x,y,BW,BH,par⟩) (f:=f) (x:=⟨⟨kn,mn,sn,e1⟩,on⟩) (k:=k) g3
  obtain⟨V,hV⟩:∃ V,becP sn f s.w t ⟨bi,bI,bJ,x,y,BW,BH,par⟩=V:=⟨_,rfl⟩
  have hone:(if V=true then (1:Int)else 0)=b2i V:=rfl
  have hV01:=b2i_01 V
  have hV1:decide (b2i V=1)=V:=by cases V<;>rfl
  have hra:eask s.w t ⟨bi,bI,bJ,x,y,BW,BH,par⟩ f ⟨⟨kn,mn,sn,e1⟩,on⟩ k=if c<BW*BH then ⟨⟨kn,mn,sn,putP e1 (rctxB sn on s.w ⟨bi,bI,bJ,x,y,BW,BH,par⟩) (b2i V)⟩,on.set k V⟩else ⟨⟨kn,mn,sn,e1⟩,on⟩:=by unfold eask;rw[hc,hV]
  unfold ebk at hst
  simp only at hst
  have hst':∀ s2 on2,eask s.w t ⟨bi,bI,bJ,x,y,BW,BH,par⟩ f ⟨⟨kn,mn,sn,e1⟩,on⟩ k=⟨s2,on2⟩->eSl s.w n t s.bands s.bks f ⟨s.known,s.minus,s.since,e⟩ (k+1)=⟨eRect s.w n t (rdBd s.bands bi) (rdB on2 k) ⟨bi,bI,bJ,x,y,BW,BH,par⟩ f s2 BH,on2⟩/\reSame s2 ⟨kn,mn,sn,e1⟩/\on2.length=on.length/\reOk (900000000000000+268435456*k) (1000000+132*k+4) s2:=fun s2 on2 e=>by
   rw[e]at hst hrs hro
   exact⟨by rw[hst,Int.toNat_natCast],hrs.1,hrs.2,hro⟩
  have hbn:=v3 (rdBd s.bands bi) (by have:=rdBd_nat (l:=s.bands) (i:=bi.toNat) (by omega);rw[Int.toNat_of_nonneg j1]at this;rw[this];exact List.getElem_mem _)
  have r2:recAt bi [] (s.bands.map Bd.rc)=(rdBd s.bands bi).rc:=recAt_Bd' j1 j2 []
  have he6:esz 6 s.bands.length=6:=esz_pos (by omega)
  have main:∀ (s2:RwE) (on2:List Bool) (M21 M2:Xf.Loc) (ow:Xf.Own),ow=.lent∨ow=.got->eask s.w t ⟨bi,bI,bJ,x,y,BW,BH,par⟩ f ⟨⟨kn,mn,sn,e1⟩,on⟩ k=⟨s2,on2⟩->evS (spList [(57,ent57),(60,ent60),(59,ent59E),(61,ent61E)]) (spPList [(58,oneF)])
    (retK [] (postF fs24E ⟨p,s,LZ,L,LS,LO,e,F,f,n,t⟩)) [Xf.Item.code (IR.loop b24_2),Xf.Item.blk 2,Xf.Item.blk 1,Xf.Item.code r24_5,Xf.Item.lp K,Xf.Item.blk 0]
    (upS (List.replicate 129 none) [(0,.ptr 0 p.L 0 0 0),(1,.ptr 7 LZ 0 0 0),(2,.int .i64 n),(3,.int .i64 t),(4,.sl 11 F 1 0 f.length),(10,.int .i64 k),(11,.ptr 21 M21 0 0 0),(14,.int .i64 y),(28,.sl 2 p.K 8 0 s.bks.length),(29,.int .i64 s.bks.length),(30,.int .i64 k)])
    ([some (.lent,p.L,.cells [.int .i64 s.w,.int .i64 s.h,.sl 1 p.B (esz 6 s.bands.length) 0 s.bands.length,.sl 2 p.K 8 0 s.bks.length,.sl 3 p.N 1 0 s.known.length,.sl 4 p.M 1 0 s.minus.length,.sl 5 p.I 1 0 s.since.length,.sl 20 M 1 0 s.bks.length]),some (.ro,p.B,.recs 6 false [] (s.bands.map Bd.rc)),some (.ro,p.K,.recs 8 false [] (s.bks.map Rb.rc)),
     some (.lent,p.N,.ints .i64 s2.known),some (.lent,p.M,.bools s2.minus),some (.lent,p.I,.ints .i64 s2.since),none,some (.ro,LZ,.cells (relabs (fun i=>i+7) (zeV L))),some (.lent,L,.cells (relabs (fun i=>i+8) (reV LS s2.e 2 M2))),some (.lent,LS,.ints .i64 s2.e.st),some (ow,M2,.ints .u8 s2.e.out),some (.ro,F,.ints .i64 f),none,none,none,none,none,none,none,none,some (.mine,M,.bools on2),
     some (.mine,M21,.cells [.int .i64 bi,.int .i64 bI,.int .i64 bJ,.int .i64 x,.int .i64 y,.int .i64 BW,.int .i64 BH,.int .i64 par])]++List.replicate 16 none):=by
   intro s2 on2 M21 M2 ow how he
   obtain⟨u1,u2,u3,u4⟩:=hst' s2 on2 he
   obtain⟨⟨lv,kd,bx,by',bbw,bbh⟩,hbd⟩:∃ b,rdBd s.bands bi=b:=⟨_,rfl⟩
   rw[hbd]at u1 hbn r2
   simp only at hbn
   obtain⟨onk,honk⟩:∃ b,rdB on2 k=b:=⟨_,rfl⟩
   rw[honk]at u1
   have hkn2:(s2.known.length:Int)=s.w*s.h:=by rw[u2.1,a1];exact w5
   have hRS:=fun r=>reSame.trans (eRect_same s.w n t ⟨lv,kd,bx,by',bbw,bbh⟩ onk ⟨bi,bI,bJ,x,y,BW,BH,par⟩ f s2 r) u2
   have hRO:=eRect_ok (n:=n) (bd:=⟨lv,kd,bx,by',bbw,bbh⟩) (on:=onk) (b:=⟨bi,bI,bJ,x,y,BW,BH,par⟩) (f:=f) u4 (by omega) hkn2 w2 w4 t0 t1 hinp
   simp only at hRO
   clear hst hst' hrs hro hra
   refine evS_loopU (A:=Nat×Xf.Loc) kp24_2 kl24_2 (fun z=>[(14,.int .i64 (y+z.1))]) (fun w=>[(3,.lent,p.N,.ints .i64 (eRect s.w n t ⟨lv,kd,bx,by',bbw,bbh⟩ onk ⟨bi,bI,bJ,x,y,BW,BH,par⟩ f s2 w.1).known),(4,.lent,p.M,.bools (eRect s.w n t ⟨lv,kd,bx,by',bbw,bbh⟩ onk ⟨bi,bI,bJ,x,y,BW,BH,par⟩ f s2 w.1).minus),(5,.lent,p.I,.ints .i64 (eRect s.w n t ⟨lv,kd,bx,by',bbw,bbh⟩ onk ⟨bi,bI,bJ,x,y,BW,BH,par⟩ f s2 w.1).since),(8,.lent,L,.cells (relabs (fun i=>i+8) (reV LS (eRect s.w n t ⟨lv,kd,bx,by',bbw,bbh⟩ onk ⟨bi,bI,bJ,x,y,BW,BH,par⟩ f s2 w.1).e 2 w.2))),(9,.lent,LS,.ints .i64 (eRect s.w n t ⟨lv,kd,bx,by',bbw,bbh⟩ onk ⟨bi,bI,bJ,x,y,BW,BH,par⟩ f s2 w.1).e.st),(10,.got,w.2,.ints .u8 (eRect s.w n t ⟨lv,kd,bx,by',bbw,bbh⟩ onk ⟨bi,bI,bJ,x,y,BW,BH,par⟩ f s2 w.1).e.out)])
    (fun z=>z.1<=BH) (fun z=>BH-z.1) (0,M2) (Nat.zero_le _) (Sub.pt ?_) ?_
   ·have e0:eRect s.w n t ⟨lv,kd,bx,by',bbw,bbh⟩ onk ⟨bi,bI,bJ,x,y,BW,BH,par⟩ f s2 0=s2:=rfl
    rcases how with rfl | rfl<;>simp -implicitDefEqProofs only[push_cast,zz,seval,e0,hre]
   intro ⟨r,M3⟩ hr K2 hK2
   have hr:r<=BH:=hr
   by_cases hr':r<BH
   ·have hci:y+(r:Int)<y+BH:=by omega
    have hRSr:=hRS r
    have hROr:=hRO r (by omega)
    have hnx:eRect s.w n t ⟨lv,kd,bx,by',bbw,bbh⟩ onk ⟨bi,bI,bJ,x,y,BW,BH,par⟩ f s2 (r+1)=eRow s.w n t ⟨lv,kd,bx,by',bbw,bbh⟩ onk (y+r) x f (eRect s.w n t ⟨lv,kd,bx,by',bbw,bbh⟩ onk ⟨bi,bI,bJ,x,y,BW,BH,par⟩ f s2 r) BW:=by rw[eRect,Int.toNat_natCast]
    obtain⟨s3,hs3⟩:∃ z,eRect s.w n t ⟨lv,kd,bx,by',bbw,bbh⟩ onk ⟨bi,bI,bJ,x,y,BW,BH,par⟩ f s2 r=z:=⟨_,rfl⟩
    rw[hs3]at hRSr hROr hnx
    have hkn3:(s3.known.length:Int)=s.w*s.h:=by rw[hRSr.1,a1];exact w5
    have hTS:=fun m=>reSame.trans (eRow_same s.w n t ⟨lv,kd,bx,by',bbw,bbh⟩ onk (y+r) x f s3 m) hRSr
    have hTO:=eRow_ok (n:=n) (bd:=⟨lv,kd,bx,by',bbw,bbh⟩) (on:=onk) (y:=y+r) (x:=x) (f:=f) hROr (by omega) hkn3 w2 w4 t0 t1 (by omega) (by omega) q1
    clear hK
    simp -implicitDefEqProofs only[push_cast,zz,seval,b24_2,hci,hs3]
    repeat refine om_ ?_
    refine evS_loopU (A:=Nat×Xf.Loc) kp24_3 kl24_3 (fun z=>[(15,.int .i64 (x+z.1))]) (fun z=>[(3,.lent,p.N,.ints .i64 (eRow s.w n t ⟨lv,kd,bx,by',bbw,bbh⟩ onk (y+r) x f s3 z.1).known),(4,.lent,p.M,.bools (eRow s.w n t ⟨lv,kd,bx,by',bbw,bbh⟩ onk (y+r) x f s3 z.1).minus),(5,.lent,p.I,.ints .i64 (eRow s.w n t ⟨lv,kd,bx,by',bbw,bbh⟩ onk (y+r) x f s3 z.1).since),(8,.lent,L,.cells (relabs (fun i=>i+8) (reV LS (eRow s.w n t ⟨lv,kd,bx,by',bbw,bbh⟩ onk (y+r) x f s3 z.1).e 2 z.2))),(9,.lent,LS,.ints .i64 (eRow s.w n t ⟨lv,kd,bx,by',bbw,bbh⟩ onk (y+r) x f s3 z.1).e.st),(10,.got,z.2,.ints .u8 (eRow s.w n t ⟨lv,kd,bx,by',bbw,bbh⟩ onk (y+r) x f s3 z.1).e.out)])
     (fun z=>z.1<=BW) (fun z=>BW-z.1) (0,M3) (Nat.zero_le _) (Sub.pt ?_) ?_
    ·have e0:eRow s.w n t ⟨lv,kd,bx,by',bbw,bbh⟩ onk (y+r) x f s3 0=s3:=rfl
     simp -implicitDefEqProofs only[push_cast,zz,seval,e0,hre]
    intro ⟨m,M4⟩ hm K3 hK3
    have hm:m<=BW:=hm
    by_cases hm':m<BW
    ·have hci3:x+(m:Int)<x+BW:=by omega
     obtain⟨z1,z2,z3,z4,z5⟩:=hTS m
     obtain⟨o1,o2,o3,o4⟩:=hTO m (by omega)
     have hnm:eRow s.w n t ⟨lv,kd,bx,by',bbw,bbh⟩ onk (y+r) x f s3 (m+1)=rnE s.w n t ⟨lv,kd,bx,by',bbw,bbh⟩ onk (x+m) (y+r) f (eRow s.w n t ⟨lv,kd,bx,by',bbw,bbh⟩ onk (y+r) x f s3 m):=rfl
     obtain⟨b1,b2,b3,b4,b5⟩:=reSame.trans (rnE_len s.w n t ⟨lv,kd,bx,by',bbw,bbh⟩ onk (x+m) (y+r) f (eRow s.w n t ⟨lv,kd,bx,by',bbw,bbh⟩ onk (y+r) x f s3 m)) (hTS m)
     rw[<-hnm]at b1 b2 b3 b4 b5
     obtain⟨s5,hs5⟩:∃ z,eRow s.w n t ⟨lv,kd,bx,by',bbw,bbh⟩ onk (y+r) x f s3 (m+1)=z:=⟨_,rfl⟩
     obtain⟨⟨kn4,mn4,sn4,e4⟩,hs4⟩:∃ z,eRow s.w n t ⟨lv,kd,bx,by',bbw,bbh⟩ onk (y+r) x f s3 m=z:=⟨_,rfl⟩
     rw[hs5]at b1 b2 b3 b4 b5 hnm
     rw[hs4]at z1 z2 z3 z4 z5 o1 o2 o3 o4 hnm
     simp only at z1 z2 z3 z4 z5 o1 o2 o3 o4 b1 b2 b3 b4 b5
     have hwf4:wkWf ⟨s.w,s.h,s.bands,s.bks,kn4,mn4,sn4,s.bks.length⟩:=⟨w1,w2,w3,w4,by simp only;rw[z1,a1];exact w5,by simp only;rw[z2,a2];exact w6,by simp only;rw[z3,a3];exact w7⟩
     have hkM:knB kn4 knM:=o1.mono (by unfold knM;omega)
     have ho4:e4.out.length<=90000000:=by omega
     have hof4:ofWf f sn4.length:=by rw[z3,a3];exact hf
     have hnr:nwR ⟨⟨p.L,p.B,p.K,p.N,p.M,p.I,M⟩,⟨s.w,s.h,s.bands,s.bks,kn4,mn4,sn4,s.bks.length⟩,LZ,L,LS,M4,e4,F,f,n,t,⟨lv,kd,bx,by',bbw,bbh⟩,onk,x+m,y+r⟩=s5:=hnm.symm
     clear hK2
     simp (maxSteps:=3000000) -implicitDefEqProofs only[push_cast,zz,seval,b24_3,hci3,hs4,r2,Bd.rc,he6,he8,hBl,honk,fs61E,nwM,wkV,zeV,hre,hη,hF,hwf4,hkM,ho4,hof4,o2,o3,hnr]
     repeat refine om_ ?_
     intro X9
     repeat refine om_ ?_
     refine hK3 (m+1,X9 22 34) (show m+1<=BW by omega) (show BW-(m+1)<BW-m by omega) _ _ (Sub.of (mkG 38 [(0,0),(1,1),(2,2),(3,3),(4,4),(5,5),(7,7),(8,8),(9,9),(10,34),(11,11),(20,20),(21,21)]) ?_)
     simp -implicitDefEqProofs only[push_cast,zz,seval,hs5,Int.add_assoc,zeV,hre,he6]
    ·obtain rfl:m=BW:=by omega
     have hci3:¬ x+(m:Int)<x+m:=by omega
     clear hK3
     simp -implicitDefEqProofs only[push_cast,zz,seval,b24_3,r24_4,hci3]
     repeat refine om_ ?_
     refine hK2 (r+1,M4) (show r+1<=BH by omega) (show BH-(r+1)<BH-r by omega) _ _ (Sub.pt ?_)
     simp -implicitDefEqProofs only[push_cast,zz,seval,hnx,Int.add_assoc,he6,hre]
   ·obtain rfl:r=BH:=by omega
    have hci:¬ y+(r:Int)<y+r:=by omega
    clear hK2
    simp -implicitDefEqProofs only[push_cast,zz,seval,b24_2,r24_5,hci]
    repeat refine om_ ?_
    refine hK (k+1,M3) (show k+1<=s.bks.length by omega) (show s.bks.length-(k+1)<s.bks.length-k by omega) _ _ (Sub.pt ?_)
    simp -implicitDefEqProofs only[push_cast,zz,seval,u1,he8,he6,hre]
  obtain⟨g31,g32,g33,g34⟩:=g3
  simp only at g31 g32 g33 g34
  have hofs:ofWf f sn.length:=by rw[a3];exact hf
  have hfs:f.length=sn.length:=by rw[a3];exact hfl
  have ho1:e1.out.length<=100000000:=by omega
  by_cases hask:c<(BW:Int)*BH
  ·have hctx:rctxB sn on s.w ⟨bi,bI,bJ,x,y,BW,BH,par⟩=2*aboveP on par+oc:=by unfold rctxB;rw[hc,hoc]
   rw[if_pos hask]at hra
   by_cases hpar:0<=par
   ·obtain⟨ob,hob⟩:∃ v:Int,(if rdB on par=true then 1 else 0)=v:=⟨_,rfl⟩
    have hob1:0<=ob/\ob<=1:=by rw[<-hob];split<;>omega
    have hab:aboveP on par=1+ob:=by unfold aboveP;rw[if_pos hpar,hob]
    rw[hab]at hctx
    rw[hctx]at hra
    have hput:=putP_ok (e:=e1) (ctx:=2*(1+ob)+oc) (bit:=b2i V) g32 (by omega) (by omega) hV01
    simp (maxSteps:=3000000) -implicitDefEqProofs only[push_cast,zz,seval,b24_1,hki,r1,Rb.rc,he8,hKl,hR,hwf1,hinp,fs57,fs60,fs59E,beM,zeV,hre,hη,hF,Bool.not_false,wkV,hc,hask,hpar,hob,hoc,hofs,hV,hone,hV1,g32,g33,hV01,ho1]
    repeat refine om_ ?_
    intro X1
    repeat refine om_ ?_
    refine⟨fun X2=>?_,fun X2=>?_⟩
    ·repeat refine om_ ?_
     refine evS_sub (Sub.of (mkG 38 [(0,0),(1,1),(2,2),(3,3),(4,4),(5,5),(7,7),(8,8),(9,9),(10,30),(11,11),(20,20),(21,21)]) ?_) (main _ _ (X1 3 21) (X2 22 30) .got (.inr rfl) hra)
     simp -implicitDefEqProofs only[push_cast,zz,seval,hre,zeV,Int.toNat_natCast]
    ·repeat refine om_ ?_
     refine evS_sub (Sub.of (mkG 38 [(0,0),(1,1),(2,2),(3,3),(4,4),(5,5),(7,7),(8,8),(9,9),(10,30),(11,11),(20,20),(21,21)]) ?_) (main _ _ (X1 3 21) (X2 21 30) .got (.inr rfl) hra)
     simp -implicitDefEqProofs only[push_cast,zz,seval,hre,zeV,Int.toNat_natCast]
   ·have hab:aboveP on par=0:=by unfold aboveP;rw[if_neg hpar]
    rw[hab,Int.mul_zero,Int.zero_add]at hctx
    rw[hctx]at hra
    have hput:=putP_ok (e:=e1) (ctx:=oc) (bit:=b2i V) g32 (by omega) (by omega) hV01
    simp (maxSteps:=3000000) -implicitDefEqProofs only[push_cast,zz,seval,b24_1,hki,r1,Rb.rc,he8,hKl,hR,hwf1,hinp,fs57,fs60,fs59E,beM,zeV,hre,hη,hF,Bool.not_false,wkV,hc,hask,hpar,hoc,hofs,hV,hone,hV1,g32,g33,hV01,ho1]
    repeat refine om_ ?_
    intro X1
    repeat refine om_ ?_
    refine⟨fun X2=>?_,fun X2=>?_⟩
    ·repeat refine om_ ?_
     refine evS_sub (Sub.of (mkG 38 [(0,0),(1,1),(2,2),(3,3),(4,4),(5,5),(7,7),(8,8),(9,9),(10,30),(11,11),(20,20),(21,21)]) ?_) (main _ _ (X1 3 21) (X2 22 30) .got (.inr rfl) hra)
     simp -implicitDefEqProofs only[push_cast,zz,seval,hre,zeV,Int.toNat_natCast]
    ·repeat refine om_ ?_
     refine evS_sub (Sub.of (mkG 38 [(0,0),(1,1),(2,2),(3,3),(4,4),(5,5),(7,7),(8,8),(9,9),(10,30),(11,11),(20,20),(21,21)]) ?_) (main _ _ (X1 3 21) (X2 21 30) .got (.inr rfl) hra)
     simp -implicitDefEqProofs only[push_cast,zz,seval,hre,zeV,Int.toNat_natCast]
  ·rw[if_neg hask]at hra
   simp (maxSteps:=3000000) -implicitDefEqProofs only[push_cast,zz,seval,b24_1,hki,r1,Rb.rc,he8,hKl,hR,hwf1,hinp,fs57,wkV,hc,hask]
   repeat refine om_ ?_
   intro X1
   repeat refine om_ ?_
   refine evS_sub (Sub.of (mkG 38 [(0,0),(1,1),(2,2),(3,3),(4,4),(5,5),(7,7),(8,8),(9,9),(10,10),(11,11),(20,20),(21,21)]) ?_) (main _ _ (X1 3 21) M1 .got (.inr rfl) hra)
   simp -implicitDefEqProofs only[push_cast,zz,seval,hre,zeV]
 ·have hkk:k=s.bks.length:=by omega
  have hki:¬ (k:Int)<s.bks.length:=by omega
  clear hK
  simp -implicitDefEqProofs only[push_cast,zz,seval,b24_1,hki]
  refine postF.mk' (fun j=>if j=0 then M else M1) [some 0,some 1,some 2,some 3,some 4,some 5,none,some 7,some 8,some 9,none,some 11,some 20,some 10] ?_
  simp -implicitDefEqProofs only[push_cast,zz,seval,fs24E,seM,wkV,wkW,hkk,hfin,zeV,hre]
def ent24E:Entry:=spOf fs24E invSe
theorem e24E:EntryOk Tryz.prog 24 ent24E:=entry_of ok24E invSe
@[push_cast] theorem ent24E_app (us:List SV) (look:Look) (x:Nat->Xf.Loc) (k:Nat):ent24E us look x k=spOf fs24E invSe us look x k:=rfl
def b62_1:IR:=
 .seq (.seq (r_ [m_ 6 4,f_ 7 1 0,l_ 8 7,b_ 9 .lss 6 8] [6,7,8]) (.cond (.t 9) (.skip) (.exit 0))) (.block 1 (.seq (r_ [m_ 10 3,h_ 11 10,o_ 12 (.bin 0 .mul (Z_ 8) (.t 11)),o_ 13 (.bin 0 .sub (Z_ 24) (.t 12)),m_ 5 13] [9,10,11,12,13]) (.seq (r_ [m_ 14 3,f_ 15 1 1,l_ 16 15,m_ 17 5,b_ 18 .shr 16 17,o_ 19 (.cvt 1 .u8 (.t 18)),o_ 20 (.bslice 11 [.t 19]),o_ 21 (.app 12 1 1 (.t 14) (.t 20)),m_ 3 21] [14,15,16,17,18,19,20,21]) (r_ [m_ 22 4,f_ 23 1 1,l_ 24 23,m_ 25 5,b_ 26 .shr 24 25,o_ 27 (.bin 0 .rem (.t 26) (.k (.int .u64 256))),m_ 28 5,b_ 29 .shl 27 28,b_ 30 .add 22 29,m_ 4 30] [5,22,23,24,25,26,27,28,29,30]))))
def r62_2:IR:=
 .seq (r_ [m_ 31 3,m_ 2 31] [1,3,4,31]) (.ret)
def ir62:IR:=
 .seq (r_ [o_ 1 (.box 10 (.t 0)),o_ 2 (.mov (.k nilSV))] [0,2]) (.seq (r_ [o_ 3 (.mov (.k nilSV))] []) (.seq (.seq (r_ [o_ 4 (.mov (.k (.int .u64 0)))] []) (.block 0 (.loop b62_1))) (r62_2)))
def kp62_1:List Nat:=[1,3,4]
def kl62_1:List Nat:=[11,12]
attribute [push_cast] kp62_1 kl62_1
set_option maxRecDepth 4000 in
theorem comp62:(Tryz.f62.body.bind fun c=>compC tab isP chkAll ir62 c)=some ir62:=by kernel_rfl
def ir25:IR:=
 .seq (r_ [o_ 2 (.mov (.k nilSV))] [2]) (.seq (.seq (r_ [m_ 3 0,o_ 4 (.binN .eql (.t 3) (.k nilP))] [3]) (.cond (.t 4) (.seq (r_ [o_ 2 (.mov (.k nilSV))] [0,4]) (.ret)) (.skip))) (.seq (R_ [o_ 5 (.bslice 10 []),m_ 6 0,n_ 7 6,f_ 8 7 4,⟨some 9,none,⟨[10],[]⟩,.ld false none 0 0 (.t 8)⟩,o_ 10 (.app 11 1 1 (.t 5) (.t 9)),m_ 11 0,n_ 12 11,f_ 13 12 2,⟨some 14,none,⟨[10,11],[]⟩,.ld false (some 2) 0 0 (.t 13)⟩,o_ 15 (.call (some 4) 12 62 [.t 14]),o_ 16 (.app 16 1 1 (.t 10) (.t 15)),m_ 2 16] [0,4,5,6,7,8,9,10,11,12,13,14,15,16]) (.ret)))
set_option maxRecDepth 4000 in
theorem comp25:(Tryz.f25.body.bind fun c=>compC tab isP chkAll ir25 c)=some ir25:=by kernel_rfl
def ir23:IR:=
 .seq (r_ [o_ 1 (.box 10 (.t 0)),o_ 2 (.mov (.k nilP)),z_ 3 0] [0,2,3]) (.seq (.seq (r_ [o_ 4 (.ld false (some 2) 0 0 (.t 1)),o_ 5 (.call (some 4) 11 54 [.t 4]),o_ 6 (.not (.t 5))] [4,5]) (.cond (.t 6) (.seq (r_ [o_ 2 (.mov (.k nilP)),z_ 3 10] [1,6]) (.ret)) (.skip))) (.seq (r_ [o_ 7 (.ld false (some 2) 0 0 (.t 1)),o_ 8 (.call (some 4) 15 55 [.t 7]),o_ 9 (.callp 56 []),o_ 10 (.build [y_,nilSV,.int .u64 0,.int .u64 0,nilSV] [(0,2,.t 8),(2,2,.t 9)]),o_ 11 (.box 19 (.t 10)),m_ 2 11,z_ 3 0] [1,6,7,8,9,10,11]) (.ret)))
set_option maxRecDepth 4000 in
theorem comp23:(Tryz.f23.body.bind fun c=>compC tab isP chkAll ir23 c)=some ir23:=by kernel_rfl
theorem cutP_succ (g:Int) {m:Nat} (h:m<=3):cutP g (m+1)=cutP g m+g / 2^(24-8*(m:Int)).toNat % 256*2^(24-8*(m:Int)).toNat:=by
 have e1:(32-8*((m+1:Nat):Int)).toNat=(24-8*(m:Int)).toNat:=by omega
 have e2:(32-8*(m:Int)).toNat=(24-8*(m:Int)).toNat+8:=by omega
 unfold cutP
 rw[e1,e2]
 obtain⟨a,ha⟩:∃ a,(24-8*(m:Int)).toNat=a:=⟨_,rfl⟩
 rw[ha]
 have hp:=pow_pos' a
 have e3:(2:Int)^(a+8)=2^a*256:=by rw[Int.pow_add];rfl
 rw[e3,<-Int.ediv_ediv_of_nonneg (by omega)]
 obtain⟨T,hT⟩:∃ T,(2:Int)^a=T:=⟨_,rfl⟩
 rw[hT]
 obtain⟨q,hq⟩:∃ q,g / T=q:=⟨_,rfl⟩
 rw[hq,Int.mul_comm T 256,<-Int.mul_assoc,<-Int.add_mul]
 congr 1
 omega
theorem cutP_0 {g:Int} (h0:0<=g) (h1:g<4294967296):cutP g 0=0:=by
 have e:(32-8*((0:Nat):Int)).toNat=32:=rfl
 unfold cutP
 rw[e,show(2:Int)^32=4294967296 from rfl]
 omega
theorem endN_le (l g:Int):endN l g<=4:=by
 unfold endN
 repeat' split
 all_goals decide
structure IeA where
 l:Int
 g:Int
def fs62:FS where
 A:=IeA
 args:=fun a=>[.agg [.int .u64 a.l,.int .u64 a.g]]
 mem:=fun _=>[]
 pre:=fun a=>0<=a.l/\a.l<a.g/\a.g<4294967296
 res:=fun a x=>.sl 0 (lx (0<endN a.l a.g) x 0) 1 0 (endP a.l a.g).length
 out:=fun _ _=>[]
 new:=fun a x=>[(lx (0<endN a.l a.g) x 0,.ints .u8 (endP a.l a.g))]
def invIe:List SV->Look->Option (IeA×List Nat)
 | [.agg [.int .u64 l,.int .u64 g]],_=>some (⟨l,g⟩,[])
 | _,_=>none
attribute [push_cast] invIe
def bysP (g:Int) (m:Nat):List Int:=(List.range m).map (bytP g)
theorem bysP_len (g:Int) (m:Nat):(bysP g m).length=m:=by simp[bysP]
theorem bysP_succ (g:Int) (m:Nat):bysP g (m+1)=bysP g m++[bytP g m]:=by
 unfold bysP
 rw[List.range_succ,List.map_append];rfl
def ieS (M:Xf.Loc):Nat->SV
 | 0=>nilSV
 | m+1=>.sl 5 M 1 0 ((m+1:Nat):Int)
def ieC (M:Xf.Loc) (g:Int):Nat->List (Nat×Xf.Own×Xf.Loc×Chunk)
 | 0=>[]
 | m+1=>[(5,.mine,M,.ints .u8 (bysP g (m+1)))]
set_option maxHeartbeats 1000000 in
theorem ok62:FSOk Tryz.prog 62 fs62:=by
 refine⟨⟨_,Tryz.func62,by kernel_rfl,by kernel_rfl⟩,fun a=>⟨by simp[fs62,push_cast,noMine,argOwn,Chunk.frArg],by simp[fs62,push_cast,outOk,Chunk.ext],fun x=>.inl (by simp[fs62,push_cast,frNew,frOut,Chunk.fr])⟩,fun a hp=>?_⟩
 obtain⟨l,g⟩:=a
 obtain⟨h0,h1,h2⟩:0<=l/\l<g/\g<4294967296:=hp
 change Tri Tryz.prog 62 [.agg [.int .u64 l,.int .u64 g]] [] (postF fs62 ⟨l,g⟩)
 have hb64:=bits64
 refine tri_evS (hyp (l:=[]) (lp:=[]) trivial trivial) Tryz.func62 comp62 (rs:=[.tmp 2]) (by rfl) Tryz.ntmps62 13 ?_
 simp -implicitDefEqProofs only[push_cast,zz,seval,ir62]
 intro X
 repeat refine om_ ?_
 refine evS_loopU (A:=Nat×Xf.Loc) kp62_1 kl62_1 (fun y=>[(3,ieS y.2 y.1),(4,.int .u64 (cutP g y.1))]) (fun y=>ieC y.2 g y.1)
  (fun y=>y.1<=4/\∀ j,j<y.1->¬ l<=cutP g j) (fun y=>4-y.1) (0,nilLoc) ⟨Nat.zero_le _,fun j h=>by omega⟩ (Sub.pt ?_) ?_
 ·simp -implicitDefEqProofs only[push_cast,zz,seval,ieS,ieC,cutP_0 (by omega:0<=g) h2]
 intro ⟨m,M⟩ ⟨(hm:m<=4),(hj:∀ j,j<m->¬ l<=cutP g j)⟩ K hK
 have hcb:=cutP_bd (by omega:0<=g) m
 by_cases hlt:cutP g m<l
 ·have hm3:m<=3:=by
   by_cases e:m=4
   ·subst e;rw[cutP_4]at hlt;omega
   ·omega
  have hcs:=cutP_succ g hm3
  have hcb1:=cutP_bd (by omega:0<=g) (m+1)
  have hby:IntKind.u8.wrap (g / 2^(24-8*(m:Int)).toNat)=bytP g m:=rfl
  have hTb:0<(2:Int)^(24-8*(m:Int)).toNat/\(2:Int)^(24-8*(m:Int)).toNat<=16777216:=by
   have:m=0∨m=1∨m=2∨m=3:=by omega
   rcases this with rfl | rfl | rfl | rfl<;>decide
  have hnx:∀ j,j<m+1->¬ l<=cutP g j:=fun j hjm=>by
   by_cases e:j=m
   ·subst e;omega
   ·exact hj j (by omega)
  obtain⟨T,hT⟩:∃ T,(2:Int)^(24-8*(m:Int)).toNat=T:=⟨_,rfl⟩
  rw[hT]at hcs hby hTb
  have hq:0<=g / T/\g / T<=g:=⟨Int.ediv_nonneg (by omega) (by omega),Int.ediv_le_self _ (by omega)⟩
  have hmT:0<=g / T % 256*T:=Int.mul_nonneg (by omega) (by omega)
  have hbs:=bysP_succ g m
  cases m with
  | zero=>
   obtain rfl:(16777216:Int)=T:=hT
   have hb1:bysP g 1=[bytP g 0]:=rfl
   have hcs1:cutP g 1=cutP g 0+g / 16777216 % 256*16777216:=hcs
   simp -implicitDefEqProofs only[push_cast,zz,seval,b62_1,ieS,ieC,hlt,hby]
   repeat refine om_ ?_
   intro X1
   repeat refine om_ ?_
   refine hK (1,X1 7 12) ⟨show 1<=4 by decide,hnx⟩ (show 4-1<4-0 by decide) _ _ (Sub.of (mkG 13 [(5,12),(10,10)]) ?_)
   simp -implicitDefEqProofs only[push_cast,zz,seval,ieS,ieC,hb1,hcs1]
  | succ m=>
   have hbl:=bysP_len g (m+1)
   have hT2:(2:Int)^(24-8*((m:Int)+1)).toNat=T:=by rw[<-hT];simp
   simp -implicitDefEqProofs only[push_cast,zz,seval,b62_1,ieS,ieC,hlt,hT2,hby,hbl]
   repeat refine om_ ?_
   intro X1
   repeat refine om_ ?_
   refine hK (m+1+1,X1 7 12) ⟨show m+1+1<=4 by omega,hnx⟩ (show 4-(m+1+1)<4-(m+1) by omega) _ _ (Sub.of (mkG 13 [(5,12),(10,10)]) ?_)
   simp -implicitDefEqProofs only[push_cast,zz,seval,ieS,ieC,hbs,hcs]
 ·have hen:endN l g=m:=endN_eq hm hj (fun _=>by omega)
  have hep:endP l g=bysP g m:=by unfold endP bysP;rw[hen]
  clear hK
  cases m with
  | zero=>
   simp -implicitDefEqProofs only[push_cast,zz,seval,b62_1,r62_2,ieS,ieC,hlt]
   refine postF.mk' (fun _=>default) [none] ?_
   simp -implicitDefEqProofs only[push_cast,zz,seval,fs62,hen,hep,lx,bysP,List.range_zero]
  | succ m=>
   have hbl:=bysP_len g (m+1)
   simp -implicitDefEqProofs only[push_cast,zz,seval,b62_1,r62_2,ieS,ieC,hlt]
   refine postF.mk' (fun _=>M) [some 5] ?_
   simp -implicitDefEqProofs only[push_cast,zz,seval,fs62,hen,hep,lx,hbl,Nat.zero_lt_succ]
def ent62:Entry:=spOf fs62 invIe
theorem e62:EntryOk Tryz.prog 62 ent62:=entry_of ok62 invIe
@[push_cast] theorem ent62_app (us:List SV) (look:Look) (x:Nat->Xf.Loc) (k:Nat):ent62 us look x k=spOf fs62 invIe us look x k:=rfl
def reM (a:EnA):Mem:=[some (.ro,a.L,.cells (reV a.LS a.e 2 a.LO)),some (.ro,a.LS,.ints .i64 a.e.st),some (.ro,a.LO,.ints .u8 a.e.out)]
def fs25:FS where
 A:=EnA
 args:=fun a=>[.ptr 0 a.L 0 0 0]
 mem:=reM
 pre:=fun a=>a.e.ok/\a.e.out.length<=200000000
 res:=fun a x=>.sl 3 (x 0) 1 0 (encEnd a.e).length
 out:=fun _ _=>[]
 new:=fun a x=>[(x 0,.ints .u8 (encEnd a.e))]
theorem ok25:FSOk Tryz.prog 25 fs25:=by
 refine⟨⟨_,Tryz.func25,by kernel_rfl,by kernel_rfl⟩,fun a=>⟨by simp[fs25,reM,push_cast,noMine,argOwn,Chunk.frArg],by simp[fs25,reM,push_cast,outOk,Chunk.ext],fun x=>.inl (by simp[fs25,reM,push_cast,frNew,frOut,Chunk.fr])⟩,fun a hp=>?_⟩
 obtain⟨L,LS,LO,⟨kind,st,low,high,out⟩,ctx,bit⟩:=a
 obtain⟨⟨h1,h2,h3,h4,h5,h6⟩,h7⟩:ivOk2 kind st low high/\out.length<=200000000:=hp
 change Tri Tryz.prog 25 [.ptr 0 L 0 0 0] (reM ⟨L,LS,LO,⟨kind,st,low,high,out⟩,ctx,bit⟩) (postF fs25 ⟨L,LS,LO,⟨kind,st,low,high,out⟩,ctx,bit⟩)
 have hel:=endP_len low high
 have hen:=endN_le low high
 have hfin:encEnd ⟨kind,st,low,high,out⟩=out++endP low high:=rfl
 refine tri_evS (hyp (l:=[(62,ent62)]) (lp:=[]) ⟨e62,trivial⟩ trivial) Tryz.func25 comp25 (rs:=[.tmp 2]) (by rfl) Tryz.ntmps25 17 ?_
 simp -implicitDefEqProofs only[push_cast,zz,seval,ir25,reM,reV,fs62,h3,h4,h5]
 repeat refine om_ ?_
 intro X
 repeat refine om_ ?_
 refine postF.mk' (fun _=>X 11 16) [some 0,some 1,some 2,some 16] ?_
 simp -implicitDefEqProofs only[push_cast,zz,seval,fs25,reM,reV,hfin,List.length_append,Int.natCast_add]
def ent25:Entry:=spOf fs25 invRe
theorem e25:EntryOk Tryz.prog 25 ent25:=entry_of ok25 invRe
@[push_cast] theorem ent25_app (us:List SV) (look:Look) (x:Nat->Xf.Loc) (k:Nat):ent25 us look x k=spOf fs25 invRe us look x k:=rfl
def fs23:FS where
 A:=MdA
 args:=fun a=>[.agg [.int .i64 a.kind,.sl 0 a.L 1 0 a.st.length]]
 mem:=mdM
 pre:=fun a=>mdOk a.kind a.st
 res:=fun a x=>.tup [.ptr 2 (x 1) 0 0 0,.int .i64 0]
 out:=fun _ _=>[]
 new:=fun a x=>[(x 0,.ints .i64 a.st),(x 1,.cells [.int .i64 a.kind,.sl 1 (x 0) 1 0 a.st.length,.int .u64 0,.int .u64 4294967295,nilSV])]
theorem ok23:FSOk Tryz.prog 23 fs23:=by
 refine⟨⟨_,Tryz.func23,by kernel_rfl,by kernel_rfl⟩,fun a=>⟨by simp[fs23,mdM,push_cast,noMine,argOwn,Chunk.frArg],by simp[fs23,mdM,push_cast,outOk,Chunk.ext],fun x=>.inl (by simp[fs23,mdM,push_cast,frNew,frOut,Chunk.fr])⟩,fun a hp=>?_⟩
 obtain⟨L,kind,st⟩:=a
 have hp':mdOk kind st:=hp
 have hl:st.length<=1000000:=by have:=hp'.2;omega
 change Tri Tryz.prog 23 [.agg [.int .i64 kind,.sl 0 L 1 0 st.length]] [some (.ro,L,.ints .i64 st)] (postF fs23 ⟨L,kind,st⟩)
 refine tri_evS (hyp (l:=[(54,ent54),(55,ent55)]) (lp:=[(56,rwholeF)]) ⟨e54,e55,trivial⟩ ⟨p56,trivial⟩) Tryz.func23 comp23 (rs:=[.tmp 2,.tmp 3]) (by rfl) Tryz.ntmps23 20 ?_
 simp -implicitDefEqProofs only[push_cast,zz,seval,ir23,fs54,fs55,mdM,hp',hl]
 intro X
 repeat refine om_ ?_
 intro X1
 repeat refine om_ ?_
 refine postF.mk' (fun j=>if j=0 then X1 1 15 else X1 4 19) [some 0,some 15,some 19] ?_
 simp -implicitDefEqProofs only[push_cast,zz,seval,fs23,mdM]
def ent23:Entry:=spOf fs23 invMd
theorem e23:EntryOk Tryz.prog 23 ent23:=entry_of ok23 invMd
@[push_cast] theorem ent23_app (us:List SV) (look:Look) (x:Nat->Xf.Loc) (k:Nat):ent23 us look x k=spOf fs23 invMd us look x k:=rfl
def b6_1:IR:=
 .seq (r_ [b_ 14 .lss 13 12] []) (.seq (.cond (.t 14) (.skip) (.exit 0)) (.seq (.block 1 (.seq (r_ [m_ 15 13,m_ 5 15] [14,15]) (.seq (.regT (.split 4 8 (.leaf [0,1,2,3,4,5,6,7,8,9,10]) (.split 3 9 (.split 4 9 (.leaf [0,1,2,3,5,6,7,8,4,9,10]) (.leaf [0,1,2,3,5,6,7,8,9,4,10])) (.leaf [0,1,2,5,6,7,8,9,3,4,10]))) [m_ 16 0,m_ 17 5,i_ 18 16 17 1,⟨some 19,none,⟨[11],[]⟩,.ld true none 10 1 (.t 18)⟩,⟨some 20,none,⟨[11],[]⟩,.str (.t 19)⟩,m_ 21 1,m_ 22 5,i_ 23 21 22 1,⟨some 24,none,⟨[10],[]⟩,.ld true none 11 1 (.t 23)⟩,⟨some 25,none,⟨[10],[]⟩,.str (.t 24)⟩,o_ 26 (.binT .neq (.t 20) (.t 25))] [5,16,17,18,19,20,21,22,23,24,25] []) (.cond (.t 26) (.seq (r_ [o_ 4 (.mov (.k (.bool false)))] [0,1,12,13,26]) (.ret)) (.skip))))) (r_ [a_ 27 13 1,m_ 13 27] [4,26,27])))
def r6_2:IR:=
 .seq (r_ [o_ 4 (.mov (.k (.bool true)))] [0,1,12,13]) (.ret)
def ir6:IR:=
 .seq (r_ [o_ 4 (.mov (.k (.bool false)))] [4]) (.seq (.seq (r_ [m_ 6 0,h_ 7 6,m_ 8 1,h_ 9 8,b_ 10 .neq 7 9] [6,7,8,9]) (.cond (.t 10) (.seq (r_ [o_ 4 (.mov (.k (.bool false)))] [0,1,10]) (.ret)) (.skip))) (.seq (.seq (r_ [m_ 11 0,h_ 12 11,z_ 13 0] [4,10,11]) (.block 0 (.loop b6_1))) (r6_2)))
def kp6_1:List Nat:=[0,1,12,13]
def kl6_1:List Nat:=[10,11]
attribute [push_cast] kp6_1 kl6_1
set_option maxRecDepth 4000 in
theorem comp6:(Tryz.f6.body.bind fun c=>compC tab isP chkAll ir6 c)=some ir6:=by kernel_rfl
def b5_1:IR:=
 .seq (.seq (r_ [m_ 32 11,c_ 33 .geq 32 0] [32]) (.cond (.t 33) (.skip) (.exit 0))) (.seq (.block 1 (.seq (r_ [o_ 37 (.ld false (some 2) 0 0 (.t 9)),o_ 38 (.call (some 4) 32 23 [.t 37]),m_ 36 38,e_ 39 36 0,e_ 40 36 1,m_ 12 39,m_ 13 40] [13,33,36,37,38,39,40]) (.seq (r_ [m_ 41 8,m_ 42 12,o_ 43 (.build [.val (.pointer none),.val (.pointer none),y_] [(0,1,.t 42)]),o_ 44 (.box 36 (.t 43)),m_ 45 10,h_ 46 45,m_ 47 11,f_ 48 3 2,l_ 49 48,o_ 50 (.call none 37 24 [.t 41,.t 44,.t 46,.t 47,.t 49])] [41,42,43,44,45,46,47,48,49,50]) (.seq (r_ [m_ 51 10,m_ 52 12,o_ 53 (.call (some 4) 41 25 [.t 52]),o_ 54 (.brecs 45 1 .u8 [.t 53]),o_ 55 (.app 46 1 24 (.t 51) (.t 54)),m_ 10 55] [51,52,53,54,55]) (r_ [m_ 56 12,n_ 57 56,f_ 58 57 0,o_ 59 (.ld false (some 2) 0 0 (.t 58)),s_ 2 .i64 9 59] [12,56,57,58,59]))))) (r_ [m_ 34 11,c_ 35 .sub 34 1,m_ 11 35] [34,35]))
def r5_2:IR:=
 .seq (r_ [m_ 60 10,m_ 6 60,z_ 7 0] [3,8,9,10,11,60]) (.ret)
def ir5:IR:=
 .seq (r_ [o_ 3 (.box 10 (.t 0)),o_ 6 (.mov (.k nilSV)),z_ 7 0] [0,6,7]) (.seq (.seq (r_ [o_ 14 (.ld false (some 3) 0 0 (.t 3)),o_ 15 (.call (some 4) 11 18 [.t 14]),o_ 16 (.not (.t 15))] [14,15]) (.cond (.t 16) (.seq (r_ [o_ 6 (.mov (.k nilSV)),z_ 7 70] [1,2,3,16]) (.ret)) (.skip))) (.seq (.seq (r_ [m_ 17 2,m_ 18 1,o_ 19 (.callp 19 [.t 17,.t 18]),o_ 20 (.not (.t 19))] [6,7,16,17,18,19]) (.cond (.t 20) (.seq (r_ [o_ 6 (.mov (.k nilSV)),z_ 7 2] [1,2,3,20]) (.ret)) (.skip))) (.seq (r_ [f_ 21 3 0,l_ 22 21,f_ 23 3 1,l_ 24 23,m_ 25 1,o_ 26 (.call (some 8) 15 20 [.t 22,.t 24,.t 25]),m_ 8 26] [1,6,7,20,21,22,23,24,25,26]) (.seq (r_ [m_ 27 2,o_ 28 (.call (some 4) 23 21 [.t 27]),o_ 9 (.alloc 27 [y_,nilSV]),s_ 2 .i64 9 28] [2,27,28]) (.seq (r_ [o_ 10 (.mov (.k nilSV))] []) (.seq (.seq (r_ [o_ 29 (.ld false (some 3) 0 0 (.t 3)),o_ 30 (.call (some 4) 28 22 [.t 29]),c_ 31 .sub 30 1,m_ 11 31] [29,30,31]) (.block 0 (.loop b5_1))) (r5_2)))))))
def kp5_1:List Nat:=[3,8,9,10,11]
def kl5_1:List Nat:=[32,33,34,35,36,37,38,39,40,41,42,43,44,45,46]
attribute [push_cast] kp5_1 kl5_1
set_option maxRecDepth 4000 in
theorem comp5:(Tryz.f5.body.bind fun c=>compC tab isP chkAll ir5 c)=some ir5:=by kernel_rfl
structure SsA where
 L1:Xf.Loc
 r1:List (Xf.Loc×List Int)
 L2:Xf.Loc
 r2:List (Xf.Loc×List Int)
def invSs:List SV->Look->Option (SsA×List Nat)
 | [.sl c _ 1 0 _,.sl d _ 1 0 _],look=>match rowBy look c,rowBy look d with
  | some (L1,r1),some (L2,r2)=>some (⟨L1,r1,L2,r2⟩,[c,d])
  | _,_=>none
 | _,_=>none
attribute [push_cast] invSs
def fs6:FS where
 A:=SsA
 args:=fun a=>[.sl 0 a.L1 1 0 a.r1.length,.sl 1 a.L2 1 0 a.r2.length]
 mem:=fun a=>[some (.ro,a.L1,.recs 1 false [] (a.r1.map byRc)),some (.ro,a.L2,.recs 1 false [] (a.r2.map byRc))]
 pre:=fun a=>a.r1.map (·.2)=a.r2.map (·.2)/\a.r1.length<=1000000000
 res:=fun _ _=>.bool true
 out:=fun _ _=>[]
 new:=fun _ _=>[]
theorem ok6:FSOk Tryz.prog 6 fs6:=by
 refine⟨⟨_,Tryz.func6,by kernel_rfl,by kernel_rfl⟩,fun a=>⟨by simp[fs6,push_cast,noMine,argOwn,Chunk.frArg],by simp[fs6,push_cast,outOk,Chunk.ext],fun x=>.inl (by simp[fs6,push_cast,frNew,frOut,Chunk.fr])⟩,fun a hp=>?_⟩
 obtain⟨L1,r1,L2,r2⟩:=a
 obtain⟨he,hl⟩:r1.map (·.2)=r2.map (·.2)/\r1.length<=1000000000:=hp
 have hle:r2.length=r1.length:=by have:=congrArg List.length he;rw[List.length_map,List.length_map]at this;exact this.symm
 have hm1:(r1.map byRc).length=r1.length:=List.length_map _
 have hm2:(r2.map byRc).length=r1.length:=by rw[List.length_map,hle]
 have hlI:(r2.length:Int)=r1.length:=by omega
 change Tri Tryz.prog 6 [.sl 0 L1 1 0 r1.length,.sl 1 L2 1 0 r2.length] [some (.ro,L1,.recs 1 false [] (r1.map byRc)),some (.ro,L2,.recs 1 false [] (r2.map byRc))] (postF fs6 ⟨L1,r1,L2,r2⟩)
 rw[hlI]
 refine tri_evS (hyp (l:=[]) (lp:=[]) trivial trivial) Tryz.func6 comp6 (rs:=[.tmp 4]) (by rfl) Tryz.ntmps6 12 ?_
 simp -implicitDefEqProofs only[push_cast,zz,seval,ir6]
 refine evS_loopU (A:=Nat) kp6_1 kl6_1 (fun i=>[(13,.int .i64 i)]) (fun _=>[]) (fun i=>i<=r1.length) (fun i=>r1.length-i) 0 (Nat.zero_le _) (Sub.pt ?_) ?_
 ·simp -implicitDefEqProofs only[push_cast,zz,seval]
 intro i hi K hK
 have hi:i<=r1.length:=hi
 by_cases hi':i<r1.length
 ·have hii:(i:Int)<r1.length:=by omega
  have hi2:i<r2.length:=by omega
  have q1:=recAt_By hi' []
  have q2:=recAt_By hi2 []
  have hr:r1[i].2=r2[i].2:=by
   have h1:(r1.map (·.2))[i]?=some r1[i].2:=by rw[List.getElem?_map,List.getElem?_eq_getElem hi'];rfl
   have h2:(r2.map (·.2))[i]?=some r2[i].2:=by rw[List.getElem?_map,List.getElem?_eq_getElem hi2];rfl
   rw[he,h2]at h1
   exact(Option.some.inj h1).symm
  obtain⟨⟨M1,c1⟩,e1⟩:∃ r,r1[i]=r:=⟨_,rfl⟩
  obtain⟨⟨M2,c2⟩,e2⟩:∃ r,r2[i]=r:=⟨_,rfl⟩
  rw[e1]at q1 hr
  rw[e2]at q2 hr
  simp only at q1 q2 hr
  subst hr
  simp -implicitDefEqProofs only[push_cast,zz,seval,b6_1,hii,q1,q2,hm1,hm2,beq_self_eq_true]
  repeat' refine And.intro ?_ ?_
  all_goals first
   | omega
   | (refine hK (i+1) (show i+1<=r1.length by omega) (show r1.length-(i+1)<r1.length-i by omega) _ _ (Sub.pt ?_);simp -implicitDefEqProofs only[push_cast,zz,seval])
 ·obtain rfl:i=r1.length:=by omega
  clear hK
  simp -implicitDefEqProofs only[push_cast,zz,seval,b6_1,r6_2,Int.lt_irrefl]
  refine postF.mk' (fun _=>default) [some 0,some 1] ?_
  simp -implicitDefEqProofs only[push_cast,zz,seval,fs6]
def ent6:Entry:=spOf fs6 invSs
theorem e6:EntryOk Tryz.prog 6 ent6:=entry_of ok6 invSs
@[push_cast] theorem ent6_app (us:List SV) (look:Look) (x:Nat->Xf.Loc) (k:Nat):ent6 us look x k=spOf fs6 invSs us look x k:=rfl
def reWf (w h B kd:Int) (s:RwE):Prop:=(s.known.length:Int)=w*h/\(s.minus.length:Int)=w*h/\(s.since.length:Int)=w*h/\knB s.known B/\mdOk kd s.e.st/\s.e.st.length=12/\s.e.kind=kd
theorem eStep_ok {w h n t B kd:Int} {bands:List Bd} {bks:List Rb} {f:List Int} {s:RwE} (H:reWf w h B kd s) (hB:0<=B) (hn:bks.length<=50000) (w2:w<=200) (w4:h<=200) (t0:0<=t) (t1:t<=24) (hb:∀ b∈bks,b.inp w h) :
  reWf w h (B+13421772800000) kd (eStep w n t bands bks f s)/\(eStep w n t bands bks f s).e.ok/\(eStep w n t bands bks f s).e.out.length<=6600000:=by
 obtain⟨h1,h2,h3,h4,h5,h6,h7⟩:=H
 have hnew:=newEn_ok (kind:=s.e.kind) (st:=s.e.st) (by rw[h7];exact h5)
 have hs:=(eSl_same w n t bands bks f ⟨s.known,s.minus,s.since,newEn s.e.kind s.e.st⟩ bks.length).1
 have ho:=eSl_ok (n:=n) (t:=t) (bands:=bands) (bks:=bks) (f:=f) (B:=B) (C:=0) (s:=⟨s.known,s.minus,s.since,newEn s.e.kind s.e.st⟩) ⟨h4,hnew,h6,Nat.le_refl _⟩ hB h1 w2 w4 t0 t1 hb bks.length (Nat.le_refl _)
 have e:(eStep w n t bands bks f s)=(eSl w n t bands bks f ⟨s.known,s.minus,s.since,newEn s.e.kind s.e.st⟩ bks.length).s:=rfl
 rw[<-e]at hs ho
 obtain⟨a1,a2,a3,a4,a5⟩:=hs
 simp only at a1 a2 a3
 obtain⟨o1,o2,o3,o4⟩:=ho
 have hk:(eStep w n t bands bks f s).e.kind=kd:=a5.trans h7
 exact⟨⟨by rw[a1];exact h1,by rw[a2];exact h2,by rw[a3];exact h3,o1.mono (by omega),by rw[<-hk];exact o2.md o3,o3,hk⟩,o2,by omega⟩
theorem re0_ok {w h kd:Int} (hw:0<=w*h) (hk:kd=0∨kd=1):reWf w h 0 kd (re0 w h kd):=by
 have hl:∀ {α:Type} (a:α),((List.replicate (w*h).toNat a).length:Int)=w*h:=fun a=>by rw[List.length_replicate];omega
 refine⟨hl _,hl _,hl _,fun x hx=>?_,zero12_ok hk,List.length_replicate,rfl⟩
 have:=List.eq_of_mem_replicate hx
 omega
def onSe (n:Nat):Option (Xf.Loc×List Bool)->SV
 | none=>.sl 4096 nilLoc0 1 0 0
 | some (O,_)=>.sl 21 O 1 0 n
def onCe:Option (Xf.Loc×List Bool)->List (Nat×Xf.Own×Xf.Loc×Xf.Chunk)->List (Nat×Xf.Own×Xf.Loc×Xf.Chunk)
 | none,r=>r
 | some (O,l),r=>(21,.mine,O,.bools l)::r
attribute [push_cast] onSe onCe
def fs5:FS where
 A:=EcA
 args:=fun a=>[plV a.p a.L 0,.int .i64 a.lv,.int .i64 a.kd]
 mem:=fun a=>[some (.ro,a.L,.ints .i64 a.p.xs)]
 pre:=fun a=>a.p.xs.length<=140737488355328/\(0<a.p.xs.length->a.L.nil=false)
 res:=fun a x=>.tup [.sl 1 (lx (a.p.Ok/\argsOk a.lv a.kd) x 0) 1 0 (encP a.p a.lv a.kd).length,.int .i64 (encE a.p a.lv a.kd)]
 out:=fun _ _=>[]
 new:=fun a x=>[(lx (a.p.Ok/\argsOk a.lv a.kd) x 0,.recs 1 true [] (byOf (fun i=>x (i+1)) (encP a.p a.lv a.kd)))]
set_option maxRecDepth 8000 in
set_option maxHeartbeats 4000000 in
theorem ok5:FSOk Tryz.prog 5 fs5:=by
 refine⟨⟨_,Tryz.func5,by kernel_rfl,by kernel_rfl⟩,fun a=>⟨by simp[fs5,push_cast,noMine,argOwn,Chunk.frArg],by simp[fs5,push_cast,outOk,Chunk.ext],fun x=>.inl (by simp[fs5,push_cast,frNew,frOut,Chunk.fr])⟩,fun a hp=>?_⟩
 obtain⟨⟨w,h,xs⟩,L,lv,kd⟩:=a
 obtain⟨h1,hLn⟩:xs.length<=140737488355328/\(0<xs.length->L.nil=false):=hp
 change Tri Tryz.prog 5 [plV ⟨w,h,xs⟩ L 0,.int .i64 lv,.int .i64 kd] [some (.ro,L,.ints .i64 xs)] (postF fs5 ⟨⟨w,h,xs⟩,L,lv,kd⟩)
 refine tri_evS (hyp (l:=[(18,ent18),(20,ent20),(21,ent21),(22,ent22),(23,ent23),(24,ent24E),(25,ent25)]) (lp:=[(19,styF)]) ⟨e18,e20,e21,e22,e23,e24E,e25,trivial⟩ ⟨p19,trivial⟩) Tryz.func5 comp5 (rs:=[.tmp 6,.tmp 7]) (by rfl) Tryz.ntmps5 47 ?_
 by_cases hok:(⟨w,h,xs⟩:Pl).Ok
 ·by_cases hag:argsOk lv kd
  ·have hE:encE ⟨w,h,xs⟩ lv kd=0:=by unfold encE;rw[if_pos hok,if_pos hag]
   have hP:encP ⟨w,h,xs⟩ lv kd=eG w (bnL w h lv) (rbL w h lv) xs (planesP xs).toNat 0 (re0 w h kd):=by rw[enc_eq];unfold refP;rw[if_pos ⟨hok,hag⟩]
   obtain⟨⟨a1,a2,a3,a4,a5⟩,b1,hall⟩:=id hok
   simp only at a1 a2 a3 a4 a5 b1 hall
   have hl:=hok.len
   simp only at hl
   have hbn:bnOk w h lv:=⟨hag.1,hag.2.1,by omega,by omega,by omega,by omega⟩
   have hkd:=hag.2.2
   have hs2:stOk kd lv:=⟨hkd,hag.1,hag.2.1⟩
   have hpb:=planesP_bd hall
   have hwh0:0<=w*h:=by omega
   obtain⟨v1,v2,v3⟩:=rbL_ok hbn
   obtain⟨P,hPP⟩:∃ P:Nat,planesP xs=P:=⟨(planesP xs).toNat,by omega⟩
   have hP0:0<P->0<xs.length:=fun hp=>by
    rcases xs with _ | ⟨x,xs⟩
    ·exact absurd hPP (by have:planesP []=0:=rfl;omega)
    ·exact Nat.succ_pos _
   rw[hPP,Int.toNat_natCast]at hP
   rw[hPP]at hpb
   obtain⟨N,hN⟩:∃ N:Nat,w*h=(N:Int):=⟨(w*h).toNat,by omega⟩
   have h00:=re0_ok (kd:=kd) hwh0 hkd
   have hw0:re0 w h kd=⟨List.replicate (w*h).toNat 0,List.replicate (w*h).toNat false,List.replicate (w*h).toNat (-1),newEn kd (List.replicate 12 0)⟩:=rfl
   have hz12:([0,0,0,0,0,0,0,0,0,0,0,0]:List Int)=List.replicate 12 0:=rfl
   have c9:(N:Int)<=8192:=by omega
   simp -implicitDefEqProofs only[push_cast,zz,seval,ir5,fs8,fs11,fs20,fs21,hok,hall,hs2,hkd,hbn,hPP,hN,c9,Int.toNat_natCast]
   intro X
   repeat refine om_ ?_
   intro X1 X2
   repeat refine om_ ?_
   obtain⟨LB,hLB⟩:∃ L,lx (0<(bnL w h lv).length) (fun j=>X1 5 (15+j)) 0=L:=⟨_,rfl⟩
   rw[hLB,hz12]
   simp only[hN,Int.toNat_natCast]at hw0
   obtain⟨BN,hBN⟩:∃ B,bnL w h lv=B:=⟨_,rfl⟩
   obtain⟨BK,hBK⟩:∃ B,rbL w h lv=B:=⟨_,rfl⟩
   rw[hBN,hBK]at hP v2
   rw[hBK]at v1
   rw[hBN]at v3
   rw[hBN,hBK]
   refine evS_loopU (A:=Nat×RwE×Xf.Loc×Option (Xf.Loc×List Bool)×List (Xf.Loc×List Int)×Xf.Loc) kp5_1 kl5_1 (fun y=>[(11,.int .i64 (y.1-1)),(10,.sl 29 y.2.2.2.2.2 1 0 y.2.2.2.2.1.length)])
    (fun y=>onCe y.2.2.2.1 [(17,.mine,X1 5 17,.ints .i64 y.2.1.known),(18,.mine,X1 5 18,.bools y.2.1.minus),(19,.mine,X1 5 19,.ints .i64 y.2.1.since),(20,.mine,X1 5 20,.cells [.int .i64 w,.int .i64 h,.sl 15 LB (esz 6 BN.length) 0 BN.length,.sl 16 (X1 5 16) (esz 8 BK.length) 0 BK.length,.sl 17 (X1 5 17) 1 0 N,.sl 18 (X1 5 18) 1 0 N,.sl 19 (X1 5 19) 1 0 N,onSe BK.length y.2.2.2.1]),
     (23,.mine,y.2.2.1,.ints .i64 y.2.1.e.st),(27,.mine,X2 2 27,.cells [.int .i64 kd,.sl 23 y.2.2.1 1 0 12]),(29,.mine,y.2.2.2.2.2,.recs 1 true [] (y.2.2.2.2.1.map byRc))])
    (fun y=>y.1<=P/\y.2.2.2.2.1.map (·.2)++eG w BN BK xs y.1 y.2.2.2.2.1.length y.2.1=encP ⟨w,h,xs⟩ lv kd/\reWf w h (13421772800000*y.2.2.2.2.1.length) kd y.2.1/\(∀ O l,y.2.2.2.1=some (O,l)->l.length=BK.length)/\y.2.2.2.2.1.length+y.1=P) (fun y=>y.1)
    (P,re0 w h kd,X2 1 23,none,[],nilLoc) ⟨Nat.le_refl _,hP.symm,by simpa using h00,fun _ _ h=>(by cases h),by simp⟩ (Sub.of (mkG 47 [(0,0),(10,10),(15,15),(16,16),(17,17),(18,18),(19,19),(20,20),(23,23),(27,27)]) ?_) ?_
   ·simp -implicitDefEqProofs only[push_cast,zz,seval,hw0,newEn]
   intro ⟨k,s,S,o,rows,M⟩ ⟨(hk:k<=P),(hrows:rows.map (·.2)++eG w BN BK xs k rows.length s=encP ⟨w,h,xs⟩ lv kd),(hwf:reWf w h (13421772800000*rows.length) kd s),(ho:∀ O l,o=some (O,l)->l.length=BK.length),(hrl:rows.length+k=P)⟩ K hK
   rcases Nat.eq_zero_or_pos k with hk0 | hk0
   ·obtain⟨t,ht⟩:∃ t,(k:Int)-1=t:=⟨_,rfl⟩
    have hc:¬ (0:Int)<=t:=by omega
    rw[hk0,eG,List.append_nil]at hrows
    have hby:=byOf_eq hrows
    have hlen:rows.length=(encP ⟨w,h,xs⟩ lv kd).length:=by rw[<-hrows,List.length_map]
    have hoa:(⟨w,h,xs⟩:Pl).Ok/\argsOk lv kd:=⟨hok,hag⟩
    have h10:∀ i:Nat,¬ i+1=0:=fun i=>by omega
    clear hK
    cases o with
    | none=>
     simp -implicitDefEqProofs only[push_cast,zz,seval,b5_1,ht,hc,r5_2]
     refine postF.mk' (fun j=>if j=0 then M else (rows.getD (j-1) (nilLoc,[])).1) [some 0,some 29] ?_
     simp -implicitDefEqProofs only[push_cast,zz,seval,fs5,hE,hoa,lx,h10,Nat.add_sub_cancel,hby,hlen,hok,hag]
    | some q=>
     obtain⟨O,l⟩:=q
     simp -implicitDefEqProofs only[push_cast,zz,seval,b5_1,ht,hc,r5_2]
     refine postF.mk' (fun j=>if j=0 then M else (rows.getD (j-1) (nilLoc,[])).1) [some 0,some 29] ?_
     simp -implicitDefEqProofs only[push_cast,zz,seval,fs5,hE,hoa,lx,h10,Nat.add_sub_cancel,hby,hlen,hok,hag]
   ·obtain⟨k,rfl⟩:∃ t,k=t+1:=⟨k-1,by omega⟩
    have hc:(0:Int)<=k:=by omega
    have hk1:(k:Int)+1-1=k:=by omega
    have hF:L.nil=false:=hLn (hP0 (by omega))
    obtain⟨kn,mn,sn,⟨kind',st,lo0,hi0,out0⟩⟩:=s
    obtain⟨y1,y2,y3,y4,y5,y6,y7⟩:=id hwf
    simp only at y1 y2 y3 y4 y5 y6 y7
    subst y7
    have hSO:=eStep_ok (n:=rows.length) (t:=k) (bands:=BN) (bks:=BK) (f:=xs) hwf (by omega) v1 (by omega) (by omega) (by omega) (by omega) (fun b hb=>(v2 b hb).1)
    have hst:eStep w rows.length k BN BK xs ⟨kn,mn,sn,⟨kind',st,lo0,hi0,out0⟩⟩=(eSl w rows.length k BN BK xs ⟨kn,mn,sn,newEn kind' st⟩ BK.length).s:=rfl
    have hser:∀ p L LZ LS LO F ol,seR ⟨p,⟨w,h,BN,BK,kn,mn,sn,ol⟩,LZ,L,LS,LO,⟨kind',st,0,4294967295,[]⟩,F,xs,rows.length,k⟩=eSl w rows.length k BN BK xs ⟨kn,mn,sn,newEn kind' st⟩ BK.length:=fun _ _ _ _ _ _ _=>rfl
    have honl:=(eSl_same w rows.length k BN BK xs ⟨kn,mn,sn,newEn kind' st⟩ BK.length).2
    have hcons:eG w BN BK xs (k+1) rows.length ⟨kn,mn,sn,⟨kind',st,lo0,hi0,out0⟩⟩=_:=eG.eq_2 w BN BK xs rows.length ⟨kn,mn,sn,⟨kind',st,lo0,hi0,out0⟩⟩ k
    obtain⟨⟨⟨kn2,mn2,sn2,e2⟩,on2⟩,hD⟩:∃ D,eSl w rows.length k BN BK xs ⟨kn,mn,sn,newEn kind' st⟩ BK.length=D:=⟨_,rfl⟩
    rw[hD]at hst honl
    simp only at hst honl
    rw[hst]at hcons hSO
    simp only[hD]at hser
    obtain⟨hw2,hok2,hout2⟩:=hSO
    obtain⟨ek,est,elo,ehi,eout⟩:=e2
    obtain⟨g1,g2,g3,g4,g5,g6,g7⟩:=id hw2
    simp only at hcons g1 g2 g3 g4 g5 g6 g7 hok2 hout2
    subst g7
    obtain⟨code,hcode⟩:∃ c,encEnd ⟨ek,est,elo,ehi,eout⟩=c:=⟨_,rfl⟩
    rw[hcode]at hcons
    rw[hcons]at hrows
    have hcl:code.length<=200000004:=by
     rw[<-hcode];unfold encEnd endP endN
     rw[List.length_append,List.length_map,List.length_range]
     have:∀ n,n<=4->eout.length+n<=200000004:=fun n hn=>by omega
     simp only
     repeat' split
     all_goals exact this _ (by decide)
    have hnew':EnS.ok ⟨ek,st,0,4294967295,[]⟩:=newEn_ok y5
    have hwk:∀ ol,wkWf ⟨w,h,BN,BK,kn,mn,sn,ol⟩:=fun ol=>⟨by simp only;omega,by simp only;omega,by simp only;omega,by simp only;omega,y1,y2,y3⟩
    have hbo:∀ ol,bksOk ⟨w,h,BN,BK,kn,mn,sn,ol⟩:=fun ol=>⟨v1,v2,v3⟩
    have hkB:knB kn 900000000000000:=y4.mono (by omega)
    have hofw:ofWf xs sn.length:=⟨by omega,fun x hx=>by have:=hall x hx;omega⟩
    have y6I:(st.length:Int)=12:=by omega
    have g6I:(est.length:Int)=12:=by omega
    have hout3:eout.length<=200000000:=by omega
    have hmapl:((rows.map byRc).length:Int)=rows.length:=by rw[List.length_map]
    cases o with
    | none=>
     simp (maxSteps:=3000000) -implicitDefEqProofs only[push_cast,zz,seval,b5_1,hc,hk1,fs23,mdM,y5,y6I,reV,fs24E,seM,wkV,wkW,zeV,hser,hwk,hbo,hkB,hnew',hofw,hF,fs25,reM,hok2,hout2,hcode,g6I,hmapl]
     repeat refine om_ ?_
     intro X3 X4
     repeat refine om_ ?_
     intro X5
     repeat refine om_ ?_
     refine hK (k,⟨kn2,mn2,sn2,⟨ek,est,elo,ehi,eout⟩⟩,X3 1 32,some (X4 9 37,on2),rows++[((X5 2 41).fr 0,code)],X5 4 46) ⟨by omega,by simp only[List.map_append,List.append_assoc,List.length_append,List.length_singleton,Int.natCast_add];exact hrows,by simp only[List.length_append,List.length_singleton,Int.natCast_add];rw[Int.mul_add];exact hw2,fun O' l' h=>(by cases h;exact honl),by simp only[List.length_append,List.length_singleton];omega⟩ (Nat.lt_succ_self k) _ _ (Sub.of (mkG 47 [(0,0),(10,10),(15,15),(16,16),(17,17),(18,18),(19,19),(20,20),(21,37),(23,32),(27,27),(29,46)]) ?_)
     have hrc:(rows++[((X5 2 41).fr 0,code)]).map byRc=rows.map byRc++[[.row ((X5 2 41).fr 0) .u8 code]]:=by rw[List.map_append];rfl
     simp -implicitDefEqProofs only[push_cast,zz,seval,hrc,g6I,List.length_append,sub_all]
     exact⟨by omega,by omega,by omega⟩
    | some q=>
     obtain⟨O,l⟩:=q
     simp (maxSteps:=3000000) -implicitDefEqProofs only[push_cast,zz,seval,b5_1,hc,hk1,fs23,mdM,y5,y6I,reV,fs24E,seM,wkV,wkW,zeV,hser,hwk,hbo,hkB,hnew',hofw,hF,fs25,reM,hok2,hout2,hcode,g6I,hmapl]
     repeat refine om_ ?_
     intro X3 X4
     repeat refine om_ ?_
     intro X5
     repeat refine om_ ?_
     refine hK (k,⟨kn2,mn2,sn2,⟨ek,est,elo,ehi,eout⟩⟩,X3 1 32,some (X4 9 37,on2),rows++[((X5 2 41).fr 0,code)],X5 4 46) ⟨by omega,by simp only[List.map_append,List.append_assoc,List.length_append,List.length_singleton,Int.natCast_add];exact hrows,by simp only[List.length_append,List.length_singleton,Int.natCast_add];rw[Int.mul_add];exact hw2,fun O' l' h=>(by cases h;exact honl),by simp only[List.length_append,List.length_singleton];omega⟩ (Nat.lt_succ_self k) _ _ (Sub.of (mkG 47 [(0,0),(10,10),(15,15),(16,16),(17,17),(18,18),(19,19),(20,20),(21,37),(23,32),(27,27),(29,46)]) ?_)
     have hrc:(rows++[((X5 2 41).fr 0,code)]).map byRc=rows.map byRc++[[.row ((X5 2 41).fr 0) .u8 code]]:=by rw[List.map_append];rfl
     simp -implicitDefEqProofs only[push_cast,zz,seval,hrc,g6I,List.length_append,sub_all]
     exact⟨by omega,by omega,by omega⟩
  ·have hE:encE ⟨w,h,xs⟩ lv kd=2:=by unfold encE;rw[if_pos hok,if_neg hag]
   have hP:encP ⟨w,h,xs⟩ lv kd=[]:=by unfold encP;rw[if_neg (fun h=>hag h.2)]
   have hns:¬ stOk kd lv:=fun h=>hag ⟨h.2.1,h.2.2,h.1⟩
   simp -implicitDefEqProofs only[push_cast,zz,seval,ir5,fs8,hok,hns]
   intro X
   repeat refine om_ ?_
   refine postF.mk' (fun _=>default) [some 0,none] ?_
   have hb:byOf (fun _=>default) []=[]:=rfl
   simp -implicitDefEqProofs only[push_cast,zz,seval,fs5,hE,hP,hok,hag,and_false,lx,hb,List.length_nil]
 ·have hE:encE ⟨w,h,xs⟩ lv kd=70:=by unfold encE;rw[if_neg hok]
  have hP:encP ⟨w,h,xs⟩ lv kd=[]:=by unfold encP;rw[if_neg (fun h=>hok h.1)]
  simp -implicitDefEqProofs only[push_cast,zz,seval,ir5,fs8,hok]
  intro X
  repeat refine om_ ?_
  refine postF.mk' (fun _=>default) [some 0,none] ?_
  have hb:byOf (fun _=>default) []=[]:=rfl
  simp -implicitDefEqProofs only[push_cast,zz,seval,fs5,hE,hP,hok,false_and,lx,hb,List.length_nil]
def ent5:Entry:=spOf fs5 inv4
theorem e5:EntryOk Tryz.prog 5 ent5:=entry_of ok5 inv4
@[push_cast] theorem ent5_app (us:List SV) (look:Look) (x:Nat->Xf.Loc) (k:Nat):ent5 us look x k=spOf fs5 inv4 us look x k:=rfl
def ir3:IR:=
 .seq (r_ [o_ 3 (.box 10 (.t 0)),o_ 6 (.mov (.k (.bool false)))] [0,6]) (.seq (r_ [o_ 12 (.ld false (some 3) 0 0 (.t 3)),m_ 13 1,m_ 14 2,o_ 15 (.call (some 4) 11 4 [.t 12,.t 13,.t 14]),m_ 11 15,e_ 16 11 0,e_ 17 11 1,m_ 7 16,m_ 8 17] [11,12,13,14,15,16,17]) (.seq (r_ [o_ 19 (.ld false (some 3) 0 0 (.t 3)),m_ 20 1,m_ 21 2,o_ 22 (.call (some 4) 15 5 [.t 19,.t 20,.t 21]),m_ 18 22,e_ 23 18 0,e_ 24 18 1,m_ 9 23,m_ 10 24] [1,2,3,18,19,20,21,22,23,24]) (.seq (r_ [m_ 25 8,m_ 26 10,b_ 27 .eql 25 26,m_ 28 27,p_ 28 (m_ 29 7),p_ 28 (m_ 30 9),p_ 28 (o_ 31 (.call (some 4) 19 6 [.t 29,.t 30])),K_ 32 28 31,m_ 33 32,p_ 33 (o_ 34 (.call (some 4) 23 7 [])),K_ 35 33 34,m_ 6 35] [7,8,9,10,25,26,27,28,29,30,31,32,33,34,35]) (.ret))))
set_option maxRecDepth 4000 in
theorem comp3:(Tryz.f3.body.bind fun c=>compC tab isP chkAll ir3 c)=some ir3:=by kernel_rfl
theorem den_nn {c:Nat} {L:Xf.Loc} {s n:Nat} {v:Value} (h:Den (.sl c L s 0 (n:Int)) v) (hn:0<n):L.nil=false:=by
 obtain⟨h1,h2,h3,h4,_⟩:=h
 cases e:L.nil with
 | false=>rfl
 | true=>exact absurd (h4 e) (by omega)
theorem encP_small (p:Pl) (lv kd:Int):(encP p lv kd).length<=1000000000:=by
 by_cases h:p.Ok/\argsOk lv kd
 ·have h1:=encP_len h.1 h.2
  have h2:=planesP_bd h.1.2.2
  omega
 ·unfold encP
  rw[if_neg h]
  exact Nat.zero_le _
theorem tri3 (p:Pl) (hp:p.xs.length<=140737488355328) (lv kd:Int) (L:Xf.Loc) (hL:0<p.xs.length->L.nil=false):Tri Tryz.prog 3 [plV p L 0,.int .i64 lv,.int .i64 kd]
  [some (.ro,L,.ints .i64 p.xs)] (fun v _=>v=.bool true):=by
 obtain⟨w,h,xs⟩:=p
 have hp:xs.length<=140737488355328:=hp
 have hL:0<xs.length->L.nil=false:=hL
 change Tri Tryz.prog 3 [plV ⟨w,h,xs⟩ L 0,.int .i64 lv,.int .i64 kd] [some (.ro,L,.ints .i64 xs)] _
 refine tri_evS (hyp (l:=[(4,ent4),(5,ent5),(6,ent6),(7,ent7)]) (lp:=[]) ⟨e4,e5,e6,e7,trivial⟩ trivial) Tryz.func3 comp3 (rs:=[.tmp 6]) (by rfl) Tryz.ntmps3 27 ?_
 obtain⟨E,hE⟩:∃ E,encE ⟨w,h,xs⟩ lv kd=E:=⟨_,rfl⟩
 have hcl:=encP_small ⟨w,h,xs⟩ lv kd
 obtain⟨CS,hCS⟩:∃ c,encP ⟨w,h,xs⟩ lv kd=c:=⟨_,rfl⟩
 rw[hCS]at hcl
 have hm:=fun f=>byOf_map f CS
 have hml:=fun f=>byL_len f CS
 have hsn:=fun f=>byL_snd f CS
 simp -implicitDefEqProofs only[push_cast,zz,seval,ir3,fs4,fs5,fs6,fs7,hp,hL,hE,hCS,hm,hml,hsn,hcl]
 exact hL
end Go.Proofs.YthicgkilfjjifaaGreat
