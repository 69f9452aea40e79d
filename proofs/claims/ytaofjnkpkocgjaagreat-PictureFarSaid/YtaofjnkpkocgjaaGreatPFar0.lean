import Derived.Test.YtaofjnkpkocgjaaGreatPA3
import Derived.Test.YtaofjnkpkocgjaaGreatKc
import Derived.Test.YtaofjnkpkocgjaaGreatProg
import Derived.Test.YtaofjnkpkocgjaaGreatChecked
import Derived.ProofKit
import Derived.OpenShut
import Derived.SizedLaws
import Derived.ChangeOld
import Derived.Below
set_option linter.unusedVariables false
set_option linter.unusedSimpArgs false
set_option maxRecDepth 1000
namespace Go.Proofs.YtaofjnkpkocgjaaGreat
open Xf
def ir69:IR:=
 .seq (r_ [o_ 4 (.mov (.k (.bool false)))] [4]) (.seq (r_ [m_ 5 0,c_ 6 .geq 5 0,m_ 7 6,p_ 7 (m_ 8 1),p_ 7 (c_ 9 .geq 8 0),K_ 10 7 9,m_ 11 10,p_ 11 (m_ 12 0),p_ 11 (c_ 13 .leq 12 200),K_ 14 11 13,m_ 15 14,p_ 15 (m_ 16 1),p_ 15 (c_ 17 .leq 16 200),K_ 18 15 17,m_ 19 18,p_ 19 (m_ 20 0),p_ 19 (m_ 21 1),p_ 19 (b_ 22 .mul 20 21),p_ 19 (c_ 23 .leq 22 8192),K_ 24 19 23,m_ 4 24] [0,1,5,6,7,8,9,10,11,12,13,14,15,16,17,18,19,20,21,22,23,24]) (.ret))
set_option maxRecDepth 4000 in
theorem comp69:(Tryz.f69.body.bind fun c=>compC tab isP chkAll ir69 c)=some ir69:=by kernel_rfl
def ir79:IR:=
 .seq (r_ [o_ 2 (.mov (.k (.bool false)))] [2]) (.seq (r_ [m_ 3 0,c_ 4 .geq 3 0,m_ 5 4,p_ 5 (m_ 6 0),p_ 5 (c_ 7 .leq 6 255),K_ 8 5 7,m_ 2 8] [0,3,4,5,6,7,8]) (.ret))
set_option maxRecDepth 4000 in
theorem comp79:(Tryz.f79.body.bind fun c=>compC tab isP chkAll ir79 c)=some ir79:=by kernel_rfl
theorem p69:EntryPOk Tryz.prog 69 sidesF:=by
 refine⟨⟨_,Tryz.func69,by kernel_rfl,by kernel_rfl⟩,fun us p v h hp=>?_⟩
 unfold sidesF at h
 split at h<;>cases h
 refine tri_evS (hyp (l:=[]) (lp:=[]) trivial trivial) Tryz.func69 comp69 (rs:=[.tmp 4]) (by rfl) Tryz.ntmps69 10 ?_
 simp -implicitDefEqProofs only[push_cast,zz,seval,ir69,sidesF]
 refine⟨fun h=>?_,by simp only[SidesOk,and_assoc]⟩
 have:=mul_bd h.1 h.2.2.1 h.2.1 h.2.2.2
 omega
theorem p79:EntryPOk Tryz.prog 79 valF:=by
 refine⟨⟨_,Tryz.func79,by kernel_rfl,by kernel_rfl⟩,fun us p v h hp=>?_⟩
 unfold valF at h
 split at h<;>cases h
 refine tri_evS (hyp (l:=[]) (lp:=[]) trivial trivial) Tryz.func79 comp79 (rs:=[.tmp 2]) (by rfl) Tryz.ntmps79 10 ?_
 simp -implicitDefEqProofs only[push_cast,zz,seval,ir79,valF]
 rfl
def b26_1:IR:=
 .seq (.seq (r_ [m_ 35 4,m_ 36 3,b_ 37 .lss 35 36] [35,36]) (.cond (.t 37) (.skip) (.exit 0))) (.seq (.block 1 (.seq (r_ [f_ 40 1 2,l_ 41 40,m_ 42 4,i_ 43 41 42 1,L_ 44 43,o_ 45 (.callp 79 [.t 44]),o_ 46 (.not (.t 45)),m_ 47 46,q_ 47 (f_ 48 1 3),q_ 47 (l_ 49 48),q_ 47 (m_ 50 4),q_ 47 (i_ 51 49 50 1),q_ 47 (L_ 52 51),q_ 47 (o_ 53 (.callp 79 [.t 52])),q_ 47 (o_ 54 (.not (.t 53))),k_ 55 47 54,m_ 56 55,q_ 56 (f_ 57 1 4),q_ 56 (l_ 58 57),q_ 56 (m_ 59 4),q_ 56 (i_ 60 58 59 1),q_ 56 (L_ 61 60),q_ 56 (o_ 62 (.callp 79 [.t 61])),q_ 56 (o_ 63 (.not (.t 62))),k_ 64 56 63] [37,40,41,42,43,44,45,46,47,48,49,50,51,52,53,54,55,56,57,58,59,60,61,62,63]) (.cond (.t 64) (.seq (r_ [o_ 2 (.mov (.k (.bool false)))] [1,3,4,64]) (.ret)) (.skip)))) (r_ [m_ 38 4,a_ 39 38 1,m_ 4 39] [2,38,39,64]))
def r26_2:IR:=
 .seq (r_ [o_ 2 (.mov (.k (.bool true)))] [1,3,4]) (.ret)
def ir26:IR:=
 .seq (r_ [o_ 1 (.box 10 (.t 0)),o_ 2 (.mov (.k (.bool false)))] [0,2]) (.seq (.seq (r_ [f_ 5 1 0,l_ 6 5,f_ 7 1 1,l_ 8 7,o_ 9 (.callp 69 [.t 6,.t 8]),o_ 10 (.not (.t 9))] [5,6,7,8,9]) (.cond (.t 10) (.seq (r_ [o_ 2 (.mov (.k (.bool false)))] [1,10]) (.ret)) (.skip))) (.seq (r_ [f_ 11 1 0,l_ 12 11,f_ 13 1 1,l_ 14 13,b_ 15 .mul 12 14,m_ 3 15] [2,10,11,12,13,14,15]) (.seq (.seq (r_ [f_ 16 1 2,l_ 17 16,h_ 18 17,m_ 19 3,b_ 20 .neq 18 19,m_ 21 20,q_ 21 (f_ 22 1 3),q_ 21 (l_ 23 22),q_ 21 (h_ 24 23),q_ 21 (m_ 25 3),q_ 21 (b_ 26 .neq 24 25),k_ 27 21 26,m_ 28 27,q_ 28 (f_ 29 1 4),q_ 28 (l_ 30 29),q_ 28 (h_ 31 30),q_ 28 (m_ 32 3),q_ 28 (b_ 33 .neq 31 32),k_ 34 28 33] [16,17,18,19,20,21,22,23,24,25,26,27,28,29,30,31,32,33]) (.cond (.t 34) (.seq (r_ [o_ 2 (.mov (.k (.bool false)))] [1,3,34]) (.ret)) (.skip))) (.seq (.seq (r_ [z_ 4 0] [2,34]) (.block 0 (.loop b26_1))) (r26_2)))))
set_option maxRecDepth 4000 in
theorem comp26:(Tryz.f26.body.bind fun c=>compC tab isP chkAll ir26 c)=some ir26:=by kernel_rfl
def I26 (w h:Int) (R G B:List Int) (L1 L2 L3 L0:Xf.Loc) (i:Nat):List Ent×Mem:=
 (mkS 65 [(1,.ptr 10 L0 0 0 0),(3,.int .i64 (w*h)),(4,.int .i64 i)],
  mkM 17 [(0,.ro,L1,.ints .i64 R),(1,.ro,L2,.ints .i64 G),(2,.ro,L3,.ints .i64 B),(10,.mine,L0,.cells [.int .i64 w,.int .i64 h,.sl 0 L1 1 0 R.length,.sl 1 L2 1 0 G.length,.sl 2 L3 1 0 B.length])])
def lp26 (w h:Int) (R G B:List Int) (L1 L2 L3 L0:Xf.Loc):LoopS where
 A:=Nat
 I:=I26 w h R G B L1 L2 L3 L0
 R:=fun i=>i<=(w*h).toNat/\∀ j,j<i->ValOk (rd R (j:Nat))/\ValOk (rd G (j:Nat))/\ValOk (rd B (j:Nat))
 mu:=fun i=>(w*h).toNat-i
theorem ok26:FSOk Tryz.prog 26 fs49:=by
 refine⟨⟨_,Tryz.func26,by kernel_rfl,by kernel_rfl⟩,fun a=>⟨by simp[fs49,imM,push_cast,noMine,argOwn,Chunk.frArg],by simp[fs49,imM,push_cast,outOk,Chunk.ext],fun x=>.inl (by simp[fs49,imM,push_cast,frNew,frOut,Chunk.fr])⟩,fun a hp=>?_⟩
 obtain⟨⟨w,h,R,G,B⟩,L1,L2,L3⟩:=a
 change Tri Tryz.prog 26 [imV ⟨w,h,R,G,B⟩ L1 L2 L3 0] (imM ⟨w,h,R,G,B⟩ L1 L2 L3) (postF fs49 ⟨⟨w,h,R,G,B⟩,L1,L2,L3⟩)
 refine tri_evS (hyp (l:=[]) (lp:=[(69,sidesF),(79,valF)]) trivial ⟨p69,p79,trivial⟩) Tryz.func26 comp26 (rs:=[.tmp 2]) (by rfl) Tryz.ntmps26 14 ?_
 simp -implicitDefEqProofs only[push_cast,zz,seval,ir26]
 intro X
 have fin:∀ p:Prop,[Decidable p]->(p↔(⟨w,h,R,G,B⟩:Im).Ok)->decide p=decide (⟨w,h,R,G,B⟩:Im).Ok:=fun p _ e=>decide_eq_decide.2 e
 refine⟨fun hn=>?_,fun hs=>?_⟩
 ·have e:¬ (⟨w,h,R,G,B⟩:Im).Ok:=fun H=>hn H.1
  refine postF.mk' (fun _=>default) [some 0,some 1,some 2] ?_
  simp -implicitDefEqProofs only[push_cast,zz,seval,fs49,e,decide_false]
 ·have hm:=hs.bd
  refine⟨by omega,by omega,fun hn=>?_,fun hy=>?_⟩
  ·have e:¬ (⟨w,h,R,G,B⟩:Im).Ok:=fun H=>by
    obtain⟨_,⟨a,_⟩,⟨b,_⟩,⟨c,_⟩⟩:=H
    simp only at a b c
    omega
   refine postF.mk' (fun _=>default) [some 0,some 1,some 2] ?_
   simp -implicitDefEqProofs only[push_cast,zz,seval,fs49,e,decide_false]
  ·obtain⟨a,b,c⟩:R.length=w*h/\G.length=w*h/\B.length=w*h:=by omega
   refine evS_loop _ _ _ (lp26 w h R G B L1 L2 L3 (X 0 10)) (0:Nat) ⟨Nat.zero_le _,fun j hj=>absurd hj (Nat.not_lt_zero _)⟩ ?_ ?_
   ·change Sub _ _ (I26 w h R G B L1 L2 L3 (X 0 10) 0).1 (I26 w h R G B L1 L2 L3 (X 0 10) 0).2
    simp -implicitDefEqProofs only[push_cast,zz,seval,I26]
    exact Sub.refl _ _
   ·intro (i:Nat) ⟨(hi:i<=(w*h).toNat),(hj:∀ j,j<i->ValOk (rd R (j:Nat))/\ValOk (rd G (j:Nat))/\ValOk (rd B (j:Nat)))⟩
    change evS _ _ _ _ (I26 w h R G B L1 L2 L3 (X 0 10) i).1 (I26 w h R G B L1 L2 L3 (X 0 10) i).2
    simp -implicitDefEqProofs only[push_cast,zz,seval,I26,b26_1,r26_2]
    refine⟨fun hl=>⟨by omega,by omega,by omega,by omega,fun h=>⟨h,h,by omega,by omega⟩,fun h=>⟨h,by omega,by omega⟩,fun h=>⟨h,h,by omega,by omega⟩,fun h=>⟨h,by omega,by omega⟩,fun hb=>?_,fun hg=>⟨by omega,by omega,?_⟩⟩,fun hl=>?_⟩
    ·have e:¬ (⟨w,h,R,G,B⟩:Im).Ok:=fun H=>by
      obtain⟨_,⟨_,x⟩,⟨_,y⟩,⟨_,z⟩⟩:=H
      rcases hb with (hb | hb) | hb
      ·exact hb (allVal_rd.1 x i (show i<R.length by omega))
      ·exact hb (allVal_rd.1 y i (show i<G.length by omega))
      ·exact hb (allVal_rd.1 z i (show i<B.length by omega))
     refine postF.mk' (fun _=>default) [some 0,some 1,some 2] ?_
     simp -implicitDefEqProofs only[push_cast,zz,seval,fs49,e,decide_false]
    ·refine lpK_mk (i+1:Nat) ⟨by omega,fun j h=>?_⟩ (show(w*h).toNat-(i+1)<(w*h).toNat-i by omega) ?_
     ·by_cases e:j=i
      ·subst e;simp only[not_or,Classical.not_not]at hg;exact⟨hg.1.1,hg.1.2,hg.2⟩
      ·exact hj j (by omega)
     ·change Sub _ _ (I26 w h R G B L1 L2 L3 (X 0 10) (i+1)).1 (I26 w h R G B L1 L2 L3 (X 0 10) (i+1)).2
      simp -implicitDefEqProofs only[push_cast,zz,seval,I26]
      exact Sub.refl _ _
    ·have e:(⟨w,h,R,G,B⟩:Im).Ok:=⟨hs,⟨a,allVal_rd.2 fun j h=>(hj j (by simp only at h;omega)).1⟩,⟨b,allVal_rd.2 fun j h=>(hj j (by simp only at h;omega)).2.1⟩,⟨c,allVal_rd.2 fun j h=>(hj j (by simp only at h;omega)).2.2⟩⟩
     refine postF.mk' (fun _=>default) [some 0,some 1,some 2] ?_
     simp -implicitDefEqProofs only[push_cast,zz,seval,fs49,e,decide_true]
def ent26:Entry:=spOf fs49 inv49
theorem e26:EntryOk Tryz.prog 26 ent26:=entry_of ok26 inv49
@[push_cast] theorem ent26_app (us:List SV) (look:Look) (x:Nat->Xf.Loc) (k:Nat):ent26 us look x k=spOf fs49 inv49 us look x k:=rfl
def b81_1:IR:=
 .seq (r_ [b_ 10 .lss 9 8] []) (.seq (.cond (.t 10) (.skip) (.exit 0)) (.seq (.block 1 (.seq (r_ [m_ 11 9,m_ 6 11] [10,11]) (R_ [m_ 12 5,m_ 13 0,m_ 14 6,i_ 15 13 14 1,L_ 16 15,m_ 17 1,m_ 18 6,i_ 19 17 18 1,L_ 20 19,b_ 21 .sub 16 20,m_ 22 1,m_ 23 6,i_ 24 22 23 1,L_ 25 24,m_ 26 0,m_ 27 6,i_ 28 26 27 1,L_ 29 28,b_ 30 .sub 25 29,o_ 31 (.mx3 (.t 12) (.t 21) (.t 30)),m_ 5 31] [6,12,13,14,15,16,17,18,19,20,21,22,23,24,25,26,27,28,29,30,31]))) (r_ [a_ 32 9 1,m_ 9 32] [32])))
def r81_2:IR:=
 .seq (r_ [m_ 33 5,m_ 4 33] [0,1,5,8,9,33]) (.ret)
def ir81:IR:=
 .seq (r_ [z_ 4 0] [4]) (.seq (r_ [z_ 5 0] []) (.seq (.seq (r_ [m_ 7 0,h_ 8 7,z_ 9 0] [7]) (.block 0 (.loop b81_1))) (r81_2)))
def kp81_1:List Nat:=[0,1,5,8,9]
def kl81_1:List Nat:=[]
attribute [push_cast] kp81_1 kl81_1
set_option maxRecDepth 4000 in
theorem comp81:(Tryz.f81.body.bind fun c=>compC tab isP chkAll ir81 c)=some ir81:=by kernel_rfl
def ir30:IR:=
 .seq (r_ [o_ 2 (.box 10 (.t 0)),o_ 3 (.box 11 (.t 1)),z_ 4 0,z_ 5 0] [0,1,4,5]) (.seq (.block 0 (.seq (r_ [o_ 7 (.ld false (some 5) 0 0 (.t 2)),o_ 8 (.call (some 4) 12 49 [.t 7]),o_ 9 (.not (.t 8)),m_ 10 9,q_ 10 (o_ 11 (.ld false (some 5) 0 0 (.t 3))),q_ 10 (o_ 12 (.call (some 4) 16 49 [.t 11])),q_ 10 (o_ 13 (.not (.t 12))),k_ 14 10 13,m_ 6 14] [7,8,9,10,11,12,13,14]) (.cond (.t 6) (.seq (r_ [z_ 4 0,z_ 5 75] [2,3,6]) (.ret)) (.seq (r_ [f_ 16 2 0,l_ 17 16,f_ 18 3 0,l_ 19 18,b_ 20 .neq 17 19,m_ 21 20,q_ 21 (f_ 22 2 1),q_ 21 (l_ 23 22),q_ 21 (f_ 24 3 1),q_ 21 (l_ 25 24),q_ 21 (b_ 26 .neq 23 25),k_ 27 21 26,m_ 15 27] [6,16,17,18,19,20,21,22,23,24,25,26,27]) (.cond (.t 15) (.seq (r_ [z_ 4 0,z_ 5 2] [2,3,15]) (.ret)) (.skip)))))) (.seq (R_ [f_ 28 2 2,l_ 29 28,f_ 30 3 2,l_ 31 30,o_ 32 (.call (some 4) 20 81 [.t 29,.t 31]),f_ 33 2 3,⟨some 34,none,⟨[20,21,22,23],[]⟩,.ld false none 0 0 (.t 33)⟩,f_ 35 3 3,⟨some 36,none,⟨[20,21,22,23],[]⟩,.ld false none 0 0 (.t 35)⟩,o_ 37 (.call (some 4) 24 81 [.t 34,.t 36]),f_ 38 2 4,⟨some 39,none,⟨[20,21,22,23,24,25,26,27],[]⟩,.ld false none 0 0 (.t 38)⟩,f_ 40 3 4,⟨some 41,none,⟨[20,21,22,23,24,25,26,27],[]⟩,.ld false none 0 0 (.t 40)⟩,o_ 42 (.call (some 4) 28 81 [.t 39,.t 41]),o_ 43 (.mx3 (.t 32) (.t 37) (.t 42)),m_ 4 43,z_ 5 0] [2,3,15,28,29,30,31,32,33,34,35,36,37,38,39,40,41,42,43]) (.ret)))
set_option maxRecDepth 4000 in
theorem comp30:(Tryz.f30.body.bind fun c=>compC tab isP chkAll ir30 c)=some ir30:=by kernel_rfl
def fa1 (xs ys:List Int) (k n:Int):Int:=max (max n (rd xs k-rd ys k)) (rd ys k-rd xs k)
def faK (xs ys:List Int):Nat->Int
 | 0=>0
 | k+1=>fa1 xs ys k (faK xs ys k)
theorem faK_bd {xs ys:List Int} (hx:AllVal xs) (hy:AllVal ys) (hl:xs.length=ys.length):∀ k,k<=xs.length->0<=faK xs ys k/\faK xs ys k<=255
 | 0,_=>⟨Int.le_refl 0,show(0:Int)<=255 by decide⟩
 | k+1,h=>by
  have ih:=faK_bd hx hy hl k (by omega)
  have h1:=allVal_rd.1 hx k (by omega)
  have h2:=allVal_rd.1 hy k (by omega)
  unfold ValOk at h1 h2
  rw[faK];unfold fa1
  omega
def invFa:List SV->Look->Option (FaA×List Nat)
 | [.sl c _ 1 0 _,.sl d _ 1 0 _],look=>match rowI (look c),rowI (look d)with
  | some (L1,.i64,xs),some (L2,.i64,ys)=>some (⟨L1,xs,L2,ys⟩,[c,d])
  | _,_=>none
 | _,_=>none
attribute [push_cast] invFa
def fs81:FS where
 A:=FaA
 args:=fun a=>[.sl 0 a.L1 1 0 a.xs.length,.sl 1 a.L2 1 0 a.ys.length]
 mem:=fun a=>[some (.ro,a.L1,.ints .i64 a.xs),some (.ro,a.L2,.ints .i64 a.ys)]
 pre:=fun a=>AllVal a.xs/\AllVal a.ys/\a.xs.length=a.ys.length/\a.xs.length<=140737488355328
 res:=fun a _=>.int .i64 (faK a.xs a.ys a.xs.length)
 out:=fun _ _=>[]
 new:=fun _ _=>[]
theorem ok81:FSOk Tryz.prog 81 fs81:=by
 refine⟨⟨_,Tryz.func81,by kernel_rfl,by kernel_rfl⟩,fun a=>⟨by simp[fs81,push_cast,noMine,argOwn,Chunk.frArg],by simp[fs81,push_cast,outOk,Chunk.ext],fun x=>.inl (by simp[fs81,push_cast,frNew,frOut,Chunk.fr])⟩,fun a hp=>?_⟩
 obtain⟨L1,xs,L2,ys⟩:=a
 obtain⟨hx,hy,hl,hs⟩:AllVal xs/\AllVal ys/\xs.length=ys.length/\xs.length<=140737488355328:=hp
 change Tri Tryz.prog 81 [.sl 0 L1 1 0 xs.length,.sl 1 L2 1 0 ys.length] [some (.ro,L1,.ints .i64 xs),some (.ro,L2,.ints .i64 ys)] (postF fs81 ⟨L1,xs,L2,ys⟩)
 refine tri_evS (hyp (l:=[]) (lp:=[]) trivial trivial) Tryz.func81 comp81 (rs:=[.tmp 4]) (by rfl) Tryz.ntmps81 10 ?_
 simp -implicitDefEqProofs only[push_cast,zz,seval,ir81]
 refine evS_loopU (A:=Nat) kp81_1 kl81_1 (fun k=>[(5,.int .i64 (faK xs ys k)),(9,.int .i64 k)]) (fun _=>[]) (fun k=>k<=xs.length) (fun k=>xs.length-k) 0 (Nat.zero_le _) (Sub.pt ?_) ?_
 ·simp -implicitDefEqProofs only[push_cast,zz,seval,faK]
 intro k hk K hK
 have hk:k<=xs.length:=hk
 have hb:=faK_bd hx hy hl k hk
 by_cases hk':k<xs.length
 ·have hki:(k:Int)<xs.length:=by omega
  have h1:=allVal_rd.1 hx k hk'
  have h2:=allVal_rd.1 hy k (by omega)
  unfold ValOk at h1 h2
  have hn:faK xs ys (k+1)=max (max (faK xs ys k) (rd xs k-rd ys k)) (rd ys k-rd xs k):=rfl
  simp -implicitDefEqProofs only[push_cast,zz,seval,b81_1,hki]
  repeat refine om_ ?_
  refine hK (k+1) (show k+1<=xs.length by omega) (show xs.length-(k+1)<xs.length-k by omega) _ _ (Sub.pt ?_)
  simp -implicitDefEqProofs only[push_cast,zz,seval,hn]
 ·obtain rfl:k=xs.length:=by omega
  clear hK
  simp -implicitDefEqProofs only[push_cast,zz,seval,b81_1,r81_2,Int.lt_irrefl]
  refine postF.mk' (fun _=>default) [some 0,some 1] ?_
  simp -implicitDefEqProofs only[push_cast,zz,seval,fs81]
def ent81:Entry:=spOf fs81 invFa
theorem e81:EntryOk Tryz.prog 81 ent81:=entry_of ok81 invFa
@[push_cast] theorem ent81_app (us:List SV) (look:Look) (x:Nat->Xf.Loc) (k:Nat):ent81 us look x k=spOf fs81 invFa us look x k:=rfl
def faE (a b:Im):Int:=if a.Ok/\b.Ok then (if a.w=b.w/\a.h=b.h then 0 else 2)else 75
def faP (a b:Im):Int:=if faE a b=0 then max (max (faK a.R b.R a.R.length) (faK a.G b.G a.G.length)) (faK a.B b.B a.B.length)else 0
def fs30:FS where
 A:=Im2
 args:=fun a=>[imV a.a.i a.a.L1 a.a.L2 a.a.L3 0,imV a.b.i a.b.L1 a.b.L2 a.b.L3 3]
 mem:=fun a=>[some (.ro,a.a.L1,.ints .i64 a.a.i.R),some (.ro,a.a.L2,.ints .i64 a.a.i.G),some (.ro,a.a.L3,.ints .i64 a.a.i.B),some (.ro,a.b.L1,.ints .i64 a.b.i.R),some (.ro,a.b.L2,.ints .i64 a.b.i.G),some (.ro,a.b.L3,.ints .i64 a.b.i.B)]
 pre:=fun a=>a.a.i.small/\a.b.i.small
 res:=fun a _=>.tup [.int .i64 (faP a.a.i a.b.i),.int .i64 (faE a.a.i a.b.i)]
 out:=fun _ _=>[]
 new:=fun _ _=>[]
set_option maxHeartbeats 1000000 in
theorem ok30:FSOk Tryz.prog 30 fs30:=by
 refine⟨⟨_,Tryz.func30,by kernel_rfl,by kernel_rfl⟩,fun a=>⟨by simp[fs30,push_cast,noMine,argOwn,Chunk.frArg],by simp[fs30,push_cast,outOk,Chunk.ext],fun x=>.inl (by simp[fs30,push_cast,frNew,frOut,Chunk.fr])⟩,fun a hp=>?_⟩
 obtain⟨⟨⟨w,h,R,G,B⟩,L1,L2,L3⟩,⟨⟨w',h',R',G',B'⟩,M1,M2,M3⟩⟩:=a
 obtain⟨⟨s1,s2,s3⟩,s4,s5,s6⟩:=hp
 simp only at s1 s2 s3 s4 s5 s6
 change Tri Tryz.prog 30 [imV ⟨w,h,R,G,B⟩ L1 L2 L3 0,imV ⟨w',h',R',G',B'⟩ M1 M2 M3 3] [some (.ro,L1,.ints .i64 R),some (.ro,L2,.ints .i64 G),some (.ro,L3,.ints .i64 B),some (.ro,M1,.ints .i64 R'),some (.ro,M2,.ints .i64 G'),some (.ro,M3,.ints .i64 B')] (postF fs30 ⟨⟨⟨w,h,R,G,B⟩,L1,L2,L3⟩,⟨⟨w',h',R',G',B'⟩,M1,M2,M3⟩⟩)
 have sm1:(⟨w,h,R,G,B⟩:Im).small:=⟨s1,s2,s3⟩
 have sm2:(⟨w',h',R',G',B'⟩:Im).small:=⟨s4,s5,s6⟩
 refine tri_evS (hyp (l:=[(49,ent49),(81,ent81)]) (lp:=[]) ⟨e49,e81,trivial⟩ trivial) Tryz.func30 comp30 (rs:=[.tmp 4,.tmp 5]) (by rfl) Tryz.ntmps30 32 ?_
 obtain⟨E,hE⟩:∃ E,faE ⟨w,h,R,G,B⟩ ⟨w',h',R',G',B'⟩=E:=⟨_,rfl⟩
 obtain⟨P,hP⟩:∃ E,faP ⟨w,h,R,G,B⟩ ⟨w',h',R',G',B'⟩=E:=⟨_,rfl⟩
 by_cases o1:(⟨w,h,R,G,B⟩:Im).Ok
 ·by_cases o2:(⟨w',h',R',G',B'⟩:Im).Ok
  ·obtain⟨_,⟨l1,v1⟩,⟨l2,v2⟩,l3,v3⟩:=id o1
   obtain⟨_,⟨m1,u1⟩,⟨m2,u2⟩,m3,u3⟩:=id o2
   simp only at l1 l2 l3 m1 m2 m3 v1 v2 v3 u1 u2 u3
   by_cases hw:w=w'/\h=h'
   ·obtain⟨rfl,rfl⟩:=hw
    have e:faE ⟨w,h,R,G,B⟩ ⟨w,h,R',G',B'⟩=0:=by unfold faE;rw[if_pos ⟨o1,o2⟩,if_pos ⟨rfl,rfl⟩]
    have eP:faP ⟨w,h,R,G,B⟩ ⟨w,h,R',G',B'⟩=max (max (faK R R' R.length) (faK G G' G.length)) (faK B B' B.length):=if_pos e
    rw[hE]at e
    rw[hP]at eP
    have q1:R'.length=R.length:=by omega
    have q2:G'.length=G.length:=by omega
    have q3:B'.length=B.length:=by omega
    simp -implicitDefEqProofs only[push_cast,zz,seval,ir30,fs49,fs81,sm1,sm2,o1,o2,v1,v2,v3,u1,u2,u3,q1,q2,q3,not_true,or_self]
    intro X
    repeat refine om_ ?_
    refine postF.mk' (fun _=>default) [some 0,some 1,some 2,some 3,some 4,some 5] ?_
    simp -implicitDefEqProofs only[push_cast,zz,seval,fs30,hE,hP,e,eP,q1,q2,q3]
   ·have hw':¬ w=w'∨¬ h=h':=by omega
    have e:faE ⟨w,h,R,G,B⟩ ⟨w',h',R',G',B'⟩=2:=by unfold faE;rw[if_pos ⟨o1,o2⟩,if_neg hw]
    have eP:faP ⟨w,h,R,G,B⟩ ⟨w',h',R',G',B'⟩=0:=if_neg (by rw[e];decide)
    rw[hE]at e
    rw[hP]at eP
    simp -implicitDefEqProofs only[push_cast,zz,seval,ir30,fs49,sm1,sm2,o1,o2,hw']
    intro X
    repeat refine om_ ?_
    refine postF.mk' (fun _=>default) [some 0,some 1,some 2,some 3,some 4,some 5] ?_
    simp -implicitDefEqProofs only[push_cast,zz,seval,fs30,hE,hP,e,eP]
  ·have e:faE ⟨w,h,R,G,B⟩ ⟨w',h',R',G',B'⟩=75:=if_neg (fun h=>o2 h.2)
   have eP:faP ⟨w,h,R,G,B⟩ ⟨w',h',R',G',B'⟩=0:=if_neg (by rw[e];decide)
   rw[hE]at e
   rw[hP]at eP
   simp -implicitDefEqProofs only[push_cast,zz,seval,ir30,fs49,sm1,sm2,o1,o2]
   intro X
   repeat refine om_ ?_
   refine postF.mk' (fun _=>default) [some 0,some 1,some 2,some 3,some 4,some 5] ?_
   simp -implicitDefEqProofs only[push_cast,zz,seval,fs30,hE,hP,e,eP]
 ·have e:faE ⟨w,h,R,G,B⟩ ⟨w',h',R',G',B'⟩=75:=if_neg (fun h=>o1 h.1)
  have eP:faP ⟨w,h,R,G,B⟩ ⟨w',h',R',G',B'⟩=0:=if_neg (by rw[e];decide)
  rw[hE]at e
  rw[hP]at eP
  simp -implicitDefEqProofs only[push_cast,zz,seval,ir30,fs49,sm1,sm2,o1]
  intro X
  repeat refine om_ ?_
  refine postF.mk' (fun _=>default) [some 0,some 1,some 2,some 3,some 4,some 5] ?_
  simp -implicitDefEqProofs only[push_cast,zz,seval,fs30,hE,hP,e,eP]
def ent30:Entry:=spOf fs30 inv20
theorem e30:EntryOk Tryz.prog 30 ent30:=entry_of ok30 inv20
@[push_cast] theorem ent30_app (us:List SV) (look:Look) (x:Nat->Xf.Loc) (k:Nat):ent30 us look x k=spOf fs30 inv20 us look x k:=rfl
def b31_1:IR:=
 .seq (.seq (r_ [m_ 28 7,f_ 29 2 2,l_ 30 29,h_ 31 30,b_ 32 .lss 28 31] [28,29,30,31]) (.cond (.t 32) (.skip) (.exit 0))) (.seq (.block 1 (.seq (R_ [m_ 35 6,f_ 36 2 2,l_ 37 36,m_ 38 7,i_ 39 37 38 1,L_ 40 39,f_ 41 3 2,l_ 42 41,m_ 43 7,i_ 44 42 43 1,L_ 45 44,b_ 46 .sub 40 45,f_ 47 3 2,l_ 48 47,m_ 49 7,i_ 50 48 49 1,L_ 51 50,f_ 52 2 2,l_ 53 52,m_ 54 7,i_ 55 53 54 1,L_ 56 55,b_ 57 .sub 51 56,o_ 58 (.mx3 (.t 35) (.t 46) (.t 57)),m_ 6 58] [32,35,36,37,38,39,40,41,42,43,44,45,46,47,48,49,50,51,52,53,54,55,56,57,58]) (.seq (R_ [m_ 59 6,f_ 60 2 3,l_ 61 60,m_ 62 7,i_ 63 61 62 1,L_ 64 63,f_ 65 3 3,l_ 66 65,m_ 67 7,i_ 68 66 67 1,L_ 69 68,b_ 70 .sub 64 69,f_ 71 3 3,l_ 72 71,m_ 73 7,i_ 74 72 73 1,L_ 75 74,f_ 76 2 3,l_ 77 76,m_ 78 7,i_ 79 77 78 1,L_ 80 79,b_ 81 .sub 75 80,o_ 82 (.mx3 (.t 59) (.t 70) (.t 81)),m_ 6 82] [59,60,61,62,63,64,65,66,67,68,69,70,71,72,73,74,75,76,77,78,79,80,81,82]) (R_ [m_ 83 6,f_ 84 2 4,l_ 85 84,m_ 86 7,i_ 87 85 86 1,L_ 88 87,f_ 89 3 4,l_ 90 89,m_ 91 7,i_ 92 90 91 1,L_ 93 92,b_ 94 .sub 88 93,f_ 95 3 4,l_ 96 95,m_ 97 7,i_ 98 96 97 1,L_ 99 98,f_ 100 2 4,l_ 101 100,m_ 102 7,i_ 103 101 102 1,L_ 104 103,b_ 105 .sub 99 104,o_ 106 (.mx3 (.t 83) (.t 94) (.t 105)),m_ 6 106] [83,84,85,86,87,88,89,90,91,92,93,94,95,96,97,98,99,100,101,102,103,104,105,106])))) (r_ [m_ 33 7,a_ 34 33 1,m_ 7 34] [33,34]))
def r31_2:IR:=
 .seq (r_ [m_ 107 6,m_ 4 107,z_ 5 0] [2,3,6,7,107]) (.ret)
def ir31:IR:=
 .seq (r_ [o_ 2 (.box 10 (.t 0)),o_ 3 (.box 11 (.t 1)),z_ 4 0,z_ 5 0] [0,1,4,5]) (.seq (.seq (r_ [o_ 8 (.ld false (some 5) 0 0 (.t 2)),o_ 9 (.call (some 4) 12 26 [.t 8]),o_ 10 (.not (.t 9)),m_ 11 10,q_ 11 (o_ 12 (.ld false (some 5) 0 0 (.t 3))),q_ 11 (o_ 13 (.call (some 4) 16 26 [.t 12])),q_ 11 (o_ 14 (.not (.t 13))),k_ 15 11 14] [8,9,10,11,12,13,14]) (.cond (.t 15) (.seq (r_ [z_ 4 0,z_ 5 75] [2,3,15]) (.ret)) (.skip))) (.seq (.seq (r_ [f_ 16 2 0,l_ 17 16,f_ 18 3 0,l_ 19 18,b_ 20 .neq 17 19,m_ 21 20,q_ 21 (f_ 22 2 1),q_ 21 (l_ 23 22),q_ 21 (f_ 24 3 1),q_ 21 (l_ 25 24),q_ 21 (b_ 26 .neq 23 25),k_ 27 21 26] [4,5,15,16,17,18,19,20,21,22,23,24,25,26]) (.cond (.t 27) (.seq (r_ [z_ 4 0,z_ 5 2] [2,3,27]) (.ret)) (.skip))) (.seq (r_ [z_ 6 0] [4,5,27]) (.seq (.seq (r_ [z_ 7 0] []) (.block 0 (.loop b31_1))) (r31_2)))))
def kp31_1:List Nat:=[2,3,6,7]
def kl31_1:List Nat:=[]
attribute [push_cast] kp31_1 kl31_1
set_option maxRecDepth 4000 in
theorem comp31:(Tryz.f31.body.bind fun c=>compC tab isP chkAll ir31 c)=some ir31:=by kernel_rfl
def frK (a b:Im):Nat->Int
 | 0=>0
 | k+1=>fa1 a.B b.B k (fa1 a.G b.G k (fa1 a.R b.R k (frK a b k)))
theorem frK_eq (a b:Im):∀ k,frK a b k=max (max (faK a.R b.R k) (faK a.G b.G k)) (faK a.B b.B k)
 | 0=>rfl
 | k+1=>by
  have ih:=frK_eq a b k
  rw[frK,faK,faK,faK,ih]
  unfold fa1
  ac_rfl
set_option maxHeartbeats 1000000 in
theorem ok31:FSOk Tryz.prog 31 fs30:=by
 refine⟨⟨_,Tryz.func31,by kernel_rfl,by kernel_rfl⟩,fun a=>⟨by simp[fs30,push_cast,noMine,argOwn,Chunk.frArg],by simp[fs30,push_cast,outOk,Chunk.ext],fun x=>.inl (by simp[fs30,push_cast,frNew,frOut,Chunk.fr])⟩,fun a hp=>?_⟩
 obtain⟨⟨⟨w,h,R,G,B⟩,L1,L2,L3⟩,⟨⟨w',h',R',G',B'⟩,M1,M2,M3⟩⟩:=a
 obtain⟨⟨s1,s2,s3⟩,s4,s5,s6⟩:=hp
 simp only at s1 s2 s3 s4 s5 s6
 change Tri Tryz.prog 31 [imV ⟨w,h,R,G,B⟩ L1 L2 L3 0,imV ⟨w',h',R',G',B'⟩ M1 M2 M3 3] [some (.ro,L1,.ints .i64 R),some (.ro,L2,.ints .i64 G),some (.ro,L3,.ints .i64 B),some (.ro,M1,.ints .i64 R'),some (.ro,M2,.ints .i64 G'),some (.ro,M3,.ints .i64 B')] (postF fs30 ⟨⟨⟨w,h,R,G,B⟩,L1,L2,L3⟩,⟨⟨w',h',R',G',B'⟩,M1,M2,M3⟩⟩)
 have sm1:(⟨w,h,R,G,B⟩:Im).small:=⟨s1,s2,s3⟩
 have sm2:(⟨w',h',R',G',B'⟩:Im).small:=⟨s4,s5,s6⟩
 refine tri_evS (hyp (l:=[(26,ent26)]) (lp:=[]) ⟨e26,trivial⟩ trivial) Tryz.func31 comp31 (rs:=[.tmp 4,.tmp 5]) (by rfl) Tryz.ntmps31 20 ?_
 obtain⟨E,hE⟩:∃ E,faE ⟨w,h,R,G,B⟩ ⟨w',h',R',G',B'⟩=E:=⟨_,rfl⟩
 obtain⟨P,hP⟩:∃ E,faP ⟨w,h,R,G,B⟩ ⟨w',h',R',G',B'⟩=E:=⟨_,rfl⟩
 by_cases o1:(⟨w,h,R,G,B⟩:Im).Ok
 ·by_cases o2:(⟨w',h',R',G',B'⟩:Im).Ok
  ·obtain⟨_,⟨l1,v1⟩,⟨l2,v2⟩,l3,v3⟩:=id o1
   obtain⟨_,⟨m1,u1⟩,⟨m2,u2⟩,m3,u3⟩:=id o2
   simp only at l1 l2 l3 m1 m2 m3 v1 v2 v3 u1 u2 u3
   by_cases hw:w=w'/\h=h'
   ·obtain⟨rfl,rfl⟩:=hw
    have e:faE ⟨w,h,R,G,B⟩ ⟨w,h,R',G',B'⟩=0:=by unfold faE;rw[if_pos ⟨o1,o2⟩,if_pos ⟨rfl,rfl⟩]
    have eP:faP ⟨w,h,R,G,B⟩ ⟨w,h,R',G',B'⟩=max (max (faK R R' R.length) (faK G G' G.length)) (faK B B' B.length):=if_pos e
    rw[hE]at e
    rw[hP]at eP
    have q1:R'.length=R.length:=by omega
    have q2:G'.length=R.length:=by omega
    have q3:B'.length=R.length:=by omega
    have q4:G.length=R.length:=by omega
    have q5:B.length=R.length:=by omega
    rw[q4,q5]at eP
    simp -implicitDefEqProofs only[push_cast,zz,seval,ir31,fs49,sm1,sm2,o1,o2,not_true,or_self]
    intro X
    repeat refine om_ ?_
    refine evS_loopU (A:=Nat) kp31_1 kl31_1 (fun k=>[(6,.int .i64 (frK ⟨w,h,R,G,B⟩ ⟨w,h,R',G',B'⟩ k)),(7,.int .i64 k)]) (fun _=>[]) (fun k=>k<=R.length) (fun k=>R.length-k) 0 (Nat.zero_le _) (Sub.pt ?_) ?_
    ·simp -implicitDefEqProofs only[push_cast,zz,seval,frK]
    intro k hk K hK
    have hk:k<=R.length:=hk
    have b1:=faK_bd v1 u1 q1.symm k hk
    have b2:=faK_bd v2 u2 (by omega) k (by omega)
    have b3:=faK_bd v3 u3 (by omega) k (by omega)
    have hq:=frK_eq ⟨w,h,R,G,B⟩ ⟨w,h,R',G',B'⟩ k
    simp only at hq
    by_cases hk':k<R.length
    ·have hki:(k:Int)<R.length:=by omega
     have x1:=allVal_rd.1 v1 k hk'
     have x2:=allVal_rd.1 u1 k (by omega)
     have x3:=allVal_rd.1 v2 k (by omega)
     have x4:=allVal_rd.1 u2 k (by omega)
     have x5:=allVal_rd.1 v3 k (by omega)
     have x6:=allVal_rd.1 u3 k (by omega)
     unfold ValOk at x1 x2 x3 x4 x5 x6
     have hn:frK ⟨w,h,R,G,B⟩ ⟨w,h,R',G',B'⟩ (k+1)=fa1 B B' k (fa1 G G' k (fa1 R R' k (frK ⟨w,h,R,G,B⟩ ⟨w,h,R',G',B'⟩ k))):=rfl
     obtain⟨n,hnn⟩:∃ n,frK ⟨w,h,R,G,B⟩ ⟨w,h,R',G',B'⟩ k=n:=⟨_,rfl⟩
     rw[hnn]at hn hq
     unfold fa1 at hn
     simp -implicitDefEqProofs only[push_cast,zz,seval,b31_1,hki,hnn]
     repeat refine om_ ?_
     refine hK (k+1) (show k+1<=R.length by omega) (show R.length-(k+1)<R.length-k by omega) _ _ (Sub.pt ?_)
     simp -implicitDefEqProofs only[push_cast,zz,seval,hn]
    ·obtain rfl:k=R.length:=by omega
     clear hK
     rw[<-eP]at hq
     simp -implicitDefEqProofs only[push_cast,zz,seval,b31_1,r31_2,Int.lt_irrefl,hq]
     refine postF.mk' (fun _=>default) [some 0,some 1,some 2,some 3,some 4,some 5] ?_
     simp -implicitDefEqProofs only[push_cast,zz,seval,fs30,hE,hP,e]
   ·have hw':¬ w=w'∨¬ h=h':=by omega
    have e:faE ⟨w,h,R,G,B⟩ ⟨w',h',R',G',B'⟩=2:=by unfold faE;rw[if_pos ⟨o1,o2⟩,if_neg hw]
    have eP:faP ⟨w,h,R,G,B⟩ ⟨w',h',R',G',B'⟩=0:=if_neg (by rw[e];decide)
    rw[hE]at e
    rw[hP]at eP
    simp -implicitDefEqProofs only[push_cast,zz,seval,ir31,fs49,sm1,sm2,o1,o2,hw']
    intro X
    repeat refine om_ ?_
    refine postF.mk' (fun _=>default) [some 0,some 1,some 2,some 3,some 4,some 5] ?_
    simp -implicitDefEqProofs only[push_cast,zz,seval,fs30,hE,hP,e,eP]
  ·have e:faE ⟨w,h,R,G,B⟩ ⟨w',h',R',G',B'⟩=75:=if_neg (fun h=>o2 h.2)
   have eP:faP ⟨w,h,R,G,B⟩ ⟨w',h',R',G',B'⟩=0:=if_neg (by rw[e];decide)
   rw[hE]at e
   rw[hP]at eP
   simp -implicitDefEqProofs only[push_cast,zz,seval,ir31,fs49,sm1,sm2,o1,o2]
   intro X
   repeat refine om_ ?_
   refine postF.mk' (fun _=>default) [some 0,some 1,some 2,some 3,some 4,some 5] ?_
   simp -implicitDefEqProofs only[push_cast,zz,seval,fs30,hE,hP,e,eP]
 ·have e:faE ⟨w,h,R,G,B⟩ ⟨w',h',R',G',B'⟩=75:=if_neg (fun h=>o1 h.1)
  have eP:faP ⟨w,h,R,G,B⟩ ⟨w',h',R',G',B'⟩=0:=if_neg (by rw[e];decide)
  rw[hE]at e
  rw[hP]at eP
  simp -implicitDefEqProofs only[push_cast,zz,seval,ir31,fs49,sm1,sm2,o1]
  intro X
  repeat refine om_ ?_
  refine postF.mk' (fun _=>default) [some 0,some 1,some 2,some 3,some 4,some 5] ?_
  simp -implicitDefEqProofs only[push_cast,zz,seval,fs30,hE,hP,e,eP]
def ent31:Entry:=spOf fs30 inv20
theorem e31:EntryOk Tryz.prog 31 ent31:=entry_of ok31 inv20
@[push_cast] theorem ent31_app (us:List SV) (look:Look) (x:Nat->Xf.Loc) (k:Nat):ent31 us look x k=spOf fs30 inv20 us look x k:=rfl
def inv21S:List SV->Look->Option (Unit×List Nat)
 | [],_=>some ((),[])
 | _,_=>none
attribute [push_cast] inv21S
def ent13:Entry:=spOf fs13 inv21S
theorem e13:EntryOk Tryz.prog 13 ent13:=entry_of ok13 inv21S
@[push_cast] theorem ent13_app (us:List SV) (look:Look) (x:Nat->Xf.Loc) (k:Nat):ent13 us look x k=spOf fs13 inv21S us look x k:=rfl
theorem faK_sym (xs ys:List Int):∀ k,faK ys xs k=faK xs ys k
 | 0=>rfl
 | k+1=>by
  rw[faK,faK,faK_sym xs ys k]
  unfold fa1
  omega
theorem faK_nn (xs ys:List Int):∀ k,0<=faK xs ys k
 | 0=>Int.le_refl 0
 | k+1=>by
  have:=faK_nn xs ys k
  rw[faK]
  unfold fa1
  omega
theorem faK_zero (xs ys:List Int):∀ k:Nat,faK xs ys k=0↔∀ j:Nat,j<k->rd xs j=rd ys j
 | 0=>⟨fun _ j hj=>absurd hj (Nat.not_lt_zero _),fun _=>rfl⟩
 | k+1=>by
  have hn:=faK_nn xs ys k
  have ih:=faK_zero xs ys k
  have hs:faK xs ys (k+1)=max (max (faK xs ys k) (rd xs k-rd ys k)) (rd ys k-rd xs k):=rfl
  constructor
  ·intro h j hj
   rw[hs]at h
   rcases Nat.lt_or_ge j k with hk | hk
   ·exact ih.1 (by omega) j hk
   ·obtain rfl:j=k:=by omega
    omega
  ·intro h
   have h1:=ih.2 fun j hj=>h j (by omega)
   have h2:=h k (by omega)
   rw[hs]
   omega
theorem faK_eq {xs ys:List Int} (hl:xs.length=ys.length):faK xs ys xs.length=0↔xs=ys:=
 ⟨fun h=>eq_of_rd hl ((faK_zero xs ys _).1 h),fun h=>by subst h;exact(faK_zero xs xs _).2 fun _ _=>rfl⟩
theorem faE_sym (a b:Im):faE b a=faE a b:=by
 unfold faE
 by_cases h:a.Ok/\b.Ok
 ·rw[if_pos h,if_pos ⟨h.2,h.1⟩]
  by_cases g:a.w=b.w/\a.h=b.h
  ·rw[if_pos g,if_pos ⟨g.1.symm,g.2.symm⟩]
  ·rw[if_neg g,if_neg fun h=>g ⟨h.1.symm,h.2.symm⟩]
 ·rw[if_neg h,if_neg fun g=>h ⟨g.2,g.1⟩]
theorem far_lens {a b:Im} (h:faE a b=0):a.R.length=b.R.length/\a.G.length=b.G.length/\a.B.length=b.B.length/\a.w=b.w/\a.h=b.h:=by
 unfold faE at h
 split at h
 ·rename_i ho
  split at h
  ·rename_i hw
   obtain⟨_,⟨l1,v1⟩,⟨l2,v2⟩,l3,v3⟩:=ho.1
   obtain⟨_,⟨m1,u1⟩,⟨m2,u2⟩,m3,u3⟩:=ho.2
   rw[<-hw.1,<-hw.2]at m1 m2 m3
   exact⟨by omega,by omega,by omega,hw⟩
  ·cases h
 ·cases h
theorem faP_sym (a b:Im):faP b a=faP a b:=by
 unfold faP
 rw[faE_sym]
 by_cases h:faE a b=0
 ·obtain⟨h1,h2,h3,_⟩:=far_lens h
  rw[if_pos h,if_pos h,h1,h2,h3,faK_sym,faK_sym a.G,faK_sym a.B]
 ·rw[if_neg h,if_neg h]
theorem faP_eq {a b:Im} (h:faE a b=0):faP a b=0↔a.Eq b:=by
 unfold faP
 obtain⟨h1,h2,h3,h4,h5⟩:=far_lens h
 rw[if_pos h]
 have n1:=faK_nn a.R b.R a.R.length
 have n2:=faK_nn a.G b.G a.G.length
 have n3:=faK_nn a.B b.B a.B.length
 constructor
 ·intro g
  exact⟨h4,h5,(faK_eq h1).1 (by omega),(faK_eq h2).1 (by omega),(faK_eq h3).1 (by omega)⟩
 ·intro g
  have e1:=(faK_eq h1).2 g.2.2.1
  have e2:=(faK_eq h2).2 g.2.2.2.1
  have e3:=(faK_eq h3).2 g.2.2.2.2
  omega
def ir7:IR:=
 .seq (r_ [o_ 2 (.box 10 (.t 0)),o_ 3 (.box 11 (.t 1)),o_ 4 (.mov (.k (.bool false)))] [0,1,4]) (.seq (.seq (r_ [f_ 11 2 2,l_ 12 11,h_ 13 12,f_ 14 2 3,l_ 15 14,h_ 16 15,b_ 17 .add 13 16,f_ 18 2 4,l_ 19 18,h_ 20 19,b_ 21 .add 17 20,f_ 22 3 2,l_ 23 22,h_ 24 23,b_ 25 .add 21 24,f_ 26 3 3,l_ 27 26,h_ 28 27,b_ 29 .add 25 28,f_ 30 3 4,l_ 31 30,h_ 32 31,b_ 33 .add 29 32,c_ 34 .gtr 33 9000] [11,12,13,14,15,16,17,18,19,20,21,22,23,24,25,26,27,28,29,30,31,32,33]) (.cond (.t 34) (.seq (r_ [o_ 35 (.call (some 4) 12 13 []),m_ 4 35] [2,3,34,35]) (.ret)) (.skip))) (.seq (r_ [o_ 37 (.ld false (some 5) 0 0 (.t 2)),o_ 38 (.ld false (some 5) 0 0 (.t 3)),o_ 39 (.call (some 4) 16 30 [.t 37,.t 38]),m_ 36 39,e_ 40 36 0,e_ 41 36 1,m_ 5 40,m_ 6 41] [4,34,36,37,38,39,40,41]) (.seq (r_ [o_ 43 (.ld false (some 5) 0 0 (.t 2)),o_ 44 (.ld false (some 5) 0 0 (.t 3)),o_ 45 (.call (some 4) 20 31 [.t 43,.t 44]),m_ 42 45,e_ 46 42 0,e_ 47 42 1,m_ 7 46,m_ 8 47] [42,43,44,45,46,47]) (.seq (r_ [o_ 49 (.ld false (some 5) 0 0 (.t 3)),o_ 50 (.ld false (some 5) 0 0 (.t 2)),o_ 51 (.call (some 4) 24 30 [.t 49,.t 50]),m_ 48 51,e_ 52 48 0,e_ 53 48 1,m_ 9 52,m_ 10 53] [48,49,50,51,52,53]) (.seq (.seq (r_ [m_ 54 5,m_ 55 7,b_ 56 .neq 54 55,m_ 57 56,q_ 57 (m_ 58 6),q_ 57 (m_ 59 8),q_ 57 (b_ 60 .neq 58 59),k_ 61 57 60,m_ 62 61,q_ 62 (m_ 63 9),q_ 62 (m_ 64 5),q_ 62 (b_ 65 .neq 63 64),k_ 66 62 65,m_ 67 66,q_ 67 (m_ 68 10),q_ 67 (m_ 69 6),q_ 67 (b_ 70 .neq 68 69),k_ 71 67 70] [7,8,9,10,54,55,56,57,58,59,60,61,62,63,64,65,66,67,68,69,70]) (.cond (.t 71) (.seq (r_ [o_ 4 (.mov (.k (.bool false)))] [2,3,5,6,71]) (.ret)) (.skip))) (.seq (r_ [m_ 72 6,c_ 73 .neq 72 0,m_ 74 73,q_ 74 (m_ 75 5),q_ 74 (c_ 76 .eql 75 0),q_ 74 (o_ 77 (.ld false (some 5) 0 0 (.t 2))),q_ 74 (o_ 78 (.ld false (some 5) 0 0 (.t 3))),q_ 74 (o_ 79 (.call (some 4) 28 20 [.t 77,.t 78])),q_ 74 (o_ 80 (.binB .eql (.t 76) (.t 79))),k_ 81 74 80,m_ 82 81,p_ 82 (o_ 83 (.call (some 4) 32 13 [])),K_ 84 82 83,m_ 4 84] [2,3,5,6,71,72,73,74,75,76,77,78,79,80,81,82,83,84]) (.ret)))))))
set_option maxRecDepth 4000 in
theorem comp7:(Tryz.f7.body.bind fun c=>compC tab isP chkAll ir7 c)=some ir7:=by kernel_rfl
set_option maxHeartbeats 1000000 in
theorem tri7 (i j:Im) (hi:i.small) (hj:j.small) (L1 L2 L3 M1 M2 M3:Xf.Loc):Tri Tryz.prog 7 [imV i L1 L2 L3 0,imV j M1 M2 M3 3]
  [some (.ro,L1,.ints .i64 i.R),some (.ro,L2,.ints .i64 i.G),some (.ro,L3,.ints .i64 i.B),some (.ro,M1,.ints .i64 j.R),some (.ro,M2,.ints .i64 j.G),some (.ro,M3,.ints .i64 j.B)] (fun v _=>v=.bool true):=by
 have e1:=faE_sym i j
 have p1:=faP_sym i j
 have p2:=fun h=>faP_eq (a:=i) (b:=j) h
 obtain⟨⟨s1,s2,s3⟩,s4,s5,s6⟩:i.small/\j.small:=⟨hi,hj⟩
 obtain⟨w,h,R,G,B⟩:=i
 obtain⟨w',h',R',G',B'⟩:=j
 simp only at s1 s2 s3 s4 s5 s6
 refine tri_evS (hyp (l:=[(13,ent13),(30,ent30),(31,ent31),(20,ent20)]) (lp:=[]) ⟨e13,e30,e31,e20,trivial⟩ trivial) Tryz.func7 comp7 (rs:=[.tmp 4]) (by rfl) Tryz.ntmps7 36 ?_
 by_cases hb:9000<(R.length:Int)+G.length+B.length+R'.length+G'.length+B'.length
 ·simp -implicitDefEqProofs only[push_cast,zz,seval,ir7,fs13,hb]
  omega
 obtain⟨E,hE⟩:∃ E,faE ⟨w,h,R,G,B⟩ ⟨w',h',R',G',B'⟩=E:=⟨_,rfl⟩
 obtain⟨P,hP⟩:∃ E,faP ⟨w,h,R,G,B⟩ ⟨w',h',R',G',B'⟩=E:=⟨_,rfl⟩
 rw[hE]at e1 p2
 rw[hP]at p1 p2
 by_cases h0:E=0
 ·have p3:=p2 h0
  subst h0
  by_cases hq:(⟨w,h,R,G,B⟩:Im).Eq ⟨w',h',R',G',B'⟩
  ·have hP0:=p3.2 hq
   subst hP0
   simp -implicitDefEqProofs only[push_cast,zz,seval,ir7,fs13,fs30,fs20,hb,hi,hj,hE,hP,e1,p1,hq]
   omega
  ·have hP0:¬ P=0:=fun g=>hq (p3.1 g)
   simp -implicitDefEqProofs only[push_cast,zz,seval,ir7,fs13,fs30,fs20,hb,hi,hj,hE,hP,e1,p1,hq,hP0]
   omega
 ·simp -implicitDefEqProofs only[push_cast,zz,seval,ir7,fs13,fs30,fs20,hb,hi,hj,hE,hP,e1,p1,h0]
  omega
end Go.Proofs.YtaofjnkpkocgjaaGreat
