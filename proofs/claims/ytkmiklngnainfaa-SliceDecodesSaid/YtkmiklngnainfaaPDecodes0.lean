import Derived.Test.YtkmiklngnainfaaPA1
import Derived.Test.YtkmiklngnainfaaKc
import Derived.Test.YtkmiklngnainfaaProg
import Derived.Test.YtkmiklngnainfaaChecked
import Derived.ProofKit
import Derived.ChangeArms
import Derived.ChangeSlices
import Derived.SizedLaws
import Derived.OpenShut
import Derived.ChangeOld
import Derived.Below
set_option linter.unusedVariables false
set_option linter.unusedSimpArgs false
set_option maxRecDepth 1000
namespace Go.Proofs.Ytkmiklngnainfaa
open Xf
def stOk (kind n:Int):Prop:=(kind=0∨kind=1)/\0<=n/\n<=6
instance (kind n:Int):Decidable (stOk kind n):=by unfold stOk;infer_instance
def ir56:IR:=
 .seq (r_ [o_ 4 (.mov (.k (.bool false)))] [4]) (.seq (r_ [m_ 5 0,c_ 6 .geq 5 0,m_ 7 6,p_ 7 (m_ 8 0),p_ 7 (c_ 9 .leq 8 1),K_ 10 7 9,m_ 11 10,p_ 11 (m_ 12 1),p_ 11 (c_ 13 .geq 12 0),K_ 14 11 13,m_ 15 14,p_ 15 (m_ 16 1),p_ 15 (c_ 17 .leq 16 6),K_ 18 15 17,m_ 4 18] [0,1,5,6,7,8,9,10,11,12,13,14,15,16,17,18]) (.ret))
set_option maxRecDepth 4000 in
theorem comp56:(Try.f56.body.bind fun c=>compC tab isP chkAll ir56 c)=some ir56:=by kernel_rfl
def b130_1:IR:=
 .seq (.seq (r_ [m_ 9 8,m_ 10 2,b_ 11 .lss 9 10] [9,10]) (.cond (.t 11) (.skip) (.exit 0))) (.seq (.block 1 (r_ [m_ 14 0,a_ 15 14 1,c_ 16 .quo 15 2,m_ 17 1,a_ 18 17 1,c_ 19 .quo 18 2,m_ 0 16,m_ 1 19] [11,14,15,16,17,18,19])) (r_ [m_ 12 8,a_ 13 12 1,m_ 8 13] [12,13]))
def r130_2:IR:=
 .seq (r_ [m_ 20 0,m_ 21 1,m_ 6 20,m_ 7 21] [0,1,2,8,20,21]) (.ret)
def ir130:IR:=
 .seq (r_ [z_ 6 0,z_ 7 0] [6,7]) (.seq (.seq (r_ [z_ 8 0] []) (.block 0 (.loop b130_1))) (r130_2))
def kp130_1:List Nat:=[0,1,2,8]
def kl130_1:List Nat:=[]
attribute [push_cast] kp130_1 kl130_1
set_option maxRecDepth 4000 in
theorem comp130:(Try.f130.body.bind fun c=>compC tab isP chkAll ir130 c)=some ir130:=by kernel_rfl
def styF:EntryP
 | [.int .i64 k,.int .i64 n]=>some (True,.bool (decide (stOk k n)))
 | _=>none
attribute [push_cast] styF
theorem p56:EntryPOk Try.prog 56 styF:=by
 refine⟨⟨_,Try.func56,by kernel_rfl,by kernel_rfl⟩,fun us p v h hp=>?_⟩
 unfold styF at h
 split at h<;>cases h
 refine tri_evS (hyp (l:=[]) (lp:=[]) trivial trivial) Try.func56 comp56 (rs:=[.tmp 4]) (by rfl) Try.ntmps56 10 ?_
 simp -implicitDefEqProofs only[push_cast,zz,seval,ir56,styF,stOk]
 exact bool_congr (by omega)
def fs130:FS where
 A:=SdA
 args:=fun a=>[.int .i64 a.w,.int .i64 a.h,.int .i64 a.n]
 mem:=fun _=>[]
 pre:=fun a=>a.w<=200/\a.h<=200/\a.n<=7
 res:=fun a x=>.tup [.int .i64 (hlf a.w a.n),.int .i64 (hlf a.h a.n)]
 out:=fun _ _=>[]
 new:=fun _ _=>[]
theorem ok130:FSOk Try.prog 130 fs130:=by
 refine⟨⟨_,Try.func130,by kernel_rfl,by kernel_rfl⟩,fun a=>⟨by simp[fs130,push_cast,noMine,argOwn,Chunk.frArg],by simp[fs130,push_cast,outOk,Chunk.ext],fun x=>.inl (by simp[fs130,push_cast,frNew,frOut,Chunk.fr])⟩,fun a hp=>?_⟩
 obtain⟨w,h,n⟩:=a
 obtain⟨h1,h2,h3⟩:w<=200/\h<=200/\n<=7:=hp
 change Tri Try.prog 130 [.int .i64 w,.int .i64 h,.int .i64 n] [] (postF fs130 ⟨w,h,n⟩)
 refine tri_evS (hyp (l:=[]) (lp:=[]) trivial trivial) Try.func130 comp130 (rs:=[.tmp 6,.tmp 7]) (by rfl) Try.ntmps130 10 ?_
 simp -implicitDefEqProofs only[push_cast,zz,seval,ir130]
 refine evS_loopU (A:=Nat) kp130_1 kl130_1 (fun i=>[(0,.int .i64 (hlf w i)),(1,.int .i64 (hlf h i)),(8,.int .i64 i)]) (fun _=>[]) (fun i=>i<=n) (fun i=>n-i) 0 (Nat.zero_le _) (Sub.pt ?_) ?_
 ·simp -implicitDefEqProofs only[push_cast,zz,seval,hlf]
 intro i (hi:i<=n) K hK
 simp -implicitDefEqProofs only[push_cast,zz,seval,b130_1,r130_2]
 have b1:=hlf_le w i
 have b2:=hlf_le h i
 have b3:=hlf_succ w i
 have b4:=hlf_succ h i
 refine⟨fun hl=>?_,fun hl=>?_⟩
 ·repeat refine om_ ?_
  rw[b3,b4]
  refine hK (i+1) (by omega) (by omega) _ _ (Sub.pt ?_)
  simp -implicitDefEqProofs only[push_cast,zz,seval]
 ·obtain rfl:i=n:=by omega
  refine postF.mk' (fun _=>default) [] ?_
  simp -implicitDefEqProofs only[push_cast,zz,seval,fs130]
def ent130:Entry:=spOf fs130 inv24
theorem e130:EntryOk Try.prog 130 ent130:=entry_of ok130 inv24
@[push_cast] theorem ent130_app (us:List SV) (look:Look) (x:Nat->Xf.Loc) (k:Nat):ent130 us look x k=spOf fs130 inv24 us look x k:=rfl
attribute [push_cast] Bd.sv
def b122_1:IR:=
 .seq (.seq (r_ [m_ 56 11,c_ 57 .geq 56 1] [56]) (.cond (.t 57) (.skip) (.exit 0))) (.seq (.block 1 (.seq (r_ [m_ 61 0,m_ 62 1,m_ 63 11,c_ 64 .sub 63 1,o_ 65 (.call (some 4) 16 130 [.t 61,.t 62,.t 64]),m_ 60 65,e_ 66 60 0,e_ 67 60 1,m_ 12 66,m_ 13 67] [57,60,61,62,63,64,65,66,67]) (.seq (r_ [m_ 69 0,m_ 70 1,m_ 71 11,o_ 72 (.call (some 4) 20 130 [.t 69,.t 70,.t 71]),m_ 68 72,e_ 73 68 0,e_ 74 68 1,m_ 14 73,m_ 15 74] [68,69,70,71,72,73,74]) (.seq (r_ [m_ 75 8,m_ 76 11,m_ 77 14,m_ 78 12,m_ 79 14,b_ 80 .sub 78 79,m_ 81 15,o_ 82 (.build [y_,y_,y_,y_,y_,y_] [(0,1,.t 76),(1,1,Z_ 1),(2,1,.t 77),(4,1,.t 80),(5,1,.t 81)]),o_ 83 (.brecs 24 6 .i64 [.t 82]),o_ 84 (.app 25 6 48 (.t 75) (.t 83)),m_ 8 84] [75,76,77,78,79,80,81,82,83,84]) (.seq (r_ [m_ 85 8,m_ 86 11,m_ 87 15,m_ 88 14,m_ 89 13,m_ 90 15,b_ 91 .sub 89 90,o_ 92 (.build [y_,y_,y_,y_,y_,y_] [(0,1,.t 86),(1,1,Z_ 2),(3,1,.t 87),(4,1,.t 88),(5,1,.t 91)]),o_ 93 (.brecs 26 6 .i64 [.t 92]),o_ 94 (.app 27 6 48 (.t 85) (.t 93)),m_ 8 94] [85,86,87,88,89,90,91,92,93,94]) (r_ [m_ 95 8,m_ 96 11,m_ 97 14,m_ 98 15,m_ 99 12,m_ 100 14,b_ 101 .sub 99 100,m_ 102 13,m_ 103 15,b_ 104 .sub 102 103,o_ 105 (.build [y_,y_,y_,y_,y_,y_] [(0,1,.t 96),(1,1,Z_ 3),(2,1,.t 97),(3,1,.t 98),(4,1,.t 101),(5,1,.t 104)]),o_ 106 (.brecs 28 6 .i64 [.t 105]),o_ 107 (.app 29 6 48 (.t 95) (.t 106)),m_ 8 107] [12,13,14,15,95,96,97,98,99,100,101,102,103,104,105,106,107])))))) (r_ [m_ 58 11,c_ 59 .sub 58 1,m_ 11 59] [58,59]))
def b122_2:IR:=
 .seq (r_ [b_ 111 .lss 110 109] []) (.seq (.cond (.t 111) (.skip) (.exit 2)) (.seq (.block 3 (.seq (r_ [i_ 112 108 110 6,o_ 113 (.ld true (some 6) 0 0 (.t 112)),o_ 18 (.alloc 30 [y_,y_,y_,y_,y_,y_]),s_ 6 .i64 18 113] [111,112,113]) (.seq (r_ [f_ 114 18 4,l_ 115 114,c_ 116 .gtr 115 0,m_ 117 116,p_ 117 (f_ 118 18 5),p_ 117 (l_ 119 118),p_ 117 (c_ 120 .gtr 119 0),K_ 121 117 120] [114,115,116,117,118,119,120]) (.cond (.t 121) (r_ [m_ 122 16,o_ 123 (.ld false (some 6) 0 0 (.t 18)),o_ 124 (.brecs 31 6 .i64 [.t 123]),o_ 125 (.app 32 6 48 (.t 122) (.t 124)),m_ 16 125] [18,121,122,123,124,125]) (.skip))))) (r_ [a_ 126 110 1,m_ 110 126] [18,121,126])))
def r122_3:IR:=
 .seq (r_ [m_ 127 16,m_ 6 127,z_ 7 0] [16,108,109,110,127]) (.ret)
def r122_4:IR:=
 .seq (r_ [o_ 16 (.mov (.k nilSV))] [0,1,11]) (.seq (.seq (r_ [m_ 108 8,h_ 109 108,z_ 110 0] [8]) (.block 2 (.loop b122_2))) (r122_3))
def ir122:IR:=
 .seq (r_ [o_ 6 (.mov (.k nilSV)),z_ 7 0] [6,7]) (.seq (.seq (r_ [m_ 19 0,c_ 20 .lss 19 0,m_ 21 20,q_ 21 (m_ 22 0),q_ 21 (c_ 23 .gtr 22 200),k_ 24 21 23,m_ 25 24,q_ 25 (m_ 26 1),q_ 25 (c_ 27 .lss 26 0),k_ 28 25 27,m_ 29 28,q_ 29 (m_ 30 1),q_ 29 (c_ 31 .gtr 30 200),k_ 32 29 31,m_ 33 32,q_ 33 (m_ 34 2),q_ 33 (c_ 35 .lss 34 0),k_ 36 33 35,m_ 37 36,q_ 37 (m_ 38 2),q_ 37 (c_ 39 .gtr 38 6),k_ 40 37 39] [19,20,21,22,23,24,25,26,27,28,29,30,31,32,33,34,35,36,37,38,39]) (.cond (.t 40) (.seq (r_ [o_ 6 (.mov (.k nilSV)),z_ 7 2] [0,1,2,40]) (.ret)) (.skip))) (.seq (r_ [o_ 8 (.mov (.k nilSV))] [6,7,40]) (.seq (r_ [m_ 42 0,m_ 43 1,m_ 44 2,o_ 45 (.call (some 4) 10 130 [.t 42,.t 43,.t 44]),m_ 41 45,e_ 46 41 0,e_ 47 41 1,m_ 9 46,m_ 10 47] [41,42,43,44,45,46,47]) (.seq (r_ [m_ 48 8,m_ 49 2,m_ 50 9,m_ 51 10,o_ 52 (.build [y_,y_,y_,y_,y_,y_] [(0,1,.t 49),(4,1,.t 50),(5,1,.t 51)]),o_ 53 (.brecs 14 6 .i64 [.t 52]),o_ 54 (.app 15 6 48 (.t 48) (.t 53)),m_ 8 54] [9,10,48,49,50,51,52,53,54]) (.seq (.seq (r_ [m_ 55 2,m_ 11 55] [2,55]) (.block 0 (.loop b122_1))) (r122_4))))))
def kp122_1:List Nat:=[0,1,8,11]
def kl122_1:List Nat:=[16,17,18,19,20,21,22,23,24,25,26,27,28,29]
attribute [push_cast] kp122_1 kl122_1
def kp122_2:List Nat:=[16,108,109,110]
def kl122_2:List Nat:=[30,31,32]
attribute [push_cast] kp122_2 kl122_2
set_option maxRecDepth 4000 in
theorem comp122:(Try.f122.body.bind fun c=>compC tab isP chkAll ir122 c)=some ir122:=by kernel_rfl
theorem kept_take {l:List Bd} {i:Nat} (h:i<l.length):keptBd (l.take (i+1))=keptBd (l.take i)++(if (rdBd l i).gone=false then [rdBd l i]else []):=by
 rw[List.take_succ_eq_append_getElem h,rdBd_nat h]
 unfold keptBd
 rw[List.filter_append]
 by_cases g:l[i].gone=false
 ·rw[if_pos g];simp[g]
 ·rw[if_neg g];simp[g]
def fs122:FS where
 A:=BnA
 args:=fun a=>[.int .i64 a.w,.int .i64 a.h,.int .i64 a.n]
 mem:=fun _=>[]
 pre:=fun _=>True
 res:=fun a x=>.tup [.sl 0 (lx (0<(bnL a.w a.h a.n).length) x 0) (esz 6 (bnL a.w a.h a.n).length) 0 (bnL a.w a.h a.n).length,.int .i64 (if bnOk a.w a.h a.n then 0 else 2)]
 out:=fun _ _=>[]
 new:=fun a x=>[(lx (0<(bnL a.w a.h a.n).length) x 0,.recs 6 true [] ((bnL a.w a.h a.n).map Bd.rc))]
set_option maxHeartbeats 1000000 in
theorem ok122:FSOk Try.prog 122 fs122:=by
 refine⟨⟨_,Try.func122,by kernel_rfl,by kernel_rfl⟩,fun a=>⟨by simp[fs122,push_cast,noMine,argOwn,Chunk.frArg],by simp[fs122,push_cast,outOk,Chunk.ext],fun x=>.inl (by simp[fs122,push_cast,frNew,frOut,Chunk.fr])⟩,fun a hp=>?_⟩
 obtain⟨w,h,n⟩:=a
 change Tri Try.prog 122 [.int .i64 w,.int .i64 h,.int .i64 n] [] (postF fs122 ⟨w,h,n⟩)
 refine tri_evS (hyp (l:=[(130,ent130)]) (lp:=[]) ⟨e130,trivial⟩ trivial) Try.func122 comp122 (rs:=[.tmp 6,.tmp 7]) (by rfl) Try.ntmps122 33 ?_
 simp -implicitDefEqProofs only[push_cast,zz,seval,ir122]
 refine⟨fun hb=>?_,fun hg=>?_⟩
 ·have e:¬ bnOk w h n:=fun H=>by obtain⟨q1,q2,q3,q4,q5,q6⟩:=H;omega
  have e1:bnA w h n=[]:=if_neg e
  have e2:bnL w h n=[]:=by unfold bnL;rw[e1];rfl
  refine postF.mk' (fun _=>default) [none] ?_
  simp -implicitDefEqProofs only[push_cast,zz,seval,fs122,e,e2,if_false,lx,List.length_nil,List.map_nil,Nat.lt_irrefl,esz]
 have e:bnOk w h n:=by unfold bnOk;omega
 obtain⟨q1,q2,q3,q4,q5,q6⟩:=id e
 obtain⟨w,rfl⟩:∃ m:Nat,w=(m:Int):=⟨w.toNat,by omega⟩
 obtain⟨h,rfl⟩:∃ m:Nat,h=(m:Int):=⟨h.toNat,by omega⟩
 obtain⟨n,rfl⟩:∃ m:Nat,n=(m:Int):=⟨n.toNat,by omega⟩
 simp -implicitDefEqProofs only[push_cast,zz,seval,fs130,Int.toNat_natCast]
 repeat refine om_ ?_
 intro X
 repeat refine om_ ?_
 refine evS_loopU (A:=Nat×Nat×Xf.Loc) kp122_1 kl122_1 (fun y=>[(8,.sl 15 y.2.2 6 0 (bdN y.1)),(11,.int .i64 y.2.1)]) (fun y=>[(15,.mine,y.2.2,.recs 6 true [] ((bdD w h n y.1).map Bd.rc))]) (fun y=>y.1+y.2.1=n) (fun y=>y.2.1) (0,n,X 6 15) (Nat.zero_add n) (Sub.pt ?_) ?_
 ·simp -implicitDefEqProofs only[push_cast,zz,seval,bdD,bd0,Bd.rc,List.map_cons,List.map_nil,Nat.mul_zero,show bdN 0=1 from rfl]
 rintro⟨k,lv,N⟩ (hk:k+lv=n) K hK
 have hlen:((bdD w h n k).map Bd.rc).length=bdN k:=by rw[List.length_map,bdD_length]
 have hN3:bdN k=1+3*k:=rfl
 have hN4:bdN (k+1)=1+3*(k+1):=rfl
 by_cases h0:0<lv
 ·obtain⟨lv,rfl⟩:∃ i,lv=i+1:=⟨lv-1,by omega⟩
  have e1:((lv+1:Nat):Int)-1=(lv:Int):=by omega
  have b1:=hlf_le w lv
  have b2:=hlf_le h lv
  have b3:=hlf_mono w lv
  have b4:=hlf_mono h lv
  generalize hlv:((lv+1:Nat):Int)=lvi at e1
  have en:lvi.toNat=lv+1:=by omega
  simp -implicitDefEqProofs only[push_cast,zz,seval,b122_1,r122_4,fs130,hlv,e1,en,hlen,Int.toNat_natCast,List.length_append,List.length_cons,List.length_nil]
  refine⟨fun _=>?_,fun hl=>by omega⟩
  repeat refine om_ ?_
  intro X2
  repeat refine om_ ?_
  intro X3
  repeat refine om_ ?_
  intro X4
  repeat refine om_ ?_
  have q:(bdD w h n k).map Bd.rc++[[.int .i64 lvi,.int .i64 1,.int .i64 (hlf w (lv+1)),.int .i64 0,.int .i64 ((hlf w lv:Int)-hlf w (lv+1)),.int .i64 (hlf h (lv+1))]]++[[.int .i64 lvi,.int .i64 2,.int .i64 0,.int .i64 (hlf h (lv+1)),.int .i64 (hlf w (lv+1)),.int .i64 ((hlf h lv:Int)-hlf h (lv+1))]]++[[.int .i64 lvi,.int .i64 3,.int .i64 (hlf w (lv+1)),.int .i64 (hlf h (lv+1)),.int .i64 ((hlf w lv:Int)-hlf w (lv+1)),.int .i64 ((hlf h lv:Int)-hlf h (lv+1))]]=(bdD w h n (k+1)).map Bd.rc:=by
   rw[bdD,List.map_append,show n-k=lv+1 by omega]
   simp[bd3,Bd.rc,<-hlv]
  refine hK (k+1,lv,X4 12 29) (show k+1+lv=n by omega) (show lv<lv+1 by omega) _ _ (Sub.of (mkG 33 [(14,14),(15,29)]) ?_)
  simp -implicitDefEqProofs only[push_cast,zz,seval,q]
  omega
 ·obtain rfl:lv=0:=by omega
  obtain rfl:k=n:=by omega
  clear hK
  have hall:bnA w h k=bdD w h k k:=by unfold bnA;rw[if_pos e];simp only[Int.toNat_natCast]
  have hle:=bdD_length w h k k
  have hok:=bdD_ok (w:=w) (h:=h) (n:=k) (by omega) (by omega) k (Nat.le_refl _)
  have hL:bnL w h k=keptBd (bdD w h k k):=by unfold bnL;rw[hall]
  generalize bdD w h k k=l at hlen hle hok hL
  have hz:¬ (1:Int)<=0:=by decide
  simp -implicitDefEqProofs only[push_cast,zz,seval,b122_1,r122_4,hz,true_implies,true_and]
  refine evS_loopU (A:=Nat×Xf.Loc) kp122_2 kl122_2 (fun y=>[(16,.sl 32 y.2 (esz 6 (keptBd (l.take y.1)).length) 0 (keptBd (l.take y.1)).length),(110,.int .i64 y.1)]) (fun y=>[(32,.mine,y.2,.recs 6 true [] ((keptBd (l.take y.1)).map Bd.rc))])
   (fun y=>y.1<=l.length/\((keptBd (l.take y.1)).length=0->y.2=nilLoc)) (fun y=>l.length-y.1) (0,nilLoc) ⟨Nat.zero_le _,fun _=>rfl⟩ (Sub.pt ?_) ?_
  ·simp -implicitDefEqProofs only[push_cast,zz,seval,List.take_zero,keptBd,List.filter_nil,List.length_nil,List.map_nil,esz]
  rintro⟨i,N2⟩ ⟨(hi:i<=l.length),(hN:(keptBd (l.take i)).length=0->N2=nilLoc)⟩ K2 hK2
  by_cases hi':i<l.length
  ·have r1:=recAt_Bd' (l:=l) (i:=(i:Int)) (by omega) (by omega) []
   have o1:=hok _ (rdBd_mem hi')
   have kt:=kept_take hi'
   obtain⟨x,hx⟩:∃ x,rdBd l (i:Int)=x:=⟨_,rfl⟩
   rw[hx]at r1 o1 kt
   have kp:=bd_keep o1
   obtain⟨lv,kd,x,y,w',h'⟩:=x
   simp only at kp
   simp -implicitDefEqProofs only[push_cast,zz,seval,b122_2,r122_3,r1,Bd.rc,hlen,hle,List.length_map]
   refine⟨fun _=>?_,fun hl=>by omega⟩
   intro X1
   have hkl:=keptBd_le (l.take i)
   rw[List.length_take]at hkl
   repeat refine om_ ?_
   refine⟨fun hc=>?_,fun hc=>?_⟩
   ·rw[if_pos (kp.1 hc)]at kt
    intro X2
    repeat refine om_ ?_
    refine hK2 (i+1,X2 3 32) ⟨show i+1<=l.length by omega,fun q=>?_⟩ (show l.length-(i+1)<l.length-i by omega) _ _ (Sub.pt ?_)
    ·simp only[kt,List.length_append,List.length_cons,List.length_nil]at q;omega
    ·have q:(keptBd (l.take i)).map Bd.rc++[[.int .i64 lv,.int .i64 kd,.int .i64 x,.int .i64 y,.int .i64 w',.int .i64 h']]=(keptBd (l.take (i+1))).map Bd.rc:=by rw[kt,List.map_append];rfl
     have q2:(keptBd (l.take (i+1))).length=(keptBd (l.take i)).length+1:=by rw[kt];simp
     simp -implicitDefEqProofs only[push_cast,zz,seval,q,q2,esz]
   ·rw[if_neg (fun q=>hc (kp.2 q)),List.append_nil]at kt
    repeat refine om_ ?_
    refine hK2 (i+1,N2) ⟨show i+1<=l.length by omega,fun q=>hN (by rw[<-kt];exact q)⟩ (show l.length-(i+1)<l.length-i by omega) _ _ (Sub.pt ?_)
    simp -implicitDefEqProofs only[push_cast,zz,seval,kt]
  ·obtain rfl:i=l.length:=by omega
   clear hK2
   rw[List.take_length]at hN ⊢
   simp -implicitDefEqProofs only[push_cast,zz,seval,b122_2,r122_3,hle,Int.lt_irrefl,true_implies,true_and,not_false_eq_true]
   refine postF.mk' (fun _=>N2) [some 32] ?_
   by_cases h0:0<(keptBd l).length
   ·simp -implicitDefEqProofs only[push_cast,zz,seval,fs122,hL,h0,e,if_true,lx]
   ·obtain rfl:=hN (by omega)
    simp -implicitDefEqProofs only[push_cast,zz,seval,fs122,hL,h0,e,if_true,if_false,lx]
def ent122:Entry:=spOf fs122 inv69
theorem e122:EntryOk Try.prog 122 ent122:=entry_of ok122 inv69
@[push_cast] theorem ent122_app (us:List SV) (look:Look) (x:Nat->Xf.Loc) (k:Nat):ent122 us look x k=spOf fs122 inv69 us look x k:=rfl
def inBd (b:Bd) (r c:Int):Bool:=decide (b.x<=c/\c<b.x+b.w/\b.y<=r/\r<b.y+b.h)
def cov (l:List Bd) (r c:Int):Nat:=l.countP fun b=>inBd b r c
theorem cov_app (l m:List Bd) (r c:Int):cov (l++m) r c=cov l r c+cov m r c:=List.countP_append
theorem cov_one (b:Bd) (r c:Int):cov [b] r c=if b.x<=c/\c<b.x+b.w/\b.y<=r/\r<b.y+b.h then 1 else 0:=by
 unfold cov inBd
 by_cases h:b.x<=c/\c<b.x+b.w/\b.y<=r/\r<b.y+b.h<;>simp[h]
theorem cov_three (a b d:Bd) (r c:Int):cov [a,b,d] r c=cov [a] r c+(cov [b] r c+cov [d] r c):=by
 rw[<-cov_app,<-cov_app];rfl
theorem three_sum {W H w h r c:Int} (h1:0<=w) (h2:w<=W) (h3:0<=h) (h4:h<=H) (hr:0<=r) (hc:0<=c) :
  (if r<h/\c<w then 1 else 0)+((if w<=c/\c<w+(W-w)/\0<=r/\r<0+h then 1 else 0)+((if 0<=c/\c<0+w/\h<=r/\r<h+(H-h)then 1 else 0)+(if w<=c/\c<w+(W-w)/\h<=r/\r<h+(H-h)then 1 else 0)))=if r<H/\c<W then 1 else (0:Nat):=by
 by_cases a:c<w<;>by_cases b:r<h<;>by_cases A:c<W<;>by_cases B:r<H <;>
  simp[a,b,A,B,hr,hc,show w<=c↔¬ c<w by omega,show h<=r↔¬ r<h by omega,show w+(W-w)=W by omega,show h+(H-h)=H by omega]<;>omega
theorem cov_down (w h n:Nat) (r c:Int) (hr:0<=r) (hc:0<=c):∀ k,k<=n->cov (bdD w h n k) r c=if r<hlf h (n-k)/\c<hlf w (n-k)then 1 else 0
 | 0,_=>by
  rw[bdD,cov_one]
  simp only[bd0,Nat.sub_zero,Int.zero_add,hr,hc,true_and]
  by_cases a:c<hlf w n<;>by_cases b:r<hlf h n<;>simp[a,b]
 | k+1,hk=>by
  obtain⟨i,hi⟩:∃ i,n-k=i+1:=⟨n-k-1,by omega⟩
  have hi2:n-(k+1)=i:=by omega
  rw[bdD,cov_app,cov_down w h n r c hr hc k (by omega),hi,hi2,bd3,cov_three,cov_one,cov_one,cov_one]
  simp only[Nat.add_sub_cancel]
  exact three_sum (by omega) (by have:=hlf_mono w i;omega) (by omega) (by have:=hlf_mono h i;omega) hr hc
theorem gone_out {b:Bd} (h:b.gone=true) (hk:b.ok) (r c:Int):inBd b r c=false:=by
 obtain⟨h1,h2,h3,h4⟩:=hk
 unfold Bd.gone at h
 rw[decide_eq_true_eq,Int.mul_eq_zero]at h
 unfold inBd
 rw[decide_eq_false_iff_not]
 omega
theorem cov_kept {l:List Bd} (hl:∀ x∈l,x.ok) (r c:Int):cov (keptBd l) r c=cov l r c:=by
 unfold cov keptBd
 rw[List.countP_filter]
 refine List.countP_congr fun b hb=>?_
 cases hg:b.gone with
 | false=>simp
 | true=>simp[gone_out hg (hl b hb) r c]
theorem cov_all {w h n:Nat} (hw:w<=200) (hh:h<=200) (r c:Nat) (hr:r<h) (hc:c<w):cov (keptBd (bdD w h n n)) r c=1:=by
 rw[cov_kept (bdD_ok hw hh n (Nat.le_refl n)),cov_down w h n r c (by omega) (by omega) n (Nat.le_refl n),Nat.sub_self,if_pos]
 simp only[hlf];omega
theorem cov_take {l:List Bd} {i:Nat} (h:i<l.length) (r c:Int):cov (l.take (i+1)) r c=cov (l.take i) r c+(if inBd (rdBd l i) r c=true then 1 else 0):=by
 rw[List.take_succ_eq_append_getElem h,cov_app,rdBd_nat h]
 unfold cov
 by_cases e:inBd l[i] r c=true<;>simp[e]
theorem onBk_ne {l:List Bck} {i j:Nat} (h:i≠j) (b:Bool):rdBk (onBk l i b) j=rdBk l j:=by
 unfold onBk rdBk;simp[List.getElem?_set_ne h]
theorem rdB_lt (xs:List Bool) (k:Nat) (h:k<xs.length):rdB xs (k:Nat)=xs[k]:=by simp[rdB,h]
theorem bkOf_at (f:Nat->Xf.Loc) {l:List Pb} {i:Nat} (h:i<l.length):rdBk (bkOf f l) i=⟨f i,l.getD i default,false⟩:=by
 rw[rdBk_nat (by rw[bkOf_len];exact h)]
 unfold bkOf
 simp
def inv8:List SV->Look->Option (Unit×List Nat)
 | [],_=>some ((),[])
 | _,_=>none
attribute [push_cast] inv8
def ent8:Entry:=spOf fs8 inv8
theorem e8:EntryOk Try.prog 8 ent8:=entry_of ok8 inv8
@[push_cast] theorem ent8_app (us:List SV) (look:Look) (x:Nat->Xf.Loc) (k:Nat):ent8 us look x k=spOf fs8 inv8 us look x k:=rfl
def ir127:IR:=
 .seq (r_ [z_ 2 0] [2]) (.seq (r_ [m_ 3 0,m_ 4 0,o_ 5 (.neg 0 (.t 4)),o_ 6 (.mx (.t 3) (.t 5)),m_ 2 6] [0,3,4,5,6]) (.ret))
set_option maxRecDepth 4000 in
theorem comp127:(Try.f127.body.bind fun c=>compC tab isP chkAll ir127 c)=some ir127:=by kernel_rfl
def ir100:IR:=
 .seq (r_ [z_ 2 0] [2]) (.seq (.seq (r_ [m_ 3 0] [0]) (.cond (.t 3) (.seq (r_ [z_ 2 1] [3]) (.ret)) (.skip))) (.seq (r_ [z_ 2 0] [3]) (.ret)))
set_option maxRecDepth 4000 in
theorem comp100:(Try.f100.body.bind fun c=>compC tab isP chkAll ir100 c)=some ir100:=by kernel_rfl
theorem p127:EntryPOk Try.prog 127 absF:=by
 refine⟨⟨_,Try.func127,by kernel_rfl,by kernel_rfl⟩,fun us p v h hp=>?_⟩
 unfold absF at h
 split at h<;>cases h
 obtain⟨h0,h1⟩:=hp
 refine tri_evS (hyp (l:=[]) (lp:=[]) trivial trivial) Try.func127 comp127 (rs:=[.tmp 2]) (by rfl) Try.ntmps127 10 ?_
 simp -implicitDefEqProofs only[push_cast,zz,seval,ir127]
 try omega
def oneF:EntryP
 | [.bool b]=>some (True,.int .i64 (if b=true then 1 else 0))
 | _=>none
attribute [push_cast] oneF
theorem p100:EntryPOk Try.prog 100 oneF:=by
 refine⟨⟨_,Try.func100,by kernel_rfl,by kernel_rfl⟩,fun us p v h hp=>?_⟩
 unfold oneF at h
 split at h<;>cases h
 rename_i b
 refine tri_evS (hyp (l:=[]) (lp:=[]) trivial trivial) Try.func100 comp100 (rs:=[.tmp 2]) (by rfl) Try.ntmps100 10 ?_
 cases b
 ·simp -implicitDefEqProofs only[push_cast,zz,seval,ir100]
  try rfl
 ·simp -implicitDefEqProofs only[push_cast,zz,seval,ir100]
structure SgA where
 p:Pl
 L:Xf.Loc
 t:Int
def b137_1:IR:=
 .seq (.seq (r_ [m_ 5 4,m_ 6 0,b_ 7 .lss 5 6] [5,6]) (.cond (.t 7) (.skip) (.exit 0))) (.seq (.block 1 (r_ [m_ 10 3,m_ 11 3,c_ 12 .quo 11 8,b_ 13 .sub 10 12,m_ 3 13] [7,10,11,12,13])) (r_ [m_ 8 4,a_ 9 8 1,m_ 4 9] [8,9]))
def r137_2:IR:=
 .seq (r_ [m_ 14 3,m_ 2 14] [0,3,4,14]) (.ret)
def ir137:IR:=
 .seq (r_ [z_ 2 0] [2]) (.seq (r_ [z_ 3 2048] []) (.seq (.seq (r_ [z_ 4 0] []) (.block 0 (.loop b137_1))) (r137_2)))
def kp137_1:List Nat:=[0,3,4]
def kl137_1:List Nat:=[]
attribute [push_cast] kp137_1 kl137_1
set_option maxRecDepth 4000 in
theorem comp137:(Try.f137.body.bind fun c=>compC tab isP chkAll ir137 c)=some ir137:=by kernel_rfl
def ir131:IR:=
 .seq (r_ [z_ 4 0] [4]) (.seq (.seq (r_ [m_ 8 0,c_ 9 .eql 8 0] [0,8]) (.cond (.t 9) (.seq (.seq (r_ [m_ 10 1,c_ 11 .rem 10 32,o_ 12 (.callp 137 [.t 11]),m_ 5 12] [9,10,11,12]) (.seq (r_ [m_ 13 1,c_ 14 .lss 13 32] [13]) (.cond (.t 14) (.seq (r_ [m_ 15 5,m_ 4 15] [1,5,14,15]) (.ret)) (.skip)))) (.seq (r_ [m_ 16 1,c_ 17 .rem 16 32,o_ 18 (.callp 137 [.t 17]),o_ 19 (.bin 0 .sub (Z_ 4096) (.t 18)),m_ 4 19] [1,5,14,16,17,18,19]) (.ret))) (.skip))) (.seq (r_ [m_ 20 1,c_ 21 .quo 20 256,m_ 22 1,c_ 23 .rem 22 256,m_ 6 21,m_ 7 23] [1,4,9,20,21,22,23]) (.seq (r_ [m_ 24 7,o_ 25 (.bin 0 .mul (Z_ 2) (.t 24)),a_ 26 25 1,c_ 27 .mul 26 4096,m_ 28 6,o_ 29 (.bin 0 .mul (Z_ 2) (.t 28)),m_ 30 7,o_ 31 (.bin 0 .mul (Z_ 2) (.t 30)),b_ 32 .add 29 31,a_ 33 32 2,b_ 34 .quo 27 33,o_ 35 (.mx (.t 34) (Z_ 1)),o_ 36 (.mn (.t 35) (Z_ 4095)),m_ 4 36] [6,7,24,25,26,27,28,29,30,31,32,33,34,35,36]) (.ret))))
set_option maxRecDepth 4000 in
theorem comp131:(Try.f131.body.bind fun c=>compC tab isP chkAll ir131 c)=some ir131:=by kernel_rfl
def ir133:IR:=
 .seq (r_ [z_ 6 0] [6]) (.seq (.seq (r_ [m_ 10 0,c_ 11 .eql 10 0] [0,10]) (.cond (.t 11) (.seq (r_ [m_ 12 1,c_ 13 .quo 12 32,m_ 14 1,c_ 15 .rem 14 32,m_ 7 13,m_ 8 15] [1,11,12,13,14,15]) (.seq (.block 0 (.seq (r_ [m_ 17 2,m_ 18 7,b_ 19 .eql 17 18,m_ 16 19] [17,18,19]) (.cond (.t 16) (.seq (r_ [m_ 20 7,o_ 21 (.bin 0 .mul (Z_ 32) (.t 20)),m_ 22 8,a_ 23 22 1,o_ 24 (.mn (.t 23) (Z_ 31)),b_ 25 .add 21 24,m_ 6 25] [2,7,8,16,20,21,22,23,24,25]) (.ret)) (.seq (r_ [m_ 27 8,c_ 28 .eql 27 0,m_ 26 28] [16,27,28]) (.cond (.t 26) (.seq (r_ [m_ 29 2,o_ 30 (.bin 0 .mul (Z_ 32) (.t 29)),m_ 6 30] [2,7,8,26,29,30]) (.ret)) (.skip)))))) (.seq (r_ [m_ 31 7,o_ 32 (.bin 0 .mul (Z_ 32) (.t 31)),m_ 33 8,b_ 34 .add 32 33,c_ 35 .sub 34 1,m_ 36 8,c_ 37 .quo 36 4,b_ 38 .sub 35 37,m_ 6 38] [2,7,8,26,31,32,33,34,35,36,37,38]) (.ret)))) (.skip))) (.seq (r_ [m_ 39 1,c_ 40 .quo 39 256,m_ 41 1,c_ 42 .rem 41 256,o_ 43 (.build [y_,y_] [(0,1,.t 40),(1,1,.t 42)]),o_ 9 (.allocI 10 .i64 2),S_ 2 .i64 9 43] [1,6,11,39,40,41,42,43]) (.seq (.seq (r_ [m_ 44 2,o_ 45 (.idxP (.t 9) (.t 44) 2 1),L_ 46 45,c_ 47 .eql 46 255] [44,45,46]) (.cond (.t 47) (r_ [o_ 48 (.idxP (.t 9) (Z_ 0) 2 1),L_ 49 48,c_ 50 .quo 49 2,o_ 51 (.idxP (.t 9) (Z_ 1) 2 1),L_ 52 51,c_ 53 .quo 52 2,o_ 54 (.idxP (.t 9) (Z_ 0) 2 1),S_ 1 .i64 54 50,o_ 55 (.idxP (.t 9) (Z_ 1) 2 1),S_ 1 .i64 55 53] [47,48,49,50,51,52,53,54,55]) (.skip))) (.seq (r_ [m_ 56 2,o_ 57 (.idxP (.t 9) (.t 56) 2 1),L_ 58 57,a_ 59 58 1,o_ 60 (.idxP (.t 9) (.t 56) 2 1),S_ 1 .i64 60 59] [2,47,56,57,58,59,60]) (.seq (r_ [o_ 61 (.idxP (.t 9) (Z_ 0) 2 1),L_ 62 61,o_ 63 (.bin 0 .mul (Z_ 256) (.t 62)),o_ 64 (.idxP (.t 9) (Z_ 1) 2 1),L_ 65 64,b_ 66 .add 63 65,m_ 6 66] [9,61,62,63,64,65,66]) (.ret))))))
set_option maxRecDepth 4000 in
theorem comp133:(Try.f133.body.bind fun c=>compC tab isP chkAll ir133 c)=some ir133:=by kernel_rfl
def ir136:IR:=
 .seq (r_ [o_ 2 (.box 10 (.t 0)),o_ 4 (.mov (.k (.int .u64 0)))] [0,4]) (.seq (r_ [f_ 6 2 1,l_ 7 6,f_ 8 2 0,l_ 9 8,b_ 10 .sub 7 9,m_ 5 10] [6,7,8,9,10]) (.seq (r_ [f_ 11 2 0,l_ 12 11,m_ 13 5,o_ 14 (.bin 0 .quo (.t 13) (.k (.int .u64 4096))),m_ 15 1,o_ 16 (.cvt 0 .u64 (.t 15)),b_ 17 .mul 14 16,b_ 18 .add 12 17,m_ 19 5,o_ 20 (.bin 0 .rem (.t 19) (.k (.int .u64 4096))),m_ 21 1,o_ 22 (.cvt 0 .u64 (.t 21)),b_ 23 .mul 20 22,o_ 24 (.bin 0 .quo (.t 23) (.k (.int .u64 4096))),b_ 25 .add 18 24,m_ 4 25] [1,2,5,11,12,13,14,15,16,17,18,19,20,21,22,23,24,25]) (.ret)))
set_option maxRecDepth 4000 in
theorem comp136:(Try.f136.body.bind fun c=>compC tab isP chkAll ir136 c)=some ir136:=by kernel_rfl
def ir132:IR:=
 .seq (r_ [o_ 3 (.box 10 (.t 0)),o_ 6 (.alloc 11 [.int .u64 0,.int .u64 0])] [0]) (.seq (.seq (r_ [m_ 7 2,c_ 8 .eql 7 1] [2,7]) (.cond (.t 8) (.seq (R_ [f_ 9 3 0,l_ 10 9,o_ 11 (.ld false (some 2) 0 0 (.t 3)),m_ 12 1,o_ 13 (.callp 136 [.t 11,.t 12]),o_ 14 (.build [.int .u64 0,.int .u64 0] [(0,1,.t 10),(1,1,.t 13)]),s_ 2 .i64 6 14] [1,3,8,9,10,11,12,13,14]) (.ret)) (.skip))) (.seq (R_ [o_ 15 (.ld false (some 2) 0 0 (.t 3)),m_ 16 1,o_ 17 (.callp 136 [.t 15,.t 16]),o_ 18 (.bin 0 .add (.t 17) (.k (.int .u64 1))),f_ 19 3 1,l_ 20 19,o_ 21 (.build [.int .u64 0,.int .u64 0] [(0,1,.t 18),(1,1,.t 20)]),s_ 2 .i64 6 21] [1,3,8,15,16,17,18,19,20,21]) (.ret)))
set_option maxRecDepth 4000 in
theorem comp132:(Try.f132.body.bind fun c=>compC tab isP chkAll ir132 c)=some ir132:=by kernel_rfl
def ir135:IR:=
 .seq (r_ [o_ 1 (.box 10 (.t 0)),o_ 2 (.alloc 11 [.int .u64 0,.int .u64 0])] [0]) (.seq (r_ [f_ 3 1 0,l_ 4 3,o_ 5 (.bin 0 .rem (.t 4) (.k (.int .u64 16777216))),o_ 6 (.bin 0 .mul (.t 5) (.k (.int .u64 256))),f_ 7 1 1,l_ 8 7,o_ 9 (.bin 0 .rem (.t 8) (.k (.int .u64 16777216))),o_ 10 (.bin 0 .mul (.t 9) (.k (.int .u64 256))),o_ 11 (.bin 0 .add (.t 10) (.k (.int .u64 255))),o_ 12 (.build [.int .u64 0,.int .u64 0] [(0,1,.t 6),(1,1,.t 11)]),s_ 2 .i64 2 12] [1,3,4,5,6,7,8,9,10,11,12]) (.ret))
set_option maxRecDepth 4000 in
theorem comp135:(Try.f135.body.bind fun c=>compC tab isP chkAll ir135 c)=some ir135:=by kernel_rfl
def ir134:IR:=
 .seq (r_ [o_ 1 (.box 10 (.t 0)),o_ 2 (.mov (.k (.bool false)))] [0,2]) (.seq (r_ [f_ 3 1 0,l_ 4 3,o_ 5 (.bin 0 .shr (.t 4) (.k (.int .u64 24))),f_ 6 1 1,l_ 7 6,o_ 8 (.bin 0 .shr (.t 7) (.k (.int .u64 24))),b_ 9 .eql 5 8,m_ 2 9] [1,3,4,5,6,7,8,9]) (.ret))
set_option maxRecDepth 4000 in
theorem comp134:(Try.f134.body.bind fun c=>compC tab isP chkAll ir134 c)=some ir134:=by kernel_rfl
def ir97:IR:=
 .seq (r_ [o_ 0 (.alloc 10 [.int .u64 0,.int .u64 0])] []) (.seq (r_ [o_ 1 (.build [.int .u64 0,.int .u64 0] [(0,1,.k (.int .u64 0)),(1,1,.k (.int .u64 4294967295))]),s_ 2 .i64 0 1] [1]) (.ret))
set_option maxRecDepth 4000 in
theorem comp97:(Try.f97.body.bind fun c=>compC tab isP chkAll ir97 c)=some ir97:=by kernel_rfl
theorem qst_qs:∀ k,k<32->(qst k).2=rd qs (k:Nat):=by decide +kernel
def unlF:EntryP
 | [.int .i64 k]=>some (0<=k/\k<32,.int .i64 (rd qs k))
 | _=>none
attribute [push_cast] unlF
theorem p137:EntryPOk Try.prog 137 unlF:=by
 refine⟨⟨_,Try.func137,by kernel_rfl,by kernel_rfl⟩,fun us p v h hp=>?_⟩
 unfold unlF at h
 split at h<;>cases h
 rename_i k
 obtain⟨h0,h1⟩:=hp
 obtain⟨n,rfl⟩:∃ n:Nat,k=n:=⟨k.toNat,by omega⟩
 refine tri_evS (hyp (l:=[]) (lp:=[]) trivial trivial) Try.func137 comp137 (rs:=[.tmp 2]) (by rfl) Try.ntmps137 10 ?_
 simp -implicitDefEqProofs only[push_cast,zz,seval,ir137]
 refine evS_loopU (A:=Nat) kp137_1 kl137_1 (fun i=>[(4,.int .i64 i),(3,.int .i64 (qst i).2)]) (fun _=>[]) (fun i=>i<=n) (fun i=>n-i) 0 (Nat.zero_le _) (Sub.pt ?_) ?_
 ·have e0:(qst 0).2=2048:=rfl
  simp -implicitDefEqProofs only[push_cast,zz,seval,e0]
 intro i hi K hK
 have hi:i<=n:=hi
 have hb:=qst_bd i
 by_cases hi':i<n
 ·have hii:(i:Int)<n:=by omega
  have e1:(qst (i+1)).2=(qst i).2-(qst i).2 / 8:=rfl
  obtain⟨q,hq⟩:∃ q,(qst i).2=q:=⟨_,rfl⟩
  rw[hq]at e1 hb
  simp -implicitDefEqProofs only[push_cast,zz,seval,b137_1,hii,hq]
  repeat refine om_ ?_
  refine hK (i+1) (show i+1<=n by omega) (show n-(i+1)<n-i by omega) _ _ (Sub.pt ?_)
  simp -implicitDefEqProofs only[push_cast,zz,seval,e1]
 ·have hin:i=n:=by omega
  subst hin
  clear hK
  have hq:=qst_qs i (by omega)
  simp -implicitDefEqProofs only[push_cast,zz,seval,b137_1,r137_2,Int.lt_irrefl,hq]
  try rfl
def likF:EntryP
 | [.int .i64 kind,.int .i64 s]=>some ((kind=0∨kind=1)/\sttOk kind s,.int .i64 (chP kind s))
 | _=>none
def aftF:EntryP
 | [.int .i64 kind,.int .i64 s,.int .i64 bit]=>some ((kind=0∨kind=1)/\sttOk kind s/\(bit=0∨bit=1),.int .i64 (nxP kind s bit))
 | _=>none
attribute [push_cast] likF aftF
theorem p131:EntryPOk Try.prog 131 likF:=by
 refine⟨⟨_,Try.func131,by kernel_rfl,by kernel_rfl⟩,fun us p v h hp=>?_⟩
 unfold likF at h
 split at h<;>cases h
 rename_i kind s
 obtain⟨hkd,h0,h1,h2⟩:=hp
 refine tri_evS (hyp (l:=[]) (lp:=[(137,unlF)]) trivial ⟨p137,trivial⟩) Try.func131 comp131 (rs:=[.tmp 4]) (by rfl) Try.ntmps131 10 ?_
 rcases hkd with rfl | rfl
 ·have h2:=h2 (by decide)
  by_cases h32:32<=s
  ·have e:chP 0 s=4096-rd qs (s-32):=by unfold chP;rw[if_neg (by decide),if_pos h32]
   have hm:s % 32=s-32:=by omega
   have hlt:¬ s<32:=by omega
   have hb:0<=rd qs (s-32)/\rd qs (s-32)<=2048:=by
    obtain⟨k,hk⟩:∃ k:Nat,s-32=k:=⟨(s-32).toNat,by omega⟩
    rw[hk]
    have:=qs_bd k (by omega)
    omega
   simp -implicitDefEqProofs only[push_cast,zz,seval,ir131,e,hm,hlt]
   all_goals omega
  ·have e:chP 0 s=rd qs s:=by unfold chP;rw[if_neg (by decide),if_neg h32]
   have hm:s % 32=s:=by omega
   have hlt:s<32:=by omega
   simp -implicitDefEqProofs only[push_cast,zz,seval,ir131,e,hm,hlt]
   all_goals omega
 ·have h1:=h1 rfl
  have e:chP 1 s=min (max ((2*(s % 256)+1)*4096 / (2*(s / 256)+2*(s % 256)+2)) 1) 4095:=by unfold chP;rw[if_pos rfl]
  have hd1:0<=(2*(s % 256)+1)*4096 / (2*(s / 256)+2*(s % 256)+2):=Int.ediv_nonneg (by omega) (by omega)
  have hd2:(2*(s % 256)+1)*4096 / (2*(s / 256)+2*(s % 256)+2)<=(2*(s % 256)+1)*4096:=Int.ediv_le_self _ (by omega)
  have h10:¬ (1:Int)=0:=by decide
  simp -implicitDefEqProofs only[push_cast,zz,seval,ir131,e,h10]
  all_goals omega
theorem p133:EntryPOk Try.prog 133 aftF:=by
 refine⟨⟨_,Try.func133,by kernel_rfl,by kernel_rfl⟩,fun us p v h hp=>?_⟩
 unfold aftF at h
 split at h<;>cases h
 rename_i kind s bit
 obtain⟨hkd,⟨h0,h1,h2⟩,hb⟩:=hp
 refine tri_evS (hyp (l:=[]) (lp:=[]) trivial trivial) Try.func133 comp133 (rs:=[.tmp 6]) (by rfl) Try.ntmps133 11 ?_
 have h10:¬ (1:Int)=0:=by decide
 rcases hkd with rfl | rfl
 ·have h2:=h2 (by decide)
  have e:nxP 0 s bit=if bit=s / 32 then 32*(s / 32)+min (s % 32+1) 31 else if s % 32=0 then 32*bit+s % 32 else 32*(s / 32)+(s % 32-(1+s % 32 / 4)):=by unfold nxP;rw[if_neg (by decide)]
  by_cases hm:bit=s / 32
  ·rw[if_pos hm]at e
   subst hm
   simp -implicitDefEqProofs only[push_cast,zz,seval,ir133,e]
   all_goals omega
  rw[if_neg hm]at e
  by_cases hz:s % 32=0
  ·rw[if_pos hz]at e
   have e2:32*bit+s % 32=32*bit:=by omega
   rw[e2]at e
   simp -implicitDefEqProofs only[push_cast,zz,seval,ir133,e,hm,hz]
   all_goals omega
  ·rw[if_neg hz]at e
   have e2:32*(s / 32)+(s % 32-(1+s % 32 / 4))=32*(s / 32)+s % 32-1-s % 32 / 4:=by omega
   rw[e2]at e
   simp -implicitDefEqProofs only[push_cast,zz,seval,ir133,e,hm,hz]
   all_goals omega
 ·have h1:=h1 rfl
  rcases hb with rfl | rfl
  ·have e:nxP 1 s 0=if s / 256=255 then 256*(s / 256 / 2+1)+s % 256 / 2 else 256*(s / 256+1)+s % 256:=by unfold nxP;rw[if_pos rfl,if_pos rfl]
   by_cases hn:s / 256=255
   ·rw[if_pos hn]at e
    simp -implicitDefEqProofs only[push_cast,zz,seval,ir133,e,rd2_0,rd2_1,set2_0,set2_1,i0,i1,hn,h10]
    all_goals omega
   ·rw[if_neg hn]at e
    simp -implicitDefEqProofs only[push_cast,zz,seval,ir133,e,rd2_0,rd2_1,set2_0,set2_1,i0,i1,hn,h10]
    all_goals omega
  ·have e:nxP 1 s 1=if s % 256=255 then 256*(s / 256 / 2)+(s % 256 / 2+1)else 256*(s / 256)+(s % 256+1):=by unfold nxP;rw[if_pos rfl,if_neg (by decide)]
   by_cases hn:s % 256=255
   ·rw[if_pos hn]at e
    simp -implicitDefEqProofs only[push_cast,zz,seval,ir133,e,rd2_0,rd2_1,set2_0,set2_1,i0,i1,hn,h10]
    all_goals omega
   ·rw[if_neg hn]at e
    simp -implicitDefEqProofs only[push_cast,zz,seval,ir133,e,rd2_0,rd2_1,set2_0,set2_1,i0,i1,hn,h10]
    all_goals omega
def rmidF:EntryP
 | [.agg [.int .u64 l,.int .u64 h],.int .i64 p]=>some (0<=l/\l<=h/\h<4294967296/\1<=p/\p<=4095,.int .u64 (midP l h p))
 | _=>none
def rpartF:EntryP
 | [.agg [.int .u64 l,.int .u64 h],.int .i64 p,.int .i64 bit]=>some (0<=l/\l<=h/\h<4294967296/\1<=p/\p<=4095,.agg [.int .u64 (if bit=1 then l else midP l h p+1),.int .u64 (if bit=1 then midP l h p else h)])
 | _=>none
def rshF:EntryP
 | [.agg [.int .u64 l,.int .u64 h]]=>some (0<=l/\l<4294967296/\0<=h/\h<4294967296,.agg [.int .u64 (l % 16777216*256),.int .u64 (h % 16777216*256+255)])
 | _=>none
def rfixF:EntryP
 | [.agg [.int .u64 l,.int .u64 h]]=>some (True,.bool (decide (l / 16777216=h / 16777216)))
 | _=>none
def rwholeF:EntryP
 | []=>some (True,.agg [.int .u64 0,.int .u64 4294967295])
 | _=>none
attribute [push_cast] rmidF rpartF rshF rfixF rwholeF
theorem p136:EntryPOk Try.prog 136 rmidF:=by
 refine⟨⟨_,Try.func136,by kernel_rfl,by kernel_rfl⟩,fun us p v h hp=>?_⟩
 unfold rmidF at h
 split at h<;>cases h
 rename_i l g p
 obtain⟨h0,h1,h2,h3,h4⟩:=hp
 have hb:=midP_bd h0 h1 h2 h3 h4
 have e:midP l g p=l+(g-l) / 4096*p+(g-l) % 4096*p / 4096:=rfl
 refine tri_evS (hyp (l:=[]) (lp:=[]) trivial trivial) Try.func136 comp136 (rs:=[.tmp 4]) (by rfl) Try.ntmps136 11 ?_
 rw[e]at hb ⊢
 obtain⟨A,hA⟩:∃ A,(g-l) / 4096*p=A:=⟨_,rfl⟩
 obtain⟨B,hB⟩:∃ A,(g-l) % 4096*p=A:=⟨_,rfl⟩
 rw[hA,hB]at hb ⊢
 simp -implicitDefEqProofs only[push_cast,zz,seval,ir136,hA,hB]
 all_goals omega
theorem p132:EntryPOk Try.prog 132 rpartF:=by
 refine⟨⟨_,Try.func132,by kernel_rfl,by kernel_rfl⟩,fun us p v h hp=>?_⟩
 unfold rpartF at h
 split at h<;>cases h
 rename_i l g p bit
 obtain⟨h0,h1,h2,h3,h4⟩:=hp
 have hb:=midP_bd h0 h1 h2 h3 h4
 obtain⟨m,hm⟩:∃ m,midP l g p=m:=⟨_,rfl⟩
 rw[hm]at hb ⊢
 refine tri_evS (hyp (l:=[]) (lp:=[(136,rmidF)]) trivial ⟨p136,trivial⟩) Try.func132 comp132 (rs:=[.cell 6 (some 2)]) (by rfl) Try.ntmps132 12 ?_
 by_cases hbit:bit=1
 ·rw[if_pos hbit,if_pos hbit]
  simp -implicitDefEqProofs only[push_cast,zz,seval,ir132,hm,hbit]
  all_goals omega
 ·rw[if_neg hbit,if_neg hbit]
  simp -implicitDefEqProofs only[push_cast,zz,seval,ir132,hm,hbit]
  all_goals omega
theorem p135:EntryPOk Try.prog 135 rshF:=by
 refine⟨⟨_,Try.func135,by kernel_rfl,by kernel_rfl⟩,fun us p v h hp=>?_⟩
 unfold rshF at h
 split at h<;>cases h
 rename_i l g
 obtain⟨h0,h1,h2,h3⟩:=hp
 refine tri_evS (hyp (l:=[]) (lp:=[]) trivial trivial) Try.func135 comp135 (rs:=[.cell 2 (some 2)]) (by rfl) Try.ntmps135 12 ?_
 simp -implicitDefEqProofs only[push_cast,zz,seval,ir135]
 all_goals omega
theorem p134:EntryPOk Try.prog 134 rfixF:=by
 refine⟨⟨_,Try.func134,by kernel_rfl,by kernel_rfl⟩,fun us p v h hp=>?_⟩
 unfold rfixF at h
 split at h<;>cases h
 rename_i l g
 refine tri_evS (hyp (l:=[]) (lp:=[]) trivial trivial) Try.func134 comp134 (rs:=[.tmp 2]) (by rfl) Try.ntmps134 11 ?_
 have i24:Int.toNat 24=24:=rfl
 have hb64:=bits64
 simp -implicitDefEqProofs only[push_cast,zz,seval,ir134,i24,pw24,hb64]
 all_goals omega
theorem p97:EntryPOk Try.prog 97 rwholeF:=by
 refine⟨⟨_,Try.func97,by kernel_rfl,by kernel_rfl⟩,fun us p v h hp=>?_⟩
 unfold rwholeF at h
 split at h<;>cases h
 refine tri_evS (hyp (l:=[]) (lp:=[]) trivial trivial) Try.func97 comp97 (rs:=[.cell 0 (some 2)]) (by rfl) Try.ntmps97 11 ?_
 simp -implicitDefEqProofs only[push_cast,zz,seval,ir97]
 try rfl
def v4 (code:List Int) (o:Int):Int:=bytA code o*16777216+bytA code (o+1)*65536+bytA code (o+2)*256+bytA code (o+3)
theorem or_even {y:Nat}:2*y ||| 1=2*y+1:=by
 have:=Nat.two_pow_add_eq_or_of_lt (i:=1) (b:=1) (by decide) y
 simpa using this.symm
theorem or_mul (y k:Nat):y*2^k ||| 2^k=(y ||| 1)*2^k:=by
 have h1:y*2^k=y <<< k:=(Nat.shiftLeft_eq y k).symm
 have h2:2^k=1 <<< k:=by rw[Nat.shiftLeft_eq,Nat.one_mul]
 have h3:(y ||| 1)*2^k=(y ||| 1) <<< k:=(Nat.shiftLeft_eq _ k).symm
 rw[h3,h1]
 conv=>lhs;rhs;rw[h2]
 rw[Nat.shiftLeft_or_distrib]
theorem orP_nat (x k:Nat):orP (x:Int) (k:Int)=((x ||| 2^k:Nat):Int):=by unfold orP;rw[Int.toNat_natCast,Int.toNat_natCast]
theorem rd_st_same {xs:List Int} {i:Nat} (h:i<xs.length) (v:Int):rd (xs.set i v) i=v:=by simp[rd,h]
theorem rd_st_ne {xs:List Int} {i j:Nat} (h:i≠j) (v:Int):rd (xs.set i v) j=rd xs j:=by simp[rd,List.getElem?_set_ne h]
theorem rdB_st_same {xs:List Bool} {i:Nat} (h:i<xs.length) (v:Bool):rdB (xs.set i v) i=v:=by simp[rdB,h]
theorem rdB_st_ne {xs:List Bool} {i j:Nat} (h:i≠j) (v:Bool):rdB (xs.set i v) j=rdB xs j:=by simp[rdB,List.getElem?_set_ne h]
def ir96:IR:=
 .seq (r_ [o_ 1 (.box 10 (.t 0)),o_ 2 (.alloc 11 [y_,nilSV])] [0]) (.seq (R_ [f_ 3 1 0,⟨some 4,none,⟨[12,13],[]⟩,.ld false none 0 0 (.t 3)⟩,o_ 5 (.bslice 12 []),f_ 6 1 1,⟨some 7,none,⟨[12],[]⟩,.ld false none 0 0 (.t 6)⟩,o_ 8 (.app 13 1 8 (.t 5) (.t 7)),o_ 9 (.build [y_,nilSV] [(0,1,.t 4),(1,1,.t 8)]),s_ 2 .i64 2 9] [1,3,4,5,6,7,8,9]) (.ret))
set_option maxRecDepth 4000 in
theorem comp96:(Try.f96.body.bind fun c=>compC tab isP chkAll ir96 c)=some ir96:=by kernel_rfl
def b95_1:IR:=
 .seq (r_ [b_ 27 .lss 26 25] []) (.seq (.cond (.t 27) (.skip) (.exit 0)) (.seq (.block 1 (.seq (r_ [i_ 28 24 26 1,L_ 29 28,m_ 5 29] [27,28,29]) (.seq (r_ [m_ 30 5,c_ 31 .lss 30 0,m_ 32 31,q_ 32 (m_ 33 5),q_ 32 (m_ 34 3),q_ 32 (b_ 35 .gtr 33 34),k_ 36 32 35] [5,30,31,32,33,34,35]) (.cond (.t 36) (.seq (r_ [o_ 2 (.mov (.k (.bool false)))] [3,24,25,26,36]) (.ret)) (.skip))))) (r_ [a_ 37 26 1,m_ 26 37] [2,36,37])))
def r95_2:IR:=
 .seq (r_ [o_ 2 (.mov (.k (.bool true)))] [3,24,25,26]) (.ret)
def ir95:IR:=
 .seq (r_ [o_ 1 (.box 10 (.t 0)),o_ 2 (.mov (.k (.bool false)))] [0,2]) (.seq (r_ [z_ 3 63] []) (.seq (.seq (r_ [f_ 6 1 0,l_ 7 6,c_ 8 .eql 7 1] [6,7]) (.cond (.t 8) (r_ [z_ 3 65535] [8]) (.skip))) (.seq (.seq (r_ [f_ 9 1 0,l_ 10 9,c_ 11 .neq 10 0,m_ 12 11,p_ 12 (f_ 13 1 0),p_ 12 (l_ 14 13),p_ 12 (c_ 15 .neq 14 1),K_ 16 12 15,m_ 17 16,q_ 17 (f_ 18 1 1),q_ 17 (l_ 19 18),q_ 17 (h_ 20 19),q_ 17 (c_ 21 .gtr 20 8192),k_ 22 17 21] [8,9,10,11,12,13,14,15,16,17,18,19,20,21]) (.cond (.t 22) (.seq (r_ [o_ 2 (.mov (.k (.bool false)))] [1,3,22]) (.ret)) (.skip))) (.seq (.seq (r_ [f_ 23 1 1,l_ 24 23,h_ 25 24,z_ 26 0] [1,2,22,23]) (.block 0 (.loop b95_1))) (r95_2)))))
def kp95_1:List Nat:=[3,24,25,26]
def kl95_1:List Nat:=[]
attribute [push_cast] kp95_1 kl95_1
set_option maxRecDepth 4000 in
theorem comp95:(Try.f95.body.bind fun c=>compC tab isP chkAll ir95 c)=some ir95:=by kernel_rfl
def ir98:IR:=
 .seq (r_ [o_ 4 (.mov (.k (.int .u64 0)))] [4]) (.seq (.seq (r_ [m_ 5 1,m_ 6 0,h_ 7 6,b_ 8 .lss 5 7] [5,6,7]) (.cond (.t 8) (.seq (r_ [m_ 9 0,m_ 10 1,i_ 11 9 10 1,L_ 12 11,o_ 13 (.cvt 0 .u64 (.t 12)),m_ 4 13] [0,1,8,9,10,11,12,13]) (.ret)) (.skip))) (.seq (r_ [o_ 4 (.mov (.k (.int .u64 0)))] [0,1,8]) (.ret)))
set_option maxRecDepth 4000 in
theorem comp98:(Try.f98.body.bind fun c=>compC tab isP chkAll ir98 c)=some ir98:=by kernel_rfl
def b59_1:IR:=
 .seq (.seq (r_ [m_ 23 7,c_ 24 .lss 23 4] [23]) (.cond (.t 24) (.skip) (.exit 0))) (.seq (.block 1 (R_ [m_ 27 6,m_ 28 6,n_ 29 28,f_ 30 29 6,⟨some 31,none,⟨[22,23,24,25],[]⟩,.ld false none 0 0 (.t 30)⟩,o_ 32 (.bin 0 .mul (.t 31) (.k (.int .u64 256))),m_ 33 6,n_ 34 33,f_ 35 34 4,l_ 36 35,m_ 37 7,o_ 38 (.call (some 4) 22 98 [.t 36,.t 37]),b_ 39 .add 32 38,n_ 40 27,f_ 41 40 6,s_ 1 .i64 41 39] [24,27,28,29,30,31,32,33,34,35,36,37,38,39,40,41])) (r_ [m_ 25 7,a_ 26 25 1,m_ 7 26] [25,26]))
def r59_2:IR:=
 .seq (r_ [m_ 42 6,m_ 4 42,z_ 5 0] [6,7,42]) (.ret)
def ir59:IR:=
 .seq (r_ [o_ 2 (.box 10 (.t 0)),o_ 4 (.mov (.k nilP)),z_ 5 0] [0,4,5]) (.seq (.seq (r_ [o_ 8 (.ld false (some 2) 0 0 (.t 2)),o_ 9 (.call (some 4) 11 95 [.t 8]),o_ 10 (.not (.t 9))] [8,9]) (.cond (.t 10) (.seq (r_ [o_ 4 (.mov (.k nilP)),z_ 5 10] [1,2,10]) (.ret)) (.skip))) (.seq (r_ [o_ 11 (.ld false (some 2) 0 0 (.t 2)),o_ 12 (.call (some 4) 15 96 [.t 11]),o_ 13 (.callp 97 []),o_ 14 (.bslice 19 []),m_ 15 1,o_ 16 (.app 20 1 1 (.t 14) (.t 15)),m_ 17 1,h_ 18 17,o_ 19 (.bin 0 .sub (Z_ 4) (.t 18)),o_ 20 (.mx (Z_ 0) (.t 19)),o_ 21 (.build [y_,nilSV,.int .u64 0,.int .u64 0,nilSV,y_,.int .u64 0,y_,.bool false] [(0,2,.t 12),(2,2,.t 13),(4,1,.t 16),(5,1,Z_ 4),(7,1,.t 20)]),o_ 22 (.box 21 (.t 21)),m_ 6 22] [1,2,4,5,10,11,12,13,14,15,16,17,18,19,20,21,22]) (.seq (.seq (r_ [z_ 7 0] []) (.block 0 (.loop b59_1))) (r59_2))))
def kp59_1:List Nat:=[6,7]
def kl59_1:List Nat:=[22,23,24,25]
attribute [push_cast] kp59_1 kl59_1
set_option maxRecDepth 4000 in
theorem comp59:(Try.f59.body.bind fun c=>compC tab isP chkAll ir59 c)=some ir59:=by kernel_rfl
def fs96:FS where
 A:=MdA
 args:=fun a=>[.agg [.int .i64 a.kind,.sl 0 a.L 1 0 a.st.length]]
 mem:=mdM
 pre:=fun a=>a.st.length<=1000000
 res:=fun a x=>.agg [.int .i64 a.kind,.sl 1 (x 0) 1 0 a.st.length]
 out:=fun _ _=>[]
 new:=fun a x=>[(x 0,.ints .i64 a.st)]
theorem ok96:FSOk Try.prog 96 fs96:=by
 refine⟨⟨_,Try.func96,by kernel_rfl,by kernel_rfl⟩,fun a=>⟨by simp[fs96,mdM,push_cast,noMine,argOwn,Chunk.frArg],by simp[fs96,mdM,push_cast,outOk,Chunk.ext],fun x=>.inl (by simp[fs96,mdM,push_cast,frNew,frOut,Chunk.fr])⟩,fun a hp=>?_⟩
 obtain⟨L,kind,st⟩:=a
 have hp:st.length<=1000000:=hp
 change Tri Try.prog 96 [.agg [.int .i64 kind,.sl 0 L 1 0 st.length]] [some (.ro,L,.ints .i64 st)] (postF fs96 ⟨L,kind,st⟩)
 refine tri_evS (hyp (l:=[]) (lp:=[]) trivial trivial) Try.func96 comp96 (rs:=[.cell 2 (some 2)]) (by rfl) Try.ntmps96 14 ?_
 simp -implicitDefEqProofs only[push_cast,zz,seval,ir96]
 intro X X1
 repeat refine om_ ?_
 refine postF.mk' (fun _=>X1 5 13) [some 0,some 13] ?_
 simp -implicitDefEqProofs only[push_cast,zz,seval,fs96,mdM]
def ent96:Entry:=spOf fs96 invMd
theorem e96:EntryOk Try.prog 96 ent96:=entry_of ok96 invMd
@[push_cast] theorem ent96_app (us:List SV) (look:Look) (x:Nat->Xf.Loc) (k:Nat):ent96 us look x k=spOf fs96 invMd us look x k:=rfl
def fs95:FS where
 A:=MdA
 args:=fun a=>[.agg [.int .i64 a.kind,.sl 0 a.L 1 0 a.st.length]]
 mem:=mdM
 pre:=fun a=>mdOk a.kind a.st
 res:=fun a _=>.bool true
 out:=fun _ _=>[]
 new:=fun _ _=>[]
theorem ok95:FSOk Try.prog 95 fs95:=by
 refine⟨⟨_,Try.func95,by kernel_rfl,by kernel_rfl⟩,fun a=>⟨by simp[fs95,mdM,push_cast,noMine,argOwn,Chunk.frArg],by simp[fs95,mdM,push_cast,outOk,Chunk.ext],fun x=>.inl (by simp[fs95,mdM,push_cast,frNew,frOut,Chunk.fr])⟩,fun a hp=>?_⟩
 obtain⟨L,kind,st⟩:=a
 obtain⟨⟨h1,h2⟩,h3⟩:((kind=0∨kind=1)/\∀ s∈st,sttOk kind s)/\st.length<=8192:=hp
 change Tri Try.prog 95 [.agg [.int .i64 kind,.sl 0 L 1 0 st.length]] [some (.ro,L,.ints .i64 st)] (postF fs95 ⟨L,kind,st⟩)
 refine tri_evS (hyp (l:=[]) (lp:=[]) trivial trivial) Try.func95 comp95 (rs:=[.tmp 2]) (by rfl) Try.ntmps95 11 ?_
 have c1:¬ (¬ kind=0/\¬ kind=1):=by omega
 have c2:¬ (8192:Int)<st.length:=by omega
 obtain⟨e,he⟩:∃ e:Int,e=if kind=1 then 65535 else 63:=⟨_,rfl⟩
 have hall:∀ i:Nat,i<st.length->0<=rd st i/\rd st i<=e:=fun i hi=>by
  rw[rd_lt st i hi]
  obtain⟨a,b,c⟩:=h2 _ (List.getElem_mem hi)
  rw[he]
  split
  ·exact⟨a,by have:=b (by assumption);omega⟩
  ·exact⟨a,by have:=c (by assumption);omega⟩
 have loop:∀ (X:Xf.Loc),evS (spList []) (spPList []) (retK [RV.tmp 2] (postF fs95 ⟨L,kind,st⟩)) [Xf.Item.code (IR.loop b95_1),Xf.Item.blk 0,Xf.Item.code r95_2] (upS (List.replicate 38 none) [(3,.int .i64 e),(24,.sl 0 L 1 0 st.length),(25,.int .i64 st.length),(26,.int .i64 0)])
   [some (.ro,L,.ints .i64 st),none,none,none,none,none,none,none,none,none,some (.mine,X,.cells [.int .i64 kind,.sl 0 L 1 0 st.length]),none]:=fun X=>by
  refine evS_loopU (A:=Nat) kp95_1 kl95_1 (fun i=>[(26,.int .i64 i)]) (fun i=>[]) (fun i=>i<=st.length) (fun i=>st.length-i) 0 (Nat.zero_le _) (Sub.pt ?_) ?_
  ·simp -implicitDefEqProofs only[push_cast,zz,seval]
  intro i hi K hK
  have hi:i<=st.length:=hi
  by_cases hi':i<st.length
  ·obtain⟨a1,a2⟩:=hall i hi'
   have hii:(i:Int)<st.length:=by omega
   obtain⟨s,hs⟩:∃ s,rd st i=s:=⟨_,rfl⟩
   rw[hs]at a1 a2
   have a3:¬ s<0:=by omega
   have a4:¬ e<s:=by omega
   simp -implicitDefEqProofs only[push_cast,zz,seval,b95_1,hs,hii,a3,a4]
   repeat refine om_ ?_
   refine hK (i+1) (show i+1<=st.length by omega) (show st.length-(i+1)<st.length-i by omega) _ _ (Sub.pt ?_)
   simp -implicitDefEqProofs only[push_cast,zz,seval]
  ·obtain rfl:i=st.length:=by omega
   clear hK
   simp -implicitDefEqProofs only[push_cast,zz,seval,b95_1,r95_2,Int.lt_irrefl]
   refine postF.mk' (fun _=>default) [some 0] ?_
   simp -implicitDefEqProofs only[push_cast,zz,seval,fs95,mdM]
 rcases h1 with rfl | rfl
 ·rw[if_neg (by decide)]at he
  subst he
  simp -implicitDefEqProofs only[push_cast,zz,seval,ir95,c1,c2]
  intro X
  first | exact⟨fun h=>absurd h (by decide),fun _=>loop _⟩ | exact loop _
 ·rw[if_pos rfl]at he
  subst he
  simp -implicitDefEqProofs only[push_cast,zz,seval,ir95,c1,c2]
  intro X
  exact loop _
def ent95:Entry:=spOf fs95 invMd
theorem e95:EntryOk Try.prog 95 ent95:=entry_of ok95 invMd
@[push_cast] theorem ent95_app (us:List SV) (look:Look) (x:Nat->Xf.Loc) (k:Nat):ent95 us look x k=spOf fs95 invMd us look x k:=rfl
structure ByA where
 L:Xf.Loc
 code:List Int
 i:Int
def invBy:List SV->Look->Option (ByA×List Nat)
 | [.sl c _ 1 0 _,.int .i64 i],look=>match rowI (look c)with
  | some (L,.u8,code)=>some (⟨L,code,i⟩,[c])
  | _=>none
 | _,_=>none
attribute [push_cast] invBy
def fs98:FS where
 A:=ByA
 args:=fun a=>[.sl 0 a.L 1 0 a.code.length,.int .i64 a.i]
 mem:=fun a=>[some (.ro,a.L,.ints .u8 a.code)]
 pre:=fun a=>byAll a.code/\0<=a.i
 res:=fun a _=>.int .u64 (bytA a.code a.i)
 out:=fun _ _=>[]
 new:=fun _ _=>[]
theorem ok98:FSOk Try.prog 98 fs98:=by
 refine⟨⟨_,Try.func98,by kernel_rfl,by kernel_rfl⟩,fun a=>⟨by simp[fs98,push_cast,noMine,argOwn,Chunk.frArg],by simp[fs98,push_cast,outOk,Chunk.ext],fun x=>.inl (by simp[fs98,push_cast,frNew,frOut,Chunk.fr])⟩,fun a hp=>?_⟩
 obtain⟨L,code,i⟩:=a
 obtain⟨h1,h2⟩:byAll code/\0<=i:=hp
 have hb:=bytA_bd h1 h2
 change Tri Try.prog 98 [.sl 0 L 1 0 code.length,.int .i64 i] [some (.ro,L,.ints .u8 code)] (postF fs98 ⟨L,code,i⟩)
 refine tri_evS (hyp (l:=[]) (lp:=[]) trivial trivial) Try.func98 comp98 (rs:=[.tmp 4]) (by rfl) Try.ntmps98 10 ?_
 by_cases hi:i<code.length
 ·have e:bytA code i=rd code i:=by unfold bytA;rw[if_pos hi]
  rw[e]at hb
  simp -implicitDefEqProofs only[push_cast,zz,seval,ir98,hi]
  repeat refine om_ ?_
  refine postF.mk' (fun _=>default) [some 0] ?_
  simp -implicitDefEqProofs only[push_cast,zz,seval,fs98,e]
 ·have e:bytA code i=0:=by unfold bytA;rw[if_neg hi]
  simp -implicitDefEqProofs only[push_cast,zz,seval,ir98,hi]
  refine postF.mk' (fun _=>default) [some 0] ?_
  simp -implicitDefEqProofs only[push_cast,zz,seval,fs98,e]
def ent98:Entry:=spOf fs98 invBy
theorem e98:EntryOk Try.prog 98 ent98:=entry_of ok98 invBy
@[push_cast] theorem ent98_app (us:List SV) (look:Look) (x:Nat->Xf.Loc) (k:Nat):ent98 us look x k=spOf fs98 invBy us look x k:=rfl
def rdV (LS:Xf.Loc) (d:DeS) (LC:Xf.Loc):List SV:=[.int .i64 d.kind,.sl 1 LS 1 0 d.st.length,.int .u64 d.low,.int .u64 d.high,.sl 2 LC 1 0 d.code.length,.int .i64 d.at_,.int .u64 d.value,.int .i64 d.beyond,.bool d.ended]
theorem vN_lt (code:List Int) (h:byAll code):∀ k,k<4->vN code k<16777216/\vN code (k+1)=vN code k*256+bytA code k:=by
 have b:=fun k:Nat=>bytA_bd h (i:=k) (by omega)
 have s:∀ k:Nat,vN code (k+1)=vN code k % 16777216*256+bytA code k:=fun k=>rfl
 have h0:vN code 0=0:=rfl
 have h1:=s 0
 have h2:=s 1
 have h3:=s 2
 have h4:=s 3
 have b0:=b 0
 have b1:=b 1
 have b2:=b 2
 have n:=fun k=>(vN_bd h k).1
 have n0:=n 0
 have n1:=n 1
 have n2:=n 2
 have n3:=n 3
 simp only[Nat.zero_add,Nat.reduceAdd]at h1 h2 h3 h4
 have hlt:∀ k,k<4->vN code k<16777216:=by
  intro k hk
  have:k=0∨k=1∨k=2∨k=3:=by omega
  rcases this with rfl | rfl | rfl | rfl<;>omega
 intro k hk
 have:=hlt k hk
 have:=n k
 exact⟨hlt k hk,by rw[s k];omega⟩
def rdK (kind:Int) (st code:List Int) (k:Nat):DeS:=⟨kind,st,0,4294967295,code,4,vN code k,beyP code 4,false⟩
def fs59:FS where
 A:=NdA
 args:=fun a=>[.agg [.int .i64 a.kind,.sl 0 a.L 1 0 a.st.length],.sl 1 a.LB 1 0 a.code.length]
 mem:=fun a=>[some (.ro,a.L,.ints .i64 a.st),some (.ro,a.LB,.ints .u8 a.code)]
 pre:=fun a=>mdOk a.kind a.st/\a.code.length<=140737488355328/\byAll a.code
 res:=fun a x=>.tup [.ptr 4 (x 2) 0 0 0,.int .i64 0]
 out:=fun _ _=>[]
 new:=fun a x=>[(x 0,.ints .i64 a.st),(x 1,.ints .u8 a.code),(x 2,.cells (relabs (fun i=>i+1) (rdV (x 0) (newDe a.kind a.st a.code) (x 1))))]
set_option maxHeartbeats 1000000 in
theorem ok59:FSOk Try.prog 59 fs59:=by
 refine⟨⟨_,Try.func59,by kernel_rfl,by kernel_rfl⟩,fun a=>⟨by simp[fs59,push_cast,noMine,argOwn,Chunk.frArg],by simp[fs59,push_cast,outOk,Chunk.ext],fun x=>.inl (by simp[fs59,push_cast,frNew,frOut,Chunk.fr])⟩,fun a hp=>?_⟩
 obtain⟨L,kind,st,LB,code⟩:=a
 obtain⟨hp',hc,hby⟩:mdOk kind st/\code.length<=140737488355328/\byAll code:=hp
 have hl:st.length<=1000000:=by have:=hp'.2;omega
 change Tri Try.prog 59 [.agg [.int .i64 kind,.sl 0 L 1 0 st.length],.sl 1 LB 1 0 code.length] [some (.ro,L,.ints .i64 st),some (.ro,LB,.ints .u8 code)] (postF fs59 ⟨L,kind,st,LB,code⟩)
 refine tri_evS (hyp (l:=[(95,ent95),(96,ent96),(98,ent98)]) (lp:=[(97,rwholeF)]) ⟨e95,e96,e98,trivial⟩ ⟨p97,trivial⟩) Try.func59 comp59 (rs:=[.tmp 4,.tmp 5]) (by rfl) Try.ntmps59 26 ?_
 have hbe:max 0 (4-(code.length:Int))=beyP code 4:=rfl
 simp -implicitDefEqProofs only[push_cast,zz,seval,ir59,fs95,fs96,mdM,hp',hl,hbe]
 intro X
 repeat refine om_ ?_
 intro X1
 repeat refine om_ ?_
 refine evS_loopU (A:=Nat) kp59_1 kl59_1 (fun k=>[(7,.int .i64 k)]) (fun k=>[(21,.mine,X1 11 21,.cells (relabs (fun i=>bif i==1 then 15 else 20) (rdV (X1 1 15) (rdK kind st code k) (X1 5 20))))])
  (fun k=>k<=4) (fun k=>4-k) 0 (Nat.zero_le _) (Sub.pt ?_) ?_
 ·simp -implicitDefEqProofs only[push_cast,zz,seval,rdV,rdK,vN]
 intro k hk K hK
 have hk:k<=4:=hk
 by_cases hk':k<4
 ·have hki:(k:Int)<4:=by omega
  obtain⟨v1,v2⟩:=vN_lt code hby k hk'
  have v0:=(vN_bd hby k).1
  have hb:=bytA_bd hby (i:=k) (by omega)
  simp -implicitDefEqProofs only[push_cast,zz,seval,b59_1,rdV,rdK,fs98,hki,hby]
  repeat refine om_ ?_
  refine hK (k+1) (show k+1<=4 by omega) (show 4-(k+1)<4-k by omega) _ _ (Sub.pt ?_)
  simp -implicitDefEqProofs only[push_cast,zz,seval,rdV,rdK,v2]
 ·have hk2:k=4:=by omega
  have hki:¬ (k:Int)<4:=by omega
  clear hK
  simp -implicitDefEqProofs only[push_cast,zz,seval,b59_1,rdV,rdK,hki,r59_2]
  refine postF.mk' (fun j=>if j=0 then X1 1 15 else if j=1 then X1 5 20 else X1 11 21) [some 0,some 1,some 15,some 20,some 21] ?_
  have e2:vN code k=vN code 4:=by rw[hk2]
  simp -implicitDefEqProofs only[push_cast,zz,seval,fs59,rdV,rdK,newDe,e2]
def ent59:Entry:=spOf fs59 invNd
theorem e59:EntryOk Try.prog 59 ent59:=entry_of ok59 invNd
@[push_cast] theorem ent59_app (us:List SV) (look:Look) (x:Nat->Xf.Loc) (k:Nat):ent59 us look x k=spOf fs59 invNd us look x k:=rfl
def b126_1:IR:=
 .seq (.seq (r_ [o_ 70 (.ld false (some 2) 0 0 (.t 8)),o_ 71 (.callp 134 [.t 70])] [70]) (.cond (.t 71) (.skip) (.exit 0))) (.block 1 (.seq (r_ [o_ 72 (.ld false (some 2) 0 0 (.t 8)),o_ 73 (.callp 135 [.t 72]),s_ 2 .i64 8 73] [71,72,73]) (.seq (r_ [m_ 74 10,o_ 75 (.bin 0 .rem (.t 74) (.k (.int .u64 16777216))),o_ 76 (.bin 0 .mul (.t 75) (.k (.int .u64 256))),m_ 77 0,n_ 78 77,f_ 79 78 4,l_ 80 79,m_ 81 9,o_ 82 (.call (some 4) 11 98 [.t 80,.t 81]),b_ 83 .add 76 82,m_ 10 83] [74,75,76,77,78,79,80,81,82,83]) (r_ [m_ 84 9,a_ 85 84 1,m_ 9 85] [84,85]))))
def r126_2:IR:=
 .seq (r_ [m_ 86 9,m_ 87 0,n_ 88 87,f_ 89 88 4,l_ 90 89,h_ 91 90,b_ 92 .sub 86 91,o_ 93 (.mx (Z_ 0) (.t 92)),m_ 11 93] [86,87,88,89,90,91,92,93]) (.seq (.seq (r_ [m_ 94 11,c_ 95 .gtr 94 4] [94]) (.cond (.t 95) (.seq (r_ [m_ 96 0,n_ 97 96,f_ 98 97 8,O_ (.sto false 1 .i64 (.t 98) (.k (.bool true)))] [0,1,7,8,9,10,11,95,96,97,98]) (.seq (r_ [z_ 4 0,z_ 5 6] []) (.ret))) (.skip))) (.seq (R_ [m_ 99 0,n_ 100 99,f_ 101 100 0,f_ 102 101 1,l_ 103 102,m_ 104 1,m_ 105 0,n_ 106 105,f_ 107 106 0,f_ 108 107 0,l_ 109 108,m_ 110 0,n_ 111 110,f_ 112 111 0,f_ 113 112 1,l_ 114 113,m_ 115 1,i_ 116 114 115 1,L_ 117 116,m_ 118 7,o_ 119 (.callp 133 [.t 109,.t 117,.t 118]),i_ 120 103 104 1,S_ 1 .i64 120 119] [1,4,5,95,99,100,101,102,103,104,105,106,107,108,109,110,111,112,113,114,115,116,117,118,119,120]) (.seq (r_ [m_ 121 0,m_ 122 0,m_ 123 0,m_ 124 0,o_ 125 (.ld false (some 2) 0 0 (.t 8)),m_ 126 9,m_ 127 10,m_ 128 11,n_ 129 121,f_ 130 129 2,s_ 2 .i64 130 125,n_ 131 122,f_ 132 131 5,s_ 1 .i64 132 126,n_ 133 123,f_ 134 133 6,s_ 1 .i64 134 127,n_ 135 124,f_ 136 135 7,s_ 1 .i64 136 128] [0,8,9,10,11,121,122,123,124,125,126,127,128,129,130,131,132,133,134,135,136]) (.seq (r_ [m_ 137 7,m_ 4 137,z_ 5 0] [7,137]) (.ret)))))
def ir126:IR:=
 .seq (r_ [z_ 4 0,z_ 5 0] [4,5]) (.seq (.seq (r_ [m_ 12 0,o_ 13 (.binN .eql (.t 12) (.k nilP))] [12]) (.cond (.t 13) (.seq (r_ [z_ 4 0,z_ 5 7] [0,1,13]) (.ret)) (.skip))) (.seq (.seq (r_ [m_ 14 1,c_ 15 .lss 14 0,m_ 16 15,q_ 16 (m_ 17 1),q_ 16 (m_ 18 0),q_ 16 (n_ 19 18),q_ 16 (f_ 20 19 0),q_ 16 (f_ 21 20 1),q_ 16 (l_ 22 21),q_ 16 (h_ 23 22),q_ 16 (b_ 24 .geq 17 23),k_ 25 16 24] [4,5,13,14,15,16,17,18,19,20,21,22,23,24]) (.cond (.t 25) (.seq (r_ [z_ 4 0,z_ 5 2] [0,1,25]) (.ret)) (.skip))) (.seq (.seq (r_ [m_ 26 0,n_ 27 26,f_ 28 27 8,l_ 29 28] [4,5,25,26,27,28]) (.cond (.t 29) (.seq (r_ [z_ 4 0,z_ 5 6] [0,1,29]) (.ret)) (.skip))) (.seq (R_ [m_ 30 0,n_ 31 30,f_ 32 31 0,f_ 33 32 0,l_ 34 33,m_ 35 0,n_ 36 35,f_ 37 36 0,f_ 38 37 1,l_ 39 38,m_ 40 1,i_ 41 39 40 1,L_ 42 41,o_ 43 (.callp 131 [.t 34,.t 42]),m_ 6 43] [4,5,29,30,31,32,33,34,35,36,37,38,39,40,41,42,43]) (.seq (r_ [z_ 7 0] []) (.seq (.seq (R_ [m_ 44 0,n_ 45 44,f_ 46 45 6,l_ 47 46,m_ 48 0,n_ 49 48,f_ 50 49 2,o_ 51 (.ld false (some 2) 0 0 (.t 50)),m_ 52 6,o_ 53 (.callp 136 [.t 51,.t 52]),b_ 54 .leq 47 53] [44,45,46,47,48,49,50,51,52,53]) (.cond (.t 54) (r_ [z_ 7 1] [54]) (.skip))) (.seq (R_ [m_ 55 0,n_ 56 55,f_ 57 56 2,⟨some 58,none,⟨[10],[]⟩,.ld false (some 2) 0 0 (.t 57)⟩,m_ 59 6,m_ 60 7,o_ 61 (.callp 132 [.t 58,.t 59,.t 60]),m_ 62 0,n_ 63 62,f_ 64 63 5,⟨some 65,none,⟨[10],[]⟩,.ld false none 0 0 (.t 64)⟩,m_ 66 0,n_ 67 66,f_ 68 67 6,⟨some 69,none,⟨[10],[]⟩,.ld false none 0 0 (.t 68)⟩,o_ 8 (.alloc 10 [.int .u64 0,.int .u64 0]),⟨none,none,⟨[],[10]⟩,.sto false 2 .i64 (.t 8) (.t 61)⟩,m_ 9 65,m_ 10 69] [6,54,55,56,57,58,59,60,61,62,63,64,65,66,67,68,69]) (.seq (.block 0 (.loop b126_1)) (r126_2)))))))))
def kp126_1:List Nat:=[0,1,7,8,9,10]
def kl126_1:List Nat:=[11,12,13,14]
attribute [push_cast] kp126_1 kl126_1
set_option maxRecDepth 4000 in
theorem comp126:(Try.f126.body.bind fun c=>compC tab isP chkAll ir126 c)=some ir126:=by kernel_rfl
structure RdA where
 L:Xf.Loc
 LS:Xf.Loc
 LC:Xf.Loc
 d:DeS
 ctx:Int
def invRd:List SV->Look->Option (RdA×List Nat)
 | [.ptr c _ 0 0 0,.int .i64 ctx],look=>match rowC (look c)with
  | some (L,[.int .i64 kind,.sl d LS 1 0 _,.int .u64 low,.int .u64 high,.sl e _ 1 0 _,.int .i64 i,.int .u64 v,.int .i64 b,.bool en])=>match rowI (look d),rowI (look e)with
   | some (_,.i64,st),some (LC,.u8,code)=>some (⟨L,LS,LC,⟨kind,st,low,high,code,i,v,b,en⟩,ctx⟩,[c,d,e])
   | _,_=>none
  | _=>none
 | _,_=>none
attribute [push_cast] invRd
def fs126:FS where
 A:=RdA
 args:=fun a=>[.ptr 0 a.L 0 0 0,.int .i64 a.ctx]
 mem:=fun a=>[some (.lent,a.L,.cells (rdV a.LS a.d a.LC)),some (.lent,a.LS,.ints .i64 a.d.st),some (.ro,a.LC,.ints .u8 a.d.code)]
 pre:=fun a=>a.d.ok/\0<=a.ctx/\a.ctx<a.d.st.length
 res:=fun a _=>.tup [.int .i64 (gotB a.d a.ctx),.int .i64 (gotE a.d a.ctx)]
 out:=fun a x=>[some (some (.cells (rdV a.LS (gotS a.d a.ctx) a.LC))),some (some (.ints .i64 (gotS a.d a.ctx).st))]
 new:=fun a x=>[]
set_option maxRecDepth 4000 in
set_option maxHeartbeats 2000000 in
theorem ok126:FSOk Try.prog 126 fs126:=by
 refine⟨⟨_,Try.func126,by kernel_rfl,by kernel_rfl⟩,fun a=>⟨by simp[fs126,rdV,gotS_len,push_cast,noMine,argOwn,Chunk.frArg],by simp[fs126,rdV,gotS_len,push_cast,outOk,Chunk.ext],fun x=>.inl (by simp[fs126,rdV,gotS_len,push_cast,frNew,frOut,Chunk.fr])⟩,fun a hp=>?_⟩
 obtain⟨L,LS,LC,⟨kind,st,low,high,code,i,v,b,en⟩,ctx⟩:=a
 obtain⟨⟨hiv,hin,hat⟩,h2,h3⟩:(ivOk2 kind st low high/\inOk code i v b/\i<=code.length+4)/\0<=ctx/\ctx<st.length:=hp
 obtain⟨b1,b2,b3,b4,b5,b6,b7⟩:=id hin
 obtain⟨z1,z2,z3,z4,z5,z6⟩:=id hiv
 change Tri Try.prog 126 [.ptr 0 L 0 0 0,.int .i64 ctx] [some (.lent,L,.cells (rdV LS ⟨kind,st,low,high,code,i,v,b,en⟩ LC)),some (.lent,LS,.ints .i64 st),some (.ro,LC,.ints .u8 code)] (postF fs126 ⟨L,LS,LC,⟨kind,st,low,high,code,i,v,b,en⟩,ctx⟩)
 refine tri_evS (hyp (l:=[(98,ent98)]) (lp:=[(131,likF),(133,aftF),(136,rmidF),(132,rpartF),(134,rfixF),(135,rshF)]) ⟨e98,trivial⟩ ⟨p131,p133,p136,p132,p134,p135,trivial⟩) Try.func126 comp126 (rs:=[.tmp 4,.tmp 5]) (by rfl) Try.ntmps126 15 ?_
 have c1:¬ ctx<0:=by omega
 have c2:¬ (st.length:Int)<=ctx:=by omega
 cases en with
 | true=>
  have e1:gotE ⟨kind,st,low,high,code,i,v,b,true⟩ ctx=6:=rfl
  have e2:gotB ⟨kind,st,low,high,code,i,v,b,true⟩ ctx=0:=rfl
  have e3:gotS ⟨kind,st,low,high,code,i,v,b,true⟩ ctx=⟨kind,st,low,high,code,i,v,b,true⟩:=rfl
  simp -implicitDefEqProofs only[push_cast,zz,seval,ir126,rdV,c1,c2]
  refine postF.mk' (fun _=>default) [some 0,some 1,some 2] ?_
  simp -implicitDefEqProofs only[push_cast,zz,seval,fs126,rdV,e1,e2,e3]
 | false=>
  have hs:=z1.at h2 h3
  have hkd:=z1.1
  have hc:=chP_bd hs
  have hmb:=midP_bd z3 (Int.le_of_lt z4) z5 hc.1 hc.2
  obtain⟨m,hm⟩:∃ m,midP low high (chP kind (rd st ctx))=m:=⟨_,rfl⟩
  rw[hm]at hmb
  obtain⟨bit,hbit⟩:∃ x,bitD ⟨kind,st,low,high,code,i,v,b,false⟩ ctx=x:=⟨_,rfl⟩
  have hb01:bit=0∨bit=1:=by rw[<-hbit];exact bitD_01 _ _
  have hbv:bit=if v<=m then 1 else 0:=by rw[<-hbit,<-hm];rfl
  have hn:=nrm_part (bit:=bit) hiv h2 h3
  obtain⟨r,hr⟩:∃ r,runD ⟨kind,st,low,high,code,i,v,b,false⟩ ctx=r:=⟨_,rfl⟩
  have hr':normD code 4 (lowP kind st low high ctx bit) (highP kind st low high ctx bit) i v=r:=by rw[<-hr,<-hbit];rfl
  have hlo:(if bit=1 then low else m+1)=lowP kind st low high ctx bit:=by rw[<-hm];rfl
  have hhi:(if bit=1 then m else high)=highP kind st low high ctx bit:=by rw[<-hm];rfl
  have hd0:(⟨kind,st,low,high,code,i,v,b,false⟩:DeS).ended=false:=rfl
  have hgE:gotE ⟨kind,st,low,high,code,i,v,b,false⟩ ctx=if 4<beyP code r.2.2.1 then 6 else 0:=by
   unfold gotE
   rw[hd0,if_neg (by decide),hr]
  have main:∀ (l0 g0:Int) (M:Xf.Loc),nrm 4 l0 g0->normD code 4 l0 g0 i v=r->evS (spList [(98,ent98)]) (spPList [(131,likF),(133,aftF),(136,rmidF),(132,rpartF),(134,rfixF),(135,rshF)])
    (retK [RV.tmp 4,RV.tmp 5] (postF fs126 ⟨L,LS,LC,⟨kind,st,low,high,code,i,v,b,false⟩,ctx⟩)) [Xf.Item.code (IR.loop b126_1),Xf.Item.blk 0,Xf.Item.code r126_2]
    (upS (List.replicate 138 none) [(0,.ptr 0 L 0 0 0),(1,.int .i64 ctx),(7,.int .i64 bit),(8,.ptr 10 M 0 0 0),(9,.int .i64 i),(10,.int .u64 v)])
    ([some (.lent,L,.cells (rdV LS ⟨kind,st,low,high,code,i,v,b,false⟩ LC)),some (.lent,LS,.ints .i64 st),some (.ro,LC,.ints .u8 code),none,none,none,none,none,none,none,some (.mine,M,.cells [.int .u64 l0,.int .u64 g0])]++List.replicate 7 none):=by
   intro l0 g0 M hn hr'
   obtain⟨s0,hs0⟩:∃ s,rd st ctx=s:=⟨_,rfl⟩
   have hsl:(st.set ctx.toNat (nxP kind s0 bit)).length=st.length:=List.length_set
   have hS:gotS ⟨kind,st,low,high,code,i,v,b,false⟩ ctx=if gotE ⟨kind,st,low,high,code,i,v,b,false⟩ ctx=0 then ⟨kind,st.set ctx.toNat (nxP kind s0 bit),r.1,r.2.1,code,r.2.2.1,r.2.2.2,beyP code r.2.2.1,false⟩else ⟨kind,st,low,high,code,i,v,b,true⟩:=by
    unfold gotS
    rw[hr,hbit,<-hs0]
   have hB:gotB ⟨kind,st,low,high,code,i,v,b,false⟩ ctx=if gotE ⟨kind,st,low,high,code,i,v,b,false⟩ ctx=0 then bit else 0:=by
    unfold gotB
    rw[hbit]
   rw[hs0]at hs hc
   refine evS_loopU (A:=Nat×Int×Int×Int×Int) kp126_1 kl126_1 (fun y=>[(9,.int .i64 y.2.2.2.1),(10,.int .u64 y.2.2.2.2)]) (fun y=>[(10,.mine,M,.cells [.int .u64 y.2.1,.int .u64 y.2.2.1])])
    (fun y=>nrm y.1 y.2.1 y.2.2.1/\normD code y.1 y.2.1 y.2.2.1 y.2.2.2.1 y.2.2.2.2=r/\0<=y.2.2.2.1/\y.2.2.2.1+y.1<=code.length+8/\0<=y.2.2.2.2/\y.2.2.2.2<4294967296) (fun y=>y.1) (4,l0,g0,i,v) ⟨hn,hr',b3,by simp only;omega,b5,b6⟩ (Sub.pt ?_) ?_
   ·simp -implicitDefEqProofs only[push_cast,zz,seval,rdV]
   intro ⟨n,l,g,i',v'⟩ ⟨(hn:nrm n l g),(he:normD code n l g i' v'=r),(hi0:0<=i'),(hi1:i'+n<=code.length+8),(hv0:0<=v'),(hv1:v'<4294967296)⟩ K hK
   obtain⟨n0,n1,n2,n3,n4,n5⟩:=id hn
   by_cases e:l / 16777216=g / 16777216
   ·cases n with
    | zero=>exact absurd e (nrm_0 hn)
    | succ n=>
     have hs:=nrm_step hn e
     rw[normD,if_pos e]at he
     have hsv:=shiftV_bd (v:=v') b2 hi0
     have hsd:v' % 16777216*256+bytA code i'=shiftV code i' v':=rfl
     have hby:=bytA_bd b2 hi0
     simp -implicitDefEqProofs only[push_cast,zz,seval,b126_1,rdV,fs98,e,b2,hsd]
     repeat refine om_ ?_
     refine hK (n,l % 16777216*256,g % 16777216*256+255,i'+1,shiftV code i' v') ⟨hs,he,by simp only;omega,by simp only;omega,hsv⟩ (Nat.lt_succ_self n) _ _ (Sub.pt ?_)
     simp -implicitDefEqProofs only[push_cast,zz,seval,rdV]
   ·rw[normD_no code n e]at he
    subst he
    simp only at hgE hS hB
    clear hK
    have hbm:max 0 (i'-(code.length:Int))=beyP code i':=rfl
    by_cases hbe:4<beyP code i'
    ·rw[if_pos hbe]at hgE
     rw[hgE,if_neg (by decide)]at hS hB
     simp -implicitDefEqProofs only[push_cast,zz,seval,b126_1,r126_2,rdV,e,hbm,hbe]
     repeat refine om_ ?_
     refine postF.mk' (fun _=>default) [some 0,some 1,some 2] ?_
     simp -implicitDefEqProofs only[push_cast,zz,seval,fs126,rdV,hgE,hS,hB]
    ·rw[if_neg hbe]at hgE
     rw[hgE,if_pos rfl]at hS hB
     simp -implicitDefEqProofs only[push_cast,zz,seval,b126_1,r126_2,rdV,e,hbm,hbe,hs0]
     repeat refine om_ ?_
     refine postF.mk' (fun _=>default) [some 0,some 1,some 2] ?_
     simp -implicitDefEqProofs only[push_cast,zz,seval,fs126,rdV,hgE,hS,hB,hsl]
  have h01:¬ (0:Int)=1:=by decide
  by_cases hv:v<=m
  ·rw[if_pos hv]at hbv
   subst hbv
   rw[if_pos rfl]at hlo hhi
   simp -implicitDefEqProofs only[push_cast,zz,seval,ir126,rdV,c1,c2,hm,hv]
   repeat refine om_ ?_
   intro X
   repeat refine om_ ?_
   rw[<-hlo,<-hhi]at hr' hn
   exact main _ _ _ hn hr'
  ·rw[if_neg hv]at hbv
   subst hbv
   rw[if_neg (by decide)]at hlo hhi
   simp -implicitDefEqProofs only[push_cast,zz,seval,ir126,rdV,c1,c2,hm,hv,h01]
   repeat refine om_ ?_
   intro X
   repeat refine om_ ?_
   rw[<-hlo,<-hhi]at hr' hn
   exact main _ _ _ hn hr'
def ent126:Entry:=spOf fs126 invRd
theorem e126:EntryOk Try.prog 126 ent126:=entry_of ok126 invRd
@[push_cast] theorem ent126_app (us:List SV) (look:Look) (x:Nat->Xf.Loc) (k:Nat):ent126 us look x k=spOf fs126 invRd us look x k:=rfl
def ir123:IR:=
 .seq (r_ [z_ 2 0] [2]) (.seq (r_ [m_ 3 0,a_ 4 3 3,c_ 5 .quo 4 4,m_ 2 5] [0,3,4,5]) (.ret))
set_option maxRecDepth 4000 in
theorem comp123:(Try.f123.body.bind fun c=>compC tab isP chkAll ir123 c)=some ir123:=by kernel_rfl
def b124_2:IR:=
 .seq (r_ [b_ 60 .lss 59 58] []) (.seq (.cond (.t 60) (.skip) (.exit 2)) (.seq (.block 3 (.seq (r_ [m_ 61 59,i_ 62 57 59 8,o_ 63 (.ld true (some 8) 0 0 (.t 62)),o_ 15 (.alloc 12 [y_,y_,y_,y_,y_,y_,y_,y_]),m_ 14 61,s_ 8 .i64 15 63] [60,61,62,63]) (.seq (r_ [f_ 64 15 0,l_ 65 64,m_ 66 12,b_ 67 .eql 65 66,m_ 68 67,p_ 68 (f_ 69 15 1),p_ 68 (l_ 70 69),p_ 68 (m_ 71 3),p_ 68 (b_ 72 .eql 70 71),K_ 73 68 72,m_ 74 73,p_ 74 (f_ 75 15 2),p_ 74 (l_ 76 75),p_ 74 (m_ 77 4),p_ 74 (b_ 78 .eql 76 77),K_ 79 74 78] [15,64,65,66,67,68,69,70,71,72,73,74,75,76,77,78]) (.cond (.t 79) (.seq (r_ [m_ 80 14,m_ 10 80] [1,3,4,11,12,14,23,24,25,57,58,59,79,80]) (.ret)) (.skip))))) (r_ [a_ 81 59 1,m_ 59 81] [10,14,79,81])))
def r124_3:IR:=
 r_ [a_ 82 25 1,m_ 25 82] [12,57,58,59,82]
def b124_1:IR:=
 .seq (r_ [b_ 26 .lss 25 24] []) (.seq (.cond (.t 26) (.skip) (.exit 0)) (.seq (.block 1 (.seq (r_ [m_ 27 25,i_ 28 23 25 6,o_ 29 (.ld true (some 6) 0 0 (.t 28)),o_ 13 (.alloc 11 [y_,y_,y_,y_,y_,y_]),m_ 12 27,s_ 6 .i64 13 29] [26,27,28,29]) (.seq (.seq (r_ [f_ 30 13 1,l_ 31 30,f_ 32 11 1,l_ 33 32,b_ 34 .neq 31 33,m_ 35 34,q_ 35 (f_ 36 13 0),q_ 35 (l_ 37 36),q_ 35 (f_ 38 11 0),q_ 35 (l_ 39 38),q_ 35 (a_ 40 39 1),q_ 35 (b_ 41 .neq 37 40),k_ 42 35 41] [30,31,32,33,34,35,36,37,38,39,40,41]) (.cond (.t 42) (.exit 1) (.skip))) (.seq (R_ [m_ 43 3,c_ 44 .quo 43 2,f_ 45 13 4,l_ 46 45,o_ 47 (.callp 123 [.t 46]),c_ 48 .sub 47 1,o_ 49 (.mn (.t 44) (.t 48)),m_ 50 4,c_ 51 .quo 50 2,f_ 52 13 5,l_ 53 52,o_ 54 (.callp 123 [.t 53]),c_ 55 .sub 54 1,o_ 56 (.mn (.t 51) (.t 55)),m_ 3 49,m_ 4 56] [13,42,43,44,45,46,47,48,49,50,51,52,53,54,55,56]) (.seq (r_ [m_ 57 1,h_ 58 57,z_ 59 0] []) (.block 2 (.loop b124_2))))))) (r124_3)))
def r124_4:IR:=
 .seq (r_ [z_ 10 (-1)] [1,3,4,11,23,24,25]) (.ret)
def ir124:IR:=
 .seq (r_ [z_ 10 0] [10]) (.seq (r_ [m_ 16 0,m_ 17 2,i_ 18 16 17 6,o_ 19 (.ld true (some 6) 0 0 (.t 18)),o_ 11 (.alloc 10 [y_,y_,y_,y_,y_,y_]),s_ 6 .i64 11 19] [2,16,17,18,19]) (.seq (.seq (r_ [f_ 20 11 1,l_ 21 20,c_ 22 .eql 21 0] [20,21]) (.cond (.t 22) (.seq (r_ [z_ 10 (-1)] [0,1,3,4,11,22]) (.ret)) (.skip))) (.seq (.seq (r_ [m_ 23 0,h_ 24 23,z_ 25 0] [0,10,22]) (.block 0 (.loop b124_1))) (r124_4))))
def kp124_2:List Nat:=[1,3,4,11,12,23,24,25,57,58,59]
def kl124_2:List Nat:=[12]
attribute [push_cast] kp124_2 kl124_2
def kp124_1:List Nat:=[1,3,4,11,23,24,25]
def kl124_1:List Nat:=[11,12]
attribute [push_cast] kp124_1 kl124_1
set_option maxRecDepth 4000 in
theorem comp124:(Try.f124.body.bind fun c=>compC tab isP chkAll ir124 c)=some ir124:=by kernel_rfl
structure Rb where
 band:Int
 i:Int
 j:Int
 x:Int
 y:Int
 w:Int
 h:Int
 par:Int
 deriving Inhabited
def Rb.rc (b:Rb):List RC:=[.int .i64 b.band,.int .i64 b.i,.int .i64 b.j,.int .i64 b.x,.int .i64 b.y,.int .i64 b.w,.int .i64 b.h,.int .i64 b.par]
def rdRb (l:List Rb) (i:Nat):Rb:=l.getD i default
theorem rdRb_nat {l:List Rb} {i:Nat} (h:i<l.length):rdRb l i=l[i]:=by simp[rdRb,h]
theorem recAt_Rb {l:List Rb} {i:Nat} (h:i<l.length) (z:List RC):recAt (i:Int) z (l.map Rb.rc)=(rdRb l i).rc:=by
 simp[recAt,rdRb,h]
def getRb:List (List RC)->Option (List Rb)
 | []=>some []
 | [.int .i64 a,.int .i64 b,.int .i64 c,.int .i64 d,.int .i64 e,.int .i64 f,.int .i64 g,.int .i64 h]::l=>match getRb l with | some r=>some (⟨a,b,c,d,e,f,g,h⟩::r) | none=>none
 | _=>none
theorem getRb_map:∀ l:List Rb,getRb (l.map Rb.rc)=some l
 | []=>rfl
 | g::l=>by
  simp only[List.map_cons,Rb.rc,getRb]
  have:=getRb_map l
  rw[this]
@[push_cast] theorem getRb_map' (l:List Rb):getRb (l.map Rb.rc)=some l:=getRb_map l
def getBds:List (List RC)->Option (List Bd)
 | []=>some []
 | [.int .i64 a,.int .i64 b,.int .i64 c,.int .i64 d,.int .i64 e,.int .i64 f]::l=>match getBds l with | some r=>some (⟨a,b,c,d,e,f⟩::r) | none=>none
 | _=>none
theorem getBds_map:∀ l:List Bd,getBds (l.map Bd.rc)=some l
 | []=>rfl
 | g::l=>by
  simp only[List.map_cons,Bd.rc,getBds]
  have:=getBds_map l
  rw[this]
@[push_cast] theorem getBds_map' (l:List Bd):getBds (l.map Bd.rc)=some l:=getBds_map l
def rowRb (look:Look) (d:Nat):Option (Xf.Loc×List Rb):=
 bif d==4096 then some (nilLoc,[])else match rowR (look d)with
  | some (L,8,_,r)=>match getRb r with | some l=>some (L,l) | none=>none
  | _=>none
def rowBds (look:Look) (d:Nat):Option (Xf.Loc×List Bd):=
 bif d==4096 then some (nilLoc,[])else match rowR (look d)with
  | some (L,6,_,r)=>match getBds r with | some l=>some (L,l) | none=>none
  | _=>none
attribute [push_cast] rowRb rowBds
theorem fI_some {α:Type} {l:List α} {p:α->Bool} {i:Nat} {a:α} (hi:l[i]?=some a) (h:p a=true) (hj:∀ (j:Nat) (b:α),j<i->l[j]?=some b->p b=false):l.findIdx? p=some i:=by
 have hl:i<l.length:=(List.getElem?_eq_some_iff.1 hi).1
 rw[List.findIdx?_eq_some_iff_getElem]
 refine⟨hl,by rw[(List.getElem?_eq_some_iff.1 hi).2];exact h,fun j hji=>?_⟩
 have:=hj j _ hji (List.getElem?_eq_getElem (by omega))
 simpa using this
theorem fI_none {α:Type} {l:List α} {p:α->Bool} (hj:∀ (j:Nat) (b:α),l[j]?=some b->p b=false):l.findIdx? p=none:=by
 rw[List.findIdx?_eq_none_iff]
 intro g hg
 obtain⟨j,hjl,rfl⟩:=List.mem_iff_getElem.1 hg
 have:=hj j _ (List.getElem?_eq_getElem hjl)
 simpa using this
def hitR (k i j:Int) (x:Rb):Bool:=decide (x.band=k/\x.i=i/\x.j=j)
def rpS (l:List Rb) (k i j:Int):Option Nat:=l.findIdx? (hitR k i j)
def rpG (bs:List Bd) (l:List Rb) (b:Bd):Nat->Nat->Int->Int->Int
 | 0,_,_,_=>-1
 | n+1,k,i,j=>
  if (rdBd bs k).kd=b.kd/\(rdBd bs k).lv=b.lv+1 then
   (match rpS l k (min (i / 2) (colsB (rdBd bs k)-1)) (min (j / 2) (rowsB (rdBd bs k)-1))with
    | some m=>(m:Int)
    | none=>rpG bs l b n (k+1) (min (i / 2) (colsB (rdBd bs k)-1)) (min (j / 2) (rowsB (rdBd bs k)-1)))
  else rpG bs l b n (k+1) i j
def rpar (bs:List Bd) (l:List Rb) (k:Nat) (i j:Int):Int:=if (rdBd bs k).kd=0 then -1 else rpG bs l (rdBd bs k) bs.length 0 i j
def colF:EntryP
 | [.int .i64 n]=>some (0<=n/\n<=1000000,.int .i64 ((n+4-1) / 4))
 | _=>none
attribute [push_cast] colF
theorem p123:EntryPOk Try.prog 123 colF:=by
 refine⟨⟨_,Try.func123,by kernel_rfl,by kernel_rfl⟩,fun us p v h hp=>?_⟩
 unfold colF at h
 split at h<;>cases h
 rename_i n
 obtain⟨h0,h1⟩:=hp
 refine tri_evS (hyp (l:=[]) (lp:=[]) trivial trivial) Try.func123 comp123 (rs:=[.tmp 2]) (by rfl) Try.ntmps123 10 ?_
 have e:(n+3) / 4=(n+4-1) / 4:=by rw[show n+4-1=n+3 by omega]
 simp -implicitDefEqProofs only[push_cast,zz,seval,ir123,e]
 all_goals omega
structure RpA where
 LB:Xf.Loc
 sb:Nat
 bs:List Bd
 L:Xf.Loc
 s:Nat
 l:List Rb
 k:Nat
 i:Int
 j:Int
def bdsWf (bs:List Bd):Prop:=bs.length<=1000/\∀ b∈bs,(b.ok/\1<=b.w/\1<=b.h)/\-1000<=b.lv/\b.lv<=1000
def fs124:FS where
 A:=RpA
 args:=fun a=>[.sl 0 a.LB a.sb 0 a.bs.length,.sl 1 a.L a.s 0 a.l.length,.int .i64 a.k,.int .i64 a.i,.int .i64 a.j]
 mem:=fun a=>[some (.ro,a.LB,.recs 6 false [] (a.bs.map Bd.rc)),some (.ro,a.L,.recs 8 false [] (a.l.map Rb.rc))]
 pre:=fun a=>bdsWf a.bs/\a.l.length<=1000000/\(0<a.bs.length->a.sb=6)/\(0<a.l.length->a.s=8)/\a.k<a.bs.length/\(0<=a.i/\a.i<=1000)/\0<=a.j/\a.j<=1000
 res:=fun a _=>.int .i64 (rpar a.bs a.l a.k a.i a.j)
 out:=fun _ _=>[]
 new:=fun _ _=>[]
def invRp:List SV->Look->Option (RpA×List Nat)
 | [.sl c _ s 0 _,.sl d _ s' 0 _,.int .i64 k,.int .i64 i,.int .i64 j],look=>match rowBds look c,rowRb look d with
  | some (LB,bs),some (L,l)=>some (⟨LB,s,bs,L,s',l,k.toNat,i,j⟩,[c,d])
  | _,_=>none
 | _,_=>none
attribute [push_cast] invRp
set_option maxHeartbeats 2000000 in
theorem ok124:FSOk Try.prog 124 fs124:=by
 refine⟨⟨_,Try.func124,by kernel_rfl,by kernel_rfl⟩,fun a=>⟨by simp[fs124,push_cast,noMine,argOwn,Chunk.frArg],by simp[fs124,push_cast,outOk,Chunk.ext],fun x=>.inl (by simp[fs124,push_cast,frNew,frOut,Chunk.fr])⟩,fun a hp=>?_⟩
 obtain⟨LB,sb,bs,L,s,l,k0,i0,j0⟩:=a
 obtain⟨⟨h1,h2⟩,h3,h4,h5,h6,h7,h8⟩:bdsWf bs/\l.length<=1000000/\(0<bs.length->sb=6)/\(0<l.length->s=8)/\k0<bs.length/\(0<=i0/\i0<=1000)/\0<=j0/\j0<=1000:=hp
 obtain rfl:=h4 (by omega)
 have hR:rpar bs l k0 i0 j0=if (rdBd bs k0).kd=0 then -1 else rpG bs l (rdBd bs k0) bs.length 0 i0 j0:=rfl
 obtain⟨R,hRR⟩:∃ R,rpar bs l k0 i0 j0=R:=⟨_,rfl⟩
 rw[hRR]at hR
 have hmb:(bs.map Bd.rc).length=bs.length:=List.length_map _
 have hml:(l.map Rb.rc).length=l.length:=List.length_map _
 have r0:recAt (k0:Int) [] (bs.map Bd.rc)=(rdBd bs k0).rc:=recAt_Bd' (by omega) (by omega) []
 have hb0:=h2 _ (rdBd_mem h6)
 obtain⟨⟨lv,kd,bx,by',bw,bh⟩,hb⟩:∃ b,rdBd bs k0=b:=⟨_,rfl⟩
 rw[hb]at hR r0 hb0
 simp only at hR hb0
 change Tri Try.prog 124 [.sl 0 LB 6 0 bs.length,.sl 1 L s 0 l.length,.int .i64 k0,.int .i64 i0,.int .i64 j0] [some (.ro,LB,.recs 6 false [] (bs.map Bd.rc)),some (.ro,L,.recs 8 false [] (l.map Rb.rc))] (postF fs124 ⟨LB,6,bs,L,s,l,k0,i0,j0⟩)
 refine tri_evS (hyp (l:=[]) (lp:=[(123,colF)]) trivial ⟨p123,trivial⟩) Try.func124 comp124 (rs:=[.tmp 10]) (by rfl) Try.ntmps124 13 ?_
 by_cases hk0:kd=0
 ·rw[if_pos hk0]at hR
  simp -implicitDefEqProofs only[push_cast,zz,seval,ir124,r0,Bd.rc,hmb,hk0]
  intro X
  repeat refine om_ ?_
  refine postF.mk' (fun _=>default) [some 0,some 1] ?_
  simp -implicitDefEqProofs only[push_cast,zz,seval,fs124,hRR,hR]
 rw[if_neg hk0]at hR
 simp -implicitDefEqProofs only[push_cast,zz,seval,ir124,r0,Bd.rc,hmb,hk0]
 intro X
 repeat refine om_ ?_
 refine evS_loopU (A:=Nat×Int×Int) kp124_1 kl124_1 (fun y=>[(25,.int .i64 y.1),(3,.int .i64 y.2.1),(4,.int .i64 y.2.2)]) (fun _=>[])
  (fun y=>y.1<=bs.length/\rpG bs l ⟨lv,kd,bx,by',bw,bh⟩ (bs.length-y.1) y.1 y.2.1 y.2.2=R/\(0<=y.2.1/\y.2.1<=1000)/\0<=y.2.2/\y.2.2<=1000) (fun y=>bs.length-y.1) (0,i0,j0) ⟨Nat.zero_le _,hR.symm,h7,h8⟩ (Sub.pt ?_) ?_
 ·simp -implicitDefEqProofs only[push_cast,zz,seval]
 intro ⟨k,i,j⟩ ⟨(hk:k<=bs.length),(hG:rpG bs l ⟨lv,kd,bx,by',bw,bh⟩ (bs.length-k) k i j=R),⟨(hi0:0<=i),(hi1:i<=1000)⟩,(hj0:0<=j),(hj1:j<=1000)⟩ K hK
 by_cases hk':k<bs.length
 ·have hki:(k:Int)<bs.length:=by omega
  have r1:recAt (k:Int) [] (bs.map Bd.rc)=(rdBd bs k).rc:=recAt_Bd' (by omega) (by omega) []
  have hb1:=h2 _ (rdBd_mem hk')
  rw[show bs.length-k=(bs.length-(k+1))+1 by omega,rpG]at hG
  obtain⟨⟨lv1,kd1,bx1,by1,bw1,bh1⟩,hbb⟩:∃ b,rdBd bs k=b:=⟨_,rfl⟩
  have hc1:colsB ⟨lv1,kd1,bx1,by1,bw1,bh1⟩=(bw1+4-1) / 4:=rfl
  have hc2:rowsB ⟨lv1,kd1,bx1,by1,bw1,bh1⟩=(bh1+4-1) / 4:=rfl
  rw[hbb]at r1 hb1 hG
  rw[hc1,hc2]at hG
  simp only at hb1 hG
  obtain⟨⟨⟨w0,w1,w2,w3⟩,w6,w7⟩,w4,w5⟩:=hb1
  simp only at w0 w1 w2 w3
  obtain⟨⟨⟨v0,v1,v2,v3⟩,v6,v7⟩,v4,v5⟩:=hb0
  simp only at v0 v1 v2 v3
  by_cases e1:kd1=kd
  ·by_cases e2:lv1=lv+1
   ·rw[if_pos ⟨e1,e2⟩]at hG
    obtain⟨i1,hi1'⟩:∃ x,min (i / 2) ((bw1+4-1) / 4-1)=x:=⟨_,rfl⟩
    obtain⟨j1,hj1'⟩:∃ x,min (j / 2) ((bh1+4-1) / 4-1)=x:=⟨_,rfl⟩
    rw[hi1',hj1']at hG
    have hit:∀ x:Rb,hitR k i1 j1 x=decide (x.band=k/\x.i=i1/\x.j=j1):=fun x=>rfl
    simp -implicitDefEqProofs only[push_cast,zz,seval,b124_1,r1,Bd.rc,hmb,hki,e1,e2]
    intro X1
    repeat refine om_ ?_
    refine evS_loopU (A:=Nat) kp124_2 kl124_2 (fun n=>[(59,.int .i64 n)]) (fun _=>[]) (fun n=>n<=l.length/\∀ (m:Nat) (b:Rb),m<n->l[m]?=some b->hitR k i1 j1 b=false) (fun n=>l.length-n) 0 ⟨Nat.zero_le _,fun m b hm=>by omega⟩ (Sub.pt ?_) ?_
    ·simp -implicitDefEqProofs only[push_cast,zz,seval]
    intro n ⟨(hn:n<=l.length),(hno:∀ (m:Nat) (b:Rb),m<n->l[m]?=some b->hitR k i1 j1 b=false)⟩ K2 hK2
    by_cases hn':n<l.length
    ·obtain rfl:=h5 (by omega)
     have hni:(n:Int)<l.length:=by omega
     have r2:=recAt_Rb hn' []
     have hget:l[n]?=some (rdRb l n):=by rw[rdRb_nat hn',List.getElem?_eq_getElem hn']
     obtain⟨⟨b1,bi,bj,bx2,by2,bw2,bh2,bp⟩,hrb⟩:∃ b,rdRb l n=b:=⟨_,rfl⟩
     rw[hrb]at r2 hget
     have hcont:=fun(hm:hitR k i1 j1 ⟨b1,bi,bj,bx2,by2,bw2,bh2,bp⟩=false)=>hK2 (n+1) ⟨show n+1<=l.length by omega,fun m b hmn hb=>by
      by_cases e:m=n
      ·subst e;rw[hget]at hb;cases hb;exact hm
      ·exact hno m b (by omega) hb⟩ (show l.length-(n+1)<l.length-n by omega)
     rw[hit]at hcont
     simp only at hcont
     have hfound:hitR k i1 j1 ⟨b1,bi,bj,bx2,by2,bw2,bh2,bp⟩=true->R=n:=fun h=>by
      rw[<-hG,show rpS l k i1 j1=some n from fI_some hget h hno]
     rw[hit]at hfound
     simp only at hfound
     clear hK hK2
     by_cases f1:b1=k
     ·by_cases f2:bi=i1
      ·by_cases f3:bj=j1
       ·have hRn:=hfound (decide_eq_true ⟨f1,f2,f3⟩)
        clear hcont
        simp -implicitDefEqProofs only[push_cast,zz,seval,b124_2,r2,Rb.rc,hml,hni,hi1',hj1',f1,f2,f3]
        repeat refine om_ ?_
        intro X2
        repeat refine om_ ?_
        refine postF.mk' (fun _=>default) [some 0,some 1] ?_
        simp -implicitDefEqProofs only[push_cast,zz,seval,fs124,hRR,hRn]
       ·have hc:=hcont (decide_eq_false fun h=>f3 h.2.2)
        simp -implicitDefEqProofs only[push_cast,zz,seval,b124_2,r2,Rb.rc,hml,hni,hi1',hj1',f1,f2,f3]
        repeat refine om_ ?_
        intro X2
        repeat refine om_ ?_
        refine hc _ _ (Sub.pt ?_)
        simp -implicitDefEqProofs only[push_cast,zz,seval,hi1',hj1']
      ·have hc:=hcont (decide_eq_false fun h=>f2 h.2.1)
       simp -implicitDefEqProofs only[push_cast,zz,seval,b124_2,r2,Rb.rc,hml,hni,hi1',hj1',f1,f2]
       repeat refine om_ ?_
       intro X2
       repeat refine om_ ?_
       refine hc _ _ (Sub.pt ?_)
       simp -implicitDefEqProofs only[push_cast,zz,seval,hi1',hj1']
     ·have hc:=hcont (decide_eq_false fun h=>f1 h.1)
      simp -implicitDefEqProofs only[push_cast,zz,seval,b124_2,r2,Rb.rc,hml,hni,hi1',hj1',f1]
      repeat refine om_ ?_
      intro X2
      repeat refine om_ ?_
      refine hc _ _ (Sub.pt ?_)
      simp -implicitDefEqProofs only[push_cast,zz,seval,hi1',hj1']
    ·have hnl:n=l.length:=by omega
     rw[show rpS l k i1 j1=none from fI_none fun m b hb=>hno m b (by have:=(List.getElem?_eq_some_iff.1 hb).1;omega) hb]at hG
     simp only at hG
     have hnn:¬ (n:Int)<l.length:=by omega
     clear hK2
     simp -implicitDefEqProofs only[push_cast,zz,seval,b124_2,r124_3,hnn]
     repeat refine om_ ?_
     refine hK (k+1,i1,j1) ⟨show k+1<=bs.length by omega,hG,⟨by simp only;omega,by simp only;omega⟩,by simp only;omega,by simp only;omega⟩ (show bs.length-(k+1)<bs.length-k by omega) _ _ (Sub.pt ?_)
     simp -implicitDefEqProofs only[push_cast,zz,seval,hi1',hj1']
   ·rw[if_neg (fun h=>e2 h.2)]at hG
    simp -implicitDefEqProofs only[push_cast,zz,seval,b124_1,r124_3,r1,Bd.rc,hmb,hki,e1,e2]
    intro X1
    repeat refine om_ ?_
    refine hK (k+1,i,j) ⟨show k+1<=bs.length by omega,hG,⟨hi0,hi1⟩,hj0,hj1⟩ (show bs.length-(k+1)<bs.length-k by omega) _ _ (Sub.pt ?_)
    simp -implicitDefEqProofs only[push_cast,zz,seval]
  ·rw[if_neg (fun h=>e1 h.1)]at hG
   simp -implicitDefEqProofs only[push_cast,zz,seval,b124_1,r124_3,r1,Bd.rc,hmb,hki,e1]
   intro X1
   repeat refine om_ ?_
   refine hK (k+1,i,j) ⟨show k+1<=bs.length by omega,hG,⟨hi0,hi1⟩,hj0,hj1⟩ (show bs.length-(k+1)<bs.length-k by omega) _ _ (Sub.pt ?_)
   simp -implicitDefEqProofs only[push_cast,zz,seval]
 ·have hkb:k=bs.length:=by omega
  have hki:¬ (k:Int)<bs.length:=by omega
  rw[hkb,Nat.sub_self,rpG]at hG
  clear hK
  simp -implicitDefEqProofs only[push_cast,zz,seval,b124_1,r124_4,hki]
  refine postF.mk' (fun _=>default) [some 0,some 1] ?_
  simp -implicitDefEqProofs only[push_cast,zz,seval,fs124,hRR,<-hG]
def ent124:Entry:=spOf fs124 invRp
theorem e124:EntryOk Try.prog 124 ent124:=entry_of ok124 invRp
@[push_cast] theorem ent124_app (us:List SV) (look:Look) (x:Nat->Xf.Loc) (k:Nat):ent124 us look x k=spOf fs124 invRp us look x k:=rfl
def b94_3:IR:=
 .seq (.seq (r_ [m_ 37 14,f_ 38 12 4,l_ 39 38,o_ 40 (.callp 123 [.t 39]),b_ 41 .lss 37 40] [37,38,39,40]) (.cond (.t 41) (.skip) (.exit 4))) (.seq (.block 5 (.seq (r_ [m_ 44 11,m_ 45 14,m_ 46 13,f_ 47 12 2,l_ 48 47,m_ 49 14,o_ 50 (.bin 0 .mul (Z_ 4) (.t 49)),b_ 51 .add 48 50,f_ 52 12 3,l_ 53 52,m_ 54 13,o_ 55 (.bin 0 .mul (Z_ 4) (.t 54)),b_ 56 .add 53 55,f_ 57 12 4,l_ 58 57,m_ 59 14,o_ 60 (.bin 0 .mul (Z_ 4) (.t 59)),b_ 61 .sub 58 60,o_ 62 (.mn (Z_ 4) (.t 61)),f_ 63 12 5,l_ 64 63,m_ 65 13,o_ 66 (.bin 0 .mul (Z_ 4) (.t 65)),b_ 67 .sub 64 66,o_ 68 (.mn (Z_ 4) (.t 67)),o_ 69 (.build [y_,y_,y_,y_,y_,y_,y_,y_] [(0,1,.t 44),(1,1,.t 45),(2,1,.t 46),(3,1,.t 51),(4,1,.t 56),(5,1,.t 62),(6,1,.t 68)]),o_ 15 (.alloc 15 [y_,y_,y_,y_,y_,y_,y_,y_]),s_ 8 .i64 15 69] [41,44,45,46,47,48,49,50,51,52,53,54,55,56,57,58,59,60,61,62,63,64,65,66,67,68,69]) (.seq (r_ [m_ 70 8,m_ 71 10,m_ 72 11,m_ 73 14,m_ 74 13,o_ 75 (.call (some 4) 16 124 [.t 70,.t 71,.t 72,.t 73,.t 74]),f_ 76 15 7,s_ 1 .i64 76 75] [70,71,72,73,74,75,76]) (r_ [m_ 77 10,o_ 78 (.ld false (some 8) 0 0 (.t 15)),o_ 79 (.brecs 20 8 .i64 [.t 78]),o_ 80 (.app 21 8 64 (.t 77) (.t 79)),m_ 10 80] [15,77,78,79,80])))) (r_ [m_ 42 14,a_ 43 42 1,m_ 14 43] [42,43]))
def r94_4:IR:=
 r_ [m_ 35 13,a_ 36 35 1,m_ 13 36] [14,35,36]
def b94_2:IR:=
 .seq (.seq (r_ [m_ 30 13,f_ 31 12 5,l_ 32 31,o_ 33 (.callp 123 [.t 32]),b_ 34 .lss 30 33] [30,31,32,33]) (.cond (.t 34) (.skip) (.exit 2))) (.seq (.block 3 (.seq (r_ [z_ 14 0] [34]) (.block 4 (.loop b94_3)))) (r94_4))
def r94_5:IR:=
 r_ [a_ 81 25 1,m_ 25 81] [11,12,13,81]
def b94_1:IR:=
 .seq (r_ [b_ 26 .lss 25 24] []) (.seq (.cond (.t 26) (.skip) (.exit 0)) (.seq (.block 1 (.seq (r_ [m_ 27 25,i_ 28 23 25 6,o_ 29 (.ld true (some 6) 0 0 (.t 28)),o_ 12 (.alloc 14 [y_,y_,y_,y_,y_,y_]),m_ 11 27,s_ 6 .i64 12 29] [26,27,28,29]) (.seq (r_ [z_ 13 0] []) (.block 2 (.loop b94_2))))) (r94_5)))
def r94_6:IR:=
 .seq (r_ [m_ 82 8,m_ 83 10,m_ 6 82,m_ 7 83] [8,10,23,24,25,82,83]) (.ret)
def ir94:IR:=
 .seq (r_ [o_ 6 (.mov (.k nilSV)),o_ 7 (.mov (.k nilSV))] [6,7]) (.seq (r_ [m_ 17 0,m_ 18 1,m_ 19 2,o_ 20 (.call (some 4) 10 122 [.t 17,.t 18,.t 19]),m_ 16 20,e_ 21 16 0,e_ 22 16 1,m_ 8 21,m_ 9 22] [0,1,2,9,16,17,18,19,20,21,22]) (.seq (r_ [o_ 10 (.mov (.k nilSV))] []) (.seq (.seq (r_ [m_ 23 8,h_ 24 23,z_ 25 0] []) (.block 0 (.loop b94_1))) (r94_6))))
def kp94_3:List Nat:=[8,10,11,12,13,14,23,24,25]
def kl94_3:List Nat:=[15,16,17,18,19,20,21]
attribute [push_cast] kp94_3 kl94_3
def kp94_2:List Nat:=[8,10,11,12,13,23,24,25]
def kl94_2:List Nat:=[15,16,17,18,19,20,21]
attribute [push_cast] kp94_2 kl94_2
def kp94_1:List Nat:=[8,10,23,24,25]
def kl94_1:List Nat:=[14,15,16,17,18,19,20,21]
attribute [push_cast] kp94_1 kl94_1
set_option maxRecDepth 4000 in
theorem comp94:(Try.f94.body.bind fun c=>compC tab isP chkAll ir94 c)=some ir94:=by kernel_rfl
def rbAt (bs:List Bd) (O:List Rb) (k j i:Nat):Rb:=⟨k,i,j,(rdBd bs k).x+4*i,(rdBd bs k).y+4*j,min 4 ((rdBd bs k).w-4*i),min 4 ((rdBd bs k).h-4*j),rpar bs O k i j⟩
def rbRow (bs:List Bd) (O:List Rb) (k j:Nat):Nat->List Rb
 | 0=>O
 | i+1=>rbRow bs O k j i++[rbAt bs (rbRow bs O k j i) k j i]
def rbBand (bs:List Bd) (O:List Rb) (k:Nat):Nat->List Rb
 | 0=>O
 | j+1=>rbRow bs (rbBand bs O k j) k j (colsB (rdBd bs k)).toNat
def rbAll (bs:List Bd):Nat->List Rb
 | 0=>[]
 | k+1=>rbBand bs (rbAll bs k) k (rowsB (rdBd bs k)).toNat
theorem rbRow_len (bs:List Bd) (O:List Rb) (k j:Nat):∀ i,(rbRow bs O k j i).length=O.length+i
 | 0=>rfl
 | i+1=>by rw[rbRow,List.length_append,rbRow_len bs O k j i];rfl
theorem rbBand_len (bs:List Bd) (O:List Rb) (k:Nat):∀ j,(rbBand bs O k j).length=O.length+j*(colsB (rdBd bs k)).toNat
 | 0=>by simp[rbBand]
 | j+1=>by rw[rbBand,rbRow_len,rbBand_len bs O k j,Nat.succ_mul];omega
def rbL (w h n:Int):List Rb:=rbAll (bnL w h n) (bnL w h n).length
theorem rbAll_len {bs:List Bd} (hl:∀ b∈bs,b.ok):∀ k,k<=bs.length->(rbAll bs k).length<=2500*k
 | 0,_=>by simp[rbAll]
 | k+1,hk=>by
  have ih:=rbAll_len hl k (by omega)
  have hb:=bd_cr (hl _ (rdBd_mem (show k<bs.length by omega)))
  rw[rbAll,rbBand_len]
  have:(rowsB (rdBd bs k)).toNat*(colsB (rdBd bs k)).toNat<=50*50:=Nat.mul_le_mul (by omega) (by omega)
  omega
theorem rbAll_bk (W:Int) {bs:List Bd}:∀ k,k<=bs.length->(rbAll bs k).length=(bkFold W (bs.take k)).1.length
 | 0,_=>by simp[rbAll,bkFold]
 | k+1,hk=>by
  rw[rbAll,rbBand_len,bkFold_succ W (by omega),rbAll_bk W k (by omega)]
  unfold bkStep
  simp only[List.length_append,bkBand_len]
theorem rbL_len (w h n:Int):(rbL w h n).length=(bkts w h n).length:=by
 unfold rbL bkts
 rw[rbAll_bk w _ (Nat.le_refl _),List.take_length]
def fs94:FS where
 A:=BnA
 args:=fun a=>[.int .i64 a.w,.int .i64 a.h,.int .i64 a.n]
 mem:=fun _=>[]
 pre:=fun a=>bnOk a.w a.h a.n
 res:=fun a x=>.tup [.sl 0 (lx (0<(bnL a.w a.h a.n).length) x 0) (esz 6 (bnL a.w a.h a.n).length) 0 (bnL a.w a.h a.n).length,.sl 1 (x 1) (esz 8 (rbL a.w a.h a.n).length) 0 (rbL a.w a.h a.n).length]
 out:=fun _ _=>[]
 new:=fun a x=>[(lx (0<(bnL a.w a.h a.n).length) x 0,.recs 6 true [] ((bnL a.w a.h a.n).map Bd.rc)),(x 1,.recs 8 true [] ((rbL a.w a.h a.n).map Rb.rc))]
set_option maxHeartbeats 4000000 in
theorem ok94:FSOk Try.prog 94 fs94:=by
 refine⟨⟨_,Try.func94,by kernel_rfl,by kernel_rfl⟩,fun a=>⟨by simp[fs94,push_cast,noMine,argOwn,Chunk.frArg],by simp[fs94,push_cast,outOk,Chunk.ext],fun x=>.inl (by simp[fs94,push_cast,frNew,frOut,Chunk.fr])⟩,fun a hp=>?_⟩
 obtain⟨w,h,n⟩:=a
 have hb:bnOk w h n:=hp
 change Tri Try.prog 94 [.int .i64 w,.int .i64 h,.int .i64 n] [] (postF fs94 ⟨w,h,n⟩)
 have hin:∀ i:Nat,i<(bnL w h n).length->0<=(rdBd (bnL w h n) i).x/\0<=(rdBd (bnL w h n) i).y/\1<=(rdBd (bnL w h n) i).w/\1<=(rdBd (bnL w h n) i).h/\(rdBd (bnL w h n) i).x+(rdBd (bnL w h n) i).w<=w/\(rdBd (bnL w h n) i).y+(rdBd (bnL w h n) i).h<=h/\-1000<=(rdBd (bnL w h n) i).lv/\(rdBd (bnL w h n) i).lv<=1000:=fun i hi=>bnL_in hb (rdBd_mem hi)
 have hl19:=bnL_le w h n
 obtain⟨q1,q2,q3,q4,q5,q6⟩:=id hb
 have hwfB:bdsWf (bnL w h n):=⟨by omega,fun b hm=>by have:=bnL_in hb hm;unfold Bd.ok;omega⟩
 have hrl:rbL w h n=rbAll (bnL w h n) (bnL w h n).length:=rfl
 have hlx:lx (0<(bnL w h n).length) (fun _=>nilLoc) 0=nilLoc:=by unfold lx;split<;>rfl
 obtain⟨B,hB⟩:∃ B,bnL w h n=B:=⟨_,rfl⟩
 rw[hB]at hin hl19 hwfB hrl
 have hall:=rbAll_len (bs:=B) (fun b hm=>(hwfB.2 b hm).1.1)
 have hBl:(B.map Bd.rc).length=B.length:=List.length_map _
 refine tri_evS (hyp (l:=[(122,ent122),(124,ent124)]) (lp:=[(123,colF)]) ⟨e122,e124,trivial⟩ ⟨p123,trivial⟩) Try.func94 comp94 (rs:=[.tmp 6,.tmp 7]) (by rfl) Try.ntmps94 22 ?_
 simp -implicitDefEqProofs only[push_cast,zz,seval,ir94,fs122,hB,hb]
 intro X
 repeat refine om_ ?_
 obtain⟨LB,hLB⟩:∃ L,lx (0<B.length) (fun j=>X 3 (10+j)) 0=L:=⟨_,rfl⟩
 have hLB2:∀ M:Xf.Loc,lx (0<B.length) (fun j=>if j=0 then X 3 (10+0)else M) 0=LB:=fun M=>by
  rw[<-hLB];unfold lx;split<;>rfl
 rw[hLB]
 have he6:∀ k:Nat,k<B.length->esz 6 B.length=6:=fun k hk=>esz_pos (by omega)
 refine evS_loopU (A:=Nat×Xf.Loc) kp94_1 kl94_1 (fun y=>[(25,.int .i64 y.1),(10,.sl 11 y.2 (esz 8 (rbAll B y.1).length) 0 (rbAll B y.1).length)]) (fun y=>[(11,.mine,y.2,.recs 8 true [] ((rbAll B y.1).map Rb.rc))])
  (fun y=>y.1<=B.length) (fun y=>B.length-y.1) (0,nilLoc) (Nat.zero_le _) (Sub.of (mkG 22 [(10,10)]) ?_) ?_
 ·have e0:rbAll B 0=[]:=rfl
  simp -implicitDefEqProofs only[push_cast,zz,seval,e0,List.map_nil,List.length_nil,esz]
 intro ⟨k,M⟩ hk K hK
 have hk:k<=B.length:=hk
 by_cases hk':k<B.length
 ·have hki:(k:Int)<B.length:=by omega
  obtain⟨b1,b2,b3,b4,b5,b6,b7,b8⟩:=hin k hk'
  have r1:recAt (k:Int) [] (B.map Bd.rc)=(rdBd B k).rc:=recAt_Bd' (by omega) (by omega) []
  have he6':=he6 k hk'
  have hlen:=hall k hk
  have hstep:rbAll B (k+1)=rbBand B (rbAll B k) k (rowsB (rdBd B k)).toNat:=rfl
  have hbl:=fun j=>rbBand_len B (rbAll B k) k j
  obtain⟨O,hO⟩:∃ O,rbAll B k=O:=⟨_,rfl⟩
  rw[hO]at hlen hstep
  simp only[hO]at hbl
  obtain⟨⟨lv,kd,bx,by',bw,bh⟩,hbb⟩:∃ b,rdBd B k=b:=⟨_,rfl⟩
  have hc1:colsB ⟨lv,kd,bx,by',bw,bh⟩=(bw+4-1) / 4:=rfl
  have hc2:rowsB ⟨lv,kd,bx,by',bw,bh⟩=(bh+4-1) / 4:=rfl
  rw[hbb]at r1 hstep b1 b2 b3 b4 b5 b6 b7 b8
  simp only[hbb]at hbl
  rw[hc2]at hstep
  simp only[hc1]at hbl
  simp only at b1 b2 b3 b4 b5 b6 b7 b8
  obtain⟨C,hC⟩:∃ C:Nat,(bw+4-1) / 4=(C:Int):=⟨((bw+4-1) / 4).toNat,by omega⟩
  obtain⟨R,hR⟩:∃ C:Nat,(bh+4-1) / 4=(C:Int):=⟨((bh+4-1) / 4).toNat,by omega⟩
  rw[hR,Int.toNat_natCast]at hstep
  simp only[hC,Int.toNat_natCast]at hbl
  have hbs:∀ j,rbBand B O k (j+1)=rbRow B (rbBand B O k j) k j C:=fun j=>by rw[rbBand,hbb,hc1,hC,Int.toNat_natCast]
  have hat:∀ (O:List Rb) (j i:Nat),(rbAt B O k j i).rc=[.int .i64 k,.int .i64 i,.int .i64 j,.int .i64 (bx+4*i),.int .i64 (by'+4*j),.int .i64 (min 4 (bw-4*i)),.int .i64 (min 4 (bh-4*j)),.int .i64 (rpar B O k i j)]:=fun O j i=>by unfold rbAt Rb.rc;rw[hbb]
  have hC50:C<=50:=by omega
  have hR50:R<=50:=by omega
  simp -implicitDefEqProofs only[push_cast,zz,seval,b94_1,hki,r1,Bd.rc,hBl,hO,he6']
  intro X1
  repeat refine om_ ?_
  refine evS_loopU (A:=Nat×Xf.Loc) kp94_2 kl94_2 (fun y=>[(13,.int .i64 y.1),(10,.sl 11 y.2 (esz 8 (rbBand B O k y.1).length) 0 (rbBand B O k y.1).length)]) (fun y=>[(11,.mine,y.2,.recs 8 true [] ((rbBand B O k y.1).map Rb.rc))])
   (fun y=>y.1<=R) (fun y=>R-y.1) (0,M) (Nat.zero_le _) (Sub.pt ?_) ?_
  ·have e0:rbBand B O k 0=O:=rfl
   simp -implicitDefEqProofs only[push_cast,zz,seval,e0]
  intro ⟨j,M2⟩ hj K2 hK2
  have hj:j<=R:=hj
  by_cases hj':j<R
  ·have hji:(j:Int)<R:=by omega
   have hl2:=hbl j
   have hs2:=hbs j
   obtain⟨O2,hO2⟩:∃ z,rbBand B O k j=z:=⟨_,rfl⟩
   rw[hO2]at hl2 hs2
   have hm2:j*C<=50*50:=Nat.mul_le_mul (by omega) hC50
   have hrl2:=fun i=>rbRow_len B O2 k j i
   clear hK
   simp -implicitDefEqProofs only[push_cast,zz,seval,b94_2,hji,hR,hO2]
   repeat refine om_ ?_
   refine evS_loopU (A:=Nat×Xf.Loc) kp94_3 kl94_3 (fun y=>[(14,.int .i64 y.1),(10,.sl 11 y.2 (esz 8 (rbRow B O2 k j y.1).length) 0 (rbRow B O2 k j y.1).length)]) (fun y=>[(11,.mine,y.2,.recs 8 true [] ((rbRow B O2 k j y.1).map Rb.rc))])
    (fun y=>y.1<=C) (fun y=>C-y.1) (0,M2) (Nat.zero_le _) (Sub.pt ?_) ?_
   ·have e0:rbRow B O2 k j 0=O2:=rfl
    simp -implicitDefEqProofs only[push_cast,zz,seval,e0]
   intro ⟨i,M3⟩ hi K3 hK3
   have hi:i<=C:=hi
   by_cases hi':i<C
   ·have hii:(i:Int)<C:=by omega
    have hl3:=hrl2 i
    have hs3:rbRow B O2 k j (i+1)=rbRow B O2 k j i++[rbAt B (rbRow B O2 k j i) k j i]:=rfl
    have hat3:=hat (rbRow B O2 k j i) j i
    obtain⟨O3,hO3⟩:∃ O,rbRow B O2 k j i=O:=⟨_,rfl⟩
    rw[hO3]at hl3 hs3 hat3
    have hml3:(O3.map Rb.rc).length=O3.length:=List.length_map _
    have hmap:(rbRow B O2 k j (i+1)).map Rb.rc=O3.map Rb.rc++[[.int .i64 k,.int .i64 i,.int .i64 j,.int .i64 (bx+4*i),.int .i64 (by'+4*j),.int .i64 (min 4 (bw-4*i)),.int .i64 (min 4 (bh-4*j)),.int .i64 (rpar B O3 k i j)]]:=by
     rw[hs3,List.map_append,List.map_cons,List.map_nil,hat3]
    have hl4:(rbRow B O2 k j (i+1)).length=O3.length+1:=by rw[hs3,List.length_append];rfl
    have hes:0<O3.length->esz 8 O3.length=8:=fun h=>esz_pos h
    have he4:esz 8 (O3.length+1)=8:=esz_pos (by omega)
    have hB0:0<B.length:=by omega
    clear hK2
    simp -implicitDefEqProofs only[push_cast,zz,seval,b94_3,hii,hC,hO3,fs124,hwfB,he6',hes,Int.toNat_natCast]
    repeat refine om_ ?_
    intro X2
    repeat refine om_ ?_
    intro X3
    repeat refine om_ ?_
    refine hK3 (i+1,X3 3 21) (show i+1<=C by omega) (show C-(i+1)<C-i by omega) _ _ (Sub.of (mkG 22 [(10,10),(14,14),(11,21)]) ?_)
    simp -implicitDefEqProofs only[push_cast,zz,seval,hmap,hl4,he4]
   ·have hiC:i=C:=by omega
    have hii:¬ (i:Int)<C:=by omega
    clear hK3
    rw[hiC,<-hs2]
    simp -implicitDefEqProofs only[push_cast,zz,seval,b94_3,r94_4,Int.lt_irrefl,hC]
    repeat refine om_ ?_
    refine hK2 (j+1,M3) (show j+1<=R by omega) (show R-(j+1)<R-j by omega) _ _ (Sub.pt ?_)
    simp -implicitDefEqProofs only[push_cast,zz,seval]
  ·have hjR:j=R:=by omega
   have hji:¬ (j:Int)<R:=by omega
   clear hK2
   rw[hjR,<-hstep]
   simp -implicitDefEqProofs only[push_cast,zz,seval,b94_2,r94_5,Int.lt_irrefl,hR]
   repeat refine om_ ?_
   refine hK (k+1,M2) (show k+1<=B.length by omega) (show B.length-(k+1)<B.length-k by omega) _ _ (Sub.pt ?_)
   simp -implicitDefEqProofs only[push_cast,zz,seval,he6']
 ·have hkB:k=B.length:=by omega
  have hki:¬ (k:Int)<B.length:=by omega
  clear hK
  rw[hkB,<-hrl]
  simp -implicitDefEqProofs only[push_cast,zz,seval,b94_1,r94_6,Int.lt_irrefl]
  refine postF.mk' (fun j=>if j=0 then X 3 (10+0)else M) [some 10,some 11] ?_
  simp -implicitDefEqProofs only[push_cast,zz,seval,fs94,hB,hLB2]
def ent94:Entry:=spOf fs94 inv69
theorem e94:EntryOk Try.prog 94 ent94:=entry_of ok94 inv69
@[push_cast] theorem ent94_app (us:List SV) (look:Look) (x:Nat->Xf.Loc) (k:Nat):ent94 us look x k=spOf fs94 inv69 us look x k:=rfl
def ir55:IR:=
 .seq (r_ [o_ 4 (.mov (.k (.bool false)))] [4]) (.seq (r_ [m_ 5 0,c_ 6 .geq 5 0,m_ 7 6,p_ 7 (m_ 8 0),p_ 7 (c_ 9 .leq 8 200),K_ 10 7 9,m_ 11 10,p_ 11 (m_ 12 1),p_ 11 (c_ 13 .geq 12 0),K_ 14 11 13,m_ 15 14,p_ 15 (m_ 16 1),p_ 15 (c_ 17 .leq 16 200),K_ 18 15 17,m_ 19 18,p_ 19 (m_ 20 0),p_ 19 (m_ 21 1),p_ 19 (b_ 22 .mul 20 21),p_ 19 (c_ 23 .leq 22 8192),K_ 24 19 23,m_ 4 24] [0,1,5,6,7,8,9,10,11,12,13,14,15,16,17,18,19,20,21,22,23,24]) (.ret))
set_option maxRecDepth 4000 in
theorem comp55:(Try.f55.body.bind fun c=>compC tab isP chkAll ir55 c)=some ir55:=by kernel_rfl
def szF:EntryP
 | [.int .i64 w,.int .i64 h]=>some (True,.bool (decide (SidesOk w h)))
 | _=>none
attribute [push_cast] szF
theorem p55:EntryPOk Try.prog 55 szF:=by
 refine⟨⟨_,Try.func55,by kernel_rfl,by kernel_rfl⟩,fun us p v h hp=>?_⟩
 unfold szF at h
 split at h<;>cases h
 rename_i w h
 refine tri_evS (hyp (l:=[]) (lp:=[]) trivial trivial) Try.func55 comp55 (rs:=[.tmp 4]) (by rfl) Try.ntmps55 10 ?_
 have hmulb:0<=w->w<=200->0<=h->h<=200->0<=w*h/\w*h<=40000:=fun a b c d=>by have:=mul_bd a b c d;omega
 have hs:SidesOk w h=(0<=w/\0<=h/\w<=200/\h<=200/\w*h<=8192):=rfl
 by_cases c0:0<=w
 ·by_cases c1:w<=200
  ·by_cases c2:0<=h
   ·by_cases c3:h<=200
    ·have hm:=hmulb c0 c1 c2 c3
     by_cases c4:w*h<=8192
     ·have e:SidesOk w h:=⟨c0,c2,c1,c3,c4⟩
      simp -implicitDefEqProofs only[push_cast,zz,seval,ir55,c0,c1,c2,c3,c4,e]
      try omega
     ·have e:¬ SidesOk w h:=fun H=>c4 H.2.2.2.2
      simp -implicitDefEqProofs only[push_cast,zz,seval,ir55,c0,c1,c2,c3,c4,e]
      try omega
    ·have e:¬ SidesOk w h:=fun H=>c3 H.2.2.2.1
     simp -implicitDefEqProofs only[push_cast,zz,seval,ir55,c0,c1,c2,c3,e]
   ·have e:¬ SidesOk w h:=fun H=>c2 H.2.1
    simp -implicitDefEqProofs only[push_cast,zz,seval,ir55,c0,c1,c2,e]
  ·have e:¬ SidesOk w h:=fun H=>c1 H.2.2.1
   simp -implicitDefEqProofs only[push_cast,zz,seval,ir55,c0,c1,e]
 ·have e:¬ SidesOk w h:=fun H=>c0 H.1
  simp -implicitDefEqProofs only[push_cast,zz,seval,ir55,c0,e]
def b99_2:IR:=
 .seq (.seq (r_ [m_ 21 7,f_ 22 3 3,l_ 23 22,f_ 24 3 5,l_ 25 24,b_ 26 .add 23 25,b_ 27 .lss 21 26] [21,22,23,24,25,26]) (.cond (.t 27) (.skip) (.exit 2))) (.seq (.block 3 (.seq (R_ [m_ 30 0,n_ 31 30,f_ 32 31 6,l_ 33 32,m_ 34 6,m_ 35 0,n_ 36 35,f_ 37 36 0,l_ 38 37,b_ 39 .mul 34 38,m_ 40 7,b_ 41 .add 39 40,i_ 42 33 41 1,L_ 43 42,c_ 44 .geq 43 0] [27,30,31,32,33,34,35,36,37,38,39,40,41,42,43]) (.cond (.t 44) (r_ [m_ 45 5,a_ 46 45 1,m_ 5 46] [44,45,46]) (.skip)))) (r_ [m_ 28 7,a_ 29 28 1,m_ 7 29] [28,29,44]))
def r99_3:IR:=
 r_ [m_ 17 6,a_ 18 17 1,m_ 6 18] [7,17,18]
def b99_1:IR:=
 .seq (.seq (r_ [m_ 10 6,f_ 11 3 4,l_ 12 11,f_ 13 3 6,l_ 14 13,b_ 15 .add 12 14,b_ 16 .lss 10 15] [10,11,12,13,14,15]) (.cond (.t 16) (.skip) (.exit 0))) (.seq (.block 1 (.seq (r_ [f_ 19 3 3,l_ 20 19,m_ 7 20] [16,19,20]) (.block 2 (.loop b99_2)))) (r99_3))
def r99_4:IR:=
 .seq (r_ [m_ 47 5,m_ 4 47] [0,3,5,6,47]) (.ret)
def ir99:IR:=
 .seq (r_ [o_ 3 (.box 10 (.t 1)),z_ 4 0] [1,4]) (.seq (r_ [z_ 5 0] []) (.seq (.seq (r_ [f_ 8 3 4,l_ 9 8,m_ 6 9] [8,9]) (.block 0 (.loop b99_1))) (r99_4)))
def kp99_2:List Nat:=[0,3,5,6,7]
def kl99_2:List Nat:=[]
attribute [push_cast] kp99_2 kl99_2
def kp99_1:List Nat:=[0,3,5,6]
def kl99_1:List Nat:=[]
attribute [push_cast] kp99_1 kl99_1
set_option maxRecDepth 4000 in
theorem comp99:(Try.f99.body.bind fun c=>compC tab isP chkAll ir99 c)=some ir99:=by kernel_rfl
def ir128:IR:=
 .seq (r_ [o_ 5 (.box 10 (.t 1)),z_ 8 0] [1,8]) (.seq (r_ [z_ 9 0] []) (.seq (.seq (r_ [m_ 10 2,f_ 11 5 2,l_ 12 11,b_ 13 .gtr 10 12] [10,11,12]) (.cond (.t 13) (R_ [m_ 14 9,m_ 15 0,n_ 16 15,f_ 17 16 6,l_ 18 17,m_ 19 3,m_ 20 0,n_ 21 20,f_ 22 21 0,l_ 23 22,b_ 24 .mul 19 23,m_ 25 2,b_ 26 .add 24 25,c_ 27 .sub 26 1,i_ 28 18 27 1,L_ 29 28,c_ 30 .geq 29 0,o_ 31 (.callp 100 [.t 30]),b_ 32 .add 14 31,m_ 9 32] [13,14,15,16,17,18,19,20,21,22,23,24,25,26,27,28,29,30,31,32]) (.skip))) (.seq (.seq (r_ [m_ 33 3,f_ 34 5 3,l_ 35 34,b_ 36 .gtr 33 35] [5,13,33,34,35]) (.cond (.t 36) (R_ [m_ 37 9,m_ 38 0,n_ 39 38,f_ 40 39 6,l_ 41 40,m_ 42 3,c_ 43 .sub 42 1,m_ 44 0,n_ 45 44,f_ 46 45 0,l_ 47 46,b_ 48 .mul 43 47,m_ 49 2,b_ 50 .add 48 49,i_ 51 41 50 1,L_ 52 51,c_ 53 .geq 52 0,o_ 54 (.callp 100 [.t 53]),b_ 55 .add 37 54,m_ 9 55] [0,2,3,36,37,38,39,40,41,42,43,44,45,46,47,48,49,50,51,52,53,54,55]) (.skip))) (.seq (r_ [m_ 56 9,m_ 8 56] [0,2,3,9,36,56]) (.ret)))))
set_option maxRecDepth 4000 in
theorem comp128:(Try.f128.body.bind fun c=>compC tab isP chkAll ir128 c)=some ir128:=by kernel_rfl
theorem place_bd {w h c y:Int} (c0:0<=c) (c1:c<w) (y0:0<=y) (y1:y<h) (hw:w<=200) (hh:h<=200):0<=y*w/\y*w+c<w*h/\y*w<=40000/\w<=y*w+w:=by
 have h1:0<=y*w:=Int.mul_nonneg y0 (by omega)
 have h2:y*w<=(h-1)*w:=Int.mul_le_mul_of_nonneg_right (by omega) (by omega)
 have h3:(h-1)*w=w*h-w:=by rw[Int.sub_mul,Int.one_mul,Int.mul_comm]
 have h4:=(mul_bd y0 (show y<=200 by omega) (show 0<=w by omega) hw).2
 exact⟨h1,by omega,by omega,by omega⟩
structure WkL where
 L:Xf.Loc
 B:Xf.Loc
 K:Xf.Loc
 N:Xf.Loc
 M:Xf.Loc
 I:Xf.Loc
 O:Xf.Loc
structure WkS where
 w:Int
 h:Int
 bands:List Bd
 bks:List Rb
 known:List Int
 minus:List Bool
 since:List Int
 ol:Int
def wkV (p:WkL) (s:WkS):List SV:=[.int .i64 s.w,.int .i64 s.h,.sl 1 p.B (esz 6 s.bands.length) 0 s.bands.length,.sl 2 p.K (esz 8 s.bks.length) 0 s.bks.length,.sl 3 p.N 1 0 s.known.length,.sl 4 p.M 1 0 s.minus.length,.sl 5 p.I 1 0 s.since.length,.sl 6 p.O 1 0 s.ol]
def invWk (look:Look) (c:Nat):Option (WkL×WkS×List Nat):=
 match rowC (look c)with
 | some (L,[.int .i64 w,.int .i64 h,.sl a _ _ 0 _,.sl b _ _ 0 _,.sl d _ 1 0 _,.sl e _ 1 0 _,.sl f _ 1 0 _,.sl g O 1 0 ol])=>
  match rowBds look a,rowRb look b,rowI (look d),rowBl (look e),rowI (look f)with
  | some (B,bands),some (K,bks),some (N,.i64,known),some (M,minus),some (I,.i64,since)=>some (⟨L,B,K,N,M,I,O⟩,⟨w,h,bands,bks,known,minus,since,ol⟩,[c,a,b,d,e,f,g])
  | _,_,_,_,_=>none
 | _=>none
attribute [push_cast] invWk
def wkWf (s:WkS):Prop:=0<=s.w/\s.w<=200/\0<=s.h/\s.h<=200/\(s.known.length:Int)=s.w*s.h/\(s.minus.length:Int)=s.w*s.h/\(s.since.length:Int)=s.w*s.h
def Rb.inp (b:Rb) (w h:Int):Prop:=0<=b.x/\0<=b.y/\0<=b.w/\b.w<=4/\0<=b.h/\b.h<=4/\b.x+b.w<=w/\b.y+b.h<=h
def Rb.sv (b:Rb):SV:=.agg [.int .i64 b.band,.int .i64 b.i,.int .i64 b.j,.int .i64 b.x,.int .i64 b.y,.int .i64 b.w,.int .i64 b.h,.int .i64 b.par]
attribute [push_cast] Rb.sv
structure WkA where
 p:WkL
 s:WkS
 b:Rb
def invCo:List SV->Look->Option (WkA×List Nat)
 | [.ptr c _ 0 0 0,.agg [.int .i64 k,.int .i64 i,.int .i64 j,.int .i64 x,.int .i64 y,.int .i64 w,.int .i64 h,.int .i64 par]],look=>match invWk look c with
  | some (p,s,g)=>some (⟨p,s,⟨k,i,j,x,y,w,h,par⟩⟩,g)
  | none=>none
 | _,_=>none
attribute [push_cast] invCo
def ctN (since:List Int) (w x y:Int):Nat->Int
 | 0=>0
 | n+1=>ctN since w x y n+(if 0<=rd since (y*w+(x+n))then 1 else 0)
def ctR (since:List Int) (w x y bw:Int):Nat->Int
 | 0=>0
 | n+1=>ctR since w x y bw n+ctN since w x (y+n) bw.toNat
theorem ctN_bd (since:List Int) (w x y:Int):∀ n:Nat,0<=ctN since w x y n/\ctN since w x y n<=n
 | 0=>by simp[ctN]
 | n+1=>by have:=ctN_bd since w x y n;rw[ctN];split<;>omega
theorem ctR_bd (since:List Int) (w x y bw:Int) (h0:0<=bw) (h:bw<=4):∀ n:Nat,0<=ctR since w x y bw n/\ctR since w x y bw n<=4*n
 | 0=>by simp[ctR]
 | n+1=>by have:=ctR_bd since w x y bw h0 h n;have:=ctN_bd since w x (y+n) bw.toNat;rw[ctR];omega
def cntP (since:List Int) (w:Int) (b:Rb):Int:=ctR since w b.x b.y b.w b.h.toNat
def fs99:FS where
 A:=WkA
 args:=fun a=>[.ptr 0 a.p.L 0 0 0,a.b.sv]
 mem:=fun a=>[some (.ro,a.p.L,.cells (wkV a.p a.s)),none,none,none,none,some (.ro,a.p.I,.ints .i64 a.s.since),none]
 pre:=fun a=>wkWf a.s/\a.b.inp a.s.w a.s.h
 res:=fun a _=>.int .i64 (cntP a.s.since a.s.w a.b)
 out:=fun _ _=>[]
 new:=fun _ _=>[]
set_option maxHeartbeats 1000000 in
theorem ok99:FSOk Try.prog 99 fs99:=by
 refine⟨⟨_,Try.func99,by kernel_rfl,by kernel_rfl⟩,fun a=>⟨by simp[fs99,push_cast,noMine,argOwn,Chunk.frArg],by simp[fs99,push_cast,outOk,Chunk.ext],fun x=>.inl (by simp[fs99,push_cast,frNew,frOut,Chunk.fr])⟩,fun a hp=>?_⟩
 obtain⟨p,s,⟨k,i,j,x,y,bw,bh,par⟩⟩:=a
 obtain⟨⟨w1,w2,w3,w4,w5,w6,w7⟩,⟨i1,i2,i3,i4,i5,i6,i7,i8⟩⟩:wkWf s/\(0<=x/\0<=y/\0<=bw/\bw<=4/\0<=bh/\bh<=4/\x+bw<=s.w/\y+bh<=s.h):=hp
 change Tri Try.prog 99 [.ptr 0 p.L 0 0 0,.agg [.int .i64 k,.int .i64 i,.int .i64 j,.int .i64 x,.int .i64 y,.int .i64 bw,.int .i64 bh,.int .i64 par]] [some (.ro,p.L,.cells (wkV p s)),none,none,none,none,some (.ro,p.I,.ints .i64 s.since),none] (postF fs99 ⟨p,s,⟨k,i,j,x,y,bw,bh,par⟩⟩)
 obtain⟨BW,hBW⟩:∃ n:Nat,bw=n:=⟨bw.toNat,by omega⟩
 obtain⟨BH,hBH⟩:∃ n:Nat,bh=n:=⟨bh.toNat,by omega⟩
 subst hBW hBH
 have hfin:cntP s.since s.w ⟨k,i,j,x,y,BW,BH,par⟩=ctR s.since s.w x y BW BH:=by unfold cntP;rw[Int.toNat_natCast]
 have hR:=ctR_bd s.since s.w x y BW i3 i4
 refine tri_evS (hyp (l:=[]) (lp:=[]) trivial trivial) Try.func99 comp99 (rs:=[.tmp 4]) (by rfl) Try.ntmps99 11 ?_
 simp -implicitDefEqProofs only[push_cast,zz,seval,ir99,wkV]
 intro X
 obtain⟨M,hM⟩:∃ M,X 0 10=M:=⟨_,rfl⟩
 rw[hM]
 refine evS_loopU (A:=Nat) kp99_1 kl99_1 (fun n=>[(5,.int .i64 (ctR s.since s.w x y BW n)),(6,.int .i64 (y+n))]) (fun _=>[]) (fun n=>n<=BH) (fun n=>BH-n) 0 (Nat.zero_le _) (Sub.pt ?_) ?_
 ·simp -implicitDefEqProofs only[push_cast,zz,seval,ctR]
 intro n hn K hK
 have hn:n<=BH:=hn
 by_cases hn':n<BH
 ·have hc:y+(n:Int)<y+BH:=by omega
  have hRn:=hR n
  have hs:ctR s.since s.w x y BW (n+1)=ctR s.since s.w x y BW n+ctN s.since s.w x (y+n) BW:=by rw[ctR,Int.toNat_natCast]
  have hN:=ctN_bd s.since s.w x (y+n)
  simp -implicitDefEqProofs only[push_cast,zz,seval,b99_1,hc]
  repeat refine om_ ?_
  refine evS_loopU (A:=Nat) kp99_2 kl99_2 (fun m=>[(5,.int .i64 (ctR s.since s.w x y BW n+ctN s.since s.w x (y+n) m)),(7,.int .i64 (x+m))]) (fun _=>[]) (fun m=>m<=BW) (fun m=>BW-m) 0 (Nat.zero_le _) (Sub.pt ?_) ?_
  ·simp -implicitDefEqProofs only[push_cast,zz,seval,ctN]
  intro m hm K2 hK2
  have hm:m<=BW:=hm
  by_cases hm':m<BW
  ·have hc2:x+(m:Int)<x+BW:=by omega
   have hpl:=place_bd (w:=s.w) (h:=s.h) (c:=x+m) (y:=y+n) (by omega) (by omega) (by omega) (by omega) w2 w4
   have hs2:ctN s.since s.w x (y+n) (m+1)=ctN s.since s.w x (y+n) m+(if 0<=rd s.since ((y+n)*s.w+(x+m))then 1 else 0):=rfl
   have hNm:=hN m
   obtain⟨q,hq⟩:∃ q,(y+(n:Int))*s.w=q:=⟨_,rfl⟩
   rw[hq]at hpl hs2
   clear hK
   by_cases h0:0<=rd s.since (q+(x+m))
   ·rw[if_pos h0]at hs2
    simp -implicitDefEqProofs only[push_cast,zz,seval,b99_2,hc2,hq,h0]
    repeat refine om_ ?_
    refine hK2 (m+1) (show m+1<=BW by omega) (show BW-(m+1)<BW-m by omega) _ _ (Sub.pt ?_)
    simp -implicitDefEqProofs only[push_cast,zz,seval,hs2,Int.add_assoc]
   ·rw[if_neg h0]at hs2
    simp -implicitDefEqProofs only[push_cast,zz,seval,b99_2,hc2,hq,h0]
    repeat refine om_ ?_
    refine hK2 (m+1) (show m+1<=BW by omega) (show BW-(m+1)<BW-m by omega) _ _ (Sub.pt ?_)
    simp -implicitDefEqProofs only[push_cast,zz,seval,hs2,Int.add_assoc]
  ·obtain rfl:m=BW:=by omega
   clear hK2
   simp -implicitDefEqProofs only[push_cast,zz,seval,b99_2,r99_3,Int.lt_irrefl]
   repeat refine om_ ?_
   refine hK (n+1) (show n+1<=BH by omega) (show BH-(n+1)<BH-n by omega) _ _ (Sub.pt ?_)
   simp -implicitDefEqProofs only[push_cast,zz,seval,hs,Int.add_assoc]
 ·obtain rfl:n=BH:=by omega
  clear hK
  simp -implicitDefEqProofs only[push_cast,zz,seval,b99_1,r99_4,Int.lt_irrefl]
  repeat refine om_ ?_
  refine postF.mk' (fun _=>default) [some 0,none,none,none,none,some 5,none] ?_
  simp -implicitDefEqProofs only[push_cast,zz,seval,fs99,wkV,hfin]
def ent99:Entry:=spOf fs99 invCo
theorem e99:EntryOk Try.prog 99 ent99:=entry_of ok99 invCo
@[push_cast] theorem ent99_app (us:List SV) (look:Look) (x:Nat->Xf.Loc) (k:Nat):ent99 us look x k=spOf fs99 invCo us look x k:=rfl
structure NbA where
 p:WkL
 s:WkS
 b:Bd
 c:Int
 y:Int
def invNb:List SV->Look->Option (NbA×List Nat)
 | [.ptr c _ 0 0 0,.agg [.int .i64 lv,.int .i64 kd,.int .i64 x,.int .i64 y,.int .i64 w,.int .i64 h],.int .i64 i,.int .i64 j],look=>match invWk look c with
  | some (p,s,g)=>some (⟨p,s,⟨lv,kd,x,y,w,h⟩,i,j⟩,g)
  | none=>none
 | _,_=>none
attribute [push_cast] invNb
def nbP (since:List Int) (w:Int) (b:Bd) (c y:Int):Int:=
 (if b.x<c then (if 0<=rd since (y*w+c-1)then 1 else 0)else 0)+(if b.y<y then (if 0<=rd since ((y-1)*w+c)then 1 else 0)else 0)
theorem nbP_bd (since:List Int) (w:Int) (b:Bd) (c y:Int):0<=nbP since w b c y/\nbP since w b c y<=2:=by
 unfold nbP
 split<;>split<;>(try split)<;>(try split)<;>omega
def fs128:FS where
 A:=NbA
 args:=fun a=>[.ptr 0 a.p.L 0 0 0,a.b.sv,.int .i64 a.c,.int .i64 a.y]
 mem:=fun a=>[some (.ro,a.p.L,.cells (wkV a.p a.s)),none,none,none,none,some (.ro,a.p.I,.ints .i64 a.s.since),none]
 pre:=fun a=>wkWf a.s/\0<=a.b.x/\0<=a.b.y/\0<=a.c/\a.c<a.s.w/\0<=a.y/\a.y<a.s.h
 res:=fun a _=>.int .i64 (nbP a.s.since a.s.w a.b a.c a.y)
 out:=fun _ _=>[]
 new:=fun _ _=>[]
set_option maxHeartbeats 1000000 in
theorem ok128:FSOk Try.prog 128 fs128:=by
 refine⟨⟨_,Try.func128,by kernel_rfl,by kernel_rfl⟩,fun a=>⟨by simp[fs128,push_cast,noMine,argOwn,Chunk.frArg],by simp[fs128,push_cast,outOk,Chunk.ext],fun x=>.inl (by simp[fs128,push_cast,frNew,frOut,Chunk.fr])⟩,fun a hp=>?_⟩
 obtain⟨p,s,⟨lv,kd,x,y,bw,bh⟩,c,r⟩:=a
 obtain⟨⟨w1,w2,w3,w4,w5,w6,w7⟩,i1,i2,i3,i4,i5,i6⟩:wkWf s/\0<=x/\0<=y/\0<=c/\c<s.w/\0<=r/\r<s.h:=hp
 change Tri Try.prog 128 [.ptr 0 p.L 0 0 0,.agg [.int .i64 lv,.int .i64 kd,.int .i64 x,.int .i64 y,.int .i64 bw,.int .i64 bh],.int .i64 c,.int .i64 r] [some (.ro,p.L,.cells (wkV p s)),none,none,none,none,some (.ro,p.I,.ints .i64 s.since),none] (postF fs128 ⟨p,s,⟨lv,kd,x,y,bw,bh⟩,c,r⟩)
 have hpl:=place_bd i3 i4 i5 i6 w2 w4
 have hn:nbP s.since s.w ⟨lv,kd,x,y,bw,bh⟩ c r=(if x<c then (if 0<=rd s.since (r*s.w+c-1)then 1 else 0)else 0)+(if y<r then (if 0<=rd s.since ((r-1)*s.w+c)then 1 else 0)else 0):=rfl
 have h10:(1:Int)*1=1:=rfl
 refine tri_evS (hyp (l:=[]) (lp:=[(100,oneF)]) trivial ⟨p100,trivial⟩) Try.func128 comp128 (rs:=[.tmp 8]) (by rfl) Try.ntmps128 11 ?_
 obtain⟨q,hq⟩:∃ q,r*s.w=q:=⟨_,rfl⟩
 obtain⟨u,hu⟩:∃ u,(r-1)*s.w=u:=⟨_,rfl⟩
 have hu1:u=q-s.w:=by rw[<-hu,<-hq,Int.sub_mul,Int.one_mul]
 rw[hq]at hpl
 rw[hq,hu]at hn
 have hup:y<r->0<=u/\u+c<s.w*s.h/\u<=40000/\r-1<=200:=fun h=>by
  have:=place_bd i3 i4 (show 0<=r-1 by omega) (show r-1<s.h by omega) w2 w4
  rw[hu]at this
  omega
 by_cases ha:x<c
 ·rw[if_pos ha]at hn
  by_cases hb:y<r
  ·rw[if_pos hb]at hn
   have hup:=hup hb
   simp -implicitDefEqProofs only[push_cast,zz,seval,ir128,wkV,hq,hu,ha,hb]
   intro X
   repeat refine om_ ?_
   refine postF.mk' (fun _=>default) [some 0,none,none,none,none,some 5,none] ?_
   simp -implicitDefEqProofs only[push_cast,zz,seval,fs128,wkV,hn]
  ·rw[if_neg hb]at hn
   simp -implicitDefEqProofs only[push_cast,zz,seval,ir128,wkV,hq,hu,ha,hb]
   intro X
   repeat refine om_ ?_
   refine postF.mk' (fun _=>default) [some 0,none,none,none,none,some 5,none] ?_
   simp -implicitDefEqProofs only[push_cast,zz,seval,fs128,wkV,hn]
 ·rw[if_neg ha]at hn
  by_cases hb:y<r
  ·rw[if_pos hb]at hn
   have hup:=hup hb
   simp -implicitDefEqProofs only[push_cast,zz,seval,ir128,wkV,hq,hu,ha,hb]
   intro X
   repeat refine om_ ?_
   refine postF.mk' (fun _=>default) [some 0,none,none,none,none,some 5,none] ?_
   simp -implicitDefEqProofs only[push_cast,zz,seval,fs128,wkV,hn]
  ·rw[if_neg hb]at hn
   simp -implicitDefEqProofs only[push_cast,zz,seval,ir128,wkV,hq,hu,ha,hb]
   intro X
   repeat refine om_ ?_
   refine postF.mk' (fun _=>default) [some 0,none,none,none,none,some 5,none] ?_
   simp -implicitDefEqProofs only[push_cast,zz,seval,fs128,wkV,hn]
def ent128:Entry:=spOf fs128 invNb
theorem e128:EntryOk Try.prog 128 ent128:=entry_of ok128 invNb
@[push_cast] theorem ent128_app (us:List SV) (look:Look) (x:Nat->Xf.Loc) (k:Nat):ent128 us look x k=spOf fs128 invNb us look x k:=rfl
def ir101:IR:=
 .seq (r_ [z_ 6 0] [6]) (.seq (.block 0 (.seq (r_ [m_ 10 0,n_ 11 10,f_ 12 11 2,l_ 13 12,c_ 14 .neq 13 0,m_ 9 14] [10,11,12,13,14]) (.cond (.t 9) (.seq (r_ [z_ 6 0] [0,1,2,9]) (.ret)) (.seq (r_ [m_ 16 0,n_ 17 16,f_ 18 17 0,l_ 19 18,o_ 20 (.binN .neq (.t 19) (.k nilP)),m_ 15 20] [9,16,17,18,19,20]) (.cond (.t 15) (.seq (r_ [m_ 21 0,n_ 22 21,f_ 23 22 0,l_ 24 23,m_ 25 1,m_ 26 2,o_ 27 (.call none 10 125 [.t 24,.t 25,.t 26])] [0,1,15,21,22,23,24,25,26,27]) (.seq (r_ [m_ 28 2,m_ 6 28] [2,28]) (.ret))) (.skip)))))) (.seq (r_ [m_ 30 0,n_ 31 30,f_ 32 31 1,l_ 33 32,m_ 34 1,o_ 35 (.call none 14 126 [.t 33,.t 34]),m_ 29 35,e_ 36 29 0,e_ 37 29 1,m_ 7 36,m_ 8 37] [1,2,6,15,29,30,31,32,33,34,35,36,37]) (.seq (.seq (r_ [m_ 38 8,c_ 39 .neq 38 0] [38]) (.cond (.t 39) (.seq (r_ [m_ 40 0,m_ 41 8,n_ 42 40,f_ 43 42 2,s_ 1 .i64 43 41] [0,7,8,39,40,41,42,43]) (.seq (r_ [z_ 6 0] []) (.ret))) (.skip))) (.seq (r_ [m_ 44 7,m_ 6 44] [0,7,8,39,44]) (.ret)))))
set_option maxRecDepth 4000 in
theorem comp101:(Try.f101.body.bind fun c=>compC tab isP chkAll ir101 c)=some ir101:=by kernel_rfl
structure BiA where
 LZ:Xf.Loc
 L:Xf.Loc
 LS:Xf.Loc
 LC:Xf.Loc
 d:DeS
 fail:Int
 ctx:Int
 bit:Int
def rbB (d:DeS) (fail ctx:Int):Int:=if fail=0 then gotB d ctx else 0
def rbE (d:DeS) (fail ctx:Int):Int:=if fail=0 then gotE d ctx else fail
def rbS (d:DeS) (fail ctx:Int):DeS:=if fail=0 then gotS d ctx else d
def zdV (L:Xf.Loc) (fail:Int):List SV:=[nilP,.ptr 1 L 0 0 0,.int .i64 fail]
def invBi:List SV->Look->Option (BiA×List Nat)
 | [.ptr c _ 0 0 0,.int .i64 ctx,.int .i64 bit],look=>match rowC (look c)with
  | some (LZ,[_,.ptr k _ 0 0 0,.int .i64 fail])=>match invRd [.ptr k nilLoc 0 0 0,.int .i64 ctx] look with
   | some (⟨L,LS,LC,d,_⟩,h)=>some (⟨LZ,L,LS,LC,d,fail,ctx,bit⟩,c::h)
   | none=>none
  | _=>none
 | _,_=>none
attribute [push_cast] invBi
def biM (LZ L LS LC:Xf.Loc) (d:DeS) (fail:Int):Mem:=[some (.lent,LZ,.cells (zdV L fail)),some (.lent,L,.cells (relabs (fun i=>i+1) (rdV LS d LC))),some (.lent,LS,.ints .i64 d.st),some (.ro,LC,.ints .u8 d.code)]
def fs101:FS where
 A:=BiA
 args:=fun a=>[.ptr 0 a.LZ 0 0 0,.int .i64 a.ctx,.int .i64 a.bit]
 mem:=fun a=>biM a.LZ a.L a.LS a.LC a.d a.fail
 pre:=fun a=>a.d.ok/\0<=a.ctx/\a.ctx<a.d.st.length
 res:=fun a _=>.int .i64 (rbB a.d a.fail a.ctx)
 out:=fun a x=>[some (some (.cells (zdV a.L (rbE a.d a.fail a.ctx)))),some (some (.cells (relabs (fun i=>i+1) (rdV a.LS (rbS a.d a.fail a.ctx) a.LC)))),some (some (.ints .i64 (rbS a.d a.fail a.ctx).st))]
 new:=fun a x=>[]
theorem gotB_no {d:DeS} {ctx:Int} (h:¬ gotE d ctx=0):gotB d ctx=0:=by unfold gotB;rw[if_neg h]
set_option maxHeartbeats 1000000 in
theorem ok101:FSOk Try.prog 101 fs101:=by
 refine⟨⟨_,Try.func101,by kernel_rfl,by kernel_rfl⟩,fun a=>⟨by simp[fs101,biM,zdV,rdV,push_cast,noMine,argOwn,Chunk.frArg],by simp[fs101,biM,zdV,rdV,push_cast,outOk,Chunk.ext],fun x=>.inl (by simp[fs101,biM,zdV,rdV,push_cast,frNew,frOut,Chunk.fr])⟩,fun a hp=>?_⟩
 obtain⟨LZ,L,LS,LC,⟨kind,st,low,high,code,i,v,b,en⟩,fail,ctx,bit⟩:=a
 obtain⟨p1,p2,p3⟩:DeS.ok ⟨kind,st,low,high,code,i,v,b,en⟩/\0<=ctx/\ctx<st.length:=hp
 change Tri Try.prog 101 [.ptr 0 LZ 0 0 0,.int .i64 ctx,.int .i64 bit] (biM LZ L LS LC ⟨kind,st,low,high,code,i,v,b,en⟩ fail) (postF fs101 ⟨LZ,L,LS,LC,⟨kind,st,low,high,code,i,v,b,en⟩,fail,ctx,bit⟩)
 refine tri_evS (hyp (l:=[(126,ent126)]) (lp:=[]) ⟨e126,trivial⟩ trivial) Try.func101 comp101 (rs:=[.tmp 6]) (by rfl) Try.ntmps101 18 ?_
 by_cases hf:fail=0
 ·have e1:rbB ⟨kind,st,low,high,code,i,v,b,en⟩ fail ctx=gotB ⟨kind,st,low,high,code,i,v,b,en⟩ ctx:=by unfold rbB;rw[if_pos hf]
  have e2:rbE ⟨kind,st,low,high,code,i,v,b,en⟩ fail ctx=gotE ⟨kind,st,low,high,code,i,v,b,en⟩ ctx:=by unfold rbE;rw[if_pos hf]
  have e3:rbS ⟨kind,st,low,high,code,i,v,b,en⟩ fail ctx=gotS ⟨kind,st,low,high,code,i,v,b,en⟩ ctx:=by unfold rbS;rw[if_pos hf]
  obtain⟨g1,g2,g3⟩:=gotS_len ⟨kind,st,low,high,code,i,v,b,en⟩ ctx
  simp only at g1 g2 g3
  subst hf
  by_cases he:gotE ⟨kind,st,low,high,code,i,v,b,en⟩ ctx=0
  ·simp -implicitDefEqProofs only[push_cast,zz,seval,ir101,biM,zdV,rdV,fs126,he,g1,g2,g3]
   repeat refine om_ ?_
   refine postF.mk' (fun _=>default) [some 0,some 1,some 2,some 3] ?_
   simp -implicitDefEqProofs only[push_cast,zz,seval,fs101,biM,zdV,rdV,e1,e2,e3,he,g1,g2,g3]
  ·have e4:=gotB_no he
   simp -implicitDefEqProofs only[push_cast,zz,seval,ir101,biM,zdV,rdV,fs126,he,g1,g2,g3]
   repeat refine om_ ?_
   refine postF.mk' (fun _=>default) [some 0,some 1,some 2,some 3] ?_
   simp -implicitDefEqProofs only[push_cast,zz,seval,fs101,biM,zdV,rdV,e1,e2,e3,e4,g1,g2,g3]
 ·have e1:rbB ⟨kind,st,low,high,code,i,v,b,en⟩ fail ctx=0:=by unfold rbB;rw[if_neg hf]
  have e2:rbE ⟨kind,st,low,high,code,i,v,b,en⟩ fail ctx=fail:=by unfold rbE;rw[if_neg hf]
  have e3:rbS ⟨kind,st,low,high,code,i,v,b,en⟩ fail ctx=⟨kind,st,low,high,code,i,v,b,en⟩:=by unfold rbS;rw[if_neg hf]
  simp -implicitDefEqProofs only[push_cast,zz,seval,ir101,biM,zdV,rdV,hf]
  refine postF.mk' (fun _=>default) [some 0,some 1,some 2,some 3] ?_
  simp -implicitDefEqProofs only[push_cast,zz,seval,fs101,biM,zdV,rdV,e1,e2,e3]
def ent101:Entry:=spOf fs101 invBi
theorem e101:EntryOk Try.prog 101 ent101:=entry_of ok101 invBi
@[push_cast] theorem ent101_app (us:List SV) (look:Look) (x:Nat->Xf.Loc) (k:Nat):ent101 us look x k=spOf fs101 invBi us look x k:=rfl
def ir103:IR:=
 .seq (r_ [o_ 14 (.box 20 (.t 5))] [5]) (.seq (r_ [m_ 22 8,m_ 23 0,n_ 24 23,f_ 25 24 0,l_ 26 25,b_ 27 .mul 22 26,m_ 28 7,b_ 29 .add 27 28,m_ 18 29] [22,23,24,25,26,27,28,29]) (.seq (r_ [z_ 19 0,z_ 20 0] []) (.seq (.seq (r_ [m_ 30 4,o_ 31 (.binS .neq (.t 30) (.k nilSV))] [30]) (.cond (.t 31) (R_ [m_ 32 4,m_ 33 18,i_ 34 32 33 1,L_ 35 34,o_ 36 (.callp 127 [.t 35]),m_ 37 3,b_ 38 .shr 36 37,c_ 39 .rem 38 2,m_ 40 4,m_ 41 18,i_ 42 40 41 1,L_ 43 42,c_ 44 .lss 43 0,o_ 45 (.callp 100 [.t 44]),m_ 19 39,m_ 20 45] [4,31,32,33,34,35,36,37,38,39,40,41,42,43,44,45]) (.skip))) (.block 0 (.seq (r_ [m_ 47 0,n_ 48 47,f_ 49 48 6,l_ 50 49,m_ 51 18,i_ 52 50 51 1,L_ 53 52,c_ 54 .geq 53 0,m_ 46 54] [4,31,47,48,49,50,51,52,53,54]) (.cond (.t 46) (.seq (r_ [z_ 21 7] [6,7,8,14,20,46]) (.seq (.seq (r_ [m_ 55 0,n_ 56 55,f_ 57 56 6,l_ 58 57,m_ 59 18,i_ 60 58 59 1,L_ 61 60,m_ 62 2,c_ 63 .sub 62 1,b_ 64 .eql 61 63] [2,55,56,57,58,59,60,61,62,63]) (.cond (.t 64) (r_ [z_ 21 6] [64]) (.skip))) (.regT (.split 3 10 (.split 6 10 (.leaf [0,1,2,3,4,5,6,7,8,9,10,11,12,13,14,15]) (.leaf [0,1,2,3,4,5,7,8,9,10,6,11,12,13,14,15])) (.leaf [0,1,2,4,7,8,9,10,3,5,6,11,12,13,14,15])) [m_ 65 0,n_ 66 65,f_ 67 66 4,⟨some 68,none,⟨[21,22,23,24],[]⟩,.ld false none 0 0 (.t 67)⟩,m_ 69 18,i_ 70 68 69 1,⟨some 71,none,⟨[21,22,23,24],[]⟩,.ld true none 0 0 (.t 70)⟩,m_ 72 1,m_ 73 21,m_ 74 19,o_ 75 (.call none 21 101 [.t 72,.t 73,.t 74]),m_ 76 3,b_ 77 .shl 75 76,b_ 78 .add 71 77,i_ 79 68 69 1,S_ 1 .i64 79 78] [0,1,3,18,19,21,64,65,66,67,68,69,70,71,72,73,74,75,76,77,78,79] []))) (.seq (r_ [m_ 81 6,m_ 80 81] [6,46,81]) (.cond (.t 80) (.seq (r_ [m_ 82 1,m_ 83 0,o_ 84 (.ld false (some 6) 0 0 (.t 14)),m_ 85 7,m_ 86 8,o_ 87 (.call (some 4) 25 128 [.t 83,.t 84,.t 85,.t 86]),o_ 88 (.bin 0 .add (Z_ 8) (.t 87)),m_ 89 19,o_ 90 (.call none 29 101 [.t 82,.t 88,.t 89]),c_ 91 .eql 90 1] [7,8,14,19,80,82,83,84,85,86,87,88,89,90]) (.cond (.t 91) (.seq (R_ [m_ 92 0,n_ 93 92,f_ 94 93 4,l_ 95 94,m_ 96 18,m_ 97 0,n_ 98 97,f_ 99 98 6,l_ 100 99,m_ 101 18,m_ 102 3,o_ 103 (.bin 0 .shl (Z_ 1) (.t 102)),m_ 104 2,i_ 105 95 96 1,S_ 1 .i64 105 103,i_ 106 100 101 1,S_ 1 .i64 106 104] [2,3,91,92,93,94,95,96,97,98,99,100,101,102,103,104,105,106]) (.regT (.split 3 7 (.leaf [0,1,2,3,4,5,6,7,8,9,10]) (.leaf [0,1,2,4,5,6,7,3,8,9,10])) [m_ 107 0,n_ 108 107,f_ 109 108 5,⟨some 110,none,⟨[33,34,35,36],[]⟩,.ld false none 0 0 (.t 109)⟩,m_ 111 18,m_ 112 1,m_ 113 20,o_ 114 (.call none 33 101 [.t 112,Z_ 11,.t 113]),c_ 115 .eql 114 1,i_ 116 110 111 1,S_ 1 .i64 116 115] [0,1,18,20,107,108,109,110,111,112,113,114,115,116] [])) (.skip))) (.skip)))))))))
set_option maxRecDepth 4000 in
theorem comp103:(Try.f103.body.bind fun c=>compC tab isP chkAll ir103 c)=some ir103:=by kernel_rfl
theorem rbS_ok {d:DeS} {fail ctx:Int} (H:d.ok) (h0:0<=ctx) (h1:ctx<d.st.length):(rbS d fail ctx).ok/\(rbS d fail ctx).st.length=d.st.length/\(rbS d fail ctx).kind=d.kind/\(rbS d fail ctx).code=d.code:=by
 unfold rbS
 split
 ·exact gotS_ok H h0 h1
 ·exact⟨H,rfl,rfl,rfl⟩
theorem rbS_len (d:DeS) (fail ctx:Int):(rbS d fail ctx).st.length=d.st.length/\(rbS d fail ctx).code=d.code/\(rbS d fail ctx).kind=d.kind:=by
 unfold rbS;split
 ·exact gotS_len d ctx
 ·simp
theorem gotB_01 (d:DeS) (ctx:Int):gotB d ctx=0∨gotB d ctx=1:=by
 unfold gotB;split
 ·exact bitD_01 d ctx
 ·exact .inl rfl
theorem rbB_01 (d:DeS) (fail ctx:Int):rbB d fail ctx=0∨rbB d fail ctx=1:=by
 unfold rbB;split
 ·exact gotB_01 d ctx
 ·exact .inl rfl
structure RwS where
 known:List Int
 minus:List Bool
 since:List Int
 d:DeS
 fail:Int
def rctx (since:List Int) (i n:Int):Int:=if rd since i=n-1 then 6 else 7
def rnum (w n t:Int) (bd:Bd) (on:Bool) (c y:Int) (s:RwS):RwS:=
 if 0<=rd s.since (y*w+c)then
  ⟨s.known.set (y*w+c).toNat (rd s.known (y*w+c)+rbB s.d s.fail (rctx s.since (y*w+c) n)*2^t.toNat),s.minus,s.since,rbS s.d s.fail (rctx s.since (y*w+c) n),rbE s.d s.fail (rctx s.since (y*w+c) n)⟩
 else if on then
  if rbB s.d s.fail (8+nbP s.since w bd c y)=1 then
   ⟨s.known.set (y*w+c).toNat (2^t.toNat),s.minus.set (y*w+c).toNat (decide (rbB (rbS s.d s.fail (8+nbP s.since w bd c y)) (rbE s.d s.fail (8+nbP s.since w bd c y)) 11=1)),s.since.set (y*w+c).toNat n,
    rbS (rbS s.d s.fail (8+nbP s.since w bd c y)) (rbE s.d s.fail (8+nbP s.since w bd c y)) 11,rbE (rbS s.d s.fail (8+nbP s.since w bd c y)) (rbE s.d s.fail (8+nbP s.since w bd c y)) 11⟩
  else ⟨s.known,s.minus,s.since,rbS s.d s.fail (8+nbP s.since w bd c y),rbE s.d s.fail (8+nbP s.since w bd c y)⟩
 else s
theorem rnum_len (w n t:Int) (bd:Bd) (on:Bool) (c y:Int) (s:RwS):(rnum w n t bd on c y s).known.length=s.known.length/\(rnum w n t bd on c y s).minus.length=s.minus.length/\(rnum w n t bd on c y s).since.length=s.since.length /\
  (rnum w n t bd on c y s).d.st.length=s.d.st.length/\(rnum w n t bd on c y s).d.code=s.d.code/\(rnum w n t bd on c y s).d.kind=s.d.kind:=by
 have a1:=rbS_len s.d s.fail (rctx s.since (y*w+c) n)
 have a2:=rbS_len s.d s.fail (8+nbP s.since w bd c y)
 have a3:=rbS_len (rbS s.d s.fail (8+nbP s.since w bd c y)) (rbE s.d s.fail (8+nbP s.since w bd c y)) 11
 unfold rnum
 split
 ·simp only[List.length_set];exact⟨trivial,trivial,trivial,a1⟩
 ·split
  ·split
   ·simp only[List.length_set]
    exact⟨trivial,trivial,trivial,a3.1.trans a2.1,a3.2.1.trans a2.2.1,a3.2.2.trans a2.2.2⟩
   ·exact⟨rfl,rfl,rfl,a2⟩
  ·simp
theorem and_keep {P Q:Prop} (p:P) (f:P->Q):P/\Q:=⟨p,f p⟩
structure NrA where
 p:WkL
 s:WkS
 LZ:Xf.Loc
 L:Xf.Loc
 LS:Xf.Loc
 LC:Xf.Loc
 d:DeS
 fail:Int
 n:Int
 t:Int
 b:Bd
 on:Bool
 c:Int
 y:Int
def nrS (a:NrA):RwS:=⟨a.s.known,a.s.minus,a.s.since,a.d,a.fail⟩
def nrR (a:NrA):RwS:=rnum a.s.w a.n a.t a.b a.on a.c a.y (nrS a)
def nrM (a:NrA):Mem:=[some (.ro,a.p.L,.cells (wkV a.p a.s)),some (.ro,a.p.B,.recs 6 false [] (a.s.bands.map Bd.rc)),some (.ro,a.p.K,.recs 8 false [] (a.s.bks.map Rb.rc)),some (.lent,a.p.N,.ints .i64 a.s.known),some (.lent,a.p.M,.bools a.s.minus),some (.lent,a.p.I,.ints .i64 a.s.since),none,
 some (.lent,a.LZ,.cells (relabs (fun i=>i+7) (zdV a.L a.fail))),some (.lent,a.L,.cells (relabs (fun i=>i+8) (rdV a.LS a.d a.LC))),some (.lent,a.LS,.ints .i64 a.d.st),some (.ro,a.LC,.ints .u8 a.d.code)]
def invNr:List SV->Look->Option (NrA×List Nat)
 | [.ptr c _ 0 0 0,.ptr z _ 0 0 0,.int .i64 n,.int .i64 t,_,.agg [.int .i64 lv,.int .i64 kd,.int .i64 x,.int .i64 y,.int .i64 w,.int .i64 h],.bool on,.int .i64 i,.int .i64 j],look=>match invWk look c,invBi [.ptr z nilLoc 0 0 0,.int .i64 0,.int .i64 0] look with
  | some (p,s,g),some (⟨LZ,L,LS,LC,d,fail,_,_⟩,h')=>some (⟨p,s,LZ,L,LS,LC,d,fail,n,t,⟨lv,kd,x,y,w,h⟩,on,i,j⟩,g++h')
  | _,_=>none
 | _,_=>none
attribute [push_cast] invNr
def knB (l:List Int) (B:Int):Prop:=∀ x∈l,0<=x/\x<=B
theorem knB.at {l:List Int} {B:Int} (h:knB l B) {i:Int} (h0:0<=i) (h1:i<l.length):0<=rd l i/\rd l i<=B:=by
 obtain⟨k,rfl⟩:∃ k:Nat,i=k:=⟨i.toNat,by omega⟩
 rw[rd_lt l k (by omega)]
 exact h _ (List.getElem_mem _)
theorem knB.set {l:List Int} {B:Int} (h:knB l B) {i:Nat} {v:Int} (h0:0<=v) (h1:v<=B):knB (l.set i v) B:=fun x hx=>by
 rcases List.mem_or_eq_of_mem_set hx with h2 | h2
 ·exact h x h2
 ·rw[h2];exact⟨h0,h1⟩
theorem knB.mono {l:List Int} {B C:Int} (h:knB l B) (hb:B<=C):knB l C:=fun x hx=>⟨(h x hx).1,Int.le_trans (h x hx).2 hb⟩
def knM:Int:=1000000000000000
def fs103:FS where
 A:=NrA
 args:=fun a=>[.ptr 0 a.p.L 0 0 0,.ptr 7 a.LZ 0 0 0,.int .i64 a.n,.int .i64 a.t,nilSV,a.b.sv,.bool a.on,.int .i64 a.c,.int .i64 a.y]
 mem:=nrM
 pre:=fun a=>wkWf a.s/\knB a.s.known knM/\a.d.ok/\a.d.st.length=12/\0<=a.n/\a.n<=30/\0<=a.t/\a.t<=30/\0<=a.b.x/\0<=a.b.y/\0<=a.c/\a.c<a.s.w/\0<=a.y/\a.y<a.s.h
 res:=fun a _=>.tup []
 out:=fun a x=>[none,none,none,some (some (.ints .i64 (nrR a).known)),some (some (.bools (nrR a).minus)),some (some (.ints .i64 (nrR a).since)),none,some (some (.cells (relabs (fun i=>i+7) (zdV a.L (nrR a).fail)))),some (some (.cells (relabs (fun i=>i+8) (rdV a.LS (nrR a).d a.LC)))),some (some (.ints .i64 (nrR a).d.st))]
 new:=fun a x=>[]
theorem nrR_len (a:NrA):(nrR a).known.length=a.s.known.length/\(nrR a).minus.length=a.s.minus.length/\(nrR a).since.length=a.s.since.length/\(nrR a).d.st.length=a.d.st.length/\(nrR a).d.code=a.d.code/\(nrR a).d.kind=a.d.kind:=rnum_len _ _ _ _ _ _ _ _
set_option maxRecDepth 4000 in
set_option maxHeartbeats 2000000 in
theorem ok103:FSOk Try.prog 103 fs103:=by
 refine⟨⟨_,Try.func103,by kernel_rfl,by kernel_rfl⟩,fun a=>⟨by simp[fs103,nrM,nrR_len,zdV,rdV,push_cast,noMine,argOwn,Chunk.frArg],by simp[fs103,nrM,nrR_len,zdV,rdV,push_cast,outOk,Chunk.ext],fun x=>.inl (by simp[fs103,nrM,nrR_len,zdV,rdV,push_cast,frNew,frOut,Chunk.fr])⟩,fun a hp=>?_⟩
 obtain⟨p,s,LZ,L,LS,LC,d,fail,n,t,⟨lv,kd,x,y,bw,bh⟩,on,c,r⟩:=a
 obtain⟨⟨w1,w2,w3,w4,w5,w6,w7⟩,hk,hd,h12,n0,n1,t0,t1,i1,i2,i3,i4,i5,i6⟩:wkWf s/\knB s.known knM/\d.ok/\d.st.length=12/\0<=n/\n<=30/\0<=t/\t<=30/\0<=x/\0<=y/\0<=c/\c<s.w/\0<=r/\r<s.h:=hp
 have hwf:wkWf s:=⟨w1,w2,w3,w4,w5,w6,w7⟩
 change Tri Try.prog 103 [.ptr 0 p.L 0 0 0,.ptr 7 LZ 0 0 0,.int .i64 n,.int .i64 t,nilSV,.agg [.int .i64 lv,.int .i64 kd,.int .i64 x,.int .i64 y,.int .i64 bw,.int .i64 bh],.bool on,.int .i64 c,.int .i64 r] (nrM ⟨p,s,LZ,L,LS,LC,d,fail,n,t,⟨lv,kd,x,y,bw,bh⟩,on,c,r⟩) (postF fs103 ⟨p,s,LZ,L,LS,LC,d,fail,n,t,⟨lv,kd,x,y,bw,bh⟩,on,c,r⟩)
 have hpl:=place_bd i3 i4 i5 i6 w2 w4
 have hr:nrR ⟨p,s,LZ,L,LS,LC,d,fail,n,t,⟨lv,kd,x,y,bw,bh⟩,on,c,r⟩=rnum s.w n t ⟨lv,kd,x,y,bw,bh⟩ on c r ⟨s.known,s.minus,s.since,d,fail⟩:=rfl
 unfold rnum at hr
 simp only at hr
 have hpI:(2:Int)^t.toNat<=1073741824/\0<(2:Int)^t.toNat:=by
  have hpw:=pw_lt t0 t1
  have e:(2:Int)^t.toNat=((2^t.toNat:Nat):Int):=by simp
  omega
 obtain⟨T,hT⟩:∃ T,(2:Int)^t.toNat=T:=⟨_,rfl⟩
 have hb64:=bits_i64
 have hnb:=nbP_bd s.since s.w ⟨lv,kd,x,y,bw,bh⟩ c r
 have hkn:=hk.at (i:=r*s.w+c) (by omega) (by omega)
 have hkM:knM=1000000000000000:=rfl
 rw[hT]at hr hpI
 obtain⟨N,hN⟩:∃ N,nbP s.since s.w ⟨lv,kd,x,y,bw,bh⟩ c r=N:=⟨_,rfl⟩
 rw[hN]at hr hnb
 obtain⟨q,hq⟩:∃ q,r*s.w=q:=⟨_,rfl⟩
 rw[hq]at hr hpl hkn
 have hrd:∀ z:DeS,rdV LS z LC=[.int .i64 z.kind,.sl 1 LS 1 0 z.st.length,.int .u64 z.low,.int .u64 z.high,.sl 2 LC 1 0 z.code.length,.int .i64 z.at_,.int .u64 z.value,.int .i64 z.beyond,.bool z.ended]:=fun z=>rfl
 have hη:∀ z:DeS,(⟨z.kind,z.st,z.low,z.high,z.code,z.at_,z.value,z.beyond,z.ended⟩:DeS)=z:=fun z=>rfl
 have nl0:nilLoc0.nil=true:=rfl
 refine tri_evS (hyp (l:=[(101,ent101),(128,ent128)]) (lp:=[(127,absF),(100,oneF)]) ⟨e101,e128,trivial⟩ ⟨p127,p100,trivial⟩) Try.func103 comp103 (rs:=[]) (by rfl) Try.ntmps103 37 ?_
 obtain⟨sn,hsn⟩:∃ v,rd s.since (q+c)=v:=⟨_,rfl⟩
 rw[hsn]at hr
 by_cases hold:0<=sn
 ·rw[if_pos hold]at hr
  obtain⟨cx,hcx⟩:∃ v,rctx s.since (q+c) n=v:=⟨_,rfl⟩
  rw[hcx]at hr
  have hcv:cx=if sn=n-1 then 6 else 7:=by rw[<-hcx,<-hsn];rfl
  by_cases h6:sn=n-1
  ·rw[if_pos h6]at hcv
   subst hcv h6
   have hl:=rbS_len d fail 6
   obtain⟨g1,g2,g3⟩:=hl
   have hv01:=rbB_01 d fail 6
   obtain⟨v,hv⟩:∃ v,rbB d fail 6=v:=⟨_,rfl⟩
   rw[hv]at hr hv01
   have hvT:0<=v*T/\v*T<=T:=by rcases hv01 with h | h<;>rw[h]<;>omega
   simp -implicitDefEqProofs only[push_cast,zz,seval,ir103,nrM,wkV,zdV,hrd,hη,nl0,Bool.not_true,false_implies,hq,hsn,hold,hT,fs101,biM,hv,g1,g2,g3]
   repeat refine om_ ?_
   intro X
   repeat refine om_ ?_
   refine and_keep ?_ fun fin=>?_
   ·refine postF.mk' (fun _=>default) [some 0,some 1,some 2,some 3,some 4,some 5,none,some 7,some 8,some 9,some 10] ?_
    simp -implicitDefEqProofs only[push_cast,zz,seval,fs103,nrM,wkV,zdV,hrd,hr,g1,g2,g3,List.length_set]
   repeat refine om_ ?_
   exact fin
  ·rw[if_neg h6]at hcv
   subst hcv
   have hl:=rbS_len d fail 7
   obtain⟨g1,g2,g3⟩:=hl
   have hv01:=rbB_01 d fail 7
   obtain⟨v,hv⟩:∃ v,rbB d fail 7=v:=⟨_,rfl⟩
   rw[hv]at hr hv01
   have hvT:0<=v*T/\v*T<=T:=by rcases hv01 with h | h<;>rw[h]<;>omega
   simp -implicitDefEqProofs only[push_cast,zz,seval,ir103,nrM,wkV,zdV,hrd,hη,nl0,Bool.not_true,false_implies,hq,hsn,hold,hT,h6,fs101,biM,hv,g1,g2,g3]
   repeat refine om_ ?_
   intro X
   repeat refine om_ ?_
   refine and_keep ?_ fun fin=>?_
   ·refine postF.mk' (fun _=>default) [some 0,some 1,some 2,some 3,some 4,some 5,none,some 7,some 8,some 9,some 10] ?_
    simp -implicitDefEqProofs only[push_cast,zz,seval,fs103,nrM,wkV,zdV,hrd,hr,g1,g2,g3,List.length_set]
   repeat refine om_ ?_
   exact fin
 ·rw[if_neg hold]at hr
  cases on with
  | false=>
   rw[if_neg (by decide)]at hr
   simp (maxSteps:=3000000) -implicitDefEqProofs only[push_cast,zz,seval,ir103,nrM,wkV,nl0,Bool.not_true,false_implies,hq,hsn,hold,hT]
   repeat refine om_ ?_
   intro X
   repeat refine om_ ?_
   refine postF.mk' (fun _=>default) [some 0,some 1,some 2,some 3,some 4,some 5,none,some 7,some 8,some 9,some 10] ?_
   simp -implicitDefEqProofs only[push_cast,zz,seval,fs103,nrM,wkV,hr]
  | true=>
   rw[if_pos rfl]at hr
   have hl:=rbS_len d fail (8+N)
   obtain⟨g1,g2,g3⟩:=hl
   have hok:=rbS_ok (fail:=fail) (ctx:=8+N) hd (by omega) (by omega)
   obtain⟨d1,hd1⟩:∃ v,rbS d fail (8+N)=v:=⟨_,rfl⟩
   obtain⟨f1,hf1⟩:∃ v,rbE d fail (8+N)=v:=⟨_,rfl⟩
   rw[hd1]at g1 g2 g3 hok
   rw[hd1,hf1]at hr
   have hok1:=hok.1
   obtain⟨k1,k2,k3⟩:=rbS_len d1 f1 11
   have hη1:(⟨d1.kind,d1.st,d1.low,d1.high,d.code,d1.at_,d1.value,d1.beyond,d1.ended⟩:DeS)=d1:=by rw[<-g2]
   by_cases hb:rbB d fail (8+N)=1
   ·rw[if_pos hb]at hr
    simp -implicitDefEqProofs only[push_cast,zz,seval,ir103,nrM,wkV,zdV,hrd,hη,nl0,Bool.not_true,false_implies,hq,hsn,hold,hT,fs101,biM,fs128,hN,hb,hd1,hf1,g2,hη1,Int.one_mul,List.length_set]
    repeat refine om_ ?_
    intro X
    repeat refine om_ ?_
    refine and_keep ?_ fun fin=>?_
    ·refine postF.mk' (fun _=>default) [some 0,some 1,some 2,some 3,some 4,some 5,none,some 7,some 8,some 9,some 10] ?_
     simp -implicitDefEqProofs only[push_cast,zz,seval,fs103,nrM,wkV,zdV,hrd,hr,g1,g2,g3,k1,k2,k3,List.length_set]
    repeat refine om_ ?_
    exact fin
   ·rw[if_neg hb]at hr
    simp -implicitDefEqProofs only[push_cast,zz,seval,ir103,nrM,wkV,zdV,hrd,hη,nl0,Bool.not_true,false_implies,hq,hsn,hold,hT,fs101,biM,fs128,hN,hb,hd1,hf1,g1,g2,g3]
    repeat refine om_ ?_
    intro X
    repeat refine om_ ?_
    refine postF.mk' (fun _=>default) [some 0,some 1,some 2,some 3,some 4,some 5,none,some 7,some 8,some 9,some 10] ?_
    simp -implicitDefEqProofs only[push_cast,zz,seval,fs103,nrM,wkV,zdV,hrd,hr,g1,g2,g3]
def ent103:Entry:=spOf fs103 invNr
theorem e103:EntryOk Try.prog 103 ent103:=entry_of ok103 invNr
@[push_cast] theorem ent103_app (us:List SV) (look:Look) (x:Nat->Xf.Loc) (k:Nat):ent103 us look x k=spOf fs103 invNr us look x k:=rfl
def rwSame (a s:RwS):Prop:=a.known.length=s.known.length/\a.minus.length=s.minus.length/\a.since.length=s.since.length/\a.d.st.length=s.d.st.length/\a.d.code=s.d.code/\a.d.kind=s.d.kind
theorem rwSame.refl (s:RwS):rwSame s s:=⟨rfl,rfl,rfl,rfl,rfl,rfl⟩
theorem rwSame.trans {a b c:RwS} (h:rwSame a b) (g:rwSame b c):rwSame a c:=by
 obtain⟨h1,h2,h3,h4,h5,h6⟩:=h
 obtain⟨g1,g2,g3,g4,g5,g6⟩:=g
 exact⟨h1.trans g1,h2.trans g2,h3.trans g3,h4.trans g4,h5.trans g5,h6.trans g6⟩
def rwOk (B:Int) (s:RwS):Prop:=knB s.known B/\s.d.ok/\s.d.st.length=12
theorem rwOk.mono {B C:Int} {s:RwS} (h:rwOk B s) (hb:B<=C):rwOk C s:=⟨h.1.mono hb,h.2⟩
theorem pw_24 {t:Int} (h0:0<=t) (h1:t<=24):(2:Int)^t.toNat<=16777216/\0<(2:Int)^t.toNat:=by
 have a:=Nat.pow_le_pow_right (n:=2) (by decide) (show t.toNat<=24 by omega)
 have b:0<2^t.toNat:=Nat.pow_pos (by decide)
 have e:(2:Int)^t.toNat=((2^t.toNat:Nat):Int):=by simp
 omega
theorem rnum_ok {w h n t:Int} {bd:Bd} {on:Bool} {c y B:Int} {s:RwS} (H:rwOk B s) (hB:0<=B) (hl:(s.known.length:Int)=w*h) (w2:w<=200) (w4:h<=200) (t0:0<=t) (t1:t<=24) (c0:0<=c) (c1:c<w) (y0:0<=y) (y1:y<h) :
  rwOk (B+16777216) (rnum w n t bd on c y s):=by
 obtain⟨a1,a2,a3⟩:=H
 have hp:=place_bd c0 c1 y0 y1 w2 w4
 have hT:=pw_24 t0 t1
 have hk:=a1.at (i:=y*w+c) (by omega) (by omega)
 have hnb:=nbP_bd s.since w bd c y
 obtain⟨T,hTT⟩:∃ T,(2:Int)^t.toNat=T:=⟨_,rfl⟩
 unfold rnum
 rw[hTT]at hT ⊢
 split
 ·have hc:0<=rctx s.since (y*w+c) n/\rctx s.since (y*w+c) n<12:=by unfold rctx;split<;>omega
  have h1:=rbS_ok (fail:=s.fail) a2 hc.1 (by omega)
  have hv:=rbB_01 s.d s.fail (rctx s.since (y*w+c) n)
  refine⟨(a1.mono (by omega)).set ?_ ?_,h1.1,h1.2.1.trans a3⟩
  ·rcases hv with hv | hv<;>rw[hv]<;>omega
  ·rcases hv with hv | hv<;>rw[hv]<;>omega
 ·have h1:=rbS_ok (fail:=s.fail) (ctx:=8+nbP s.since w bd c y) a2 (by omega) (by omega)
  split
  ·split
   ·have h2:=rbS_ok (fail:=rbE s.d s.fail (8+nbP s.since w bd c y)) (ctx:=11) h1.1 (by omega) (by rw[h1.2.1];omega)
    exact⟨(a1.mono (by omega)).set (by omega) (by omega),h2.1,h2.2.1.trans (h1.2.1.trans a3)⟩
   ·exact⟨a1.mono (by omega),h1.1,h1.2.1.trans a3⟩
  ·exact⟨a1.mono (by omega),a2,a3⟩
def rRow (w n t:Int) (bd:Bd) (on:Bool) (y x:Int) (s:RwS):Nat->RwS
 | 0=>s
 | m+1=>rnum w n t bd on (x+m) y (rRow w n t bd on y x s m)
def rRect (w n t:Int) (bd:Bd) (on:Bool) (b:Rb) (s:RwS):Nat->RwS
 | 0=>s
 | m+1=>rRow w n t bd on (b.y+m) b.x (rRect w n t bd on b s m) b.w.toNat
theorem rRow_same (w n t:Int) (bd:Bd) (on:Bool) (y x:Int) (s:RwS):∀ m,rwSame (rRow w n t bd on y x s m) s
 | 0=>rwSame.refl s
 | m+1=>rwSame.trans (rnum_len _ _ _ _ _ _ _ _) (rRow_same w n t bd on y x s m)
theorem rRect_same (w n t:Int) (bd:Bd) (on:Bool) (b:Rb) (s:RwS):∀ m,rwSame (rRect w n t bd on b s m) s
 | 0=>rwSame.refl s
 | m+1=>rwSame.trans (rRow_same _ _ _ _ _ _ _ _ _) (rRect_same w n t bd on b s m)
theorem rRow_ok {w h n t:Int} {bd:Bd} {on:Bool} {y x B:Int} {s:RwS} (H:rwOk B s) (hB:0<=B) (hl:(s.known.length:Int)=w*h) (w2:w<=200) (w4:h<=200) (t0:0<=t) (t1:t<=24) (y0:0<=y) (y1:y<h) (x0:0<=x) :
  ∀ m:Nat,x+m<=w->rwOk (B+16777216*m) (rRow w n t bd on y x s m)
 | 0,_=>H.mono (by omega)
 | m+1,hm=>by
  have ih:=rRow_ok (n:=n) (bd:=bd) (on:=on) H hB hl w2 w4 t0 t1 y0 y1 x0 m (by omega)
  have:=rRow_same w n t bd on y x s m
  exact(rnum_ok ih (by omega) (by rw[this.1];exact hl) w2 w4 t0 t1 (by omega) (by omega) y0 y1).mono (by omega)
theorem rRect_ok {w h n t:Int} {bd:Bd} {on:Bool} {b:Rb} {B:Int} {s:RwS} (H:rwOk B s) (hB:0<=B) (hl:(s.known.length:Int)=w*h) (w2:w<=200) (w4:h<=200) (t0:0<=t) (t1:t<=24) (hb:b.inp w h) :
  ∀ m:Nat,(m:Int)<=b.h->rwOk (B+67108864*m) (rRect w n t bd on b s m)
 | 0,_=>H.mono (by omega)
 | m+1,hm=>by
  have ih:=rRect_ok (n:=n) (bd:=bd) (on:=on) H hB hl w2 w4 t0 t1 hb m (by omega)
  have:=rRect_same w n t bd on b s m
  obtain⟨b1,b2,b3,b4,b5,b6,b7,b8⟩:=hb
  exact(rRow_ok (n:=n) (bd:=bd) (on:=on) (y:=b.y+m) (x:=b.x) ih (by omega) (by rw[this.1];exact hl) w2 w4 t0 t1 (by omega) (by omega) b1 b.w.toNat (by omega)).mono (by omega)
structure RsS where
 s:RwS
 on:List Bool
def aboveP (on:List Bool) (par:Int):Int:=if 0<=par then 1+(if rdB on par then 1 else 0)else 0
def rctxB (since:List Int) (on:List Bool) (w:Int) (b:Rb):Int:=2*aboveP on b.par+(if 0<cntP since w b then 1 else 0)
theorem rctxB_bd (since:List Int) (on:List Bool) (w:Int) (b:Rb):0<=rctxB since on w b/\rctxB since on w b<6:=by
 unfold rctxB aboveP
 split<;>split<;>(try split)<;>omega
def rask (w:Int) (b:Rb) (x:RsS) (k:Nat):RsS:=
 if cntP x.s.since w b<b.w*b.h then
  ⟨⟨x.s.known,x.s.minus,x.s.since,rbS x.s.d x.s.fail (rctxB x.s.since x.on w b),rbE x.s.d x.s.fail (rctxB x.s.since x.on w b)⟩,x.on.set k (decide (rbB x.s.d x.s.fail (rctxB x.s.since x.on w b)=1))⟩
 else x
def rbk (w n t:Int) (bands:List Bd) (b:Rb) (x:RsS) (k:Nat):RsS:=
 ⟨rRect w n t (rdBd bands b.band) (rdB (rask w b x k).on k) b (rask w b x k).s b.h.toNat,(rask w b x k).on⟩
def rSl (w n t:Int) (bands:List Bd) (bks:List Rb) (s:RwS):Nat->RsS
 | 0=>⟨s,List.replicate bks.length false⟩
 | k+1=>rbk w n t bands (rdRb bks k) (rSl w n t bands bks s k) k
theorem rask_same (w:Int) (b:Rb) (x:RsS) (k:Nat):rwSame (rask w b x k).s x.s/\(rask w b x k).on.length=x.on.length:=by
 unfold rask
 split
 ·exact⟨⟨rfl,rfl,rfl,rbS_len _ _ _⟩,List.length_set⟩
 ·exact⟨rwSame.refl _,rfl⟩
theorem rask_ok {w:Int} {b:Rb} {x:RsS} {k:Nat} {B:Int} (H:rwOk B x.s):rwOk B (rask w b x k).s:=by
 obtain⟨a1,a2,a3⟩:=H
 have hc:=rctxB_bd x.s.since x.on w b
 unfold rask
 split
 ·have h1:=rbS_ok (fail:=x.s.fail) a2 hc.1 (by omega)
  exact⟨a1,h1.1,h1.2.1.trans a3⟩
 ·exact⟨a1,a2,a3⟩
theorem rSl_same (w n t:Int) (bands:List Bd) (bks:List Rb) (s:RwS):∀ k,rwSame (rSl w n t bands bks s k).s s/\(rSl w n t bands bks s k).on.length=bks.length
 | 0=>⟨rwSame.refl s,List.length_replicate⟩
 | k+1=>by
  have ih:=rSl_same w n t bands bks s k
  have h:=rask_same w (rdRb bks k) (rSl w n t bands bks s k) k
  exact⟨(rRect_same _ _ _ _ _ _ _ _).trans (h.1.trans ih.1),h.2.trans ih.2⟩
theorem rSl_ok {w h n t:Int} {bands:List Bd} {bks:List Rb} {B:Int} {s:RwS} (H:rwOk B s) (hB:0<=B) (hl:(s.known.length:Int)=w*h) (w2:w<=200) (w4:h<=200) (t0:0<=t) (t1:t<=24) (hb:∀ b∈bks,b.inp w h) :
  ∀ k:Nat,k<=bks.length->rwOk (B+268435456*k) (rSl w n t bands bks s k).s
 | 0,_=>H.mono (by omega)
 | k+1,hk=>by
  have ih:=rSl_ok (n:=n) (bands:=bands) H hB hl w2 w4 t0 t1 hb k (by omega)
  have hs:=rSl_same w n t bands bks s k
  have hr:=rask_same w (rdRb bks k) (rSl w n t bands bks s k) k
  have hbk:(rdRb bks k).inp w h:=hb _ (by rw[rdRb_nat (by omega)];exact List.getElem_mem _)
  have h1:=rask_ok (w:=w) (b:=rdRb bks k) (k:=k) ih
  have hbh:=hbk.2.2.2.2
  exact(rRect_ok (n:=n) (bd:=rdBd bands (rdRb bks k).band) (on:=rdB (rask w (rdRb bks k) (rSl w n t bands bks s k) k).on k) h1 (by omega) (by rw[hr.1.1,hs.1.1];exact hl) w2 w4 t0 t1 hbk (rdRb bks k).h.toNat (by omega)).mono (by omega)
def b102_2:IR:=
 .seq (.seq (r_ [m_ 25 10,f_ 26 6 3,l_ 27 26,f_ 28 6 5,l_ 29 28,b_ 30 .add 27 29,b_ 31 .lss 25 30] [25,26,27,28,29,30]) (.cond (.t 31) (.skip) (.exit 2))) (.seq (.block 3 (.seq (r_ [m_ 34 9,m_ 35 0,n_ 36 35,f_ 37 36 0,l_ 38 37,b_ 39 .mul 34 38,m_ 40 10,b_ 41 .add 39 40,m_ 11 41] [31,34,35,36,37,38,39,40,41]) (.seq (r_ [m_ 42 0,n_ 43 42,f_ 44 43 6,l_ 45 44,m_ 46 11,i_ 47 45 46 1,L_ 48 47,c_ 49 .lss 48 0,m_ 50 49,p_ 50 (m_ 51 1),p_ 50 (m_ 52 11),p_ 50 (i_ 53 51 52 1),p_ 50 (L_ 54 53),p_ 50 (o_ 55 (.callp 127 [.t 54])),p_ 50 (m_ 56 3),p_ 50 (b_ 57 .shr 55 56),p_ 50 (c_ 58 .rem 57 2),p_ 50 (c_ 59 .eql 58 1),K_ 60 50 59] [11,42,43,44,45,46,47,48,49,50,51,52,53,54,55,56,57,58,59]) (.cond (.t 60) (.seq (r_ [o_ 8 (.mov (.k (.bool true)))] [0,1,3,6,9,10,60]) (.ret)) (.skip))))) (r_ [m_ 32 10,a_ 33 32 1,m_ 10 33] [8,32,33,60]))
def r102_3:IR:=
 r_ [m_ 21 9,a_ 22 21 1,m_ 9 22] [10,21,22]
def b102_1:IR:=
 .seq (.seq (r_ [m_ 14 9,f_ 15 6 4,l_ 16 15,f_ 17 6 6,l_ 18 17,b_ 19 .add 16 18,b_ 20 .lss 14 19] [14,15,16,17,18,19]) (.cond (.t 20) (.skip) (.exit 0))) (.seq (.block 1 (.seq (r_ [f_ 23 6 3,l_ 24 23,m_ 10 24] [20,23,24]) (.block 2 (.loop b102_2)))) (r102_3))
def r102_4:IR:=
 .seq (r_ [o_ 8 (.mov (.k (.bool false)))] [0,1,3,6,9]) (.ret)
def ir102:IR:=
 .seq (r_ [o_ 6 (.box 10 (.t 2)),o_ 8 (.mov (.k (.bool false)))] [2,8]) (.seq (.seq (r_ [f_ 12 6 4,l_ 13 12,m_ 9 13] [12,13]) (.block 0 (.loop b102_1))) (r102_4))
def kp102_2:List Nat:=[0,1,3,6,9,10]
def kl102_2:List Nat:=[]
attribute [push_cast] kp102_2 kl102_2
def kp102_1:List Nat:=[0,1,3,6,9]
def kl102_1:List Nat:=[]
attribute [push_cast] kp102_1 kl102_1
set_option maxRecDepth 4000 in
theorem comp102:(Try.f102.body.bind fun c=>compC tab isP chkAll ir102 c)=some ir102:=by kernel_rfl
def hitB (since f:List Int) (t i:Int):Bool:=decide (rd since i<0/\max (rd f i) (-rd f i) / 2^t.toNat % 2=1)
def becP (since f:List Int) (w t:Int) (b:Rb):Bool:=(List.range b.h.toNat).any fun n=>(List.range b.w.toNat).any fun m=>hitB since f t ((b.y+(n:Nat))*w+(b.x+(m:Nat)))
theorem becP_yes {since f:List Int} {w t:Int} {b:Rb} {n m:Nat} (hn:n<b.h.toNat) (hm:m<b.w.toNat) (h:hitB since f t ((b.y+n)*w+(b.x+m))=true):becP since f w t b=true:=
 List.any_eq_true.2 ⟨n,List.mem_range.2 hn,List.any_eq_true.2 ⟨m,List.mem_range.2 hm,h⟩⟩
theorem becP_no {since f:List Int} {w t:Int} {b:Rb} (h:∀ n m:Nat,n<b.h.toNat->m<b.w.toNat->hitB since f t ((b.y+n)*w+(b.x+m))=false):becP since f w t b=false:=by
 cases e:becP since f w t b with
 | false=>rfl
 | true=>
  obtain⟨n,hn,h1⟩:=List.any_eq_true.1 e
  obtain⟨m,hm,h2⟩:=List.any_eq_true.1 h1
  rw[h n m (List.mem_range.1 hn) (List.mem_range.1 hm)]at h2
  cases h2
structure BsA where
 p:WkL
 s:WkS
 F:Xf.Loc
 f:List Int
 b:Rb
 t:Int
def rowFi (look:Look) (e:Nat):Option (Xf.Loc×List Int):=
 bif e==4096 then some (nilLoc,[])else match rowI (look e)with
  | some (L,.i64,xs)=>some (L,xs)
  | _=>none
def invBs:List SV->Look->Option (BsA×List Nat)
 | [.ptr c _ 0 0 0,.sl e _ 1 0 _,.agg [.int .i64 k,.int .i64 i,.int .i64 j,.int .i64 x,.int .i64 y,.int .i64 w,.int .i64 h,.int .i64 par],.int .i64 t],look=>match invWk look c,rowFi look e with
  | some (p,s,g),some (F,f)=>some (⟨p,s,F,f,⟨k,i,j,x,y,w,h,par⟩,t⟩,g++[e])
  | _,_=>none
 | _,_=>none
attribute [push_cast] rowFi invBs
def fs102:FS where
 A:=BsA
 args:=fun a=>[.ptr 0 a.p.L 0 0 0,.sl 7 a.F 1 0 a.f.length,a.b.sv,.int .i64 a.t]
 mem:=fun a=>[some (.ro,a.p.L,.cells (wkV a.p a.s)),none,none,none,none,some (.ro,a.p.I,.ints .i64 a.s.since),none,some (.ro,a.F,.ints .i64 a.f)]
 pre:=fun a=>wkWf a.s/\a.b.inp a.s.w a.s.h/\ofWf a.f a.f.length/\a.f.length=a.s.since.length/\0<=a.t/\a.t<=30
 res:=fun a _=>.bool (becP a.s.since a.f a.s.w a.t a.b)
 out:=fun _ _=>[]
 new:=fun _ _=>[]
set_option maxHeartbeats 1000000 in
theorem ok102:FSOk Try.prog 102 fs102:=by
 refine⟨⟨_,Try.func102,by kernel_rfl,by kernel_rfl⟩,fun a=>⟨by simp[fs102,push_cast,noMine,argOwn,Chunk.frArg],by simp[fs102,push_cast,outOk,Chunk.ext],fun x=>.inl (by simp[fs102,push_cast,frNew,frOut,Chunk.fr])⟩,fun a hp=>?_⟩
 obtain⟨p,s,F,f,⟨k,i,j,x,y,bw,bh,par⟩,t⟩:=a
 obtain⟨⟨w1,w2,w3,w4,w5,w6,w7⟩,⟨i1,i2,i3,i4,i5,i6,i7,i8⟩,hf,hfl,t0,t1⟩:wkWf s/\(0<=x/\0<=y/\0<=bw/\bw<=4/\0<=bh/\bh<=4/\x+bw<=s.w/\y+bh<=s.h)/\ofWf f f.length/\f.length=s.since.length/\0<=t/\t<=30:=hp
 change Tri Try.prog 102 [.ptr 0 p.L 0 0 0,.sl 7 F 1 0 f.length,.agg [.int .i64 k,.int .i64 i,.int .i64 j,.int .i64 x,.int .i64 y,.int .i64 bw,.int .i64 bh,.int .i64 par],.int .i64 t] [some (.ro,p.L,.cells (wkV p s)),none,none,none,none,some (.ro,p.I,.ints .i64 s.since),none,some (.ro,F,.ints .i64 f)] (postF fs102 ⟨p,s,F,f,⟨k,i,j,x,y,bw,bh,par⟩,t⟩)
 obtain⟨BW,hBW⟩:∃ n:Nat,bw=n:=⟨bw.toNat,by omega⟩
 obtain⟨BH,hBH⟩:∃ n:Nat,bh=n:=⟨bh.toNat,by omega⟩
 subst hBW hBH
 have hyes:=fun n m=>becP_yes (since:=s.since) (f:=f) (w:=s.w) (t:=t) (b:=⟨k,i,j,x,y,BW,BH,par⟩) (n:=n) (m:=m)
 have hno:=becP_no (since:=s.since) (f:=f) (w:=s.w) (t:=t) (b:=⟨k,i,j,x,y,BW,BH,par⟩)
 simp only[Int.toNat_natCast]at hyes hno
 have hb64:=bits_i64
 refine tri_evS (hyp (l:=[]) (lp:=[(127,absF)]) trivial ⟨p127,trivial⟩) Try.func102 comp102 (rs:=[.tmp 8]) (by rfl) Try.ntmps102 11 ?_
 simp -implicitDefEqProofs only[push_cast,zz,seval,ir102,wkV]
 intro X
 obtain⟨M,hM⟩:∃ M,X 0 10=M:=⟨_,rfl⟩
 rw[hM]
 refine evS_loopU (A:=Nat) kp102_1 kl102_1 (fun n=>[(9,.int .i64 (y+n))]) (fun _=>[]) (fun n=>n<=BH/\∀ n' m:Nat,n'<n->m<BW->hitB s.since f t ((y+n')*s.w+(x+m))=false) (fun n=>BH-n) 0 ⟨Nat.zero_le _,fun n' m h=>by omega⟩ (Sub.pt ?_) ?_
 ·simp -implicitDefEqProofs only[push_cast,zz,seval]
 intro n ⟨(hn:n<=BH),(hall:∀ n' m:Nat,n'<n->m<BW->hitB s.since f t ((y+n')*s.w+(x+m))=false)⟩ K hK
 by_cases hn':n<BH
 ·have hc:y+(n:Int)<y+BH:=by omega
  simp -implicitDefEqProofs only[push_cast,zz,seval,b102_1,hc]
  repeat refine om_ ?_
  refine evS_loopU (A:=Nat) kp102_2 kl102_2 (fun m=>[(10,.int .i64 (x+m))]) (fun _=>[]) (fun m=>m<=BW/\∀ m':Nat,m'<m->hitB s.since f t ((y+n)*s.w+(x+m'))=false) (fun m=>BW-m) 0 ⟨Nat.zero_le _,fun m' h=>by omega⟩ (Sub.pt ?_) ?_
  ·simp -implicitDefEqProofs only[push_cast,zz,seval]
  intro m ⟨(hm:m<=BW),(hall2:∀ m':Nat,m'<m->hitB s.since f t ((y+n)*s.w+(x+m'))=false)⟩ K2 hK2
  by_cases hm':m<BW
  ·have hc2:x+(m:Int)<x+BW:=by omega
   have hpl:=place_bd (w:=s.w) (h:=s.h) (c:=x+m) (y:=y+n) (by omega) (by omega) (by omega) (by omega) w2 w4
   have hv:=hf.at (i:=(y+n)*s.w+(x+m)) (by omega) (by omega)
   have hy:=hyes n m hn' hm'
   have hh:hitB s.since f t ((y+n)*s.w+(x+m))=decide (rd s.since ((y+n)*s.w+(x+m))<0/\max (rd f ((y+n)*s.w+(x+m))) (-rd f ((y+n)*s.w+(x+m))) / 2^t.toNat % 2=1):=rfl
   have hdb:=dig_bd hv.1 hv.2 t.toNat
   have hnx:hitB s.since f t ((y+n)*s.w+(x+m))=false->∀ m':Nat,m'<m+1->hitB s.since f t ((y+n)*s.w+(x+m'))=false:=fun h m' hlt=>by
    by_cases e:m'=m
    ·rw[e];exact h
    ·exact hall2 m' (by omega)
   obtain⟨q,hq⟩:∃ q,(y+(n:Int))*s.w=q:=⟨_,rfl⟩
   rw[hq]at hpl hv hy hh hdb hnx
   clear hK
   by_cases h0:rd s.since (q+(x+m))<0
   ·by_cases h1:max (rd f (q+(x+m))) (-rd f (q+(x+m))) / 2^t.toNat % 2=1
    ·have hy:=hy (by rw[hh];exact decide_eq_true ⟨h0,h1⟩)
     clear hK2
     simp -implicitDefEqProofs only[push_cast,zz,seval,b102_2,hc2,hq,h0,h1]
     repeat refine om_ ?_
     refine postF.mk' (fun _=>default) [some 0,none,none,none,none,some 5,none,some 7] ?_
     simp -implicitDefEqProofs only[push_cast,zz,seval,fs102,wkV,hy]
    ·have hz:=hnx (by rw[hh];exact decide_eq_false (fun h=>h1 h.2))
     simp -implicitDefEqProofs only[push_cast,zz,seval,b102_2,hc2,hq,h0,h1]
     repeat refine om_ ?_
     refine hK2 (m+1) ⟨show m+1<=BW by omega,by rw[hq];exact hz⟩ (show BW-(m+1)<BW-m by omega) _ _ (Sub.pt ?_)
     simp -implicitDefEqProofs only[push_cast,zz,seval,Int.add_assoc]
   ·have hz:=hnx (by rw[hh];exact decide_eq_false (fun h=>h0 h.1))
    simp -implicitDefEqProofs only[push_cast,zz,seval,b102_2,hc2,hq,h0]
    repeat refine om_ ?_
    refine hK2 (m+1) ⟨show m+1<=BW by omega,by rw[hq];exact hz⟩ (show BW-(m+1)<BW-m by omega) _ _ (Sub.pt ?_)
    simp -implicitDefEqProofs only[push_cast,zz,seval,Int.add_assoc]
  ·have hmm:m=BW:=by omega
   have hci:¬ x+(m:Int)<x+BW:=by omega
   clear hK2
   simp -implicitDefEqProofs only[push_cast,zz,seval,b102_2,r102_3,hci]
   repeat refine om_ ?_
   refine hK (n+1) ⟨show n+1<=BH by omega,fun n' m' h1 h2=>?_⟩ (show BH-(n+1)<BH-n by omega) _ _ (Sub.pt ?_)
   ·by_cases e:n'=n
    ·rw[e];exact hall2 m' (by omega)
    ·exact hall n' m' (by omega) h2
   ·simp -implicitDefEqProofs only[push_cast,zz,seval,Int.add_assoc]
 ·have hnn:n=BH:=by omega
  have hci:¬ y+(n:Int)<y+BH:=by omega
  have hz:=hno (fun n' m' h1 h2=>hall n' m' (by omega) h2)
  clear hK
  simp -implicitDefEqProofs only[push_cast,zz,seval,b102_1,r102_4,hci]
  repeat refine om_ ?_
  refine postF.mk' (fun _=>default) [some 0,none,none,none,none,some 5,none,some 7] ?_
  simp -implicitDefEqProofs only[push_cast,zz,seval,fs102,wkV,hz]
def ent102:Entry:=spOf fs102 invBs
theorem e102:EntryOk Try.prog 102 ent102:=entry_of ok102 invBs
@[push_cast] theorem ent102_app (us:List SV) (look:Look) (x:Nat->Xf.Loc) (k:Nat):ent102 us look x k=spOf fs102 invBs us look x k:=rfl
def b60_3:IR:=
 .seq (.seq (r_ [m_ 96 15,f_ 97 11 3,l_ 98 97,f_ 99 11 5,l_ 100 99,b_ 101 .add 98 100,b_ 102 .lss 96 101] [96,97,98,99,100,101]) (.cond (.t 102) (.skip) (.exit 4))) (.seq (.block 5 (R_ [m_ 105 0,m_ 106 1,m_ 107 2,m_ 108 3,m_ 109 4,m_ 110 0,n_ 111 110,f_ 112 111 2,l_ 113 112,f_ 114 11 0,l_ 115 114,i_ 116 113 115 6,o_ 117 (.ld true (some 6) 0 0 (.t 116)),m_ 118 0,n_ 119 118,f_ 120 119 7,l_ 121 120,m_ 122 10,i_ 123 121 122 1,L_ 124 123,m_ 125 15,m_ 126 14,o_ 127 (.call none 34 103 [.t 105,.t 106,.t 107,.t 108,.t 109,.t 117,.t 124,.t 125,.t 126])] [102,105,106,107,108,109,110,111,112,113,114,115,116,117,118,119,120,121,122,123,124,125,126,127])) (r_ [m_ 103 15,a_ 104 103 1,m_ 15 104] [103,104]))
def r60_4:IR:=
 r_ [m_ 92 14,a_ 93 92 1,m_ 14 93] [15,92,93]
def b60_2:IR:=
 .seq (.seq (r_ [m_ 85 14,f_ 86 11 4,l_ 87 86,f_ 88 11 6,l_ 89 88,b_ 90 .add 87 89,b_ 91 .lss 85 90] [85,86,87,88,89,90]) (.cond (.t 91) (.skip) (.exit 2))) (.seq (.block 3 (.seq (r_ [f_ 94 11 3,l_ 95 94,m_ 15 95] [91,94,95]) (.block 4 (.loop b60_3)))) (r60_4))
def r60_5:IR:=
 r_ [a_ 128 30 1,m_ 30 128] [10,11,14,128]
def b60_1:IR:=
 .seq (r_ [b_ 31 .lss 30 29] []) (.seq (.cond (.t 31) (.skip) (.exit 0)) (.seq (.block 1 (.seq (r_ [m_ 32 30,i_ 33 28 30 8,o_ 34 (.ld true (some 8) 0 0 (.t 33)),o_ 11 (.alloc 21 [y_,y_,y_,y_,y_,y_,y_,y_]),m_ 10 32,s_ 8 .i64 11 34] [31,32,33,34]) (.seq (r_ [m_ 35 0,o_ 36 (.ld false (some 8) 0 0 (.t 11)),o_ 37 (.call (some 4) 22 99 [.t 35,.t 36]),m_ 12 37] [35,36,37]) (.seq (.seq (r_ [m_ 38 12,f_ 39 11 5,l_ 40 39,f_ 41 11 6,l_ 42 41,b_ 43 .mul 40 42,b_ 44 .lss 38 43] [38,39,40,41,42,43]) (.cond (.t 44) (.seq (r_ [z_ 13 0] [44]) (.seq (.seq (r_ [f_ 45 11 7,l_ 46 45,c_ 47 .geq 46 0] [45,46]) (.cond (.t 47) (R_ [m_ 48 0,n_ 49 48,f_ 50 49 7,l_ 51 50,f_ 52 11 7,l_ 53 52,i_ 54 51 53 1,L_ 55 54,o_ 56 (.callp 100 [.t 55]),o_ 57 (.bin 0 .add (Z_ 1) (.t 56)),m_ 13 57] [47,48,49,50,51,52,53,54,55,56,57]) (.skip))) (.regT (.split 3 22 (.leaf [0,1,2,3,4,5,6,7,8,9,10,11,12,13,14,15,16,17,18,19,20,21,22,23,24,25]) (.leaf [0,1,2,4,5,6,7,8,9,10,11,12,13,14,15,16,17,18,19,20,21,22,3,23,24,25])) [m_ 58 0,n_ 59 58,f_ 60 59 7,⟨some 61,none,⟨[26,27,28,29,30,31,32,33],[]⟩,.ld false none 0 0 (.t 60)⟩,m_ 62 10,m_ 63 1,m_ 64 13,o_ 65 (.bin 0 .mul (Z_ 2) (.t 64)),m_ 66 12,c_ 67 .gtr 66 0,o_ 68 (.callp 100 [.t 67]),b_ 69 .add 65 68,m_ 70 4,o_ 71 (.binS .neq (.t 70) (.k nilSV)),m_ 72 71,p_ 72 (m_ 73 0),p_ 72 (m_ 74 4),p_ 72 (o_ 75 (.ld false (some 8) 0 0 (.t 11))),p_ 72 (m_ 76 3),p_ 72 (o_ 77 (.call (some 4) 26 102 [.t 73,.t 74,.t 75,.t 76])),K_ 78 72 77,o_ 79 (.callp 100 [.t 78]),o_ 80 (.call none 30 101 [.t 63,.t 69,.t 79]),c_ 81 .eql 80 1,i_ 82 61 62 1,S_ 1 .i64 82 81] [12,13,47,58,59,60,61,62,63,64,65,66,67,68,69,70,71,72,73,74,75,76,77,78,79,80,81,82] []))) (.skip))) (.seq (r_ [f_ 83 11 4,l_ 84 83,m_ 14 84] [12,44,83,84]) (.block 2 (.loop b60_2))))))) (r60_5)))
def ir60:IR:=
 .seq (r_ [m_ 16 0,m_ 17 0,n_ 18 17,f_ 19 18 3,l_ 20 19,h_ 21 20,o_ 22 (.mks 20 (.bool false) 1 (.t 21) (.t 21)),n_ 23 16,f_ 24 23 7,s_ 1 .i64 24 22] [16,17,18,19,20,21,22,23,24]) (.seq (r_ [m_ 25 0,n_ 26 25,f_ 27 26 3,l_ 28 27,h_ 29 28,z_ 30 0] [25,26,27]) (.block 0 (.loop b60_1)))
def kp60_3:List Nat:=[0,1,2,3,4,10,11,14,15,28,29,30]
def kl60_3:List Nat:=[34,35,36,37]
attribute [push_cast] kp60_3 kl60_3
def kp60_2:List Nat:=[0,1,2,3,4,10,11,14,28,29,30]
def kl60_2:List Nat:=[34,35,36,37]
attribute [push_cast] kp60_2 kl60_2
def kp60_1:List Nat:=[0,1,2,3,4,28,29,30]
def kl60_1:List Nat:=[21,22,23,24,25,26,27,28,29,30,31,32,33,34,35,36,37]
attribute [push_cast] kp60_1 kl60_1
set_option maxRecDepth 4000 in
theorem comp60:(Try.f60.body.bind fun c=>compC tab isP chkAll ir60 c)=some ir60:=by kernel_rfl
structure SrA where
 p:WkL
 s:WkS
 LZ:Xf.Loc
 L:Xf.Loc
 LS:Xf.Loc
 LC:Xf.Loc
 d:DeS
 fail:Int
 n:Int
 t:Int
def srS (a:SrA):RwS:=⟨a.s.known,a.s.minus,a.s.since,a.d,a.fail⟩
def srR (a:SrA):RsS:=rSl a.s.w a.n a.t a.s.bands a.s.bks (srS a) a.s.bks.length
def wkW (p:WkL) (s:WkS) (o:Nat) (LO:Xf.Loc) (ol:Int):List SV:=[.int .i64 s.w,.int .i64 s.h,.sl 1 p.B (esz 6 s.bands.length) 0 s.bands.length,.sl 2 p.K (esz 8 s.bks.length) 0 s.bks.length,.sl 3 p.N 1 0 s.known.length,.sl 4 p.M 1 0 s.minus.length,.sl 5 p.I 1 0 s.since.length,.sl o LO 1 0 ol]
def srM (a:SrA):Mem:=[some (.lent,a.p.L,.cells (wkV a.p a.s)),some (.ro,a.p.B,.recs 6 false [] (a.s.bands.map Bd.rc)),some (.ro,a.p.K,.recs 8 false [] (a.s.bks.map Rb.rc)),some (.lent,a.p.N,.ints .i64 a.s.known),some (.lent,a.p.M,.bools a.s.minus),some (.lent,a.p.I,.ints .i64 a.s.since),none,
 some (.lent,a.LZ,.cells (relabs (fun i=>i+7) (zdV a.L a.fail))),some (.lent,a.L,.cells (relabs (fun i=>i+8) (rdV a.LS a.d a.LC))),some (.lent,a.LS,.ints .i64 a.d.st),some (.ro,a.LC,.ints .u8 a.d.code)]
def invSr:List SV->Look->Option (SrA×List Nat)
 | [.ptr c _ 0 0 0,.ptr z _ 0 0 0,.int .i64 n,.int .i64 t,_],look=>match invWk look c,invBi [.ptr z nilLoc 0 0 0,.int .i64 0,.int .i64 0] look with
  | some (p,s,g),some (⟨LZ,L,LS,LC,d,fail,_,_⟩,h')=>some (⟨p,s,LZ,L,LS,LC,d,fail,n,t⟩,g++h')
  | _,_=>none
 | _,_=>none
attribute [push_cast] invSr
def bksOk (s:WkS):Prop:=s.bks.length<=50000/\(∀ b∈s.bks,b.inp s.w s.h/\0<=b.band/\b.band<s.bands.length/\b.par<s.bks.length)/\∀ b∈s.bands,0<=b.x/\0<=b.y
def fs60:FS where
 A:=SrA
 args:=fun a=>[.ptr 0 a.p.L 0 0 0,.ptr 7 a.LZ 0 0 0,.int .i64 a.n,.int .i64 a.t,nilSV]
 mem:=srM
 pre:=fun a=>wkWf a.s/\bksOk a.s/\knB a.s.known 900000000000000/\a.d.ok/\a.d.st.length=12/\0<=a.n/\a.n<=30/\0<=a.t/\a.t<=24
 res:=fun a _=>.tup []
 out:=fun a x=>[some (some (.cells (wkW a.p a.s 11 (x 0) a.s.bks.length))),none,none,some (some (.ints .i64 (srR a).s.known)),some (some (.bools (srR a).s.minus)),some (some (.ints .i64 (srR a).s.since)),none,some (some (.cells (relabs (fun i=>i+7) (zdV a.L (srR a).s.fail)))),some (some (.cells (relabs (fun i=>i+8) (rdV a.LS (srR a).s.d a.LC)))),some (some (.ints .i64 (srR a).s.d.st))]
 new:=fun a x=>[(x 0,.bools (srR a).on)]
theorem srR_len (a:SrA):(srR a).s.known.length=a.s.known.length/\(srR a).s.minus.length=a.s.minus.length/\(srR a).s.since.length=a.s.since.length/\(srR a).s.d.st.length=a.d.st.length/\(srR a).s.d.code=a.d.code/\(srR a).s.d.kind=a.d.kind:=(rSl_same _ _ _ _ _ _ _).1
set_option maxRecDepth 8000 in
set_option maxHeartbeats 4000000 in
theorem ok60:FSOk Try.prog 60 fs60:=by
 refine⟨⟨_,Try.func60,by kernel_rfl,by kernel_rfl⟩,fun a=>⟨by simp[fs60,srM,srR_len,zdV,rdV,wkV,wkW,push_cast,noMine,argOwn,Chunk.frArg],by simp[fs60,srM,srR_len,zdV,rdV,wkV,wkW,push_cast,outOk,Chunk.ext],fun x=>.inl (by simp[fs60,srM,srR_len,zdV,rdV,wkV,wkW,push_cast,frNew,frOut,Chunk.fr])⟩,fun a hp=>?_⟩
 obtain⟨p,s,LZ,L,LS,LC,d,fail,n,t⟩:=a
 obtain⟨hwf,hbk,hk,hd,h12,n0,n1,t0,t1⟩:wkWf s/\bksOk s/\knB s.known 900000000000000/\d.ok/\d.st.length=12/\0<=n/\n<=30/\0<=t/\t<=24:=hp
 obtain⟨w1,w2,w3,w4,w5,w6,w7⟩:=id hwf
 obtain⟨v1,v2,v3⟩:=id hbk
 change Tri Try.prog 60 [.ptr 0 p.L 0 0 0,.ptr 7 LZ 0 0 0,.int .i64 n,.int .i64 t,nilSV] (srM ⟨p,s,LZ,L,LS,LC,d,fail,n,t⟩) (postF fs60 ⟨p,s,LZ,L,LS,LC,d,fail,n,t⟩)
 have hfin:srR ⟨p,s,LZ,L,LS,LC,d,fail,n,t⟩=rSl s.w n t s.bands s.bks ⟨s.known,s.minus,s.since,d,fail⟩ s.bks.length:=rfl
 have hη:∀ z:DeS,(⟨z.kind,z.st,z.low,z.high,z.code,z.at_,z.value,z.beyond,z.ended⟩:DeS)=z:=fun z=>rfl
 have nl0:nilLoc0.nil=true:=rfl
 have hrd:∀ z:DeS,rdV LS z LC=[.int .i64 z.kind,.sl 1 LS 1 0 z.st.length,.int .u64 z.low,.int .u64 z.high,.sl 2 LC 1 0 z.code.length,.int .i64 z.at_,.int .u64 z.value,.int .i64 z.beyond,.bool z.ended]:=fun z=>rfl
 have hsame:=rSl_same s.w n t s.bands s.bks ⟨s.known,s.minus,s.since,d,fail⟩
 have hok:=rSl_ok (w:=s.w) (h:=s.h) (n:=n) (t:=t) (bands:=s.bands) (bks:=s.bks) (B:=900000000000000) (s:=⟨s.known,s.minus,s.since,d,fail⟩) ⟨hk,hd,h12⟩ (by decide) w5 w2 w4 t0 t1 (fun b hb=>(v2 b hb).1)
 have hKl:(s.bks.map Rb.rc).length=s.bks.length:=List.length_map _
 have hBl:(s.bands.map Bd.rc).length=s.bands.length:=List.length_map _
 refine tri_evS (hyp (l:=[(99,ent99),(102,ent102),(101,ent101),(103,ent103)]) (lp:=[(100,oneF)]) ⟨e99,e102,e101,e103,trivial⟩ ⟨p100,trivial⟩) Try.func60 comp60 (rs:=[]) (by rfl) Try.ntmps60 38 ?_
 simp -implicitDefEqProofs only[push_cast,zz,seval,ir60,srM,wkV,Int.toNat_natCast]
 intro X
 repeat refine om_ ?_
 obtain⟨M,hM⟩:∃ M,X 6 20=M:=⟨_,rfl⟩
 rw[hM]
 refine evS_loopU (A:=Nat) kp60_1 kl60_1 (fun k=>[(30,.int .i64 k)]) (fun k=>[(3,.lent,p.N,.ints .i64 (rSl s.w n t s.bands s.bks ⟨s.known,s.minus,s.since,d,fail⟩ k).s.known),(4,.lent,p.M,.bools (rSl s.w n t s.bands s.bks ⟨s.known,s.minus,s.since,d,fail⟩ k).s.minus),(5,.lent,p.I,.ints .i64 (rSl s.w n t s.bands s.bks ⟨s.known,s.minus,s.since,d,fail⟩ k).s.since),
   (7,.lent,LZ,.cells (relabs (fun i=>i+7) (zdV L (rSl s.w n t s.bands s.bks ⟨s.known,s.minus,s.since,d,fail⟩ k).s.fail))),(8,.lent,L,.cells (relabs (fun i=>i+8) (rdV LS (rSl s.w n t s.bands s.bks ⟨s.known,s.minus,s.since,d,fail⟩ k).s.d LC))),(9,.lent,LS,.ints .i64 (rSl s.w n t s.bands s.bks ⟨s.known,s.minus,s.since,d,fail⟩ k).s.d.st),(20,.mine,M,.bools (rSl s.w n t s.bands s.bks ⟨s.known,s.minus,s.since,d,fail⟩ k).on)])
  (fun k=>k<=s.bks.length) (fun k=>s.bks.length-k) 0 (Nat.zero_le _) (Sub.pt ?_) ?_
 ·have e0:rSl s.w n t s.bands s.bks ⟨s.known,s.minus,s.since,d,fail⟩ 0=⟨⟨s.known,s.minus,s.since,d,fail⟩,List.replicate s.bks.length false⟩:=rfl
  simp -implicitDefEqProofs only[push_cast,zz,seval,e0]
 intro k hk K hK
 have hk:k<=s.bks.length:=hk
 by_cases hk':k<s.bks.length
 ·have hki:(k:Int)<s.bks.length:=by omega
  have r1:recAt (k:Int) [] (s.bks.map Rb.rc)=(rdRb s.bks k).rc:=recAt_Rb hk' []
  have he8:esz 8 s.bks.length=8:=esz_pos (by omega)
  obtain⟨g1,g2⟩:=hsame k
  have g3:=hok k hk
  have hst:rSl s.w n t s.bands s.bks ⟨s.known,s.minus,s.since,d,fail⟩ (k+1)=rbk s.w n t s.bands (rdRb s.bks k) (rSl s.w n t s.bands s.bks ⟨s.known,s.minus,s.since,d,fail⟩ k) k:=rfl
  have hb:=v2 (rdRb s.bks k) (by rw[rdRb_nat hk'];exact List.getElem_mem _)
  obtain⟨⟨⟨kn,mn,sn,d1,f1⟩,on⟩,hR⟩:∃ r,rSl s.w n t s.bands s.bks ⟨s.known,s.minus,s.since,d,fail⟩ k=r:=⟨_,rfl⟩
  rw[hR]at g1 g2 g3 hst
  obtain⟨⟨bi,bI,bJ,x,y,bw,bh,par⟩,hbb⟩:∃ b,rdRb s.bks k=b:=⟨_,rfl⟩
  rw[hbb]at hst hb r1
  obtain⟨a1,a2,a3,a4,a5,a6⟩:=g1
  simp only at a1 a2 a3 a4 a5 a6 g2
  obtain⟨hinp,j1,j2,j3⟩:=hb
  simp only at j1 j2 j3
  have hwf1:wkWf ⟨s.w,s.h,s.bands,s.bks,kn,mn,sn,s.bks.length⟩:=⟨w1,w2,w3,w4,by simp only;rw[a1];exact w5,by simp only;rw[a2];exact w6,by simp only;rw[a3];exact w7⟩
  obtain⟨c,hc⟩:∃ c,cntP sn s.w ⟨bi,bI,bJ,x,y,bw,bh,par⟩=c:=⟨_,rfl⟩
  obtain⟨oc,hoc⟩:∃ v:Int,(if 0<c then 1 else 0)=v:=⟨_,rfl⟩
  have hoc1:0<=oc/\oc<=1:=by rw[<-hoc];split<;>omega
  obtain⟨q1,q2,q3,q4,q5,q6,q7,q8⟩:=id hinp
  simp only at q1 q2 q3 q4 q5 q6 q7 q8
  obtain⟨BW,hBW⟩:∃ n:Nat,bw=n:=⟨bw.toNat,by omega⟩
  obtain⟨BH,hBH⟩:∃ n:Nat,bh=n:=⟨bh.toNat,by omega⟩
  subst hBW hBH
  have hwh:=mul_bd q3 q4 q5 q6
  have hrs:=rask_same s.w ⟨bi,bI,bJ,x,y,BW,BH,par⟩ ⟨⟨kn,mn,sn,d1,f1⟩,on⟩ k
  have hro:=rask_ok (w:=s.w) (b:=⟨bi,bI,bJ,x,y,BW,BH,par⟩) (x:=⟨⟨kn,mn,sn,d1,f1⟩,on⟩) (k:=k) g3
  have hra:rask s.w ⟨bi,bI,bJ,x,y,BW,BH,par⟩ ⟨⟨kn,mn,sn,d1,f1⟩,on⟩ k=if c<BW*BH then ⟨⟨kn,mn,sn,rbS d1 f1 (rctxB sn on s.w ⟨bi,bI,bJ,x,y,BW,BH,par⟩),rbE d1 f1 (rctxB sn on s.w ⟨bi,bI,bJ,x,y,BW,BH,par⟩)⟩,on.set k (decide (rbB d1 f1 (rctxB sn on s.w ⟨bi,bI,bJ,x,y,BW,BH,par⟩)=1))⟩else ⟨⟨kn,mn,sn,d1,f1⟩,on⟩:=by unfold rask;rw[hc]
  unfold rbk at hst
  simp only at hst
  have hst':∀ s2 on2,rask s.w ⟨bi,bI,bJ,x,y,BW,BH,par⟩ ⟨⟨kn,mn,sn,d1,f1⟩,on⟩ k=⟨s2,on2⟩->rSl s.w n t s.bands s.bks ⟨s.known,s.minus,s.since,d,fail⟩ (k+1)=⟨rRect s.w n t (rdBd s.bands bi) (rdB on2 k) ⟨bi,bI,bJ,x,y,BW,BH,par⟩ s2 BH,on2⟩/\rwSame s2 ⟨kn,mn,sn,d1,f1⟩/\on2.length=on.length/\rwOk (900000000000000+268435456*k) s2:=fun s2 on2 e=>by
   rw[e]at hst hrs hro
   exact⟨by rw[hst,Int.toNat_natCast],hrs.1,hrs.2,hro⟩
  have hbn:=v3 (rdBd s.bands bi) (by have:=rdBd_nat (l:=s.bands) (i:=bi.toNat) (by omega);rw[Int.toNat_of_nonneg j1]at this;rw[this];exact List.getElem_mem _)
  have r2:recAt bi [] (s.bands.map Bd.rc)=(rdBd s.bands bi).rc:=recAt_Bd' j1 j2 []
  have he6:esz 6 s.bands.length=6:=esz_pos (by omega)
  have main:∀ (s2:RwS) (on2:List Bool) (M21:Xf.Loc),rask s.w ⟨bi,bI,bJ,x,y,BW,BH,par⟩ ⟨⟨kn,mn,sn,d1,f1⟩,on⟩ k=⟨s2,on2⟩->evS (spList [(99,ent99),(102,ent102),(101,ent101),(103,ent103)]) (spPList [(100,oneF)])
    (retK [] (postF fs60 ⟨p,s,LZ,L,LS,LC,d,fail,n,t⟩)) [Xf.Item.code (IR.loop b60_2),Xf.Item.blk 2,Xf.Item.blk 1,Xf.Item.code r60_5,Xf.Item.lp K,Xf.Item.blk 0]
    (upS (List.replicate 129 none) [(0,.ptr 0 p.L 0 0 0),(1,.ptr 7 LZ 0 0 0),(2,.int .i64 n),(3,.int .i64 t),(4,.sl 4096 nilLoc0 1 0 0),(10,.int .i64 k),(11,.ptr 21 M21 0 0 0),(14,.int .i64 y),(28,.sl 2 p.K 8 0 s.bks.length),(29,.int .i64 s.bks.length),(30,.int .i64 k)])
    ([some (.lent,p.L,.cells [.int .i64 s.w,.int .i64 s.h,.sl 1 p.B (esz 6 s.bands.length) 0 s.bands.length,.sl 2 p.K 8 0 s.bks.length,.sl 3 p.N 1 0 s.known.length,.sl 4 p.M 1 0 s.minus.length,.sl 5 p.I 1 0 s.since.length,.sl 20 M 1 0 s.bks.length]),some (.ro,p.B,.recs 6 false [] (s.bands.map Bd.rc)),some (.ro,p.K,.recs 8 false [] (s.bks.map Rb.rc)),
     some (.lent,p.N,.ints .i64 s2.known),some (.lent,p.M,.bools s2.minus),some (.lent,p.I,.ints .i64 s2.since),none,some (.lent,LZ,.cells (relabs (fun i=>i+7) (zdV L s2.fail))),some (.lent,L,.cells (relabs (fun i=>i+8) (rdV LS s2.d LC))),some (.lent,LS,.ints .i64 s2.d.st),some (.ro,LC,.ints .u8 d.code),none,none,none,none,none,none,none,none,none,some (.mine,M,.bools on2),
     some (.mine,M21,.cells [.int .i64 bi,.int .i64 bI,.int .i64 bJ,.int .i64 x,.int .i64 y,.int .i64 BW,.int .i64 BH,.int .i64 par])]++List.replicate 27 none):=by
   intro s2 on2 M21 he
   obtain⟨e1,e2,e3,e4⟩:=hst' s2 on2 he
   obtain⟨⟨lv,kd,bx,by',bbw,bbh⟩,hbd⟩:∃ b,rdBd s.bands bi=b:=⟨_,rfl⟩
   rw[hbd]at e1 hbn r2
   simp only at hbn
   obtain⟨onk,honk⟩:∃ b,rdB on2 k=b:=⟨_,rfl⟩
   rw[honk]at e1
   have hkn2:(s2.known.length:Int)=s.w*s.h:=by rw[e2.1,a1];exact w5
   have hRS:=fun r=>rwSame.trans (rRect_same s.w n t ⟨lv,kd,bx,by',bbw,bbh⟩ onk ⟨bi,bI,bJ,x,y,BW,BH,par⟩ s2 r) e2
   have hRO:=rRect_ok (n:=n) (bd:=⟨lv,kd,bx,by',bbw,bbh⟩) (on:=onk) (b:=⟨bi,bI,bJ,x,y,BW,BH,par⟩) e4 (by omega) hkn2 w2 w4 t0 t1 hinp
   simp only at hRO
   clear hst hst' hrs hro hra
   refine evS_loopU (A:=Nat) kp60_2 kl60_2 (fun r=>[(14,.int .i64 (y+r))]) (fun r=>[(3,.lent,p.N,.ints .i64 (rRect s.w n t ⟨lv,kd,bx,by',bbw,bbh⟩ onk ⟨bi,bI,bJ,x,y,BW,BH,par⟩ s2 r).known),(4,.lent,p.M,.bools (rRect s.w n t ⟨lv,kd,bx,by',bbw,bbh⟩ onk ⟨bi,bI,bJ,x,y,BW,BH,par⟩ s2 r).minus),(5,.lent,p.I,.ints .i64 (rRect s.w n t ⟨lv,kd,bx,by',bbw,bbh⟩ onk ⟨bi,bI,bJ,x,y,BW,BH,par⟩ s2 r).since),
     (7,.lent,LZ,.cells (relabs (fun i=>i+7) (zdV L (rRect s.w n t ⟨lv,kd,bx,by',bbw,bbh⟩ onk ⟨bi,bI,bJ,x,y,BW,BH,par⟩ s2 r).fail))),(8,.lent,L,.cells (relabs (fun i=>i+8) (rdV LS (rRect s.w n t ⟨lv,kd,bx,by',bbw,bbh⟩ onk ⟨bi,bI,bJ,x,y,BW,BH,par⟩ s2 r).d LC))),(9,.lent,LS,.ints .i64 (rRect s.w n t ⟨lv,kd,bx,by',bbw,bbh⟩ onk ⟨bi,bI,bJ,x,y,BW,BH,par⟩ s2 r).d.st)])
    (fun r=>r<=BH) (fun r=>BH-r) 0 (Nat.zero_le _) (Sub.pt ?_) ?_
   ·have e0:rRect s.w n t ⟨lv,kd,bx,by',bbw,bbh⟩ onk ⟨bi,bI,bJ,x,y,BW,BH,par⟩ s2 0=s2:=rfl
    simp -implicitDefEqProofs only[push_cast,zz,seval,e0]
   intro r hr K2 hK2
   have hr:r<=BH:=hr
   by_cases hr':r<BH
   ·have hci:y+(r:Int)<y+BH:=by omega
    have hRSr:=hRS r
    have hROr:=hRO r (by omega)
    have hnx:rRect s.w n t ⟨lv,kd,bx,by',bbw,bbh⟩ onk ⟨bi,bI,bJ,x,y,BW,BH,par⟩ s2 (r+1)=rRow s.w n t ⟨lv,kd,bx,by',bbw,bbh⟩ onk (y+r) x (rRect s.w n t ⟨lv,kd,bx,by',bbw,bbh⟩ onk ⟨bi,bI,bJ,x,y,BW,BH,par⟩ s2 r) BW:=by rw[rRect,Int.toNat_natCast]
    obtain⟨s3,hs3⟩:∃ z,rRect s.w n t ⟨lv,kd,bx,by',bbw,bbh⟩ onk ⟨bi,bI,bJ,x,y,BW,BH,par⟩ s2 r=z:=⟨_,rfl⟩
    rw[hs3]at hRSr hROr hnx
    have hkn3:(s3.known.length:Int)=s.w*s.h:=by rw[hRSr.1,a1];exact w5
    have hTS:=fun m=>rwSame.trans (rRow_same s.w n t ⟨lv,kd,bx,by',bbw,bbh⟩ onk (y+r) x s3 m) hRSr
    have hTO:=rRow_ok (n:=n) (bd:=⟨lv,kd,bx,by',bbw,bbh⟩) (on:=onk) (y:=y+r) (x:=x) hROr (by omega) hkn3 w2 w4 t0 t1 (by omega) (by omega) q1
    clear hK
    simp -implicitDefEqProofs only[push_cast,zz,seval,b60_2,hci,hs3]
    repeat refine om_ ?_
    refine evS_loopU (A:=Nat) kp60_3 kl60_3 (fun m=>[(15,.int .i64 (x+m))]) (fun m=>[(3,.lent,p.N,.ints .i64 (rRow s.w n t ⟨lv,kd,bx,by',bbw,bbh⟩ onk (y+r) x s3 m).known),(4,.lent,p.M,.bools (rRow s.w n t ⟨lv,kd,bx,by',bbw,bbh⟩ onk (y+r) x s3 m).minus),(5,.lent,p.I,.ints .i64 (rRow s.w n t ⟨lv,kd,bx,by',bbw,bbh⟩ onk (y+r) x s3 m).since),
      (7,.lent,LZ,.cells (relabs (fun i=>i+7) (zdV L (rRow s.w n t ⟨lv,kd,bx,by',bbw,bbh⟩ onk (y+r) x s3 m).fail))),(8,.lent,L,.cells (relabs (fun i=>i+8) (rdV LS (rRow s.w n t ⟨lv,kd,bx,by',bbw,bbh⟩ onk (y+r) x s3 m).d LC))),(9,.lent,LS,.ints .i64 (rRow s.w n t ⟨lv,kd,bx,by',bbw,bbh⟩ onk (y+r) x s3 m).d.st)])
     (fun m=>m<=BW) (fun m=>BW-m) 0 (Nat.zero_le _) (Sub.pt ?_) ?_
    ·have e0:rRow s.w n t ⟨lv,kd,bx,by',bbw,bbh⟩ onk (y+r) x s3 0=s3:=rfl
     simp -implicitDefEqProofs only[push_cast,zz,seval,e0]
    intro m hm K3 hK3
    have hm:m<=BW:=hm
    by_cases hm':m<BW
    ·have hci3:x+(m:Int)<x+BW:=by omega
     obtain⟨u1,u2,u3,u4,u5,u6⟩:=hTS m
     obtain⟨o1,o2,o3⟩:=hTO m (by omega)
     have hnm:rRow s.w n t ⟨lv,kd,bx,by',bbw,bbh⟩ onk (y+r) x s3 (m+1)=rnum s.w n t ⟨lv,kd,bx,by',bbw,bbh⟩ onk (x+m) (y+r) (rRow s.w n t ⟨lv,kd,bx,by',bbw,bbh⟩ onk (y+r) x s3 m):=rfl
     obtain⟨b1,b2,b3,b4,b5,b6⟩:=rwSame.trans (rnum_len s.w n t ⟨lv,kd,bx,by',bbw,bbh⟩ onk (x+m) (y+r) (rRow s.w n t ⟨lv,kd,bx,by',bbw,bbh⟩ onk (y+r) x s3 m)) (hTS m)
     rw[<-hnm]at b1 b2 b3 b4 b5 b6
     obtain⟨s5,hs5⟩:∃ z,rRow s.w n t ⟨lv,kd,bx,by',bbw,bbh⟩ onk (y+r) x s3 (m+1)=z:=⟨_,rfl⟩
     obtain⟨⟨kn4,mn4,sn4,d4,f4⟩,hs4⟩:∃ z,rRow s.w n t ⟨lv,kd,bx,by',bbw,bbh⟩ onk (y+r) x s3 m=z:=⟨_,rfl⟩
     rw[hs5]at b1 b2 b3 b4 b5 b6 hnm
     rw[hs4]at u1 u2 u3 u4 u5 u6 o1 o2 o3 hnm
     simp only at u1 u2 u3 u4 u5 u6 o1 o2 o3 b1 b2 b3 b4 b5 b6
     have u5':=u5.trans a5
     have b5':=b5.trans a5
     have hη4:(⟨d4.kind,d4.st,d4.low,d4.high,d.code,d4.at_,d4.value,d4.beyond,d4.ended⟩:DeS)=d4:=by rw[<-u5']
     have hwf4:wkWf ⟨s.w,s.h,s.bands,s.bks,kn4,mn4,sn4,s.bks.length⟩:=⟨w1,w2,w3,w4,by simp only;rw[u1,a1];exact w5,by simp only;rw[u2,a2];exact w6,by simp only;rw[u3,a3];exact w7⟩
     have hkM:knB kn4 knM:=o1.mono (by unfold knM;omega)
     have hnr:nrR ⟨⟨p.L,p.B,p.K,p.N,p.M,p.I,M⟩,⟨s.w,s.h,s.bands,s.bks,kn4,mn4,sn4,s.bks.length⟩,LZ,L,LS,LC,d4,f4,n,t,⟨lv,kd,bx,by',bbw,bbh⟩,onk,x+m,y+r⟩=s5:=hnm.symm
     clear hK2
     simp (maxSteps:=3000000) -implicitDefEqProofs only[push_cast,zz,seval,b60_3,hci3,hs4,r2,Bd.rc,he6,he8,hBl,honk,fs103,nrM,wkV,zdV,hrd,hη4,u5',hnr]
     repeat refine om_ ?_
     refine hK3 (m+1) (show m+1<=BW by omega) (show BW-(m+1)<BW-m by omega) _ _ (Sub.pt ?_)
     simp -implicitDefEqProofs only[push_cast,zz,seval,hs5,Int.add_assoc,zdV,hrd,b5',he6]
    ·obtain rfl:m=BW:=by omega
     have hci3:¬ x+(m:Int)<x+m:=by omega
     clear hK3
     simp -implicitDefEqProofs only[push_cast,zz,seval,b60_3,r60_4,hci3]
     repeat refine om_ ?_
     refine hK2 (r+1) (show r+1<=BH by omega) (show BH-(r+1)<BH-r by omega) _ _ (Sub.pt ?_)
     simp -implicitDefEqProofs only[push_cast,zz,seval,hnx,Int.add_assoc,he6]
   ·obtain rfl:r=BH:=by omega
    have hci:¬ y+(r:Int)<y+r:=by omega
    clear hK2
    simp -implicitDefEqProofs only[push_cast,zz,seval,b60_2,r60_5,hci]
    repeat refine om_ ?_
    refine hK (k+1) (show k+1<=s.bks.length by omega) (show s.bks.length-(k+1)<s.bks.length-k by omega) _ _ (Sub.pt ?_)
    simp -implicitDefEqProofs only[push_cast,zz,seval,e1,he8,he6]
  obtain⟨g31,g32,g33⟩:=g3
  simp only at g31 g32 g33
  have hη1:(⟨d1.kind,d1.st,d1.low,d1.high,d.code,d1.at_,d1.value,d1.beyond,d1.ended⟩:DeS)=d1:=by rw[<-a5]
  by_cases hask:c<(BW:Int)*BH
  ·have hctx:rctxB sn on s.w ⟨bi,bI,bJ,x,y,BW,BH,par⟩=2*aboveP on par+oc:=by unfold rctxB;rw[hc,hoc]
   rw[if_pos hask]at hra
   by_cases hpar:0<=par
   ·obtain⟨ob,hob⟩:∃ v:Int,(if rdB on par=true then 1 else 0)=v:=⟨_,rfl⟩
    have hob1:0<=ob/\ob<=1:=by rw[<-hob];split<;>omega
    have hab:aboveP on par=1+ob:=by unfold aboveP;rw[if_pos hpar,hob]
    rw[hab]at hctx
    rw[hctx]at hra
    simp (maxSteps:=3000000) -implicitDefEqProofs only[push_cast,zz,seval,b60_1,hki,r1,Rb.rc,he8,hKl,hR,hwf1,hinp,fs99,fs102,fs101,biM,zdV,hrd,hη1,a5,wkV,hc,hask,nl0,Bool.not_true,false_implies,hpar,hob,hoc]
    repeat refine om_ ?_
    intro X1
    repeat refine om_ ?_
    have h:=main _ _ (X1 3 21) hra
    simp only[hrd,zdV]at h
    refine and_keep h fun fin=>?_
    repeat refine om_ ?_
    exact fin
   ·have hab:aboveP on par=0:=by unfold aboveP;rw[if_neg hpar]
    rw[hab,Int.mul_zero,Int.zero_add]at hctx
    rw[hctx]at hra
    simp (maxSteps:=3000000) -implicitDefEqProofs only[push_cast,zz,seval,b60_1,hki,r1,Rb.rc,he8,hKl,hR,hwf1,hinp,fs99,fs102,fs101,biM,zdV,hrd,hη1,a5,wkV,hc,hask,nl0,Bool.not_true,false_implies,hpar,hoc]
    repeat refine om_ ?_
    intro X1
    repeat refine om_ ?_
    have h:=main _ _ (X1 3 21) hra
    simp only[hrd,zdV]at h
    refine and_keep h fun fin=>?_
    repeat refine om_ ?_
    exact fin
  ·rw[if_neg hask]at hra
   simp (maxSteps:=3000000) -implicitDefEqProofs only[push_cast,zz,seval,b60_1,hki,r1,Rb.rc,he8,hKl,hR,hwf1,hinp,fs99,wkV,hc,hask]
   repeat refine om_ ?_
   intro X1
   repeat refine om_ ?_
   exact main _ _ (X1 3 21) hra
 ·have hkk:k=s.bks.length:=by omega
  have hki:¬ (k:Int)<s.bks.length:=by omega
  clear hK
  simp -implicitDefEqProofs only[push_cast,zz,seval,b60_1,hki]
  refine postF.mk' (fun _=>M) [some 0,some 1,some 2,some 3,some 4,some 5,none,some 7,some 8,some 9,some 10,some 20] ?_
  simp -implicitDefEqProofs only[push_cast,zz,seval,fs60,srM,wkV,wkW,hkk,hfin]
def ent60:Entry:=spOf fs60 invSr
theorem e60:EntryOk Try.prog 60 ent60:=entry_of ok60 invSr
@[push_cast] theorem ent60_app (us:List SV) (look:Look) (x:Nat->Xf.Loc) (k:Nat):ent60 us look x k=spOf fs60 invSr us look x k:=rfl
def ir58:IR:=
 .seq (r_ [o_ 2 (.alloc 10 [y_,nilSV])] []) (.seq (r_ [m_ 3 0,o_ 4 (.mks 11 (.int .i64 0) 8 (Z_ 12) (Z_ 12)),o_ 5 (.build [y_,nilSV] [(0,1,.t 3),(1,1,.t 4)]),s_ 2 .i64 2 5] [0,3,4,5]) (.ret))
set_option maxRecDepth 4000 in
theorem comp58:(Try.f58.body.bind fun c=>compC tab isP chkAll ir58 c)=some ir58:=by kernel_rfl
def b57_1:IR:=
 .seq (r_ [b_ 53 .lss 52 51] []) (.seq (.cond (.t 53) (.skip) (.exit 0)) (.seq (.block 1 (.seq (r_ [m_ 54 52,m_ 8 54] [53,54]) (r_ [m_ 55 7,n_ 56 55,f_ 57 56 6,l_ 58 57,m_ 59 8,i_ 60 58 59 1,O_ (.sto true 1 .i64 (.t 60) (Z_ (-1)))] [8,55,56,57,58,59,60]))) (r_ [a_ 61 52 1,m_ 52 61] [61])))
def r57_2:IR:=
 .seq (r_ [m_ 62 7,m_ 6 62] [7,51,52,62]) (.ret)
def ir57:IR:=
 .seq (r_ [o_ 6 (.mov (.k nilP))] [6]) (.seq (r_ [m_ 9 0,m_ 10 1,o_ 11 (.build [y_,y_,nilSV,nilSV,nilSV,nilSV,nilSV,nilSV] [(0,1,.t 9),(1,1,.t 10)]),o_ 12 (.box 10 (.t 11)),m_ 7 12] [9,10,11,12]) (.seq (r_ [m_ 14 7,m_ 15 7,m_ 16 0,m_ 17 1,m_ 18 2,o_ 19 (.call (some 4) 11 94 [.t 16,.t 17,.t 18]),m_ 13 19,e_ 20 13 0,e_ 21 13 1,n_ 22 14,f_ 23 22 2,s_ 1 .i64 23 20,n_ 24 15,f_ 25 24 3,s_ 1 .i64 25 21] [2,13,14,15,16,17,18,19,20,21,22,23,24,25]) (.seq (R_ [m_ 26 7,m_ 27 7,m_ 28 7,m_ 29 0,m_ 30 1,b_ 31 .mul 29 30,o_ 32 (.mks 15 (.int .i64 0) 8 (.t 31) (.t 31)),m_ 33 0,m_ 34 1,b_ 35 .mul 33 34,o_ 36 (.mks 16 (.bool false) 1 (.t 35) (.t 35)),m_ 37 0,m_ 38 1,b_ 39 .mul 37 38,o_ 40 (.mks 17 (.int .i64 0) 8 (.t 39) (.t 39)),n_ 41 26,f_ 42 41 4,⟨none,none,⟨[16,17],[]⟩,.sto false 1 .i64 (.t 42) (.t 32)⟩,n_ 43 27,f_ 44 43 5,⟨none,none,⟨[17],[]⟩,.sto false 1 .i64 (.t 44) (.t 36)⟩,n_ 45 28,f_ 46 45 6,s_ 1 .i64 46 40] [0,1,26,27,28,29,30,31,32,33,34,35,36,37,38,39,40,41,42,43,44,45,46]) (.seq (.seq (r_ [m_ 47 7,n_ 48 47,f_ 49 48 6,l_ 50 49,h_ 51 50,z_ 52 0] [47,48,49,50]) (.block 0 (.loop b57_1))) (r57_2)))))
def kp57_1:List Nat:=[7,51,52]
def kl57_1:List Nat:=[]
attribute [push_cast] kp57_1 kl57_1
set_option maxRecDepth 4000 in
theorem comp57:(Try.f57.body.bind fun c=>compC tab isP chkAll ir57 c)=some ir57:=by kernel_rfl
structure KnA where
 kind:Int
def fs58:FS where
 A:=KnA
 args:=fun a=>[.int .i64 a.kind]
 mem:=fun _=>[]
 pre:=fun _=>True
 res:=fun a x=>.agg [.int .i64 a.kind,.sl 0 (x 0) 1 0 12]
 out:=fun _ _=>[]
 new:=fun a x=>[(x 0,.ints .i64 (List.replicate 12 0))]
def inv58:List SV->Look->Option (KnA×List Nat)
 | [.int .i64 k],look=>some (⟨k⟩,[])
 | _,_=>none
attribute [push_cast] inv58
theorem ok58:FSOk Try.prog 58 fs58:=by
 refine⟨⟨_,Try.func58,by kernel_rfl,by kernel_rfl⟩,fun a=>⟨by simp[fs58,push_cast,noMine,argOwn,Chunk.frArg],by simp[fs58,push_cast,outOk,Chunk.ext],fun x=>.inl (by simp[fs58,push_cast,frNew,frOut,Chunk.fr])⟩,fun a hp=>?_⟩
 obtain⟨kind⟩:=a
 change Tri Try.prog 58 [.int .i64 kind] [] (postF fs58 ⟨kind⟩)
 have h12:(12:Int).toNat=12:=rfl
 refine tri_evS (hyp (l:=[]) (lp:=[]) trivial trivial) Try.func58 comp58 (rs:=[.cell 2 (some 2)]) (by rfl) Try.ntmps58 12 ?_
 simp -implicitDefEqProofs only[push_cast,zz,seval,ir58,h12]
 intro X X1
 repeat refine om_ ?_
 refine postF.mk' (fun _=>X1 1 11) [some 11] ?_
 simp -implicitDefEqProofs only[push_cast,zz,seval,fs58]
def ent58:Entry:=spOf fs58 inv58
theorem e58:EntryOk Try.prog 58 ent58:=entry_of ok58 inv58
@[push_cast] theorem ent58_app (us:List SV) (look:Look) (x:Nat->Xf.Loc) (k:Nat):ent58 us look x k=spOf fs58 inv58 us look x k:=rfl
theorem rep_set {N i:Nat} (h:i<N):(List.replicate i (-1:Int)++List.replicate (N-i) 0).set i (-1)=List.replicate (i+1) (-1)++List.replicate (N-(i+1)) 0:=by
 rw[List.set_append_right _ _ (by simp),List.length_replicate,Nat.sub_self,show N-i=(N-(i+1))+1 by omega,List.replicate_succ,List.set_cons_zero,List.replicate_succ' (n:=i),List.append_assoc]
 rfl
def fs57:FS where
 A:=BnA
 args:=fun a=>[.int .i64 a.w,.int .i64 a.h,.int .i64 a.n]
 mem:=fun _=>[]
 pre:=fun a=>bnOk a.w a.h a.n/\a.w*a.h<=8192
 res:=fun a x=>.ptr 5 (x 5) 0 0 0
 out:=fun _ _=>[]
 new:=fun a x=>[(lx (0<(bnL a.w a.h a.n).length) x 0,.recs 6 true [] ((bnL a.w a.h a.n).map Bd.rc)),(x 1,.recs 8 true [] ((rbL a.w a.h a.n).map Rb.rc)),(x 2,.ints .i64 (List.replicate (a.w*a.h).toNat 0)),(x 3,.bools (List.replicate (a.w*a.h).toNat false)),(x 4,.ints .i64 (List.replicate (a.w*a.h).toNat (-1))),
  (x 5,.cells [.int .i64 a.w,.int .i64 a.h,.sl 0 (lx (0<(bnL a.w a.h a.n).length) x 0) (esz 6 (bnL a.w a.h a.n).length) 0 (bnL a.w a.h a.n).length,.sl 1 (x 1) (esz 8 (rbL a.w a.h a.n).length) 0 (rbL a.w a.h a.n).length,.sl 2 (x 2) 1 0 (a.w*a.h),.sl 3 (x 3) 1 0 (a.w*a.h),.sl 4 (x 4) 1 0 (a.w*a.h),.sl 4096 nilLoc0 1 0 0])]
set_option maxRecDepth 4000 in
set_option maxHeartbeats 2000000 in
theorem ok57:FSOk Try.prog 57 fs57:=by
 refine⟨⟨_,Try.func57,by kernel_rfl,by kernel_rfl⟩,fun a=>⟨by simp[fs57,push_cast,noMine,argOwn,Chunk.frArg],by simp[fs57,push_cast,outOk,Chunk.ext],fun x=>.inl (by simp[fs57,push_cast,frNew,frOut,Chunk.fr])⟩,fun a hp=>?_⟩
 obtain⟨w,h,n⟩:=a
 obtain⟨hb,hwh⟩:bnOk w h n/\w*h<=8192:=hp
 obtain⟨q1,q2,q3,q4,q5,q6⟩:=id hb
 have hwh0:0<=w*h:=Int.mul_nonneg q3 q5
 change Tri Try.prog 57 [.int .i64 w,.int .i64 h,.int .i64 n] [] (postF fs57 ⟨w,h,n⟩)
 obtain⟨N,hN⟩:∃ N:Nat,w*h=(N:Int):=⟨(w*h).toNat,by omega⟩
 rw[hN]at hwh
 obtain⟨BK,hBK⟩:∃ B,rbL w h n=B:=⟨_,rfl⟩
 obtain⟨B,hB⟩:∃ B,bnL w h n=B:=⟨_,rfl⟩
 refine tri_evS (hyp (l:=[(94,ent94)]) (lp:=[]) ⟨e94,trivial⟩ trivial) Try.func57 comp57 (rs:=[.tmp 6]) (by rfl) Try.ntmps57 18 ?_
 simp -implicitDefEqProofs only[push_cast,zz,seval,ir57,fs94,hb,hB,hBK,hN,Int.toNat_natCast]
 repeat refine om_ ?_
 intro X
 repeat refine om_ ?_
 intro X1
 repeat refine om_ ?_
 intro X2
 repeat refine om_ ?_
 obtain⟨LB,hLB⟩:∃ L,lx (0<B.length) (fun j=>X1 5 (11+j)) 0=L:=⟨_,rfl⟩
 have hLB2:∀ M1 M2 M3 M4 M5:Xf.Loc,lx (0<B.length) (fun j=>if j=0 then X1 5 (11+0)else if j=1 then M1 else if j=2 then M2 else if j=3 then M3 else if j=4 then M4 else M5) 0=LB:=fun _ _ _ _ _=>by
  rw[<-hLB];unfold lx;split<;>rfl
 rw[hLB]
 refine evS_loopU (A:=Nat) kp57_1 kl57_1 (fun i=>[(52,.int .i64 i)]) (fun i=>[(17,.mine,X2 14 17,.ints .i64 (List.replicate i (-1)++List.replicate (N-i) 0))]) (fun i=>i<=N) (fun i=>N-i) 0 (Nat.zero_le _) (Sub.pt ?_) ?_
 ·simp -implicitDefEqProofs only[push_cast,zz,seval,List.replicate_zero,List.nil_append,Nat.sub_zero]
 intro i hi K hK
 have hi:i<=N:=hi
 by_cases hi':i<N
 ·have hii:(i:Int)<N:=by omega
  have hs:=rep_set hi'
  obtain⟨l,hl⟩:∃ l,List.replicate i (-1:Int)++List.replicate (N-i) 0=l:=⟨_,rfl⟩
  have hll:l.length=N:=by rw[<-hl];simp;omega
  rw[hl]at hs
  simp -implicitDefEqProofs only[push_cast,zz,seval,b57_1,hii,hl,hs]
  repeat refine om_ ?_
  refine hK (i+1) (show i+1<=N by omega) (show N-(i+1)<N-i by omega) _ _ (Sub.pt ?_)
  simp -implicitDefEqProofs only[push_cast,zz,seval,hs,Int.toNat_natCast,List.replicate_succ,List.cons_append]
 ·obtain rfl:i=N:=by omega
  clear hK
  simp -implicitDefEqProofs only[push_cast,zz,seval,b57_1,r57_2,Int.lt_irrefl,Nat.sub_self,List.replicate_zero,List.append_nil]
  refine postF.mk' (fun j=>if j=0 then X1 5 (11+0)else if j=1 then X1 5 12 else if j=2 then X2 6 15 else if j=3 then X2 10 16 else if j=4 then X2 14 17 else X 3 10) [some 11,some 12,some 15,some 16,some 17,some 10] ?_
  simp -implicitDefEqProofs only[push_cast,zz,seval,fs57,hB,hBK,hN,hLB2,Int.toNat_natCast]
def ent57:Entry:=spOf fs57 inv69
theorem e57:EntryOk Try.prog 57 ent57:=entry_of ok57 inv69
@[push_cast] theorem ent57_app (us:List SV) (look:Look) (x:Nat->Xf.Loc) (k:Nat):ent57 us look x k=spOf fs57 inv69 us look x k:=rfl
def rStep (w n t:Int) (bands:List Bd) (bks:List Rb) (s:RwS) (c:List Int):RwS:=(rSl w n t bands bks ⟨s.known,s.minus,s.since,newDe s.d.kind s.d.st c,0⟩ bks.length).s
def rdG (w:Int) (bands:List Bd) (bks:List Rb):List (List Int)->Int->Int->RwS->RwS
 | [],_,_,s=>s
 | c::l,n,t,s=>if (rStep w n t bands bks s c).fail=0 then rdG w bands bks l (n+1) (t-1) (rStep w n t bands bks s c)else rStep w n t bands bks s c
theorem rdG_cons (w:Int) (bands:List Bd) (bks:List Rb) {cs:List (List Int)} {i:Nat} (h:i<cs.length) (n t:Int) (s:RwS):rdG w bands bks (cs.drop i) n t s=if (rStep w n t bands bks s cs[i]).fail=0 then rdG w bands bks (cs.drop (i+1)) (n+1) (t-1) (rStep w n t bands bks s cs[i])else rStep w n t bands bks s cs[i]:=by
 rw[List.drop_eq_getElem_cons h,rdG]
def rdOk (w h B kd:Int) (s:RwS):Prop:=(s.known.length:Int)=w*h/\(s.minus.length:Int)=w*h/\(s.since.length:Int)=w*h/\knB s.known B/\mdOk kd s.d.st/\s.d.st.length=12/\s.d.kind=kd/\s.fail=0
theorem rStep_ok {w h n t B kd:Int} {bands:List Bd} {bks:List Rb} {s:RwS} {c:List Int} (H:rdOk w h B kd s) (hB:0<=B) (hn:bks.length<=50000) (w2:w<=200) (w4:h<=200) (t0:0<=t) (t1:t<=24) (hb:∀ b∈bks,b.inp w h) (hby:byAll c) (hcl:c.length<=140737488355328) :
  ((rStep w n t bands bks s c).fail=0->rdOk w h (B+13421772800000) kd (rStep w n t bands bks s c))/\rwSame (rStep w n t bands bks s c) ⟨s.known,s.minus,s.since,newDe s.d.kind s.d.st c,0⟩:=by
 obtain⟨h1,h2,h3,h4,h5,h6,h7,h8⟩:=H
 have hnew:=newDe_ok (kind:=s.d.kind) (st:=s.d.st) (c:=c) (by rw[h7];exact h5) hby hcl
 have hs:=(rSl_same w n t bands bks ⟨s.known,s.minus,s.since,newDe s.d.kind s.d.st c,0⟩ bks.length).1
 have ho:=rSl_ok (n:=n) (bands:=bands) (bks:=bks) (B:=B) (s:=⟨s.known,s.minus,s.since,newDe s.d.kind s.d.st c,0⟩) ⟨h4,hnew,h6⟩ hB h1 w2 w4 t0 t1 hb bks.length (Nat.le_refl _)
 refine⟨fun hf=>?_,hs⟩
 have e:(rStep w n t bands bks s c)=(rSl w n t bands bks ⟨s.known,s.minus,s.since,newDe s.d.kind s.d.st c,0⟩ bks.length).s:=rfl
 rw[<-e]at hs ho
 obtain⟨a1,a2,a3,a4,a5,a6⟩:=hs
 simp only at a1 a2 a3
 obtain⟨o1,o2,o3⟩:=ho
 have hk:(rStep w n t bands bks s c).d.kind=kd:=a6.trans h7
 refine⟨by rw[a1];exact h1,by rw[a2];exact h2,by rw[a3];exact h3,o1.mono (by omega),⟨by rw[<-hk];exact o2.1.1,by rw[o3];decide⟩,o3,hk,hf⟩
def rw0 (w h kd:Int):RwS:=⟨List.replicate (w*h).toNat 0,List.replicate (w*h).toNat false,List.replicate (w*h).toNat (-1),newDe kd (List.replicate 12 0) [],0⟩
def rdR (w h lv kd P:Int) (cs:List (List Int)):RwS:=rdG w (bnL w h lv) (rbL w h lv) cs 0 (P-1) (rw0 w h kd)
def plR (s:RwS):List Int:=(List.range s.known.length).map fun i=>if rdB s.minus (i:Nat)then -rd s.known (i:Nat)else rd s.known (i:Nat)
def rdE (w h lv kd P:Int) (cs:List (List Int)):Int:=if decOk w h lv kd P cs.length then (rdR w h lv kd P cs).fail else 2
def rdP (w h lv kd P:Int) (cs:List (List Int)):Pl:=if rdE w h lv kd P cs=0 then ⟨w,h,plR (rdR w h lv kd P cs)⟩else pl0
theorem rw0_ok {w h kd:Int} (hw:0<=w*h) (hk:kd=0∨kd=1):rdOk w h 0 kd (rw0 w h kd):=by
 have hl:∀ {α:Type} (a:α),((List.replicate (w*h).toNat a).length:Int)=w*h:=fun a=>by rw[List.length_replicate];omega
 refine⟨hl _,hl _,hl _,fun x hx=>?_,zero12_ok hk,List.length_replicate,rfl,rfl⟩
 have:=List.eq_of_mem_replicate hx
 omega
def plT (s:RwS) (i:Nat):List Int:=(plR s).take i++s.known.drop i
theorem plR_len (s:RwS):(plR s).length=s.known.length:=by unfold plR;simp
theorem plT_len (s:RwS) (i:Nat) (h:i<=s.known.length):(plT s i).length=s.known.length:=by
 unfold plT
 rw[List.length_append,List.length_take,List.length_drop,plR_len]
 omega
theorem plT_rd {s:RwS} {i:Nat} (h:i<s.known.length):rd (plT s i) (i:Nat)=rd s.known (i:Nat):=by
 rw[rd_lt _ _ (by rw[plT_len s i (by omega)];exact h),rd_lt _ _ h]
 unfold plT
 rw[List.getElem_append_right (by rw[List.length_take,plR_len];omega)]
 simp only[List.getElem_drop,List.length_take,plR_len]
 congr 1
 omega
theorem plT_set {s:RwS} {i:Nat} (h:i<s.known.length):(plT s i).set i (if rdB s.minus (i:Nat)then -rd s.known (i:Nat)else rd s.known (i:Nat))=plT s (i+1):=by
 have hp:i<(plR s).length:=by rw[plR_len];exact h
 unfold plT
 rw[List.set_append_right _ _ (by rw[List.length_take];omega),List.length_take,show i-min i (plR s).length=0 by omega,List.drop_eq_getElem_cons h,List.set_cons_zero,List.take_succ_eq_append_getElem hp,List.append_assoc]
 simp[plR]
theorem rpG_lt (bs:List Bd) (l:List Rb) (b:Bd):∀ (n k:Nat) (i j:Int),rpG bs l b n k i j<(l.length:Int)
 | 0,_,_,_=>by rw[rpG];omega
 | n+1,k,i,j=>by
  rw[rpG]
  split
  ·split
   ·rename_i m hm
    unfold rpS at hm
    have:=(List.findIdx?_eq_some_iff_getElem.1 hm).1
    omega
   ·exact rpG_lt bs l b n _ _ _
  ·exact rpG_lt bs l b n _ _ _
theorem rpar_lt (bs:List Bd) (l:List Rb) (k:Nat) (i j:Int):rpar bs l k i j<(l.length:Int):=by
 unfold rpar
 split
 ·omega
 ·exact rpG_lt _ _ _ _ _ _ _
def rbIn (w h:Int) (nb m:Nat) (b:Rb):Prop:=b.inp w h/\0<=b.band/\b.band<nb/\b.par<m
theorem rbIn.mono {w h:Int} {nb m m':Nat} {b:Rb} (H:rbIn w h nb m b) (hm:m<=m'):rbIn w h nb m' b:=⟨H.1,H.2.1,H.2.2.1,by have:=H.2.2.2;omega⟩
theorem rbRow_in {w h:Int} {bs:List Bd} {k:Nat} (hk:k<bs.length) (hb:0<=(rdBd bs k).x/\0<=(rdBd bs k).y/\1<=(rdBd bs k).w/\1<=(rdBd bs k).h/\(rdBd bs k).x+(rdBd bs k).w<=w/\(rdBd bs k).y+(rdBd bs k).h<=h) (j:Nat) (hj:4*(j:Int)<(rdBd bs k).h) (O:List Rb) (hO:∀ b∈O,rbIn w h bs.length O.length b) :
  ∀ i:Nat,4*(i:Int)<(rdBd bs k).w+4->∀ b∈rbRow bs O k j i,rbIn w h bs.length (rbRow bs O k j i).length b
 | 0,_,b,hm=>hO b hm
 | i+1,hi,b,hm=>by
  rw[rbRow]at hm ⊢
  rw[List.length_append]
  rcases List.mem_append.1 hm with h1 | h1
  ·exact(rbRow_in hk hb j hj O hO i (by omega) b h1).mono (by omega)
  ·rw[List.mem_singleton]at h1
   subst h1
   have hp:=rpar_lt bs (rbRow bs O k j i) k i j
   refine⟨⟨?_,?_,?_,?_,?_,?_,?_,?_⟩,?_,?_,?_⟩<;>simp only[rbAt]<;>omega
theorem rbBand_in {w h:Int} {bs:List Bd} {k:Nat} (hk:k<bs.length) (hb:0<=(rdBd bs k).x/\0<=(rdBd bs k).y/\1<=(rdBd bs k).w/\1<=(rdBd bs k).h/\(rdBd bs k).x+(rdBd bs k).w<=w/\(rdBd bs k).y+(rdBd bs k).h<=h) (O:List Rb) (hO:∀ b∈O,rbIn w h bs.length O.length b) :
  ∀ j:Nat,4*(j:Int)<(rdBd bs k).h+4->∀ b∈rbBand bs O k j,rbIn w h bs.length (rbBand bs O k j).length b
 | 0,_,b,hm=>hO b hm
 | j+1,hj,b,hm=>by
  rw[rbBand]at hm ⊢
  exact rbRow_in hk hb j (by omega) _ (rbBand_in hk hb O hO j (by omega)) _ (by unfold colsB;omega) b hm
theorem rbAll_in {w h:Int} {bs:List Bd} (hb:∀ k,k<bs.length->0<=(rdBd bs k).x/\0<=(rdBd bs k).y/\1<=(rdBd bs k).w/\1<=(rdBd bs k).h/\(rdBd bs k).x+(rdBd bs k).w<=w/\(rdBd bs k).y+(rdBd bs k).h<=h) :
  ∀ k:Nat,k<=bs.length->∀ b∈rbAll bs k,rbIn w h bs.length (rbAll bs k).length b
 | 0,_,b,hm=>by cases hm
 | k+1,hk,b,hm=>by
  rw[rbAll]at hm ⊢
  have hbk:=hb k (by omega)
  exact rbBand_in (by omega) hbk _ (rbAll_in hb k (by omega)) _ (by unfold rowsB;omega) b hm
theorem rbL_ok {w h n:Int} (hb:bnOk w h n):(rbL w h n).length<=50000/\(∀ b∈rbL w h n,b.inp w h/\0<=b.band/\b.band<(bnL w h n).length/\b.par<(rbL w h n).length)/\∀ b∈bnL w h n,0<=b.x/\0<=b.y:=by
 have hl19:=bnL_le w h n
 obtain⟨q1,q2,q3,q4,q5,q6⟩:=id hb
 have hall:=rbAll_len (bs:=bnL w h n) (fun b hm=>by have:=bnL_in hb hm;unfold Bd.ok;omega) (bnL w h n).length (Nat.le_refl _)
 refine⟨by unfold rbL;omega,fun b hm=>?_,fun b hm=>by have:=bnL_in hb hm;omega⟩
 exact rbAll_in (w:=w) (h:=h) (fun k hk=>by have:=bnL_in hb (rdBd_mem hk);omega) _ (Nat.le_refl _) b hm
def mulP (k:Nat) (v:Int):Prop:=∃ q:Nat,v=((q*2^k:Nat):Int)
theorem mulP_half {k:Nat} {v:Int} (h:mulP (k+1) v):mulP k v:=by
 obtain⟨q,rfl⟩:=h
 exact⟨q*2,by rw[Nat.pow_succ,Nat.mul_comm (2^k) 2,Nat.mul_assoc]⟩
theorem mulP_zero (k:Nat):mulP k 0:=⟨0,by simp⟩
theorem mulP_or {k:Nat} {v:Int} (h:mulP (k+1) v):orP v (k:Int)=v+2^(k:Int).toNat/\mulP k (v+2^(k:Int).toNat):=by
 obtain⟨q,rfl⟩:=h
 have e:q*2^(k+1)=(2*q)*2^k:=by rw[Nat.pow_succ,Nat.mul_comm (2^k) 2,<-Nat.mul_assoc,Nat.mul_comm q 2]
 have e2:(((2*q)*2^k:Nat):Int)+2^(k:Int).toNat=(((2*q+1)*2^k:Nat):Int):=by
  rw[Int.toNat_natCast,Nat.add_mul,Nat.one_mul,Int.natCast_add]
  congr 1
 rw[e,e2]
 refine⟨?_,2*q+1,rfl⟩
 rw[orP_nat,or_mul,or_even]
theorem rbE_no {d:DeS} {fail ctx:Int} (h:¬ fail=0):rbE d fail ctx=fail:=if_neg h
theorem rbE_yes (d:DeS) (ctx:Int):rbE d 0 ctx=gotE d ctx:=if_pos rfl
theorem rbS_yes (d:DeS) (ctx:Int):rbS d 0 ctx=gotS d ctx:=if_pos rfl
theorem rbB_yes (d:DeS) (ctx:Int):rbB d 0 ctx=gotB d ctx:=if_pos rfl
theorem rnum_no {w n t:Int} {bd:Bd} {on:Bool} {c y:Int} {s:RwS} (h:¬ s.fail=0):(rnum w n t bd on c y s).fail=s.fail:=by
 unfold rnum
 split
 ·exact rbE_no h
 ·split
  ·split
   ·simp only[rbE_no h]
   ·exact rbE_no h
  ·rfl
def rl (w:Int) (B:List Int) (n:Int) (k N:Nat) (s:StS) (r:RwS) (l:List Int):Prop:=
 s.w=w/\s.band=B/\r.fail=0/\s.now=n/\r.known=s.size/\r.minus=s.minus/\s.size.length=N/\s.minus.length=N/\s.since.length=N/\r.since.length=N /\
 (∀ i:Nat,i<N->rd r.since i=rd s.since i-1/\0<=rd s.since i/\rd s.since i<=n+1/\(rd s.since i=0->rd s.size i=0)/\mulP k (rd s.size i)) /\
 ∀ i:Nat,(i:Int)∈l->rd s.since i<=n/\mulP (k+1) (rd s.size i)
theorem rl.tail {w:Int} {B:List Int} {n:Int} {k N:Nat} {s:StS} {r:RwS} {p:Int} {l:List Int} (H:rl w B n k N s r (p::l)):rl w B n k N s r l:=by
 obtain⟨a1,a2,a3,a4,a5,a6,a7,a8,a9,a10,a11,a12⟩:=H
 exact⟨a1,a2,a3,a4,a5,a6,a7,a8,a9,a10,a11,fun i hi=>a12 i (List.mem_cons_of_mem _ hi)⟩
theorem rl.upd {w:Int} {B:List Int} {n:Int} {k N p:Nat} {s:StS} {r:RwS} {l:List Int} {v u:Int} {m:Bool} {z:DeS} (H:rl w B n k N s r ((p:Int)::l)) (hp:p<N) (hn:¬ (p:Int)∈l)
  (hu:0<=u/\u<=n+1) (h0:u=0->v=0) (hv:mulP k v) :
  rl w B n k N { s with size:=s.size.set p v,minus:=s.minus.set p m,since:=s.since.set p u } ⟨r.known.set p v,r.minus.set p m,r.since.set p (u-1),z,0⟩ l:=by
 obtain⟨a1,a2,a3,a4,a5,a6,a7,a8,a9,a10,a11,a12⟩:=H
 refine⟨a1,a2,rfl,a4,by simp only[a5],by simp only[a6],by simp only[List.length_set];exact a7,by simp only[List.length_set];exact a8,by simp only[List.length_set];exact a9,by simp only[List.length_set];exact a10,fun i hi=>?_,fun i hi=>?_⟩
 ·simp only
  by_cases e:p=i
  ·subst e
   rw[rd_st_same (by omega),rd_st_same (by omega),rd_st_same (by omega)]
   exact⟨rfl,hu.1,hu.2,h0,hv⟩
  ·rw[rd_st_ne e,rd_st_ne e,rd_st_ne e]
   exact a11 i hi
 ·have e:p≠i:=fun h=>hn (h▸hi)
  simp only
  rw[rd_st_ne e,rd_st_ne e]
  exact a12 i (List.mem_cons_of_mem _ hi)
theorem setB_self {xs:List Bool} {i:Nat} (h:i<xs.length):xs.set i (rdB xs i)=xs:=by
 rw[rdB_lt xs i h];simp
theorem setI_self {xs:List Int} {i:Nat} (h:i<xs.length):xs.set i (rd xs i)=xs:=by
 rw[rd_lt xs i h];simp
theorem num_eq {w:Int} {B:List Int} {n:Int} {k N p:Nat} {s:StS} {r:RwS} {l:List Int} {c y:Int} {bd:Bd} {on:Bool} (dig neg:Bool) (H:rl w B n k N s r ((p:Int)::l)) (hp:p<N) (hn:¬ (p:Int)∈l)
  (hpp:y*w+c=p) (h0:0<=n) (hc:nctxP s p=8+nbP r.since w bd c y) :
  (numG getG s r.d p k on dig neg).2.2=(rnum w n k bd on c y r).fail /\
  ((rnum w n k bd on c y r).fail=0->(numG getG s r.d p k on dig neg).2.1=(rnum w n k bd on c y r).d/\rl w B n k N (numG getG s r.d p k on dig neg).1 (rnum w n k bd on c y r) l):=by
 have H':=H
 obtain⟨a1,a2,a3,a4,a5,a6,a7,a8,a9,a10,a11,a12⟩:=H'
 obtain⟨b1,b2,b3,b4,b5⟩:=a11 p hp
 obtain⟨c1,c2⟩:=a12 p List.mem_cons_self
 obtain⟨o1,o2⟩:=mulP_or c2
 have hself:∀ {z:DeS},rl w B n k N s ⟨r.known,r.minus,r.since,z,0⟩ l:=⟨a1,a2,rfl,a4,a5,a6,a7,a8,a9,a10,a11,fun i hi=>a12 i (List.mem_cons_of_mem _ hi)⟩
 unfold rnum
 rw[hpp,a3,Int.toNat_natCast]
 by_cases ho:oldP s p
 ·have hr:0<=rd r.since p:=by have:=ho.1;omega
  have hcx:rctx r.since p n=dctxP s p:=by
   unfold rctx dctxP
   by_cases e:rd s.since p=s.now
   ·rw[if_pos e,if_pos (by omega)]
   ·rw[if_neg e,if_neg (by omega)]
  rw[if_pos hr,hcx,numG_dec_old ho,rbE_yes,rbS_yes,rbB_yes]
  by_cases e:gotE r.d (dctxP s p)=0
  ·rw[if_pos e]
   refine⟨by simp only[e],fun _=>⟨rfl,?_⟩⟩
   rcases gotB_01 r.d (dctxP s p)with hb | hb
   ·rw[hb,if_neg (by decide)]
    simp only[Int.zero_mul,Int.add_zero,e]
    rw[a5,setI_self (by omega),<-a5]
    exact hself
   ·rw[hb,if_pos rfl]
    simp only[Int.one_mul,e,Int.toNat_natCast]
    have:=H.upd (v:=rd s.size p+2^(k:Int).toNat) (u:=rd s.since p) (m:=rdB s.minus p) (z:=gotS r.d (dctxP s p)) hp hn ⟨b2,b3⟩ (fun h=>by have:=ho.1;omega) o2
    rw[a6,setB_self (by omega),setI_self (by omega),<-b1,setI_self (by omega)]at this
    rw[Int.toNat_natCast]at this o1
    rw[o1,a5,a6]
    rw[a5]at this
    exact this
  ·rw[if_neg e]
   exact⟨rfl,fun h=>absurd h e⟩
 ·have hr:¬ 0<=rd r.since p:=fun h=>ho ⟨by omega,by omega⟩
  have hz:rd s.since p=0:=by
   by_cases e:0<rd s.since p
   ·exact absurd ⟨e,by omega⟩ ho
   ·omega
  have hsz:=b4 hz
  rw[if_neg hr]
  cases on with
  | false=>
   rw[if_neg (by decide),numG_off ho]
   exact⟨a3.symm,fun _=>⟨rfl,H.tail⟩⟩
  | true=>
   rw[if_pos rfl,<-hc,numG_dec_new ho,rbE_yes,rbS_yes,rbB_yes]
   by_cases e:gotE r.d (nctxP s p)=0
   ·rw[if_pos e,e,rbE_yes,rbS_yes,rbB_yes]
    by_cases hb:gotB r.d (nctxP s p)=1
    ·rw[if_pos hb,if_pos hb]
     by_cases e2:gotE (gotS r.d (nctxP s p)) 11=0
     ·rw[if_pos e2]
      refine⟨e2.symm,fun _=>⟨rfl,?_⟩⟩
      have:=H.upd (v:=2^(k:Int).toNat) (u:=s.now+1) (m:=decide (gotB (gotS r.d (nctxP s p)) 11=1)) (z:=gotS (gotS r.d (nctxP s p)) 11) hp hn ⟨by omega,by omega⟩ (fun h=>by omega) (by rw[hsz,Int.zero_add]at o2;exact o2)
      rw[Int.add_sub_cancel,show r.since.set p s.now=r.since.set p n by rw[a4]]at this
      rw[o1,hsz,Int.zero_add,e2]
      exact this
     ·rw[if_neg e2]
      exact⟨rfl,fun h=>absurd h e2⟩
    ·rw[if_neg hb,if_neg hb]
     exact⟨rfl,fun _=>⟨rfl,hself⟩⟩
   ·rw[if_neg e]
    refine⟨?_,fun h=>?_⟩
    ·split
     ·simp only[rbE_no e]
     ·rfl
    ·split at h
     ·simp only[rbE_no e]at h;exact absurd h e
     ·exact absurd h e
def plQ (w:Int) (Q:List (Int×Int)):List Int:=Q.map fun q=>q.1*w+q.2
def rQ (w n t:Int) (bd:Bd) (on:Bool):List (Int×Int)->RwS->RwS
 | [],r=>r
 | q::Q,r=>rQ w n t bd on Q (rnum w n t bd on q.2 q.1 r)
theorem rQ_no {w n t:Int} {bd:Bd} {on:Bool}:∀ {Q:List (Int×Int)} {s:RwS},¬ s.fail=0->(rQ w n t bd on Q s).fail=s.fail
 | [],_,_=>rfl
 | q::Q,s,h=>by
  have e:=rnum_no (w:=w) (n:=n) (t:=t) (bd:=bd) (on:=on) (c:=q.2) (y:=q.1) h
  rw[rQ,rQ_no (by rw[e];exact h),e]
def nbOk (w:Int) (B:List Int) (bd:Bd) (c y p:Int):Prop:=(0<p % w/\rd B (p-1)=rd B p↔bd.x<c)/\(w<=p/\rd B (p-w)=rd B p↔bd.y<y)
theorem nctx_eq {w:Int} {B:List Int} {n:Int} {k N p:Nat} {s:StS} {r:RwS} {l:List Int} {c y:Int} {bd:Bd} (H:rl w B n k N s r l) (hp:p<N) (h:nbOk w B bd c y p) (hpp:y*w+c=p) (hw:0<=w):nctxP s p=8+nbP r.since w bd c y:=by
 obtain⟨a1,a2,a3,a4,a5,a6,a7,a8,a9,a10,a11,a12⟩:=H
 obtain⟨h1,h2⟩:=h
 have e1:leftP s p↔bd.x<c/\0<=rd r.since (y*w+c-1):=by
  unfold leftP
  rw[a1,a2,<-and_assoc,h1,hpp]
  constructor
  ·rintro⟨g1,g2⟩
   refine⟨g1,?_⟩
   obtain⟨g3,_⟩:=h1.2 g1
   have:0<p:=by
    rcases Nat.eq_zero_or_pos p with h0 | h0
    ·subst h0;simp at g3
    ·exact h0
   have:=(a11 (p-1) (by omega)).1
   rw[show((p-1:Nat):Int)=(p:Int)-1 by omega]at this
   omega
  ·rintro⟨g1,g2⟩
   refine⟨g1,?_⟩
   obtain⟨g3,_⟩:=h1.2 g1
   have:0<p:=by
    rcases Nat.eq_zero_or_pos p with h0 | h0
    ·subst h0;simp at g3
    ·exact h0
   have:=(a11 (p-1) (by omega)).1
   rw[show((p-1:Nat):Int)=(p:Int)-1 by omega]at this
   omega
 have hup:(y-1)*w+c=p-w:=by rw[Int.sub_mul,Int.one_mul];omega
 have e2:upP s p↔bd.y<y/\0<=rd r.since ((y-1)*w+c):=by
  unfold upP
  rw[a1,a2,<-and_assoc,h2,hup]
  constructor
  ·rintro⟨g1,g2⟩
   refine⟨g1,?_⟩
   obtain⟨g3,_⟩:=h2.2 g1
   have:=(a11 ((p:Int)-w).toNat (by omega)).1
   rw[show((((p:Int)-w).toNat:Nat):Int)=(p:Int)-w by omega]at this
   omega
  ·rintro⟨g1,g2⟩
   refine⟨g1,?_⟩
   obtain⟨g3,_⟩:=h2.2 g1
   have:=(a11 ((p:Int)-w).toNat (by omega)).1
   rw[show((((p:Int)-w).toNat:Nat):Int)=(p:Int)-w by omega]at this
   omega
 unfold nctxP nbP
 simp only[e1,e2]
 by_cases x1:bd.x<c<;>by_cases x2:bd.y<y<;>by_cases x3:0<=rd r.since (y*w+c-1)<;>by_cases x4:0<=rd r.since ((y-1)*w+c)<;>simp[x1,x2,x3,x4]
theorem pls_eq {w:Int} {B:List Int} {n:Int} {k N:Nat} {f:List Int} {bd:Bd} {on:Bool} (hw:0<=w) (h0:0<=n):∀ (Q:List (Int×Int)) (s:StS) (r:RwS) (l:List Int),rl w B n k N s r (plQ w Q++l)->(plQ w Q++l).Nodup ->
  (∀ q∈Q,0<=q.1*w+q.2/\q.1*w+q.2<N/\nbOk w B bd q.2 q.1 (q.1*w+q.2)) ->
  (plsG getG f k on (plQ w Q) s r.d).2.2=(rQ w n k bd on Q r).fail/\((rQ w n k bd on Q r).fail=0->(plsG getG f k on (plQ w Q) s r.d).2.1=(rQ w n k bd on Q r).d/\rl w B n k N (plsG getG f k on (plQ w Q) s r.d).1 (rQ w n k bd on Q r) l)
 | [],s,r,l,H,hn,hq=>⟨H.2.2.1.symm,fun _=>⟨rfl,H⟩⟩
 | (y,c)::Q,s,r,l,H,hn,hq=>by
  obtain⟨q1,q2,q3⟩:=hq (y,c) List.mem_cons_self
  simp only at q1 q2 q3
  obtain⟨p,hp⟩:∃ p:Nat,y*w+c=p:=⟨(y*w+c).toNat,by omega⟩
  have e:plQ w ((y,c)::Q)=(p:Int)::plQ w Q:=by unfold plQ;rw[List.map_cons,hp]
  rw[e,List.cons_append]at H hn
  rw[e]
  rw[hp]at q2 q3
  obtain⟨n1,n2⟩:=List.nodup_cons.1 hn
  obtain⟨m1,m2⟩:=num_eq (on:=on) (digP f p k) (decide (rd f p<0)) H (by omega) n1 hp h0 (nctx_eq H (by omega) q3 hp hw)
  rw[plsG,rQ]
  by_cases hf:(rnum w n k bd on c y r).fail=0
  ·obtain⟨m3,m4⟩:=m2 hf
   rw[if_pos (m1.trans hf),m3]
   exact pls_eq hw h0 Q _ _ l m4 n2 (fun q h=>hq q (List.mem_cons_of_mem _ h))
  ·rw[if_neg (by rw[m1];exact hf),m1]
   have:=rQ_no (w:=w) (n:=n) (t:=k) (bd:=bd) (on:=on) (Q:=Q) hf
   exact⟨this.symm,fun h=>absurd (this.symm.trans h) hf⟩
def cRow (x y:Int) (m:Nat):List (Int×Int):=(List.range m).map fun dx=>(y,x+(dx:Nat))
def cRows (x y bw:Int) (m:Nat):List (Int×Int):=(List.range m).flatMap fun dy=>cRow x (y+(dy:Nat)) bw.toNat
def cQ (b:Rb):List (Int×Int):=cRows b.x b.y b.w b.h.toNat
theorem cRow_succ (x y:Int) (m:Nat):cRow x y (m+1)=cRow x y m++[(y,x+(m:Nat))]:=by
 unfold cRow;rw[List.range_succ,List.map_append];rfl
theorem cRows_succ (x y bw:Int) (m:Nat):cRows x y bw (m+1)=cRows x y bw m++cRow x (y+(m:Nat)) bw.toNat:=by
 unfold cRows;rw[List.range_succ,List.flatMap_append];simp
theorem rQ_app {w n t:Int} {bd:Bd} {on:Bool}:∀ (Q R:List (Int×Int)) (s:RwS),rQ w n t bd on (Q++R) s=rQ w n t bd on R (rQ w n t bd on Q s)
 | [],R,s=>rfl
 | q::Q,R,s=>by rw[List.cons_append,rQ,rQ,rQ_app Q R]
theorem rRow_Q (w n t:Int) (bd:Bd) (on:Bool) (y x:Int) (s:RwS):∀ m,rRow w n t bd on y x s m=rQ w n t bd on (cRow x y m) s
 | 0=>rfl
 | m+1=>by rw[rRow,cRow_succ,rQ_app,rRow_Q w n t bd on y x s m];rfl
theorem rRect_Q (w n t:Int) (bd:Bd) (on:Bool) (b:Rb) (s:RwS):∀ m,rRect w n t bd on b s m=rQ w n t bd on (cRows b.x b.y b.w m) s
 | 0=>rfl
 | m+1=>by rw[rRect,cRows_succ,rQ_app,rRow_Q,rRect_Q w n t bd on b s m]
theorem plQ_app (w:Int) (Q R:List (Int×Int)):plQ w (Q++R)=plQ w Q++plQ w R:=List.map_append
def sigP (since:List Int) (p:Int):Bool:=decide (0<=rd since p)
theorem ctN_Q (since:List Int) (w x y:Int):∀ m,ctN since w x y m=(((plQ w (cRow x y m)).countP (sigP since):Nat):Int)
 | 0=>rfl
 | m+1=>by
  rw[ctN,cRow_succ,plQ_app,List.countP_append,ctN_Q since w x y m]
  have e:(plQ w [(y,x+(m:Nat))]).countP (sigP since)=if 0<=rd since (y*w+(x+(m:Nat)))then 1 else 0:=by
   unfold plQ sigP
   by_cases h:0<=rd since (y*w+(x+(m:Nat)))<;>simp[h]
  rw[e]
  split<;>simp
theorem ctR_Q (since:List Int) (w x y bw:Int):∀ m,ctR since w x y bw m=(((plQ w (cRows x y bw m)).countP (sigP since):Nat):Int)
 | 0=>rfl
 | m+1=>by
  rw[ctR,cRows_succ,plQ_app,List.countP_append,ctR_Q since w x y bw m,ctN_Q]
  simp
theorem cntP_Q (since:List Int) (w:Int) (b:Rb):cntP since w b=(((plQ w (cQ b)).countP (sigP since):Nat):Int):=ctR_Q _ _ _ _ _ _
theorem cRows_len (x y bw:Int):∀ m,(cRows x y bw m).length=m*bw.toNat
 | 0=>by simp[cRows]
 | m+1=>by rw[cRows_succ,List.length_append,cRows_len x y bw m,Nat.succ_mul];simp[cRow]
theorem cQ_len {w:Int} {b:Rb} (h0:0<=b.w) (h1:0<=b.h):(((plQ w (cQ b)).length:Nat):Int)=b.w*b.h:=by
 unfold plQ cQ
 rw[List.length_map,cRows_len,Int.natCast_mul,Int.mul_comm]
 rw[show((b.w.toNat:Nat):Int)=b.w by omega,show((b.h.toNat:Nat):Int)=b.h by omega]
theorem mem_cRow {x y:Int} {m:Nat} {q:Int×Int}:q∈cRow x y m↔q.1=y/\x<=q.2/\q.2<x+m:=by
 unfold cRow
 rw[List.mem_map]
 constructor
 ·rintro⟨i,hi,rfl⟩
  have:=List.mem_range.1 hi
  exact⟨rfl,show x<=x+(i:Int) by omega,show x+(i:Int)<x+(m:Int) by omega⟩
 ·rintro⟨h1,h2,h3⟩
  refine⟨(q.2-x).toNat,List.mem_range.2 (by omega),?_⟩
  rw[<-h1]
  exact Prod.ext rfl (by simp only;omega)
def sameB (w:Int) (b:Rb) (B:Pb) (i:Nat):Prop:=B.places=plQ w (cQ b)/\B.parent=b.par/\b.par<i/\0<=b.w/\0<=b.h
def onR (w:Int) (bks:List Rb) (i:Nat) (s:StS) (on:List Bool):Prop:=
 s.list.length=bks.length/\on.length=bks.length/\(∀ j,j<i->rdB on j=(rdBk s.list j).on)/\(∀ j,i<=j->j<bks.length->rdB on j=false)/\∀ j,j<bks.length->sameB w (rdRb bks j) (rdBk s.list j).b j
theorem old_sig {w:Int} {B:List Int} {n:Int} {k N:Nat} {s:StS} {r:RwS} {l:List Int} {p:Int} (H:rl w B n k N s r l) (hp:0<=p/\p<N) (hm:p∈l):oldP s p↔0<=rd r.since p:=by
 obtain⟨a1,a2,a3,a4,a5,a6,a7,a8,a9,a10,a11,a12⟩:=H
 obtain⟨i,rfl⟩:∃ i:Nat,p=i:=⟨p.toNat,by omega⟩
 obtain⟨b1,b2,b3,b4,b5⟩:=a11 i (by omega)
 obtain⟨c1,c2⟩:=a12 i hm
 unfold oldP
 rw[a4,b1]
 omega
theorem onR.set {w:Int} {bks:List Rb} {i:Nat} {s s':StS} {on:List Bool} {v:Bool} (H:onR w bks i s on) (hi:i<bks.length) (hl:s'.list=onBk s.list i v):onR w bks (i+1) s' (on.set i v):=by
 obtain⟨h1,h2,h3,h4,h5⟩:=H
 refine⟨by rw[hl,onBk_len,h1],by rw[List.length_set,h2],fun j hj=>?_,fun j hj hj2=>?_,fun j hj=>?_⟩
 ·rw[hl]
  by_cases e:i=j
  ·subst e
   rw[rdB_st_same (by omega),onBk_at (by omega)]
  ·rw[rdB_st_ne e,onBk_ne e]
   exact h3 j (by omega)
 ·rw[rdB_st_ne (by omega)]
  exact h4 j (by omega) hj2
 ·rw[hl]
  by_cases e:i=j
  ·subst e
   rw[onBk_at (by omega)]
   exact h5 i hi
  ·rw[onBk_ne e]
   exact h5 j hj
theorem ab_eq {w:Int} {bks:List Rb} {i:Nat} {s:StS} {on:List Bool} {q:Int} {v:Bool} (H:onR w bks i s on) (hq:q<i):abP (setOn s i v) q=aboveP on q:=by
 obtain⟨h1,h2,h3,h4,h5⟩:=H
 unfold abP aboveP
 by_cases h:0<=q
 ·rw[if_pos h,if_pos h]
  have e:(rdBk (setOn s i v).list q.toNat).on=rdB on q:=by
   show(rdBk (onBk s.list i v) q.toNat).on=_
   rw[onBk_ne (by omega),<-h3 q.toNat (by omega),show((q.toNat:Nat):Int)=q by omega]
  rw[e]
  split<;>rfl
 ·rw[if_neg h,if_neg h]
theorem rask_on (w:Int) (b:Rb) (x:RsS) (k:Nat) (h:cntP x.s.since w b<b.w*b.h):rask w b x k=⟨⟨x.s.known,x.s.minus,x.s.since,rbS x.s.d x.s.fail (rctxB x.s.since x.on w b),rbE x.s.d x.s.fail (rctxB x.s.since x.on w b)⟩,x.on.set k (decide (rbB x.s.d x.s.fail (rctxB x.s.since x.on w b)=1))⟩:=if_pos h
theorem rask_off (w:Int) (b:Rb) (x:RsS) (k:Nat) (h:¬ cntP x.s.since w b<b.w*b.h):rask w b x k=x:=if_neg h
theorem bkt_eq {w:Int} {B:List Int} {n:Int} {k N:Nat} {f:List Int} {bands:List Bd} {bks:List Rb} {i:Nat} {s:StS} {x:RsS} {l:List Int} (hw:0<=w) (h0:0<=n) (hi:i<bks.length)
  (H:rl w B n k N s x.s (plQ w (cQ (rdRb bks i))++l)) (hn:(plQ w (cQ (rdRb bks i))++l).Nodup)
  (hq:∀ q∈cQ (rdRb bks i),0<=q.1*w+q.2/\q.1*w+q.2<N/\nbOk w B (rdBd bands (rdRb bks i).band) q.2 q.1 (q.1*w+q.2)) (ho:onR w bks i s x.on) :
  (bktG getG f k i s x.s.d).2.2=(rbk w n k bands (rdRb bks i) x i).s.fail/\((rbk w n k bands (rdRb bks i) x i).s.fail=0->(bktG getG f k i s x.s.d).2.1=(rbk w n k bands (rdRb bks i) x i).s.d /\
   rl w B n k N (bktG getG f k i s x.s.d).1 (rbk w n k bands (rdRb bks i) x i).s l/\onR w bks (i+1) (bktG getG f k i s x.s.d).1 (rbk w n k bands (rdRb bks i) x i).on):=by
 obtain⟨g1,g2,g3,g4,g5⟩:=ho.2.2.2.2 i hi
 have hlist:i<s.list.length:=by rw[ho.1];exact hi
 obtain⟨b,hb⟩:∃ b,rdRb bks i=b:=⟨_,rfl⟩
 rw[hb]at H hn hq g1 g2 g3 g4 g5 ⊢
 obtain⟨P,hP⟩:∃ P,(rdBk s.list i).b=P:=⟨_,rfl⟩
 rw[hP]at g1 g2
 have hsig:∀ p∈plQ w (cQ b),(oldP s p↔sigP x.s.since p=true):=fun p hp=>by
  obtain⟨q,hqm,rfl⟩:=List.mem_map.1 hp
  obtain⟨q1,q2,_⟩:=hq q hqm
  rw[old_sig H ⟨q1,q2⟩ (List.mem_append_left _ hp)]
  unfold sigP
  rw[decide_eq_true_eq]
 have hall:allP s P.places=true↔¬ cntP x.s.since w b<b.w*b.h:=by
  rw[cntP_Q,<-cQ_len (w:=w) g4 g5,g1]
  unfold allP
  rw[List.all_eq_true]
  have hle:=List.countP_le_length (p:=sigP x.s.since) (l:=plQ w (cQ b))
  have hce:=List.countP_eq_length (p:=sigP x.s.since) (l:=plQ w (cQ b))
  constructor
  ·intro h
   have:=hce.2 fun a ha=>(hsig a ha).1 (of_decide_eq_true (h a ha))
   omega
  ·intro h a ha
   exact decide_eq_true ((hsig a ha).2 (hce.1 (by omega) a ha))
 have hsome:someP s P.places=true↔0<cntP x.s.since w b:=by
  rw[cntP_Q,g1]
  unfold someP
  rw[List.any_eq_true]
  have hce:=List.countP_pos_iff (p:=sigP x.s.since) (l:=plQ w (cQ b))
  constructor
  ·rintro⟨a,ha,hd⟩
   have:=hce.2 ⟨a,ha,(hsig a ha).1 (of_decide_eq_true hd)⟩
   omega
  ·intro h
   obtain⟨a,ha,hd⟩:=hce.1 (by omega)
   exact⟨a,ha,decide_eq_true ((hsig a ha).2 hd)⟩
 have hctx:bctxP (setOn s i false) P=rctxB x.s.since x.on w b:=by
  have e:someP (setOn s i false) P.places=someP s P.places:=rfl
  unfold bctxP rctxB
  rw[g2,ab_eq ho g3,e]
  by_cases h:someP s P.places=true
  ·rw[if_pos h,if_pos (hsome.1 h)]
  ·rw[if_neg h,if_neg (fun h'=>h (hsome.2 h'))]
 have hf:=H.2.2.1
 rw[bktG_get,hP]
 unfold rbk
 rw[rRect_Q]
 have hQ:cRows b.x b.y b.w b.h.toNat=cQ b:=rfl
 rw[hQ]
 by_cases ha:allP s P.places=true
 ·rw[if_pos ha,rask_off w b x i (hall.1 ha),ho.2.2.2.1 i (Nat.le_refl _) hi,g1]
  have H':rl w B n k N (setOn s i false) x.s (plQ w (cQ b)++l):=H
  obtain⟨m1,m2⟩:=pls_eq (f:=f) (bd:=rdBd bands b.band) (on:=false) hw h0 (cQ b) _ _ l H' hn hq
  refine⟨m1,fun h=>?_⟩
  obtain⟨m3,m4⟩:=m2 h
  refine⟨m3,m4,?_⟩
  have hl:=plsG_list getG f k false (plQ w (cQ b)) (setOn s i false) x.s.d
  have:=ho.set (v:=false) (s':=(plsG getG f k false (plQ w (cQ b)) (setOn s i false) x.s.d).1) hi hl
  rw[<-ho.2.2.2.1 i (Nat.le_refl _) hi,setB_self (by rw[ho.2.1];exact hi)]at this
  rw[ho.2.2.2.1 i (Nat.le_refl _) hi]at this
  exact this
 ·have hc:cntP x.s.since w b<b.w*b.h:=by
   by_cases h:cntP x.s.since w b<b.w*b.h
   ·exact h
   ·exact absurd (hall.2 h) ha
  rw[if_neg ha,rask_on w b x i hc,hctx,hf,rbS_yes,rbE_yes,rbB_yes]
  simp only
  rw[rdB_st_same (by rw[ho.2.1];exact hi)]
  obtain⟨cx,hcx⟩:∃ c,rctxB x.s.since x.on w b=c:=⟨_,rfl⟩
  rw[hcx]
  obtain⟨v,hv⟩:∃ v,decide (gotB x.s.d cx=1)=v:=⟨_,rfl⟩
  rw[hv]
  by_cases he:gotE x.s.d cx=0
  ·rw[if_pos he,he]
   have H':rl w B n k N (setOn s i v) ⟨x.s.known,x.s.minus,x.s.since,gotS x.s.d cx,0⟩ (plQ w (cQ b)++l):=by
    obtain⟨a1,a2,a3,a4⟩:=H
    exact⟨a1,a2,rfl,a4⟩
   obtain⟨m1,m2⟩:=pls_eq (f:=f) (bd:=rdBd bands b.band) (on:=v) hw h0 (cQ b) _ _ l H' hn hq
   rw[g1]
   refine⟨m1,fun h=>?_⟩
   obtain⟨m3,m4⟩:=m2 h
   exact⟨m3,m4,ho.set hi (plsG_list getG f k v (plQ w (cQ b)) (setOn s i v) _)⟩
  ·rw[if_neg he]
   have:=rQ_no (w:=w) (n:=n) (t:=k) (bd:=rdBd bands b.band) (on:=v) (Q:=cQ b) (s:=⟨x.s.known,x.s.minus,x.s.since,gotS x.s.d cx,gotE x.s.d cx⟩) he
   exact⟨this.symm,fun h=>absurd (this.symm.trans h) he⟩
theorem rbk_no {w n t:Int} {bands:List Bd} {b:Rb} {x:RsS} {i:Nat} (h:¬ x.s.fail=0):(rbk w n t bands b x i).s.fail=x.s.fail:=by
 have e:(rask w b x i).s.fail=x.s.fail:=by
  unfold rask
  split
  ·exact rbE_no h
  ·rfl
 unfold rbk
 rw[rRect_Q,rQ_no (by rw[e];exact h),e]
def plB (w:Int) (l:List Rb):List Int:=l.flatMap fun b=>plQ w (cQ b)
def listOk (w:Int) (B:List Int) (N:Nat) (bands:List Bd) (bks:List Rb):Prop:=
 (plB w bks).Nodup/\∀ b∈bks,∀ q∈cQ b,0<=q.1*w+q.2/\q.1*w+q.2<N/\nbOk w B (rdBd bands b.band) q.2 q.1 (q.1*w+q.2)
theorem rSl_no {w n t:Int} {bands:List Bd} {bks:List Rb} {s:RwS} {k:Nat} (h:¬ (rSl w n t bands bks s k).s.fail=0):∀ m,(rSl w n t bands bks s (k+m)).s.fail=(rSl w n t bands bks s k).s.fail
 | 0=>rfl
 | m+1=>by
  have ih:=rSl_no h m
  rw[show k+(m+1)=(k+m)+1 by omega,rSl,rbk_no (by rw[ih];exact h),ih]
theorem slc_pre {w:Int} {B:List Int} {n:Int} {k N:Nat} {f:List Int} {bands:List Bd} {bks:List Rb} {s:StS} {r:RwS} (hw:0<=w) (h0:0<=n) (hL:listOk w B N bands bks)
  (H:rl w B n k N s r (plB w bks)) (ho:onR w bks 0 s (List.replicate bks.length false)) :
  ∀ i,i<=bks.length ->
   ((rSl w n k bands bks r i).s.fail=0->∃ s',rl w B n k N s' (rSl w n k bands bks r i).s (plB w (bks.drop i))/\onR w bks i s' (rSl w n k bands bks r i).on/\slcG getG f k bks.length 0 s r.d=slcG getG f k (bks.length-i) i s' (rSl w n k bands bks r i).s.d) /\
   (¬ (rSl w n k bands bks r i).s.fail=0->(slcG getG f k bks.length 0 s r.d).2.2=(rSl w n k bands bks r i).s.fail)
 | 0,_=>⟨fun _=>⟨s,H,ho,rfl⟩,fun h=>absurd H.2.2.1 h⟩
 | i+1,hi=>by
  obtain⟨ih1,ih2⟩:=slc_pre (f:=f) hw h0 hL H ho i (by omega)
  have hi':i<bks.length:=by omega
  by_cases hf:(rSl w n k bands bks r i).s.fail=0
  ·obtain⟨s',g1,g2,g3⟩:=ih1 hf
   have hd:plB w (bks.drop i)=plQ w (cQ (rdRb bks i))++plB w (bks.drop (i+1)):=by
    unfold plB
    rw[List.drop_eq_getElem_cons hi',List.flatMap_cons,rdRb_nat hi']
   have hnd:(plB w (bks.drop i)).Nodup:=by
    have e:plB w bks=plB w (bks.take i)++plB w (bks.drop i):=by
     unfold plB
     rw[<-List.flatMap_append,List.take_append_drop]
    have:=hL.1
    rw[e]at this
    exact(List.nodup_append.1 this).2.1
   rw[hd]at g1 hnd
   have hq:=hL.2 (rdRb bks i) (by rw[rdRb_nat hi'];exact List.getElem_mem _)
   obtain⟨m1,m2⟩:=bkt_eq (f:=f) hw h0 hi' g1 hnd hq g2
   rw[show bks.length-i=(bks.length-(i+1))+1 by omega,slcG]at g3
   rw[rSl]
   refine⟨fun h=>?_,fun h=>?_⟩
   ·obtain⟨m3,m4,m5⟩:=m2 h
    rw[if_pos (m1.trans h),m3]at g3
    exact⟨_,m4,m5,g3⟩
   ·rw[if_neg (by rw[m1];exact h)]at g3
    rw[g3,m1]
  ·have e:=rSl_no hf 1
   exact⟨fun h=>absurd (e.symm.trans h) hf,fun _=>(ih2 hf).trans e.symm⟩
theorem pls_kind {β:Type} (bit:β->Int->Bool->Bool×Int×β) (f:List Int) (t:Int) (on:Bool):∀ (l:List Int) (s:StS) (x:β),(plsG bit f t on l s x).1.kind=s.kind
 | [],s,x=>rfl
 | i::l,s,x=>by
  have h:=(numG_same bit s x i t on (digP f i t) (decide (rd f i<0))).2.2.2.2.2.1
  rw[plsG]
  split
  ·rw[pls_kind bit f t on l,h]
  ·exact h
theorem bkt_kind {β:Type} (bit:β->Int->Bool->Bool×Int×β) (f:List Int) (t:Int) (i:Nat) (s:StS) (x:β):(bktG bit f t i s x).1.kind=s.kind:=by
 unfold bktG
 split
 ·rw[pls_kind];rfl
 ·split
  ·rw[pls_kind];rfl
  ·rfl
theorem slc_kind {β:Type} (bit:β->Int->Bool->Bool×Int×β) (f:List Int) (t:Int):∀ (k i:Nat) (s:StS) (x:β),(slcG bit f t k i s x).1.kind=s.kind
 | 0,i,s,x=>rfl
 | k+1,i,s,x=>by
  rw[slcG]
  split
  ·rw[slc_kind bit f t k,bkt_kind]
  ·exact bkt_kind bit f t i s x
def rl0 (w:Int) (B:List Int) (n:Int) (K N:Nat) (bks:List Rb) (s:StS) (r:RwS):Prop:=
 s.w=w/\s.band=B/\r.fail=0/\s.now=n/\r.known=s.size/\r.minus=s.minus/\s.size.length=N/\s.minus.length=N/\s.since.length=N/\r.since.length=N /\
 (∀ i:Nat,i<N->rd r.since i=rd s.since i-1/\0<=rd s.since i/\rd s.since i<=n/\(rd s.since i=0->rd s.size i=0)/\mulP K (rd s.size i)) /\
 s.kind=r.d.kind/\s.list.length=bks.length/\∀ j,j<bks.length->sameB w (rdRb bks j) (rdBk s.list j).b j
theorem step_eq {w:Int} {B:List Int} {n:Int} {k N:Nat} {f:List Int} {bands:List Bd} {bks:List Rb} {s:StS} {r:RwS} (c:List Int) (hw:0<=w) (h0:0<=n) (hL:listOk w B N bands bks) (H:rl0 w B n (k+1) N bks s r) :
  (decStep f k s r.d.st c).2.2=(rStep w n k bands bks r c).fail/\((rStep w n k bands bks r c).fail=0->(decStep f k s r.d.st c).2.1.st=(rStep w n k bands bks r c).d.st/\rl0 w B (n+1) k N bks (decStep f k s r.d.st c).1 (rStep w n k bands bks r c)):=by
 obtain⟨a1,a2,a3,a4,a5,a6,a7,a8,a9,a10,a11,a12,a13,a14⟩:=H
 have hplm:∀ p:Nat,(p:Int)∈plB w bks->p<N:=fun p hp=>by
  obtain⟨b,hb,hp⟩:=List.mem_flatMap.1 hp
  obtain⟨q,hq,e⟩:=List.mem_map.1 hp
  have:=(hL.2 b hb q hq).2.1
  omega
 have Hr:rl w B n k N s ⟨r.known,r.minus,r.since,newDe s.kind r.d.st c,0⟩ (plB w bks):=
  ⟨a1,a2,rfl,a4,a5,a6,a7,a8,a9,a10,fun i hi=>by
   obtain⟨b1,b2,b3,b4,b5⟩:=a11 i hi
   exact⟨b1,b2,by omega,b4,mulP_half b5⟩,fun i hi=>by
   obtain⟨b1,b2,b3,b4,b5⟩:=a11 i (hplm i hi)
   exact⟨b3,b5⟩⟩
 have ho:onR w bks 0 s (List.replicate bks.length false):=⟨a13,List.length_replicate,fun j hj=>by omega,fun j _ hj=>by rw[rdB_lt _ _ (by rw[List.length_replicate];exact hj)];simp,a14⟩
 have hpre:=slc_pre (f:=f) hw h0 hL Hr ho bks.length (Nat.le_refl _)
 have hkd:=slc_kind getG f (k:Int) bks.length 0 s (newDe s.kind r.d.st c)
 have hsm:=(rSl_same w n k bands bks ⟨r.known,r.minus,r.since,newDe s.kind r.d.st c,0⟩ bks.length).1
 unfold decStep rStep
 rw[a13,<-a12]
 obtain⟨X,hX⟩:∃ X,rSl w n k bands bks ⟨r.known,r.minus,r.since,newDe s.kind r.d.st c,0⟩ bks.length=X:=⟨_,rfl⟩
 rw[hX]at hpre hsm ⊢
 simp only at hpre
 rw[Nat.sub_self,List.drop_length]at hpre
 by_cases hf:X.s.fail=0
 ·obtain⟨s',g1,g2,g3⟩:=hpre.1 hf
  rw[slcG]at g3
  rw[g3]at hkd ⊢
  obtain⟨c1,c2,c3,c4,c5,c6,c7,c8,c9,c10,c11,c12⟩:=g1
  refine⟨hf.symm,fun _=>⟨rfl,c1,c2,c3,by simp only;omega,c5,c6,c7,c8,c9,c10,c11,?_,g2.1,g2.2.2.2.2⟩⟩
  have e:X.s.d.kind=s.kind:=hsm.2.2.2.2.2
  rw[e]
  exact hkd
 ·exact⟨hpre.2 hf,fun h=>absurd h hf⟩
theorem decG_eq {w:Int} {B:List Int} {N:Nat} {f:List Int} {bands:List Bd} {bks:List Rb} (hw:0<=w) (hL:listOk w B N bands bks):∀ (cs:List (List Int)) (K:Nat) (n:Int) (s:StS) (r:RwS),0<=n->cs.length<=K->rl0 w B n K N bks s r ->
  (decG f cs ((K:Int)-1) s r.d.st).2=(rdG w bands bks cs n ((K:Int)-1) r).fail/\((rdG w bands bks cs n ((K:Int)-1) r).fail=0->(rdG w bands bks cs n ((K:Int)-1) r).known=(decG f cs ((K:Int)-1) s r.d.st).1.size/\(rdG w bands bks cs n ((K:Int)-1) r).minus=(decG f cs ((K:Int)-1) s r.d.st).1.minus)
 | [],K,n,s,r,h0,hl,H=>⟨H.2.2.1.symm,fun _=>⟨H.2.2.2.2.1,H.2.2.2.2.2.1⟩⟩
 | c::cs,0,n,s,r,h0,hl,H=>by simp at hl
 | c::cs,K+1,n,s,r,h0,hl,H=>by
  have e:((K+1:Nat):Int)-1=K:=by omega
  rw[e,decG,rdG]
  obtain⟨m1,m2⟩:=step_eq (f:=f) c hw h0 hL H
  by_cases hf:(rStep w n K bands bks r c).fail=0
  ·obtain⟨m3,m4⟩:=m2 hf
   rw[if_pos (m1.trans hf),if_pos hf,m3]
   exact decG_eq hw hL cs K (n+1) _ _ (by omega) (by simp only[List.length_cons]at hl;omega) m4
  ·rw[if_neg (by rw[m1];exact hf),if_neg hf]
   exact⟨m1,fun h=>absurd h hf⟩
theorem fI_snoc {α:Type} (l:List α) (x:α) (p:α->Bool):(l++[x]).findIdx? p=(l.findIdx? p).or (if p x=true then some l.length else none):=by
 rw[List.findIdx?_append]
 cases h:l.findIdx? p<;>by_cases e:p x=true<;>simp[List.findIdx?_cons,e]
theorem rps_row (bs:List Bd) (O:List Rb) (k j a I J:Nat):∀ n,rpS (rbRow bs O k j n) a I J=(rpS O a I J).or (if k=a/\J=j/\I<n then some (O.length+I)else none)
 | 0=>by simp[rbRow]
 | n+1=>by
  have ih:=rps_row bs O k j a I J n
  have hl:=rbRow_len bs O k j n
  have hh:hitR a I J (rbAt bs (rbRow bs O k j n) k j n)=decide (k=a/\n=I/\j=J):=by
   unfold hitR rbAt
   simp only
   rw[decide_eq_decide]
   omega
  rw[rbRow]
  unfold rpS at ih ⊢
  rw[fI_snoc,ih,hh,hl,Option.or_assoc]
  congr 1
  by_cases c1:k=a/\J=j/\I<n
  ·rw[if_pos c1,Option.some_or,if_pos ⟨c1.1,c1.2.1,by omega⟩]
  ·rw[if_neg c1]
   by_cases c2:k=a/\n=I/\j=J
   ·rw[if_pos (decide_eq_true c2),if_pos ⟨c2.1,c2.2.2.symm,by omega⟩,c2.2.1];rfl
   ·rw[if_neg (by rw[decide_eq_true_eq];exact c2),if_neg (by omega)];rfl
theorem rps_band (bs:List Bd) (O:List Rb) (k a I J:Nat):∀ m,rpS (rbBand bs O k m) a I J=(rpS O a I J).or (if k=a/\J<m/\I<(colsB (rdBd bs k)).toNat then some (O.length+J*(colsB (rdBd bs k)).toNat+I)else none)
 | 0=>by simp[rbBand]
 | m+1=>by
  rw[rbBand,rps_row,rps_band bs O k a I J m,rbBand_len,Option.or_assoc]
  congr 1
  by_cases c1:k=a/\J<m/\I<(colsB (rdBd bs k)).toNat
  ·rw[if_pos c1,Option.some_or,if_pos ⟨c1.1,by omega,c1.2.2⟩]
  ·rw[if_neg c1]
   by_cases c2:k=a/\J=m/\I<(colsB (rdBd bs k)).toNat
   ·rw[if_pos c2,if_pos ⟨c2.1,by omega,c2.2.2⟩,c2.2.1];rfl
   ·rw[if_neg c2,if_neg (by omega)];rfl
theorem rps_all (bs:List Bd) (a I J:Nat):∀ K,rpS (rbAll bs K) a I J=if a<K/\J<(rowsB (rdBd bs a)).toNat/\I<(colsB (rdBd bs a)).toNat then some ((rbAll bs a).length+J*(colsB (rdBd bs a)).toNat+I)else none
 | 0=>by simp[rbAll,rpS]
 | K+1=>by
  rw[rbAll,rps_band,rps_all bs a I J K]
  by_cases c1:a<K/\J<(rowsB (rdBd bs a)).toNat/\I<(colsB (rdBd bs a)).toNat
  ·rw[if_pos c1,Option.some_or,if_pos ⟨by omega,c1.2⟩]
  ·rw[if_neg c1]
   by_cases c2:K=a
   ·subst c2
    by_cases c3:J<(rowsB (rdBd bs K)).toNat/\I<(colsB (rdBd bs K)).toNat
    ·rw[if_pos ⟨rfl,c3⟩,if_pos ⟨by omega,c3⟩];rfl
    ·rw[if_neg (fun h=>c3 h.2),if_neg (fun h=>c3 h.2)];rfl
   ·rw[if_neg (fun h=>c2 h.1),if_neg (fun h=>c1 ⟨by omega,h.2⟩)];rfl
def rbTo (bs:List Bd) (k j i:Nat):List Rb:=rbRow bs (rbBand bs (rbAll bs k) k j) k j i
theorem rbTo_lt {bs:List Bd} {k j i a I J:Nat} (ha:a<k) (hJ:J<(rowsB (rdBd bs a)).toNat) (hI:I<(colsB (rdBd bs a)).toNat):rpS (rbTo bs k j i) a I J=some ((rbAll bs a).length+J*(colsB (rdBd bs a)).toNat+I):=by
 unfold rbTo
 rw[rps_row,rps_band,rps_all,if_pos ⟨ha,hJ,hI⟩];rfl
theorem rbRow_mem {bs:List Bd} {O:List Rb} {k j:Nat} {b:Rb}:∀ {n:Nat},b∈rbRow bs O k j n->b∈O∨∃ i,i<n/\b=rbAt bs (rbRow bs O k j i) k j i
 | 0,h=>.inl h
 | n+1,h=>by
  rw[rbRow]at h
  rcases List.mem_append.1 h with h | h
  ·rcases rbRow_mem h with h | ⟨i,hi,e⟩
   ·exact .inl h
   ·exact .inr ⟨i,by omega,e⟩
  ·exact .inr ⟨n,by omega,List.mem_singleton.1 h⟩
theorem rbBand_mem {bs:List Bd} {O:List Rb} {k:Nat} {b:Rb}:∀ {m:Nat},b∈rbBand bs O k m->b∈O∨∃ j i,j<m/\i<(colsB (rdBd bs k)).toNat/\b=rbAt bs (rbRow bs (rbBand bs O k j) k j i) k j i
 | 0,h=>.inl h
 | m+1,h=>by
  rw[rbBand]at h
  rcases rbRow_mem h with h | ⟨i,hi,e⟩
  ·rcases rbBand_mem h with h | ⟨j,i,hj,hi,e⟩
   ·exact .inl h
   ·exact .inr ⟨j,i,by omega,hi,e⟩
  ·exact .inr ⟨m,i,by omega,hi,e⟩
theorem rbAll_mem {bs:List Bd} {b:Rb}:∀ {K:Nat},b∈rbAll bs K->∃ k j i,k<K/\j<(rowsB (rdBd bs k)).toNat/\i<(colsB (rdBd bs k)).toNat/\b=rbAt bs (rbTo bs k j i) k j i
 | 0,h=>by cases h
 | K+1,h=>by
  rw[rbAll]at h
  rcases rbBand_mem h with h | ⟨j,i,hj,hi,e⟩
  ·obtain⟨k,j,i,h1,h2⟩:=rbAll_mem h
   exact⟨k,j,i,by omega,h2⟩
  ·exact⟨K,j,i,by omega,hj,hi,e⟩
theorem rbTo_mem {bs:List Bd} {k j i:Nat} {b:Rb} (h:b∈rbTo bs k j i):b.band<=k:=by
 unfold rbTo at h
 rcases rbRow_mem h with h | ⟨i,hi,e⟩
 ·rcases rbBand_mem h with h | ⟨j,i,hj,hi,e⟩
  ·obtain⟨k',j,i,h1,h2,h3,e⟩:=rbAll_mem h
   rw[e];simp only[rbAt];omega
  ·rw[e];simp only[rbAt];omega
 ·rw[e];simp only[rbAt];omega
theorem rpG_late {bs:List Bd} {k j0 i0:Nat}:∀ (n k0:Nat) (i j:Int),k<=k0->rpG bs (rbTo bs k j0 i0) (rdBd bs k) n k0 i j=-1
 | 0,_,_,_,_=>rfl
 | n+1,k0,i,j,h=>by
  rw[rpG]
  split
  ·rename_i hm
   have hne:k≠k0:=fun e=>by rw[e]at hm;have:=hm.2;omega
   have e:∀ I J:Int,rpS (rbTo bs k j0 i0) k0 I J=none:=fun I J=>by
    refine fI_none fun m b hb=>?_
    have:=rbTo_mem (List.mem_of_getElem? hb)
    unfold hitR
    rw[decide_eq_false_iff_not]
    omega
   rw[e]
   exact rpG_late n (k0+1) _ _ (by omega)
  ·exact rpG_late n (k0+1) _ _ (by omega)
theorem gr_at (W:Int) {bs:List Bd}:∀ k,k<=bs.length->(bkFold W (bs.take k)).2.length=k/\∀ m,m<k->rdGr (bkFold W (bs.take k)).2 m=⟨rdBd bs m,(rbAll bs m).length⟩
 | 0,_=>⟨by simp[bkFold],fun m h=>by omega⟩
 | k+1,hk=>by
  obtain⟨h1,h2⟩:=gr_at W (bs:=bs) k (by omega)
  have e:(bkFold W (bs.take (k+1))).2=(bkFold W (bs.take k)).2++[⟨rdBd bs k,(bkFold W (bs.take k)).1.length⟩]:=by rw[bkFold_succ W (by omega)];rfl
  rw[e]
  refine⟨by rw[List.length_append,h1];rfl,fun m hm=>?_⟩
  by_cases c:m=k
  ·subst c
   unfold rdGr
   rw[List.getD_eq_getElem?_getD,List.getElem?_append_right (by omega),h1,Nat.sub_self,<-rbAll_bk W (bs:=bs) m (by omega)];rfl
  ·have:=h2 m (by omega)
   unfold rdGr at this ⊢
   rw[List.getD_eq_getElem?_getD,List.getElem?_append_left (by omega),<-List.getD_eq_getElem?_getD]
   exact this
theorem rpG_eq (W:Int) {bs:List Bd} {k j i:Nat} (hk:k<bs.length) (hb:∀ m,m<bs.length->1<=(rdBd bs m).w/\1<=(rdBd bs m).h) (h0:(rdBd bs k).kd≠0):∀ (n k0:Nat),k0<=k->k0+n=bs.length->(∀ m,m<k0->¬ hitG (rdGr (bkFold W (bs.take k)).2 m) (rdBd bs k)) ->
  rpG bs (rbTo bs k j i) (rdBd bs k) n k0 i j=parP (bkFold W (bs.take k)).2 (findG (bkFold W (bs.take k)).2 (rdBd bs k)) j i
 | 0,k0,h1,h2,h3=>by omega
 | n+1,k0,h1,h2,h3=>by
  obtain⟨g1,g2⟩:=gr_at W k (by omega:k<=bs.length)
  by_cases e:k0=k
  ·subst e
   rw[rpG_late _ _ _ _ (Nat.le_refl _),findG_none (fun m hm=>h3 m (by omega))]
   rfl
  ·have hlt:k0<k:=by omega
   have hg:=g2 k0 hlt
   rw[rpG]
   by_cases hm:(rdBd bs k0).kd=(rdBd bs k).kd/\(rdBd bs k0).lv=(rdBd bs k).lv+1
   ·rw[if_pos hm]
    obtain⟨b1,b2⟩:=hb k0 (by omega)
    obtain⟨I,hI⟩:∃ I:Nat,min ((i:Int) / 2) (colsB (rdBd bs k0)-1)=I:=⟨(min ((i:Int) / 2) (colsB (rdBd bs k0)-1)).toNat,by unfold colsB;omega⟩
    obtain⟨J,hJ⟩:∃ J:Nat,min ((j:Int) / 2) (rowsB (rdBd bs k0)-1)=J:=⟨(min ((j:Int) / 2) (rowsB (rdBd bs k0)-1)).toNat,by unfold rowsB;omega⟩
    rw[hI,hJ,rbTo_lt hlt (by omega) (by omega)]
    have hf:findG (bkFold W (bs.take k)).2 (rdBd bs k)=some k0:=findG_some (by omega) (by rw[hg];exact⟨h0,hm.1,hm.2⟩) (fun m h=>h3 m h)
    rw[hf]
    unfold parP
    simp only[hg,hI,hJ]
    rw[Int.natCast_add,Int.natCast_add,Int.natCast_mul,show(((colsB (rdBd bs k0)).toNat:Nat):Int)=colsB (rdBd bs k0) by omega]
   ·rw[if_neg hm]
    refine rpG_eq W hk hb h0 n (k0+1) (by omega) (by omega) fun m h=>?_
    by_cases c:m=k0
    ·subst c
     rw[hg]
     exact fun H=>hm ⟨H.2.1,H.2.2⟩
    ·exact h3 m (by omega)
theorem rpar_eq (W:Int) {bs:List Bd} {k:Nat} (j i:Nat) (hk:k<bs.length) (hb:∀ m,m<bs.length->1<=(rdBd bs m).w/\1<=(rdBd bs m).h):rpar bs (rbTo bs k j i) k i j=parP (bkFold W (bs.take k)).2 (findG (bkFold W (bs.take k)).2 (rdBd bs k)) j i:=by
 unfold rpar
 by_cases h0:(rdBd bs k).kd=0
 ·rw[if_pos h0,findG_none (fun m _ H=>H.1 h0)];rfl
 ·rw[if_neg h0]
  exact rpG_eq W hk hb h0 bs.length 0 (by omega) (by omega) (fun m h=>by omega)
theorem pl_row (w:Int) (X Y r c:Int) (b:Bd) (dy:Nat) (hX:X=b.x+4*c) (hY:Y=b.y+4*r) (m:Nat):plQ w (cRow X (Y+(dy:Nat)) m)=plRow w b r c dy m:=by
 unfold plQ cRow plRow
 rw[List.map_map]
 refine List.map_congr_left fun dx _=>?_
 simp only[Function.comp,plF]
 subst hX hY
 rw[show b.y+4*r+(dy:Int)=b.y+(r*4+dy) by omega]
 omega
theorem pl_eq (w:Int) (b:Bd) (r c:Int) (q:Rb) (hx:q.x=b.x+4*c) (hy:q.y=b.y+4*r) (hw:q.w=min 4 (b.w-4*c)) (hh:q.h=min 4 (b.h-4*r)):plQ w (cQ q)=plAll w b r c (khB b r).toNat:=by
 have e1:q.h.toNat=(khB b r).toNat:=by unfold khB;omega
 have e2:q.w.toNat=(kwB b c).toNat:=by unfold kwB;omega
 unfold cQ
 rw[e1,hx,hy]
 obtain⟨m,hm⟩:∃ m,(khB b r).toNat=m:=⟨_,rfl⟩
 rw[hm]
 clear hm
 induction m with
 | zero=>rfl
 | succ m ih=>rw[cRows_succ,plQ_app,ih,plAll_succ,e2,pl_row w _ _ r c b m rfl rfl]
def kyR (w:Int) (b:Rb):List Int×Int:=(plQ w (cQ b),b.par)
def kyP (B:Pb):List Int×Int:=(B.places,B.parent)
theorem ky_row (w:Int) {bs:List Bd} {k:Nat} (hk:k<bs.length) (hb:∀ m,m<bs.length->1<=(rdBd bs m).w/\1<=(rdBd bs m).h) (j:Nat):∀ n,(rbTo bs k j n).map (kyR w)=(rbBand bs (rbAll bs k) k j).map (kyR w)++(bkRow w (bkFold w (bs.take k)).2 (rdBd bs k) j n).map kyP
 | 0=>by simp[rbTo,rbRow,bkRow]
 | n+1=>by
  have ih:=ky_row w hk hb j n
  have e:rbTo bs k j (n+1)=rbTo bs k j n++[rbAt bs (rbTo bs k j n) k j n]:=rfl
  rw[e,List.map_append,ih,bkRow_succ,List.map_append,List.append_assoc]
  congr 2
  simp only[List.map_cons,List.map_nil,kyR,kyP,bkAt]
  rw[pl_eq w (rdBd bs k) j n (rbAt bs (rbTo bs k j n) k j n) rfl rfl rfl rfl]
  have:(rbAt bs (rbTo bs k j n) k j n).par=rpar bs (rbTo bs k j n) k n j:=rfl
  rw[this,rpar_eq w j n hk hb]
theorem ky_band (w:Int) {bs:List Bd} {k:Nat} (hk:k<bs.length) (hb:∀ m,m<bs.length->1<=(rdBd bs m).w/\1<=(rdBd bs m).h):∀ m,(rbBand bs (rbAll bs k) k m).map (kyR w)=(rbAll bs k).map (kyR w)++(bkBand w (bkFold w (bs.take k)).2 (rdBd bs k) m).map kyP
 | 0=>by simp[rbBand,bkBand]
 | m+1=>by
  have e:rbBand bs (rbAll bs k) k (m+1)=rbTo bs k m (colsB (rdBd bs k)).toNat:=rfl
  rw[e,ky_row w hk hb,ky_band w hk hb m,bkBand_succ,List.map_append,List.append_assoc]
theorem ky_all (w:Int) {bs:List Bd} (hb:∀ m,m<bs.length->1<=(rdBd bs m).w/\1<=(rdBd bs m).h):∀ k,k<=bs.length->(rbAll bs k).map (kyR w)=(bkFold w (bs.take k)).1.map kyP
 | 0,_=>by simp[rbAll,bkFold]
 | k+1,hk=>by
  rw[rbAll,ky_band w (by omega) hb,ky_all w hb k (by omega),bkFold_succ w (by omega)]
  unfold bkStep
  simp only[List.map_append]
def parLt (l:List Rb):Prop:=∀ i,i<l.length->(rdRb l i).par<i
theorem parLt.snoc {l:List Rb} {b:Rb} (H:parLt l) (h:b.par<l.length):parLt (l++[b]):=fun i hi=>by
 by_cases e:i<l.length
 ·have:=H i e
  unfold rdRb at this ⊢
  rw[List.getD_eq_getElem?_getD,List.getElem?_append_left e,<-List.getD_eq_getElem?_getD]
  exact this
 ·have e2:i=l.length:=by simp only[List.length_append,List.length_singleton]at hi;omega
  subst e2
  unfold rdRb
  rw[List.getD_eq_getElem?_getD,List.getElem?_append_right (Nat.le_refl _),Nat.sub_self]
  exact h
theorem parLt_row {bs:List Bd} {O:List Rb} {k j:Nat} (H:parLt O):∀ n,parLt (rbRow bs O k j n)
 | 0=>H
 | n+1=>(parLt_row H n).snoc (rpar_lt _ _ _ _ _)
theorem parLt_band {bs:List Bd} {O:List Rb} {k:Nat} (H:parLt O):∀ m,parLt (rbBand bs O k m)
 | 0=>H
 | m+1=>parLt_row (parLt_band H m) _
theorem parLt_all {bs:List Bd}:∀ k,parLt (rbAll bs k)
 | 0=>fun i hi=>by simp[rbAll]at hi
 | k+1=>parLt_band (parLt_all k) _
theorem co_inj {w y x y' x':Int} (h0:0<=x) (h1:x<w) (g0:0<=x') (g1:x'<w) (e:y*w+x=y'*w+x'):y=y'/\x=x':=by
 by_cases a:y<y'
 ·have:=Int.mul_le_mul_of_nonneg_right (show y+1<=y' by omega) (show 0<=w by omega)
  rw[Int.add_mul,Int.one_mul]at this
  omega
 ·by_cases b:y'<y
  ·have:=Int.mul_le_mul_of_nonneg_right (show y'+1<=y by omega) (show 0<=w by omega)
   rw[Int.add_mul,Int.one_mul]at this
   omega
  ·have e2:y=y':=by omega
   subst e2
   omega
theorem co_nn {w y x:Int} (hw:0<=w) (hy:0<=y) (hx:0<=x):0<=y*w+x:=by have:=Int.mul_nonneg hy hw;omega
theorem co_lt {w h y x:Int} (hy:0<=y) (hy1:y<h) (hx:0<=x) (hx1:x<w):y*w+x<w*h:=by
 have:=Int.mul_le_mul_of_nonneg_right (show y+1<=h by omega) (show 0<=w by omega)
 rw[Int.add_mul,Int.one_mul,Int.mul_comm h w]at this
 omega
theorem brow_rd {W:Int} {b:Bd} {i:Int} {B:List Int} {y:Nat} {Y X:Int} (x0:0<=X) (x1:X<W) (b0:0<=b.x) (y0:0<=b.y) (Y0:0<=Y) (hl:Y*W+X<B.length):∀ k:Nat,b.x+k<=W->rd (brow W b i B y k) (Y*W+X)=if Y=b.y+y/\b.x<=X/\X<b.x+k then i else rd B (Y*W+X)
 | 0,_=>by
  rw[if_neg (by omega)];rfl
 | k+1,hk=>by
  have ih:=brow_rd (i:=i) (B:=B) (y:=y) x0 x1 b0 y0 Y0 hl k (by omega)
  have hp:=co_nn (w:=W) (by omega) Y0 x0
  have hlen:=brow_len W b i B y k
  rw[brow_succ]
  have hq:=co_nn (w:=W) (y:=b.y+y) (x:=b.x+k) (by omega) (by omega) (by omega)
  obtain⟨p,hpp⟩:∃ p:Nat,Y*W+X=p:=⟨(Y*W+X).toNat,by omega⟩
  obtain⟨q,hqq⟩:∃ q:Nat,(b.y+y)*W+b.x+k=q:=⟨((b.y+y)*W+b.x+k).toNat,by omega⟩
  rw[hqq,Int.toNat_natCast]
  by_cases e:q=p
  ·subst e
   have:=co_inj (y:=Y) (y':=b.y+y) (x':=b.x+k) x0 x1 (by omega) (by omega) (by omega)
   rw[hpp,rd_st_same (by omega),if_pos (by omega)]
  ·have hne:¬ (Y=b.y+y/\X=b.x+k):=fun h=>e (by rw[h.1,h.2]at hpp;omega)
   rw[hpp]at ih ⊢
   rw[rd_st_ne e,ih]
   by_cases c:Y=b.y+y/\b.x<=X/\X<b.x+k
   ·rw[if_pos c,if_pos (by omega)]
   ·rw[if_neg c,if_neg (by omega)]
theorem ball_rd {W:Int} {b:Bd} {i:Int} {B:List Int} {Y X:Int} (x0:0<=X) (x1:X<W) (b0:0<=b.x) (y0:0<=b.y) (w0:0<=b.w) (w1:b.x+b.w<=W) (Y0:0<=Y) (hl:Y*W+X<B.length):∀ m:Nat,rd (ball W b i B m) (Y*W+X)=if b.y<=Y/\Y<b.y+m/\b.x<=X/\X<b.x+b.w then i else rd B (Y*W+X)
 | 0=>by rw[if_neg (by omega)];rfl
 | m+1=>by
  rw[ball_succ,brow_rd x0 x1 b0 y0 Y0 (by rw[ball_len];exact hl) _ (by omega),ball_rd x0 x1 b0 y0 w0 w1 Y0 hl m]
  by_cases c:Y=b.y+m/\b.x<=X/\X<b.x+(b.w.toNat:Nat)
  ·rw[if_pos c,if_pos (by omega)]
  ·rw[if_neg c]
   by_cases d:b.y<=Y/\Y<b.y+m/\b.x<=X/\X<b.x+b.w
   ·rw[if_pos d,if_pos (by omega)]
   ·rw[if_neg d,if_neg (by omega)]
def bsOk (w h:Int) (bs:List Bd):Prop:=(∀ k,k<bs.length->0<=(rdBd bs k).x/\0<=(rdBd bs k).y/\1<=(rdBd bs k).w/\1<=(rdBd bs k).h/\(rdBd bs k).x+(rdBd bs k).w<=w/\(rdBd bs k).y+(rdBd bs k).h<=h) /\
 (∀ (a c:Nat) (y x:Int),a<bs.length->c<bs.length->inBd (rdBd bs a) y x=true->inBd (rdBd bs c) y x=true->a=c) /\
 ∀ y x:Int,0<=y->y<h->0<=x->x<w->∃ k:Nat,k<bs.length/\inBd (rdBd bs k) y x=true
theorem in_iff {b:Bd} {y x:Int}:inBd b y x=true↔b.x<=x/\x<b.x+b.w/\b.y<=y/\y<b.y+b.h:=by unfold inBd;rw[decide_eq_true_eq]
theorem bfold_rd {w h:Int} {bs:List Bd} (H:bsOk w h bs) {k:Nat} (hk:k<bs.length) {Y X:Int} (hin:inBd (rdBd bs k) Y X=true):∀ K,k<K->K<=bs.length->rd (bfold w bs (w*h).toNat K) (Y*w+X)=k
 | 0,h,_=>by omega
 | K+1,h1,h2=>by
  obtain⟨b1,b2,b3,b4,b5,b6⟩:=H.1 K (by omega)
  obtain⟨c1,c2,c3,c4,c5,c6⟩:=H.1 k hk
  have hi:=in_iff.1 hin
  have hlt:=co_lt (w:=w) (h:=h) (y:=Y) (x:=X) (by omega) (by omega) (by omega) (by omega)
  have hnn:=co_nn (w:=w) (y:=Y) (x:=X) (by omega) (by omega) (by omega)
  rw[bfold,ball_rd (by omega) (by omega) b1 b2 (by omega) b5 (by omega) (by rw[bfold_len];omega)]
  by_cases e:k=K
  ·subst e
   rw[if_pos (by omega)]
  ·rw[if_neg fun hh=>e (H.2.1 k K Y X hk (by omega) hin (in_iff.2 (by omega)))]
   exact bfold_rd H hk hin K (by omega) (by omega)
theorem emod_co {y w c:Int} (h0:0<=c) (h1:c<w):(y*w+c) % w=c:=by
 rw[Int.add_comm,Int.add_mul_emod_self_right]
 exact Int.emod_eq_of_lt h0 h1
theorem nb_ok {w h:Int} {bs:List Bd} (H:bsOk w h bs) {k:Nat} (hk:k<bs.length) {y c:Int} (hin:inBd (rdBd bs k) y c=true):nbOk w (bfold w bs (w*h).toNat bs.length) (rdBd bs k) c y (y*w+c):=by
 obtain⟨c1,c2,c3,c4,c5,c6⟩:=H.1 k hk
 have hi:=in_iff.1 hin
 have hB:∀ {m:Nat} {Y X:Int},m<bs.length->inBd (rdBd bs m) Y X=true->rd (bfold w bs (w*h).toNat bs.length) (Y*w+X)=m:=fun hm hin=>bfold_rd H hm hin bs.length hm (Nat.le_refl _)
 have hp:=hB hk hin
 refine⟨?_,?_⟩
 ·rw[emod_co (by omega) (by omega),hp,show y*w+c-1=y*w+(c-1) by omega]
  constructor
  ·rintro⟨g1,g2⟩
   obtain⟨m,hm,hin2⟩:=H.2.2 y (c-1) (by omega) (by omega) (by omega) (by omega)
   rw[hB hm hin2]at g2
   obtain rfl:m=k:=by omega
   have:=in_iff.1 hin2
   omega
  ·intro g
   exact⟨by omega,hB hk (in_iff.2 (by omega))⟩
 ·have e:y*w+c-w=(y-1)*w+c:=by rw[Int.sub_mul,Int.one_mul];omega
  rw[hp,e]
  constructor
  ·rintro⟨g1,g2⟩
   have hy:1<=y:=by
    by_cases h1:1<=y
    ·exact h1
    ·have:y=0:=by omega
     subst this
     rw[Int.zero_mul]at g1
     omega
   obtain⟨m,hm,hin2⟩:=H.2.2 (y-1) c (by omega) (by omega) (by omega) (by omega)
   rw[hB hm hin2]at g2
   obtain rfl:m=k:=by omega
   have:=in_iff.1 hin2
   omega
  ·intro g
   refine⟨?_,hB hk (in_iff.2 (by omega))⟩
   have:=Int.mul_le_mul_of_nonneg_right (show 1<=y by omega) (show 0<=w by omega)
   rw[Int.one_mul]at this
   omega
theorem bn_one {w h n:Int} (hb:bnOk w h n) {y x:Int} (y0:0<=y) (y1:y<h) (x0:0<=x) (x1:x<w):cov (bnL w h n) y x=1:=by
 obtain⟨q1,q2,q3,q4,q5,q6⟩:=id hb
 obtain⟨w,rfl⟩:∃ k:Nat,w=k:=⟨w.toNat,by omega⟩
 obtain⟨h,rfl⟩:∃ k:Nat,h=k:=⟨h.toNat,by omega⟩
 obtain⟨n,rfl⟩:∃ k:Nat,n=k:=⟨n.toNat,by omega⟩
 obtain⟨y,rfl⟩:∃ k:Nat,y=k:=⟨y.toNat,by omega⟩
 obtain⟨x,rfl⟩:∃ k:Nat,x=k:=⟨x.toNat,by omega⟩
 have hcov:=cov_all (w:=w) (h:=h) (n:=n) (by omega) (by omega) y x (by omega) (by omega)
 have hbn:bnL (w:Int) h n=keptBd (bdD w h n n):=by unfold bnL bnA;rw[if_pos hb];simp
 rw[hbn]
 exact hcov
theorem cov_two {l:List Bd} {a c:Nat} (hac:a<c) (hc:c<l.length) {y x:Int} (h1:inBd (rdBd l a) y x=true) (h2:inBd (rdBd l c) y x=true):2<=cov l y x:=by
 have e:=cov_take hc y x
 rw[if_pos h2]at e
 have h3:0<cov (l.take c) y x:=by
  unfold cov
  refine List.countP_pos_iff.2 ⟨rdBd l a,?_,h1⟩
  rw[rdBd_nat (by omega)]
  exact List.mem_take_iff_getElem.2 ⟨a,by omega,rfl⟩
 have h4:cov (l.take (c+1)) y x<=cov l y x:=(List.take_sublist _ _).countP_le
 omega
theorem bn_ok {w h n:Int} (hb:bnOk w h n):bsOk w h (bnL w h n):=by
 have hin:∀ k,k<(bnL w h n).length->0<=(rdBd (bnL w h n) k).x/\0<=(rdBd (bnL w h n) k).y/\1<=(rdBd (bnL w h n) k).w/\1<=(rdBd (bnL w h n) k).h/\(rdBd (bnL w h n) k).x+(rdBd (bnL w h n) k).w<=w/\(rdBd (bnL w h n) k).y+(rdBd (bnL w h n) k).h<=h:=fun k hk=>by
  have:=bnL_in hb (rdBd_mem hk);omega
 refine⟨hin,fun a c y x ha hc h1 h2=>?_,fun y x y0 y1 x0 x1=>?_⟩
 ·have i1:=in_iff.1 h1
  have i2:=hin a ha
  have h3:=bn_one hb (y:=y) (x:=x) (by omega) (by omega) (by omega) (by omega)
  by_cases l1:a<c
  ·have:=cov_two l1 hc h1 h2;omega
  ·by_cases l2:c<a
   ·have:=cov_two l2 ha h2 h1;omega
   ·omega
 ·have h3:=bn_one hb y0 y1 x0 x1
  unfold cov at h3
  obtain⟨b,hbm,hb2⟩:=List.countP_pos_iff.1 (show 0<(bnL w h n).countP fun b=>inBd b y x by omega)
  obtain⟨k,hk,rfl⟩:=List.mem_iff_getElem.1 hbm
  exact⟨k,hk,by rw[rdBd_nat hk];exact hb2⟩
theorem memQ {b:Rb} {q:Int×Int} (h:q∈cQ b):b.y<=q.1/\q.1<b.y+b.h/\b.x<=q.2/\q.2<b.x+b.w:=by
 unfold cQ cRows at h
 obtain⟨i,hi,hq⟩:=List.mem_flatMap.1 h
 have:=List.mem_range.1 hi
 obtain⟨a,c,d⟩:=mem_cRow.1 hq
 omega
theorem at_in {bs:List Bd} {O:List Rb} {k j i:Nat} {q:Int×Int} (h:q∈cQ (rbAt bs O k j i)):inBd (rdBd bs k) q.1 q.2=true/\(rdBd bs k).y+4*j<=q.1/\q.1<(rdBd bs k).y+4*j+4/\(rdBd bs k).x+4*i<=q.2/\q.2<(rdBd bs k).x+4*i+4:=by
 have:=memQ h
 simp only[rbAt]at this
 exact⟨in_iff.2 (by omega),by omega⟩
def dis (a b:Rb):Prop:=∀ q,q∈cQ a->∀ r,r∈cQ b->q≠r
theorem at_dis {w h:Int} {bs:List Bd} (H:bsOk w h bs) {k j i:Nat} (hk:k<bs.length) {b:Rb} (hb:b∈rbTo bs k j i):dis b (rbAt bs (rbTo bs k j i) k j i):=by
 have key:∀ {O:List Rb} {k' j' i':Nat},k'<bs.length->(k'≠k∨j'≠j∨i'≠i)->dis (rbAt bs O k' j' i') (rbAt bs (rbTo bs k j i) k j i):=fun {O k' j' i'} hk' hne q hq r hr e=>by
  subst e
  obtain⟨a1,a2⟩:=at_in hq
  obtain⟨b1,b2⟩:=at_in hr
  have:=H.2.1 k' k q.1 q.2 hk' hk a1 b1
  subst this
  omega
 unfold rbTo at hb
 rcases rbRow_mem hb with h | ⟨i',hi,e⟩
 ·rcases rbBand_mem h with h | ⟨j',i',hj,hi,e⟩
  ·obtain⟨k',j',i',h1,h2,h3,e⟩:=rbAll_mem h
   rw[e];exact key (by omega) (.inl (by omega))
  ·rw[e];exact key hk (.inr (.inl (by omega)))
 ·rw[e];exact key hk (.inr (.inr (by omega)))
theorem row_dis {w h:Int} {bs:List Bd} (H:bsOk w h bs) {k j:Nat} (hk:k<bs.length) (h0:(rbBand bs (rbAll bs k) k j).Pairwise dis):∀ n,(rbTo bs k j n).Pairwise dis
 | 0=>h0
 | n+1=>by
  have e:rbTo bs k j (n+1)=rbTo bs k j n++[rbAt bs (rbTo bs k j n) k j n]:=rfl
  rw[e,List.pairwise_append]
  exact⟨row_dis H hk h0 n,List.pairwise_singleton _ _,fun a ha b hb=>by rw[List.mem_singleton.1 hb];exact at_dis H hk ha⟩
theorem band_dis {w h:Int} {bs:List Bd} (H:bsOk w h bs) {k:Nat} (hk:k<bs.length) (h0:(rbAll bs k).Pairwise dis):∀ m,(rbBand bs (rbAll bs k) k m).Pairwise dis
 | 0=>h0
 | m+1=>row_dis H hk (band_dis H hk h0 m) _
theorem all_dis {w h:Int} {bs:List Bd} (H:bsOk w h bs):∀ k,k<=bs.length->(rbAll bs k).Pairwise dis
 | 0,_=>List.Pairwise.nil
 | k+1,hk=>band_dis H (by omega) (all_dis H k (by omega)) _
theorem cQ_nodup (b:Rb):(cQ b).Nodup:=by
 unfold cQ cRows List.Nodup
 rw[List.pairwise_flatMap]
 refine⟨fun dy _=>?_,?_⟩
 ·unfold cRow
  rw[List.pairwise_map]
  refine List.Pairwise.imp (fun {a c} (hac:a<c) e=>?_) (List.pairwise_lt_range (n:=b.w.toNat))
  have:=(Prod.ext_iff.1 e).2
  simp only at this
  omega
 ·refine List.Pairwise.imp (fun {a c} (hac:a<c) q hq r hr e=>?_) (List.pairwise_lt_range (n:=b.h.toNat))
  have h1:=(mem_cRow.1 hq).1
  have h2:=(mem_cRow.1 hr).1
  rw[e]at h1
  omega
theorem plB_nodup {w h:Int} {bs:List Bd} (H:bsOk w h bs):(plB w (rbAll bs bs.length)).Nodup:=by
 have e:plB w (rbAll bs bs.length)=((rbAll bs bs.length).flatMap cQ).map fun q=>q.1*w+q.2:=by
  unfold plB plQ
  rw[List.map_flatMap]
 have hn:((rbAll bs bs.length).flatMap cQ).Pairwise (·≠ ·):=by
  rw[List.pairwise_flatMap]
  exact⟨fun b _=>cQ_nodup b,all_dis H _ (Nat.le_refl _)⟩
 have hin:∀ q∈(rbAll bs bs.length).flatMap cQ,0<=q.2/\q.2<w:=fun q hq=>by
  obtain⟨b,hb,hq⟩:=List.mem_flatMap.1 hq
  obtain⟨k,j,i,h1,h2,h3,rfl⟩:=rbAll_mem hb
  have:=in_iff.1 (at_in hq).1
  have:=H.1 k h1
  omega
 rw[e]
 unfold List.Nodup
 rw[List.pairwise_map]
 refine hn.imp_of_mem fun {a c} ha hc hne e=>hne ?_
 obtain⟨h1,h2⟩:=hin a ha
 obtain⟨h3,h4⟩:=hin c hc
 obtain⟨e1,e2⟩:=co_inj h1 h2 h3 h4 e
 exact Prod.ext e1 e2
theorem list_ok {w h n:Int} (hb:bnOk w h n):listOk w (bandL w h n) (w*h).toNat (bnL w h n) (rbL w h n):=by
 have H:=bn_ok hb
 refine⟨plB_nodup H,fun b hbm q hq=>?_⟩
 obtain⟨k,j,i,h1,h2,h3,rfl⟩:=rbAll_mem hbm
 have hi:=(at_in hq).1
 have hi2:=in_iff.1 hi
 have hk:=H.1 k h1
 have hlt:=co_lt (w:=w) (h:=h) (y:=q.1) (x:=q.2) (by omega) (by omega) (by omega) (by omega)
 have hnn:=co_nn (w:=w) (y:=q.1) (x:=q.2) (by omega) (by omega) (by omega)
 exact⟨hnn,by omega,nb_ok H h1 hi⟩
theorem bk_same {w h n:Int} (hb:bnOk w h n) (kd:Int):∀ j,j<(rbL w h n).length->sameB w (rdRb (rbL w h n) j) (rdBk (st00 ⟨w,h,n,kd⟩).list j).b j:=fun j hj=>by
 have H:=bn_ok hb
 have hl:=rbL_len w h n
 have hk:(rbL w h n).map (kyR w)=(bkts w h n).map kyP:=by
  have:=ky_all w (bs:=bnL w h n) (fun m hm=>by have:=H.1 m hm;omega) (bnL w h n).length (Nat.le_refl _)
  rw[List.take_length]at this
  exact this
 have hj2:j<(bkts w h n).length:=by omega
 have hkj:kyR w (rbL w h n)[j]=kyP (bkts w h n)[j]:=by
  have h1:((rbL w h n).map (kyR w))[j]?=some (kyR w (rbL w h n)[j]):=by rw[List.getElem?_map,List.getElem?_eq_getElem hj];rfl
  have h2:((bkts w h n).map kyP)[j]?=some (kyP (bkts w h n)[j]):=by rw[List.getElem?_map,List.getElem?_eq_getElem hj2];rfl
  rw[hk,h2]at h1
  exact(Option.some.inj h1).symm
 have e:(rdBk (st00 ⟨w,h,n,kd⟩).list j).b=(bkts w h n)[j]:=by
  show(rdBk (bkOf (fun _=>nilLoc) (bkts w h n)) j).b=_
  rw[bkOf_at _ hj2]
  simp only[List.getD_eq_getElem?_getD,List.getElem?_eq_getElem hj2,Option.getD_some]
 rw[e]
 have e2:rdRb (rbL w h n) j=(rbL w h n)[j]:=rdRb_nat hj
 have hpar:=parLt_all (bs:=bnL w h n) (bnL w h n).length j hj
 have hpar:(rdRb (rbL w h n) j).par<j:=hpar
 have hin:=(rbL_ok hb).2.1 _ (List.getElem_mem hj)
 rw[e2]at hpar ⊢
 exact⟨(Prod.ext_iff.1 hkj).1.symm,(Prod.ext_iff.1 hkj).2.symm,hpar,hin.1.2.2.1,hin.1.2.2.2.2.1⟩
theorem rd_rep (N:Nat) (v:Int) {i:Nat} (h:i<N):rd (List.replicate N v) i=v:=by rw[rd_lt _ _ (by rw[List.length_replicate];exact h)];simp
theorem dec_eq {w h lv kd P:Int} {cs:List (List Int)}:decE w h lv kd P cs=rdE w h lv kd P cs/\decP w h lv kd P cs=rdP w h lv kd P cs:=by
 by_cases hok:decOk w h lv kd P cs.length
 ·obtain⟨⟨a1,a2,a3,a4,a5⟩,⟨b1,b2,b3⟩,c1,c2,c3⟩:=id hok
  have hb:bnOk w h lv:=⟨b1,b2,a1,a3,a2,a4⟩
  have hL:=list_ok hb
  have hl:=rbL_len w h lv
  obtain⟨K,hK⟩:∃ K:Nat,P=K:=⟨P.toNat,by omega⟩
  have h0:rl0 w (bandL w h lv) 0 K (w*h).toNat (rbL w h lv) (st00 ⟨w,h,lv,kd⟩) (rw0 w h kd):=
   ⟨rfl,rfl,rfl,rfl,rfl,rfl,List.length_replicate,List.length_replicate,List.length_replicate,List.length_replicate,fun i hi=>by
    simp only[st00,st0,rw0]
    rw[rd_rep _ _ hi,rd_rep _ _ hi]
    exact⟨by omega,by omega,by omega,fun _=>rfl,mulP_zero K⟩,rfl,by rw[hl];exact bkOf_len _ _,bk_same hb kd⟩
  obtain⟨m1,m2⟩:=decG_eq (f:=List.replicate (w*h).toNat 0) a1 hL cs K 0 _ _ (Int.le_refl _) (by omega) h0
  rw[<-hK]at m1 m2
  have e1:decE w h lv kd P cs=rdE w h lv kd P cs:=by
   unfold decE rdE
   rw[if_pos hok,if_pos hok]
   exact m1
  refine⟨e1,?_⟩
  unfold decP rdP
  rw[e1]
  by_cases hf:rdE w h lv kd P cs=0
  ·rw[if_pos hf,if_pos hf]
   have hf':(rdR w h lv kd P cs).fail=0:=by
    have:=hf
    unfold rdE at this
    rw[if_pos hok]at this
    exact this
   obtain⟨m3,m4⟩:=m2 hf'
   have e2:(rdR w h lv kd P cs).known=(decR w h lv kd P cs).1.size:=m3
   have e3:(rdR w h lv kd P cs).minus=(decR w h lv kd P cs).1.minus:=m4
   unfold plR plL pixF
   rw[e2,e3]
  ·rw[if_neg hf,if_neg hf]
 ·have e1:decE w h lv kd P cs=rdE w h lv kd P cs:=by
   unfold decE rdE
   rw[if_neg hok,if_neg hok]
  refine⟨e1,?_⟩
  unfold decP rdP
  have:¬ rdE w h lv kd P cs=0:=by unfold rdE;rw[if_neg hok];decide
  rw[e1,if_neg this,if_neg this]
def b20_1:IR:=
 .seq (r_ [b_ 58 .lss 57 56] []) (.seq (.cond (.t 58) (.skip) (.exit 0)) (.seq (.block 1 (.seq (r_ [m_ 59 57,i_ 60 55 57 1,o_ 61 (.ld true none 24 1 (.t 60)),m_ 16 59,m_ 17 61] [58,59,60,61]) (.seq (r_ [o_ 63 (.ld false (some 2) 0 0 (.t 15)),m_ 64 17,o_ 65 (.call (some 4) 25 59 [.t 63,.t 64]),m_ 62 65,e_ 66 62 0,e_ 67 62 1,m_ 18 66,m_ 19 67] [17,19,62,63,64,65,66,67]) (.seq (r_ [m_ 68 18,o_ 69 (.build [.val (.pointer none),.val (.pointer none),y_] [(1,1,.t 68)]),o_ 70 (.box 29 (.t 69)),m_ 20 70] [68,69,70]) (.seq (r_ [m_ 71 14,m_ 72 20,m_ 73 16,m_ 74 4,c_ 75 .sub 74 1,m_ 76 16,b_ 77 .sub 75 76,o_ 78 (.call none 30 60 [.t 71,.t 72,.t 73,.t 77,.k nilSV])] [16,71,72,73,74,75,76,77,78]) (.seq (.seq (r_ [m_ 79 20,n_ 80 79,f_ 81 80 2,l_ 82 81,c_ 83 .neq 82 0] [79,80,81,82]) (.cond (.t 83) (.seq (R_ [o_ 84 (.build [y_,y_,nilSV] []),m_ 85 20,n_ 86 85,f_ 87 86 2,⟨some 88,none,⟨[10],[]⟩,.ld false none 0 0 (.t 87)⟩,⟨none,none,⟨[],[10]⟩,.sto false 3 .i64 (.t 12) (.t 84)⟩,m_ 13 88] [0,1,4,14,15,18,20,55,56,57,83,84,85,86,87,88]) (.ret)) (.skip))) (r_ [m_ 89 18,n_ 90 89,f_ 91 90 0,o_ 92 (.ld false (some 2) 0 0 (.t 91)),s_ 2 .i64 15 92] [13,18,20,83,89,90,91,92]))))))) (r_ [a_ 93 57 1,m_ 57 93] [93])))
def b20_2:IR:=
 .seq (r_ [b_ 107 .lss 106 105] []) (.seq (.cond (.t 107) (.skip) (.exit 2)) (.seq (.block 3 (.seq (r_ [m_ 108 106,i_ 109 104 106 1,L_ 110 109,m_ 22 108,m_ 23 110] [107,108,109,110]) (.seq (r_ [m_ 111 23] [23]) (.cond (.t 111) (R_ [f_ 112 21 2,l_ 113 112,m_ 114 22,f_ 115 21 2,l_ 116 115,m_ 117 22,i_ 118 116 117 1,L_ 119 118,o_ 120 (.neg 0 (.t 119)),i_ 121 113 114 1,S_ 1 .i64 121 120] [22,111,112,113,114,115,116,117,118,119,120,121]) (.skip))))) (r_ [a_ 122 106 1,m_ 106 122] [22,111,122])))
def r20_3:IR:=
 .seq (r_ [o_ 123 (.ld false (some 3) 0 0 (.t 21)),s_ 3 .i64 12 123,z_ 13 0] [21,104,105,106,123]) (.ret)
def r20_4:IR:=
 .seq (r_ [m_ 94 0,m_ 95 1,m_ 96 14,n_ 97 96,f_ 98 97 4,l_ 99 98,o_ 100 (.build [y_,y_,nilSV] [(0,1,.t 94),(1,1,.t 95),(2,1,.t 99)]),o_ 21 (.alloc 34 [y_,y_,nilSV]),s_ 3 .i64 21 100] [0,1,4,15,55,56,57,94,95,96,97,98,99,100]) (.seq (.seq (r_ [m_ 101 14,n_ 102 101,f_ 103 102 5,l_ 104 103,h_ 105 104,z_ 106 0] [14,101,102,103]) (.block 2 (.loop b20_2))) (r20_3))
def ir20:IR:=
 .seq (r_ [o_ 12 (.alloc 10 [y_,y_,nilSV]),z_ 13 0] [13]) (.seq (.seq (r_ [m_ 24 0,m_ 25 1,o_ 26 (.callp 55 [.t 24,.t 25]),o_ 27 (.not (.t 26)),m_ 28 27,q_ 28 (m_ 29 3),q_ 28 (m_ 30 2),q_ 28 (o_ 31 (.callp 56 [.t 29,.t 30])),q_ 28 (o_ 32 (.not (.t 31))),k_ 33 28 32,m_ 34 33,q_ 34 (m_ 35 4),q_ 34 (c_ 36 .lss 35 0),k_ 37 34 36,m_ 38 37,q_ 38 (m_ 39 4),q_ 38 (c_ 40 .gtr 39 25),k_ 41 38 40,m_ 42 41,q_ 42 (m_ 43 5),q_ 42 (h_ 44 43),q_ 42 (m_ 45 4),q_ 42 (b_ 46 .gtr 44 45),k_ 47 42 46] [24,25,26,27,28,29,30,31,32,33,34,35,36,37,38,39,40,41,42,43,44,45,46]) (.cond (.t 47) (.seq (r_ [o_ 48 (.build [y_,y_,nilSV] []),s_ 3 .i64 12 48,z_ 13 2] [0,1,2,3,4,5,47,48]) (.ret)) (.skip))) (.seq (r_ [m_ 49 0,m_ 50 1,m_ 51 2,o_ 52 (.call (some 8) 11 57 [.t 49,.t 50,.t 51]),m_ 14 52] [2,13,47,49,50,51,52]) (.seq (r_ [m_ 53 3,o_ 54 (.call (some 4) 19 58 [.t 53]),o_ 15 (.alloc 23 [y_,nilSV]),s_ 2 .i64 15 54] [3,53,54]) (.seq (.seq (r_ [m_ 55 5,h_ 56 55,z_ 57 0] [5]) (.block 0 (.loop b20_1))) (r20_4)))))
def kp20_1:List Nat:=[0,1,4,12,14,15,55,56,57]
def kl20_1:List Nat:=[24,25,26,27,28,29,30,31,32,33]
attribute [push_cast] kp20_1 kl20_1
def kp20_2:List Nat:=[12,21,104,105,106]
def kl20_2:List Nat:=[]
attribute [push_cast] kp20_2 kl20_2
set_option maxRecDepth 4000 in
theorem comp20:(Try.f20.body.bind fun c=>compC tab isP chkAll ir20 c)=some ir20:=by kernel_rfl
def onSl (n:Nat):Option (Xf.Loc×List Bool)->SV
 | none=>.sl 4096 nilLoc0 1 0 0
 | some (O,_)=>.sl 17 O 1 0 n
def onCh:Option (Xf.Loc×List Bool)->List (Nat×Xf.Own×Xf.Loc×Xf.Chunk)->List (Nat×Xf.Own×Xf.Loc×Xf.Chunk)
 | none,r=>r
 | some (O,l),r=>(17,.mine,O,.bools l)::r
attribute [push_cast] onSl onCh
def fs20:FS where
 A:=DcA
 args:=fun a=>[.int .i64 a.w,.int .i64 a.h,.int .i64 a.lv,.int .i64 a.kd,.int .i64 a.P,.sl 0 a.L 1 0 a.n]
 mem:=fun a=>[some (.ro,a.L,.recs 1 false [] (a.rows.map byRc))]
 pre:=fun a=>rowsWf a.rows/\a.n<=a.rows.length
 res:=fun a x=>.tup [plV (rdP a.w a.h a.lv a.kd a.P a.cs) (lx (rdE a.w a.h a.lv a.kd a.P a.cs=0) x 0) 1,.int .i64 (rdE a.w a.h a.lv a.kd a.P a.cs)]
 out:=fun _ _=>[]
 new:=fun a x=>[(lx (rdE a.w a.h a.lv a.kd a.P a.cs=0) x 0,.ints .i64 (rdP a.w a.h a.lv a.kd a.P a.cs).xs)]
set_option maxRecDepth 8000 in
set_option maxHeartbeats 4000000 in
theorem ok20:FSOk Try.prog 20 fs20:=by
 refine⟨⟨_,Try.func20,by kernel_rfl,by kernel_rfl⟩,fun a=>⟨by simp[fs20,push_cast,noMine,argOwn,Chunk.frArg],by simp[fs20,push_cast,outOk,Chunk.ext],fun x=>.inl (by simp[fs20,push_cast,frNew,frOut,Chunk.fr])⟩,fun a hp=>?_⟩
 obtain⟨w,h,lv,kd,P,L,rows,n⟩:=a
 obtain⟨⟨h1,h2⟩,h3⟩:rowsWf rows/\n<=rows.length:=hp
 have hcs:(⟨w,h,lv,kd,P,L,rows,n⟩:DcA).cs=(rows.take n).map (·.2):=rfl
 have hcsl:((rows.take n).map (·.2)).length=n:=by rw[List.length_map,List.length_take];omega
 have hmapl:(rows.map byRc).length=rows.length:=List.length_map _
 change Tri Try.prog 20 [.int .i64 w,.int .i64 h,.int .i64 lv,.int .i64 kd,.int .i64 P,.sl 0 L 1 0 n] [some (.ro,L,.recs 1 false [] (rows.map byRc))] (postF fs20 ⟨w,h,lv,kd,P,L,rows,n⟩)
 obtain⟨CS,hCS⟩:∃ c,(rows.take n).map (·.2)=c:=⟨_,rfl⟩
 rw[hCS]at hcs hcsl
 obtain⟨E,hE⟩:∃ E,rdE w h lv kd P CS=E:=⟨_,rfl⟩
 obtain⟨Q,hQeq⟩:∃ Q,rdP w h lv kd P CS=Q:=⟨_,rfl⟩
 have hQ0:¬ E=0->Q=pl0:=fun h=>by rw[<-hQeq];unfold rdP;rw[hE,if_neg h]
 have hQ1:E=0->Q=⟨w,h,plR (rdR w h lv kd P CS)⟩:=fun h=>by rw[<-hQeq];unfold rdP;rw[hE,if_pos h]
 refine tri_evS (hyp (l:=[(57,ent57),(58,ent58),(59,ent59),(60,ent60)]) (lp:=[(55,szF),(56,styF)]) ⟨e57,e58,e59,e60,trivial⟩ ⟨p55,p56,trivial⟩) Try.func20 comp20 (rs:=[.cell 12 (some 3),.tmp 13]) (by rfl) Try.ntmps20 35 ?_
 have hmulb:0<=w->w<=200->0<=h->h<=200->0<=w*h/\w*h<=40000:=fun a b c d=>by have:=mul_bd a b c d;omega
 by_cases hok:decOk w h lv kd P n
 ·obtain⟨⟨a1,a2,a3,a4,a5⟩,hag,a6,a7,a8⟩:=id hok
  have hEE:E=(rdR w h lv kd P CS).fail:=by rw[<-hE];unfold rdE;rw[hcsl,if_pos hok]
  have hbn:bnOk w h lv:=⟨hag.1,hag.2.1,by omega,by omega,by omega,by omega⟩
  have hkd:=hag.2.2
  have hwh0:=(hmulb a1 a3 a2 a4).1
  have c6:¬ P<0:=by omega
  have c7:¬ 25<P:=by omega
  have c8:¬ P<n:=by omega
  have hs1:SidesOk w h:=by unfold SidesOk;omega
  have hs2:stOk kd lv:=⟨hkd,hag.1,hag.2.1⟩
  obtain⟨v1,v2,v3⟩:=rbL_ok hbn
  obtain⟨N,hN⟩:∃ N:Nat,w*h=(N:Int):=⟨(w*h).toNat,by omega⟩
  have hR:rdR w h lv kd P CS=rdG w (bnL w h lv) (rbL w h lv) CS 0 (P-1) (rw0 w h kd):=rfl
  have h00:=rw0_ok (kd:=kd) hwh0 hkd
  have hw0:rw0 w h kd=⟨List.replicate (w*h).toNat 0,List.replicate (w*h).toNat false,List.replicate (w*h).toNat (-1),newDe kd (List.replicate 12 0) [],0⟩:=rfl
  have hz12:([0,0,0,0,0,0,0,0,0,0,0,0]:List Int)=List.replicate 12 0:=rfl
  have c9:(N:Int)<=8192:=by omega
  simp -implicitDefEqProofs only[push_cast,zz,seval,ir20,fs57,fs58,c6,c7,c8,hs1,hs2,hkd,hbn,hN,c9,Int.toNat_natCast]
  repeat refine om_ ?_
  intro X
  repeat refine om_ ?_
  intro X1 X2
  repeat refine om_ ?_
  obtain⟨LB,hLB⟩:∃ L,lx (0<(bnL w h lv).length) (fun j=>X1 3 (11+j)) 0=L:=⟨_,rfl⟩
  rw[hLB,hz12]
  simp only[hN,Int.toNat_natCast]at hw0
  obtain⟨BN,hBN⟩:∃ B,bnL w h lv=B:=⟨_,rfl⟩
  obtain⟨BK,hBK⟩:∃ B,rbL w h lv=B:=⟨_,rfl⟩
  rw[hBN,hBK]at hR v2
  rw[hBK]at v1
  rw[hBN]at v3
  rw[hBN,hBK]
  refine evS_loopU (A:=Nat×RwS×Xf.Loc×Option (Xf.Loc×List Bool)) kp20_1 kl20_1 (fun y=>[(57,.int .i64 y.1)])
   (fun y=>onCh y.2.2.2 [(13,.mine,X1 3 13,.ints .i64 y.2.1.known),(14,.mine,X1 3 14,.bools y.2.1.minus),(15,.mine,X1 3 15,.ints .i64 y.2.1.since),(16,.mine,X1 3 16,.cells [.int .i64 w,.int .i64 h,.sl 11 LB (esz 6 BN.length) 0 BN.length,.sl 12 (X1 3 12) (esz 8 BK.length) 0 BK.length,.sl 13 (X1 3 13) 1 0 N,.sl 14 (X1 3 14) 1 0 N,.sl 15 (X1 3 15) 1 0 N,onSl BK.length y.2.2.2]),
    (19,.mine,y.2.2.1,.ints .i64 y.2.1.d.st),(23,.mine,X2 2 23,.cells [.int .i64 kd,.sl 19 y.2.2.1 1 0 12])])
   (fun y=>y.1<=n/\rdG w BN BK (CS.drop y.1) y.1 (P-1-y.1) y.2.1=rdR w h lv kd P CS/\rdOk w h (13421772800000*y.1) kd y.2.1/\(∀ O l,y.2.2.2=some (O,l)->l.length=BK.length)) (fun y=>n-y.1)
   (0,rw0 w h kd,X2 1 19,none) ⟨Nat.zero_le _,by simp only[List.drop_zero];rw[hR];congr 1;omega,by simpa using h00,fun _ _ h=>by cases h⟩ (Sub.pt ?_) ?_
  ·simp -implicitDefEqProofs only[push_cast,zz,seval,hw0,newDe]
  intro ⟨i,s,S,o⟩ ⟨(hi:i<=n),(hrows:rdG w BN BK (CS.drop i) i (P-1-i) s=rdR w h lv kd P CS),(hrd:rdOk w h (13421772800000*i) kd s),(ho:∀ O l,o=some (O,l)->l.length=BK.length)⟩ K hK
  by_cases hi':i<n
  ·have hii:(i:Int)<n:=by omega
   have hir:i<rows.length:=by omega
   have rr:=recAt_By hir []
   have hci:i<CS.length:=by omega
   have hrow:CS[i]=rows[i].2:=by
    simp only[<-hCS,List.getElem_map,List.getElem_take]
   have hcons:=rdG_cons w BN BK hci i (P-1-i) s
   rw[hrow,hrows]at hcons
   obtain⟨hby,hcl⟩:=h2 _ (List.getElem_mem hir)
   obtain⟨⟨LR,code⟩,hrc⟩:∃ r,rows[i]=r:=⟨_,rfl⟩
   rw[hrc]at rr hcons hby hcl
   simp only at rr hcons hby hcl
   obtain⟨t,ht⟩:∃ t:Int,P-1-(i:Int)=t:=⟨_,rfl⟩
   rw[ht]at hcons
   obtain⟨kn,mn,sn,d,fl⟩:=s
   obtain⟨y1,y2,y3,y4,y5,y6,y7,y8⟩:=id hrd
   simp only at y1 y2 y3 y4 y5 y6 y7 y8
   subst y7 y8
   have hSO:=rStep_ok (n:=i) (t:=t) (bands:=BN) (bks:=BK) hrd (by omega) v1 (by omega) (by omega) (by omega) (by omega) (fun b hb=>(v2 b hb).1) hby hcl
   have hsr:∀ p L LZ LS LC ol,srR ⟨p,⟨w,h,BN,BK,kn,mn,sn,ol⟩,LZ,L,LS,LC,⟨d.kind,d.st,0,4294967295,code,4,vN code 4,beyP code 4,false⟩,0,i,t⟩=rSl w i t BN BK ⟨kn,mn,sn,newDe d.kind d.st code,0⟩ BK.length:=fun _ _ _ _ _ _=>rfl
   have hst:rStep w i t BN BK ⟨kn,mn,sn,d,0⟩ code=(rSl w i t BN BK ⟨kn,mn,sn,newDe d.kind d.st code,0⟩ BK.length).s:=rfl
   have honl:=(rSl_same w i t BN BK ⟨kn,mn,sn,newDe d.kind d.st code,0⟩ BK.length).2
   obtain⟨⟨⟨kn2,mn2,sn2,d2,f2⟩,on2⟩,hD⟩:∃ D,rSl w i t BN BK ⟨kn,mn,sn,newDe d.kind d.st code,0⟩ BK.length=D:=⟨_,rfl⟩
   rw[hD]at hst honl
   simp only at hst honl
   rw[hst]at hcons hSO
   simp only[hD]at hsr
   obtain⟨g1,g2,g3,g4,g5,g6⟩:=hSO.2
   simp only[newDe]at g1 g2 g3 g4 g5 g6
   have hnew:=newDe_ok (kind:=d.kind) (st:=d.st) (c:=code) y5 hby hcl
   have hnew':DeS.ok ⟨d.kind,d.st,0,4294967295,code,4,vN code 4,beyP code 4,false⟩:=hnew
   have hwf:∀ ol,wkWf ⟨w,h,BN,BK,kn,mn,sn,ol⟩:=fun ol=>⟨by simp only;omega,by simp only;omega,by simp only;omega,by simp only;omega,y1,y2,y3⟩
   have hbo:∀ ol,bksOk ⟨w,h,BN,BK,kn,mn,sn,ol⟩:=fun ol=>⟨v1,v2,v3⟩
   have hkB:knB kn 900000000000000:=y4.mono (by omega)
   have y6I:(d.st.length:Int)=12:=by omega
   cases o with
   | none=>
    by_cases her:f2=0
    ·subst her
     rw[if_pos rfl]at hcons
     have hok2:=hSO.1 rfl
     simp (maxSteps:=3000000) -implicitDefEqProofs only[push_cast,zz,seval,b20_1,hii,rr,hmapl,ht,fs59,mdM,y5,hby,hcl,y6I,rdV,newDe,fs60,srM,wkV,wkW,zdV,hsr,hwf,hbo,hkB,hnew']
     repeat refine om_ ?_
     intro X3 X4 X5
     repeat refine om_ ?_
     refine hK (i+1,⟨kn2,mn2,sn2,d2,0⟩,X3 2 25,some (X5 7 30,on2)) ⟨by omega,by simp only;rw[show P-1-((i+1:Nat):Int)=t-1 by omega,show((i+1:Nat):Int)=(i:Int)+1 by omega];exact hcons.symm,by simp only;rw[show 13421772800000*((i+1:Nat):Int)=13421772800000*(i:Int)+13421772800000 by omega];exact hok2,fun O' l' h=>by cases h;exact honl⟩ (show n-(i+1)<n-i by omega) _ _ (Sub.of (mkG 42 [(0,0),(10,10),(11,11),(12,12),(13,13),(14,14),(15,15),(16,16),(17,30),(19,25),(23,23)]) ?_)
     simp -implicitDefEqProofs only[push_cast,zz,seval,g4,g6,y6I]
     exact⟨by omega,by omega,by omega⟩
    ·rw[if_neg her]at hcons
     have hEr:E=f2:=by rw[hEE,hcons]
     have hQ:=hQ0 (by rw[hEr];exact her)
     clear hK
     simp (maxSteps:=3000000) -implicitDefEqProofs only[push_cast,zz,seval,b20_1,hii,rr,hmapl,ht,fs59,mdM,y5,hby,hcl,y6I,rdV,newDe,fs60,srM,wkV,wkW,zdV,hsr,hwf,hbo,hkB,hnew',her]
     repeat refine om_ ?_
     intro X3 X4 X5
     repeat refine om_ ?_
     refine postF.mk' (fun _=>default) [some 0,none] ?_
     simp -implicitDefEqProofs only[push_cast,zz,seval,fs20,hcs,hE,hQeq,hQ,pl0,lx,hEr,her,List.length_nil]
   | some q=>
    obtain⟨O,l⟩:=q
    by_cases her:f2=0
    ·subst her
     rw[if_pos rfl]at hcons
     have hok2:=hSO.1 rfl
     simp (maxSteps:=3000000) -implicitDefEqProofs only[push_cast,zz,seval,b20_1,hii,rr,hmapl,ht,fs59,mdM,y5,hby,hcl,y6I,rdV,newDe,fs60,srM,wkV,wkW,zdV,hsr,hwf,hbo,hkB,hnew']
     repeat refine om_ ?_
     intro X3 X4 X5
     repeat refine om_ ?_
     refine hK (i+1,⟨kn2,mn2,sn2,d2,0⟩,X3 2 25,some (X5 7 30,on2)) ⟨by omega,by simp only;rw[show P-1-((i+1:Nat):Int)=t-1 by omega,show((i+1:Nat):Int)=(i:Int)+1 by omega];exact hcons.symm,by simp only;rw[show 13421772800000*((i+1:Nat):Int)=13421772800000*(i:Int)+13421772800000 by omega];exact hok2,fun O' l' h=>by cases h;exact honl⟩ (show n-(i+1)<n-i by omega) _ _ (Sub.of (mkG 42 [(0,0),(10,10),(11,11),(12,12),(13,13),(14,14),(15,15),(16,16),(17,30),(19,25),(23,23)]) ?_)
     simp -implicitDefEqProofs only[push_cast,zz,seval,g4,g6,y6I]
     exact⟨by omega,by omega,by omega⟩
    ·rw[if_neg her]at hcons
     have hEr:E=f2:=by rw[hEE,hcons]
     have hQ:=hQ0 (by rw[hEr];exact her)
     clear hK
     simp (maxSteps:=3000000) -implicitDefEqProofs only[push_cast,zz,seval,b20_1,hii,rr,hmapl,ht,fs59,mdM,y5,hby,hcl,y6I,rdV,newDe,fs60,srM,wkV,wkW,zdV,hsr,hwf,hbo,hkB,hnew',her]
     repeat refine om_ ?_
     intro X3 X4 X5
     repeat refine om_ ?_
     refine postF.mk' (fun _=>default) [some 0,none] ?_
     simp -implicitDefEqProofs only[push_cast,zz,seval,fs20,hcs,hE,hQeq,hQ,pl0,lx,hEr,her,List.length_nil]
  ·have hin:i=n:=by omega
   subst hin
   have hdn:CS.drop i=[]:=by rw[<-hcsl,List.drop_length]
   rw[hdn,rdG]at hrows
   obtain⟨y1,y2,y3,y4,y5,y6,y7,y8⟩:=id hrd
   have hE0:E=0:=by rw[hEE,<-hrows];exact y8
   have hQ:=hQ1 hE0
   rw[<-hrows]at hQ
   have hkl:s.known.length=N:=by omega
   have hml:s.minus.length=N:=by omega
   have hplF:plT s N=plR s:=by unfold plT;rw[List.take_of_length_le (by rw[plR_len];omega),List.drop_of_length_le (by omega),List.append_nil]
   clear hK
   have hp0:plT s 0=s.known:=by unfold plT;rw[List.take_zero,List.nil_append,List.drop_zero]
   cases o with
   | none=>
    simp -implicitDefEqProofs only[push_cast,zz,seval,b20_1,Int.lt_irrefl,r20_4]
    repeat refine om_ ?_
    intro X3
    refine evS_loopU (A:=Nat) kp20_2 kl20_2 (fun k=>[(106,.int .i64 k)]) (fun k=>[(13,.mine,X1 3 13,.ints .i64 (plT s k))]) (fun k=>k<=N) (fun k=>N-k) 0 (Nat.zero_le _) (Sub.pt ?_) ?_
    ·simp -implicitDefEqProofs only[push_cast,zz,seval,hp0]
    intro k hk K2 hK2
    have hk:k<=N:=hk
    by_cases hk':k<N
    ·have hki:(k:Int)<N:=by omega
     have hv:=y4.at (i:=k) (by omega) (by omega)
     have hrk:=plT_rd (s:=s) (i:=k) (by omega)
     have hlk:=plT_len s k (by omega)
     have hsk:=plT_set (s:=s) (i:=k) (by omega)
     have hself:=set_self (xs:=plT s k) (i:=(k:Int)) (by omega) (by omega)
     rw[Int.toNat_natCast,hrk]at hself
     by_cases bm:rdB s.minus (k:Nat)=true
     ·rw[if_pos bm]at hsk
      simp -implicitDefEqProofs only[push_cast,zz,seval,b20_2,hki,bm,hrk]
      repeat refine om_ ?_
      refine hK2 (k+1) (show k+1<=N by omega) (show N-(k+1)<N-k by omega) _ _ (Sub.pt ?_)
      simp -implicitDefEqProofs only[push_cast,zz,seval,hsk,Int.toNat_natCast]
     ·rw[if_neg bm,hself]at hsk
      simp -implicitDefEqProofs only[push_cast,zz,seval,b20_2,hki,bm]
      repeat refine om_ ?_
      refine hK2 (k+1) (show k+1<=N by omega) (show N-(k+1)<N-k by omega) _ _ (Sub.pt ?_)
      simp -implicitDefEqProofs only[push_cast,zz,seval,<-hsk]
    ·obtain rfl:k=N:=by omega
     clear hK2
     simp -implicitDefEqProofs only[push_cast,zz,seval,b20_2,Int.lt_irrefl,r20_3,hplF]
     repeat refine om_ ?_
     refine postF.mk' (fun _=>X1 3 13) [some 0,some 13] ?_
     simp -implicitDefEqProofs only[push_cast,zz,seval,fs20,hcs,hE,hQeq,hQ,lx,hE0,plR_len,hkl]
   | some q=>
    obtain⟨O,l⟩:=q
    simp -implicitDefEqProofs only[push_cast,zz,seval,b20_1,Int.lt_irrefl,r20_4]
    repeat refine om_ ?_
    intro X3
    refine evS_loopU (A:=Nat) kp20_2 kl20_2 (fun k=>[(106,.int .i64 k)]) (fun k=>[(13,.mine,X1 3 13,.ints .i64 (plT s k))]) (fun k=>k<=N) (fun k=>N-k) 0 (Nat.zero_le _) (Sub.pt ?_) ?_
    ·simp -implicitDefEqProofs only[push_cast,zz,seval,hp0]
    intro k hk K2 hK2
    have hk:k<=N:=hk
    by_cases hk':k<N
    ·have hki:(k:Int)<N:=by omega
     have hv:=y4.at (i:=k) (by omega) (by omega)
     have hrk:=plT_rd (s:=s) (i:=k) (by omega)
     have hlk:=plT_len s k (by omega)
     have hsk:=plT_set (s:=s) (i:=k) (by omega)
     have hself:=set_self (xs:=plT s k) (i:=(k:Int)) (by omega) (by omega)
     rw[Int.toNat_natCast,hrk]at hself
     by_cases bm:rdB s.minus (k:Nat)=true
     ·rw[if_pos bm]at hsk
      simp -implicitDefEqProofs only[push_cast,zz,seval,b20_2,hki,bm,hrk]
      repeat refine om_ ?_
      refine hK2 (k+1) (show k+1<=N by omega) (show N-(k+1)<N-k by omega) _ _ (Sub.pt ?_)
      simp -implicitDefEqProofs only[push_cast,zz,seval,hsk,Int.toNat_natCast]
     ·rw[if_neg bm,hself]at hsk
      simp -implicitDefEqProofs only[push_cast,zz,seval,b20_2,hki,bm]
      repeat refine om_ ?_
      refine hK2 (k+1) (show k+1<=N by omega) (show N-(k+1)<N-k by omega) _ _ (Sub.pt ?_)
      simp -implicitDefEqProofs only[push_cast,zz,seval,<-hsk]
    ·obtain rfl:k=N:=by omega
     clear hK2
     simp -implicitDefEqProofs only[push_cast,zz,seval,b20_2,Int.lt_irrefl,r20_3,hplF]
     repeat refine om_ ?_
     refine postF.mk' (fun _=>X1 3 13) [some 0,some 13] ?_
     simp -implicitDefEqProofs only[push_cast,zz,seval,fs20,hcs,hE,hQeq,hQ,lx,hE0,plR_len,hkl]
 ·have hEE:E=2:=by rw[<-hE];unfold rdE;rw[hcsl,if_neg hok]
  have hE2:¬ E=0:=by omega
  have h20:¬ (2:Int)=0:=by decide
  have hQ:=hQ0 hE2
  by_cases c0:SidesOk w h
  rotate_left
  ·simp -implicitDefEqProofs only[push_cast,zz,seval,ir20,c0]
   intro X
   repeat refine om_ ?_
   refine postF.mk' (fun _=>default) [some 0,none] ?_
   simp -implicitDefEqProofs only[push_cast,zz,seval,fs20,hcs,hE,hQeq,hQ,pl0,lx,hEE,h20,List.length_nil]
  by_cases c5:stOk kd lv
  rotate_left
  ·simp -implicitDefEqProofs only[push_cast,zz,seval,ir20,c0,c5]
   intro X
   repeat refine om_ ?_
   refine postF.mk' (fun _=>default) [some 0,none] ?_
   simp -implicitDefEqProofs only[push_cast,zz,seval,fs20,hcs,hE,hQeq,hQ,pl0,lx,hEE,h20,List.length_nil]
  by_cases c6:P<0
  ·simp -implicitDefEqProofs only[push_cast,zz,seval,ir20,c0,c5,c6]
   intro X
   repeat refine om_ ?_
   refine postF.mk' (fun _=>default) [some 0,none] ?_
   simp -implicitDefEqProofs only[push_cast,zz,seval,fs20,hcs,hE,hQeq,hQ,pl0,lx,hEE,h20,List.length_nil]
  by_cases c7:25<P
  ·simp -implicitDefEqProofs only[push_cast,zz,seval,ir20,c0,c5,c6,c7]
   intro X
   repeat refine om_ ?_
   refine postF.mk' (fun _=>default) [some 0,none] ?_
   simp -implicitDefEqProofs only[push_cast,zz,seval,fs20,hcs,hE,hQeq,hQ,pl0,lx,hEE,h20,List.length_nil]
  by_cases c8:P<n
  ·simp -implicitDefEqProofs only[push_cast,zz,seval,ir20,c0,c5,c6,c7,c8]
   intro X
   repeat refine om_ ?_
   refine postF.mk' (fun _=>default) [some 0,none] ?_
   simp -implicitDefEqProofs only[push_cast,zz,seval,fs20,hcs,hE,hQeq,hQ,pl0,lx,hEE,h20,List.length_nil]
  obtain⟨s1,s2,s3,s4,s5⟩:=c0
  obtain⟨k1,k2,k3⟩:=c5
  exact absurd ⟨⟨s1,s2,s3,s4,s5⟩,⟨k2,k3,k1⟩,by omega,by omega,by omega⟩ hok
def ent20:Entry:=spOf fs20 invDc
theorem e20:EntryOk Try.prog 20 ent20:=entry_of ok20 invDc
@[push_cast] theorem ent20_app (us:List SV) (look:Look) (x:Nat->Xf.Loc) (k:Nat):ent20 us look x k=spOf fs20 invDc us look x k:=rfl
def flatBy (P:Program) (t:TypeId):Bool:=
 match P.underlying t with
 | some (.slice e)=>match P.underlying e with
  | some (.slice b)=>(match P.underlying b with | some (.int .u8)=>true | _=>false)&&decide (P.cellsOf e=1)&&decide (0<P.bytesOf e)&&decide (P.cellsOf b=1)&&decide (0<P.bytesOf b)
  | _=>false
 | _=>false
theorem weightsAll_mem {H:Type} {P:Program} {e:TypeId}:∀ {l:List (DataW H)} {d:DataW H},d∈l->∀ n∈d.weights P e,n∈DataW.weightsAll P e l
 | d::l,x,h,n,hn=>by
  unfold DataW.weightsAll
  rcases List.mem_cons.1 h with rfl | h
  ·exact List.mem_append_left _ hn
  ·exact List.mem_append_right _ (weightsAll_mem h n hn)
section 
variable {H:Type} {enc:TypeId×Value->H} {P:Program} {w:World} {held:Bool}
theorem rcAt_by {l:List (Xf.Loc×List Int)} {o:Nat} (ho:o<l.length):rcAt (l.map byRc) 1 o=.row (l[o]).1 .u8 (l[o]).2:=by
 unfold rcAt byRc
 simp[Nat.div_one,Nat.mod_one,ho]
theorem rows_open {r:Reach} {b0:Nat} {t:TypeId} {v:Value} {d:DataW H} {p:List MemPlace} (hf:flatBy P t=true) (hv:Value.okWide P w r b0 t v) (h:DataW.Trod enc P w 0 (fun _=>true) held t v d p) (hw:∀ n∈d.weights P t,n<=reachBytes) :
  ∃ (L:Xf.Loc) (l:List (Xf.Loc×List Int)),(∀ c,Den (.sl c L 1 0 (l.length:Nat)) v)/\(∀ W,ChunkSat w W (.ro,L,.recs 1 false [] (l.map byRc)) w)/\l.length<=140737488355328/\(∀ r∈l,byAll r.2/\r.2.length<=140737488355328):=by
 unfold flatBy at hf
 split at hf
 case h_2=>cases hf
 rename_i e ht
 split at hf
 case h_2=>cases hf
 rename_i u he
 simp only[Bool.and_eq_true,decide_eq_true_eq]at hf
 obtain⟨⟨⟨⟨hu,hc⟩,hb⟩,hcu⟩,hbu⟩:=hf
 split at hu
 case h_2=>cases hu
 rename_i hq
 obtain⟨fuel,hx⟩:=h
 have hvc:v.cells.toList=[v]:=by obtain⟨a,n,c,rfl⟩:=WideShapes.okWide_slice ht hv;rfl
 rw[hvc]at hx
 rcases DataW.trod_slice ht hx with ⟨hcs,hxe⟩ | ⟨a,len,cap,elems,rest,m,_,hcs,hxe,hbs,hl,hm,hlen,hel,hsp,hns⟩
 ·obtain rfl:v=.slice none 0 0:=by simpa using hcs
  refine⟨Xf.nilLoc,[],fun c=>?_,fun W=>?_,by simp,by simp⟩
  ·simp only[Den,nilLoc0]
   refine⟨by omega,by simp,by simp,by simp,none,by simp,by simp,by simp⟩
  ·refine⟨fun o ho=>(by simp[Chunk.len]at ho),fun _ _ _ h=>(by obtain⟨r,hr,_⟩:=h;simp at hr),fun a ha=>(by have h0:=ha.1;cases h0),fun h=>(by cases h),⟨by simp,by simp[nilLoc0],by decide,by simp⟩,fun _ _=>trivial⟩
 ·obtain rfl:v=.slice (some a) len cap:=by simpa using hcs
  obtain⟨hrl,hsp'⟩:=hsp rfl
  have hx1:d=.slice (elems.map (·.1)) (rest.map (·.1)):=(Prod.ext_iff.1 hxe).1
  rw[hx1]at hw
  unfold DataW.weights at hw
  rw[ht]at hw
  have hcap:cap<=140737488355328:=by
   have h1:=hw _ (List.mem_cons_self ..)
   simp only[List.length_map]at h1
   rw[show elems.length+rest.length=cap by omega]at h1
   have h3:cap<=cap*P.bytesOf e:=Nat.le_mul_of_pos_right _ hb
   have h4:reachBytes<=140737488355328:=by decide
   omega
  have hall:∀ i,∃ q:Xf.Loc×List Int,i<len->∃ x,w.cell? (a.add i)=some x/\LeafOk w (.row .u8) (.row q.1 .u8 q.2) x:=fun i=>by
   by_cases hi:i<len
   ·have hk:=hel i hi
    have hie:i<elems.length:=by omega
    rw[List.getElem?_eq_getElem hie,Option.bind_eq_some_iff]at hk
    obtain⟨cs',hcs',hy⟩:=hk
    obtain⟨_,hcl,hcell⟩:=World.cells?_some hcs'
    obtain⟨l,x,rfl,hlo⟩:=row_open he hq hcu hbu hy (fun n hn=>hw n (List.mem_cons_of_mem _ (List.mem_append_left _ (weightsAll_mem (List.mem_map.2 ⟨_,List.getElem_mem hie,rfl⟩) n hn))))
    have h0:=hcell 0 (by omega)
    rw[hc,Nat.mul_one]at h0
    have h0':w.cell? (a.add i)=some x:=by
     have e0:(a.add i).add 0=a.add i:=by simp[Addr.add]
     rw[e0]at h0
     rw[h0];rfl
    cases l with
    | int k n=>exact hlo.elim
    | bool b=>exact hlo.elim
    | row L k xs=>
     have hk:k=.u8:=hlo.1
     subst hk
     exact⟨(L,xs),fun _=>⟨x,h0',hlo⟩⟩
   ·exact⟨(nilLoc,[]),fun h=>absurd h hi⟩
  obtain⟨f,hf⟩:=Classical.axiomOfChoice hall
  obtain⟨b,o,spot⟩:=a
  have hspot:cap≠0->spot=none:=by
   intro hc0
   by_cases h0:0<len
   ·obtain⟨x,hx,_⟩:=hf 0 h0
    simpa [Addr.add]using World.cell?_spot hx
   ·have hk:=hsp' 0 (by omega)
    rw[List.getElem?_eq_getElem (by omega),Option.bind_eq_some_iff]at hk
    obtain⟨cs',hcs',hy⟩:=hk
    obtain⟨_,hcl,hcell⟩:=World.cells?_some hcs'
    have:=hcell 0 (by omega)
    rw[List.getElem?_eq_getElem (by omega),show len+0=0 by omega]at this
    simpa [Addr.add]using World.cell?_spot this
  have hmem:∀ r∈(List.range len).map f,∃ x,LeafOk w (.row .u8) (.row r.1 .u8 r.2) x:=fun r hr=>by
   obtain⟨i,hi,rfl⟩:=List.mem_map.1 hr
   obtain⟨x,_,hx⟩:=hf i (by simpa using hi)
   exact⟨x,hx⟩
  refine⟨(⟨b,o,false,cap⟩:Xf.Loc),(List.range len).map f,fun c=>?_,fun W=>?_,by simp;omega,fun r hr=>?_⟩
  ·simp only[Den,List.length_map,List.length_range]
   refine⟨by omega,by omega,by omega,by simp,some ⟨b,o,spot⟩,by simp,by simp,fun h=>?_⟩
   have:spot=none:=hspot (by simpa using h)
   subst this
   simp[Xf.Loc.ad]
  ·refine⟨fun o' ho=>?_,fun L k xs h=>?_,fun a ha=>(by have h0:=ha.1;cases h0),fun h=>(by cases h),⟨by simp;omega,by simp,by decide,fun r hr=>?_⟩,fun _ _=>trivial⟩
   ·simp only[Chunk.len,List.length_map,List.length_range,Nat.mul_one]at ho
    have hs:spot=none:=hspot (by omega)
    subst hs
    obtain⟨x,hx,hl⟩:=hf o' ho
    have e2:(⟨b,o,none⟩:Addr).add o'=⟨b,o+o',none⟩:=by by_cases h0:o'=0<;>simp[Addr.add,h0]
    rw[e2]at hx
    refine⟨_,hx,?_⟩
    simp only[Chunk.cell]
    rw[rcAt_by (by simpa using ho)]
    simp only[List.getElem_map,List.getElem_range,RC.sv]
    exact hl.2.1 4095
   ·obtain⟨r,hr,hm⟩:=h
    obtain⟨q,hq,rfl⟩:=List.mem_map.1 hr
    simp only[byRc,List.mem_singleton,RC.row.injEq]at hm
    obtain⟨rfl,rfl,rfl⟩:=hm
    obtain⟨x,hx⟩:=hmem q hq
    have hcs:=hx.2.2.1 W
    have hfit:q.2.length<=q.1.cap/\(q.1.nil=true->q.1.cap=0):=hcs.fits
    refine⟨hfit.1,hfit.2,fun o' ho=>?_,fun h=>(by cases h)⟩
    obtain⟨y,hy,hd⟩:=hcs.cell o' ho
    simp only[Chunk.cell,Den]at hd
    rw[hy,hd]
   ·obtain⟨q,hq,rfl⟩:=List.mem_map.1 hr
    rfl
  ·obtain⟨x,hx⟩:=hmem r hr
   refine⟨fun n hn=>?_,hx.2.2.2.1⟩
   have:=hx.2.2.2.2 n hn
   simp[Lit.wf,IntKind.min,IntKind.max,IntKind.bits,IntKind.signed]at this
   omega
end
def b5_1:IR:=
 .seq (r_ [o_ 23 (.bin 1 .lss (.t 22) (.t 21))] []) (.seq (.cond (.t 23) (.skip) (.exit 0)) (.seq (.block 1 (.seq (r_ [i_ 24 20 22 1,o_ 25 (.ld true none 10 1 (.t 24)),m_ 15 25] [23,24,25]) (r_ [m_ 26 13,m_ 27 15,h_ 28 27,o_ 29 (.bin 1 .add (.t 26) (.t 28)),m_ 13 29] [15,26,27,28,29]))) (r_ [o_ 30 (.bin 1 .add (.t 22) (Z_ 1)),m_ 22 30] [30])))
def r5_2:IR:=
 .seq (.seq (r_ [m_ 31 13,o_ 32 (.bin 1 .gtr (.t 31) (Z_ 100000)),m_ 33 32,q_ 33 (m_ 34 5),q_ 33 (h_ 35 34),q_ 33 (o_ 36 (.bin 1 .gtr (.t 35) (Z_ 100))),k_ 37 33 36] [13,20,21,22,31,32,33,34,35,36]) (.cond (.t 37) (.seq (r_ [o_ 38 (.call (some 4) 11 8 []),m_ 12 38] [0,1,2,3,4,5,37,38]) (.ret)) (.skip))) (.seq (r_ [m_ 40 0,m_ 41 1,m_ 42 2,m_ 43 3,m_ 44 4,m_ 45 5,o_ 46 (.call (some 4) 15 11 [.t 40,.t 41,.t 42,.t 43,.t 44,.t 45]),m_ 39 46,e_ 47 39 0,e_ 48 39 1,o_ 16 (.alloc 19 [y_,y_,nilSV]),s_ 3 .i64 16 47,m_ 17 48] [12,37,39,40,41,42,43,44,45,46,47,48]) (.seq (r_ [m_ 50 0,m_ 51 1,m_ 52 2,m_ 53 3,m_ 54 4,m_ 55 5,o_ 56 (.call (some 4) 20 20 [.t 50,.t 51,.t 52,.t 53,.t 54,.t 55]),m_ 49 56,e_ 57 49 0,e_ 58 49 1,o_ 18 (.alloc 24 [y_,y_,nilSV]),s_ 3 .i64 18 57,m_ 19 58] [0,1,2,3,4,5,49,50,51,52,53,54,55,56,57,58]) (.seq (r_ [m_ 59 17,m_ 60 19,o_ 61 (.bin 1 .eql (.t 59) (.t 60)),m_ 62 61,p_ 62 (o_ 63 (.ld false (some 3) 0 0 (.t 16))),p_ 62 (o_ 64 (.ld false (some 3) 0 0 (.t 18))),p_ 62 (o_ 65 (.call (some 4) 25 13 [.t 63,.t 64])),K_ 66 62 65,m_ 67 66,p_ 67 (o_ 68 (.call (some 4) 29 8 [])),K_ 69 67 68,m_ 12 69] [16,17,18,19,59,60,61,62,63,64,65,66,67,68,69]) (.ret))))
def ir5:IR:=
 .seq (r_ [o_ 12 (.mov (.k (.bool false)))] [12]) (.seq (r_ [z_ 13 0] []) (.seq (.seq (r_ [m_ 20 5,h_ 21 20,z_ 22 0] []) (.block 0 (.loop b5_1))) (r5_2)))
def kp5_1:List Nat:=[0,1,2,3,4,5,13,20,21,22]
def kl5_1:List Nat:=[10]
attribute [push_cast] kp5_1 kl5_1
set_option maxRecDepth 4000 in
theorem comp5:(Try.f5.body.bind fun c=>compC tab isP chkAll ir5 c)=some ir5:=by kernel_rfl
def lnS (rows:List (Xf.Loc×List Int)):Nat->Int
 | 0=>0
 | i+1=>IntKind.i64.wrap (lnS rows i+(rows.getD i (nilLoc,[])).2.length)
theorem lnS_bd {rows:List (Xf.Loc×List Int)} (hl:rows.length<=100) (hw:∀ r∈rows,r.2.length<=140737488355328):∀ i,i<=rows.length->0<=lnS rows i/\lnS rows i<=140737488355328*i/\∀ j (hj:j<rows.length),j<i->((rows[j].2.length:Nat):Int)<=lnS rows i
 | 0,_=>⟨Int.le_refl _,by simp[lnS],fun j _ h=>by omega⟩
 | i+1,hi=>by
  obtain⟨h1,h2,h3⟩:=lnS_bd hl hw i (by omega)
  have hg:(rows.getD i (nilLoc,[]))=rows[i]:=by simp[show i<rows.length by omega]
  have hr:=hw _ (List.getElem_mem (show i<rows.length by omega))
  have e:lnS rows (i+1)=lnS rows i+(rows[i].2.length:Nat):=by
   rw[lnS,hg,inR_wrap (k:=.i64) ⟨by omega,by omega⟩]
  rw[e]
  refine⟨by omega,by omega,fun j hj hji=>?_⟩
  by_cases c:j=i
  ·subst c;omega
  ·have:=h3 j hj (by omega);omega
theorem rdG_len (w:Int) (bands:List Bd) (bks:List Rb):∀ (cs:List (List Int)) (n t:Int) (s:RwS),(rdG w bands bks cs n t s).known.length=s.known.length
 | [],_,_,_=>rfl
 | c::cs,n,t,s=>by
  have h:(rStep w n t bands bks s c).known.length=s.known.length:=(rSl_same w n t bands bks ⟨s.known,s.minus,s.since,newDe s.d.kind s.d.st c,0⟩ bks.length).1.1
  rw[rdG]
  split
  ·rw[rdG_len w bands bks cs,h]
  ·exact h
theorem rdP_len (w h lv kd P:Int) (cs:List (List Int)):(rdP w h lv kd P cs).xs.length<=8192:=by
 unfold rdP
 split
 ·rename_i hf
  have hok:decOk w h lv kd P cs.length:=by
   unfold rdE at hf
   split at hf
   ·assumption
   ·cases hf
  have e:(plR (rdR w h lv kd P cs)).length=(w*h).toNat:=by
   rw[plR_len]
   unfold rdR
   rw[rdG_len]
   exact List.length_replicate
  simp only
  rw[e]
  have:=hok.1.2.2.2.2
  omega
 ·exact Nat.zero_le _
set_option maxHeartbeats 1000000 in
theorem tri5 (w h lv kd P:Int) (L:Xf.Loc) (rows:List (Xf.Loc×List Int)) (hl:rows.length<=140737488355328) (hw:∀ r∈rows,byAll r.2/\r.2.length<=140737488355328):Tri Try.prog 5 [.int .i64 w,.int .i64 h,.int .i64 lv,.int .i64 kd,.int .i64 P,.sl 0 L 1 0 rows.length]
  [some (.ro,L,.recs 1 false [] (rows.map byRc))] (fun v _=>v=.bool true):=by
 have hmapl:(rows.map byRc).length=rows.length:=List.length_map _
 refine tri_evS (hyp (l:=[(11,ent11),(20,ent20),(13,ent13),(8,ent8)]) (lp:=[]) ⟨e11,e20,e13,e8,trivial⟩ trivial) Try.func5 comp5 (rs:=[.tmp 12]) (by rfl) Try.ntmps5 33 ?_
 simp -implicitDefEqProofs only[push_cast,zz,seval,ir5]
 refine evS_loopU (A:=Nat) kp5_1 kl5_1 (fun i=>[(13,.int .i64 (lnS rows i)),(22,.int .i64 i)]) (fun _=>[]) (fun i=>i<=rows.length) (fun i=>rows.length-i) 0 (Nat.zero_le _) (Sub.pt ?_) ?_
 ·simp -implicitDefEqProofs only[push_cast,zz,seval,lnS]
 intro i hi K hK
 have hi:i<=rows.length:=hi
 by_cases hi':i<rows.length
 ·have hii:(i:Int)<rows.length:=by omega
  have rr:=recAt_By hi' []
  have hg:(rows.getD i (nilLoc,[]))=rows[i]:=by simp[hi']
  have hs:lnS rows (i+1)=IntKind.i64.wrap (lnS rows i+(rows[i].2.length:Nat)):=by rw[lnS,hg]
  have hcl:=(hw _ (List.getElem_mem hi')).2
  obtain⟨⟨LR,code⟩,hrc⟩:∃ r,rows[i]=r:=⟨_,rfl⟩
  rw[hrc]at rr hs hcl
  simp only at rr hs hcl
  have ew:IntKind.i64.wrap ((i:Int)+1)=i+1:=inR_wrap (k:=.i64) ⟨by omega,by omega⟩
  simp -implicitDefEqProofs only[push_cast,zz,seval,b5_1,hii,rr,hmapl,ew]
  repeat refine om_ ?_
  refine hK (i+1) (show i+1<=rows.length by omega) (show rows.length-(i+1)<rows.length-i by omega) _ _ (Sub.pt ?_)
  simp -implicitDefEqProofs only[push_cast,zz,seval,hs,ew]
 ·obtain rfl:i=rows.length:=by omega
  clear hK
  by_cases c1:100000<lnS rows rows.length
  ·simp -implicitDefEqProofs only[push_cast,zz,seval,b5_1,r5_2,Int.lt_irrefl,fs8,c1]
  by_cases c2:100<(rows.length:Int)
  ·simp -implicitDefEqProofs only[push_cast,zz,seval,b5_1,r5_2,Int.lt_irrefl,fs8,c1,c2]
  have hbd:=lnS_bd (by omega) (fun r hr=>(hw r hr).2) rows.length (Nat.le_refl _)
  have hwf:rowsWf rows:=⟨by omega,fun r hr=>⟨(hw r hr).1,by
   obtain⟨j,hj,rfl⟩:=List.mem_iff_getElem.1 hr
   have:=hbd.2.2 j hj hj
   omega⟩⟩
  have hc:(⟨w,h,lv,kd,P,L,rows,rows.length⟩:DcA).cs=rows.map (·.2):=by unfold DcA.cs;simp only;rw[List.take_length]
  obtain⟨CS,hCS⟩:∃ c,rows.map (·.2)=c:=⟨_,rfl⟩
  rw[hCS]at hc
  obtain⟨e1,e2⟩:=dec_eq (w:=w) (h:=h) (lv:=lv) (kd:=kd) (P:=P) (cs:=CS)
  have hlen:(rdP w h lv kd P CS).xs.length<=140737488355328:=Nat.le_trans (rdP_len _ _ _ _ _ _) (by decide)
  have hq:=Pl.Eq.refl (rdP w h lv kd P CS)
  obtain⟨Q,hQ⟩:∃ Q,rdP w h lv kd P CS=Q:=⟨_,rfl⟩
  obtain⟨E,hE⟩:∃ E,rdE w h lv kd P CS=E:=⟨_,rfl⟩
  rw[hQ]at e2 hq hlen
  rw[hE]at e1
  obtain⟨qw,qh,qx⟩:=Q
  simp only at hlen
  simp -implicitDefEqProofs only[push_cast,zz,seval,b5_1,r5_2,Int.lt_irrefl,fs11,fs20,fs13,fs8,c1,c2,hwf,hc,e1,e2,hQ,hE,hlen,hq,Int.toNat_natCast]
  repeat refine om_ ?_
  exact Nat.le_refl _
end Go.Proofs.Ytkmiklngnainfaa
