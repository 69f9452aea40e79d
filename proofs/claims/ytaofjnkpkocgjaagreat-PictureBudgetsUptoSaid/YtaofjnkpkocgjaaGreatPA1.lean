import Derived.Test.YtaofjnkpkocgjaaGreatPA0
set_option linter.unusedVariables false
set_option linter.unusedSimpArgs false
set_option maxRecDepth 1000
namespace Go.Proofs.YtaofjnkpkocgjaaGreat
open Xf
theorem ok97f:FSOk Tryz.prog 97 fs97f:=by
 refine hd_ (fk_ Tryz.func97) fun a hp=>?_
 obtain⟨F,LP,W,kind,ws,w,h⟩:=a
 obtain⟨hk,h1,h2,h3,h4,h5,h6⟩:(kind=0∨kind=1)/\ws.length<=8192/\W<=200/\w<=W/\h<=200/\h*W<=ws.length/\AllIn (-357913941) 357913941 ws:=hp
 change Tri Tryz.prog 97 [.ptr 0 F 0 0 0,.int .i64 w,.int .i64 h,.fn 96 []] [some (.ro,F,.cells [.int .i64 W,.sl 1 LP 1 0 ws.length,.int .i64 kind]),some (.lent,LP,.ints .i64 ws)] (postF fs97f ⟨F,LP,W,kind,ws,w,h⟩)
 refine tri_evS (hyp (l:=[(149,ent149f)]) (lp:=[]) ⟨e149f,trivial⟩ trivial) Tryz.func97 comp97 (rs:=[]) (by rfl) Tryz.ntmps97 14 ?_
 simp -implicitDefEqProofs only[push_cast,zz,seval,ir97]
 refine evS_loopU (A:=Nat) kp97_1 kl97_1 (fun y=>[(10,.int .i64 y)]) (fun y=>[(1,.lent,LP,.ints .i64 (clL lineL kind W h ws y))]) (fun y=>y<=w) (fun y=>w-y) 0 (by omega) (Sub.pt ?_) ?_
 ·simp -implicitDefEqProofs only[push_cast,zz,seval,clL]
 intro y (hy:y<=w) K hK
 have lQ:(clL lineL kind W h ws y).length=ws.length:=clL_length ..
 have hB:=clL_bd trn_line (kind:=kind) h5 (m:=y) (Nat.le_trans hy h3) h6 (by omega)
 rw[show(3*357913941+1:Int)=1073741824 by decide]at hB
 simp -implicitDefEqProofs only[push_cast,zz,seval,b97_1,fs149f,lQ]
 refine⟨fun hl=>?_,fun hl=>?_⟩
 ·have hy':y<w:=by omega
  have hin:∀ i:Nat,i<h->(y:Int)+i*W<ws.length:=fun i hi=>by
   have h7:(i+1)*W<=ws.length:=Nat.le_trans (Nat.mul_le_mul_right _ hi) h5
   have h8:(((i+1)*W:Nat):Int)=(i:Int)*W+W:=by rw[Nat.add_mul];simp
   omega
  have q:alS (lineL kind h (fun j=>rd (tabl h (alG (clL lineL kind W h ws y) (y:Int) W)) j)) (clL lineL kind W h ws y) (y:Int) W h=clL lineL kind W h ws (y+1):=rfl
  simp only[Int.toNat_natCast,q]
  repeat refine om_ ?_
  refine hK (y+1) (by omega) (by omega) _ _ (Sub.pt ?_)
  simp -implicitDefEqProofs only[push_cast,zz,seval]
 ·obtain rfl:y=w:=by omega
  refine postF.mk' (fun _=>default) [some 0,some 1] ?_
  simp -implicitDefEqProofs only[push_cast,zz,seval,fs97f]
def ent97f:Entry:=spOf fs97f inv97f
theorem e97f:EntryOk Tryz.prog 97 ent97f:=entry_of ok97f inv97f
@[push_cast] theorem ent97f_app (us:List SV) (look:Look) (x:Nat->Xf.Loc) (k:Nat):ent97f us look x k=spOf fs97f inv97f us look x k:=rfl
def fs97u:FS where
 A:=RwA
 args:=fun a=>[.ptr 0 a.F 0 0 0,.int .i64 a.w,.int .i64 a.h,.fn 101 []]
 mem:=fun a=>[some (.ro,a.F,.cells [.int .i64 a.W,.sl 1 a.LP 1 0 a.ws.length,.int .i64 a.kind]),some (.lent,a.LP,.ints .i64 a.ws)]
 pre:=fun a=>(a.kind=0∨a.kind=1)/\a.ws.length<=8192/\a.W<=200/\a.w<=a.W/\a.h<=200/\a.h*a.W<=a.ws.length/\AllIn (-375299968947541) 375299968947541 a.ws
 res:=fun a x=>.tup []
 out:=fun a _=>[none,some (some (.ints .i64 (clL unL a.kind a.W a.h a.ws a.w)))]
def inv97u:List SV->Look->Option (RwA×List Nat)
 | [.ptr c _ _ _ _,.int .i64 w,.int .i64 h,.fn 101 []],look=>match rowC (look c)with
  | some (F,[.int .i64 W,.sl c1 _ 1 0 _,.int .i64 kind])=>match rowI (look c1)with
   | some (LP,.i64,ws)=>some (⟨F,LP,W.toNat,kind,ws,w.toNat,h.toNat⟩,[c,c1])
   | _=>none
  | _=>none
 | _,_=>none
attribute [push_cast] inv97u
theorem ok97u:FSOk Tryz.prog 97 fs97u:=by
 refine hd_ (fk_ Tryz.func97) fun a hp=>?_
 obtain⟨F,LP,W,kind,ws,w,h⟩:=a
 obtain⟨hk,h1,h2,h3,h4,h5,h6⟩:(kind=0∨kind=1)/\ws.length<=8192/\W<=200/\w<=W/\h<=200/\h*W<=ws.length/\AllIn (-375299968947541) 375299968947541 ws:=hp
 change Tri Tryz.prog 97 [.ptr 0 F 0 0 0,.int .i64 w,.int .i64 h,.fn 101 []] [some (.ro,F,.cells [.int .i64 W,.sl 1 LP 1 0 ws.length,.int .i64 kind]),some (.lent,LP,.ints .i64 ws)] (postF fs97u ⟨F,LP,W,kind,ws,w,h⟩)
 refine tri_evS (hyp (l:=[(149,ent149u)]) (lp:=[]) ⟨e149u,trivial⟩ trivial) Tryz.func97 comp97 (rs:=[]) (by rfl) Tryz.ntmps97 14 ?_
 simp -implicitDefEqProofs only[push_cast,zz,seval,ir97]
 refine evS_loopU (A:=Nat) kp97_1 kl97_1 (fun y=>[(10,.int .i64 y)]) (fun y=>[(1,.lent,LP,.ints .i64 (clL unL kind W h ws y))]) (fun y=>y<=w) (fun y=>w-y) 0 (by omega) (Sub.pt ?_) ?_
 ·simp -implicitDefEqProofs only[push_cast,zz,seval,clL]
 intro y (hy:y<=w) K hK
 have lQ:(clL unL kind W h ws y).length=ws.length:=clL_length ..
 have hB:=clL_bd trn_unline (kind:=kind) h5 (m:=y) (Nat.le_trans hy h3) h6 (by omega)
 rw[show(3*375299968947541+1:Int)=1125899906842624 by decide]at hB
 simp -implicitDefEqProofs only[push_cast,zz,seval,b97_1,fs149u,lQ]
 refine⟨fun hl=>?_,fun hl=>?_⟩
 ·have hy':y<w:=by omega
  have hin:∀ i:Nat,i<h->(y:Int)+i*W<ws.length:=fun i hi=>by
   have h7:(i+1)*W<=ws.length:=Nat.le_trans (Nat.mul_le_mul_right _ hi) h5
   have h8:(((i+1)*W:Nat):Int)=(i:Int)*W+W:=by rw[Nat.add_mul];simp
   omega
  have q:alS (unL kind h (fun j=>rd (tabl h (alG (clL unL kind W h ws y) (y:Int) W)) j)) (clL unL kind W h ws y) (y:Int) W h=clL unL kind W h ws (y+1):=rfl
  simp only[Int.toNat_natCast,q]
  repeat refine om_ ?_
  refine hK (y+1) (by omega) (by omega) _ _ (Sub.pt ?_)
  simp -implicitDefEqProofs only[push_cast,zz,seval]
 ·obtain rfl:y=w:=by omega
  refine postF.mk' (fun _=>default) [some 0,some 1] ?_
  simp -implicitDefEqProofs only[push_cast,zz,seval,fs97u]
def ent97u:Entry:=spOf fs97u inv97u
theorem e97u:EntryOk Tryz.prog 97 ent97u:=entry_of ok97u inv97u
@[push_cast] theorem ent97u_app (us:List SV) (look:Look) (x:Nat->Xf.Loc) (k:Nat):ent97u us look x k=spOf fs97u inv97u us look x k:=rfl
def b94_1:IR:=
 .seq (r_ [b_ 10 .lss 9 8] []) (.seq (.cond (.t 10) (.skip) (.exit 0)) (.seq (.block 1 (.seq (r_ [m_ 11 7,m_ 12 0,m_ 13 1,o_ 14 (.build [y_,y_] [(0,1,.t 12),(1,1,.t 13)]),o_ 15 (.brecs 10 2 .i64 [.t 14]),o_ 16 (.app 11 2 16 (.t 11) (.t 15)),m_ 7 16] [10,11,12,13,14,15,16]) (r_ [m_ 17 0,a_ 18 17 1,c_ 19 .quo 18 2,m_ 20 1,a_ 21 20 1,c_ 22 .quo 21 2,m_ 0 19,m_ 1 22] [17,18,19,20,21,22]))) (r_ [a_ 23 9 1,m_ 9 23] [23])))
def r94_2:IR:=
 .seq (r_ [m_ 24 7,m_ 6 24] [0,1,7,8,9,24]) (.ret)
def ir94:IR:=
 .seq (r_ [o_ 6 (.mov (.k nilSV))] [6]) (.seq (r_ [o_ 7 (.mov (.k nilSV))] []) (.seq (.seq (r_ [m_ 8 2,z_ 9 0] [2]) (.block 0 (.loop b94_1))) (r94_2)))
def kp94_1:List Nat:=[0,1,7,8,9]
def kl94_1:List Nat:=[10,11]
attribute [push_cast] kp94_1 kl94_1
set_option maxRecDepth 4000 in
theorem comp94:(Tryz.f94.body.bind fun c=>compC tab isP chkAll ir94 c)=some ir94:=by kernel_rfl
def tabR (n:Nat) (g:Nat->List RC):List (List RC):=(List.range n).map g
theorem tabR_length (n:Nat) (g:Nat->List RC):(tabR n g).length=n:=by simp[tabR]
theorem tabR_zero (g:Nat->List RC):tabR 0 g=[]:=rfl
theorem tabR_snoc (n:Nat) (g:Nat->List RC):tabR n g++[g n]=tabR (n+1) g:=by simp[tabR,List.range_succ]
theorem recAt_tabR {n i:Nat} (h:i<n) (g:Nat->List RC) (z:List RC):recAt (i:Int) z (tabR n g)=g i:=by
 simp[recAt,tabR,h]
def esz (s:Nat):Nat->Nat
 | 0=>1
 | _+1=>s
theorem esz_pos {s n:Nat} (h:0<n):esz s n=s:=by cases n;omega;rfl
def sdR (w h:Nat) (i:Nat):List RC:=[.int .i64 (hlf w i),.int .i64 (hlf h i)]
structure SdA where
 w:Nat
 h:Nat
 n:Nat
def fs94:FS where
 A:=SdA
 args:=fun a=>[.int .i64 a.w,.int .i64 a.h,.int .i64 a.n]
 pre:=fun a=>a.w<=200/\a.h<=200/\a.n<=7
 res:=fun a x=>.sl 0 (lx (0<a.n) x 0) (esz 2 a.n) 0 a.n
 new:=fun a x=>[(lx (0<a.n) x 0,.recs 2 true [] (tabR a.n (sdR a.w a.h)))]
def inv94:List SV->Look->Option (SdA×List Nat)
 | [.int .i64 w,.int .i64 h,.int .i64 n],look=>some (⟨w.toNat,h.toNat,n.toNat⟩,[])
 | _,_=>none
attribute [push_cast] inv94
theorem hlf_succ (w i:Nat):((hlf w i:Int)+1) / 2=(hlf w (i+1):Int):=by simp only[hlf];omega
theorem ok94:FSOk Tryz.prog 94 fs94:=by
 refine hd_ (fk_ Tryz.func94) fun a hp=>?_
 obtain⟨w,h,n⟩:=a
 obtain⟨h1,h2,h3⟩:w<=200/\h<=200/\n<=7:=hp
 change Tri Tryz.prog 94 [.int .i64 w,.int .i64 h,.int .i64 n] [] (postF fs94 ⟨w,h,n⟩)
 refine tri_evS (hyp (l:=[]) (lp:=[]) trivial trivial) Tryz.func94 comp94 (rs:=[.tmp 6]) (by rfl) Tryz.ntmps94 12 ?_
 simp -implicitDefEqProofs only[push_cast,zz,seval,ir94]
 refine evS_loopU (A:=Nat×Xf.Loc) kp94_1 kl94_1 (fun y=>[(0,.int .i64 (hlf w y.1)),(1,.int .i64 (hlf h y.1)),(7,.sl 11 y.2 (esz 2 y.1) 0 y.1),(9,.int .i64 y.1)]) (fun y=>[(11,.mine,y.2,.recs 2 true [] (tabR y.1 (sdR w h)))])
  (fun y=>y.1<=n/\(y.1=0->y.2=nilLoc)) (fun y=>n-y.1) (0,nilLoc) ⟨Nat.zero_le _,fun _=>rfl⟩ (Sub.pt ?_) ?_
 ·simp -implicitDefEqProofs only[push_cast,zz,seval,hlf,esz,tabR_zero]
 intro ⟨i,N⟩ ⟨(hi:i<=n),(hN:i=0->N=nilLoc)⟩ K hK
 simp -implicitDefEqProofs only[push_cast,zz,seval,b94_1,r94_2]
 have b1:=hlf_le w i
 have b2:=hlf_le h i
 have b3:=hlf_succ w i
 have b4:=hlf_succ h i
 refine⟨fun hl=>?_,fun hl=>?_⟩
 ·simp only[tabR_length]
  intro X
  repeat refine om_ ?_
  rw[b3,b4]
  refine hK (i+1,X 5 11) ⟨show i+1<=n by omega,fun q=>absurd q (Nat.succ_ne_zero i)⟩ (show n-(i+1)<n-i by omega) _ _ (Sub.pt ?_)
  have q:tabR i (sdR w h)++[[.int .i64 (hlf w i),.int .i64 (hlf h i)]]=tabR (i+1) (sdR w h):=tabR_snoc i (sdR w h)
  simp -implicitDefEqProofs only[push_cast,zz,seval,esz,q]
 ·obtain rfl:i=n:=by omega
  refine postF.mk' (fun _=>N) [some 11] ?_
  by_cases h0:0<i
  ·simp -implicitDefEqProofs only[push_cast,zz,seval,fs94,h0,if_true,lx]
  ·obtain rfl:i=0:=by omega
   obtain rfl:=hN rfl
   simp -implicitDefEqProofs only[push_cast,zz,seval,fs94,h0,if_false,lx]
def ent94:Entry:=spOf fs94 inv94
theorem e94:EntryOk Tryz.prog 94 ent94:=entry_of ok94 inv94
@[push_cast] theorem ent94_a u l x k:ent94 u l x k=spOf fs94 inv94 u l x k:=rfl
def ir91:IR:=
 .seq (r_ [o_ 3 (.box 10 (.t 0)),z_ 6 0] [0,6]) (.seq (.block 0 (.seq (r_ [o_ 8 (.ld false (some 3) 0 0 (.t 3)),o_ 9 (.call (some 4) 11 98 [.t 8]),o_ 10 (.not (.t 9)),m_ 7 10] [3,8,9,10]) (.cond (.t 7) (.seq (r_ [z_ 6 70] [1,2,7]) (.ret)) (.seq (r_ [m_ 12 1,o_ 13 (.callp 146 [.t 12]),o_ 14 (.not (.t 13)),m_ 15 14,q_ 15 (m_ 16 2),q_ 15 (c_ 17 .lss 16 0),k_ 18 15 17,m_ 19 18,q_ 19 (m_ 20 2),q_ 19 (c_ 21 .gtr 20 6),k_ 22 19 21,m_ 11 22] [1,2,7,12,13,14,15,16,17,18,19,20,21,22]) (.cond (.t 11) (.seq (r_ [z_ 6 2] [11]) (.ret)) (.skip)))))) (.seq (r_ [z_ 6 0] [11]) (.ret)))
set_option maxRecDepth 4000 in
theorem comp91:(Tryz.f91.body.bind fun c=>compC tab isP chkAll ir91 c)=some ir91:=by kernel_rfl
def b44_1:IR:=
 .seq (r_ [b_ 41 .lss 40 39] []) (.seq (.cond (.t 41) (.skip) (.exit 0)) (.seq (.block 1 (.seq (r_ [i_ 42 38 40 2,o_ 43 (.ld true (some 2) 0 0 (.t 42)),o_ 11 (.allocI 29 .i64 2),S_ 2 .i64 11 43] [41,42,43]) (.seq (r_ [m_ 44 9,o_ 45 (.idxP (.t 11) (Z_ 0) 2 1),L_ 46 45,o_ 47 (.idxP (.t 11) (Z_ 1) 2 1),L_ 48 47,o_ 49 (.call none 30 95 [.t 44,.t 46,.t 48,.k (.fn 96 [])])] [44,45,46,47,48,49]) (r_ [m_ 50 9,o_ 51 (.idxP (.t 11) (Z_ 0) 2 1),L_ 52 51,o_ 53 (.idxP (.t 11) (Z_ 1) 2 1),L_ 54 53,o_ 55 (.call none 34 97 [.t 50,.t 52,.t 54,.k (.fn 96 [])])] [11,50,51,52,53,54,55])))) (r_ [a_ 56 40 1,m_ 40 56] [56])))
def r44_2:IR:=
 .seq (R_ [f_ 57 3 0,l_ 58 57,f_ 59 3 1,l_ 60 59,m_ 61 9,n_ 62 61,f_ 63 62 1,l_ 64 63,o_ 65 (.build [y_,y_,nilSV] [(0,1,.t 58),(1,1,.t 60),(2,1,.t 64)]),s_ 3 .i64 6 65,z_ 7 0] [3,9,38,39,40,57,58,59,60,61,62,63,64,65]) (.ret)
def ir44:IR:=
 .seq (r_ [o_ 3 (.box 10 (.t 0)),o_ 6 (.alloc 11 [y_,y_,nilSV]),z_ 7 0] [0,7]) (.seq (.seq (r_ [o_ 12 (.ld false (some 3) 0 0 (.t 3)),m_ 13 1,m_ 14 2,o_ 15 (.call (some 4) 12 91 [.t 12,.t 13,.t 14]),m_ 8 15] [12,13,14,15]) (.seq (r_ [m_ 16 8,c_ 17 .neq 16 0] [16]) (.cond (.t 17) (.seq (r_ [o_ 18 (.build [y_,y_,nilSV] []),m_ 19 8,s_ 3 .i64 6 18,m_ 7 19] [1,2,3,8,17,18,19]) (.ret)) (.skip)))) (.seq (.seq (r_ [f_ 20 3 2,l_ 21 20,o_ 22 (.call (some 4) 16 92 [.t 21,Z_ 1024]),o_ 23 (.not (.t 22))] [7,8,17,20,21,22]) (.cond (.t 23) (.seq (r_ [o_ 24 (.build [y_,y_,nilSV] []),s_ 3 .i64 6 24,z_ 7 2] [1,2,3,23,24]) (.ret)) (.skip))) (.seq (R_ [f_ 25 3 0,⟨some 26,none,⟨[20,21,22,23],[]⟩,.ld false none 0 0 (.t 25)⟩,f_ 27 3 2,l_ 28 27,o_ 29 (.call (some 4) 20 93 [.t 28]),m_ 30 1,o_ 31 (.build [y_,nilSV,y_] [(0,1,.t 26),(1,1,.t 29),(2,1,.t 30)]),o_ 32 (.box 24 (.t 31)),m_ 9 32] [1,7,23,25,26,27,28,29,30,31,32]) (.seq (.seq (r_ [f_ 33 3 0,l_ 34 33,f_ 35 3 1,l_ 36 35,m_ 37 2,o_ 38 (.call (some 4) 25 94 [.t 34,.t 36,.t 37]),h_ 39 38,z_ 40 0] [2,33,34,35,36,37]) (.block 0 (.loop b44_1))) (r44_2)))))
def kp44_1:List Nat:=[3,6,9,38,39,40]
def kl44_1:List Nat:=[29,30,31,32,33,34,35,36,37]
attribute [push_cast] kp44_1 kl44_1
set_option maxRecDepth 4000 in
theorem comp44:(Tryz.f44.body.bind fun c=>compC tab isP chkAll ir44 c)=some ir44:=by kernel_rfl
def stOk (kind n:Int):Prop:=(kind=0∨kind=1)/\0<=n/\n<=6
instance (kind n:Int):Decidable (stOk kind n):=by unfold stOk;infer_instance
structure AskA where
 a:PlA
 kind:Int
 n:Int
def askE (p:Pl) (kind n:Int):Int:=if p.Ok then if stOk kind n then 0 else 2 else 70
def fs91:FS where
 A:=AskA
 args:=fun a=>[plV a.a.p a.a.L 0,.int .i64 a.kind,.int .i64 a.n]
 mem:=fun a=>[some (.ro,a.a.L,.ints .i64 a.a.p.xs)]
 pre:=fun a=>a.a.p.xs.length<=140737488355328
 res:=fun a x=>.int .i64 (askE a.a.p a.kind a.n)
def inv91:List SV->Look->Option (AskA×List Nat)
 | [v,.int .i64 k,.int .i64 n],look=>match getP look v with
  | some (a,g)=>some (⟨a,k,n⟩,g)
  | _=>none
 | _,_=>none
attribute [push_cast] inv91
theorem ok91:FSOk Tryz.prog 91 fs91:=by
 refine hd_ (fk_ Tryz.func91) fun a hp=>?_
 obtain⟨⟨⟨w,h,xs⟩,L⟩,kind,n⟩:=a
 change xs.length<=140737488355328 at hp
 change Tri Tryz.prog 91 [plV ⟨w,h,xs⟩ L 0,.int .i64 kind,.int .i64 n] [some (.ro,L,.ints .i64 xs)] (postF fs91 ⟨⟨⟨w,h,xs⟩,L⟩,kind,n⟩)
 refine tri_evS (hyp (l:=[(98,ent98)]) (lp:=[(146,kindF)]) ⟨e98,trivial⟩ ⟨p146,trivial⟩) Tryz.func91 comp91 (rs:=[.tmp 6]) (by rfl) Tryz.ntmps91 15 ?_
 simp -implicitDefEqProofs only[push_cast,zz,seval,ir91,fs98]
 refine fun X=>⟨hp,fun hn=>?_,fun hy=>⟨fun hb=>?_,fun hg=>?_⟩⟩
 ·refine postF.mk' (fun _=>default) [some 0] ?_
  simp -implicitDefEqProofs only[push_cast,zz,seval,fs91,askE,hn,if_false]
 ·have e:¬ stOk kind n:=fun H=>by obtain⟨q1,q2,q3⟩:=H;simp[q1]at hb;omega
  refine postF.mk' (fun _=>default) [some 0] ?_
  simp -implicitDefEqProofs only[push_cast,zz,seval,fs91,askE,hy,e,if_false,if_true]
 ·have e:stOk kind n:=⟨Classical.byContradiction fun q=>hg (.inl (.inl q)),Classical.byContradiction fun q=>hg (.inl (.inr (by omega))),Classical.byContradiction fun q=>hg (.inr (by omega))⟩
  refine postF.mk' (fun _=>default) [some 0] ?_
  simp -implicitDefEqProofs only[push_cast,zz,seval,fs91,askE,hy,e,if_true]
def ent91:Entry:=spOf fs91 inv91
theorem e91:EntryOk Tryz.prog 91 ent91:=entry_of ok91 inv91
@[push_cast] theorem ent91_a u l x k:ent91 u l x k=spOf fs91 inv91 u l x k:=rfl
def fwOk (p:Pl) (kind n:Int):Prop:=p.Ok/\stOk kind n/\AllIn (-1024) 1024 p.xs
instance (p:Pl) (kind n:Int):Decidable (fwOk p kind n):=by unfold fwOk;infer_instance
def fwP (p:Pl) (kind n:Int):Pl:=if fwOk p kind n then ⟨p.w,p.h,fwd lineL kind p.w.toNat p.h.toNat p.xs n.toNat⟩else pl0
def fwE (p:Pl) (kind n:Int):Int:=if fwOk p kind n then 0 else if p.Ok then 2 else 70
theorem Pl.nat {w h:Int} {xs:List Int} (hs:SidesOk w h) (hl:(xs.length:Int)=w*h):∃ W H:Nat,w=W/\h=H/\W<=200/\H<=200/\xs.length=H*W/\xs.length<=8192:=by
 obtain⟨a1,a2,a3,a4,a5⟩:=id hs
 obtain⟨W,rfl⟩:∃ n:Nat,w=(n:Int):=⟨w.toNat,by omega⟩
 obtain⟨H,rfl⟩:∃ n:Nat,h=(n:Int):=⟨h.toNat,by omega⟩
 refine⟨W,H,rfl,rfl,by omega,by omega,?_,by omega⟩
 rw[Nat.mul_comm,<-Int.ofNat_inj];simp only[Int.natCast_mul];exact hl
theorem fwd_bd6 {kind:Int} {W H:Nat} {xs:List Int} (hl:xs.length=H*W) (h:AllIn (-1024) 1024 xs) {i:Nat} (hi:i<=5):AllIn (-357913941) 357913941 (fwd lineL kind W H xs i) /\
  ∀ (w h:Nat),w<=W->h<=H->AllIn (-357913941) 357913941 (rwL lineL kind W w (fwd lineL kind W H xs i) h):=by
 have hB:=fwd_bd trn_line (kind:=kind) (W:=W) (h:=H) (by omega) h (by omega) i
 have h0:(0:Int)<=bnd 1024 i:=bnd_pos (by omega) i
 have key:∀ i:Nat,i<=5->3*bnd 1024 i+1<=357913941:=by
  intro i hi
  have:i=0∨i=1∨i=2∨i=3∨i=4∨i=5:=by omega
  rcases this with rfl | rfl | rfl | rfl | rfl | rfl<;>decide
 have k:=key i hi
 have up:∀ (B:Int) (ys:List Int),B<=357913941->AllIn (-B) B ys->AllIn (-357913941) 357913941 ys:=fun B ys hB h n hn=>by have:=h n hn;omega
 refine⟨up _ _ (by omega) hB,fun w h hw hh=>up _ _ k (rwL_bd trn_line hw (by rw[fwd_length,hl];exact Nat.mul_le_mul_right _ hh) hB h0)⟩
def fs44:FS where
 A:=AskA
 args:=fun a=>[plV a.a.p a.a.L 0,.int .i64 a.kind,.int .i64 a.n]
 mem:=fun a=>[some (.ro,a.a.L,.ints .i64 a.a.p.xs)]
 pre:=fun a=>a.a.p.xs.length<=140737488355328
 res:=fun a x=>.tup [plV (fwP a.a.p a.kind a.n) (lx (fwOk a.a.p a.kind a.n) x 0) 1,.int .i64 (fwE a.a.p a.kind a.n)]
 new:=fun a x=>[(lx (fwOk a.a.p a.kind a.n) x 0,.ints .i64 (fwP a.a.p a.kind a.n).xs)]
theorem ok44:FSOk Tryz.prog 44 fs44:=by
 refine hd_ (fk_ Tryz.func44) fun a hp=>?_
 obtain⟨⟨⟨w,h,xs⟩,L⟩,kind,n⟩:=a
 change xs.length<=140737488355328 at hp
 change Tri Tryz.prog 44 [plV ⟨w,h,xs⟩ L 0,.int .i64 kind,.int .i64 n] [some (.ro,L,.ints .i64 xs)] (postF fs44 ⟨⟨⟨w,h,xs⟩,L⟩,kind,n⟩)
 refine tri_evS (hyp (l:=[(91,ent91),(92,ent92),(93,ent93),(94,ent94),(95,ent95f),(97,ent97f)]) (lp:=[])
  ⟨e91,e92,e93,e94,e95f,e97f,trivial⟩ trivial) Tryz.func44 comp44 (rs:=[.cell 6 (some 3),.tmp 7]) (by rfl) Tryz.ntmps44 37 ?_
 simp -implicitDefEqProofs only[push_cast,zz,seval,ir44,fs91,fs92]
 by_cases hO:(⟨w,h,xs⟩:Pl).Ok/\stOk kind n
 ·obtain⟨hO,hS⟩:=hO
  have hE:askE ⟨w,h,xs⟩ kind n=0:=by unfold askE;rw[if_pos hO,if_pos hS]
  simp -implicitDefEqProofs only[push_cast,zz,seval,hE,hp]
  intro X
  repeat refine om_ ?_
  refine⟨fun hb=>?_,fun hg X1=>?_⟩
  ·have e:¬ fwOk ⟨w,h,xs⟩ kind n:=fun H=>hb H.2.2
   refine postF.mk' (fun _=>default) [some 0,none] ?_
   simp -implicitDefEqProofs only[push_cast,zz,seval,fs44,fwP,fwE,e,hO,if_false,if_true,lx,pl0]
  have e:fwOk ⟨w,h,xs⟩ kind n:=⟨hO,hS,hg⟩
  obtain⟨hs,hl,ha⟩:SidesOk w h/\(xs.length:Int)=w*h/\AllIn (-16777216) 16777216 xs:=id hO
  obtain⟨W,H,rfl,rfl,hW,hH,hl2,hl3⟩:=Pl.nat hs hl
  obtain⟨hk,hn0,hn6⟩:=id hS
  obtain⟨n,rfl⟩:∃ m:Nat,n=(m:Int):=⟨n.toNat,by omega⟩
  simp -implicitDefEqProofs only[push_cast,zz,seval,fs93,fs94,Int.toNat_natCast]
  repeat refine om_ ?_
  intro X2
  repeat refine om_ ?_
  refine evS_loopU (A:=Nat) kp44_1 kl44_1 (fun i=>[(40,.int .i64 i)]) (fun i=>[(20,.mine,X1 4 20,.ints .i64 (fwd lineL kind W H xs i))]) (fun i=>i<=n) (fun i=>n-i) 0 (by omega) (Sub.pt ?_) ?_
  ·simp -implicitDefEqProofs only[push_cast,zz,seval,fwd]
  intro i (hi:i<=n) K hK
  have hL:=fwd_length lineL kind W H xs i
  have b1:=hlf_le W i
  have b2:=hlf_le H i
  by_cases hi':i<n
  ·obtain⟨f1,f2⟩:=fwd_bd6 (kind:=kind) hl2 hg (i:=i) (by omega)
   have f2:=f2 (hlf W i) (hlf H i) b1 b2
   have hR:=rwL_length lineL kind W (hlf W i) (fwd lineL kind W H xs i) (hlf H i)
   have q:clL lineL kind W (hlf H i) (rwL lineL kind W (hlf W i) (fwd lineL kind W H xs i) (hlf H i)) (hlf W i)=fwd lineL kind W H xs (i+1):=rfl
   have hm:hlf H i*W<=xs.length:=by rw[hl2];exact Nat.mul_le_mul_right _ b2
   have r1:=recAt_tabR hi' (sdR W H) []
   have r2:esz 2 n=2:=esz_pos (by omega)
   have e0:rd [(hlf W i:Int),(hlf H i:Int)] 0=hlf W i:=rfl
   have e1:rd [(hlf W i:Int),(hlf H i:Int)] 1=hlf H i:=rfl
   simp -implicitDefEqProofs only[push_cast,zz,seval,b44_1,r44_2,e0,e1,fs95f,fs97f,r1,r2,sdR,tabR_length,hL,hR,hi',hk,f1,f2,q,Int.toNat_natCast]
   refine⟨fun _ X3=>?_,fun hl=>by omega⟩
   repeat refine om_ ?_
   refine hK (i+1) (by omega) (by omega) _ _ (Sub.pt ?_)
   simp -implicitDefEqProofs only[push_cast,zz,seval,r2]
  ·obtain rfl:i=n:=by omega
   clear hK
   simp -implicitDefEqProofs only[push_cast,zz,seval,b44_1,r44_2,hL,Int.lt_irrefl,true_implies,true_and]
   refine postF.mk' (locs [X1 4 20]) [some 0,some 20] ?_
   simp -implicitDefEqProofs only[push_cast,zz,seval,fs44,fwP,fwE,e,hL,Int.toNat_natCast,if_true,lx]
 ·have e:¬ fwOk ⟨w,h,xs⟩ kind n:=fun H=>hO ⟨H.1,H.2.1⟩
  obtain⟨c,hcc,hc0,hc1⟩:∃ c:Int,askE ⟨w,h,xs⟩ kind n=c/\¬ c=0/\(if (⟨w,h,xs⟩:Pl).Ok then (2:Int)else 70)=c:=by
   refine⟨_,rfl,?_,?_⟩
   ·unfold askE;split
    ·rename_i hq;rw[if_neg (fun q=>hO ⟨hq,q⟩)];decide
    ·decide
   ·unfold askE;split
    ·rename_i hq;rw[if_neg (fun q=>hO ⟨hq,q⟩)]
    ·rfl
  simp -implicitDefEqProofs only[push_cast,zz,seval,hcc,hp,hc0]
  refine fun X=>postF.mk' (fun _=>default) [some 0,none] ?_
  simp -implicitDefEqProofs only[push_cast,zz,seval,fs44,fwP,fwE,e,hc1,if_false,lx,pl0]
def ent44:Entry:=spOf fs44 inv91
theorem e44:EntryOk Tryz.prog 44 ent44:=entry_of ok44 inv91
@[push_cast] theorem ent44_a u l x k:ent44 u l x k=spOf fs44 inv91 u l x k:=rfl
structure TurnA where
 a:LineA
 b:Bool
structure RrA where
 L:Xf.Loc
 W:Nat
 H:Int
 ws:List Int
 w:Nat
 h:Nat
 kind:Int
 b:Bool
def ir201:IR:=
 .seq (r_ [o_ 1 (.box 10 (.t 0)),o_ 2 (.mov (.k (.bool false)))] [0,2]) (.seq (r_ [f_ 3 1 4,l_ 4 3,f_ 5 1 5,l_ 6 5,b_ 7 .mul 4 6,c_ 8 .eql 7 0,m_ 2 8] [1,3,4,5,6,7,8]) (.ret))
set_option maxRecDepth 4000 in
theorem comp201:(Tryz.f201.body.bind fun c=>compC tab isP chkAll ir201 c)=some ir201:=by kernel_rfl
def b219_1:IR:=
 .seq (r_ [b_ 9 .lss 8 7] []) (.seq (.cond (.t 9) (.skip) (.exit 0)) (.seq (.block 1 (.seq (r_ [m_ 10 8,m_ 5 10] [9,10]) (.seq (r_ [m_ 11 1,m_ 12 0,m_ 13 5,i_ 14 12 13 6,o_ 15 (.ld true (some 6) 0 0 (.t 14)),o_ 16 (.callv (some 4) 10 (.t 11) [.t 15])] [11,12,13,14,15]) (.cond (.t 16) (.seq (r_ [m_ 17 5,m_ 4 17] [0,1,5,7,8,16,17]) (.ret)) (.skip))))) (r_ [a_ 18 8 1,m_ 8 18] [4,5,16,18])))
def r219_2:IR:=
 .seq (r_ [z_ 4 (-1)] [0,1,7,8]) (.ret)
def ir219:IR:=
 .seq (r_ [z_ 4 0] [4]) (.seq (.seq (r_ [m_ 6 0,h_ 7 6,z_ 8 0] [6]) (.block 0 (.loop b219_1))) (r219_2))
def kp219_1:List Nat:=[0,1,7,8]
def kl219_1:List Nat:=[10,11,12,13]
attribute [push_cast] kp219_1 kl219_1
set_option maxRecDepth 4000 in
theorem comp219:(Tryz.f219.body.bind fun c=>compC tab isP chkAll ir219 c)=some ir219:=by kernel_rfl
def b200_1:IR:=
 .seq (.seq (r_ [m_ 16 6,m_ 17 0,h_ 18 17,b_ 19 .lss 16 18] [16,17,18]) (.cond (.t 19) (.skip) (.exit 0))) (.seq (.block 1 (.seq (r_ [m_ 22 0,m_ 23 6,i_ 24 22 23 6,o_ 25 (.ld true (some 6) 0 0 (.t 24)),o_ 7 (.alloc 14 [y_,y_,y_,y_,y_,y_]),s_ 6 .i64 7 25] [19,22,23,24,25]) (.seq (r_ [m_ 26 1,o_ 27 (.ld false (some 6) 0 0 (.t 7)),o_ 28 (.callv (some 4) 15 (.t 26) [.t 27]),o_ 29 (.not (.t 28))] [26,27,28]) (.cond (.t 29) (.seq (r_ [m_ 30 0,m_ 31 5,o_ 32 (.ld false (some 6) 0 0 (.t 7)),i_ 33 30 31 6,S_ 6 .i64 33 32] [7,29,30,31,32,33]) (r_ [m_ 34 5,a_ 35 34 1,m_ 5 35] [34,35])) (.skip))))) (r_ [m_ 20 6,a_ 21 20 1,m_ 6 21] [7,20,21,29]))
def r200_2:IR:=
 .seq (r_ [m_ 36 0,m_ 37 5,o_ 38 (.slc (.t 36) 6 (some (.t 37)) none),O_ (.clear [.int .i64 0,.int .i64 0,.int .i64 0,.int .i64 0,.int .i64 0,.int .i64 0] (.t 38))] [1,6,36,37,38]) (.seq (r_ [m_ 39 0,m_ 40 5,o_ 41 (.slc (.t 39) 6 none (some (.t 40))),m_ 4 41] [0,5,39,40,41]) (.ret))
def ir200:IR:=
 .seq (r_ [o_ 4 (.mov (.k nilSV))] [4]) (.seq (r_ [m_ 8 0,m_ 9 1,o_ 10 (.call (some 4) 10 219 [.t 8,.t 9]),m_ 5 10] [8,9,10]) (.seq (.seq (r_ [m_ 11 5,c_ 12 .eql 11 (-1)] [11]) (.cond (.t 12) (.seq (r_ [m_ 13 0,m_ 4 13] [0,1,5,12,13]) (.ret)) (.skip))) (.seq (.seq (r_ [m_ 14 5,a_ 15 14 1,m_ 6 15] [4,12,14,15]) (.block 0 (.loop b200_1))) (r200_2))))
def kp200_1:List Nat:=[0,1,5,6]
def kl200_1:List Nat:=[14,15,16,17,18]
attribute [push_cast] kp200_1 kl200_1
set_option maxRecDepth 4000 in
theorem comp200:(Tryz.f200.body.bind fun c=>compC tab isP chkAll ir200 c)=some ir200:=by kernel_rfl
structure Bd where
 lv:Int
 kd:Int
 x:Int
 y:Int
 w:Int
 h:Int
 deriving Inhabited,DecidableEq
def Bd.rc (x:Bd):List RC:=[.int .i64 x.lv,.int .i64 x.kd,.int .i64 x.x,.int .i64 x.y,.int .i64 x.w,.int .i64 x.h]
def Bd.sv (x:Bd):SV:=.agg [.int .i64 x.lv,.int .i64 x.kd,.int .i64 x.x,.int .i64 x.y,.int .i64 x.w,.int .i64 x.h]
attribute [push_cast] Bd.sv
def rdBd (l:List Bd) (i:Int):Bd:=l.getD i.toNat default
theorem recAt_Bd {l:List Bd} {i:Int} (h0:0<=i) (h1:i<l.length) (z:List RC) (e:List (List RC)):recAt i z (l.map Bd.rc++e)=(rdBd l i).rc:=by
 have h:i.toNat<l.length:=by omega
 unfold recAt rdBd
 simp[List.getD_eq_getElem?_getD,List.getElem?_append_left,h]
theorem recAt_Bd' {l:List Bd} {i:Int} (h0:0<=i) (h1:i<l.length) (z:List RC):recAt i z (l.map Bd.rc)=(rdBd l i).rc:=by
 have:=recAt_Bd h0 h1 z []
 rwa [List.append_nil]at this
theorem rdBd_nat {l:List Bd} {i:Nat} (h:i<l.length):rdBd l (i:Int)=l[i]:=by simp[rdBd,h]
theorem rdBd_mem {l:List Bd} {i:Nat} (h:i<l.length):rdBd l (i:Int)∈l:=by rw[rdBd_nat h];exact List.getElem_mem h
theorem Bd.noRow (l:List Bd) (k n:Nat) (fr:Bool) (y:Addr):¬ rows (.recs n fr [] (l.map Bd.rc++List.replicate k [.int .i64 0,.int .i64 0,.int .i64 0,.int .i64 0,.int .i64 0,.int .i64 0])) y:=by
 rintro⟨L,kk,xs,⟨r,hr,hin⟩,_⟩
 rcases List.mem_append.1 hr with h | h
 ·obtain⟨x,_,rfl⟩:=List.mem_map.1 h
  simp[Bd.rc]at hin
 ·obtain⟨_,rfl⟩:=List.mem_replicate.1 h
  simp at hin
def Bd.ok (x:Bd):Prop:=0<=x.w/\x.w<=200/\0<=x.h/\x.h<=200
def Bd.gone (x:Bd):Bool:=decide (x.w*x.h=0)
structure Bd1 where
 x:Bd
def fs201:FS where
 A:=Bd1
 args:=fun a=>[a.x.sv]
 pre:=fun a=>a.x.ok
 res:=fun a _=>.bool a.x.gone
def inv201:List SV->Look->Option (Bd1×List Nat)
 | [.agg [.int .i64 lv,.int .i64 kd,.int .i64 x,.int .i64 y,.int .i64 w,.int .i64 h]],look=>some (⟨⟨lv,kd,x,y,w,h⟩⟩,[])
 | _,_=>none
attribute [push_cast] inv201
theorem ok201:FSOk Tryz.prog 201 fs201:=by
 refine hd_ (fk_ Tryz.func201) fun a hp=>?_
 obtain⟨⟨lv,kd,x,y,w,h⟩⟩:=a
 obtain⟨h1,h2,h3,h4⟩:0<=w/\w<=200/\0<=h/\h<=200:=hp
 change Tri Tryz.prog 201 [(⟨lv,kd,x,y,w,h⟩:Bd).sv] [] (postF fs201 ⟨⟨lv,kd,x,y,w,h⟩⟩)
 have hm:=mul_bd h1 h2 h3 h4
 refine tri_evS (hyp (l:=[]) (lp:=[]) trivial trivial) Tryz.func201 comp201 (rs:=[.tmp 2]) (by rfl) Tryz.ntmps201 11 ?_
 simp -implicitDefEqProofs only[push_cast,zz,seval,ir201]
 intro X
 repeat refine om_ ?_
 refine postF.mk' (fun _=>default) [] ?_
 simp -implicitDefEqProofs only[push_cast,zz,seval,fs201,Bd.gone]
def ent201:Entry:=spOf fs201 inv201
theorem e201:EntryOk Tryz.prog 201 ent201:=entry_of ok201 inv201
@[push_cast] theorem ent201_a u l x k:ent201 u l x k=spOf fs201 inv201 u l x k:=rfl
structure Bds where
 L:Xf.Loc
 l:List Bd
def fs219:FS where
 A:=Bds
 args:=fun a=>[.sl 0 a.L 6 0 a.l.length,.fn 201 []]
 mem:=fun a=>[some (.ro,a.L,.recs 6 false [] (a.l.map Bd.rc))]
 pre:=fun a=>a.l.length<=1000000/\∀ x∈a.l,x.ok
 res:=fun a _=>.int .i64 (if a.l.findIdx Bd.gone<a.l.length then (a.l.findIdx Bd.gone:Nat)else -1)
def getBd:List (List RC)->Option (List Bd)
 | []=>some []
 | [.int .i64 lv,.int .i64 kd,.int .i64 x,.int .i64 y,.int .i64 w,.int .i64 h]::l=>match getBd l with | some r=>some (⟨lv,kd,x,y,w,h⟩::r) | none=>none
 | _=>none
theorem getBd_map:∀ l:List Bd,getBd (l.map Bd.rc)=some l
 | []=>rfl
 | x::l=>by simp only[List.map_cons,Bd.rc,getBd,getBd_map l]
def inv219:List SV->Look->Option (Bds×List Nat)
 | [.sl c _ 6 0 _,.fn 201 []],look=>match rowR (look c)with
  | some (L,6,_,r)=>match getBd r with | some l=>some (⟨L,l⟩,[c]) | none=>none
  | _=>none
 | _,_=>none
attribute [push_cast] inv219 getBd_map
theorem ok219:FSOk Tryz.prog 219 fs219:=by
 refine hd_ (fk_ Tryz.func219) fun a hp=>?_
 obtain⟨L,l⟩:=a
 obtain⟨hl,hok⟩:l.length<=1000000/\∀ x∈l,x.ok:=hp
 change Tri Tryz.prog 219 [.sl 0 L 6 0 l.length,.fn 201 []] [some (.ro,L,.recs 6 false [] (l.map Bd.rc))] (postF fs219 ⟨L,l⟩)
 refine tri_evS (hyp (l:=[(201,ent201)]) (lp:=[]) ⟨e201,trivial⟩ trivial) Tryz.func219 comp219 (rs:=[.tmp 4]) (by rfl) Tryz.ntmps219 14 ?_
 simp -implicitDefEqProofs only[push_cast,zz,seval,ir219]
 refine evS_loopU (A:=Nat) kp219_1 kl219_1 (fun i=>[(8,.int .i64 i)]) (fun _=>[]) (fun i=>i<=l.length/\∀ j:Nat,j<i->(rdBd l j).gone=false) (fun i=>l.length-i) 0 ⟨Nat.zero_le _,fun j hj=>absurd hj (Nat.not_lt_zero j)⟩ (Sub.pt ?_) ?_
 ·simp -implicitDefEqProofs only[push_cast,zz,seval]
 intro i ⟨hi,hj⟩ K hK
 by_cases hi':i<l.length
 ·have r1:=recAt_Bd' (l:=l) (i:=(i:Int)) (by omega) (by omega) []
  have o1:=hok _ (rdBd_mem hi')
  have hlm:(l.map Bd.rc).length=l.length:=by rw[List.length_map]
  obtain⟨x,hx⟩:∃ x,rdBd l (i:Int)=x:=⟨_,rfl⟩
  have hx':l[i]=x:=by rw[<-rdBd_nat hi',hx]
  rw[hx]at r1 o1
  obtain⟨lv,kd,x,y,w,h⟩:=x
  obtain⟨g,hg⟩:∃ g,(⟨lv,kd,x,y,w,h⟩:Bd).gone=g:=⟨_,rfl⟩
  simp -implicitDefEqProofs only[push_cast,zz,seval,b219_1,r219_2,r1,Bd.rc,hlm,fs201,hg]
  refine⟨fun _=>?_,fun hl=>by omega⟩
  repeat refine om_ ?_
  refine⟨fun hb=>?_,fun hb=>⟨by omega,by omega,hK (i+1) ⟨by omega,fun j h=>?_⟩ (by omega) _ _ (Sub.pt ?_)⟩⟩
  ·have e:l.findIdx Bd.gone=i:=by
    rw[List.findIdx_eq hi']
    refine⟨by rw[hx',hg];exact hb,fun j h=>?_⟩
    have:=hj j h
    rwa [rdBd_nat (by omega)]at this
   refine postF.mk' (fun _=>default) [some 0] ?_
   simp -implicitDefEqProofs only[push_cast,zz,seval,fs219,e,hi',if_true]
  ·by_cases e:j=i
   ·subst e;rw[hx,hg];exact hb
   ·exact hj j (by omega)
  ·simp -implicitDefEqProofs only[push_cast,zz,seval]
 ·obtain rfl:i=l.length:=by omega
  clear hK
  have e:¬ l.findIdx Bd.gone<l.length:=fun h=>by
   have h1:=List.findIdx_getElem (w:=h)
   have h2:=hj _ h
   rw[rdBd_nat h,h1]at h2
   cases h2
  simp -implicitDefEqProofs only[push_cast,zz,seval,b219_1,r219_2,Int.lt_irrefl,true_implies,true_and]
  refine postF.mk' (fun _=>default) [some 0] ?_
  simp -implicitDefEqProofs only[push_cast,zz,seval,fs219,e,if_false]
def ent219:Entry:=spOf fs219 inv219
theorem e219:EntryOk Tryz.prog 219 ent219:=entry_of ok219 inv219
@[push_cast] theorem ent219_a u l x k:ent219 u l x k=spOf fs219 inv219 u l x k:=rfl
def keptBd (l:List Bd):List Bd:=l.filter fun x=>!x.gone
theorem keptBd_le (l:List Bd):(keptBd l).length<=l.length:=List.length_filter_le _ _
def fs200:FS where
 A:=Bds
 args:=fun a=>[.sl 0 a.L 6 0 a.l.length,.fn 201 []]
 mem:=fun a=>[some (.lent,a.L,.recs 6 false [] (a.l.map Bd.rc))]
 pre:=fun a=>a.l.length<=1000000/\∀ x∈a.l,x.ok
 res:=fun a _=>.sl 0 a.L 6 0 (keptBd a.l).length
 out:=fun a _=>[some (some (.recs 6 false [] ((keptBd a.l).map Bd.rc++List.replicate (a.l.length-(keptBd a.l).length) [.int .i64 0,.int .i64 0,.int .i64 0,.int .i64 0,.int .i64 0,.int .i64 0])))]
theorem del_step {l m:List Bd} {i j:Nat} (hij:i<j) (hj:j<l.length) (hm:m.length=l.length) (h1:m.take i=keptBd (l.take j)) (h2:m.drop j=l.drop j) :
  rdBd m j=rdBd l j/\((rdBd l j).gone=true->m.take i=keptBd (l.take (j+1)))/\((rdBd l j).gone=false->(m.set i (rdBd l j)).take (i+1)=keptBd (l.take (j+1))/\(m.set i (rdBd l j)).drop (j+1)=l.drop (j+1))/\m.drop (j+1)=l.drop (j+1):=by
 have e0:m[j]'(by omega)=l[j]:=by
  have:=congrArg (fun q=>q[0]?) h2
  simp only[List.getElem?_drop,Nat.add_zero]at this
  rw[List.getElem?_eq_getElem (by omega),List.getElem?_eq_getElem hj]at this
  exact Option.some.inj this
 have e1:l.take (j+1)=l.take j++[l[j]]:=List.take_succ_eq_append_getElem hj
 have e2:m.drop (j+1)=l.drop (j+1):=by
  have:=congrArg (List.drop 1) h2
  simpa [List.drop_drop,Nat.add_comm]using this
 refine⟨by rw[rdBd_nat hj,rdBd_nat (by omega),e0],fun h=>?_,fun h=>?_,e2⟩
 ·rw[rdBd_nat hj]at h
  rw[h1,e1];unfold keptBd;rw[List.filter_append];simp[h]
 ·rw[rdBd_nat hj]at h ⊢
  refine⟨?_,by rw[List.drop_set_of_lt (by omega),e2]⟩
  rw[List.take_succ_eq_append_getElem (by simp;omega),List.take_set_of_le (Nat.le_refl i),List.getElem_set_self,h1,e1]
  unfold keptBd;rw[List.filter_append];simp[h]
theorem kept_find {l:List Bd} (h:l.findIdx Bd.gone<l.length):l.take (l.findIdx Bd.gone)=keptBd (l.take (l.findIdx Bd.gone+1)):=by
 rw[List.take_succ_eq_append_getElem h]
 unfold keptBd
 rw[List.filter_append,List.filter_eq_self.2 fun x hx=>?_]
 ·have:=List.findIdx_getElem (w:=h);simp[this]
 ·obtain⟨j,hj,rfl⟩:=List.getElem_of_mem hx
  simp only[List.length_take]at hj
  have:=List.not_of_lt_findIdx (xs:=l) (p:=Bd.gone) (i:=j) (by omega)
  simpa using this
theorem kept_no {l:List Bd} (h:¬ l.findIdx Bd.gone<l.length):keptBd l=l:=by
 refine List.filter_eq_self.2 fun x hx=>?_
 have h1:¬ ∃ x∈l,x.gone=true:=fun q=>h (List.findIdx_lt_length.2 q)
 simp only[Bool.not_eq_true',<-Bool.not_eq_true]
 exact fun q=>h1 ⟨x,hx,q⟩
theorem ok200:FSOk Tryz.prog 200 fs200:=by
 refine⟨fk_ Tryz.func200,fun a=>⟨by simp[fs200,push_cast,noMine,argOwn,Chunk.frArg],by simp[fs200,push_cast,outOk,Chunk.ext],fun x=>.inr ⟨fun j L ch h=>?_,fun c ch h=>.inr fun y hy=>?_⟩⟩,fun a hp=>?_⟩
 ·simp[fs200]at h
 ·exfalso
  match c,h with
  | 0,h=>simp only[fs200,lk,Option.some.injEq]at h;subst h;exact Bd.noRow _ _ _ _ _ hy
  | c+1,h=>simp[fs200,lk]at h
 obtain⟨L,l⟩:=a
 obtain⟨hl,hok⟩:l.length<=1000000/\∀ x∈l,x.ok:=hp
 change Tri Tryz.prog 200 [.sl 0 L 6 0 l.length,.fn 201 []] [some (.lent,L,.recs 6 false [] (l.map Bd.rc))] (postF fs200 ⟨L,l⟩)
 refine tri_evS (hyp (l:=[(219,ent219),(201,ent201)]) (lp:=[]) ⟨e219,e201,trivial⟩ trivial) Tryz.func200 comp200 (rs:=[.tmp 4]) (by rfl) Tryz.ntmps200 19 ?_
 simp -implicitDefEqProofs only[push_cast,zz,seval,ir200,fs219]
 refine⟨hl,hok,?_⟩
 by_cases hf:l.findIdx Bd.gone<l.length
 case neg=>
  rw[if_neg hf]
  have e:=kept_no hf
  simp -implicitDefEqProofs only[push_cast,zz,seval,true_implies,true_and]
  refine postF.mk' (fun _=>default) [some 0] ?_
  simp -implicitDefEqProofs only[push_cast,zz,seval,fs200,e,Nat.sub_self,List.replicate_zero]
 rw[if_pos hf]
 have hk:=kept_find hf
 obtain⟨f,hfe⟩:∃ f,l.findIdx Bd.gone=f:=⟨_,rfl⟩
 rw[hfe]at hf hk ⊢
 refine⟨fun h=>by omega,fun _=>⟨by omega,by omega,?_⟩⟩
 refine evS_loopU (A:=Nat×Nat×List Bd) kp200_1 kl200_1 (fun y=>[(5,.int .i64 y.1),(6,.int .i64 y.2.1)]) (fun y=>[(0,.lent,L,.recs 6 false [] (y.2.2.map Bd.rc))])
  (fun y=>y.1<y.2.1/\y.2.1<=l.length/\y.2.2.length=l.length/\y.2.2.take y.1=keptBd (l.take y.2.1)/\y.2.2.drop y.2.1=l.drop y.2.1) (fun y=>l.length-y.2.1) (f,f+1,l) ⟨by simp only;omega,by simp only;omega,rfl,hk,rfl⟩ (Sub.pt ?_) ?_
 ·simp -implicitDefEqProofs only[push_cast,zz,seval]
 rintro⟨i,j,m⟩ ⟨h1,h2,h3,h4,h5⟩ K hK
 simp only at h1 h2 h3 h4 h5
 have hlm:(m.map Bd.rc).length=l.length:=by rw[List.length_map,h3]
 by_cases hj:j<l.length
 ·obtain⟨s1,s2,s3,s4⟩:=del_step h1 hj h3 h4 h5
  have r1:=recAt_Bd' (l:=m) (i:=(j:Int)) (by omega) (by omega) []
  have o1:=hok _ (rdBd_mem hj)
  rw[s1]at r1
  obtain⟨x,hx⟩:∃ x,rdBd l (j:Int)=x:=⟨_,rfl⟩
  rw[hx]at r1 o1 s2 s3
  obtain⟨lv,kd,x,y,w,h⟩:=x
  obtain⟨g,hg⟩:∃ g,(⟨lv,kd,x,y,w,h⟩:Bd).gone=g:=⟨_,rfl⟩
  rw[hg]at s2 s3
  simp -implicitDefEqProofs only[push_cast,zz,seval,b200_1,r200_2,r1,Bd.rc,hlm,fs201,hg]
  refine⟨fun _=>?_,fun hl=>by omega⟩
  intro X
  repeat refine om_ ?_
  refine⟨fun hb=>?_,fun hb=>?_⟩
  ·repeat refine om_ ?_
   refine hK (i+1,j+1,m.set i ⟨lv,kd,x,y,w,h⟩) ⟨by simp only;omega,by simp only;omega,by simp only[List.length_set];exact h3,(s3 (by simpa using hb)).1,(s3 (by simpa using hb)).2⟩ (by simp only;omega) _ _ (Sub.pt ?_)
   have q:(m.map Bd.rc).set i [.int .i64 lv,.int .i64 kd,.int .i64 x,.int .i64 y,.int .i64 w,.int .i64 h]=(m.set i ⟨lv,kd,x,y,w,h⟩).map Bd.rc:=by rw[List.map_set];rfl
   simp -implicitDefEqProofs only[push_cast,zz,seval,q,Int.toNat_natCast]
  ·repeat refine om_ ?_
   refine hK (i,j+1,m) ⟨by simp only;omega,by simp only;omega,h3,s2 (by simpa using hb),s4⟩ (by simp only;omega) _ _ (Sub.pt ?_)
   simp -implicitDefEqProofs only[push_cast,zz,seval]
 ·obtain rfl:j=l.length:=by omega
  clear hK
  rw[List.take_length]at h4
  have hi:i=(keptBd l).length:=by
   have:=congrArg List.length h4
   rw[List.length_take]at this;omega
  simp -implicitDefEqProofs only[push_cast,zz,seval,b200_1,r200_2,hlm,Int.lt_irrefl,true_implies,true_and]
  repeat refine om_ ?_
  refine postF.mk' (fun _=>default) [some 0] ?_
  have q:(m.map Bd.rc).take i=(keptBd l).map Bd.rc:=by rw[<-List.map_take,h4]
  have q2:((l.length:Int)-(i:Int)).toNat=l.length-(keptBd l).length:=by omega
  simp -implicitDefEqProofs only[push_cast,zz,seval,fs200,q,q2,<-hi,Int.toNat_natCast,Int.zero_add,Int.sub_zero]
def ent200:Entry:=spOf fs200 inv219
theorem e200:EntryOk Tryz.prog 200 ent200:=entry_of ok200 inv219
@[push_cast] theorem ent200_a u l x k:ent200 u l x k=spOf fs200 inv219 u l x k:=rfl
def b159_1:IR:=
 .seq (.seq (r_ [m_ 56 10,c_ 57 .gtr 56 0] [56]) (.cond (.t 57) (.skip) (.exit 0))) (.seq (.block 1 (.seq (r_ [m_ 60 8,m_ 61 10,c_ 62 .sub 61 1,i_ 63 60 62 2,o_ 64 (.ld true (some 2) 0 0 (.t 63)),o_ 11 (.allocI 15 .i64 2),S_ 2 .i64 11 64] [57,60,61,62,63,64]) (.seq (r_ [m_ 65 8,m_ 66 10,i_ 67 65 66 2,o_ 68 (.ld true (some 2) 0 0 (.t 67)),o_ 12 (.allocI 16 .i64 2),S_ 2 .i64 12 68] [65,66,67,68]) (.seq (R_ [o_ 69 (.idxP (.t 11) (Z_ 0) 2 1),L_ 70 69,o_ 71 (.idxP (.t 12) (Z_ 0) 2 1),L_ 72 71,b_ 73 .sub 70 72,o_ 74 (.idxP (.t 11) (Z_ 1) 2 1),L_ 75 74,o_ 76 (.idxP (.t 12) (Z_ 1) 2 1),L_ 77 76,b_ 78 .sub 75 77,m_ 13 73,m_ 14 78] [11,69,70,71,72,73,74,75,76,77,78]) (r_ [m_ 79 9,m_ 80 10,o_ 81 (.idxP (.t 12) (Z_ 0) 2 1),L_ 82 81,m_ 83 13,o_ 84 (.idxP (.t 12) (Z_ 1) 2 1),L_ 85 84,o_ 86 (.build [y_,y_,y_,y_,y_,y_] [(0,1,.t 80),(1,1,Z_ 1),(2,1,.t 82),(4,1,.t 83),(5,1,.t 85)]),m_ 87 10,o_ 88 (.idxP (.t 12) (Z_ 1) 2 1),L_ 89 88,o_ 90 (.idxP (.t 12) (Z_ 0) 2 1),L_ 91 90,m_ 92 14,o_ 93 (.build [y_,y_,y_,y_,y_,y_] [(0,1,.t 87),(1,1,Z_ 2),(3,1,.t 89),(4,1,.t 91),(5,1,.t 92)]),m_ 94 10,o_ 95 (.idxP (.t 12) (Z_ 0) 2 1),L_ 96 95,o_ 97 (.idxP (.t 12) (Z_ 1) 2 1),L_ 98 97,m_ 99 13,m_ 100 14,o_ 101 (.build [y_,y_,y_,y_,y_,y_] [(0,1,.t 94),(1,1,Z_ 3),(2,1,.t 96),(3,1,.t 98),(4,1,.t 99),(5,1,.t 100)]),o_ 102 (.brecs 17 6 .i64 [.t 86,.t 93,.t 101]),o_ 103 (.app 18 6 48 (.t 79) (.t 102)),m_ 9 103] [12,13,14,79,80,81,82,83,84,85,86,87,88,89,90,91,92,93,94,95,96,97,98,99,100,101,102,103]))))) (r_ [m_ 58 10,c_ 59 .sub 58 1,m_ 10 59] [58,59]))
def r159_2:IR:=
 .seq (r_ [m_ 104 9,o_ 105 (.call none 19 200 [.t 104,.k (.fn 201 [])]),m_ 6 105,z_ 7 0] [8,9,10,104,105]) (.ret)
def ir159:IR:=
 .seq (r_ [o_ 6 (.mov (.k nilSV)),z_ 7 0] [6,7]) (.seq (.seq (r_ [m_ 15 2,c_ 16 .lss 15 0,m_ 17 16,q_ 17 (m_ 18 2),q_ 17 (c_ 19 .gtr 18 6),k_ 20 17 19,m_ 21 20,q_ 21 (m_ 22 0),q_ 21 (c_ 23 .lss 22 0),k_ 24 21 23,m_ 25 24,q_ 25 (m_ 26 1),q_ 25 (c_ 27 .lss 26 0),k_ 28 25 27,m_ 29 28,q_ 29 (m_ 30 0),q_ 29 (c_ 31 .gtr 30 200),k_ 32 29 31,m_ 33 32,q_ 33 (m_ 34 1),q_ 33 (c_ 35 .gtr 34 200),k_ 36 33 35] [15,16,17,18,19,20,21,22,23,24,25,26,27,28,29,30,31,32,33,34,35]) (.cond (.t 36) (.seq (r_ [o_ 6 (.mov (.k nilSV)),z_ 7 2] [0,1,2,36]) (.ret)) (.skip))) (.seq (r_ [m_ 37 0,m_ 38 1,m_ 39 2,a_ 40 39 1,o_ 41 (.call (some 4) 10 94 [.t 37,.t 38,.t 40]),m_ 8 41] [0,1,6,7,36,37,38,39,40,41]) (.seq (R_ [m_ 42 2,m_ 43 8,m_ 44 2,i_ 45 43 44 2,o_ 46 (.idxP (.t 45) (Z_ 0) 2 1),L_ 47 46,m_ 48 8,m_ 49 2,i_ 50 48 49 2,o_ 51 (.idxP (.t 50) (Z_ 1) 2 1),L_ 52 51,o_ 53 (.build [y_,y_,y_,y_,y_,y_] [(0,1,.t 42),(4,1,.t 47),(5,1,.t 52)]),o_ 54 (.brecs 14 6 .i64 [.t 53]),m_ 9 54] [42,43,44,45,46,47,48,49,50,51,52,53,54]) (.seq (.seq (r_ [m_ 55 2,m_ 10 55] [2,55]) (.block 0 (.loop b159_1))) (r159_2)))))
def kp159_1:List Nat:=[8,9,10]
def kl159_1:List Nat:=[15,16,17,18]
attribute [push_cast] kp159_1 kl159_1
set_option maxRecDepth 4000 in
theorem comp159:(Tryz.f159.body.bind fun c=>compC tab isP chkAll ir159 c)=some ir159:=by kernel_rfl
def bd0 (w h n:Nat):Bd:=⟨n,0,0,0,hlf w n,hlf h n⟩
def bd3 (w h i:Nat):List Bd:=[⟨i,1,hlf w i,0,(hlf w (i-1):Int)-hlf w i,hlf h i⟩,⟨i,2,0,hlf h i,hlf w i,(hlf h (i-1):Int)-hlf h i⟩,⟨i,3,hlf w i,hlf h i,(hlf w (i-1):Int)-hlf w i,(hlf h (i-1):Int)-hlf h i⟩]
def bdD (w h n:Nat):Nat->List Bd
 | 0=>[bd0 w h n]
 | k+1=>bdD w h n k++bd3 w h (n-k)
def bdN (k:Nat):Nat:=1+3*k
theorem bdD_length (w h n:Nat):∀ k,(bdD w h n k).length=bdN k
 | 0=>rfl
 | k+1=>by rw[bdD,List.length_append,bdD_length w h n k];simp[bd3,bdN];omega
theorem bdD_ok {w h n:Nat} (hw:w<=200) (hh:h<=200):∀ k,k<=n->∀ x∈bdD w h n k,x.ok
 | 0,_,x,hx=>by
  have b1:=hlf_le w n
  have b2:=hlf_le h n
  simp only[bdD,List.mem_singleton]at hx
  subst hx
  simp only[Bd.ok,bd0];omega
 | k+1,hk,x,hx=>by
  rw[bdD,List.mem_append]at hx
  rcases hx with hx | hx
  ·exact bdD_ok hw hh k (by omega) x hx
  ·obtain⟨i,hi⟩:∃ i,n-k=i+1:=⟨n-k-1,by omega⟩
   rw[hi]at hx
   have b1:=hlf_le w i
   have b2:=hlf_le h i
   have b3:=hlf_mono w i
   have b4:=hlf_mono h i
   simp only[bd3,Nat.add_sub_cancel,List.mem_cons,List.not_mem_nil,or_false]at hx
   rcases hx with rfl | rfl | rfl<;>simp only[Bd.ok]<;>omega
def bnOk (w h n:Int):Prop:=0<=n/\n<=6/\0<=w/\w<=200/\0<=h/\h<=200
instance (w h n:Int):Decidable (bnOk w h n):=by unfold bnOk;infer_instance
def bnA (w h n:Int):List Bd:=if bnOk w h n then bdD w.toNat h.toNat n.toNat n.toNat else []
def bnL (w h n:Int):List Bd:=keptBd (bnA w h n)
theorem bnL_le (w h n:Int):(bnL w h n).length<=19:=by
 refine Nat.le_trans (keptBd_le _) ?_
 unfold bnA
 split
 ·rename_i H;rw[bdD_length];obtain⟨h1,h2,_⟩:=H;unfold bdN;omega
 ·exact Nat.zero_le _
structure BnA where
 w:Int
 h:Int
 n:Int
def bnZ (w h n:Int):List (List RC):=(bnL w h n).map Bd.rc++List.replicate ((bnA w h n).length-(bnL w h n).length) [.int .i64 0,.int .i64 0,.int .i64 0,.int .i64 0,.int .i64 0,.int .i64 0]
def fs159:FS where
 A:=BnA
 args:=fun a=>[.int .i64 a.w,.int .i64 a.h,.int .i64 a.n]
 res:=fun a x=>.tup [.sl 0 (lx (bnOk a.w a.h a.n) x 0) (if bnOk a.w a.h a.n then 6 else 1) 0 (bnL a.w a.h a.n).length,.int .i64 (if bnOk a.w a.h a.n then 0 else 2)]
 new:=fun a x=>[(lx (bnOk a.w a.h a.n) x 0,.recs 6 false [] (bnZ a.w a.h a.n))]
def inv159:List SV->Look->Option (BnA×List Nat)
 | [.int .i64 w,.int .i64 h,.int .i64 n],look=>some (⟨w,h,n⟩,[])
 | _,_=>none
attribute [push_cast] inv159
theorem ok159:FSOk Tryz.prog 159 fs159:=by
 refine⟨fk_ Tryz.func159,fun a=>⟨by simp[fs159,push_cast,noMine,argOwn,Chunk.frArg],by simp[fs159,push_cast,outOk,Chunk.ext],fun x=>.inr ⟨fun j L ch h=>.inr fun y hy=>?_,fun c ch h=>?_⟩⟩,fun a hp=>?_⟩
 ·exfalso
  match j,h with
  | 0,h=>
   simp only[fs159,List.getElem?_cons_zero,Option.some.injEq,Prod.mk.injEq]at h
   obtain⟨_,rfl⟩:=h;exact Bd.noRow _ _ _ _ _ hy
  | j+1,h=>simp[fs159]at h
 ·simp[fs159,lk]at h
 obtain⟨w,h,n⟩:=a
 change Tri Tryz.prog 159 [.int .i64 w,.int .i64 h,.int .i64 n] [] (postF fs159 ⟨w,h,n⟩)
 refine tri_evS (hyp (l:=[(94,ent94),(200,ent200)]) (lp:=[]) ⟨e94,e200,trivial⟩ trivial) Tryz.func159 comp159 (rs:=[.tmp 6,.tmp 7]) (by rfl) Tryz.ntmps159 23 ?_
 simp -implicitDefEqProofs only[push_cast,zz,seval,ir159]
 refine⟨fun hb=>?_,fun hg=>?_⟩
 ·have e:¬ bnOk w h n:=fun H=>by obtain⟨q1,q2,q3,q4,q5,q6⟩:=H;omega
  have e1:bnA w h n=[]:=if_neg e
  have e2:bnL w h n=[]:=by unfold bnL;rw[e1];rfl
  refine postF.mk' (fun _=>default) [none] ?_
  simp -implicitDefEqProofs only[push_cast,zz,seval,fs159,bnZ,e,e1,e2,if_false,lx,List.length_nil,List.map_nil,Nat.sub_self,List.replicate_zero]
 have e:bnOk w h n:=by unfold bnOk;omega
 obtain⟨q1,q2,q3,q4,q5,q6⟩:=id e
 obtain⟨w,rfl⟩:∃ m:Nat,w=(m:Int):=⟨w.toNat,by omega⟩
 obtain⟨h,rfl⟩:∃ m:Nat,h=(m:Int):=⟨h.toNat,by omega⟩
 obtain⟨n,rfl⟩:∃ m:Nat,n=(m:Int):=⟨n.toNat,by omega⟩
 have en:((n:Int)+1).toNat=n+1:=by omega
 have r1:=recAt_tabR (i:=n) (n:=n+1) (by omega) (sdR w h) []
 simp -implicitDefEqProofs only[push_cast,zz,seval,fs94,Int.toNat_natCast,en,r1,sdR,esz,tabR_length]
 intro X
 repeat refine om_ ?_
 intro X1
 repeat refine om_ ?_
 refine evS_loopU (A:=Nat×Nat×Xf.Loc) kp159_1 kl159_1 (fun y=>[(9,.sl 14 y.2.2 6 0 (bdN y.1)),(10,.int .i64 y.2.1)]) (fun y=>[(14,.mine,y.2.2,.recs 6 true [] ((bdD w h n y.1).map Bd.rc))]) (fun y=>y.1+y.2.1=n) (fun y=>y.2.1) (0,n,X1 12 14) (Nat.zero_add n) (Sub.pt ?_) ?_
 ·simp -implicitDefEqProofs only[push_cast,zz,seval,bdD,bd0,Bd.rc,List.map_cons,List.map_nil,Nat.mul_zero,show bdN 0=1 from rfl]
 rintro⟨k,lv,N⟩ (hk:k+lv=n) K hK
 have hlen:((bdD w h n k).map Bd.rc).length=bdN k:=by rw[List.length_map,bdD_length]
 have hN3:bdN k=1+3*k:=rfl
 have hN4:bdN (k+1)=1+3*(k+1):=rfl
 by_cases h0:0<lv
 ·obtain⟨lv,rfl⟩:∃ i,lv=i+1:=⟨lv-1,by omega⟩
  have e1:((lv+1:Nat):Int)-1=(lv:Int):=by omega
  have r2:=recAt_tabR (i:=lv) (n:=n+1) (by omega) (sdR w h) []
  have r3:=recAt_tabR (i:=lv+1) (n:=n+1) (by omega) (sdR w h) []
  have b1:=hlf_le w lv
  have b2:=hlf_le h lv
  have b3:=hlf_mono w lv
  have b4:=hlf_mono h lv
  have e0:∀ a b:Int,rd [a,b] 0=a:=fun _ _=>rfl
  have e2:∀ a b:Int,rd [a,b] 1=b:=fun _ _=>rfl
  generalize hlv:((lv+1:Nat):Int)=lvi at e1 r3
  simp -implicitDefEqProofs only[push_cast,zz,seval,b159_1,r159_2,hlv,e1,r2,r3,sdR,e0,e2,hlen,tabR_length]
  refine⟨fun _=>?_,fun hl=>by omega⟩
  intro X2
  repeat refine om_ ?_
  intro X3
  repeat refine om_ ?_
  intro X4
  repeat refine om_ ?_
  have q:(bdD w h n k).map Bd.rc++[[.int .i64 lvi,.int .i64 1,.int .i64 (hlf w (lv+1)),.int .i64 0,.int .i64 ((hlf w lv:Int)-hlf w (lv+1)),.int .i64 (hlf h (lv+1))],[.int .i64 lvi,.int .i64 2,.int .i64 0,.int .i64 (hlf h (lv+1)),.int .i64 (hlf w (lv+1)),.int .i64 ((hlf h lv:Int)-hlf h (lv+1))],[.int .i64 lvi,.int .i64 3,.int .i64 (hlf w (lv+1)),.int .i64 (hlf h (lv+1)),.int .i64 ((hlf w lv:Int)-hlf w (lv+1)),.int .i64 ((hlf h lv:Int)-hlf h (lv+1))]]=(bdD w h n (k+1)).map Bd.rc:=by
   rw[bdD,List.map_append,show n-k=lv+1 by omega]
   simp[bd3,Bd.rc,<-hlv]
  refine hK (k+1,lv,X4 24 18) (show k+1+lv=n by omega) (show lv<lv+1 by omega) _ _ (Sub.of (mkG 23 [(10,10),(14,18)]) ?_)
  simp -implicitDefEqProofs only[push_cast,zz,seval,q]
  omega
 ·obtain rfl:lv=0:=by omega
  obtain rfl:k=n:=by omega
  clear hK
  have hall:bnA w h k=bdD w h k k:=by unfold bnA;rw[if_pos e];simp only[Int.toNat_natCast]
  have hg2:getBd ((bdD w h k k).map Bd.rc)=some (bdD w h k k):=getBd_map _
  have hle:=bdD_length w h k k
  have hok:=bdD_ok (w:=w) (h:=h) (n:=k) (by omega) (by omega) k (Nat.le_refl _)
  simp -implicitDefEqProofs only[push_cast,zz,seval,b159_1,r159_2,fs200,hg2,hle,Int.lt_irrefl,true_implies,true_and]
  refine⟨by omega,hok,postF.mk' (fun _=>N) [some 14] ?_⟩
  have hL:bnL w h k=keptBd (bdD w h k k):=by unfold bnL;rw[hall]
  simp -implicitDefEqProofs only[push_cast,zz,seval,fs159,bnZ,hL,hall,hle,e,if_true,lx]
def ent159:Entry:=spOf fs159 inv159
theorem e159:EntryOk Tryz.prog 159 ent159:=entry_of ok159 inv159
@[push_cast] theorem ent159_a u l x k:ent159 u l x k=spOf fs159 inv159 u l x k:=rfl
theorem bd_keep {x:Bd} (h:x.ok):(0<x.w/\0<x.h)↔x.gone=false:=by
 obtain⟨h1,h2,h3,h4⟩:=h
 unfold Bd.gone
 rw[decide_eq_false_iff_not,Int.mul_eq_zero]
 omega
theorem kept_in {w h n:Nat} (hw:w<=200) (hh:h<=200) {b:Bd} (hb:b∈keptBd (bdD w h n n)):0<=b.x/\0<=b.y/\1<=b.w/\1<=b.h/\b.x+b.w<=w/\b.y+b.h<=h:=by
 have hm:b∈bdD w h n n/\b.gone=false:=by
  unfold keptBd at hb
  rw[List.mem_filter]at hb
  exact⟨hb.1,by simpa using hb.2⟩
 have ho:=bdD_ok hw hh n (Nat.le_refl n) b hm.1
 have hp:=(bd_keep ho).2 hm.2
 have key:∀ k,k<=n->∀ x∈bdD w h n k,0<=x.x/\0<=x.y/\x.x+x.w<=w/\x.y+x.h<=h:=by
  intro k
  induction k with
  | zero=>
   intro _ x hx
   have b1:=hlf_le w n
   have b2:=hlf_le h n
   simp only[bdD,List.mem_singleton]at hx
   subst hx
   simp only[bd0];omega
  | succ k ih=>
   intro hk x hx
   rw[bdD,List.mem_append]at hx
   rcases hx with hx | hx
   ·exact ih (by omega) x hx
   ·obtain⟨i,hi⟩:∃ i,n-k=i+1:=⟨n-k-1,by omega⟩
    rw[hi]at hx
    have b1:=hlf_le w i
    have b2:=hlf_le h i
    have b3:=hlf_mono w i
    have b4:=hlf_mono h i
    simp only[bd3,Nat.add_sub_cancel,List.mem_cons,List.not_mem_nil,or_false]at hx
    rcases hx with rfl | rfl | rfl<;>simp only<;>omega
 have:=key n (Nat.le_refl n) b hm.1
 omega
def b202_1:IR:=
 .seq (r_ [c_ 5 .lss 4 32] []) (.seq (.cond (.t 5) (.skip) (.exit 0)) (.seq (.block 1 (.seq (r_ [m_ 6 4,m_ 3 6] [5,6]) (.seq (r_ [m_ 7 3,m_ 8 2,o_ 9 (.idxP (.t 1) (.t 7) 32 1),S_ 1 .i64 9 8] [3,7,8,9]) (r_ [m_ 10 2,m_ 11 2,c_ 12 .quo 11 8,b_ 13 .sub 10 12,m_ 2 13] [10,11,12,13])))) (r_ [a_ 14 4 1,m_ 4 14] [14])))
def r202_2:IR:=
 .seq (r_ [o_ 15 (.ld true (some 32) 0 0 (.t 1)),S_ 32 .i64 0 15] [1,2,4,15]) (.ret)
def ir202:IR:=
 .seq (r_ [o_ 0 (.allocI 10 .i64 32)] []) (.seq (r_ [o_ 1 (.allocI 11 .i64 32)] []) (.seq (r_ [z_ 2 2048] []) (.seq (.seq (r_ [z_ 4 0] []) (.block 0 (.loop b202_1))) (r202_2))))
def kp202_1:List Nat:=[0,1,2,4]
def kl202_1:List Nat:=[]
attribute [push_cast] kp202_1 kl202_1
set_option maxRecDepth 4000 in
theorem comp202:(Tryz.f202.body.bind fun c=>compC tab isP chkAll ir202 c)=some ir202:=by kernel_rfl
def ir208:IR:=
 .seq (r_ [o_ 3 (.box 10 (.t 0)),z_ 6 0] [0,6]) (.seq (.seq (r_ [m_ 9 1,c_ 10 .eql 9 1] [1,9]) (.cond (.t 10) (.seq (r_ [m_ 11 2,c_ 12 .quo 11 256,m_ 13 2,c_ 14 .rem 13 256,m_ 7 12,m_ 8 14] [2,3,10,11,12,13,14]) (.seq (r_ [m_ 15 8,o_ 16 (.bin 0 .mul (Z_ 2) (.t 15)),a_ 17 16 1,c_ 18 .mul 17 4096,m_ 19 7,o_ 20 (.bin 0 .mul (Z_ 2) (.t 19)),m_ 21 8,o_ 22 (.bin 0 .mul (Z_ 2) (.t 21)),b_ 23 .add 20 22,a_ 24 23 2,b_ 25 .quo 18 24,o_ 26 (.mx (.t 25) (Z_ 1)),o_ 27 (.mn (.t 26) (Z_ 4095)),m_ 6 27] [7,8,15,16,17,18,19,20,21,22,23,24,25,26,27]) (.ret))) (.skip))) (.seq (.seq (r_ [m_ 28 2,c_ 29 .geq 28 32] [6,10,28]) (.cond (.t 29) (.seq (r_ [m_ 30 2,c_ 31 .sub 30 32,o_ 32 (.idxP (.t 3) (.t 31) 32 1),l_ 33 32,o_ 34 (.bin 0 .sub (Z_ 4096) (.t 33)),m_ 6 34] [2,3,29,30,31,32,33,34]) (.ret)) (.skip))) (.seq (r_ [m_ 35 2,o_ 36 (.idxP (.t 3) (.t 35) 32 1),l_ 37 36,m_ 6 37] [2,3,29,35,36,37]) (.ret))))
set_option maxRecDepth 4000 in
theorem comp208:(Tryz.f208.body.bind fun c=>compC tab isP chkAll ir208 c)=some ir208:=by kernel_rfl
def qs:List Int:=[2048,1792,1568,1372,1201,1051,920,805,705,617,540,473,414,363,318,279,245,215,189,166,146,128,112,98,86,76,67,59,52,46,41,36]
def qsV:List SV:=[.int .i64 2048,.int .i64 1792,.int .i64 1568,.int .i64 1372,.int .i64 1201,.int .i64 1051,.int .i64 920,.int .i64 805,.int .i64 705,.int .i64 617,.int .i64 540,.int .i64 473,.int .i64 414,.int .i64 363,.int .i64 318,.int .i64 279,.int .i64 245,.int .i64 215,.int .i64 189,.int .i64 166,.int .i64 146,.int .i64 128,.int .i64 112,.int .i64 98,.int .i64 86,.int .i64 76,.int .i64 67,.int .i64 59,.int .i64 52,.int .i64 46,.int .i64 41,.int .i64 36]
theorem qs_len:qs.length=32:=rfl
theorem qsV_len:qsV.length=32:=rfl
theorem qsV_ints:intsV .i64 qs 32=qsV:=rfl
theorem qsV_as:asInts .i64 qsV=some qs:=rfl
theorem qsV_map:qsV=qs.map (fun n=>.int .i64 n):=rfl
theorem qsV_get (k:Nat) (h:k<32):getL qsV k=some (.int .i64 (rd qs (k:Nat))):=by
 rw[getL_eq,qsV_map,List.getElem?_map,List.getElem?_eq_getElem (by rw[qs_len];exact h),rd_lt qs k (by rw[qs_len];exact h)]
 rfl
theorem qs_bd:∀ k,k<32->0<=rd qs (k:Nat)/\rd qs (k:Nat)<=2048/\1<=rd qs (k:Nat):=by decide +kernel
def qst:Nat->List Int×Int
 | 0=>(intsZ 32,2048)
 | k+1=>((qst k).1.set k (qst k).2,(qst k).2-(qst k).2 / 8)
theorem qst_len:∀ k,(qst k).1.length=32
 | 0=>rfl
 | k+1=>by rw[qst,List.length_set,qst_len k]
theorem qst_bd:∀ k,0<=(qst k).2/\(qst k).2<=2048
 | 0=>by decide
 | k+1=>by have:=qst_bd k;rw[qst];simp only;omega
theorem qst_end:(qst 32).1=qs:=by decide +kernel
def chancesF:EntryP
 | []=>some (True,.agg qsV)
 | _=>none
attribute [push_cast] chancesF
set_option maxRecDepth 4000 in
theorem p202:EntryPOk Tryz.prog 202 chancesF:=by
 refine⟨fk_ Tryz.func202,fun us p v h hp=>?_⟩
 unfold chancesF at h
 split at h<;>cases h
 refine tri_evS (hyp (l:=[]) (lp:=[]) trivial trivial) Tryz.func202 comp202 (rs:=[.cell 0 (some 32)]) (by rfl) Tryz.ntmps202 12 ?_
 simp -implicitDefEqProofs only[push_cast,zz,seval,ir202]
 intro X X1
 refine evS_loopU (A:=Nat) kp202_1 kl202_1 (fun k=>[(4,.int .i64 k),(2,.int .i64 (qst k).2)]) (fun k=>[(11,.mine,⟨(X1 0 11).b,(X1 0 11).o,false,32⟩,.ints .i64 (qst k).1)]) (fun k=>k<=32) (fun k=>32-k) 0 (Nat.zero_le _) (Sub.pt ?_) ?_
 ·have e0:qst 0=(intsZ 32,2048):=rfl
  simp -implicitDefEqProofs only[push_cast,zz,seval,e0]
 intro k hk K hK
 have hk:k<=32:=hk
 have hb:=qst_bd k
 have hl:=qst_len k
 by_cases hk':k<32
 ·have e1:qst (k+1)=((qst k).1.set k (qst k).2,(qst k).2-(qst k).2 / 8):=rfl
  obtain⟨⟨x,q⟩,hx⟩:∃ x,qst k=x:=⟨_,rfl⟩
  rw[hx]at e1 hb hl
  simp only at e1 hb hl
  have hki:(k:Int)<32:=by omega
  simp -implicitDefEqProofs only[push_cast,zz,seval,b202_1,hx,hl,Int.toNat_natCast,hki]
  repeat refine om_ ?_
  refine hK (k+1) (show k+1<=32 by omega) (show 32-(k+1)<32-k by omega) _ _ (Sub.pt ?_)
  simp -implicitDefEqProofs only[push_cast,zz,seval,e1]
 ·have hk2:k=32:=by omega
  have hq:(qst k).1=qs:=by rw[hk2,qst_end]
  have hki:¬ (k:Int)<32:=by omega
  clear hK
  simp -implicitDefEqProofs only[push_cast,zz,seval,b202_1,hq,hki,qsV_ints,qsV_as,qs_len,r202_2]
  rfl
def chP (kind s:Int):Int:=
 if kind=1 then min (max ((2*(s % 256)+1)*4096 / (2*(s / 256)+2*(s % 256)+2)) 1) 4095
 else if 32<=s then 4096-rd qs (s-32)else rd qs s
def nxP (kind s bit:Int):Int:=
 if kind=1 then
  (if bit=0 then (if s / 256=255 then 256*(s / 256 / 2+1)+s % 256 / 2 else 256*(s / 256+1)+s % 256)
   else (if s % 256=255 then 256*(s / 256 / 2)+(s % 256 / 2+1)else 256*(s / 256)+(s % 256+1)))
 else if bit=s / 32 then 32*(s / 32)+min (s % 32+1) 31
 else if s % 32=0 then 32*bit+s % 32
 else 32*(s / 32)+(s % 32-(1+s % 32 / 4))
def sttOk (kind s:Int):Prop:=0<=s/\(kind=1->s<65536)/\(kind≠1->s<64)
theorem chP_bd {kind s:Int} (h:sttOk kind s):1<=chP kind s/\chP kind s<=4095:=by
 obtain⟨h0,h1,h2⟩:=h
 unfold chP
 split
 ·omega
 rename_i hk
 have h2:=h2 hk
 split
 ·obtain⟨k,hk⟩:∃ k:Nat,s-32=k:=⟨(s-32).toNat,by omega⟩
  rw[hk]
  have:=qs_bd k (by omega)
  omega
 ·obtain⟨k,rfl⟩:∃ k:Nat,s=k:=⟨s.toNat,by omega⟩
  have:=qs_bd k (by omega)
  omega
theorem nxP_ok {kind s bit:Int} (h:sttOk kind s) (hb:bit=0∨bit=1):sttOk kind (nxP kind s bit):=by
 obtain⟨h0,h1,h2⟩:=h
 unfold nxP sttOk
 by_cases hk:kind=1
 ·have h1:=h1 hk
  simp only[hk,if_true]
  refine⟨?_,fun _=>?_,fun h=>absurd rfl h⟩<;>(repeat' split)<;>omega
 ·have h2:=h2 hk
  simp only[hk,if_false]
  refine⟨?_,fun h=>h.elim,fun h=>?_⟩<;>(repeat' split)<;>omega
def chanceF:EntryP
 | [.agg cs,.int .i64 kind,.int .i64 s]=>some (cs=qsV/\sttOk kind s,.int .i64 (chP kind s))
 | _=>none
def nextF:EntryP
 | [.int .i64 kind,.int .i64 s,.int .i64 bit]=>some (sttOk kind s/\(bit=0∨bit=1),.int .i64 (nxP kind s bit))
 | _=>none
attribute [push_cast] chanceF nextF
theorem p208:EntryPOk Tryz.prog 208 chanceF:=by
 refine⟨fk_ Tryz.func208,fun us p v h hp=>?_⟩
 unfold chanceF at h
 split at h<;>cases h
 rename_i cs kind s
 obtain⟨rfl,h0,h1,h2⟩:=hp
 refine tri_evS (hyp (l:=[]) (lp:=[]) trivial trivial) Tryz.func208 comp208 (rs:=[.tmp 6]) (by rfl) Tryz.ntmps208 11 ?_
 by_cases hk:kind=1
 ·subst hk
  have h1:=h1 rfl
  have e:chP 1 s=min (max ((2*(s % 256)+1)*4096 / (2*(s / 256)+2*(s % 256)+2)) 1) 4095:=by unfold chP;rw[if_pos rfl]
  have hd1:0<=(2*(s % 256)+1)*4096 / (2*(s / 256)+2*(s % 256)+2):=Int.ediv_nonneg (by omega) (by omega)
  have hd2:(2*(s % 256)+1)*4096 / (2*(s / 256)+2*(s % 256)+2)<=(2*(s % 256)+1)*4096:=Int.ediv_le_self _ (by omega)
  simp -implicitDefEqProofs only[push_cast,zz,seval,ir208,e]
  repeat refine om_ ?_
  omega
 have h2:=h2 hk
 by_cases h32:32<=s
 ·have e:chP kind s=4096-rd qs (s-32):=by unfold chP;rw[if_neg hk,if_pos h32]
  have hg:getL qsV (s-32).toNat=some (.int .i64 (rd qs (s-32))):=by
   obtain⟨k,hk⟩:∃ k:Nat,s-32=k:=⟨(s-32).toNat,by omega⟩
   rw[hk,Int.toNat_natCast]
   exact qsV_get k (by omega)
  have hb:0<=rd qs (s-32)/\rd qs (s-32)<=2048:=by
   obtain⟨k,hk⟩:∃ k:Nat,s-32=k:=⟨(s-32).toNat,by omega⟩
   rw[hk]
   have:=qs_bd k (by omega)
   omega
  simp -implicitDefEqProofs only[push_cast,zz,seval,ir208,e,hk,h32,hg,Nat.mul_one]
  omega
 ·have e:chP kind s=rd qs s:=by unfold chP;rw[if_neg hk,if_neg h32]
  have hg:getL qsV s.toNat=some (.int .i64 (rd qs s)):=by
   obtain⟨k,rfl⟩:∃ k:Nat,s=k:=⟨s.toNat,by omega⟩
   rw[Int.toNat_natCast]
   exact qsV_get k (by omega)
  simp -implicitDefEqProofs only[push_cast,zz,seval,ir208,e,hk,h32,hg,Nat.mul_one]
  omega
def ir207:IR:=
 .seq (r_ [z_ 6 0] [6]) (.seq (.seq (r_ [m_ 10 0,c_ 11 .eql 10 1] [0,10]) (.cond (.t 11) (.seq (r_ [m_ 12 1,c_ 13 .quo 12 256,m_ 14 1,c_ 15 .rem 14 256,o_ 16 (.build [y_,y_] [(0,1,.t 13),(1,1,.t 15)]),o_ 7 (.allocI 10 .i64 2),S_ 2 .i64 7 16] [1,11,12,13,14,15,16]) (.seq (.seq (r_ [m_ 17 2,o_ 18 (.idxP (.t 7) (.t 17) 2 1),L_ 19 18,c_ 20 .eql 19 255] [17,18,19]) (.cond (.t 20) (r_ [o_ 21 (.idxP (.t 7) (Z_ 0) 2 1),L_ 22 21,c_ 23 .quo 22 2,o_ 24 (.idxP (.t 7) (Z_ 1) 2 1),L_ 25 24,c_ 26 .quo 25 2,o_ 27 (.idxP (.t 7) (Z_ 0) 2 1),S_ 1 .i64 27 23,o_ 28 (.idxP (.t 7) (Z_ 1) 2 1),S_ 1 .i64 28 26] [20,21,22,23,24,25,26,27,28]) (.skip))) (.seq (r_ [m_ 29 2,o_ 30 (.idxP (.t 7) (.t 29) 2 1),L_ 31 30,a_ 32 31 1,o_ 33 (.idxP (.t 7) (.t 29) 2 1),S_ 1 .i64 33 32] [2,20,29,30,31,32,33]) (.seq (r_ [o_ 34 (.idxP (.t 7) (Z_ 0) 2 1),L_ 35 34,o_ 36 (.bin 0 .mul (Z_ 256) (.t 35)),o_ 37 (.idxP (.t 7) (Z_ 1) 2 1),L_ 38 37,b_ 39 .add 36 38,m_ 6 39] [7,34,35,36,37,38,39]) (.ret))))) (.skip))) (.seq (r_ [m_ 40 1,c_ 41 .quo 40 32,m_ 42 1,c_ 43 .rem 42 32,m_ 8 41,m_ 9 43] [1,6,11,40,41,42,43]) (.seq (.block 0 (.seq (r_ [m_ 50 2,m_ 51 8,b_ 52 .eql 50 51,m_ 49 52] [50,51,52]) (.cond (.t 49) (r_ [m_ 53 9,a_ 54 53 1,o_ 55 (.mn (.t 54) (Z_ 31)),m_ 9 55] [2,49,53,54,55]) (.seq (r_ [m_ 57 9,c_ 58 .eql 57 0,m_ 56 58] [49,57,58]) (.cond (.t 56) (r_ [m_ 59 2,m_ 8 59] [2,56,59]) (r_ [m_ 44 9,m_ 45 9,c_ 46 .quo 45 4,o_ 47 (.bin 0 .add (Z_ 1) (.t 46)),b_ 48 .sub 44 47,m_ 9 48] [2,44,45,46,47,48,56])))))) (.seq (r_ [m_ 60 8,o_ 61 (.bin 0 .mul (Z_ 32) (.t 60)),m_ 62 9,b_ 63 .add 61 62,m_ 6 63] [8,9,60,61,62,63]) (.ret)))))
set_option maxRecDepth 4000 in
theorem comp207:(Tryz.f207.body.bind fun c=>compC tab isP chkAll ir207 c)=some ir207:=by kernel_rfl
def ir198:IR:=
 .seq (r_ [z_ 2 0] []) (.seq (.seq (r_ [m_ 3 0,o_ 4 (.bin 0 .geq (.t 3) (.k (.int .u64 4294967296)))] [3]) (.cond (.t 4) (.seq (r_ [m_ 5 0,o_ 6 (.bin 0 .shr (.t 5) (.k (.int .u64 32))),m_ 0 6] [2,4,5,6]) (r_ [z_ 2 32] [])) (.skip))) (.seq (.seq (r_ [m_ 7 0,o_ 8 (.bin 0 .geq (.t 7) (.k (.int .u64 65536)))] [4,7]) (.cond (.t 8) (.seq (r_ [m_ 9 0,o_ 10 (.bin 0 .shr (.t 9) (.k (.int .u64 16))),m_ 0 10] [8,9,10]) (r_ [m_ 11 2,a_ 12 11 16,m_ 2 12] [11,12])) (.skip))) (.seq (.seq (r_ [m_ 13 0,o_ 14 (.bin 0 .geq (.t 13) (.k (.int .u64 256)))] [8,13]) (.cond (.t 14) (.seq (r_ [m_ 15 0,o_ 16 (.bin 0 .shr (.t 15) (.k (.int .u64 8))),m_ 0 16] [14,15,16]) (r_ [m_ 17 2,a_ 18 17 8,m_ 2 18] [17,18])) (.skip))) (.seq (r_ [m_ 19 2,m_ 20 0,o_ 21 (.cvt 0 .u8 (.t 20)),o_ 22 (.tabI len8L (.t 21)),o_ 23 (.cvt 0 .i64 (.t 22)),b_ 24 .add 19 23,m_ 2 24] [0,14,19,20,21,22,23,24]) (.ret)))))
set_option maxRecDepth 4000 in
theorem comp198:(Tryz.f198.body.bind fun c=>compC tab isP chkAll ir198 c)=some ir198:=by kernel_rfl
def ir156:IR:=
 .seq (r_ [z_ 2 0] [2]) (.seq (.cond (.k (.bool false)) (.seq (r_ [m_ 3 0,o_ 4 (.cvt 0 .u32 (.t 3)),o_ 5 (.call (some 4) 10 197 [.t 4]),m_ 2 5] [0,3,4,5]) (.ret)) (.skip)) (.seq (r_ [m_ 6 0,o_ 7 (.callp 198 [.t 6]),m_ 2 7] [0,6,7]) (.ret)))
set_option maxRecDepth 4000 in
theorem comp156:(Tryz.f156.body.bind fun c=>compC tab isP chkAll ir156 c)=some ir156:=by kernel_rfl
def ir99:IR:=
 .seq (r_ [z_ 2 0] [2]) (.seq (r_ [m_ 3 0,m_ 4 0,o_ 5 (.neg 0 (.t 4)),o_ 6 (.mx (.t 3) (.t 5)),m_ 2 6] [0,3,4,5,6]) (.ret))
set_option maxRecDepth 4000 in
theorem comp99:(Tryz.f99.body.bind fun c=>compC tab isP chkAll ir99 c)=some ir99:=by kernel_rfl
def ir110:IR:=
 .seq (r_ [o_ 4 (.mov (.k (.bool false)))] [4]) (.seq (r_ [m_ 5 0,c_ 6 .geq 5 0,m_ 7 6,p_ 7 (m_ 8 0),p_ 7 (c_ 9 .leq 8 6),K_ 10 7 9,m_ 11 10,p_ 11 (m_ 12 1),p_ 11 (c_ 13 .eql 12 0),p_ 11 (m_ 14 13),q_ 14 (m_ 15 1),q_ 14 (c_ 16 .eql 15 1),p_ 11 (k_ 17 14 16),K_ 18 11 17,m_ 4 18] [0,1,5,6,7,8,9,10,11,12,13,14,15,16,17,18]) (.ret))
set_option maxRecDepth 4000 in
theorem comp110:(Tryz.f110.body.bind fun c=>compC tab isP chkAll ir110 c)=some ir110:=by kernel_rfl
theorem rd2_0 (a b:Int):rd [a,b] 0=a:=rfl
theorem rd2_1 (a b:Int):rd [a,b] 1=b:=rfl
theorem set2_0 (a b c:Int):[a,b].set 0 c=[c,b]:=rfl
theorem set2_1 (a b c:Int):[a,b].set 1 c=[a,c]:=rfl
theorem i0:Int.toNat 0=0:=rfl
theorem i1:Int.toNat 1=1:=rfl
set_option maxRecDepth 4000 in
theorem p207:EntryPOk Tryz.prog 207 nextF:=by
 refine⟨fk_ Tryz.func207,fun us p v h hp=>?_⟩
 unfold nextF at h
 split at h<;>cases h
 rename_i kind s bit
 obtain⟨⟨h0,h1,h2⟩,hb⟩:=hp
 refine tri_evS (hyp (l:=[]) (lp:=[]) trivial trivial) Tryz.func207 comp207 (rs:=[.tmp 6]) (by rfl) Tryz.ntmps207 11 ?_
 by_cases hk:kind=1
 ·subst hk
  have h1:=h1 rfl
  rcases hb with rfl | rfl
  ·have e:nxP 1 s 0=if s / 256=255 then 256*(s / 256 / 2+1)+s % 256 / 2 else 256*(s / 256+1)+s % 256:=by unfold nxP;rw[if_pos rfl,if_pos rfl]
   by_cases hn:s / 256=255
   ·rw[if_pos hn]at e
    simp -implicitDefEqProofs only[push_cast,zz,seval,ir207,e,rd2_0,rd2_1,set2_0,set2_1,i0,i1,hn]
    omega
   ·rw[if_neg hn]at e
    simp -implicitDefEqProofs only[push_cast,zz,seval,ir207,e,rd2_0,rd2_1,set2_0,set2_1,i0,i1,hn]
    omega
  ·have e:nxP 1 s 1=if s % 256=255 then 256*(s / 256 / 2)+(s % 256 / 2+1)else 256*(s / 256)+(s % 256+1):=by unfold nxP;rw[if_pos rfl,if_neg (by decide)]
   by_cases hn:s % 256=255
   ·rw[if_pos hn]at e
    simp -implicitDefEqProofs only[push_cast,zz,seval,ir207,e,rd2_0,rd2_1,set2_0,set2_1,i0,i1,hn]
    omega
   ·rw[if_neg hn]at e
    simp -implicitDefEqProofs only[push_cast,zz,seval,ir207,e,rd2_0,rd2_1,set2_0,set2_1,i0,i1,hn]
    omega
 have h2:=h2 hk
 have e:nxP kind s bit=if bit=s / 32 then 32*(s / 32)+min (s % 32+1) 31 else if s % 32=0 then 32*bit+s % 32 else 32*(s / 32)+(s % 32-(1+s % 32 / 4)):=by unfold nxP;rw[if_neg hk]
 by_cases hm:bit=s / 32
 ·rw[if_pos hm]at e
  subst hm
  simp -implicitDefEqProofs only[push_cast,zz,seval,ir207,e,hk]
  omega
 rw[if_neg hm]at e
 by_cases hz:s % 32=0
 ·rw[if_pos hz]at e
  simp -implicitDefEqProofs only[push_cast,zz,seval,ir207,e,hk,hm,hz]
  omega
 ·rw[if_neg hz]at e
  simp -implicitDefEqProofs only[push_cast,zz,seval,ir207,e,hk,hm,hz]
  omega
def lenN (n:Nat):Nat:=if n=0 then 0 else Nat.log2 n+1
theorem lenN_half {n:Nat} (h:1<=n):lenN n=lenN (n / 2)+1:=by
 unfold lenN
 rw[if_neg (by omega)]
 by_cases h2:2<=n
 ·rw[if_neg (by omega),Nat.log2_def n,if_pos h2]
 ·have:n=1:=by omega
  subst this
  rfl
theorem lenN_256 {n:Nat} (h:256<=n):lenN n=lenN (n / 256)+8:=by
 rw[lenN_half (by omega),lenN_half (n:=n / 2) (by omega),lenN_half (n:=n / 2 / 2) (by omega),lenN_half (n:=n / 2 / 2 / 2) (by omega),lenN_half (n:=n / 2 / 2 / 2 / 2) (by omega),lenN_half (n:=n / 2 / 2 / 2 / 2 / 2) (by omega),
  lenN_half (n:=n / 2 / 2 / 2 / 2 / 2 / 2) (by omega),lenN_half (n:=n / 2 / 2 / 2 / 2 / 2 / 2 / 2) (by omega)]
 simp only[Nat.div_div_eq_div_mul]
theorem lenN_bd:∀ n:Nat,n<2^lenN n/\(1<=n->2^(lenN n-1)<=n):=by
 intro n
 induction n using Nat.strongRecOn with
 | ind n ih=>
  by_cases h:1<=n
  ·rw[lenN_half h]
   obtain⟨a,b⟩:=ih (n / 2) (by omega)
   rw[Nat.add_sub_cancel,Nat.pow_succ]
   refine⟨by omega,fun _=>?_⟩
   by_cases h2:1<=n / 2
   ·have b:=b h2
    have hp:lenN (n / 2)=lenN (n / 2)-1+1:=by rw[lenN_half h2];omega
    rw[hp,Nat.pow_succ];omega
   ·have:n / 2=0:=by omega
    rw[this];exact h
  ·have:n=0:=by omega
   subst this
   exact⟨by decide,fun h=>absurd h (by decide)⟩
set_option maxRecDepth 4000 in
theorem len8_eq:∀ k,k<256->rd len8L (k:Nat)=lenN k:=by decide +kernel
set_option maxRecDepth 4000 in
theorem len8_len:((len8L.length:Nat):Int)=256:=by decide +kernel
def lenP (x:Int):Int:=lenN x.toNat
theorem lenP_8 {x:Int} (h0:0<=x) (h:x<256):rd len8L x=lenP x:=by
 obtain⟨k,rfl⟩:∃ k:Nat,x=k:=⟨x.toNat,by omega⟩
 unfold lenP
 rw[Int.toNat_natCast]
 exact len8_eq k (by omega)
theorem lenP_256 {x:Int} (h:256<=x):lenP x=lenP (x / 256)+8:=by
 obtain⟨k,rfl⟩:∃ k:Nat,x=k:=⟨x.toNat,by omega⟩
 unfold lenP
 rw[show((k:Int) / 256).toNat=k / 256 by omega,Int.toNat_natCast,lenN_256 (by omega)]
 rfl
theorem lenP_bd {x:Int} (h0:0<=x) (h:x<256):0<=lenP x/\lenP x<=8:=by
 have:∀ k,k<256->lenN k<=8:=by decide +kernel
 have:=this x.toNat (by omega)
 unfold lenP
 omega
def lenF:EntryP
 | [.int .u64 x]=>some (0<=x/\x<4294967296,.int .i64 (lenP x))
 | _=>none
attribute [push_cast] lenF
theorem pw8:(2:Int)^8=256:=rfl
theorem pw16:(2:Int)^16=65536:=rfl
theorem pw24:(2:Int)^24=16777216:=rfl
theorem bits64:((IntKind.u64.bits:Nat):Int)=64:=rfl
theorem p198:EntryPOk Tryz.prog 198 lenF:=by
 refine⟨fk_ Tryz.func198,fun us p v h hp=>?_⟩
 unfold lenF at h
 split at h<;>cases h
 rename_i x
 obtain⟨h0,h1⟩:=hp
 refine tri_evS (hyp (l:=[]) (lp:=[]) trivial trivial) Tryz.func198 comp198 (rs:=[.tmp 2]) (by rfl) Tryz.ntmps198 10 ?_
 have hlt:¬ 4294967296<=x:=by omega
 have hl:=len8_len
 have hb64:=bits64
 by_cases h16:65536<=x
 ·have e1:lenP x=lenP (x / 65536)+16:=by
   rw[lenP_256 (by omega),lenP_256 (x:=x / 256) (by omega),show x / 256 / 256=x / 65536 by omega]
   omega
  by_cases h8:256<=x / 65536
  ·have e2:=lenP_256 h8
   have e3:=lenP_8 (x:=x / 65536 / 256) (by omega) (by omega)
   have b:=lenP_bd (x:=x / 65536 / 256) (by omega) (by omega)
   rw[e2]at e1
   simp -implicitDefEqProofs only[push_cast,zz,seval,ir198,hlt,h16,h8,pw16,pw8,hl,e3]
   simp only[SV.int.injEq,true_and]
   omega
  ·have e3:=lenP_8 (x:=x / 65536) (by omega) (by omega)
   have b:=lenP_bd (x:=x / 65536) (by omega) (by omega)
   simp -implicitDefEqProofs only[push_cast,zz,seval,ir198,hlt,h16,h8,pw16,pw8,hl,e3]
   simp only[SV.int.injEq,true_and]
   omega
 ·by_cases h8:256<=x
  ·have e2:=lenP_256 h8
   have e3:=lenP_8 (x:=x / 256) (by omega) (by omega)
   have b:=lenP_bd (x:=x / 256) (by omega) (by omega)
   simp -implicitDefEqProofs only[push_cast,zz,seval,ir198,hlt,h16,h8,pw16,pw8,hl,e3]
   simp only[SV.int.injEq,true_and]
   omega
  ·have e3:=lenP_8 (x:=x) (by omega) (by omega)
   have b:=lenP_bd (x:=x) (by omega) (by omega)
   simp -implicitDefEqProofs only[push_cast,zz,seval,ir198,hlt,h16,h8,pw16,pw8,hl,e3]
   omega
theorem p156:EntryPOk Tryz.prog 156 lenF:=by
 refine⟨fk_ Tryz.func156,fun us p v h hp=>?_⟩
 unfold lenF at h
 split at h<;>cases h
 rename_i x
 obtain⟨h0,h1⟩:=hp
 refine tri_evS (hyp (l:=[]) (lp:=[(198,lenF)]) trivial ⟨p198,trivial⟩) Tryz.func156 comp156 (rs:=[.tmp 2]) (by rfl) Tryz.ntmps156 14 ?_
 simp -implicitDefEqProofs only[push_cast,zz,seval,ir156]
 omega
def absF:EntryP
 | [.int .i64 n]=>some (-1000000000000<=n/\n<=1000000000000,.int .i64 (max n (-n)))
 | _=>none
def argsOk (levels kind:Int):Prop:=0<=levels/\levels<=6/\(kind=0∨kind=1)
instance argsOk_dec (levels kind:Int):Decidable (argsOk levels kind):=by unfold argsOk;infer_instance
def rightF:EntryP
 | [.int .i64 l,.int .i64 k]=>some (True,.bool (decide (argsOk l k)))
 | _=>none
attribute [push_cast] absF rightF
theorem p99:EntryPOk Tryz.prog 99 absF:=by
 refine⟨fk_ Tryz.func99,fun us p v h hp=>?_⟩
 unfold absF at h
 split at h<;>cases h
 rename_i x
 refine tri_evS (hyp (l:=[]) (lp:=[]) trivial trivial) Tryz.func99 comp99 (rs:=[.tmp 2]) (by rfl) Tryz.ntmps99 10 ?_
 simp -implicitDefEqProofs only[push_cast,zz,seval,ir99]
 omega
theorem p110:EntryPOk Tryz.prog 110 rightF:=by
 refine⟨fk_ Tryz.func110,fun us p v h hp=>?_⟩
 unfold rightF at h
 split at h<;>cases h
 rename_i l k
 refine tri_evS (hyp (l:=[]) (lp:=[]) trivial trivial) Tryz.func110 comp110 (rs:=[.tmp 4]) (by rfl) Tryz.ntmps110 10 ?_
 simp -implicitDefEqProofs only[push_cast,zz,seval,ir110]
 exact⟨fun h=>⟨h.1,h.2,fun hk=>⟨h.1,h.2,hk⟩⟩,Iff.rfl⟩
def ir171:IR:=
 .seq (r_ [o_ 4 (.mov (.k (.int .u64 0)))] [4]) (.seq (R_ [m_ 7 0,n_ 8 7,f_ 9 8 35,l_ 10 9,m_ 11 0,n_ 12 11,f_ 13 12 34,l_ 14 13,b_ 15 .sub 10 14,m_ 16 0,n_ 17 16,f_ 18 17 2,o_ 19 (.ld false (some 32) 0 0 (.t 18)),m_ 20 0,n_ 21 20,f_ 22 21 0,f_ 23 22 0,l_ 24 23,m_ 25 0,n_ 26 25,f_ 27 26 0,f_ 28 27 1,l_ 29 28,m_ 30 1,i_ 31 29 30 1,L_ 32 31,o_ 33 (.callp 208 [.t 19,.t 24,.t 32]),o_ 34 (.cvt 0 .u64 (.t 33)),m_ 5 15,m_ 6 34] [1,7,8,9,10,11,12,13,14,15,16,17,18,19,20,21,22,23,24,25,26,27,28,29,30,31,32,33,34]) (.seq (r_ [m_ 35 0,n_ 36 35,f_ 37 36 34,l_ 38 37,m_ 39 5,o_ 40 (.bin 0 .quo (.t 39) (.k (.int .u64 4096))),m_ 41 6,b_ 42 .mul 40 41,b_ 43 .add 38 42,m_ 44 5,o_ 45 (.bin 0 .rem (.t 44) (.k (.int .u64 4096))),m_ 46 6,b_ 47 .mul 45 46,o_ 48 (.bin 0 .quo (.t 47) (.k (.int .u64 4096))),b_ 49 .add 43 48,m_ 4 49] [0,5,6,35,36,37,38,39,40,41,42,43,44,45,46,47,48,49]) (.ret)))
set_option maxRecDepth 4000 in
theorem comp171:(Tryz.f171.body.bind fun c=>compC tab isP chkAll ir171 c)=some ir171:=by kernel_rfl
def ir172:IR:=
 .seq (r_ [o_ 2 (.mov (.k (.bool false)))] [2]) (.seq (R_ [m_ 3 0,n_ 4 3,f_ 5 4 34,l_ 6 5,o_ 7 (.bin 0 .shr (.t 6) (.k (.int .u64 24))),m_ 8 0,n_ 9 8,f_ 10 9 35,l_ 11 10,o_ 12 (.bin 0 .shr (.t 11) (.k (.int .u64 24))),b_ 13 .eql 7 12,m_ 2 13] [0,3,4,5,6,7,8,9,10,11,12,13]) (.ret))
set_option maxRecDepth 4000 in
theorem comp172:(Tryz.f172.body.bind fun c=>compC tab isP chkAll ir172 c)=some ir172:=by kernel_rfl
def ir173:IR:=
 .seq (r_ [o_ 2 (.mov (.k (.int .u8 0)))] [2]) (.seq (r_ [m_ 4 0,n_ 5 4,f_ 6 5 34,l_ 7 6,o_ 8 (.bin 0 .shr (.t 7) (.k (.int .u64 24))),o_ 9 (.cvt 0 .u8 (.t 8)),m_ 3 9] [4,5,6,7,8,9]) (.seq (r_ [m_ 10 0,m_ 11 0,n_ 12 11,f_ 13 12 34,l_ 14 13,o_ 15 (.bin 0 .shl (.t 14) (.k (.int .u64 8))),o_ 16 (.bin 0 .and (.t 15) (.k (.int .u64 4294967295))),n_ 17 10,f_ 18 17 34,s_ 1 .i64 18 16] [10,11,12,13,14,15,16,17,18]) (.seq (r_ [m_ 19 0,m_ 20 0,n_ 21 20,f_ 22 21 35,l_ 23 22,o_ 24 (.bin 0 .shl (.t 23) (.k (.int .u64 8))),o_ 25 (.bin 0 .and (.t 24) (.k (.int .u64 4294967295))),o_ 26 (.bin 0 .or (.t 25) (.k (.int .u64 255))),n_ 27 19,f_ 28 27 35,s_ 1 .i64 28 26] [0,19,20,21,22,23,24,25,26,27,28]) (.seq (r_ [m_ 29 3,m_ 2 29] [3,29]) (.ret)))))
set_option maxRecDepth 4000 in
theorem comp173:(Tryz.f173.body.bind fun c=>compC tab isP chkAll ir173 c)=some ir173:=by kernel_rfl
def ir170:IR:=
 .seq (.seq (r_ [m_ 8 2,c_ 9 .eql 8 1] [8]) (.cond (.t 9) (r_ [m_ 10 0,m_ 11 3,n_ 12 10,f_ 13 12 35,s_ 1 .i64 13 11] [3,9,10,11,12,13]) (r_ [m_ 14 0,m_ 15 3,o_ 16 (.bin 0 .add (.t 15) (.k (.int .u64 1))),n_ 17 14,f_ 18 17 34,s_ 1 .i64 18 16] [3,9,14,15,16,17,18]))) (R_ [m_ 19 0,n_ 20 19,f_ 21 20 0,f_ 22 21 1,l_ 23 22,m_ 24 1,m_ 25 0,n_ 26 25,f_ 27 26 0,f_ 28 27 0,l_ 29 28,m_ 30 0,n_ 31 30,f_ 32 31 0,f_ 33 32 1,l_ 34 33,m_ 35 1,i_ 36 34 35 1,L_ 37 36,m_ 38 2,o_ 39 (.callp 207 [.t 29,.t 37,.t 38]),i_ 40 23 24 1,S_ 1 .i64 40 39] [0,1,2,19,20,21,22,23,24,25,26,27,28,29,30,31,32,33,34,35,36,37,38,39,40])
set_option maxRecDepth 4000 in
theorem comp170:(Tryz.f170.body.bind fun c=>compC tab isP chkAll ir170 c)=some ir170:=by kernel_rfl
section 
variable (r:List SV) (v:SV)
@[push_cast] theorem gq32:getL (qsV++r) 32=getL r 0:=rfl
@[push_cast] theorem gq33:getL (qsV++r) 33=getL r 1:=rfl
@[push_cast] theorem gq34:getL (qsV++r) 34=getL r 2:=rfl
@[push_cast] theorem gq35:getL (qsV++r) 35=getL r 3:=rfl
@[push_cast] theorem gq36:getL (qsV++r) 36=getL r 4:=rfl
@[push_cast] theorem gq37:getL (qsV++r) 37=getL r 5:=rfl
@[push_cast] theorem gq38:getL (qsV++r) 38=getL r 6:=rfl
@[push_cast] theorem gq39:getL (qsV++r) 39=getL r 7:=rfl
@[push_cast] theorem sq32:setL (qsV++r) 32 v=qsV++setL r 0 v:=rfl
@[push_cast] theorem sq33:setL (qsV++r) 33 v=qsV++setL r 1 v:=rfl
@[push_cast] theorem sq34:setL (qsV++r) 34 v=qsV++setL r 2 v:=rfl
@[push_cast] theorem sq35:setL (qsV++r) 35 v=qsV++setL r 3 v:=rfl
@[push_cast] theorem sq36:setL (qsV++r) 36 v=qsV++setL r 4 v:=rfl
@[push_cast] theorem sq37:setL (qsV++r) 37 v=qsV++setL r 5 v:=rfl
@[push_cast] theorem sq38:setL (qsV++r) 38 v=qsV++setL r 6 v:=rfl
@[push_cast] theorem sq39:setL (qsV++r) 39 v=qsV++setL r 7 v:=rfl
@[push_cast] theorem tq32:takeL (qsV++r) 32=some qsV:=by simp[qsV,takeL]
@[push_cast] theorem dq32:dropL (qsV++r) 32=r:=by simp[qsV,dropL]
@[push_cast] theorem rq (f:Nat->Nat):relabs f (qsV++r)=qsV++relabs f r:=rfl
@[push_cast] theorem eqvs_q (s:List SV):eqvs (qsV++r) (qsV++s)=eqvs r s:=by simp[qsV,eqvs,eqv]
end
mutual
theorem eqv_rfl:∀ v,eqv v v
 | .int k n=>by simp only[eqv]
 | .bool b=>by simp only[eqv]
 | .ptr c L i s f=>by simp only[eqv,and_self]
 | .sl c L s lo n=>by simp only[eqv,and_self]
 | .agg cs=>by simp only[eqv];exact eqvs_rfl cs
 | .tup cs=>by simp only[eqv];exact eqvs_rfl cs
 | .fn f cs=>by simp only[eqv,true_and];exact eqvs_rfl cs
 | .val v=>by simp only[eqv]
theorem eqvs_rfl:∀ cs,eqvs cs cs
 | []=>by simp only[eqvs]
 | c::cs=>by simp only[eqvs];exact⟨eqv_rfl c,eqvs_rfl cs⟩
end
@[push_cast] theorem eqv_rfl' (v:SV):eqv v v=True:=eq_true (eqv_rfl v)
@[push_cast] theorem eqvs_rfl' (cs:List SV):eqvs cs cs=True:=eq_true (eqvs_rfl cs)
def ivV (kind:Int) (LS:Xf.Loc) (n low high:Int) (rest:List SV):List SV:=.int .i64 kind::.sl 1 LS 1 0 n::(qsV++.int .u64 low::.int .u64 high::rest)
def stsOk (kind:Int) (st:List Int):Prop:=(kind=0∨kind=1)/\∀ s∈st,sttOk kind s
theorem stsOk.at {kind:Int} {st:List Int} (h:stsOk kind st) {i:Int} (h0:0<=i) (h1:i<st.length):sttOk kind (rd st i):=by
 obtain⟨k,rfl⟩:∃ k:Nat,i=k:=⟨i.toNat,by omega⟩
 rw[rd_lt st k (by omega)]
 exact h.2 _ (List.getElem_mem _)
theorem stsOk.set {kind:Int} {st:List Int} (h:stsOk kind st) {i:Nat} {s:Int} (hs:sttOk kind s):stsOk kind (st.set i s):=by
 refine⟨h.1,fun x hx=>?_⟩
 rcases List.mem_or_eq_of_mem_set hx with h1 | h1
 ·exact h.2 x h1
 ·rw[h1];exact hs
def midP (low high p:Int):Int:=low+(high-low) / 4096*p+(high-low) % 4096*p / 4096
theorem midP_bd {low high p:Int} (h0:0<=low) (h1:low<=high) (h2:high<4294967296) (hp0:1<=p) (hp1:p<=4095) :
  0<=(high-low) / 4096*p/\(high-low) / 4096*p<=4294967296/\0<=(high-low) % 4096*p/\(high-low) % 4096*p<=16777216/\low<=midP low high p/\midP low high p<=high/\(low<high->midP low high p<high):=by
 unfold midP
 obtain⟨r,hr⟩:∃ r,high-low=r:=⟨_,rfl⟩
 rw[hr]
 have hr0:0<=r:=by omega
 obtain⟨a,ha⟩:∃ a,r / 4096=a:=⟨_,rfl⟩
 obtain⟨b,hb⟩:∃ b,r % 4096=b:=⟨_,rfl⟩
 rw[ha,hb]
 have hab:r=4096*a+b:=by omega
 have ha0:0<=a:=by omega
 have ha1:a<=1048576:=by omega
 have hb0:0<=b:=by omega
 have hb1:b<4096:=by omega
 have m1:=mul_bd ha0 ha1 (show 0<=p by omega) hp1
 have m2:=mul_bd hb0 (show b<=4095 by omega) (show 0<=p by omega) hp1
 have m3:a*p<=a*4095:=Int.mul_le_mul_of_nonneg_left hp1 ha0
 have m4:b*p<=b*4095:=Int.mul_le_mul_of_nonneg_left hp1 hb0
 refine⟨m1.1,by omega,m2.1,by omega,by omega,by omega,by omega⟩
structure IvA where
 L:Xf.Loc
 LS:Xf.Loc
 kind:Int
 st:List Int
 low:Int
 high:Int
 rest:List SV
 ctx:Int
 bit:Int
def IvA.ok (a:IvA):Prop:=stsOk a.kind a.st/\a.st.length<=1000000/\0<=a.low/\a.low<a.high/\a.high<4294967296
def restR:List SV->Option (List SV×Nat)
 | .sl d L s lo n::r=>some (.sl 2 L s lo n::r,d)
 | _=>none
def invIv:List SV->Look->Option (IvA×List Nat)
 | .ptr c _ 0 0 0::us,look=>match rowC (look c)with
  | some (L,.int .i64 kind::.sl d LS 1 0 _::r)=>match dropL r 32,rowI (look d)with
   | .int .u64 low::.int .u64 high::r,some (_,.i64,st)=>match restR r with
    | some (rest,e)=>match us with
     | []=>some (⟨L,LS,kind,st,low,high,rest,0,0⟩,[c,d,e])
     | [.int .i64 ctx]=>some (⟨L,LS,kind,st,low,high,rest,ctx,0⟩,[c,d,e])
     | [.int .i64 ctx,.int .i64 bit,_]=>some (⟨L,LS,kind,st,low,high,rest,ctx,bit⟩,[c,d,e])
     | _=>none
    | none=>none
   | _,_=>none
  | _=>none
 | _,_=>none
attribute [push_cast] restR invIv
def fs171:FS where
 A:=IvA
 args:=fun a=>[.ptr 0 a.L 0 0 0,.int .i64 a.ctx]
 mem:=fun a=>[some (.ro,a.L,.cells (ivV a.kind a.LS a.st.length a.low a.high a.rest)),some (.ro,a.LS,.ints .i64 a.st),none]
 pre:=fun a=>a.ok/\0<=a.ctx/\a.ctx<a.st.length
 res:=fun a _=>.int .u64 (midP a.low a.high (chP a.kind (rd a.st a.ctx)))
theorem ok171:FSOk Tryz.prog 171 fs171:=by
 refine hd_ (fk_ Tryz.func171) fun a hp=>?_
 obtain⟨L,LS,kind,st,low,high,rest,ctx,bit⟩:=a
 obtain⟨⟨h1,h2,h3,h4,h5⟩,h6,h7⟩:(stsOk kind st/\st.length<=1000000/\0<=low/\low<high/\high<4294967296)/\0<=ctx/\ctx<st.length:=hp
 have hs:=h1.at h6 h7
 have hc:=chP_bd hs
 change Tri Tryz.prog 171 [.ptr 0 L 0 0 0,.int .i64 ctx] [some (.ro,L,.cells (ivV kind LS st.length low high rest)),some (.ro,LS,.ints .i64 st),none] (postF fs171 ⟨L,LS,kind,st,low,high,rest,ctx,bit⟩)
 refine tri_evS (hyp (l:=[]) (lp:=[(208,chanceF)]) trivial ⟨p208,trivial⟩) Tryz.func171 comp171 (rs:=[.tmp 4]) (by rfl) Tryz.ntmps171 10 ?_
 obtain⟨s,hss⟩:∃ s,rd st ctx=s:=⟨_,rfl⟩
 rw[hss]at hs hc
 obtain⟨p,hpp⟩:∃ p,chP kind s=p:=⟨_,rfl⟩
 rw[hpp]at hc
 have hb:=midP_bd h3 (Int.le_of_lt h4) h5 hc.1 hc.2
 unfold midP at hb
 simp -implicitDefEqProofs only[push_cast,zz,seval,ir171,ivV,hss,hpp,hs]
 repeat refine om_ ?_
 refine postF.mk' (fun _=>default) [some 0,some 1,none] ?_
 simp -implicitDefEqProofs only[push_cast,zz,seval,fs171,ivV,hss,hpp,midP]
def ent171:Entry:=spOf fs171 invIv
theorem e171:EntryOk Tryz.prog 171 ent171:=entry_of ok171 invIv
@[push_cast] theorem ent171_a u l x k:ent171 u l x k=spOf fs171 invIv u l x k:=rfl
def fs172:FS where
 A:=IvA
 args:=fun a=>[.ptr 0 a.L 0 0 0]
 mem:=fun a=>[some (.ro,a.L,.cells (ivV a.kind a.LS a.st.length a.low a.high a.rest)),none,none]
 res:=fun a _=>.bool (decide (a.low / 16777216=a.high / 16777216))
theorem ok172:FSOk Tryz.prog 172 fs172:=by
 refine hd_ (fk_ Tryz.func172) fun a hp=>?_
 obtain⟨L,LS,kind,st,low,high,rest,ctx,bit⟩:=a
 change Tri Tryz.prog 172 [.ptr 0 L 0 0 0] [some (.ro,L,.cells (ivV kind LS st.length low high rest)),none,none] (postF fs172 ⟨L,LS,kind,st,low,high,rest,ctx,bit⟩)
 refine tri_evS (hyp (l:=[]) (lp:=[]) trivial trivial) Tryz.func172 comp172 (rs:=[.tmp 2]) (by rfl) Tryz.ntmps172 10 ?_
 have hb64:=bits64
 simp -implicitDefEqProofs only[push_cast,zz,seval,ir172,ivV,pw24]
 repeat refine om_ ?_
 refine postF.mk' (fun _=>default) [some 0,none,none] ?_
 simp -implicitDefEqProofs only[push_cast,zz,seval,fs172,ivV]
def ent172:Entry:=spOf fs172 invIv
theorem e172:EntryOk Tryz.prog 172 ent172:=entry_of ok172 invIv
@[push_cast] theorem ent172_a u l x k:ent172 u l x k=spOf fs172 invIv u l x k:=rfl
theorem wrap64 (x:Nat) (h:x<18446744073709551616):IntKind.u64.wrap x=x:=inR_wrap (k:=.u64) (by simp only[inR,push_cast];omega)
theorem and_top {x:Int} (h0:0<=x) (h1:x<18446744073709551616):bitop .and .u64 x 4294967295=x % 4294967296:=by
 obtain⟨k,rfl⟩:∃ k:Nat,x=k:=⟨x.toNat,by omega⟩
 have e:((BitVec.ofInt 64 (k:Int)) &&& (BitVec.ofInt 64 4294967295)).toNat=k % 4294967296:=by
  rw[BitVec.toNat_and,BitVec.toNat_ofInt,BitVec.toNat_ofInt]
  rw[show(((4294967295:Int) % ((2^64:Nat):Int)).toNat)=2^32-1 by decide,Nat.and_two_pow_sub_one_eq_mod]
  omega
 show IntKind.u64.wrap _=_
 have e':(BitVec.toNat ((BitVec.ofInt IntKind.u64.bits (k:Int)) &&& (BitVec.ofInt IntKind.u64.bits 4294967295)))=k % 4294967296:=e
 simp only[e']
 rw[wrap64 _ (by omega)]
 omega
theorem or_255 {x:Int} (h0:0<=x) (h1:x<18446744073709551616) (h2:x % 256=0):bitop .or .u64 x 255=x+255:=by
 obtain⟨k,rfl⟩:∃ k:Nat,x=k:=⟨x.toNat,by omega⟩
 have e:((BitVec.ofInt 64 (k:Int)) ||| (BitVec.ofInt 64 255)).toNat=k+255:=by
  rw[BitVec.toNat_or,BitVec.toNat_ofInt,BitVec.toNat_ofInt]
  rw[show(((255:Int) % ((2^64:Nat):Int)).toNat)=255 by decide]
  rw[show(((k:Int) % ((2^64:Nat):Int)).toNat)=2^8*(k / 256) by omega]
  rw[<-Nat.two_pow_add_eq_or_of_lt (by decide)]
  omega
 show IntKind.u64.wrap _=_
 have e':(BitVec.toNat ((BitVec.ofInt IntKind.u64.bits (k:Int)) ||| (BitVec.ofInt IntKind.u64.bits 255)))=k+255:=e
 simp only[e']
 rw[wrap64 _ (by omega)]
 omega
def fs173:FS where
 A:=IvA
 args:=fun a=>[.ptr 0 a.L 0 0 0]
 mem:=fun a=>[some (.lent,a.L,.cells (ivV a.kind a.LS a.st.length a.low a.high a.rest)),none,none]
 pre:=fun a=>0<=a.low/\a.low<4294967296/\0<=a.high/\a.high<4294967296
 res:=fun a _=>.int .u8 (a.low / 16777216)
 out:=fun a _=>[some (some (.cells (ivV a.kind a.LS a.st.length (a.low % 16777216*256) (a.high % 16777216*256+255) a.rest)))]
theorem ok173:FSOk Tryz.prog 173 fs173:=by
 refine hd_ (fk_ Tryz.func173) fun a hp=>?_
 obtain⟨L,LS,kind,st,low,high,rest,ctx,bit⟩:=a
 obtain⟨h0,h1,h2,h3⟩:0<=low/\low<4294967296/\0<=high/\high<4294967296:=hp
 change Tri Tryz.prog 173 [.ptr 0 L 0 0 0] [some (.lent,L,.cells (ivV kind LS st.length low high rest)),none,none] (postF fs173 ⟨L,LS,kind,st,low,high,rest,ctx,bit⟩)
 refine tri_evS (hyp (l:=[]) (lp:=[]) trivial trivial) Tryz.func173 comp173 (rs:=[.tmp 2]) (by rfl) Tryz.ntmps173 10 ?_
 have hb64:=bits64
 have e1:=and_top (x:=low*256) (by omega) (by omega)
 have e2:=and_top (x:=high*256) (by omega) (by omega)
 have e3:=or_255 (x:=high*256 % 4294967296) (by omega) (by omega) (by omega)
 have e4:low*256 % 4294967296=low % 16777216*256:=by omega
 have e5:high*256 % 4294967296=high % 16777216*256:=by omega
 rw[e4]at e1
 rw[e5]at e2 e3
 simp -implicitDefEqProofs only[push_cast,zz,seval,ir173,ivV,pw24,pw8,e1,e2,e3]
 repeat refine om_ ?_
 refine postF.mk' (fun _=>default) [some 0,none,none] ?_
 simp -implicitDefEqProofs only[push_cast,zz,seval,fs173,ivV]
def ent173:Entry:=spOf fs173 invIv
theorem e173:EntryOk Tryz.prog 173 ent173:=entry_of ok173 invIv
@[push_cast] theorem ent173_a u l x k:ent173 u l x k=spOf fs173 invIv u l x k:=rfl
def fs170:FS where
 A:=IvA
 args:=fun a=>[.ptr 0 a.L 0 0 0,.int .i64 a.ctx,.int .i64 a.bit,.int .u64 (midP a.low a.high (chP a.kind (rd a.st a.ctx)))]
 mem:=fun a=>[some (.lent,a.L,.cells (ivV a.kind a.LS a.st.length a.low a.high a.rest)),some (.lent,a.LS,.ints .i64 a.st),none]
 pre:=fun a=>a.ok/\0<=a.ctx/\a.ctx<a.st.length/\(a.bit=0∨a.bit=1)
 res:=fun a _=>.tup []
 out:=fun a _=>[some (some (.cells (ivV a.kind a.LS a.st.length (if a.bit=1 then a.low else midP a.low a.high (chP a.kind (rd a.st a.ctx))+1) (if a.bit=1 then midP a.low a.high (chP a.kind (rd a.st a.ctx))else a.high) a.rest))),
  some (some (.ints .i64 (a.st.set a.ctx.toNat (nxP a.kind (rd a.st a.ctx) a.bit))))]
theorem ok170:FSOk Tryz.prog 170 fs170:=by
 refine hd_ (fk_ Tryz.func170) fun a hp=>?_
 obtain⟨L,LS,kind,st,low,high,rest,ctx,bit⟩:=a
 obtain⟨⟨h1,h2,h3,h4,h5⟩,h6,h7,h8⟩:(stsOk kind st/\st.length<=1000000/\0<=low/\low<high/\high<4294967296)/\0<=ctx/\ctx<st.length/\(bit=0∨bit=1):=hp
 have hs:=h1.at h6 h7
 have hc:=chP_bd hs
 have hb:=midP_bd h3 (Int.le_of_lt h4) h5 hc.1 hc.2
 change Tri Tryz.prog 170 [.ptr 0 L 0 0 0,.int .i64 ctx,.int .i64 bit,.int .u64 (midP low high (chP kind (rd st ctx)))] [some (.lent,L,.cells (ivV kind LS st.length low high rest)),some (.lent,LS,.ints .i64 st),none] (postF fs170 ⟨L,LS,kind,st,low,high,rest,ctx,bit⟩)
 refine tri_evS (hyp (l:=[]) (lp:=[(207,nextF)]) trivial ⟨p207,trivial⟩) Tryz.func170 comp170 (rs:=[]) (by rfl) Tryz.ntmps170 10 ?_
 obtain⟨m,hm⟩:∃ m,midP low high (chP kind (rd st ctx))=m:=⟨_,rfl⟩
 obtain⟨s,hss⟩:∃ s,rd st ctx=s:=⟨_,rfl⟩
 rw[hss]at hs
 rw[hm]at hb ⊢
 rw[hss]at hm
 have h01:¬ (0:Int)=1:=by decide
 by_cases hbit:bit=1
 ·subst hbit
  simp -implicitDefEqProofs only[push_cast,zz,seval,ir170,ivV,hss,hs]
  repeat refine om_ ?_
  refine postF.mk' (fun _=>default) [some 0,some 1,none] ?_
  simp -implicitDefEqProofs only[push_cast,zz,seval,fs170,ivV,hm,hss,List.length_set]
 ·obtain rfl:bit=0:=by omega
  simp -implicitDefEqProofs only[push_cast,zz,seval,ir170,ivV,hss,hs,h01]
  repeat refine om_ ?_
  refine postF.mk' (fun _=>default) [some 0,some 1,none] ?_
  simp -implicitDefEqProofs only[push_cast,zz,seval,fs170,ivV,hm,hss,List.length_set,h01]
def ent170:Entry:=spOf fs170 invIv
theorem e170:EntryOk Tryz.prog 170 ent170:=entry_of ok170 invIv
@[push_cast] theorem ent170_a u l x k:ent170 u l x k=spOf fs170 invIv u l x k:=rfl
def ir169:IR:=
 .seq (r_ [o_ 2 (.mov (.k (.bool false)))] [2]) (.seq (r_ [m_ 3 0,o_ 4 (.binN .eql (.t 3) (.k nilP)),m_ 5 4,q_ 5 (m_ 6 0),q_ 5 (n_ 7 6),q_ 5 (f_ 8 7 37),q_ 5 (l_ 9 8),q_ 5 (o_ 10 (.not (.t 9))),k_ 11 5 10,m_ 2 11] [0,3,4,5,6,7,8,9,10,11]) (.ret))
set_option maxRecDepth 4000 in
theorem comp169:(Tryz.f169.body.bind fun c=>compC tab isP chkAll ir169 c)=some ir169:=by kernel_rfl
def b115_1:IR:=
 .seq (.seq (r_ [m_ 43 0,n_ 44 43,f_ 45 44 0,o_ 46 (.call (some 4) 22 172 [.t 45])] [43,44,45]) (.cond (.t 46) (.skip) (.exit 1))) (.block 2 (.regT (.split 4 8 (.leaf [0,1,2,3,4,5,6,7,8,9,10,11,12,13]) (.leaf [0,1,2,3,5,6,7,8,4,9,10,11,12,13])) [m_ 47 0,m_ 48 0,n_ 49 48,f_ 50 49 36,⟨some 51,none,⟨[26,27,28,29,30],[]⟩,.ld false none 0 0 (.t 50)⟩,m_ 52 0,n_ 53 52,f_ 54 53 0,o_ 55 (.call none 26 173 [.t 54]),o_ 56 (.bslice 30 [.t 55]),o_ 57 (.app 31 1 1 (.t 51) (.t 56)),n_ 58 47,f_ 59 58 36,s_ 1 .u8 59 57] [46,47,48,49,50,51,52,53,54,55,56,57,58,59] []))
def r115_2:IR:=
 .seq (r_ [z_ 6 0] [0]) (.ret)
def ir115:IR:=
 .seq (r_ [z_ 6 0] [6]) (.seq (.block 0 (.seq (r_ [m_ 8 0,o_ 9 (.call (some 4) 10 169 [.t 8]),m_ 7 9] [8,9]) (.cond (.t 7) (.seq (r_ [z_ 6 7] [0,1,2,7]) (.ret)) (.seq (r_ [m_ 11 1,c_ 12 .lss 11 0,m_ 13 12,q_ 13 (m_ 14 1),q_ 13 (m_ 15 0),q_ 13 (n_ 16 15),q_ 13 (f_ 17 16 0),q_ 13 (f_ 18 17 0),q_ 13 (f_ 19 18 1),q_ 13 (l_ 20 19),q_ 13 (h_ 21 20),q_ 13 (b_ 22 .geq 14 21),k_ 23 13 22,m_ 24 23,q_ 24 (m_ 25 2),q_ 24 (c_ 26 .neq 25 0),q_ 24 (m_ 27 26),p_ 27 (m_ 28 2),p_ 27 (c_ 29 .neq 28 1),q_ 24 (K_ 30 27 29),k_ 31 24 30,m_ 10 31] [7,11,12,13,14,15,16,17,18,19,20,21,22,23,24,25,26,27,28,29,30,31]) (.cond (.t 10) (.seq (r_ [z_ 6 2] [0,1,2,10]) (.ret)) (.skip)))))) (.seq (R_ [m_ 32 0,n_ 33 32,f_ 34 33 0,m_ 35 1,m_ 36 2,m_ 37 0,n_ 38 37,f_ 39 38 0,m_ 40 1,o_ 41 (.call (some 4) 14 171 [.t 39,.t 40]),o_ 42 (.call none 18 170 [.t 34,.t 35,.t 36,.t 41])] [1,2,6,10,32,33,34,35,36,37,38,39,40,41,42]) (.seq (.block 1 (.loop b115_1)) (r115_2))))
def kp115_1:List Nat:=[0]
def kl115_1:List Nat:=[22,23,24,25,26,27,28,29,30,31]
attribute [push_cast] kp115_1 kl115_1
set_option maxRecDepth 4000 in
theorem comp115:(Tryz.f115.body.bind fun c=>compC tab isP chkAll ir115 c)=some ir115:=by kernel_rfl
def normP:Nat->Int->Int->List Int×Int×Int
 | 0,l,h=>([],l,h)
 | n+1,l,h=>if l / 16777216=h / 16777216 then (l / 16777216::(normP n (l % 16777216*256) (h % 16777216*256+255)).1,(normP n (l % 16777216*256) (h % 16777216*256+255)).2)else ([],l,h)
def pw256:Nat->Int
 | 0=>4294967296
 | 1=>16777216
 | 2=>65536
 | 3=>256
 | _=>1
def nrm (n:Nat) (l h:Int):Prop:=n<=4/\0<=l/\l<=h/\h<4294967296/\l % pw256 n=0/\h % pw256 n=pw256 n-1
theorem nrm_0 {l h:Int} (H:nrm 0 l h):¬ l / 16777216=h / 16777216:=by
 obtain⟨_,h1,h2,h3,h4,h5⟩:=H
 simp only[pw256]at h4 h5
 omega
theorem nrm_step {n:Nat} {l h:Int} (H:nrm (n+1) l h) (e:l / 16777216=h / 16777216):nrm n (l % 16777216*256) (h % 16777216*256+255):=by
 obtain⟨h0,h1,h2,h3,h4,h5⟩:=H
 have hn:n=0∨n=1∨n=2∨n=3:=by omega
 rcases hn with rfl | rfl | rfl | rfl<;>simp only[pw256,nrm]at h4 h5 ⊢<;>omega
theorem nrm_4 {l h:Int} (h0:0<=l) (h1:l<=h) (h2:h<4294967296):nrm 4 l h:=⟨by omega,h0,h1,h2,by simp only[pw256];omega,by simp only[pw256];omega⟩
theorem norm_no (n:Nat) {l h:Int} (e:¬ l / 16777216=h / 16777216):normP n l h=([],l,h):=by
 cases n with
 | zero=>rfl
 | succ n=>rw[normP,if_neg e]
theorem norm_yes {n:Nat} {l h:Int} (e:l / 16777216=h / 16777216):normP (n+1) l h=(l / 16777216::(normP n (l % 16777216*256) (h % 16777216*256+255)).1,(normP n (l % 16777216*256) (h % 16777216*256+255)).2):=by
 rw[normP,if_pos e]
theorem norm_bd:∀ (n:Nat) {l h:Int},nrm n l h->(normP n l h).1.length<=n/\0<=(normP n l h).2.1/\(normP n l h).2.1<(normP n l h).2.2/\(normP n l h).2.2<4294967296/\¬ (normP n l h).2.1 / 16777216=(normP n l h).2.2 / 16777216
 | n,l,h,H=>by
  by_cases e:l / 16777216=h / 16777216
  ·cases n with
   | zero=>exact absurd e (nrm_0 H)
   | succ n=>
    have ih:=norm_bd n (nrm_step H e)
    rw[norm_yes e]
    simp only[List.length_cons]
    exact⟨by omega,ih.2⟩
  ·rw[norm_no n e]
   obtain⟨h0,h1,h2,h3,h4,h5⟩:=H
   simp only[List.length_nil]
   refine⟨by omega,h1,by omega,h3,e⟩
structure EnS where
 kind:Int
 st:List Int
 low:Int
 high:Int
 out:List Int
def ivOk2 (kind:Int) (st:List Int) (low high:Int):Prop:=stsOk kind st/\st.length<=1000000/\0<=low/\low<high/\high<4294967296/\¬ low / 16777216=high / 16777216
def EnS.ok (e:EnS):Prop:=ivOk2 e.kind e.st e.low e.high
def lowP (kind:Int) (st:List Int) (low high ctx bit:Int):Int:=if bit=1 then low else midP low high (chP kind (rd st ctx))+1
def highP (kind:Int) (st:List Int) (low high ctx bit:Int):Int:=if bit=1 then midP low high (chP kind (rd st ctx))else high
theorem nrm_part {kind:Int} {st:List Int} {low high ctx bit:Int} (H:ivOk2 kind st low high) (h0:0<=ctx) (h1:ctx<st.length):nrm 4 (lowP kind st low high ctx bit) (highP kind st low high ctx bit):=by
 obtain⟨a1,a2,a3,a4,a5,a6⟩:=H
 have hc:=chP_bd (a1.at h0 h1)
 have hb:=midP_bd a3 (Int.le_of_lt a4) a5 hc.1 hc.2
 unfold lowP highP
 split
 ·exact nrm_4 a3 (by omega) (by omega)
 ·exact nrm_4 (by omega) (by omega) a5
def putP (e:EnS) (ctx bit:Int):EnS:=
 ⟨e.kind,e.st.set ctx.toNat (nxP e.kind (rd e.st ctx) bit),(normP 4 (lowP e.kind e.st e.low e.high ctx bit) (highP e.kind e.st e.low e.high ctx bit)).2.1,(normP 4 (lowP e.kind e.st e.low e.high ctx bit) (highP e.kind e.st e.low e.high ctx bit)).2.2,e.out++(normP 4 (lowP e.kind e.st e.low e.high ctx bit) (highP e.kind e.st e.low e.high ctx bit)).1⟩
theorem putP_ok {e:EnS} {ctx bit:Int} (H:e.ok) (h0:0<=ctx) (h1:ctx<e.st.length) (hb:bit=0∨bit=1):(putP e ctx bit).ok/\(putP e ctx bit).out.length<=e.out.length+4/\(putP e ctx bit).st.length=e.st.length/\(putP e ctx bit).kind=e.kind:=by
 have hn:=norm_bd 4 (nrm_part (bit:=bit) H h0 h1)
 obtain⟨a1,a2,a3,a4,a5,a6⟩:=H
 unfold putP EnS.ok ivOk2
 simp only[List.length_set,List.length_append]
 exact⟨⟨a1.set (nxP_ok (a1.at h0 h1) hb),a2,hn.2.1,hn.2.2.1,hn.2.2.2.1,hn.2.2.2.2⟩,by omega,trivial,trivial⟩
structure EnA where
 L:Xf.Loc
 LS:Xf.Loc
 LO:Xf.Loc
 e:EnS
 ctx:Int
 bit:Int
def enV (LS:Xf.Loc) (e:EnS) (d:Nat) (LO:Xf.Loc):List SV:=ivV e.kind LS e.st.length e.low e.high [.sl d LO 1 0 e.out.length,.bool true]
def enM (a:EnA):Mem:=[some (.ro,a.L,.cells (enV a.LS a.e 2 a.LO)),some (.ro,a.LS,.ints .i64 a.e.st),some (.ro,a.LO,.ints .u8 a.e.out)]
def rowO (look:Look) (e:Nat):Option (Xf.Loc×List Int):=
 bif e==4096 then some (nilLoc,[])else match rowI (look e)with
  | some (L,.u8,xs)=>some (L,xs)
  | _=>none
def invEn:List SV->Look->Option (EnA×List Nat)
 | .ptr c _ 0 0 0::us,look=>match rowC (look c)with
  | some (L,.int .i64 kind::.sl d LS 1 0 _::r)=>match dropL r 32,rowI (look d)with
   | [.int .u64 low,.int .u64 high,.sl e _ 1 0 _,.bool true],some (_,.i64,st)=>match rowO look e with
    | some (LO,out)=>match us with
     | []=>some (⟨L,LS,LO,⟨kind,st,low,high,out⟩,0,0⟩,[c,d,e])
     | [.int .i64 ctx,.int .i64 bit]=>some (⟨L,LS,LO,⟨kind,st,low,high,out⟩,ctx,bit⟩,[c,d,e])
     | _=>none
    | none=>none
   | _,_=>none
  | _=>none
 | _,_=>none
attribute [push_cast] rowO invEn
def fs169:FS where
 A:=EnA
 args:=fun a=>[.ptr 0 a.L 0 0 0]
 mem:=fun a=>enM a
 res:=fun a _=>.bool false
theorem ok169:FSOk Tryz.prog 169 fs169:=by
 refine hd_ (fk_ Tryz.func169) fun a hp=>?_
 obtain⟨L,LS,LO,⟨kind,st,low,high,out⟩,ctx,bit⟩:=a
 change Tri Tryz.prog 169 [.ptr 0 L 0 0 0] (enM ⟨L,LS,LO,⟨kind,st,low,high,out⟩,ctx,bit⟩) (postF fs169 ⟨L,LS,LO,⟨kind,st,low,high,out⟩,ctx,bit⟩)
 refine tri_evS (hyp (l:=[]) (lp:=[]) trivial trivial) Tryz.func169 comp169 (rs:=[.tmp 2]) (by rfl) Tryz.ntmps169 10 ?_
 simp -implicitDefEqProofs only[push_cast,zz,seval,ir169,enM,enV,ivV]
 repeat refine om_ ?_
 refine postF.mk' (fun _=>default) [some 0,some 1,some 2] ?_
 simp -implicitDefEqProofs only[push_cast,zz,seval,fs169,enM,enV,ivV]
def ent169:Entry:=spOf fs169 invEn
theorem e169:EntryOk Tryz.prog 169 ent169:=entry_of ok169 invEn
@[push_cast] theorem ent169_a u l x k:ent169 u l x k=spOf fs169 invEn u l x k:=rfl
def fs115:FS where
 A:=EnA
 args:=fun a=>[.ptr 0 a.L 0 0 0,.int .i64 a.ctx,.int .i64 a.bit]
 mem:=fun a=>[some (.lent,a.L,.cells (enV a.LS a.e 2 a.LO)),some (.lent,a.LS,.ints .i64 a.e.st),some (.lent,a.LO,.ints .u8 a.e.out)]
 pre:=fun a=>a.e.ok/\0<=a.ctx/\a.ctx<a.e.st.length/\(a.bit=0∨a.bit=1)/\a.e.out.length<=100000000
 res:=fun a _=>.int .i64 0
 out:=fun a x=>[some (some (.cells (enV a.LS (putP a.e a.ctx a.bit) 3 (x 0)))),some (some (.ints .i64 (putP a.e a.ctx a.bit).st)),some none]
 new:=fun a x=>[(x 0,.ints .u8 (putP a.e a.ctx a.bit).out)]
 newGot:=true
set_option maxHeartbeats 1000000 in
theorem ok115:FSOk Tryz.prog 115 fs115:=by
 refine hd_ (fk_ Tryz.func115) fun a hp=>?_
 obtain⟨L,LS,LO,⟨kind,st,low,high,out⟩,ctx,bit⟩:=a
 obtain⟨h1,h2,h3,h4,h5⟩:ivOk2 kind st low high/\0<=ctx/\ctx<st.length/\(bit=0∨bit=1)/\out.length<=100000000:=hp
 have hn:=nrm_part (bit:=bit) h1 h2 h3
 obtain⟨E,hE⟩:∃ E,putP ⟨kind,st,low,high,out⟩ ctx bit=E:=⟨_,rfl⟩
 have hE1:E.kind=kind:=by rw[<-hE];rfl
 have hE2:E.st=st.set ctx.toNat (nxP kind (rd st ctx) bit):=by rw[<-hE];rfl
 have hE3:(out++(normP 4 (lowP kind st low high ctx bit) (highP kind st low high ctx bit)).1,(normP 4 (lowP kind st low high ctx bit) (highP kind st low high ctx bit)).2)=(E.out,E.low,E.high):=by rw[<-hE];rfl
 have hl0:(if bit=1 then low else midP low high (chP kind (rd st ctx))+1)=lowP kind st low high ctx bit:=rfl
 have hh0:(if bit=1 then midP low high (chP kind (rd st ctx))else high)=highP kind st low high ctx bit:=rfl
 have hok:(⟨L,LS,kind,st,low,high,[.sl 2 LO 1 0 out.length,.bool true],ctx,bit⟩:IvA).ok:=⟨h1.1,h1.2.1,h1.2.2.1,h1.2.2.2.1,h1.2.2.2.2.1⟩
 simp only[IvA.ok]at hok
 change Tri Tryz.prog 115 [.ptr 0 L 0 0 0,.int .i64 ctx,.int .i64 bit] [some (.lent,L,.cells (enV LS ⟨kind,st,low,high,out⟩ 2 LO)),some (.lent,LS,.ints .i64 st),some (.lent,LO,.ints .u8 out)] (postF fs115 ⟨L,LS,LO,⟨kind,st,low,high,out⟩,ctx,bit⟩)
 refine tri_evS (hyp (l:=[(169,ent169),(171,ent171),(170,ent170),(172,ent172),(173,ent173)]) (lp:=[]) ⟨e169,e171,e170,e172,e173,trivial⟩ trivial) Tryz.func115 comp115 (rs:=[.tmp 6]) (by rfl) Tryz.ntmps115 32 ?_
 have c1:¬ ctx<0:=by omega
 have c2:¬ (st.length:Int)<=ctx:=by omega
 have c3:¬ (¬ bit=0/\¬ bit=1):=by omega
 simp -implicitDefEqProofs only[push_cast,zz,seval,ir115,enV,ivV,fs169,fs171,fs170,enM,c1,c2,c3,h2,h3,h4,IvA.ok,hok,hl0,hh0]
 obtain⟨l0,hll⟩:∃ l,lowP kind st low high ctx bit=l:=⟨_,rfl⟩
 obtain⟨g0,hgg⟩:∃ l,highP kind st low high ctx bit=l:=⟨_,rfl⟩
 obtain⟨S,hSS⟩:∃ l,st.set ctx.toNat (nxP kind (rd st ctx) bit)=l:=⟨_,rfl⟩
 have hSl:S.length=st.length:=by rw[<-hSS,List.length_set]
 rw[hll,hgg]at hn hE3 ⊢
 rw[hSS]at hE2 ⊢
 refine evS_loopU (A:=Nat×Xf.Loc×Int×Int×List Int) kp115_1 kl115_1 (fun y=>[]) (fun y=>[(0,.lent,L,.cells (ivV kind LS st.length y.2.2.1 y.2.2.2.1 [.sl 2 y.2.1 1 0 y.2.2.2.2.length,.bool true])),(2,.got,y.2.1,.ints .u8 y.2.2.2.2)])
  (fun y=>nrm y.1 y.2.2.1 y.2.2.2.1/\(y.2.2.2.2++(normP y.1 y.2.2.1 y.2.2.2.1).1,(normP y.1 y.2.2.1 y.2.2.2.1).2)=(E.out,E.low,E.high)/\y.2.2.2.2.length+y.1<=100000004) (fun y=>y.1) (4,LO,l0,g0,out) ⟨hn,hE3,by simp only;omega⟩ (Sub.pt ?_) ?_
 ·simp -implicitDefEqProofs only[push_cast,zz,seval,ivV]
 intro ⟨n,M,l,g,o⟩ ⟨(hn:nrm n l g),(he:(o++(normP n l g).1,(normP n l g).2)=(E.out,E.low,E.high)),(ho:o.length+n<=100000004)⟩ K hK
 obtain⟨n0,n1,n2,n3,n4,n5⟩:=id hn
 by_cases e:l / 16777216=g / 16777216
 ·cases n with
  | zero=>exact absurd e (nrm_0 hn)
  | succ n=>
   have hs:=nrm_step hn e
   rw[norm_yes e]at he
   have he':((o++[l / 16777216])++(normP n (l % 16777216*256) (g % 16777216*256+255)).1,(normP n (l % 16777216*256) (g % 16777216*256+255)).2)=(E.out,E.low,E.high):=by
    rw[<-he,List.append_assoc];rfl
   have hb:0<=l/\l<4294967296/\0<=g/\g<4294967296:=by omega
   rw[e]at he'
   simp -implicitDefEqProofs only[push_cast,zz,seval,b115_1,ivV,fs172,fs173,e,hb,hSl]
   intro X
   repeat refine om_ ?_
   refine hK (n,X 10 31,l % 16777216*256,g % 16777216*256+255,o++[g / 16777216]) ⟨hs,he',by simp only[List.length_append,List.length_singleton];omega⟩ (Nat.lt_succ_self n) _ _ (Sub.of (mkG 40 [(0,0),(1,1),(2,31)]) ?_)
   simp -implicitDefEqProofs only[push_cast,zz,seval,ivV,List.length_append]
 ·rw[norm_no n e,List.append_nil]at he
  have e1:E.out=o:=(congrArg Prod.fst he).symm
  have e2:E.low=l:=(congrArg (fun x=>x.2.1) he).symm
  have e3:E.high=g:=(congrArg (fun x=>x.2.2) he).symm
  clear hK
  simp -implicitDefEqProofs only[push_cast,zz,seval,b115_1,r115_2,ivV,fs172,e,hSl]
  refine postF.mk' (fun _=>M) [some 0,some 1,none,some 2] ?_
  simp -implicitDefEqProofs only[push_cast,zz,seval,fs115,enV,ivV,hE,hE1,hE2,e1,e2,e3,hSl]
def ent115:Entry:=spOf fs115 invEn
theorem e115:EntryOk Tryz.prog 115 ent115:=entry_of ok115 invEn
@[push_cast] theorem ent115_a u l x k:ent115 u l x k=spOf fs115 invEn u l x k:=rfl
def ir174:IR:=
 .seq (r_ [o_ 1 (.box 10 (.t 0)),o_ 2 (.alloc 11 [y_,nilSV])] [0]) (.seq (R_ [f_ 3 1 0,⟨some 4,none,⟨[12,13],[]⟩,.ld false none 0 0 (.t 3)⟩,o_ 5 (.bslice 12 []),f_ 6 1 1,⟨some 7,none,⟨[12],[]⟩,.ld false none 0 0 (.t 6)⟩,o_ 8 (.app 13 1 8 (.t 5) (.t 7)),o_ 9 (.build [y_,nilSV] [(0,1,.t 4),(1,1,.t 8)]),s_ 2 .i64 2 9] [1,3,4,5,6,7,8,9]) (.ret))
set_option maxRecDepth 4000 in
theorem comp174:(Tryz.f174.body.bind fun c=>compC tab isP chkAll ir174 c)=some ir174:=by kernel_rfl
def b160_1:IR:=
 .seq (r_ [b_ 27 .lss 26 25] []) (.seq (.cond (.t 27) (.skip) (.exit 0)) (.seq (.block 1 (.seq (r_ [i_ 28 24 26 1,L_ 29 28,m_ 5 29] [27,28,29]) (.seq (r_ [m_ 30 5,c_ 31 .lss 30 0,m_ 32 31,q_ 32 (m_ 33 5),q_ 32 (m_ 34 3),q_ 32 (b_ 35 .geq 33 34),k_ 36 32 35] [5,30,31,32,33,34,35]) (.cond (.t 36) (.seq (r_ [o_ 2 (.mov (.k (.bool false)))] [3,24,25,26,36]) (.ret)) (.skip))))) (r_ [a_ 37 26 1,m_ 26 37] [2,36,37])))
def r160_2:IR:=
 .seq (r_ [o_ 2 (.mov (.k (.bool true)))] [3,24,25,26]) (.ret)
def ir160:IR:=
 .seq (r_ [o_ 1 (.box 10 (.t 0)),o_ 2 (.mov (.k (.bool false)))] [0,2]) (.seq (.seq (r_ [f_ 6 1 0,l_ 7 6,c_ 8 .neq 7 0,m_ 9 8,p_ 9 (f_ 10 1 0),p_ 9 (l_ 11 10),p_ 9 (c_ 12 .neq 11 1),K_ 13 9 12,m_ 14 13,q_ 14 (f_ 15 1 1),q_ 14 (l_ 16 15),q_ 14 (h_ 17 16),q_ 14 (c_ 18 .gtr 17 8192),k_ 19 14 18] [6,7,8,9,10,11,12,13,14,15,16,17,18]) (.cond (.t 19) (.seq (r_ [o_ 2 (.mov (.k (.bool false)))] [1,19]) (.ret)) (.skip))) (.seq (r_ [z_ 3 64] [2,19]) (.seq (.seq (r_ [f_ 20 1 0,l_ 21 20,c_ 22 .eql 21 1] [20,21]) (.cond (.t 22) (r_ [z_ 3 65536] [22]) (.skip))) (.seq (.seq (r_ [f_ 23 1 1,l_ 24 23,h_ 25 24,z_ 26 0] [1,22,23]) (.block 0 (.loop b160_1))) (r160_2)))))
def kp160_1:List Nat:=[3,24,25,26]
def kl160_1:List Nat:=[]
attribute [push_cast] kp160_1 kl160_1
set_option maxRecDepth 4000 in
theorem comp160:(Tryz.f160.body.bind fun c=>compC tab isP chkAll ir160 c)=some ir160:=by kernel_rfl
def ir161:IR:=
 .seq (r_ [o_ 1 (.box 10 (.t 0)),o_ 2 (.alloc 11 [y_,nilSV,y_,y_,y_,y_,y_,y_,y_,y_,y_,y_,y_,y_,y_,y_,y_,y_,y_,y_,y_,y_,y_,y_,y_,y_,y_,y_,y_,y_,y_,y_,y_,y_,.int .u64 0,.int .u64 0])] [0]) (.seq (r_ [o_ 3 (.ld false (some 2) 0 0 (.t 1)),o_ 4 (.call (some 4) 12 174 [.t 3]),o_ 5 (.callp 202 []),o_ 6 (.build [y_,nilSV,y_,y_,y_,y_,y_,y_,y_,y_,y_,y_,y_,y_,y_,y_,y_,y_,y_,y_,y_,y_,y_,y_,y_,y_,y_,y_,y_,y_,y_,y_,y_,y_,.int .u64 0,.int .u64 0] [(0,2,.t 4),(2,32,.t 5),(35,1,.k (.int .u64 4294967295))]),s_ 36 .i64 2 6] [1,3,4,5,6]) (.ret))
set_option maxRecDepth 4000 in
theorem comp161:(Tryz.f161.body.bind fun c=>compC tab isP chkAll ir161 c)=some ir161:=by kernel_rfl
def ir112:IR:=
 .seq (r_ [o_ 1 (.box 10 (.t 0)),o_ 2 (.mov (.k nilP)),z_ 3 0] [0,2,3]) (.seq (.seq (r_ [o_ 4 (.ld false (some 2) 0 0 (.t 1)),o_ 5 (.call (some 4) 11 160 [.t 4]),o_ 6 (.not (.t 5))] [4,5]) (.cond (.t 6) (.seq (r_ [o_ 2 (.mov (.k nilP)),z_ 3 10] [1,6]) (.ret)) (.skip))) (.seq (r_ [o_ 7 (.ld false (some 2) 0 0 (.t 1)),o_ 8 (.call (some 4) 15 161 [.t 7]),o_ 9 (.build [y_,nilSV,y_,y_,y_,y_,y_,y_,y_,y_,y_,y_,y_,y_,y_,y_,y_,y_,y_,y_,y_,y_,y_,y_,y_,y_,y_,y_,y_,y_,y_,y_,y_,y_,.int .u64 0,.int .u64 0,nilSV,.bool false] [(0,36,.t 8),(37,1,.k (.bool true))]),o_ 10 (.box 19 (.t 9)),m_ 2 10,z_ 3 0] [1,6,7,8,9,10]) (.ret)))
set_option maxRecDepth 4000 in
theorem comp112:(Tryz.f112.body.bind fun c=>compC tab isP chkAll ir112 c)=some ir112:=by kernel_rfl
def ir116:IR:=
 .seq (r_ [o_ 2 (.alloc 10 [y_,nilSV])] []) (.seq (.seq (r_ [m_ 3 0,o_ 4 (.call (some 4) 11 169 [.t 3])] [3]) (.cond (.t 4) (.seq (r_ [o_ 5 (.build [y_,nilSV] []),s_ 2 .i64 2 5] [0,4,5]) (.ret)) (.skip))) (.seq (r_ [m_ 6 0,n_ 7 6,f_ 8 7 0,f_ 9 8 0,o_ 10 (.ld false (some 2) 0 0 (.t 9)),o_ 11 (.call (some 4) 15 174 [.t 10]),s_ 2 .i64 2 11] [0,4,6,7,8,9,10,11]) (.ret)))
set_option maxRecDepth 4000 in
theorem comp116:(Tryz.f116.body.bind fun c=>compC tab isP chkAll ir116 c)=some ir116:=by kernel_rfl
def b117_2:IR:=
 .seq (r_ [b_ 39 .lss 38 37] []) (.seq (.cond (.t 39) (.skip) (.exit 2)) (.seq (.block 3 (.seq (r_ [m_ 40 38,m_ 6 40] [39,40]) (r_ [m_ 41 3,m_ 42 0,n_ 43 42,f_ 44 43 0,f_ 45 44 35,l_ 46 45,m_ 47 6,o_ 48 (.bin 0 .mul (Z_ 8) (.t 47)),o_ 49 (.bin 0 .sub (Z_ 24) (.t 48)),b_ 50 .shr 46 49,o_ 51 (.cvt 1 .u8 (.t 50)),o_ 52 (.bslice 16 [.t 51]),o_ 53 (.app 17 1 1 (.t 41) (.t 52)),m_ 3 53] [6,41,42,43,44,45,46,47,48,49,50,51,52,53]))) (r_ [a_ 54 38 1,m_ 38 54] [54])))
def r117_3:IR:=
 .seq (r_ [m_ 55 3,m_ 2 55] [0,3,37,38,55]) (.ret)
def r117_4:IR:=
 r_ [a_ 56 15 1,m_ 15 56] [2,4,36,56]
def b117_1:IR:=
 .seq (r_ [c_ 16 .lss 15 5] []) (.seq (.cond (.t 16) (.skip) (.exit 0)) (.seq (.block 1 (.seq (r_ [m_ 17 15,m_ 4 17] [16,17]) (.seq (r_ [m_ 18 4,o_ 19 (.bin 0 .mul (Z_ 8) (.t 18)),o_ 20 (.bin 0 .sub (Z_ 32) (.t 19)),o_ 21 (.cvt 0 .u64 (.t 20)),m_ 5 21] [18,19,20,21]) (.seq (R_ [m_ 22 0,n_ 23 22,f_ 24 23 0,f_ 25 24 35,l_ 26 25,m_ 27 5,b_ 28 .shr 26 27,m_ 29 5,b_ 30 .shl 28 29,m_ 31 0,n_ 32 31,f_ 33 32 0,f_ 34 33 34,l_ 35 34,b_ 36 .geq 30 35] [5,22,23,24,25,26,27,28,29,30,31,32,33,34,35]) (.cond (.t 36) (.seq (.seq (r_ [m_ 37 4,z_ 38 0] [4,15,36]) (.block 2 (.loop b117_2))) (r117_3)) (.skip)))))) (r117_4)))
def r117_5:IR:=
 .seq (r_ [m_ 57 3,m_ 2 57] [0,3,15,57]) (.ret)
def ir117:IR:=
 .seq (r_ [o_ 2 (.mov (.k nilSV))] [2]) (.seq (.seq (r_ [m_ 7 0,o_ 8 (.call (some 4) 10 169 [.t 7])] [7]) (.cond (.t 8) (.seq (r_ [o_ 2 (.mov (.k nilSV))] [0,8]) (.ret)) (.skip))) (.seq (r_ [o_ 9 (.bslice 14 []),m_ 10 0,n_ 11 10,f_ 12 11 36,l_ 13 12,o_ 14 (.app 15 1 1 (.t 9) (.t 13)),m_ 3 14] [2,8,9,10,11,12,13,14]) (.seq (.seq (r_ [z_ 15 0] []) (.block 0 (.loop b117_1))) (r117_5))))
def kp117_2:List Nat:=[0,3,37,38]
def kl117_2:List Nat:=[16,17]
attribute [push_cast] kp117_2 kl117_2
def kp117_1:List Nat:=[0,3,15]
def kl117_1:List Nat:=[16,17]
attribute [push_cast] kp117_1 kl117_1
set_option maxRecDepth 4000 in
theorem comp117:(Tryz.f117.body.bind fun c=>compC tab isP chkAll ir117 c)=some ir117:=by kernel_rfl
structure MdA where
 L:Xf.Loc
 kind:Int
 st:List Int
def mdM (a:MdA):Mem:=[some (.ro,a.L,.ints .i64 a.st)]
def invMd:List SV->Look->Option (MdA×List Nat)
 | .agg [.int .i64 kind,.sl c _ 1 0 _]::_,look=>match rowI (look c)with
  | some (L,.i64,st)=>some (⟨L,kind,st⟩,[c])
  | _=>none
 | _,_=>none
attribute [push_cast] invMd
def mdOk (kind:Int) (st:List Int):Prop:=stsOk kind st/\st.length<=8192
def fs174:FS where
 A:=MdA
 args:=fun a=>[.agg [.int .i64 a.kind,.sl 0 a.L 1 0 a.st.length]]
 mem:=mdM
 pre:=fun a=>a.st.length<=1000000
 res:=fun a x=>.agg [.int .i64 a.kind,.sl 1 (x 0) 1 0 a.st.length]
 new:=fun a x=>[(x 0,.ints .i64 a.st)]
theorem ok174:FSOk Tryz.prog 174 fs174:=by
 refine hd_ (fk_ Tryz.func174) fun a hp=>?_
 obtain⟨L,kind,st⟩:=a
 have hp:st.length<=1000000:=hp
 change Tri Tryz.prog 174 [.agg [.int .i64 kind,.sl 0 L 1 0 st.length]] [some (.ro,L,.ints .i64 st)] (postF fs174 ⟨L,kind,st⟩)
 refine tri_evS (hyp (l:=[]) (lp:=[]) trivial trivial) Tryz.func174 comp174 (rs:=[.cell 2 (some 2)]) (by rfl) Tryz.ntmps174 14 ?_
 simp -implicitDefEqProofs only[push_cast,zz,seval,ir174]
 intro X X1
 repeat refine om_ ?_
 refine postF.mk' (fun _=>X1 5 13) [some 0,some 13] ?_
 simp -implicitDefEqProofs only[push_cast,zz,seval,fs174,mdM]
def ent174:Entry:=spOf fs174 invMd
theorem e174:EntryOk Tryz.prog 174 ent174:=entry_of ok174 invMd
@[push_cast] theorem ent174_a u l x k:ent174 u l x k=spOf fs174 invMd u l x k:=rfl
def fs160:FS where
 A:=MdA
 args:=fun a=>[.agg [.int .i64 a.kind,.sl 0 a.L 1 0 a.st.length]]
 mem:=mdM
 pre:=fun a=>mdOk a.kind a.st
 res:=fun a _=>.bool true
theorem ok160:FSOk Tryz.prog 160 fs160:=by
 refine hd_ (fk_ Tryz.func160) fun a hp=>?_
 obtain⟨L,kind,st⟩:=a
 obtain⟨⟨h1,h2⟩,h3⟩:((kind=0∨kind=1)/\∀ s∈st,sttOk kind s)/\st.length<=8192:=hp
 change Tri Tryz.prog 160 [.agg [.int .i64 kind,.sl 0 L 1 0 st.length]] [some (.ro,L,.ints .i64 st)] (postF fs160 ⟨L,kind,st⟩)
 refine tri_evS (hyp (l:=[]) (lp:=[]) trivial trivial) Tryz.func160 comp160 (rs:=[.tmp 2]) (by rfl) Tryz.ntmps160 11 ?_
 have c1:¬ (¬ kind=0/\¬ kind=1):=by omega
 have c2:¬ (8192:Int)<st.length:=by omega
 obtain⟨e,he⟩:∃ e:Int,e=if kind=1 then 65536 else 64:=⟨_,rfl⟩
 have hall:∀ i:Nat,i<st.length->0<=rd st i/\rd st i<e:=fun i hi=>by
  rw[rd_lt st i hi]
  obtain⟨a,b,c⟩:=h2 _ (List.getElem_mem hi)
  rw[he]
  split
  ·exact⟨a,b (by assumption)⟩
  ·exact⟨a,c (by assumption)⟩
 have loop:∀ (X:Xf.Loc),evS (spList []) (spPList []) (retK [RV.tmp 2] (postF fs160 ⟨L,kind,st⟩)) [Xf.Item.code (IR.loop b160_1),Xf.Item.blk 0,Xf.Item.code r160_2] (upS (List.replicate 38 none) [(3,.int .i64 e),(24,.sl 0 L 1 0 st.length),(25,.int .i64 st.length),(26,.int .i64 0)])
   [some (.ro,L,.ints .i64 st),none,none,none,none,none,none,none,none,none,some (.mine,X,.cells [.int .i64 kind,.sl 0 L 1 0 st.length]),none]:=fun X=>by
  refine evS_loopU (A:=Nat) kp160_1 kl160_1 (fun i=>[(26,.int .i64 i)]) (fun i=>[]) (fun i=>i<=st.length) (fun i=>st.length-i) 0 (Nat.zero_le _) (Sub.pt ?_) ?_
  ·simp -implicitDefEqProofs only[push_cast,zz,seval]
  intro i hi K hK
  have hi:i<=st.length:=hi
  by_cases hi':i<st.length
  ·obtain⟨a1,a2⟩:=hall i hi'
   have hii:(i:Int)<st.length:=by omega
   obtain⟨s,hs⟩:∃ s,rd st i=s:=⟨_,rfl⟩
   rw[hs]at a1 a2
   have a3:¬ s<0:=by omega
   have a4:¬ e<=s:=by omega
   simp -implicitDefEqProofs only[push_cast,zz,seval,b160_1,hs,hii,a3,a4]
   repeat refine om_ ?_
   refine hK (i+1) (show i+1<=st.length by omega) (show st.length-(i+1)<st.length-i by omega) _ _ (Sub.pt ?_)
   simp -implicitDefEqProofs only[push_cast,zz,seval]
  ·obtain rfl:i=st.length:=by omega
   clear hK
   simp -implicitDefEqProofs only[push_cast,zz,seval,b160_1,r160_2,Int.lt_irrefl]
   refine postF.mk' (fun _=>default) [some 0] ?_
   simp -implicitDefEqProofs only[push_cast,zz,seval,fs160,mdM]
 rcases h1 with rfl | rfl
 ·rw[if_neg (by decide)]at he
  subst he
  simp -implicitDefEqProofs only[push_cast,zz,seval,ir160,c1,c2]
  intro X
  first | exact⟨fun h=>absurd h (by decide),fun _=>loop _⟩ | exact loop _
 ·rw[if_pos rfl]at he
  subst he
  simp -implicitDefEqProofs only[push_cast,zz,seval,ir160,c1,c2]
  intro X
  exact loop _
def ent160:Entry:=spOf fs160 invMd
theorem e160:EntryOk Tryz.prog 160 ent160:=entry_of ok160 invMd
@[push_cast] theorem ent160_a u l x k:ent160 u l x k=spOf fs160 invMd u l x k:=rfl
def fs161:FS where
 A:=MdA
 args:=fun a=>[.agg [.int .i64 a.kind,.sl 0 a.L 1 0 a.st.length]]
 mem:=mdM
 pre:=fun a=>a.st.length<=1000000
 res:=fun a x=>.agg (ivV a.kind (x 0) a.st.length 0 4294967295 [])
 new:=fun a x=>[(x 0,.ints .i64 a.st)]
set_option maxRecDepth 8000 in
theorem ok161:FSOk Tryz.prog 161 fs161:=by
 refine hd_ (fk_ Tryz.func161) fun a hp=>?_
 obtain⟨L,kind,st⟩:=a
 have hp:st.length<=1000000:=hp
 change Tri Tryz.prog 161 [.agg [.int .i64 kind,.sl 0 L 1 0 st.length]] [some (.ro,L,.ints .i64 st)] (postF fs161 ⟨L,kind,st⟩)
 refine tri_evS (hyp (l:=[(174,ent174)]) (lp:=[(202,chancesF)]) ⟨e174,trivial⟩ ⟨p202,trivial⟩) Tryz.func161 comp161 (rs:=[.cell 2 (some 36)]) (by rfl) Tryz.ntmps161 16 ?_
 simp -implicitDefEqProofs only[push_cast,zz,seval,ir161,fs174,mdM,qsV]
 intro X X1
 repeat refine om_ ?_
 refine postF.mk' (fun _=>X1 1 12) [some 0,some 12] ?_
 simp -implicitDefEqProofs only[push_cast,zz,seval,fs161,mdM,ivV,qsV]
def ent161:Entry:=spOf fs161 invMd
theorem e161:EntryOk Tryz.prog 161 ent161:=entry_of ok161 invMd
@[push_cast] theorem ent161_a u l x k:ent161 u l x k=spOf fs161 invMd u l x k:=rfl
def newEn (kind:Int) (st:List Int):EnS:=⟨kind,st,0,4294967295,[]⟩
def fs112:FS where
 A:=MdA
 args:=fun a=>[.agg [.int .i64 a.kind,.sl 0 a.L 1 0 a.st.length]]
 mem:=mdM
 pre:=fun a=>mdOk a.kind a.st
 res:=fun a x=>.tup [.ptr 2 (x 1) 0 0 0,.int .i64 0]
 new:=fun a x=>[(x 0,.ints .i64 a.st),(x 1,.cells (enV (x 0) (newEn a.kind a.st) 4096 nilLoc))]
set_option maxRecDepth 8000 in
theorem ok112:FSOk Tryz.prog 112 fs112:=by
 refine hd_ (fk_ Tryz.func112) fun a hp=>?_
 obtain⟨L,kind,st⟩:=a
 have hp':mdOk kind st:=hp
 have hl:st.length<=1000000:=by have:=hp'.2;omega
 change Tri Tryz.prog 112 [.agg [.int .i64 kind,.sl 0 L 1 0 st.length]] [some (.ro,L,.ints .i64 st)] (postF fs112 ⟨L,kind,st⟩)
 refine tri_evS (hyp (l:=[(160,ent160),(161,ent161)]) (lp:=[]) ⟨e160,e161,trivial⟩ trivial) Tryz.func112 comp112 (rs:=[.tmp 2,.tmp 3]) (by rfl) Tryz.ntmps112 20 ?_
 simp -implicitDefEqProofs only[push_cast,zz,seval,ir112,fs160,fs161,mdM,ivV,qsV,hp',hl]
 intro X
 repeat refine om_ ?_
 intro X1
 repeat refine om_ ?_
 refine postF.mk' (fun j=>if j=0 then X1 1 15 else X1 3 19) [some 0,some 15,some 19] ?_
 simp -implicitDefEqProofs only[push_cast,zz,seval,fs112,mdM,enV,ivV,qsV,newEn]
def ent112:Entry:=spOf fs112 invMd
theorem e112:EntryOk Tryz.prog 112 ent112:=entry_of ok112 invMd
@[push_cast] theorem ent112_a u l x k:ent112 u l x k=spOf fs112 invMd u l x k:=rfl
def fs116:FS where
 A:=EnA
 args:=fun a=>[.ptr 0 a.L 0 0 0]
 mem:=enM
 pre:=fun a=>a.e.st.length<=1000000
 res:=fun a x=>.agg [.int .i64 a.e.kind,.sl 3 (x 0) 1 0 a.e.st.length]
 new:=fun a x=>[(x 0,.ints .i64 a.e.st)]
theorem ok116:FSOk Tryz.prog 116 fs116:=by
 refine hd_ (fk_ Tryz.func116) fun a hp=>?_
 obtain⟨L,LS,LO,⟨kind,st,low,high,out⟩,ctx,bit⟩:=a
 have hl:st.length<=1000000:=hp
 change Tri Tryz.prog 116 [.ptr 0 L 0 0 0] (enM ⟨L,LS,LO,⟨kind,st,low,high,out⟩,ctx,bit⟩) (postF fs116 ⟨L,LS,LO,⟨kind,st,low,high,out⟩,ctx,bit⟩)
 refine tri_evS (hyp (l:=[(169,ent169),(174,ent174)]) (lp:=[]) ⟨e169,e174,trivial⟩ trivial) Tryz.func116 comp116 (rs:=[.cell 2 (some 2)]) (by rfl) Tryz.ntmps116 19 ?_
 simp -implicitDefEqProofs only[push_cast,zz,seval,ir116,enM,enV,ivV,fs169,fs174,mdM,hl]
 intro X
 repeat refine om_ ?_
 intro X1
 repeat refine om_ ?_
 refine postF.mk' (fun j=>X1 5 15) [some 0,some 1,some 2,some 15] ?_
 simp -implicitDefEqProofs only[push_cast,zz,seval,fs116,enM,enV,ivV]
def ent116:Entry:=spOf fs116 invEn
theorem e116:EntryOk Tryz.prog 116 ent116:=entry_of ok116 invEn
@[push_cast] theorem ent116_a u l x k:ent116 u l x k=spOf fs116 invEn u l x k:=rfl
def cutP (g:Int) (n:Nat):Int:=g / 2^(32-8*(n:Int)).toNat*2^(32-8*(n:Int)).toNat
theorem pow_pos' (k:Nat):(0:Int)<2^k:=Int.pow_pos (by decide)
theorem cutP_bd {g:Int} (h:0<=g) (n:Nat):0<=cutP g n/\cutP g n<=g:=by
 have hp:=pow_pos' (32-8*(n:Int)).toNat
 exact⟨Int.mul_nonneg (Int.ediv_nonneg h (Int.le_of_lt hp)) (Int.le_of_lt hp),Int.ediv_mul_le g (Int.ne_of_gt hp)⟩
def bytP (g:Int) (i:Nat):Int:=IntKind.u8.wrap (g / 2^(24-8*(i:Int)).toNat)
def endN (l g:Int):Nat:=if l<=cutP g 0 then 0 else if l<=cutP g 1 then 1 else if l<=cutP g 2 then 2 else if l<=cutP g 3 then 3 else 4
theorem endN_eq {l g:Int} {n:Nat} (hn:n<=4) (h:∀ m,m<n->¬ l<=cutP g m) (hc:n<4->l<=cutP g n):endN l g=n:=by
 have hn5:n=0∨n=1∨n=2∨n=3∨n=4:=by omega
 unfold endN
 rcases hn5 with rfl | rfl | rfl | rfl | rfl
 ·rw[if_pos (hc (by decide))]
 ·rw[if_neg (h 0 (by decide)),if_pos (hc (by decide))]
 ·rw[if_neg (h 0 (by decide)),if_neg (h 1 (by decide)),if_pos (hc (by decide))]
 ·rw[if_neg (h 0 (by decide)),if_neg (h 1 (by decide)),if_neg (h 2 (by decide)),if_pos (hc (by decide))]
 ·rw[if_neg (h 0 (by decide)),if_neg (h 1 (by decide)),if_neg (h 2 (by decide)),if_neg (h 3 (by decide))]
theorem cutP_4 (g:Int):cutP g 4=g:=by
 have e:(32-8*((4:Nat):Int)).toNat=0:=rfl
 unfold cutP
 rw[e]
 omega
def endP (l g:Int):List Int:=(List.range (endN l g)).map (bytP g)
def encEnd (e:EnS):List Int:=e.out++endP e.low e.high
def fs117:FS where
 A:=EnA
 args:=fun a=>[.ptr 0 a.L 0 0 0]
 mem:=enM
 pre:=fun a=>a.e.ok/\a.e.out.length<=200000000
 res:=fun a x=>.sl 3 (x 0) 1 0 (encEnd a.e).length
 new:=fun a x=>[(x 0,.ints .u8 (encEnd a.e))]
set_option maxHeartbeats 1000000 in
theorem ok117:FSOk Tryz.prog 117 fs117:=by
 refine hd_ (fk_ Tryz.func117) fun a hp=>?_
 obtain⟨L,LS,LO,⟨kind,st,low,high,out⟩,ctx,bit⟩:=a
 obtain⟨⟨h1,h2,h3,h4,h5,h6⟩,h7⟩:ivOk2 kind st low high/\out.length<=200000000:=hp
 change Tri Tryz.prog 117 [.ptr 0 L 0 0 0] (enM ⟨L,LS,LO,⟨kind,st,low,high,out⟩,ctx,bit⟩) (postF fs117 ⟨L,LS,LO,⟨kind,st,low,high,out⟩,ctx,bit⟩)
 refine tri_evS (hyp (l:=[(169,ent169)]) (lp:=[]) ⟨e169,trivial⟩ trivial) Tryz.func117 comp117 (rs:=[.tmp 2]) (by rfl) Tryz.ntmps117 18 ?_
 simp -implicitDefEqProofs only[push_cast,zz,seval,ir117,enM,enV,ivV,fs169]
 intro X
 repeat refine om_ ?_
 have hb64:=bits64
 obtain⟨M,hM⟩:∃ M,X 5 15=M:=⟨_,rfl⟩
 rw[hM]
 refine evS_loopU (A:=Nat) kp117_1 kl117_1 (fun n=>[(15,.int .i64 n)]) (fun n=>[]) (fun n=>n<=4/\∀ m,m<n->¬ low<=cutP high m) (fun n=>5-n) 0 ⟨by omega,fun m hm=>by omega⟩ (Sub.pt ?_) ?_
 ·simp -implicitDefEqProofs only[push_cast,zz,seval]
 intro n ⟨(hn:n<=4),(hm:∀ m,m<n->¬ low<=cutP high m)⟩ K hK
 have hn5:(n:Int)<5:=by omega
 have hc:=cutP_bd (g:=high) (by omega) n
 have hq0:0<=high / 2^(32-8*(n:Int)).toNat:=Int.ediv_nonneg (by omega) (Int.le_of_lt (pow_pos' _))
 have hq1:high / 2^(32-8*(n:Int)).toNat*2^(32-8*(n:Int)).toNat=cutP high n:=rfl
 by_cases hlow:low<=cutP high n
 ·clear hK
  have he:endN low high=n:=endN_eq hn hm fun _=>hlow
  simp -implicitDefEqProofs only[push_cast,zz,seval,b117_1,hn5,hq1,hlow]
  repeat refine om_ ?_
  have hlen:∀ i:Nat,(((out++(List.range i).map (bytP high)).length:Nat):Int)=out.length+i:=fun i=>by rw[List.length_append,List.length_map,List.length_range];omega
  refine evS_loopU (A:=Nat×Xf.Loc) kp117_2 kl117_2 (fun y=>[(3,.sl 15 y.2 1 0 (out.length+y.1)),(38,.int .i64 y.1)]) (fun y=>[(15,.mine,y.2,.ints .u8 (out++(List.range y.1).map (bytP high)))])
   (fun y=>y.1<=n) (fun y=>n-y.1) (0,M) (Nat.zero_le _) (Sub.pt ?_) ?_
  ·simp -implicitDefEqProofs only[push_cast,zz,seval,List.range_zero]
  intro ⟨i,N⟩ hi K hK
  have hi:i<=n:=hi
  by_cases hi':i<n
  ·have hii:(i:Int)<n:=by omega
   have hb:IntKind.u8.wrap (high / 2^(24-8*(i:Int)).toNat)=bytP high i:=rfl
   have ha:(out++(List.range i).map (bytP high))++[bytP high i]=out++(List.range (i+1)).map (bytP high):=by rw[List.range_succ,List.map_append,List.append_assoc];rfl
   have hl:=hlen i
   obtain⟨o,ho⟩:∃ o,out++(List.range i).map (bytP high)=o:=⟨_,rfl⟩
   rw[ho]at ha hl
   have hl2:(out.length:Int)+i=o.length:=hl.symm
   simp -implicitDefEqProofs only[push_cast,zz,seval,b117_2,hii,hb,ho,hl2]
   intro X2
   repeat refine om_ ?_
   refine hK (i+1,X2 12 17) (show i+1<=n by omega) (show n-(i+1)<n-i by omega) _ _ (Sub.of (mkG 24 [(0,0),(1,1),(2,2),(15,17)]) ?_)
   have hl3:(out.length:Int)+((i:Int)+1)=o.length+1:=by omega
   simp -implicitDefEqProofs only[push_cast,zz,seval,ha,hl3]
  ·obtain rfl:i=n:=by omega
   clear hK
   have hf:out++(List.range i).map (bytP high)=encEnd ⟨kind,st,low,high,out⟩:=by unfold encEnd endP;rw[he]
   have hl:=hlen i
   rw[hf]at hl
   simp -implicitDefEqProofs only[push_cast,zz,seval,b117_2,r117_3,Int.lt_irrefl,hf]
   refine postF.mk' (fun _=>N) [some 0,some 1,some 2,some 15] ?_
   simp -implicitDefEqProofs only[push_cast,zz,seval,fs117,enM,enV,ivV,hl]
 ·have hn4:n<4:=by
   rcases Nat.lt_or_ge n 4 with h | h
   ·exact h
   ·have:n=4:=by omega
    subst this
    rw[cutP_4]at hlow
    omega
  simp -implicitDefEqProofs only[push_cast,zz,seval,b117_1,hn5,hq1,hlow,r117_4]
  repeat refine om_ ?_
  refine hK (n+1) ⟨by omega,fun m hm'=>?_⟩ (show 5-(n+1)<5-n by omega) _ _ (Sub.pt ?_)
  ·by_cases e:m=n
   ·rw[e];exact hlow
   ·exact hm m (by omega)
  ·simp -implicitDefEqProofs only[push_cast,zz,seval]
def ent117:Entry:=spOf fs117 invEn
theorem e117:EntryOk Tryz.prog 117 ent117:=entry_of ok117 invEn
@[push_cast] theorem ent117_a u l x k:ent117 u l x k=spOf fs117 invEn u l x k:=rfl
def ir217:IR:=
 .seq (r_ [o_ 2 (.mov (.k (.int .u8 0)))] []) (.seq (.seq (R_ [m_ 3 0,n_ 4 3,f_ 5 4 37,l_ 6 5,m_ 7 0,n_ 8 7,f_ 9 8 36,l_ 10 9,h_ 11 10,b_ 12 .lss 6 11] [3,4,5,6,7,8,9,10,11]) (.cond (.t 12) (R_ [m_ 13 0,n_ 14 13,f_ 15 14 36,l_ 16 15,m_ 17 0,n_ 18 17,f_ 19 18 37,l_ 20 19,i_ 21 16 20 1,L_ 22 21,m_ 2 22] [12,13,14,15,16,17,18,19,20,21,22]) (r_ [m_ 23 0,n_ 24 23,f_ 25 24 39,l_ 26 25,a_ 27 26 1,n_ 28 23,f_ 29 28 39,s_ 1 .i64 29 27] [12,23,24,25,26,27,28,29]))) (.seq (r_ [m_ 30 0,n_ 31 30,f_ 32 31 37,l_ 33 32,a_ 34 33 1,n_ 35 30,f_ 36 35 37,s_ 1 .i64 36 34] [30,31,32,33,34,35,36]) (r_ [m_ 37 0,m_ 38 0,n_ 39 38,f_ 40 39 38,l_ 41 40,o_ 42 (.bin 0 .shl (.t 41) (.k (.int .u64 8))),o_ 43 (.bin 0 .and (.t 42) (.k (.int .u64 4294967295))),m_ 44 2,o_ 45 (.cvt 0 .u64 (.t 44)),b_ 46 .or 43 45,n_ 47 37,f_ 48 47 38,s_ 1 .i64 48 46] [0,2,37,38,39,40,41,42,43,44,45,46,47,48])))
set_option maxRecDepth 4000 in
theorem comp217:(Tryz.f217.body.bind fun c=>compC tab isP chkAll ir217 c)=some ir217:=by kernel_rfl
def ir218:IR:=
 .seq (r_ [o_ 2 (.mov (.k (.bool false)))] [2]) (.seq (r_ [m_ 3 0,o_ 4 (.binN .eql (.t 3) (.k nilP)),m_ 5 4,q_ 5 (m_ 6 0),q_ 5 (n_ 7 6),q_ 5 (f_ 8 7 41),q_ 5 (l_ 9 8),q_ 5 (o_ 10 (.not (.t 9))),k_ 11 5 10,m_ 2 11] [0,3,4,5,6,7,8,9,10,11]) (.ret))
set_option maxRecDepth 4000 in
theorem comp218:(Tryz.f218.body.bind fun c=>compC tab isP chkAll ir218 c)=some ir218:=by kernel_rfl
def ir191:IR:=
 .seq (r_ [o_ 2 (.alloc 10 [y_,nilSV])] []) (.seq (.seq (r_ [m_ 3 0,o_ 4 (.call (some 4) 11 218 [.t 3])] [3]) (.cond (.t 4) (.seq (r_ [o_ 5 (.build [y_,nilSV] []),s_ 2 .i64 2 5] [0,4,5]) (.ret)) (.skip))) (.seq (r_ [m_ 6 0,n_ 7 6,f_ 8 7 0,f_ 9 8 0,o_ 10 (.ld false (some 2) 0 0 (.t 9)),o_ 11 (.call (some 4) 15 174 [.t 10]),s_ 2 .i64 2 11] [0,4,6,7,8,9,10,11]) (.ret)))
set_option maxRecDepth 4000 in
theorem comp191:(Tryz.f191.body.bind fun c=>compC tab isP chkAll ir191 c)=some ir191:=by kernel_rfl
theorem setL_at (v:SV):∀ (p:List SV) (a:SV) (z:List SV),setL (p++a::z) p.length v=p++v::z
 | [],a,z=>rfl
 | b::p,a,z=>by simp only[List.cons_append,List.length_cons,setL];rw[setL_at v p a z]
theorem setsL_at:∀ (vs p z:List SV),z.length=vs.length->setsL (p++z) p.length vs=p++vs
 | [],p,[],_=>by simp[setsL]
 | [],p,_::_,h=>by simp at h
 | v::vs,p,[],h=>by simp at h
 | v::vs,p,a::z,h=>by
  rw[setsL,setL_at]
  have:=setsL_at vs (p++[v]) z (by simpa using h)
  simpa using this
theorem takeL_app:∀ (q r:List SV) (n:Nat),takeL (q++r) (q.length+n)=match takeL r n with | none=>none | some l=>some (q++l)
 | [],r,n=>by
  simp only[List.nil_append,List.length_nil,Nat.zero_add]
  cases takeL r n<;>rfl
 | a::q,r,n=>by
  rw[List.cons_append,List.length_cons,Nat.add_right_comm,takeL,takeL_app q r n]
  cases takeL r n<;>rfl
@[push_cast] theorem tq40 (r:List SV):takeL (qsV++r) 40=match takeL r 8 with | none=>none | some l=>some (qsV++l):=takeL_app qsV r 8
@[push_cast] theorem allq (r:List SV):(qsV++r).all size1=r.all size1:=by rw[List.all_append];rfl
@[push_cast] theorem lenq (r:List SV):(qsV++r).length=r.length+32:=by rw[List.length_append,qsV_len];omega
theorem or_byte {x b:Int} (h0:0<=x) (h1:x<18446744073709551616) (h2:x % 256=0) (b0:0<=b) (b1:b<256):bitop .or .u64 x b=x+b:=by
 obtain⟨k,rfl⟩:∃ k:Nat,x=k:=⟨x.toNat,by omega⟩
 obtain⟨c,rfl⟩:∃ k:Nat,b=k:=⟨b.toNat,by omega⟩
 have e:((BitVec.ofInt 64 (k:Int)) ||| (BitVec.ofInt 64 (c:Int))).toNat=k+c:=by
  rw[BitVec.toNat_or,BitVec.toNat_ofInt,BitVec.toNat_ofInt]
  rw[show(((c:Int) % ((2^64:Nat):Int)).toNat)=c by omega]
  rw[show(((k:Int) % ((2^64:Nat):Int)).toNat)=2^8*(k / 256) by omega]
  rw[<-Nat.two_pow_add_eq_or_of_lt (by omega)]
  omega
 show IntKind.u64.wrap _=_
 have e':(BitVec.toNat ((BitVec.ofInt IntKind.u64.bits (k:Int)) ||| (BitVec.ofInt IntKind.u64.bits (c:Int))))=k+c:=e
 simp only[e']
 rw[wrap64 _ (by omega)]
 omega
structure DeS where
 kind:Int
 st:List Int
 low:Int
 high:Int
 code:List Int
 at_:Int
 value:Int
 beyond:Int
 ended:Bool
def bytA (code:List Int) (i:Int):Int:=if i<code.length then rd code i else 0
def byAll (code:List Int):Prop:=∀ b∈code,0<=b/\b<256
theorem bytA_bd {code:List Int} (h:byAll code) {i:Int} (h0:0<=i):0<=bytA code i/\bytA code i<256:=by
 unfold bytA
 split
 ·obtain⟨k,rfl⟩:∃ k:Nat,i=k:=⟨i.toNat,by omega⟩
  rw[rd_lt code k (by omega)]
  exact h _ (List.getElem_mem _)
 ·omega
def beyP (code:List Int) (i:Int):Int:=max 0 (i-code.length)
def deT (d:DeS):List SV:=[.int .i64 d.at_,.int .u64 d.value,.int .i64 d.beyond,.bool d.ended,.bool true]
def deV (LS:Xf.Loc) (d:DeS) (LC:Xf.Loc):List SV:=ivV d.kind LS d.st.length d.low d.high (.sl 2 LC 1 0 d.code.length::deT d)
def inOk (code:List Int) (i v b:Int):Prop:=code.length<=140737488355328/\byAll code/\0<=i/\i<=300000000000000/\0<=v/\v<4294967296/\b=beyP code i
def shiftV (code:List Int) (i v:Int):Int:=v % 16777216*256+bytA code i
structure DeA where
 L:Xf.Loc
 LS:Xf.Loc
 LC:Xf.Loc
 d:DeS
 ctx:Int
def invDe:List SV->Look->Option (DeA×List Nat)
 | .ptr c _ 0 0 0::us,look=>match rowC (look c)with
  | some (L,.int .i64 kind::.sl d LS 1 0 _::r)=>match dropL r 32,rowI (look d)with
   | [.int .u64 low,.int .u64 high,.sl e _ 1 0 _,.int .i64 i,.int .u64 v,.int .i64 b,.bool en,.bool true],some (_,.i64,st)=>match rowO look e with
    | some (LC,code)=>match us with
     | []=>some (⟨L,LS,LC,⟨kind,st,low,high,code,i,v,b,en⟩,0⟩,[c,d,e])
     | [.int .i64 ctx]=>some (⟨L,LS,LC,⟨kind,st,low,high,code,i,v,b,en⟩,ctx⟩,[c,d,e])
     | _=>none
    | none=>none
   | _,_=>none
  | _=>none
 | _,_=>none
attribute [push_cast] invDe
def fs217:FS where
 A:=DeA
 args:=fun a=>[.ptr 0 a.L 0 0 0]
 mem:=fun a=>[some (.lent,a.L,.cells (deV a.LS a.d a.LC)),none,some (.ro,a.LC,.ints .u8 a.d.code)]
 pre:=fun a=>inOk a.d.code a.d.at_ a.d.value a.d.beyond
 res:=fun a _=>.tup []
 out:=fun a _=>[some (some (.cells (deV a.LS ⟨a.d.kind,a.d.st,a.d.low,a.d.high,a.d.code,a.d.at_+1,shiftV a.d.code a.d.at_ a.d.value,beyP a.d.code (a.d.at_+1),a.d.ended⟩ a.LC)))]
set_option maxHeartbeats 1000000 in
theorem ok217:FSOk Tryz.prog 217 fs217:=by
 refine hd_ (fk_ Tryz.func217) fun a hp=>?_
 obtain⟨L,LS,LC,⟨kind,st,low,high,code,i,v,b,en⟩,ctx⟩:=a
 obtain⟨h1,h2,h3,h4,h5,h6,h7⟩:inOk code i v b:=hp
 change Tri Tryz.prog 217 [.ptr 0 L 0 0 0] [some (.lent,L,.cells (deV LS ⟨kind,st,low,high,code,i,v,b,en⟩ LC)),none,some (.ro,LC,.ints .u8 code)] (postF fs217 ⟨L,LS,LC,⟨kind,st,low,high,code,i,v,b,en⟩,ctx⟩)
 refine tri_evS (hyp (l:=[]) (lp:=[]) trivial trivial) Tryz.func217 comp217 (rs:=[]) (by rfl) Tryz.ntmps217 10 ?_
 have hb64:=bits64
 have e1:=and_top (x:=v*256) (by omega) (by omega)
 have e4:v*256 % 4294967296=v % 16777216*256:=by omega
 rw[e4]at e1
 have hby:=bytA_bd h2 h3
 have e2:=or_byte (x:=v % 16777216*256) (b:=bytA code i) (by omega) (by omega) (by omega) hby.1 hby.2
 by_cases hi:i<code.length
 ·have eb:rd code i=bytA code i:=by unfold bytA;rw[if_pos hi]
  have ec:b=beyP code (i+1):=by rw[h7];unfold beyP;omega
  obtain⟨y,hy⟩:∃ y,bytA code i=y:=⟨_,rfl⟩
  rw[hy]at hby e2 eb
  simp -implicitDefEqProofs only[push_cast,zz,seval,ir217,deV,deT,ivV,hi,eb,pw8,e1,e2]
  repeat refine om_ ?_
  refine postF.mk' (fun _=>default) [some 0,none,some 2] ?_
  simp -implicitDefEqProofs only[push_cast,zz,seval,fs217,deV,deT,ivV,shiftV,hy,<-ec]
 ·have eb:(0:Int)=bytA code i:=by unfold bytA;rw[if_neg hi]
  have ec:b+1=beyP code (i+1):=by rw[h7];unfold beyP;omega
  rw[<-eb]at hby e2
  have hbb:0<=b/\b<=300000000000000:=by rw[h7];unfold beyP;omega
  simp -implicitDefEqProofs only[push_cast,zz,seval,ir217,deV,deT,ivV,hi,pw8,e1,e2]
  repeat refine om_ ?_
  refine postF.mk' (fun _=>default) [some 0,none,some 2] ?_
  simp -implicitDefEqProofs only[push_cast,zz,seval,fs217,deV,deT,ivV,shiftV,<-eb,<-ec]
def ent217:Entry:=spOf fs217 invDe
theorem e217:EntryOk Tryz.prog 217 ent217:=entry_of ok217 invDe
@[push_cast] theorem ent217_a u l x k:ent217 u l x k=spOf fs217 invDe u l x k:=rfl
def deM (a:DeA):Mem:=[some (.ro,a.L,.cells (deV a.LS a.d a.LC)),some (.ro,a.LS,.ints .i64 a.d.st),some (.ro,a.LC,.ints .u8 a.d.code)]
def fs218:FS where
 A:=DeA
 args:=fun a=>[.ptr 0 a.L 0 0 0]
 mem:=deM
 res:=fun a _=>.bool false
theorem ok218:FSOk Tryz.prog 218 fs218:=by
 refine hd_ (fk_ Tryz.func218) fun a hp=>?_
 obtain⟨L,LS,LC,⟨kind,st,low,high,code,i,v,b,en⟩,ctx⟩:=a
 change Tri Tryz.prog 218 [.ptr 0 L 0 0 0] (deM ⟨L,LS,LC,⟨kind,st,low,high,code,i,v,b,en⟩,ctx⟩) (postF fs218 ⟨L,LS,LC,⟨kind,st,low,high,code,i,v,b,en⟩,ctx⟩)
 refine tri_evS (hyp (l:=[]) (lp:=[]) trivial trivial) Tryz.func218 comp218 (rs:=[.tmp 2]) (by rfl) Tryz.ntmps218 10 ?_
 simp -implicitDefEqProofs only[push_cast,zz,seval,ir218,deM,deV,deT,ivV]
 repeat refine om_ ?_
 refine postF.mk' (fun _=>default) [some 0,some 1,some 2] ?_
 simp -implicitDefEqProofs only[push_cast,zz,seval,fs218,deM,deV,deT,ivV]
def ent218:Entry:=spOf fs218 invDe
theorem e218:EntryOk Tryz.prog 218 ent218:=entry_of ok218 invDe
@[push_cast] theorem ent218_a u l x k:ent218 u l x k=spOf fs218 invDe u l x k:=rfl
def fs191:FS where
 A:=DeA
 args:=fun a=>[.ptr 0 a.L 0 0 0]
 mem:=deM
 pre:=fun a=>a.d.st.length<=1000000
 res:=fun a x=>.agg [.int .i64 a.d.kind,.sl 3 (x 0) 1 0 a.d.st.length]
 new:=fun a x=>[(x 0,.ints .i64 a.d.st)]
theorem ok191:FSOk Tryz.prog 191 fs191:=by
 refine hd_ (fk_ Tryz.func191) fun a hp=>?_
 obtain⟨L,LS,LC,⟨kind,st,low,high,code,i,v,b,en⟩,ctx⟩:=a
 have hl:st.length<=1000000:=hp
 change Tri Tryz.prog 191 [.ptr 0 L 0 0 0] (deM ⟨L,LS,LC,⟨kind,st,low,high,code,i,v,b,en⟩,ctx⟩) (postF fs191 ⟨L,LS,LC,⟨kind,st,low,high,code,i,v,b,en⟩,ctx⟩)
 refine tri_evS (hyp (l:=[(218,ent218),(174,ent174)]) (lp:=[]) ⟨e218,e174,trivial⟩ trivial) Tryz.func191 comp191 (rs:=[.cell 2 (some 2)]) (by rfl) Tryz.ntmps191 19 ?_
 simp -implicitDefEqProofs only[push_cast,zz,seval,ir191,deM,deV,deT,ivV,fs218,fs174,mdM,hl]
 intro X
 repeat refine om_ ?_
 intro X1
 repeat refine om_ ?_
 refine postF.mk' (fun j=>X1 5 15) [some 0,some 1,some 2,some 15] ?_
 simp -implicitDefEqProofs only[push_cast,zz,seval,fs191,deM,deV,deT,ivV]
def ent191:Entry:=spOf fs191 invDe
theorem e191:EntryOk Tryz.prog 191 ent191:=entry_of ok191 invDe
@[push_cast] theorem ent191_a u l x k:ent191 u l x k=spOf fs191 invDe u l x k:=rfl
def b188_1:IR:=
 .seq (r_ [c_ 18 .lss 17 4] []) (.seq (.cond (.t 18) (.skip) (.exit 0)) (.seq (.block 1 (r_ [m_ 19 6,o_ 20 (.call none 22 217 [.t 19])] [18,19,20])) (r_ [a_ 21 17 1,m_ 17 21] [21])))
def r188_2:IR:=
 .seq (r_ [m_ 22 6,m_ 4 22,z_ 5 0] [6,17,22]) (.ret)
def ir188:IR:=
 .seq (r_ [o_ 2 (.box 10 (.t 0)),o_ 4 (.mov (.k nilP)),z_ 5 0] [0,4,5]) (.seq (.seq (r_ [o_ 7 (.ld false (some 2) 0 0 (.t 2)),o_ 8 (.call (some 4) 11 160 [.t 7]),o_ 9 (.not (.t 8))] [7,8]) (.cond (.t 9) (.seq (r_ [o_ 4 (.mov (.k nilP)),z_ 5 10] [1,2,9]) (.ret)) (.skip))) (.seq (r_ [o_ 10 (.ld false (some 2) 0 0 (.t 2)),o_ 11 (.call (some 4) 15 161 [.t 10]),o_ 12 (.bslice 19 []),m_ 13 1,o_ 14 (.app 20 1 1 (.t 12) (.t 13)),o_ 15 (.build [y_,nilSV,y_,y_,y_,y_,y_,y_,y_,y_,y_,y_,y_,y_,y_,y_,y_,y_,y_,y_,y_,y_,y_,y_,y_,y_,y_,y_,y_,y_,y_,y_,y_,y_,.int .u64 0,.int .u64 0,nilSV,y_,.int .u64 0,y_,.bool false,.bool false] [(0,36,.t 11),(36,1,.t 14),(41,1,.k (.bool true))]),o_ 16 (.box 21 (.t 15)),m_ 6 16] [1,2,4,5,9,10,11,12,13,14,15,16]) (.seq (.seq (r_ [z_ 17 0] []) (.block 0 (.loop b188_1))) (r188_2))))
def kp188_1:List Nat:=[6,17]
def kl188_1:List Nat:=[22,23,24,25]
attribute [push_cast] kp188_1 kl188_1
set_option maxRecDepth 4000 in
theorem comp188:(Tryz.f188.body.bind fun c=>compC tab isP chkAll ir188 c)=some ir188:=by kernel_rfl
def b190_1:IR:=
 .seq (.seq (r_ [m_ 62 0,n_ 63 62,f_ 64 63 0,o_ 65 (.call (some 4) 23 172 [.t 64])] [62,63,64]) (.cond (.t 65) (.skip) (.exit 1))) (.block 2 (.seq (r_ [m_ 66 0,n_ 67 66,f_ 68 67 0,o_ 69 (.call none 27 173 [.t 68])] [65,66,67,68,69]) (r_ [m_ 70 0,o_ 71 (.call none 31 217 [.t 70])] [70,71])))
def r190_2:IR:=
 .seq (.seq (r_ [m_ 72 0,n_ 73 72,f_ 74 73 39,l_ 75 74,c_ 76 .gtr 75 4] [72,73,74,75]) (.cond (.t 76) (.seq (r_ [m_ 77 0,o_ 78 (.ld false (some 42) 0 0 (.t 8)),n_ 79 77,s_ 42 .i64 79 78] [6,8,76,77,78,79]) (.seq (r_ [m_ 80 0,n_ 81 80,f_ 82 81 0,f_ 83 82 0,f_ 84 83 1,l_ 85 84,m_ 86 1,m_ 87 9,i_ 88 85 86 1,S_ 1 .i64 88 87] [1,9,80,81,82,83,84,85,86,87,88]) (.seq (r_ [m_ 89 0,n_ 90 89,f_ 91 90 40,O_ (.sto false 1 .i64 (.t 91) (.k (.bool true)))] [0,89,90,91]) (.seq (r_ [z_ 4 0,z_ 5 6] []) (.ret))))) (.skip))) (.seq (r_ [m_ 92 6,m_ 4 92,z_ 5 0] [0,1,6,8,9,76,92]) (.ret))
def ir190:IR:=
 .seq (r_ [z_ 4 0,z_ 5 0] [4,5]) (.seq (.block 0 (.seq (r_ [m_ 11 0,o_ 12 (.call (some 4) 10 218 [.t 11]),m_ 10 12] [11,12]) (.cond (.t 10) (.seq (r_ [z_ 4 0,z_ 5 7] [0,1,10]) (.ret)) (.seq (r_ [m_ 14 1,c_ 15 .lss 14 0,m_ 16 15,q_ 16 (m_ 17 1),q_ 16 (m_ 18 0),q_ 16 (n_ 19 18),q_ 16 (f_ 20 19 0),q_ 16 (f_ 21 20 0),q_ 16 (f_ 22 21 1),q_ 16 (l_ 23 22),q_ 16 (h_ 24 23),q_ 16 (b_ 25 .geq 17 24),k_ 26 16 25,m_ 13 26] [10,14,15,16,17,18,19,20,21,22,23,24,25,26]) (.cond (.t 13) (.seq (r_ [z_ 4 0,z_ 5 2] [0,1,13]) (.ret)) (.seq (r_ [m_ 28 0,n_ 29 28,f_ 30 29 40,l_ 31 30,m_ 27 31] [13,28,29,30,31]) (.cond (.t 27) (.seq (r_ [z_ 4 0,z_ 5 6] [0,1,27]) (.ret)) (.skip)))))))) (.seq (r_ [m_ 32 0,n_ 33 32,f_ 34 33 0,m_ 35 1,o_ 36 (.call (some 4) 14 171 [.t 34,.t 35]),z_ 6 0,m_ 7 36] [4,5,27,32,33,34,35,36]) (.seq (.seq (r_ [m_ 37 0,n_ 38 37,f_ 39 38 38,l_ 40 39,m_ 41 7,b_ 42 .leq 40 41] [37,38,39,40,41]) (.cond (.t 42) (r_ [z_ 6 1] [42]) (.skip))) (.seq (R_ [m_ 43 0,n_ 44 43,⟨some 45,none,⟨[18],[]⟩,.ld false (some 42) 0 0 (.t 44)⟩,m_ 46 0,n_ 47 46,f_ 48 47 0,f_ 49 48 0,f_ 50 49 1,⟨some 51,none,⟨[18],[]⟩,.ld false none 0 0 (.t 50)⟩,m_ 52 1,i_ 53 51 52 1,⟨some 54,none,⟨[18],[]⟩,.ld true none 0 0 (.t 53)⟩,o_ 8 (.alloc 18 [y_,nilSV,y_,y_,y_,y_,y_,y_,y_,y_,y_,y_,y_,y_,y_,y_,y_,y_,y_,y_,y_,y_,y_,y_,y_,y_,y_,y_,y_,y_,y_,y_,y_,y_,.int .u64 0,.int .u64 0,nilSV,y_,.int .u64 0,y_,.bool false,.bool false]),⟨none,none,⟨[],[18]⟩,.sto false 42 .i64 (.t 8) (.t 45)⟩,m_ 9 54] [42,43,44,45,46,47,48,49,50,51,52,53,54]) (.seq (r_ [m_ 55 0,n_ 56 55,f_ 57 56 0,m_ 58 1,m_ 59 6,m_ 60 7,o_ 61 (.call none 19 170 [.t 57,.t 58,.t 59,.t 60])] [7,55,56,57,58,59,60,61]) (.seq (.block 1 (.loop b190_1)) (r190_2)))))))
def kp190_1:List Nat:=[0,1,6,8,9]
def kl190_1:List Nat:=[23,24,25,26,27,28,29,30,31,32,33,34]
attribute [push_cast] kp190_1 kl190_1
set_option maxRecDepth 4000 in
theorem comp190:(Tryz.f190.body.bind fun c=>compC tab isP chkAll ir190 c)=some ir190:=by kernel_rfl
theorem setsL_q2 (a b:SV) (z r:List SV) (h:z.length=r.length+32):setsL (a::b::z) 2 (qsV++r)=a::b::(qsV++r):=by
 have:=setsL_at (qsV++r) [a,b] z (by rw[h,lenq])
 simpa using this
attribute [push_cast] setsL_q2
theorem set_self {xs:List Int} {i:Int} (h0:0<=i) (h1:i<xs.length):xs.set i.toNat (rd xs i)=xs:=by
 obtain⟨k,rfl⟩:∃ k:Nat,i=k:=⟨i.toNat,by omega⟩
 rw[Int.toNat_natCast,rd_lt xs k (by omega),List.set_getElem_self]
def vN (code:List Int):Nat->Int
 | 0=>0
 | k+1=>shiftV code k (vN code k)
theorem shiftV_bd {code:List Int} (h:byAll code) {i v:Int} (h0:0<=i):0<=shiftV code i v/\shiftV code i v<4294967296:=by
 have:=bytA_bd h h0
 unfold shiftV
 omega
theorem vN_bd {code:List Int} (h:byAll code):∀ k,0<=vN code k/\vN code k<4294967296
 | 0=>by simp[vN]
 | k+1=>shiftV_bd h (by omega)
def deK (kind:Int) (st code:List Int) (k:Nat):DeS:=⟨kind,st,0,4294967295,code,k,vN code k,beyP code k,false⟩
def newDe (kind:Int) (st code:List Int):DeS:=⟨kind,st,0,4294967295,code,4,vN code 4,beyP code 4,false⟩
structure NdA where
 L:Xf.Loc
 kind:Int
 st:List Int
 LB:Xf.Loc
 code:List Int
def invNd:List SV->Look->Option (NdA×List Nat)
 | [.agg [.int .i64 kind,.sl c _ 1 0 _],.sl d _ 1 0 _],look=>match rowI (look c),rowO look d with
  | some (L,.i64,st),some (LB,code)=>some (⟨L,kind,st,LB,code⟩,[c,d])
  | _,_=>none
 | _,_=>none
attribute [push_cast] invNd
def fs188:FS where
 A:=NdA
 args:=fun a=>[.agg [.int .i64 a.kind,.sl 0 a.L 1 0 a.st.length],.sl 1 a.LB 1 0 a.code.length]
 mem:=fun a=>[some (.ro,a.L,.ints .i64 a.st),some (.ro,a.LB,.ints .u8 a.code)]
 pre:=fun a=>mdOk a.kind a.st/\a.code.length<=140737488355328/\byAll a.code
 res:=fun a x=>.tup [.ptr 4 (x 2) 0 0 0,.int .i64 0]
 new:=fun a x=>[(x 0,.ints .i64 a.st),(x 1,.ints .u8 a.code),(x 2,.cells (relabs (fun i=>i+1) (deV (x 0) (newDe a.kind a.st a.code) (x 1))))]
set_option maxRecDepth 8000 in
set_option maxHeartbeats 1000000 in
theorem ok188:FSOk Tryz.prog 188 fs188:=by
 refine hd_ (fk_ Tryz.func188) fun a hp=>?_
 obtain⟨L,kind,st,LB,code⟩:=a
 obtain⟨hp',hc,hby⟩:mdOk kind st/\code.length<=140737488355328/\byAll code:=hp
 have hl:st.length<=1000000:=by have:=hp'.2;omega
 change Tri Tryz.prog 188 [.agg [.int .i64 kind,.sl 0 L 1 0 st.length],.sl 1 LB 1 0 code.length] [some (.ro,L,.ints .i64 st),some (.ro,LB,.ints .u8 code)] (postF fs188 ⟨L,kind,st,LB,code⟩)
 refine tri_evS (hyp (l:=[(160,ent160),(161,ent161),(217,ent217)]) (lp:=[]) ⟨e160,e161,e217,trivial⟩ trivial) Tryz.func188 comp188 (rs:=[.tmp 4,.tmp 5]) (by rfl) Tryz.ntmps188 26 ?_
 simp -implicitDefEqProofs only[push_cast,zz,seval,ir188,fs160,fs161,mdM,ivV,qsV,hp',hl]
 intro X
 repeat refine om_ ?_
 intro X1
 repeat refine om_ ?_
 refine evS_loopU (A:=Nat) kp188_1 kl188_1 (fun k=>[(17,.int .i64 k)]) (fun k=>[(21,.mine,X1 6 21,.cells (relabs (fun i=>bif i==1 then 15 else 20) (deV (X1 1 15) (deK kind st code k) (X1 4 20))))])
  (fun k=>k<=4) (fun k=>4-k) 0 (Nat.zero_le _) (Sub.pt ?_) ?_
 ·have e0:beyP code 0=0:=by unfold beyP;omega
  simp -implicitDefEqProofs only[push_cast,zz,seval,deV,deT,deK,ivV,qsV,vN,e0]
 intro k hk K hK
 have hk:k<=4:=hk
 by_cases hk':k<4
 ·have hki:(k:Int)<4:=by omega
  have hin:inOk code k (vN code k) (beyP code k):=⟨hc,hby,by omega,by omega,(vN_bd hby k).1,(vN_bd hby k).2,rfl⟩
  have e1:shiftV code k (vN code k)=vN code (k+1):=rfl
  simp -implicitDefEqProofs only[push_cast,zz,seval,b188_1,deV,deT,deK,ivV,fs217,hki,hin,e1]
  repeat refine om_ ?_
  refine hK (k+1) (show k+1<=4 by omega) (show 4-(k+1)<4-k by omega) _ _ (Sub.pt ?_)
  simp -implicitDefEqProofs only[push_cast,zz,seval,deV,deT,deK,ivV]
 ·have hk2:k=4:=by omega
  have hki:¬ (k:Int)<4:=by omega
  clear hK
  simp -implicitDefEqProofs only[push_cast,zz,seval,b188_1,deV,deT,deK,ivV,hki,r188_2]
  refine postF.mk' (fun j=>if j=0 then X1 1 15 else if j=1 then X1 4 20 else X1 6 21) [some 0,some 1,some 15,some 20,some 21] ?_
  have e1:(k:Int)=4:=by omega
  have e2:vN code k=vN code 4:=by rw[hk2]
  simp -implicitDefEqProofs only[push_cast,zz,seval,fs188,deV,deT,deK,ivV,newDe,e1,e2]
def ent188:Entry:=spOf fs188 invNd
theorem e188:EntryOk Tryz.prog 188 ent188:=entry_of ok188 invNd
@[push_cast] theorem ent188_a u l x k:ent188 u l x k=spOf fs188 invNd u l x k:=rfl
def normD (code:List Int):Nat->Int->Int->Int->Int->Int×Int×Int×Int
 | 0,l,g,i,v=>(l,g,i,v)
 | n+1,l,g,i,v=>if l / 16777216=g / 16777216 then normD code n (l % 16777216*256) (g % 16777216*256+255) (i+1) (shiftV code i v)else (l,g,i,v)
theorem normD_no (code:List Int) (n:Nat) {l g i v:Int} (e:¬ l / 16777216=g / 16777216):normD code n l g i v=(l,g,i,v):=by
 cases n with
 | zero=>rfl
 | succ n=>rw[normD,if_neg e]
theorem normD_norm (code:List Int):∀ (n:Nat) (l g i v:Int),(normD code n l g i v).1=(normP n l g).2.1/\(normD code n l g i v).2.1=(normP n l g).2.2/\(normD code n l g i v).2.2.1=i+(normP n l g).1.length
 | 0,l,g,i,v=>by simp[normD,normP]
 | n+1,l,g,i,v=>by
  rw[normD,normP]
  split
  ·have:=normD_norm code n (l % 16777216*256) (g % 16777216*256+255) (i+1) (shiftV code i v)
   refine⟨this.1,this.2.1,?_⟩
   rw[this.2.2]
   simp only[List.length_cons]
   omega
  ·simp
theorem normD_val {code:List Int} (h:byAll code):∀ (n:Nat) (l g i v:Int),0<=i->0<=v->v<4294967296->0<=(normD code n l g i v).2.2.2/\(normD code n l g i v).2.2.2<4294967296
 | 0,l,g,i,v,_,h0,h1=>⟨h0,h1⟩
 | n+1,l,g,i,v,hi,h0,h1=>by
  rw[normD]
  split
  ·exact normD_val h n _ _ _ _ (by omega) (shiftV_bd h hi).1 (shiftV_bd h hi).2
  ·exact⟨h0,h1⟩
def DeS.ok (d:DeS):Prop:=ivOk2 d.kind d.st d.low d.high/\inOk d.code d.at_ d.value d.beyond/\d.at_<=d.code.length+4
def bitD (d:DeS) (ctx:Int):Int:=if d.value<=midP d.low d.high (chP d.kind (rd d.st ctx))then 1 else 0
def runD (d:DeS) (ctx:Int):Int×Int×Int×Int:=normD d.code 4 (lowP d.kind d.st d.low d.high ctx (bitD d ctx)) (highP d.kind d.st d.low d.high ctx (bitD d ctx)) d.at_ d.value
def gotE (d:DeS) (ctx:Int):Int:=if d.ended then 6 else if 4<beyP d.code (runD d ctx).2.2.1 then 6 else 0
def gotB (d:DeS) (ctx:Int):Int:=if gotE d ctx=0 then bitD d ctx else 0
def gotS (d:DeS) (ctx:Int):DeS:=
 if gotE d ctx=0 then ⟨d.kind,d.st.set ctx.toNat (nxP d.kind (rd d.st ctx) (bitD d ctx)),(runD d ctx).1,(runD d ctx).2.1,d.code,(runD d ctx).2.2.1,(runD d ctx).2.2.2,beyP d.code (runD d ctx).2.2.1,false⟩
 else ⟨d.kind,d.st,d.low,d.high,d.code,d.at_,d.value,d.beyond,true⟩
theorem bitD_01 (d:DeS) (ctx:Int):bitD d ctx=0∨bitD d ctx=1:=by unfold bitD;split<;>simp
theorem gotS_ok {d:DeS} {ctx:Int} (H:d.ok) (h0:0<=ctx) (h1:ctx<d.st.length):(gotS d ctx).ok/\(gotS d ctx).st.length=d.st.length/\(gotS d ctx).kind=d.kind/\(gotS d ctx).code=d.code:=by
 obtain⟨a,b,c⟩:=H
 unfold gotS
 split
 ·rename_i he
  have hnr:=nrm_part (bit:=bitD d ctx) a h0 h1
  have hn:=norm_bd 4 hnr
  obtain⟨n1,n2,n3⟩:=normD_norm d.code 4 (lowP d.kind d.st d.low d.high ctx (bitD d ctx)) (highP d.kind d.st d.low d.high ctx (bitD d ctx)) d.at_ d.value
  obtain⟨a1,a2,a3,a4,a5,a6⟩:=a
  obtain⟨b1,b2,b3,b4,b5,b6,b7⟩:=b
  have hv:=normD_val b2 4 (lowP d.kind d.st d.low d.high ctx (bitD d ctx)) (highP d.kind d.st d.low d.high ctx (bitD d ctx)) d.at_ d.value b3 b5 b6
  have hbey:beyP d.code (runD d ctx).2.2.1<=4:=by
   unfold gotE at he
   split at he
   ·cases he
   ·split at he
    ·cases he
    ·omega
  unfold DeS.ok ivOk2 inOk
  simp only[List.length_set]
  unfold runD at hbey ⊢
  rw[n1,n2]
  have:(normD d.code 4 (lowP d.kind d.st d.low d.high ctx (bitD d ctx)) (highP d.kind d.st d.low d.high ctx (bitD d ctx)) d.at_ d.value).2.2.1-d.code.length<=4:=by unfold beyP at hbey;omega
  refine⟨⟨⟨a1.set (nxP_ok (a1.at h0 h1) (bitD_01 d ctx)),a2,hn.2⟩,⟨b1,b2,by omega,by omega,hv.1,hv.2,trivial⟩,by omega⟩,trivial,trivial,trivial⟩
 ·exact⟨⟨a,b,c⟩,rfl,rfl,rfl⟩
def fs190:FS where
 A:=DeA
 args:=fun a=>[.ptr 0 a.L 0 0 0,.int .i64 a.ctx]
 mem:=fun a=>[some (.lent,a.L,.cells (deV a.LS a.d a.LC)),some (.lent,a.LS,.ints .i64 a.d.st),some (.ro,a.LC,.ints .u8 a.d.code)]
 pre:=fun a=>a.d.ok/\0<=a.ctx/\a.ctx<a.d.st.length
 res:=fun a _=>.tup [.int .i64 (gotB a.d a.ctx),.int .i64 (gotE a.d a.ctx)]
 out:=fun a x=>[some (some (.cells (deV a.LS (gotS a.d a.ctx) a.LC))),some (some (.ints .i64 (gotS a.d a.ctx).st))]
theorem gotS_len (d:DeS) (ctx:Int):(gotS d ctx).st.length=d.st.length/\(gotS d ctx).code=d.code/\(gotS d ctx).kind=d.kind:=by
 unfold gotS;split<;>simp
set_option maxHeartbeats 2000000 in
theorem ok190:FSOk Tryz.prog 190 fs190:=by
 refine hd_ (fk_ Tryz.func190) fun a hp=>?_
 obtain⟨L,LS,LC,⟨kind,st,low,high,code,i,v,b,en⟩,ctx⟩:=a
 obtain⟨⟨hiv,hin,hat⟩,h2,h3⟩:(ivOk2 kind st low high/\inOk code i v b/\i<=code.length+4)/\0<=ctx/\ctx<st.length:=hp
 obtain⟨b1,b2,b3,b4,b5,b6,b7⟩:=id hin
 change Tri Tryz.prog 190 [.ptr 0 L 0 0 0,.int .i64 ctx] [some (.lent,L,.cells (deV LS ⟨kind,st,low,high,code,i,v,b,en⟩ LC)),some (.lent,LS,.ints .i64 st),some (.ro,LC,.ints .u8 code)] (postF fs190 ⟨L,LS,LC,⟨kind,st,low,high,code,i,v,b,en⟩,ctx⟩)
 refine tri_evS (hyp (l:=[(218,ent218),(171,ent171),(170,ent170),(172,ent172),(173,ent173),(217,ent217)]) (lp:=[]) ⟨e218,e171,e170,e172,e173,e217,trivial⟩ trivial) Tryz.func190 comp190 (rs:=[.tmp 4,.tmp 5]) (by rfl) Tryz.ntmps190 35 ?_
 have c1:¬ ctx<0:=by omega
 have c2:¬ (st.length:Int)<=ctx:=by omega
 have hok:(stsOk kind st/\st.length<=1000000/\0<=low/\low<high/\high<4294967296):=⟨hiv.1,hiv.2.1,hiv.2.2.1,hiv.2.2.2.1,hiv.2.2.2.2.1⟩
 cases en with
 | true=>
  have e1:gotE ⟨kind,st,low,high,code,i,v,b,true⟩ ctx=6:=rfl
  have e2:gotB ⟨kind,st,low,high,code,i,v,b,true⟩ ctx=0:=rfl
  have e3:gotS ⟨kind,st,low,high,code,i,v,b,true⟩ ctx=⟨kind,st,low,high,code,i,v,b,true⟩:=rfl
  simp -implicitDefEqProofs only[push_cast,zz,seval,ir190,deV,deT,ivV,fs218,deM,c1,c2]
  refine postF.mk' (fun _=>default) [some 0,some 1,some 2] ?_
  simp -implicitDefEqProofs only[push_cast,zz,seval,fs190,deV,deT,ivV,e1,e2,e3]
 | false=>
  obtain⟨m,hm⟩:∃ m,midP low high (chP kind (rd st ctx))=m:=⟨_,rfl⟩
  obtain⟨bit,hbit⟩:∃ x,bitD ⟨kind,st,low,high,code,i,v,b,false⟩ ctx=x:=⟨_,rfl⟩
  have hb01:bit=0∨bit=1:=by rw[<-hbit];exact bitD_01 _ _
  have hbv:bit=if v<=m then 1 else 0:=by rw[<-hbit,<-hm];rfl
  have hn:=nrm_part (bit:=bit) hiv h2 h3
  obtain⟨r,hr⟩:∃ r,runD ⟨kind,st,low,high,code,i,v,b,false⟩ ctx=r:=⟨_,rfl⟩
  have hr':normD code 4 (lowP kind st low high ctx bit) (highP kind st low high ctx bit) i v=r:=by rw[<-hr,<-hbit];rfl
  have hlo:(if bit=1 then low else m+1)=lowP kind st low high ctx bit:=by rw[<-hm];rfl
  have hhi:(if bit=1 then m else high)=highP kind st low high ctx bit:=by rw[<-hm];rfl
  have hd0:(⟨kind,st,low,high,code,i,v,b,false⟩:DeS).ended=false:=rfl
  have hgE:gotE ⟨kind,st,low,high,code,i,v,b,false⟩ ctx=if 4<beyP code r.2.2.1 then 6 else 0:=by
   unfold gotE
   rw[hd0,if_neg (by decide),hr]
  have main:∀ (l0 g0:Int) (M:Xf.Loc),nrm 4 l0 g0->normD code 4 l0 g0 i v=r->evS (spList [(218,ent218),(171,ent171),(170,ent170),(172,ent172),(173,ent173),(217,ent217)]) (spPList [])
    (retK [RV.tmp 4,RV.tmp 5] (postF fs190 ⟨L,LS,LC,⟨kind,st,low,high,code,i,v,b,false⟩,ctx⟩)) [Xf.Item.code (IR.loop b190_1),Xf.Item.blk 1,Xf.Item.code r190_2]
    (upS (List.replicate 93 none) [(0,.ptr 0 L 0 0 0),(1,.int .i64 ctx),(6,.int .i64 bit),(8,.ptr 18 M 0 0 0),(9,.int .i64 (rd st ctx))])
    ([some (.lent,L,.cells (ivV kind LS st.length l0 g0 (.sl 2 LC 1 0 code.length::[.int .i64 i,.int .u64 v,.int .i64 b,.bool false,.bool true]))),some (.lent,LS,.ints .i64 (st.set ctx.toNat (nxP kind (rd st ctx) bit))),some (.ro,LC,.ints .u8 code),
     none,none,none,none,none,none,none,none,none,none,none,none,none,none,none,some (.mine,M,.cells (ivV kind LS st.length low high (.sl 2 LC 1 0 code.length::[.int .i64 i,.int .u64 v,.int .i64 b,.bool false,.bool true])))]++List.replicate 19 none):=by
   intro l0 g0 M hn hr'
   obtain⟨s0,hs0⟩:∃ s,rd st ctx=s:=⟨_,rfl⟩
   have hsl:(st.set ctx.toNat (nxP kind s0 bit)).length=st.length:=List.length_set
   have hback:(st.set ctx.toNat (nxP kind s0 bit)).set ctx.toNat s0=st:=by
    rw[List.set_set,<-hs0]
    exact set_self h2 h3
   have hS:gotS ⟨kind,st,low,high,code,i,v,b,false⟩ ctx=if gotE ⟨kind,st,low,high,code,i,v,b,false⟩ ctx=0 then ⟨kind,st.set ctx.toNat (nxP kind s0 bit),r.1,r.2.1,code,r.2.2.1,r.2.2.2,beyP code r.2.2.1,false⟩else ⟨kind,st,low,high,code,i,v,b,true⟩:=by
    unfold gotS
    rw[hr,hbit,<-hs0]
   have hB:gotB ⟨kind,st,low,high,code,i,v,b,false⟩ ctx=if gotE ⟨kind,st,low,high,code,i,v,b,false⟩ ctx=0 then bit else 0:=by
    unfold gotB
    rw[hbit]
   rw[hs0]
   obtain⟨S,hSS⟩:∃ S,st.set ctx.toNat (nxP kind s0 bit)=S:=⟨_,rfl⟩
   rw[hSS]at hsl hback hS ⊢
   refine evS_loopU (A:=Nat×Int×Int×Int×Int) kp190_1 kl190_1 (fun y=>[]) (fun y=>[(0,.lent,L,.cells (ivV kind LS st.length y.2.1 y.2.2.1 (.sl 2 LC 1 0 code.length::[.int .i64 y.2.2.2.1,.int .u64 y.2.2.2.2,.int .i64 (beyP code y.2.2.2.1),.bool false,.bool true])))])
    (fun y=>nrm y.1 y.2.1 y.2.2.1/\normD code y.1 y.2.1 y.2.2.1 y.2.2.2.1 y.2.2.2.2=r/\0<=y.2.2.2.1/\y.2.2.2.1+y.1<=code.length+8/\0<=y.2.2.2.2/\y.2.2.2.2<4294967296) (fun y=>y.1) (4,l0,g0,i,v) ⟨hn,hr',b3,by simp only;omega,b5,b6⟩ (Sub.pt ?_) ?_
   ·simp -implicitDefEqProofs only[push_cast,zz,seval,ivV,b7]
   intro ⟨n,l,g,i',v'⟩ ⟨(hn:nrm n l g),(he:normD code n l g i' v'=r),(hi0:0<=i'),(hi1:i'+n<=code.length+8),(hv0:0<=v'),(hv1:v'<4294967296)⟩ K hK
   obtain⟨n0,n1,n2,n3,n4,n5⟩:=id hn
   by_cases e:l / 16777216=g / 16777216
   ·cases n with
    | zero=>exact absurd e (nrm_0 hn)
    | succ n=>
     have hs:=nrm_step hn e
     rw[normD,if_pos e]at he
     have hb:0<=l/\l<4294967296/\0<=g/\g<4294967296:=by omega
     have hin':inOk code i' v' (beyP code i'):=⟨b1,b2,hi0,by omega,hv0,hv1,rfl⟩
     have hsv:=shiftV_bd (v:=v') b2 hi0
     simp -implicitDefEqProofs only[push_cast,zz,seval,b190_1,ivV,deV,deT,fs172,fs173,fs217,e,hb,hsl,hin']
     repeat refine om_ ?_
     refine hK (n,l % 16777216*256,g % 16777216*256+255,i'+1,shiftV code i' v') ⟨hs,he,by simp only;omega,by simp only;omega,hsv⟩ (Nat.lt_succ_self n) _ _ (Sub.pt ?_)
     simp -implicitDefEqProofs only[push_cast,zz,seval,ivV]
   ·rw[normD_no code n e]at he
    subst he
    simp only at hgE hS hB
    clear hK
    by_cases hbe:4<beyP code i'
    ·rw[if_pos hbe]at hgE
     rw[hgE,if_neg (by decide)]at hS hB
     simp -implicitDefEqProofs only[push_cast,zz,seval,b190_1,r190_2,ivV,fs172,e,hsl,hbe,hback]
     repeat refine om_ ?_
     refine postF.mk' (fun _=>default) [some 0,some 1,some 2] ?_
     simp -implicitDefEqProofs only[push_cast,zz,seval,fs190,deV,deT,ivV,hgE,hS,hB]
    ·rw[if_neg hbe]at hgE
     rw[hgE,if_pos rfl]at hS hB
     simp -implicitDefEqProofs only[push_cast,zz,seval,b190_1,r190_2,ivV,fs172,e,hsl,hbe]
     repeat refine om_ ?_
     refine postF.mk' (fun _=>default) [some 0,some 1,some 2] ?_
     simp -implicitDefEqProofs only[push_cast,zz,seval,fs190,deV,deT,ivV,hgE,hS,hB,hsl]
  by_cases hv:v<=m
  ·rw[if_pos hv]at hbv
   subst hbv
   rw[if_pos rfl]at hlo hhi
   simp -implicitDefEqProofs only[push_cast,zz,seval,ir190,deV,deT,ivV,fs218,fs171,fs170,deM,IvA.ok,hok,c1,c2,h2,h3,hm,hv]
   intro X
   rw[<-hlo,<-hhi]at hr' hn
   exact main _ _ _ hn hr'
  ·rw[if_neg hv]at hbv
   subst hbv
   rw[if_neg (by decide)]at hlo hhi
   simp -implicitDefEqProofs only[push_cast,zz,seval,ir190,deV,deT,ivV,fs218,fs171,fs170,deM,IvA.ok,hok,c1,c2,h2,h3,hm,hv]
   intro X
   rw[<-hlo,<-hhi]at hr' hn
   exact main _ _ _ hn hr'
def ent190:Entry:=spOf fs190 invDe
theorem e190:EntryOk Tryz.prog 190 ent190:=entry_of ok190 invDe
@[push_cast] theorem ent190_a u l x k:ent190 u l x k=spOf fs190 invDe u l x k:=rfl
def ir158:IR:=
 .seq (r_ [o_ 4 (.alloc 10 [y_,nilSV]),z_ 5 0] [5]) (.seq (.seq (r_ [m_ 6 0,c_ 7 .neq 6 0,m_ 8 7,p_ 8 (m_ 9 0),p_ 8 (c_ 10 .neq 9 1),K_ 11 8 10,m_ 12 11,q_ 12 (m_ 13 1),q_ 12 (c_ 14 .lss 13 0),k_ 15 12 14,m_ 16 15,q_ 16 (m_ 17 1),q_ 16 (c_ 18 .gtr 17 8192),k_ 19 16 18] [6,7,8,9,10,11,12,13,14,15,16,17,18]) (.cond (.t 19) (.seq (r_ [o_ 20 (.build [y_,nilSV] []),s_ 2 .i64 4 20,z_ 5 2] [0,1,19,20]) (.ret)) (.skip))) (.seq (r_ [m_ 21 0,m_ 22 1,o_ 23 (.mks 11 (.int .i64 0) 8 (.t 22) (.t 22)),o_ 24 (.build [y_,nilSV] [(0,1,.t 21),(1,1,.t 23)]),s_ 2 .i64 4 24,z_ 5 0] [0,1,19,21,22,23,24]) (.ret)))
set_option maxRecDepth 4000 in
theorem comp158:(Tryz.f158.body.bind fun c=>compC tab isP chkAll ir158 c)=some ir158:=by kernel_rfl
def b199_1:IR:=
 .seq (r_ [b_ 9 .lss 8 7] []) (.seq (.cond (.t 9) (.skip) (.exit 0)) (.seq (.block 1 (.seq (r_ [m_ 10 8,m_ 5 10] [9,10]) (.seq (R_ [f_ 11 3 1,l_ 12 11,c_ 13 .neq 12 0,m_ 14 13,p_ 14 (m_ 15 0),p_ 14 (m_ 16 5),p_ 14 (i_ 17 15 16 9),p_ 14 (f_ 18 17 0),p_ 14 (f_ 19 18 1),p_ 14 (L_ 20 19),p_ 14 (f_ 21 3 1),p_ 14 (l_ 22 21),p_ 14 (b_ 23 .eql 20 22),K_ 24 14 23,m_ 25 24,p_ 25 (m_ 26 0),p_ 25 (m_ 27 5),p_ 25 (i_ 28 26 27 9),p_ 25 (f_ 29 28 0),p_ 25 (f_ 30 29 0),p_ 25 (L_ 31 30),p_ 25 (f_ 32 3 0),p_ 25 (l_ 33 32),p_ 25 (a_ 34 33 1),p_ 25 (b_ 35 .eql 31 34),K_ 36 25 35] [11,12,13,14,15,16,17,18,19,20,21,22,23,24,25,26,27,28,29,30,31,32,33,34,35]) (.cond (.t 36) (.seq (r_ [m_ 37 0,m_ 38 5,i_ 39 37 38 9,m_ 4 39] [0,3,5,7,8,36,37,38,39]) (.ret)) (.skip))))) (r_ [a_ 40 8 1,m_ 8 40] [4,5,36,40])))
def r199_2:IR:=
 .seq (r_ [o_ 4 (.mov (.k nilP))] [0,3,7,8]) (.ret)
def ir199:IR:=
 .seq (r_ [o_ 3 (.box 10 (.t 1)),o_ 4 (.mov (.k nilP))] [1,4]) (.seq (.seq (r_ [m_ 6 0,h_ 7 6,z_ 8 0] [6]) (.block 0 (.loop b199_1))) (r199_2))
def kp199_1:List Nat:=[0,3,7,8]
def kl199_1:List Nat:=[]
attribute [push_cast] kp199_1 kl199_1
set_option maxRecDepth 4000 in
theorem comp199:(Tryz.f199.body.bind fun c=>compC tab isP chkAll ir199 c)=some ir199:=by kernel_rfl
def fs158:FS where
 A:=BnA
 args:=fun a=>[.int .i64 a.w,.int .i64 a.h]
 pre:=fun a=>(a.w=0∨a.w=1)/\0<=a.h/\a.h<=8192
 res:=fun a x=>.tup [.agg [.int .i64 a.w,.sl 0 (x 0) 1 0 a.h],.int .i64 0]
 new:=fun a x=>[(x 0,.ints .i64 (List.replicate a.h.toNat 0))]
def inv158:List SV->Look->Option (BnA×List Nat)
 | [.int .i64 w,.int .i64 h],look=>some (⟨w,h,0⟩,[])
 | _,_=>none
attribute [push_cast] inv158
theorem ok158:FSOk Tryz.prog 158 fs158:=by
 refine hd_ (fk_ Tryz.func158) fun a hp=>?_
 obtain⟨w,h,n⟩:=a
 obtain⟨h1,h2,h3⟩:(w=0∨w=1)/\0<=h/\h<=8192:=hp
 have c1:¬ (¬ w=0/\¬ w=1):=by omega
 have c2:¬ h<0:=by omega
 have c3:¬ 8192<h:=by omega
 change Tri Tryz.prog 158 [.int .i64 w,.int .i64 h] [] (postF fs158 ⟨w,h,n⟩)
 refine tri_evS (hyp (l:=[]) (lp:=[]) trivial trivial) Tryz.func158 comp158 (rs:=[.cell 4 (some 2),.tmp 5]) (by rfl) Tryz.ntmps158 12 ?_
 simp -implicitDefEqProofs only[push_cast,zz,seval,ir158,c1,c2,c3]
 intro X X1
 repeat refine om_ ?_
 refine postF.mk' (fun _=>X1 2 11) [some 11] ?_
 simp -implicitDefEqProofs only[push_cast,zz,seval,fs158]
def ent158:Entry:=spOf fs158 inv158
theorem e158:EntryOk Tryz.prog 158 ent158:=entry_of ok158 inv158
@[push_cast] theorem ent158_a u l x k:ent158 u l x k=spOf fs158 inv158 u l x k:=rfl
structure Pb where
 places:List Int
 w:Int
 parent:Int
 deriving Inhabited
structure Gr where
 band:Bd
 frm:Nat
 deriving Inhabited
def colsB (b:Bd):Int:=(b.w+4-1) / 4
def rowsB (b:Bd):Int:=(b.h+4-1) / 4
def Gr.rc (g:Gr):List RC:=[.int .i64 g.band.lv,.int .i64 g.band.kd,.int .i64 g.band.x,.int .i64 g.band.y,.int .i64 g.band.w,.int .i64 g.band.h,.int .i64 g.frm,.int .i64 (colsB g.band),.int .i64 (rowsB g.band)]
def rdGr (l:List Gr) (i:Nat):Gr:=l.getD i default
theorem recAt_Gr {l:List Gr} {i:Nat} (h:i<l.length) (z:List RC):recAt (i:Int) z (l.map Gr.rc)=(rdGr l i).rc:=by
 simp[recAt,rdGr,h]
theorem rdGr_nat {l:List Gr} {i:Nat} (h:i<l.length):rdGr l i=l[i]:=by simp[rdGr,h]
def getGr:List (List RC)->Option (List Gr)
 | []=>some []
 | [.int .i64 lv,.int .i64 kd,.int .i64 x,.int .i64 y,.int .i64 w,.int .i64 h,.int .i64 f,_,_]::l=>match getGr l with | some r=>some (⟨⟨lv,kd,x,y,w,h⟩,f.toNat⟩::r) | none=>none
 | _=>none
theorem getGr_map:∀ l:List Gr,getGr (l.map Gr.rc)=some l
 | []=>rfl
 | g::l=>by
  simp only[List.map_cons,Gr.rc,getGr]
  have:=getGr_map l
  rw[this]
  simp
def hitG (g:Gr) (b:Bd):Prop:=b.kd≠0/\g.band.kd=b.kd/\g.band.lv=b.lv+1
instance hitG_dec (g:Gr) (b:Bd):Decidable (hitG g b):=by unfold hitG;infer_instance
def findG (gs:List Gr) (b:Bd):Option Nat:=gs.findIdx? fun g=>decide (hitG g b)
theorem findG_some {gs:List Gr} {b:Bd} {i:Nat} (hi:i<gs.length) (h:hitG (rdGr gs i) b) (hj:∀ j,j<i->¬ hitG (rdGr gs j) b):findG gs b=some i:=by
 unfold findG
 rw[List.findIdx?_eq_some_iff_getElem]
 refine⟨hi,by rw[<-rdGr_nat hi];simpa using h,fun j hji=>?_⟩
 have:=hj j hji
 rw[rdGr_nat (by omega)]at this
 simpa using this
theorem findG_none {gs:List Gr} {b:Bd} (hj:∀ j,j<gs.length->¬ hitG (rdGr gs j) b):findG gs b=none:=by
 unfold findG
 rw[List.findIdx?_eq_none_iff]
 intro g hg
 obtain⟨j,hjl,rfl⟩:=List.mem_iff_getElem.1 hg
 have:=hj j hjl
 rw[rdGr_nat hjl]at this
 simpa using this
theorem findG_lt {gs:List Gr} {b:Bd} {i:Nat} (h:findG gs b=some i):i<gs.length:=by
 unfold findG at h
 rw[List.findIdx?_eq_some_iff_getElem]at h
 exact h.1
structure PaA where
 L:Xf.Loc
 s:Nat
 gs:List Gr
 b:Bd
def ptrG (c:Nat) (L:Xf.Loc):Option Nat->SV
 | none=>.val (.pointer none)
 | some i=>.ptr c L (i:Nat) 9 0
def fs199:FS where
 A:=PaA
 args:=fun a=>[.sl 0 a.L a.s 0 a.gs.length,a.b.sv]
 mem:=fun a=>[some (.ro,a.L,.recs 9 false [] (a.gs.map Gr.rc))]
 pre:=fun a=>a.gs.length<=1000/\(0<a.gs.length->a.s=9)/\-1000<=a.b.lv/\a.b.lv<=1000
 res:=fun a _=>ptrG 0 a.L (findG a.gs a.b)
def rowG (look:Look) (d:Nat):Option (Xf.Loc×List Gr):=
 bif d==4096 then some (nilLoc,[])else match rowR (look d)with
  | some (L,9,_,r)=>match getGr r with | some l=>some (L,l) | none=>none
  | _=>none
def inv199:List SV->Look->Option (PaA×List Nat)
 | [.sl d _ s 0 _,.agg [.int .i64 lv,.int .i64 kd,.int .i64 x,.int .i64 y,.int .i64 w,.int .i64 h]],look=>match rowG look d with
  | some (L,gs)=>some (⟨L,s,gs,⟨lv,kd,x,y,w,h⟩⟩,[d])
  | none=>none
 | _,_=>none
attribute [push_cast] rowG inv199
theorem ok199:FSOk Tryz.prog 199 fs199:=by
 refine hd_ (fk_ Tryz.func199) fun a hp=>?_
 obtain⟨L,s,gs,b⟩:=a
 obtain⟨h1,h2,h3,h4⟩:gs.length<=1000/\(0<gs.length->s=9)/\-1000<=b.lv/\b.lv<=1000:=hp
 change Tri Tryz.prog 199 [.sl 0 L s 0 gs.length,b.sv] [some (.ro,L,.recs 9 false [] (gs.map Gr.rc))] (postF fs199 ⟨L,s,gs,b⟩)
 have hf:=@findG_some gs b
 have hn:=@findG_none gs b
 have hhit:∀ g:Gr,hitG g b=(¬ b.kd=0/\g.band.kd=b.kd/\g.band.lv=b.lv+1):=fun g=>rfl
 obtain⟨F,hF⟩:∃ F,findG gs b=F:=⟨_,rfl⟩
 simp only[hF,hhit]at hf hn
 obtain⟨lv,kd,x,y,w,h⟩:=b
 simp only at h3 h4 hf hn
 refine tri_evS (hyp (l:=[]) (lp:=[]) trivial trivial) Tryz.func199 comp199 (rs:=[.tmp 4]) (by rfl) Tryz.ntmps199 11 ?_
 simp -implicitDefEqProofs only[push_cast,zz,seval,ir199]
 intro X
 refine evS_loopU (A:=Nat) kp199_1 kl199_1 (fun i=>[(8,.int .i64 i)]) (fun i=>[]) (fun i=>i<=gs.length/\∀ j,j<i->¬ (¬ kd=0/\(rdGr gs j).band.kd=kd/\(rdGr gs j).band.lv=lv+1)) (fun i=>gs.length-i) 0 ⟨Nat.zero_le _,fun j hj=>by omega⟩ (Sub.pt ?_) ?_
 ·simp -implicitDefEqProofs only[push_cast,zz,seval]
 intro i ⟨(hi:i<=gs.length),(hjj:∀ j,j<i->¬ (¬ kd=0/\(rdGr gs j).band.kd=kd/\(rdGr gs j).band.lv=lv+1))⟩ K hK
 by_cases hi':i<gs.length
 ·obtain rfl:=h2 (by omega)
  have r1:=recAt_Gr hi' []
  have hii:(i:Int)<gs.length:=by omega
  have hlm:(gs.map Gr.rc).length=gs.length:=List.length_map _
  have hfi:=hf hi'
  have hK2:=fun(hno:¬ (¬ kd=0/\(rdGr gs i).band.kd=kd/\(rdGr gs i).band.lv=lv+1))=>hK (i+1) ⟨show i+1<=gs.length by omega,fun j hj=>by
   by_cases e:j=i
   ·rw[e];exact hno
   ·exact hjj j (by omega)⟩ (show gs.length-(i+1)<gs.length-i by omega)
  clear hK
  obtain⟨⟨⟨lv',kd',x',y',w',h'⟩,fr⟩,hg⟩:∃ g,rdGr gs i=g:=⟨_,rfl⟩
  rw[hg]at r1 hfi hK2
  simp only at hfi hK2
  by_cases hk0:kd=0
  ·simp -implicitDefEqProofs only[push_cast,zz,seval,b199_1,r1,Gr.rc,hii,hlm,hk0]
   repeat refine om_ ?_
   refine hK2 (fun h=>h.1 hk0) _ _ (Sub.pt ?_)
   simp -implicitDefEqProofs only[push_cast,zz,seval,hk0]
  by_cases hk1:kd'=kd
  ·by_cases hk2:lv'=lv+1
   ·have hfi:=hfi ⟨hk0,hk1,hk2⟩ hjj
    simp -implicitDefEqProofs only[push_cast,zz,seval,b199_1,r1,Gr.rc,hii,hlm,hk0,hk1,hk2]
    repeat refine om_ ?_
    refine postF.mk' (fun _=>default) [some 0] ?_
    simp -implicitDefEqProofs only[push_cast,zz,seval,fs199,hF,hfi,ptrG]
   ·simp -implicitDefEqProofs only[push_cast,zz,seval,b199_1,r1,Gr.rc,hii,hlm,hk0,hk1,hk2]
    repeat refine om_ ?_
    refine hK2 (fun h=>hk2 h.2.2) _ _ (Sub.pt ?_)
    simp -implicitDefEqProofs only[push_cast,zz,seval]
  ·simp -implicitDefEqProofs only[push_cast,zz,seval,b199_1,r1,Gr.rc,hii,hlm,hk0,hk1]
   repeat refine om_ ?_
   refine hK2 (fun h=>hk1 h.2.1) _ _ (Sub.pt ?_)
   simp -implicitDefEqProofs only[push_cast,zz,seval]
 ·obtain rfl:i=gs.length:=by omega
  clear hK
  have hn:=hn hjj
  simp -implicitDefEqProofs only[push_cast,zz,seval,b199_1,r199_2,Int.lt_irrefl]
  refine postF.mk' (fun _=>default) [some 0] ?_
  simp -implicitDefEqProofs only[push_cast,zz,seval,fs199,hF,hn,ptrG]
def ent199:Entry:=spOf fs199 inv199
theorem e199:EntryOk Tryz.prog 199 ent199:=entry_of ok199 inv199
@[push_cast] theorem ent199_a u l x k:ent199 u l x k=spOf fs199 inv199 u l x k:=rfl
def b157_5:IR:=
 .seq (.seq (r_ [m_ 81 19,m_ 82 16,c_ 83 .mul 82 4,f_ 84 17 1,l_ 85 84,b_ 86 .add 83 85,b_ 87 .lss 81 86] [81,82,83,84,85,86]) (.cond (.t 87) (.skip) (.exit 8))) (.seq (.block 9 (r_ [f_ 90 17 0,l_ 91 90,f_ 92 12 3,l_ 93 92,m_ 94 18,b_ 95 .add 93 94,m_ 96 0,b_ 97 .mul 95 96,f_ 98 12 2,l_ 99 98,b_ 100 .add 97 99,m_ 101 19,b_ 102 .add 100 101,o_ 103 (.bslice 21 [.t 102]),o_ 104 (.app 22 1 8 (.t 91) (.t 103)),f_ 105 17 0,s_ 1 .i64 105 104] [87,90,91,92,93,94,95,96,97,98,99,100,101,102,103,104,105])) (r_ [m_ 88 19,a_ 89 88 1,m_ 19 89] [88,89]))
def r157_6:IR:=
 r_ [m_ 77 18,a_ 78 77 1,m_ 18 78] [19,77,78]
def b157_4:IR:=
 .seq (.seq (r_ [m_ 69 18,m_ 70 15,c_ 71 .mul 70 4,a_ 72 71 4,f_ 73 12 5,l_ 74 73,o_ 75 (.mn (.t 72) (.t 74)),b_ 76 .lss 69 75] [69,70,71,72,73,74,75]) (.cond (.t 76) (.skip) (.exit 6))) (.seq (.block 7 (.seq (r_ [m_ 79 16,c_ 80 .mul 79 4,m_ 19 80] [76,79,80]) (.block 8 (.loop b157_5)))) (r157_6))
def r157_7:IR:=
 .seq (.seq (r_ [m_ 106 14,o_ 107 (.binN .neq (.t 106) (.k nilP))] [18,106]) (.cond (.t 107) (R_ [m_ 108 14,n_ 109 108,f_ 110 109 6,L_ 111 110,m_ 112 15,c_ 113 .quo 112 2,m_ 114 14,n_ 115 114,f_ 116 115 8,L_ 117 116,c_ 118 .sub 117 1,o_ 119 (.mn (.t 113) (.t 118)),m_ 120 14,n_ 121 120,f_ 122 121 7,L_ 123 122,b_ 124 .mul 119 123,b_ 125 .add 111 124,m_ 126 16,c_ 127 .quo 126 2,m_ 128 14,n_ 129 128,f_ 130 129 7,L_ 131 130,c_ 132 .sub 131 1,o_ 133 (.mn (.t 127) (.t 132)),b_ 134 .add 125 133,f_ 135 17 2,s_ 1 .i64 135 134] [16,107,108,109,110,111,112,113,114,115,116,117,118,119,120,121,122,123,124,125,126,127,128,129,130,131,132,133,134,135]) (.skip))) (r_ [m_ 136 9,o_ 137 (.ld false (some 4) 0 0 (.t 17)),o_ 138 (.brecs 23 4 .i64 [.t 137]),o_ 139 (.app 24 4 48 (.t 136) (.t 138)),m_ 9 139] [16,17,107,136,137,138,139])
def r157_8:IR:=
 r_ [a_ 140 57 1,m_ 57 140] [140]
def b157_3:IR:=
 .seq (r_ [b_ 58 .lss 57 56] []) (.seq (.cond (.t 58) (.skip) (.exit 4)) (.seq (.block 5 (.seq (r_ [m_ 59 57,m_ 16 59] [58,59]) (.seq (r_ [f_ 60 12 4,l_ 61 60,m_ 62 16,c_ 63 .mul 62 4,b_ 64 .sub 61 63,o_ 65 (.mn (Z_ 4) (.t 64)),o_ 66 (.build [nilSV,y_,y_,.bool false] [(1,1,.t 65),(2,1,Z_ (-1))]),o_ 17 (.alloc 20 [nilSV,y_,y_,.bool false]),s_ 4 .i64 17 66] [60,61,62,63,64,65,66]) (.seq (.seq (r_ [m_ 67 15,c_ 68 .mul 67 4,m_ 18 68] [67,68]) (.block 6 (.loop b157_4))) (r157_7))))) (r157_8)))
def r157_9:IR:=
 r_ [a_ 141 52 1,m_ 52 141] [15,56,57,141]
def b157_2:IR:=
 .seq (r_ [b_ 53 .lss 52 51] []) (.seq (.cond (.t 53) (.skip) (.exit 2)) (.seq (.block 3 (.seq (r_ [m_ 54 52,m_ 15 54] [53,54]) (.seq (r_ [f_ 55 13 7,l_ 56 55,z_ 57 0] [55]) (.block 4 (.loop b157_3))))) (r157_9)))
def r157_10:IR:=
 r_ [m_ 142 10,o_ 143 (.ld false (some 9) 0 0 (.t 13)),o_ 144 (.brecs 25 9 .i64 [.t 143]),o_ 145 (.app 26 9 72 (.t 142) (.t 144)),m_ 10 145] [12,13,14,51,52,142,143,144,145]
def r157_11:IR:=
 r_ [a_ 146 29 1,m_ 29 146] [146]
def b157_1:IR:=
 .seq (r_ [b_ 30 .lss 29 28] []) (.seq (.cond (.t 30) (.skip) (.exit 0)) (.seq (.block 1 (.seq (r_ [i_ 31 27 29 6,o_ 32 (.ld true (some 6) 0 0 (.t 31)),o_ 12 (.alloc 14 [y_,y_,y_,y_,y_,y_]),s_ 6 .i64 12 32] [30,31,32]) (.seq (r_ [o_ 33 (.ld false (some 6) 0 0 (.t 12)),m_ 34 9,h_ 35 34,f_ 36 12 4,l_ 37 36,a_ 38 37 4,c_ 39 .sub 38 1,c_ 40 .quo 39 4,f_ 41 12 5,l_ 42 41,a_ 43 42 4,c_ 44 .sub 43 1,c_ 45 .quo 44 4,o_ 46 (.build [y_,y_,y_,y_,y_,y_,y_,y_,y_] [(0,6,.t 33),(6,1,.t 35),(7,1,.t 40),(8,1,.t 45)]),o_ 13 (.alloc 15 [y_,y_,y_,y_,y_,y_,y_,y_,y_]),s_ 9 .i64 13 46] [33,34,35,36,37,38,39,40,41,42,43,44,45,46]) (.seq (r_ [m_ 47 10,o_ 48 (.ld false (some 6) 0 0 (.t 12)),o_ 49 (.call (some 4) 16 199 [.t 47,.t 48]),m_ 14 49] [47,48,49]) (.seq (.seq (r_ [f_ 50 13 8,l_ 51 50,z_ 52 0] [50]) (.block 2 (.loop b157_2))) (r157_10)))))) (r157_11)))
def r157_12:IR:=
 .seq (r_ [m_ 147 9,m_ 6 147] [0,9,10,27,28,29,147]) (.ret)
def ir157:IR:=
 .seq (r_ [o_ 6 (.mov (.k nilSV))] [6]) (.seq (r_ [m_ 21 0,m_ 22 1,m_ 23 2,o_ 24 (.call (some 4) 10 159 [.t 21,.t 22,.t 23]),m_ 20 24,e_ 25 20 0,e_ 26 20 1,m_ 7 25,m_ 8 26] [1,2,8,20,21,22,23,24,25,26]) (.seq (r_ [o_ 9 (.mov (.k nilSV))] []) (.seq (r_ [o_ 10 (.mov (.k nilSV))] []) (.seq (.seq (r_ [m_ 27 7,h_ 28 27,z_ 29 0] [7]) (.block 0 (.loop b157_1))) (r157_12)))))
def kp157_5:List Nat:=[0,9,10,12,13,14,15,16,17,18,19,27,28,29,51,52,56,57]
def kl157_5:List Nat:=[21,22]
attribute [push_cast] kp157_5 kl157_5
def kp157_4:List Nat:=[0,9,10,12,13,14,15,16,17,18,27,28,29,51,52,56,57]
def kl157_4:List Nat:=[21,22]
attribute [push_cast] kp157_4 kl157_4
def kp157_3:List Nat:=[0,9,10,12,13,14,15,27,28,29,51,52,56,57]
def kl157_3:List Nat:=[20,21,22,23,24]
attribute [push_cast] kp157_3 kl157_3
def kp157_2:List Nat:=[0,9,10,12,13,14,27,28,29,51,52]
def kl157_2:List Nat:=[20,21,22,23,24]
attribute [push_cast] kp157_2 kl157_2
def kp157_1:List Nat:=[0,9,10,27,28,29]
def kl157_1:List Nat:=[14,15,16,17,18,19,20,21,22,23,24,25,26]
attribute [push_cast] kp157_1 kl157_1
set_option maxRecDepth 4000 in
theorem comp157:(Tryz.f157.body.bind fun c=>compC tab isP chkAll ir157 c)=some ir157:=by kernel_rfl
def plF (W:Int) (b:Bd) (r c:Int) (dy dx:Nat):Int:=(b.y+(r*4+dy))*W+b.x+(c*4+dx)
def kwB (b:Bd) (c:Int):Int:=min 4 (b.w-c*4)
def khB (b:Bd) (r:Int):Int:=min (r*4+4) b.h-r*4
def plRow (W:Int) (b:Bd) (r c:Int) (dy n:Nat):List Int:=(List.range n).map (plF W b r c dy)
def plAll (W:Int) (b:Bd) (r c:Int) (m:Nat):List Int:=(List.range m).flatMap fun dy=>plRow W b r c dy (kwB b c).toNat
theorem plRow_succ (W:Int) (b:Bd) (r c:Int) (dy n:Nat):plRow W b r c dy (n+1)=plRow W b r c dy n++[plF W b r c dy n]:=by
 unfold plRow;rw[List.range_succ,List.map_append];rfl
theorem plAll_succ (W:Int) (b:Bd) (r c:Int) (m:Nat):plAll W b r c (m+1)=plAll W b r c m++plRow W b r c m (kwB b c).toNat:=by
 unfold plAll;rw[List.range_succ,List.flatMap_append];simp
theorem plRow_len (W:Int) (b:Bd) (r c:Int) (dy n:Nat):(plRow W b r c dy n).length=n:=by unfold plRow;simp
theorem plAll_len (W:Int) (b:Bd) (r c:Int):∀ m,(plAll W b r c m).length=m*(kwB b c).toNat
 | 0=>by simp[plAll]
 | m+1=>by rw[plAll_succ,List.length_append,plAll_len W b r c m,plRow_len,Nat.succ_mul]
def parP (gs:List Gr) (F:Option Nat) (r c:Int):Int:=
 match F with
 | none=>-1
 | some i=>(rdGr gs i).frm+min (r / 2) (rowsB (rdGr gs i).band-1)*colsB (rdGr gs i).band+min (c / 2) (colsB (rdGr gs i).band-1)
def bkAt (W:Int) (gs:List Gr) (b:Bd) (r c:Int):Pb:=⟨plAll W b r c (khB b r).toNat,kwB b c,parP gs (findG gs b) r c⟩
def bkRow (W:Int) (gs:List Gr) (b:Bd) (r:Int) (n:Nat):List Pb:=(List.range n).map fun c=>bkAt W gs b r (c:Nat)
def bkBand (W:Int) (gs:List Gr) (b:Bd) (m:Nat):List Pb:=(List.range m).flatMap fun r=>bkRow W gs b (r:Nat) (colsB b).toNat
theorem bkRow_succ (W:Int) (gs:List Gr) (b:Bd) (r:Int) (n:Nat):bkRow W gs b r (n+1)=bkRow W gs b r n++[bkAt W gs b r n]:=by
 unfold bkRow;rw[List.range_succ,List.map_append];rfl
theorem bkBand_succ (W:Int) (gs:List Gr) (b:Bd) (m:Nat):bkBand W gs b (m+1)=bkBand W gs b m++bkRow W gs b m (colsB b).toNat:=by
 unfold bkBand;rw[List.range_succ,List.flatMap_append];simp
theorem bkRow_len (W:Int) (gs:List Gr) (b:Bd) (r:Int) (n:Nat):(bkRow W gs b r n).length=n:=by unfold bkRow;simp
theorem bkBand_len (W:Int) (gs:List Gr) (b:Bd):∀ m,(bkBand W gs b m).length=m*(colsB b).toNat
 | 0=>by simp[bkBand]
 | m+1=>by rw[bkBand_succ,List.length_append,bkBand_len W gs b m,bkRow_len,Nat.succ_mul]
def bkStep (W:Int) (s:List Pb×List Gr) (b:Bd):List Pb×List Gr:=(s.1++bkBand W s.2 b (rowsB b).toNat,s.2++[⟨b,s.1.length⟩])
def bkFold (W:Int) (l:List Bd):List Pb×List Gr:=l.foldl (bkStep W) ([],[])
theorem bkFold_succ (W:Int) {l:List Bd} {i:Nat} (h:i<l.length):bkFold W (l.take (i+1))=bkStep W (bkFold W (l.take i)) (rdBd l i):=by
 unfold bkFold
 rw[List.take_succ_eq_append_getElem h,List.foldl_append,rdBd_nat h]
 rfl
theorem bd_cr {b:Bd} (h:b.ok):0<=colsB b/\colsB b<=50/\0<=rowsB b/\rowsB b<=50:=by
 obtain⟨h1,h2,h3,h4⟩:=h
 unfold colsB rowsB
 omega
def frmOk (n:Nat) (gs:List Gr):Prop:=∀ g∈gs,g.band.ok/\g.frm<=n
theorem bkFold_len (W:Int) {l:List Bd} (hl:∀ b∈l,b.ok):∀ i,i<=l.length->(bkFold W (l.take i)).1.length<=2500*i/\(bkFold W (l.take i)).2.length=i/\frmOk (2500*i) (bkFold W (l.take i)).2
 | 0,_=>by simp[bkFold,frmOk]
 | i+1,hi=>by
  obtain⟨h1,h2,h3⟩:=bkFold_len W hl i (by omega)
  rw[bkFold_succ W (by omega)]
  have hb:=hl _ (rdBd_mem (show i<l.length by omega))
  have hcr:=bd_cr hb
  unfold bkStep
  simp only[List.length_append,List.length_singleton,bkBand_len]
  have:(rowsB (rdBd l i)).toNat*(colsB (rdBd l i)).toNat<=50*50:=Nat.mul_le_mul (by omega) (by omega)
  refine⟨by omega,by omega,fun g hg=>?_⟩
  rcases List.mem_append.1 hg with h | h
  ·have:=h3 g h
   exact⟨this.1,by omega⟩
  ·rw[List.mem_singleton]at h
   subst h
   exact⟨hb,by simp only;omega⟩
theorem bdD_lv (w h n:Nat):∀ k,k<=n->∀ x∈bdD w h n k,0<=x.lv/\x.lv<=n
 | 0,_,x,hx=>by
  simp only[bdD,List.mem_singleton]at hx
  subst hx
  simp only[bd0];omega
 | k+1,hk,x,hx=>by
  rw[bdD,List.mem_append]at hx
  rcases hx with hx | hx
  ·exact bdD_lv w h n k (by omega) x hx
  ·simp only[bd3,List.mem_cons,List.not_mem_nil,or_false]at hx
   rcases hx with rfl | rfl | rfl<;>simp only<;>omega
theorem bnL_in {w h n:Int} (hb:bnOk w h n) {b:Bd} (hm:b∈bnL w h n):0<=b.x/\0<=b.y/\1<=b.w/\1<=b.h/\b.x+b.w<=w/\b.y+b.h<=h/\-1000<=b.lv/\b.lv<=1000:=by
 obtain⟨q1,q2,q3,q4,q5,q6⟩:=id hb
 unfold bnL bnA at hm
 rw[if_pos hb]at hm
 have h1:=kept_in (w:=w.toNat) (h:=h.toNat) (n:=n.toNat) (by omega) (by omega) hm
 have h2:b∈bdD w.toNat h.toNat n.toNat n.toNat:=(List.mem_filter.1 hm).1
 have h3:=bdD_lv w.toNat h.toNat n.toNat n.toNat (Nat.le_refl _) b h2
 omega
def bkts (w h n:Int):List Pb:=(bkFold w (bnL w h n)).1
structure Bck where
 L:Xf.Loc
 b:Pb
 on:Bool
 deriving Inhabited
def Bck.rc (x:Bck):List RC:=[.row x.L .i64 x.b.places,.int .i64 x.b.w,.int .i64 x.b.parent,.bool x.on]
def bkOf (f:Nat->Xf.Loc) (l:List Pb):List Bck:=(List.range l.length).map fun i=>⟨f i,l.getD i default,false⟩
theorem bkOf_eq {l:List Bck} {m:List Pb} (h:l.map Bck.b=m) (ho:∀ x∈l,x.on=false):bkOf (fun i=>(l.getD i default).L) m=l:=by
 subst h
 unfold bkOf
 refine List.ext_getElem (by simp) fun i h1 h2=>?_
 have hi:i<l.length:=by simpa using h2
 simp only[List.getElem_map,List.getElem_range,List.getD_eq_getElem?_getD,List.getElem?_map,List.getElem?_eq_getElem hi,Option.map_some,Option.getD_some]
 have:=ho _ (List.getElem_mem hi)
 cases hx:l[i]with
 | mk L b on=>rw[hx]at this;simp only at this;rw[this]
def slB (c:Nat) (M:Xf.Loc) (n:Nat):SV:=.sl c M (esz 4 n) 0 n
attribute [push_cast] slB
def fs157:FS where
 A:=BnA
 args:=fun a=>[.int .i64 a.w,.int .i64 a.h,.int .i64 a.n]
 pre:=fun a=>bnOk a.w a.h a.n
 res:=fun a x=>slB 0 (x 0) (bkts a.w a.h a.n).length
 new:=fun a x=>[(x 0,.recs 4 true [] ((bkOf (fun i=>x (i+1)) (bkts a.w a.h a.n)).map Bck.rc))]
theorem relab_ptrG (N:Xf.Loc) (F:Option Nat):relab (rho [26] 16) (ptrG 0 N F)=ptrG 26 N F:=by cases F<;>rfl
theorem sub_all (xs:List Int):sub xs 0 xs.length=xs:=by simp[sub]
theorem par_bd {a c:Int} (h0:-1<=a) (h1:a<=50) (h2:0<=c) (h3:c<=50):-50<=a*c/\a*c<=2500:=by
 by_cases h:0<=a
 ·have:=mul_bd h h1 h2 h3
  omega
 ·have:a=-1:=by omega
  subst this
  omega
theorem bkMap_len (l:List Bck):(l.map Bck.rc).length=l.length:=List.length_map _
set_option maxHeartbeats 4000000 in
set_option maxRecDepth 4000 in
theorem ok157:FSOk Tryz.prog 157 fs157:=by
 refine hd_ (fk_ Tryz.func157) fun a hp=>?_
 obtain⟨w,h,n⟩:=a
 have hb:bnOk w h n:=hp
 obtain⟨q1,q2,q3,q4,q5,q6⟩:=id hb
 change Tri Tryz.prog 157 [.int .i64 w,.int .i64 h,.int .i64 n] [] (postF fs157 ⟨w,h,n⟩)
 have hbk:bkts w h n=(bkFold w (bnL w h n)).1:=rfl
 have hin:∀ i:Nat,i<(bnL w h n).length->0<=(rdBd (bnL w h n) i).x/\0<=(rdBd (bnL w h n) i).y/\1<=(rdBd (bnL w h n) i).w/\1<=(rdBd (bnL w h n) i).h/\(rdBd (bnL w h n) i).x+(rdBd (bnL w h n) i).w<=w/\(rdBd (bnL w h n) i).y+(rdBd (bnL w h n) i).h<=h/\-1000<=(rdBd (bnL w h n) i).lv/\(rdBd (bnL w h n) i).lv<=1000:=fun i hi=>bnL_in hb (rdBd_mem hi)
 have hmemok:∀ b∈bnL w h n,b.ok:=fun b hb=>by
  obtain⟨i,hi,rfl⟩:=List.mem_iff_getElem.1 hb
  have:=hin i hi
  rw[rdBd_nat hi]at this
  unfold Bd.ok
  omega
 have hl19:=bnL_le w h n
 have r1:∀ i:Nat,i<(bnL w h n).length->recAt (i:Int) [] (bnZ w h n)=(rdBd (bnL w h n) i).rc:=fun i hi=>recAt_Bd (by omega) (by omega) [] _
 have hzl:(bnL w h n).length<=(bnZ w h n).length:=by unfold bnZ;rw[List.length_append,List.length_map];omega
 obtain⟨B,hB⟩:∃ B,bnL w h n=B:=⟨_,rfl⟩
 obtain⟨Z,hZ⟩:∃ Z,bnZ w h n=Z:=⟨_,rfl⟩
 rw[hB]at hbk hin hmemok hl19 r1 hzl
 rw[hZ]at r1 hzl
 have hfl:=@bkFold_len w B hmemok
 refine tri_evS (hyp (l:=[(159,ent159),(199,ent199)]) (lp:=[]) ⟨e159,e199,trivial⟩ trivial) Tryz.func157 comp157 (rs:=[.tmp 6]) (by rfl) Tryz.ntmps157 27 ?_
 simp -implicitDefEqProofs only[push_cast,zz,seval,ir157,fs159,hb,hB,hZ,lx]
 intro X
 refine evS_loopU (A:=Nat×List Bck×Xf.Loc×Xf.Loc) kp157_1 kl157_1 (fun y=>[(29,.int .i64 y.1),(9,slB 24 y.2.2.1 y.2.1.length),(10,.sl 26 y.2.2.2 (esz 9 y.1) 0 y.1)])
  (fun y=>[(24,.mine,y.2.2.1,.recs 4 true [] (y.2.1.map Bck.rc)),(26,.mine,y.2.2.2,.recs 9 true [] ((bkFold w (B.take y.1)).2.map Gr.rc))])
  (fun y=>y.1<=B.length/\y.2.1.map Bck.b=(bkFold w (B.take y.1)).1/\∀ x∈y.2.1,x.on=false) (fun y=>B.length-y.1) (0,[],nilLoc,nilLoc) ⟨Nat.zero_le _,by simp[bkFold],by simp⟩ (Sub.of (mkG 30 [(10,10)]) ?_) ?_
 ·have e0:((bkFold w (B.take 0)).2.map Gr.rc)=[]:=by simp[bkFold]
  simp -implicitDefEqProofs only[push_cast,zz,seval,esz,e0]
 intro ⟨i,l,M,N⟩ ⟨(hi:i<=B.length),(hl:l.map Bck.b=(bkFold w (B.take i)).1),(hon:∀ x∈l,x.on=false)⟩ K hK
 by_cases hi':i<B.length
 ·obtain⟨b1,b2,b3,b4,b5,b6,b7,b8⟩:=hin i hi'
  have rr:=r1 i hi'
  have hii:(i:Int)<B.length:=by omega
  obtain⟨f1,f2,f3⟩:=hfl i hi
  have hstep:=bkFold_succ w hi'
  obtain⟨⟨lv,kd,x,y,bw,bh⟩,hb'⟩:∃ b,rdBd B i=b:=⟨_,rfl⟩
  rw[hb']at b1 b2 b3 b4 b5 b6 b7 b8 rr hstep
  simp only at b1 b2 b3 b4 b5 b6 b7 b8
  obtain⟨⟨O,G⟩,hOG⟩:∃ s,bkFold w (B.take i)=s:=⟨_,rfl⟩
  rw[hOG]at hl f1 f2 f3 hstep
  simp only at hl f1 f2 f3
  have hll:l.length=O.length:=by rw[<-hl,List.length_map]
  have hgl:(G.map Gr.rc).length=i:=by rw[List.length_map,f2]
  have hgg:=getGr_map G
  obtain⟨F,hF⟩:∃ F,findG G ⟨lv,kd,x,y,bw,bh⟩=F:=⟨_,rfl⟩
  have hFr:=relab_ptrG N F
  have hbd:(⟨lv,kd,x,y,bw,bh⟩:Bd).ok:=by unfold Bd.ok;simp only;omega
  have hcr:=bd_cr hbd
  have hcols:colsB ⟨lv,kd,x,y,bw,bh⟩=(bw+4-1) / 4:=rfl
  have hrows:rowsB ⟨lv,kd,x,y,bw,bh⟩=(bh+4-1) / 4:=rfl
  obtain⟨C,hC⟩:∃ C:Nat,(bw+4-1) / 4=(C:Int):=⟨((bw+4-1) / 4).toNat,by omega⟩
  obtain⟨R,hR⟩:∃ C:Nat,(bh+4-1) / 4=(C:Int):=⟨((bh+4-1) / 4).toNat,by omega⟩
  rw[hC]at hcols
  rw[hR]at hrows
  simp -implicitDefEqProofs only[push_cast,zz,seval,b157_1,rr,Bd.rc,hii,hOG,fs199,hgg,f2,hF,hFr,hC,hR]
  intro X1
  repeat refine om_ ?_
  intro X2
  repeat refine om_ ?_
  refine⟨fun h0=>by(cases i with | zero=>omega | succ i=>rfl),by omega,by omega,?_⟩
  refine evS_loopU (A:=Nat×List Bck×Xf.Loc) kp157_2 kl157_2 (fun y=>[(52,.int .i64 y.1),(9,slB 24 y.2.2 y.2.1.length)])
   (fun y=>[(24,.mine,y.2.2,.recs 4 true [] (y.2.1.map Bck.rc))])
   (fun z=>z.1<=R/\z.2.1.map Bck.b=O++bkBand w G ⟨lv,kd,x,y,bw,bh⟩ z.1/\∀ x∈z.2.1,x.on=false) (fun y=>R-y.1) (0,l,M) ⟨Nat.zero_le _,by simp only[bkBand,List.range_zero,List.flatMap_nil,List.append_nil];exact hl,hon⟩ (Sub.pt ?_) ?_
  ·simp -implicitDefEqProofs only[push_cast,zz,seval]
  intro ⟨r,l2,M2⟩ ⟨(hr:r<=R),(hl2:l2.map Bck.b=O++bkBand w G ⟨lv,kd,x,y,bw,bh⟩ r),(hon2:∀ x∈l2,x.on=false)⟩ K2 hK2
  by_cases hr':r<R
  ·have hri:(r:Int)<R:=by omega
   clear hK
   simp -implicitDefEqProofs only[push_cast,zz,seval,b157_2,hri]
   refine evS_loopU (A:=Nat×List Bck×Xf.Loc) kp157_3 kl157_3 (fun y=>[(57,.int .i64 y.1),(9,slB 24 y.2.2 y.2.1.length)])
    (fun y=>[(24,.mine,y.2.2,.recs 4 true [] (y.2.1.map Bck.rc))])
    (fun z=>z.1<=C/\z.2.1.map Bck.b=(O++bkBand w G ⟨lv,kd,x,y,bw,bh⟩ r)++bkRow w G ⟨lv,kd,x,y,bw,bh⟩ r z.1/\∀ x∈z.2.1,x.on=false) (fun y=>C-y.1) (0,l2,M2) ⟨Nat.zero_le _,by simp only[bkRow,List.range_zero,List.map_nil,List.append_nil];exact hl2,hon2⟩ (Sub.pt ?_) ?_
   ·simp -implicitDefEqProofs only[push_cast,zz,seval]
   intro ⟨c,l3,M3⟩ ⟨(hc:c<=C),(hl3:l3.map Bck.b=(O++bkBand w G ⟨lv,kd,x,y,bw,bh⟩ r)++bkRow w G ⟨lv,kd,x,y,bw,bh⟩ r c),(hon3:∀ x∈l3,x.on=false)⟩ K3 hK3
   by_cases hc':c<C
   ·have hci:(c:Int)<C:=by omega
    clear hK2
    obtain⟨kw,hkw⟩:∃ k,min 4 (bw-(c:Int)*4)=k:=⟨_,rfl⟩
    simp -implicitDefEqProofs only[push_cast,zz,seval,b157_3,hci,hkw]
    intro X3
    repeat refine om_ ?_
    have hkwv:kwB ⟨lv,kd,x,y,bw,bh⟩ c=kw:=hkw
    have hkhv:khB ⟨lv,kd,x,y,bw,bh⟩ r=min ((r:Int)*4+4) bh-(r:Int)*4:=rfl
    obtain⟨KW,hKW⟩:∃ k:Nat,kw=(k:Int):=⟨kw.toNat,by omega⟩
    obtain⟨KH,hKH⟩:∃ k:Nat,min ((r:Int)*4+4) bh-(r:Int)*4=(k:Int):=⟨(min ((r:Int)*4+4) bh-(r:Int)*4).toNat,by omega⟩
    rw[hKW]at hkwv
    rw[hKH]at hkhv
    obtain⟨b,hbb⟩:∃ b:Bd,b=⟨lv,kd,x,y,bw,bh⟩:=⟨_,rfl⟩
    refine evS_loopU (A:=Nat×Xf.Loc) kp157_4 kl157_4 (fun z=>[(18,.int .i64 (r*4+z.1))])
     (fun z=>[(20,.mine,X3 7 20,.cells [.sl 22 z.2 1 0 (plAll w b r c z.1).length,.int .i64 kw,.int .i64 (-1),.bool false]),(22,.mine,z.2,.ints .i64 (plAll w b r c z.1))])
     (fun z=>z.1<=KH) (fun z=>KH-z.1) (0,nilLoc) (Nat.zero_le _) (Sub.of (mkG 30 [(10,10),(14,14),(15,15),(20,20),(24,24),(26,26)]) ?_) ?_
    ·have e0:plAll w b r c 0=[]:=rfl
     simp -implicitDefEqProofs only[push_cast,zz,seval,e0]
    intro ⟨dy,P⟩ hdy K4 hK4
    have hdy:dy<=KH:=hdy
    by_cases hdy':dy<KH
    ·have hcond:(r:Int)*4+dy<min ((r:Int)*4+4) bh:=by omega
     clear hK3
     simp -implicitDefEqProofs only[push_cast,zz,seval,b157_4,hcond]
     repeat refine om_ ?_
     refine evS_loopU (A:=Nat×Xf.Loc) kp157_5 kl157_5 (fun z=>[(19,.int .i64 (c*4+z.1))])
      (fun z=>[(20,.mine,X3 7 20,.cells [.sl 22 z.2 1 0 (plAll w b r c dy++plRow w b r c dy z.1).length,.int .i64 kw,.int .i64 (-1),.bool false]),(22,.mine,z.2,.ints .i64 (plAll w b r c dy++plRow w b r c dy z.1))])
      (fun z=>z.1<=KW) (fun z=>KW-z.1) (0,P) (Nat.zero_le _) (Sub.pt ?_) ?_
     ·have e0:plAll w b r c dy++plRow w b r c dy 0=plAll w b r c dy:=by simp[plRow]
      simp only[e0]
      simp -implicitDefEqProofs only[push_cast,zz,seval]
     intro ⟨dx,Q⟩ hdx K5 hK5
     have hdx:dx<=KW:=hdx
     by_cases hdx':dx<KW
     ·have hcond2:(c:Int)*4+dx<(c:Int)*4+kw:=by omega
      clear hK4
      have hm:=mul_bd (a:=y+((r:Int)*4+dy)) (b:=w) (A:=200) (B:=200) (by omega) (by omega) (by omega) (by omega)
      have hv:(y+((r:Int)*4+dy))*w+x+((c:Int)*4+dx)=plF w b r c dy dx:=by rw[hbb];rfl
      have hpl:((plAll w b r c dy++plRow w b r c dy dx).length:Int)<=1000:=by
       rw[List.length_append,plAll_len,plRow_len]
       have h1:(kwB b c).toNat<=4:=by rw[hbb,hkwv];omega
       have h2:dy*(kwB b c).toNat<=4*4:=Nat.mul_le_mul (by omega) h1
       omega
      have hnx:plAll w b r c dy++plRow w b r c dy (dx+1)=(plAll w b r c dy++plRow w b r c dy dx)++[plF w b r c dy dx]:=by rw[plRow_succ,List.append_assoc]
      obtain⟨pl,hpl'⟩:∃ pl,plAll w b r c dy++plRow w b r c dy dx=pl:=⟨_,rfl⟩
      rw[hpl']at hpl hnx
      have hpf:0<=plF w b r c dy dx/\plF w b r c dy dx<=50000:=by rw[<-hv];omega
      simp -implicitDefEqProofs only[push_cast,zz,seval,b157_5,hcond2,hpl',hv]
      repeat refine om_ ?_
      intro X4
      repeat refine om_ ?_
      refine hK5 (dx+1,X4 14 22) (show dx+1<=KW by omega) (show KW-(dx+1)<KW-dx by omega) _ _ (Sub.pt ?_)
      have e19:(c:Int)*4+((dx:Int)+1)=(c:Int)*4+dx+1:=by omega
      simp -implicitDefEqProofs only[push_cast,zz,seval,hnx,List.length_append,e19]
     ·have hcond2:¬ (c:Int)*4+dx<(c:Int)*4+kw:=by omega
      clear hK5
      have hnx:plAll w b r c dy++plRow w b r c dy dx=plAll w b r c (dy+1):=by
       rw[plAll_succ,hbb,hkwv]
       have:dx=KW:=by omega
       rw[this,Int.toNat_natCast]
      simp -implicitDefEqProofs only[push_cast,zz,seval,b157_5,hcond2,hnx,r157_6]
      repeat refine om_ ?_
      refine hK4 (dy+1,Q) (show dy+1<=KH by omega) (show KH-(dy+1)<KH-dy by omega) _ _ (Sub.pt ?_)
      have e18:(r:Int)*4+((dy:Int)+1)=(r:Int)*4+dy+1:=by omega
      simp -implicitDefEqProofs only[push_cast,zz,seval,e18]
    ·have hcond:¬ (r:Int)*4+dy<min ((r:Int)*4+4) bh:=by omega
     clear hK4
     have hdk:dy=KH:=by omega
     have hpar:∀ q:Int,q=parP G F r c->(⟨plAll w b r c dy,kw,q⟩:Pb)=bkAt w G b r c:=fun q hq=>by
      unfold bkAt
      rw[hbb,hF,hkwv,hkhv,hdk,hq,hKW,Int.toNat_natCast]
     have hlen3:l3.length<=50000:=by
      have:=congrArg List.length hl3
      rw[List.length_map,List.length_append,List.length_append,bkBand_len,bkRow_len]at this
      have h1:r*(colsB ⟨lv,kd,x,y,bw,bh⟩).toNat<=50*50:=Nat.mul_le_mul (by omega) (by omega)
      omega
     have hlm:=bkMap_len l3
     have hsub:=sub_all (plAll w b r c dy)
     have hnx:∀ (q:Int) (T:Xf.Loc),q=parP G F r c->(l3++[(⟨T,⟨plAll w b r c dy,kw,q⟩,false⟩:Bck)]).map Bck.b=(O++bkBand w G ⟨lv,kd,x,y,bw,bh⟩ r)++bkRow w G ⟨lv,kd,x,y,bw,bh⟩ r (c+1):=fun q T hq=>by
      rw[bkRow_succ,<-List.append_assoc,<-hl3,List.map_append,<-hbb,<-hpar q hq]
      rfl
     have hon4:∀ (q:Int) (T:Xf.Loc),∀ x∈l3++[(⟨T,⟨plAll w b r c dy,kw,q⟩,false⟩:Bck)],x.on=false:=fun q T x hx=>by
      rcases List.mem_append.1 hx with h | h
      ·exact hon3 x h
      ·rw[List.mem_singleton]at h;rw[h]
     have hplb:((plAll w b r c dy).length:Int)<=1000:=by
      rw[plAll_len]
      have h1:(kwB b c).toNat<=4:=by rw[hbb,hkwv];omega
      have h2:dy*(kwB b c).toNat<=4*4:=Nat.mul_le_mul (by omega) h1
      omega
     obtain⟨pl,hpl'⟩:∃ pl,plAll w b r c dy=pl:=⟨_,rfl⟩
     rw[hpl']at hplb hsub hnx hon4
     cases hFF:F with
     | none=>
      have hq:(-1:Int)=parP G F r c:=by rw[hFF];rfl
      have hnx1:=fun T=>hnx _ T hq
      have hrc:∀ T:Xf.Loc,(l3++[(⟨T,⟨pl,kw,-1⟩,false⟩:Bck)]).map Bck.rc=l3.map Bck.rc++[[.row T .i64 pl,.int .i64 kw,.int .i64 (-1),.bool false]]:=fun T=>by rw[List.map_append];rfl
      simp -implicitDefEqProofs only[push_cast,zz,seval,b157_4,hcond,hpl',r157_7,r157_8,hFF,ptrG,hsub,hlm]
      repeat refine om_ ?_
      intro X4
      repeat refine om_ ?_
      refine hK3 (c+1,l3++[⟨P.fr 0,⟨pl,kw,-1⟩,false⟩],X4 3 24) ⟨show c+1<=C by omega,hnx1 _,hon4 _ _⟩ (show C-(c+1)<C-c by omega) _ _ (Sub.pt ?_)
      simp -implicitDefEqProofs only[push_cast,zz,seval,hrc,hFF,ptrG,List.length_append,esz]
     | some j=>
      rw[hFF]at hF
      have hjl:=findG_lt hF
      have rj:=recAt_Gr hjl []
      obtain⟨gok,gfr⟩:=f3 _ (by rw[rdGr_nat hjl];exact List.getElem_mem hjl:rdGr G j∈G)
      have hq0:parP G F r c=(rdGr G j).frm+min ((r:Int) / 2) (rowsB (rdGr G j).band-1)*colsB (rdGr G j).band+min ((c:Int) / 2) (colsB (rdGr G j).band-1):=by rw[hFF];rfl
      obtain⟨g,hg⟩:∃ g,rdGr G j=g:=⟨_,rfl⟩
      rw[hg]at rj gok gfr hq0
      have hgcr:=bd_cr gok
      obtain⟨gc,hgc⟩:∃ k,colsB g.band=k:=⟨_,rfl⟩
      obtain⟨gr,hgr⟩:∃ k,rowsB g.band=k:=⟨_,rfl⟩
      rw[hgc,hgr]at hgcr hq0
      have hpb:=par_bd (a:=min ((r:Int) / 2) (gr-1)) (c:=gc) (by omega) (by omega) (by omega) (by omega)
      obtain⟨q,hq⟩:∃ q,parP G F r c=q:=⟨_,rfl⟩
      rw[hq]at hq0
      have hq0':=hq0.symm
      have hnx1:=fun T=>hnx _ T hq.symm
      have hrc:∀ T:Xf.Loc,(l3++[(⟨T,⟨pl,kw,q⟩,false⟩:Bck)]).map Bck.rc=l3.map Bck.rc++[[.row T .i64 pl,.int .i64 kw,.int .i64 q,.bool false]]:=fun T=>by rw[List.map_append];rfl
      have hjn:j<i:=by omega
      simp -implicitDefEqProofs only[push_cast,zz,seval,b157_4,hcond,hpl',r157_7,r157_8,hFF,ptrG,hsub,hlm,rj,Gr.rc,hgl,hgc,hgr,hq0']
      repeat refine om_ ?_
      intro X4
      repeat refine om_ ?_
      refine hK3 (c+1,l3++[⟨P.fr 0,⟨pl,kw,q⟩,false⟩],X4 3 24) ⟨show c+1<=C by omega,hnx1 _,hon4 _ _⟩ (show C-(c+1)<C-c by omega) _ _ (Sub.pt ?_)
      simp -implicitDefEqProofs only[push_cast,zz,seval,hrc,hFF,ptrG,List.length_append,esz]
   ·have hcc:c=C:=by omega
    have hci:¬ (c:Int)<C:=by omega
    clear hK3
    rw[hcc,<-show(colsB ⟨lv,kd,x,y,bw,bh⟩).toNat=C by rw[hcols,Int.toNat_natCast],List.append_assoc,<-bkBand_succ]at hl3
    simp -implicitDefEqProofs only[push_cast,zz,seval,b157_3,hci,r157_9]
    repeat refine om_ ?_
    refine hK2 (r+1,l3,M3) ⟨show r+1<=R by omega,hl3,hon3⟩ (show R-(r+1)<R-r by omega) _ _ (Sub.pt ?_)
    simp -implicitDefEqProofs only[push_cast,zz,seval]
  ·have hrr:r=R:=by omega
   have hri:¬ (r:Int)<R:=by omega
   clear hK2
   have hfin:bkFold w (B.take (i+1))=(l2.map Bck.b,G++[⟨⟨lv,kd,x,y,bw,bh⟩,O.length⟩]):=by
    rw[hstep,bkStep,hl2,hrr]
    simp only[hrows,Int.toNat_natCast]
   have hgm:(G++[(⟨⟨lv,kd,x,y,bw,bh⟩,O.length⟩:Gr)]).map Gr.rc=G.map Gr.rc++[[.int .i64 lv,.int .i64 kd,.int .i64 x,.int .i64 y,.int .i64 bw,.int .i64 bh,.int .i64 O.length,.int .i64 C,.int .i64 R]]:=by
    rw[List.map_append]
    simp only[List.map_cons,List.map_nil,Gr.rc,hcols,hrows]
   have hfin2:(bkFold w (B.take (i+1))).2.map Gr.rc=G.map Gr.rc++[[.int .i64 lv,.int .i64 kd,.int .i64 x,.int .i64 y,.int .i64 bw,.int .i64 bh,.int .i64 O.length,.int .i64 C,.int .i64 R]]:=by rw[hfin,hgm]
   simp -implicitDefEqProofs only[push_cast,zz,seval,b157_2,hri,r157_10,r157_11,hgl,hll]
   intro X3
   repeat refine om_ ?_
   refine hK (i+1,l2,M2,X3 3 26) ⟨show i+1<=B.length by omega,by rw[hfin],hon2⟩ (show B.length-(i+1)<B.length-i by omega) _ _ (Sub.pt ?_)
   simp -implicitDefEqProofs only[push_cast,zz,seval,hfin2,esz]
 ·have hii:i=B.length:=by omega
  have hic:¬ (i:Int)<B.length:=by omega
  clear hK
  rw[hii,List.take_length]at hl
  have hll:l.length=(bkts w h n).length:=by rw[hbk,<-hl,List.length_map]
  have hbo:=bkOf_eq hl hon
  rw[<-hbk]at hbo
  have h10:∀ i:Nat,¬ i+1=0:=fun i=>by omega
  simp -implicitDefEqProofs only[push_cast,zz,seval,b157_1,hic,r157_12]
  refine postF.mk' (fun j=>if j=0 then M else (l.getD (j-1) default).L) [some 24] ?_
  simp -implicitDefEqProofs only[push_cast,zz,seval,fs157,h10,Nat.add_sub_cancel,hbo,hll]
def ent157:Entry:=spOf fs157 inv159
theorem e157:EntryOk Tryz.prog 157 ent157:=entry_of ok157 inv159
@[push_cast] theorem ent157_a u l x k:ent157 u l x k=spOf fs157 inv159 u l x k:=rfl
def ir203:IR:=
 .seq (r_ [o_ 4 (.mov (.k (.bool false)))] [4]) (.seq (R_ [m_ 5 0,n_ 6 5,f_ 7 6 2,l_ 8 7,m_ 9 1,i_ 10 8 9 1,L_ 11 10,c_ 12 .gtr 11 0,m_ 13 12,p_ 13 (m_ 14 0),p_ 13 (n_ 15 14),p_ 13 (f_ 16 15 2),p_ 13 (l_ 17 16),p_ 13 (m_ 18 1),p_ 13 (i_ 19 17 18 1),p_ 13 (L_ 20 19),p_ 13 (m_ 21 0),p_ 13 (n_ 22 21),p_ 13 (f_ 23 22 3),p_ 13 (l_ 24 23),p_ 13 (b_ 25 .leq 20 24),K_ 26 13 25,m_ 4 26] [0,1,5,6,7,8,9,10,11,12,13,14,15,16,17,18,19,20,21,22,23,24,25,26]) (.ret))
set_option maxRecDepth 4000 in
theorem comp203:(Tryz.f203.body.bind fun c=>compC tab isP chkAll ir203 c)=some ir203:=by kernel_rfl
def ir204:IR:=
 .seq (r_ [z_ 4 0] [4]) (.seq (.seq (R_ [m_ 5 0,n_ 6 5,f_ 7 6 2,l_ 8 7,m_ 9 1,i_ 10 8 9 1,L_ 11 10,m_ 12 0,n_ 13 12,f_ 14 13 3,l_ 15 14,b_ 16 .eql 11 15] [0,1,5,6,7,8,9,10,11,12,13,14,15]) (.cond (.t 16) (.seq (r_ [z_ 4 6] [16]) (.ret)) (.skip))) (.seq (r_ [z_ 4 7] [16]) (.ret)))
set_option maxRecDepth 4000 in
theorem comp204:(Tryz.f204.body.bind fun c=>compC tab isP chkAll ir204 c)=some ir204:=by kernel_rfl
def ir205:IR:=
 .seq (r_ [z_ 4 0] [4]) (.seq (r_ [z_ 5 8] []) (.seq (.seq (R_ [m_ 6 1,m_ 7 0,n_ 8 7,f_ 9 8 8,l_ 10 9,b_ 11 .rem 6 10,c_ 12 .gtr 11 0,m_ 13 12,p_ 13 (m_ 14 0),p_ 13 (n_ 15 14),p_ 13 (f_ 16 15 7),p_ 13 (l_ 17 16),p_ 13 (m_ 18 1),p_ 13 (c_ 19 .sub 18 1),p_ 13 (i_ 20 17 19 1),p_ 13 (L_ 21 20),p_ 13 (m_ 22 0),p_ 13 (n_ 23 22),p_ 13 (f_ 24 23 7),p_ 13 (l_ 25 24),p_ 13 (m_ 26 1),p_ 13 (i_ 27 25 26 1),p_ 13 (L_ 28 27),p_ 13 (b_ 29 .eql 21 28),K_ 30 13 29,m_ 31 30,p_ 31 (m_ 32 0),p_ 31 (n_ 33 32),p_ 31 (f_ 34 33 2),p_ 31 (l_ 35 34),p_ 31 (m_ 36 1),p_ 31 (c_ 37 .sub 36 1),p_ 31 (i_ 38 35 37 1),p_ 31 (L_ 39 38),p_ 31 (c_ 40 .gtr 39 0),K_ 41 31 40] [6,7,8,9,10,11,12,13,14,15,16,17,18,19,20,21,22,23,24,25,26,27,28,29,30,31,32,33,34,35,36,37,38,39,40]) (.cond (.t 41) (r_ [m_ 42 5,a_ 43 42 1,m_ 5 43] [41,42,43]) (.skip))) (.seq (.seq (R_ [m_ 44 1,m_ 45 0,n_ 46 45,f_ 47 46 8,l_ 48 47,b_ 49 .geq 44 48,m_ 50 49,p_ 50 (m_ 51 0),p_ 50 (n_ 52 51),p_ 50 (f_ 53 52 7),p_ 50 (l_ 54 53),p_ 50 (m_ 55 1),p_ 50 (m_ 56 0),p_ 50 (n_ 57 56),p_ 50 (f_ 58 57 8),p_ 50 (l_ 59 58),p_ 50 (b_ 60 .sub 55 59),p_ 50 (i_ 61 54 60 1),p_ 50 (L_ 62 61),p_ 50 (m_ 63 0),p_ 50 (n_ 64 63),p_ 50 (f_ 65 64 7),p_ 50 (l_ 66 65),p_ 50 (m_ 67 1),p_ 50 (i_ 68 66 67 1),p_ 50 (L_ 69 68),p_ 50 (b_ 70 .eql 62 69),K_ 71 50 70,m_ 72 71,p_ 72 (m_ 73 0),p_ 72 (n_ 74 73),p_ 72 (f_ 75 74 2),p_ 72 (l_ 76 75),p_ 72 (m_ 77 1),p_ 72 (m_ 78 0),p_ 72 (n_ 79 78),p_ 72 (f_ 80 79 8),p_ 72 (l_ 81 80),p_ 72 (b_ 82 .sub 77 81),p_ 72 (i_ 83 76 82 1),p_ 72 (L_ 84 83),p_ 72 (c_ 85 .gtr 84 0),K_ 86 72 85] [0,1,41,44,45,46,47,48,49,50,51,52,53,54,55,56,57,58,59,60,61,62,63,64,65,66,67,68,69,70,71,72,73,74,75,76,77,78,79,80,81,82,83,84,85]) (.cond (.t 86) (r_ [m_ 87 5,a_ 88 87 1,m_ 5 88] [86,87,88]) (.skip))) (.seq (r_ [m_ 89 5,m_ 4 89] [5,86,89]) (.ret)))))
set_option maxRecDepth 4000 in
theorem comp205:(Tryz.f205.body.bind fun c=>compC tab isP chkAll ir205 c)=some ir205:=by kernel_rfl
structure StL where
 L:Xf.Loc
 Z:Xf.Loc
 M:Xf.Loc
 I:Xf.Loc
 K:Xf.Loc
 S:Xf.Loc
 B:Xf.Loc
structure StS where
 size:List Int
 minus:List Bool
 since:List Int
 now:Int
 list:List Bck
 kind:Int
 nst:Int
 band:List Int
 w:Int
def stV (p:StL) (s:StS):List SV:=[.sl 1 p.Z 1 0 s.size.length,.sl 2 p.M 1 0 s.minus.length,.sl 3 p.I 1 0 s.since.length,.int .i64 s.now,slB 4 p.K s.list.length,.int .i64 s.kind,.sl 5 p.S 1 0 s.nst,.sl 6 p.B 1 0 s.band.length,.int .i64 s.w]
def stM (p:StL) (s:StS):Mem:=[some (.ro,p.L,.cells (stV p s)),some (.ro,p.Z,.ints .i64 s.size),some (.ro,p.M,.bools s.minus),some (.ro,p.I,.ints .i64 s.since),some (.ro,p.K,.recs 4 false [] (s.list.map Bck.rc)),none,some (.ro,p.B,.ints .i64 s.band)]
def getBk:List (List RC)->Option (List Bck)
 | []=>some []
 | [.row L .i64 xs,.int .i64 w,.int .i64 q,.bool on]::l=>match getBk l with | some r=>some (⟨L,⟨xs,w,q⟩,on⟩::r) | none=>none
 | _=>none
theorem getBk_map:∀ l:List Bck,getBk (l.map Bck.rc)=some l
 | []=>rfl
 | g::l=>by
  simp only[List.map_cons,Bck.rc,getBk]
  have:=getBk_map l
  rw[this]
@[push_cast] theorem getBk_map' (l:List Bck):getBk (l.map Bck.rc)=some l:=getBk_map l
def rowK (look:Look) (d:Nat):Option (Xf.Loc×List Bck):=
 match rowR (look d)with
  | some (L,4,_,r)=>match getBk r with | some l=>some (L,l) | none=>none
  | _=>none
def rowBl:Option ME->Option (Xf.Loc×List Bool)
 | some (_,L,.bools xs)=>some (L,xs)
 | _=>none
def invSt (look:Look) (c:Nat):Option (StL×StS×List Nat):=
 match rowC (look c)with
 | some (L,[.sl a _ 1 0 _,.sl b _ 1 0 _,.sl d _ 1 0 _,.int .i64 now,.sl e _ _ 0 _,.int .i64 kind,.sl f S 1 0 nst,.sl g _ 1 0 _,.int .i64 w])=>
  match rowI (look a),rowBl (look b),rowI (look d),rowK look e,rowI (look g)with
  | some (Z,.i64,size),some (M,minus),some (I,.i64,since),some (K,list),some (B,.i64,band)=>some (⟨L,Z,M,I,K,S,B⟩,⟨size,minus,since,now,list,kind,nst,band,w⟩,[c,a,b,d,e,f,g])
  | _,_,_,_,_=>none
 | _=>none
attribute [push_cast] rowK rowBl invSt
def stWf (s:StS) (n:Nat):Prop:=s.size.length=n/\s.minus.length=n/\s.since.length=n/\s.band.length=n/\n<=8192/\0<=s.now/\s.now<=1000/\s.list.length<=50000/\(0<n->0<s.w)/\s.w<=200 /\
 ∀ b∈s.list,-1<=b.b.parent/\b.b.parent<s.list.length/\b.b.places.length<=16/\∀ x∈b.b.places,0<=x/\x<n
structure SAtA where
 p:StL
 s:StS
 at_:Int
def sAtOk (a:SAtA):Prop:=stWf a.s a.s.since.length/\0<=a.at_/\a.at_<a.s.since.length
def invAt:List SV->Look->Option (SAtA×List Nat)
 | [.ptr c _ 0 0 0,.int .i64 i],look=>match invSt look c with
  | some (p,s,g)=>some (⟨p,s,i⟩,g)
  | none=>none
 | _,_=>none
attribute [push_cast] invAt
def oldP (s:StS) (i:Int):Prop:=0<rd s.since i/\rd s.since i<=s.now
instance oldP_dec (s:StS) (i:Int):Decidable (oldP s i):=by unfold oldP;infer_instance
def fs203:FS where
 A:=SAtA
 args:=fun a=>[.ptr 0 a.p.L 0 0 0,.int .i64 a.at_]
 mem:=fun a=>stM a.p a.s
 pre:=sAtOk
 res:=fun a _=>.bool (decide (oldP a.s a.at_))
theorem ok203:FSOk Tryz.prog 203 fs203:=by
 refine hd_ (fk_ Tryz.func203) fun a hp=>?_
 obtain⟨p,s,i⟩:=a
 obtain⟨h1,h2,h3⟩:stWf s s.since.length/\0<=i/\i<s.since.length:=hp
 change Tri Tryz.prog 203 [.ptr 0 p.L 0 0 0,.int .i64 i] (stM p s) (postF fs203 ⟨p,s,i⟩)
 have hd:decide (oldP s i)=(if 0<rd s.since i then decide (rd s.since i<=s.now)else false):=by
  by_cases h:0<rd s.since i<;>simp[oldP,h]
 refine tri_evS (hyp (l:=[]) (lp:=[]) trivial trivial) Tryz.func203 comp203 (rs:=[.tmp 4]) (by rfl) Tryz.ntmps203 10 ?_
 by_cases h:0<rd s.since i
 ·rw[if_pos h]at hd
  simp -implicitDefEqProofs only[push_cast,zz,seval,ir203,stM,stV,h]
  repeat refine om_ ?_
  refine postF.mk' (fun _=>default) [some 0,some 1,some 2,some 3,some 4,none,some 6] ?_
  simp -implicitDefEqProofs only[push_cast,zz,seval,fs203,stM,stV,hd]
 ·rw[if_neg h]at hd
  simp -implicitDefEqProofs only[push_cast,zz,seval,ir203,stM,stV,h]
  repeat refine om_ ?_
  refine postF.mk' (fun _=>default) [some 0,some 1,some 2,some 3,some 4,none,some 6] ?_
  simp -implicitDefEqProofs only[push_cast,zz,seval,fs203,stM,stV,hd]
def ent203:Entry:=spOf fs203 invAt
theorem e203:EntryOk Tryz.prog 203 ent203:=entry_of ok203 invAt
@[push_cast] theorem ent203_a u l x k:ent203 u l x k=spOf fs203 invAt u l x k:=rfl
def dctxP (s:StS) (i:Int):Int:=if rd s.since i=s.now then 6 else 7
def fs204:FS where
 A:=SAtA
 args:=fun a=>[.ptr 0 a.p.L 0 0 0,.int .i64 a.at_]
 mem:=fun a=>stM a.p a.s
 pre:=sAtOk
 res:=fun a _=>.int .i64 (dctxP a.s a.at_)
theorem ok204:FSOk Tryz.prog 204 fs204:=by
 refine hd_ (fk_ Tryz.func204) fun a hp=>?_
 obtain⟨p,s,i⟩:=a
 obtain⟨h1,h2,h3⟩:stWf s s.since.length/\0<=i/\i<s.since.length:=hp
 change Tri Tryz.prog 204 [.ptr 0 p.L 0 0 0,.int .i64 i] (stM p s) (postF fs204 ⟨p,s,i⟩)
 refine tri_evS (hyp (l:=[]) (lp:=[]) trivial trivial) Tryz.func204 comp204 (rs:=[.tmp 4]) (by rfl) Tryz.ntmps204 10 ?_
 by_cases h:rd s.since i=s.now
 ·have hd:dctxP s i=6:=if_pos h
  simp -implicitDefEqProofs only[push_cast,zz,seval,ir204,stM,stV,h]
  repeat refine om_ ?_
  refine postF.mk' (fun _=>default) [some 0,some 1,some 2,some 3,some 4,none,some 6] ?_
  simp -implicitDefEqProofs only[push_cast,zz,seval,fs204,stM,stV,hd]
 ·have hd:dctxP s i=7:=if_neg h
  simp -implicitDefEqProofs only[push_cast,zz,seval,ir204,stM,stV,h]
  repeat refine om_ ?_
  refine postF.mk' (fun _=>default) [some 0,some 1,some 2,some 3,some 4,none,some 6] ?_
  simp -implicitDefEqProofs only[push_cast,zz,seval,fs204,stM,stV,hd]
def ent204:Entry:=spOf fs204 invAt
theorem e204:EntryOk Tryz.prog 204 ent204:=entry_of ok204 invAt
@[push_cast] theorem ent204_a u l x k:ent204 u l x k=spOf fs204 invAt u l x k:=rfl
def leftP (s:StS) (i:Int):Prop:=0<i % s.w/\rd s.band (i-1)=rd s.band i/\0<rd s.since (i-1)
def upP (s:StS) (i:Int):Prop:=s.w<=i/\rd s.band (i-s.w)=rd s.band i/\0<rd s.since (i-s.w)
instance leftP_dec (s:StS) (i:Int):Decidable (leftP s i):=by unfold leftP;infer_instance
instance upP_dec (s:StS) (i:Int):Decidable (upP s i):=by unfold upP;infer_instance
def nctxP (s:StS) (i:Int):Int:=8+(if leftP s i then 1 else 0)+(if upP s i then 1 else 0)
def fs205:FS where
 A:=SAtA
 args:=fun a=>[.ptr 0 a.p.L 0 0 0,.int .i64 a.at_]
 mem:=fun a=>stM a.p a.s
 pre:=sAtOk
 res:=fun a _=>.int .i64 (nctxP a.s a.at_)
set_option maxHeartbeats 1000000 in
theorem ok205:FSOk Tryz.prog 205 fs205:=by
 refine hd_ (fk_ Tryz.func205) fun a hp=>?_
 obtain⟨p,s,i⟩:=a
 obtain⟨h1,h2,h3⟩:stWf s s.since.length/\0<=i/\i<s.since.length:=hp
 obtain⟨o1,o2,o3,o4,o5,o6,o7,o8,o9,o10,o11⟩:=h1
 have o9:=o9 (by omega)
 change Tri Tryz.prog 205 [.ptr 0 p.L 0 0 0,.int .i64 i] (stM p s) (postF fs205 ⟨p,s,i⟩)
 have hm:i % s.w<=i:=by
  have:=Int.emod_add_mul_ediv i s.w
  have:=Int.mul_nonneg (Int.le_of_lt o9) (Int.ediv_nonneg h2 (Int.le_of_lt o9))
  omega
 have hm0:0<=i % s.w:=Int.emod_nonneg _ (by omega)
 have hn:nctxP s i=8+(if leftP s i then 1 else 0)+(if upP s i then 1 else 0):=rfl
 refine tri_evS (hyp (l:=[]) (lp:=[]) trivial trivial) Tryz.func205 comp205 (rs:=[.tmp 4]) (by rfl) Tryz.ntmps205 10 ?_
 by_cases hL:leftP s i
 ·obtain⟨l1,l2,l3⟩:=id hL
  rw[if_pos hL]at hn
  by_cases hU:upP s i
  ·obtain⟨u1,u2,u3⟩:=id hU
   rw[if_pos hU]at hn
   simp -implicitDefEqProofs only[push_cast,zz,seval,ir205,stM,stV,l1,l2,l3,u1,u2,u3]
   repeat refine om_ ?_
   refine postF.mk' (fun _=>default) [some 0,some 1,some 2,some 3,some 4,none,some 6] ?_
   simp -implicitDefEqProofs only[push_cast,zz,seval,fs205,stM,stV,hn]
  ·have hU':¬ (s.w<=i/\rd s.band (i-s.w)=rd s.band i/\0<rd s.since (i-s.w)):=hU
   rw[if_neg hU]at hn
   simp -implicitDefEqProofs only[push_cast,zz,seval,ir205,stM,stV,l1,l2,l3,hU']
   repeat refine om_ ?_
   refine postF.mk' (fun _=>default) [some 0,some 1,some 2,some 3,some 4,none,some 6] ?_
   simp -implicitDefEqProofs only[push_cast,zz,seval,fs205,stM,stV,hn]
 ·have hL':¬ (0<i % s.w/\rd s.band (i-1)=rd s.band i/\0<rd s.since (i-1)):=hL
  rw[if_neg hL]at hn
  by_cases hU:upP s i
  ·obtain⟨u1,u2,u3⟩:=id hU
   rw[if_pos hU]at hn
   simp -implicitDefEqProofs only[push_cast,zz,seval,ir205,stM,stV,hL',u1,u2,u3]
   repeat refine om_ ?_
   refine postF.mk' (fun _=>default) [some 0,some 1,some 2,some 3,some 4,none,some 6] ?_
   simp -implicitDefEqProofs only[push_cast,zz,seval,fs205,stM,stV,hn]
  ·have hU':¬ (s.w<=i/\rd s.band (i-s.w)=rd s.band i/\0<rd s.since (i-s.w)):=hU
   rw[if_neg hU]at hn
   simp -implicitDefEqProofs only[push_cast,zz,seval,ir205,stM,stV,hL',hU']
   repeat refine om_ ?_
   refine postF.mk' (fun _=>default) [some 0,some 1,some 2,some 3,some 4,none,some 6] ?_
   simp -implicitDefEqProofs only[push_cast,zz,seval,fs205,stM,stV,hn]
def ent205:Entry:=spOf fs205 invAt
theorem e205:EntryOk Tryz.prog 205 ent205:=entry_of ok205 invAt
@[push_cast] theorem ent205_a u l x k:ent205 u l x k=spOf fs205 invAt u l x k:=rfl
def b164_1:IR:=
 .seq (r_ [b_ 15 .lss 14 13] []) (.seq (.cond (.t 15) (.skip) (.exit 0)) (.seq (.block 1 (.seq (r_ [i_ 16 12 14 1,L_ 17 16,m_ 9 17] [15,16,17]) (.seq (r_ [m_ 18 0,m_ 19 9,o_ 20 (.call (some 4) 11 203 [.t 18,.t 19])] [9,18,19]) (.cond (.t 20) (r_ [z_ 6 1] [20]) (r_ [o_ 7 (.mov (.k (.bool false)))] [20]))))) (r_ [a_ 21 14 1,m_ 14 21] [21])))
def r164_2:IR:=
 .seq (r_ [z_ 10 0] [12,13,14]) (.seq (.seq (r_ [f_ 22 3 2,l_ 23 22,c_ 24 .geq 23 0] [22,23]) (.cond (.t 24) (.seq (r_ [z_ 10 1] [24]) (.seq (R_ [m_ 25 0,n_ 26 25,f_ 27 26 4,l_ 28 27,f_ 29 3 2,l_ 30 29,i_ 31 28 30 4,f_ 32 31 3,L_ 33 32] [0,3,25,26,27,28,29,30,31,32]) (.cond (.t 33) (r_ [z_ 10 2] [33]) (.skip)))) (.skip))) (.seq (r_ [m_ 34 10,o_ 35 (.bin 0 .mul (Z_ 2) (.t 34)),m_ 36 6,b_ 37 .add 35 36,m_ 38 7,o_ 39 (.not (.t 38)),m_ 4 37,m_ 5 39] [0,3,6,7,10,24,33,34,35,36,37,38,39]) (.ret)))
def ir164:IR:=
 .seq (r_ [o_ 3 (.box 10 (.t 1)),z_ 4 0,o_ 5 (.mov (.k (.bool false)))] [1,4,5]) (.seq (r_ [z_ 6 0,o_ 7 (.mov (.k (.bool true)))] []) (.seq (.seq (r_ [f_ 11 3 0,l_ 12 11,h_ 13 12,z_ 14 0] [11]) (.block 0 (.loop b164_1))) (r164_2)))
def kp164_1:List Nat:=[0,3,6,7,12,13,14]
def kl164_1:List Nat:=[11,12,13,14]
attribute [push_cast] kp164_1 kl164_1
set_option maxRecDepth 4000 in
theorem comp164:(Tryz.f164.body.bind fun c=>compC tab isP chkAll ir164 c)=some ir164:=by kernel_rfl
def ir206:IR:=
 R_ [m_ 6 0,n_ 7 6,f_ 8 7 2,l_ 9 8,m_ 10 1,m_ 11 0,n_ 12 11,f_ 13 12 1,l_ 14 13,m_ 15 1,m_ 16 0,n_ 17 16,f_ 18 17 3,l_ 19 18,a_ 20 19 1,m_ 21 2,i_ 22 9 10 1,S_ 1 .i64 22 20,i_ 23 14 15 1,S_ 1 .i64 23 21] [0,1,2,6,7,8,9,10,11,12,13,14,15,16,17,18,19,20,21,22,23]
set_option maxRecDepth 4000 in
theorem comp206:(Tryz.f206.body.bind fun c=>compC tab isP chkAll ir206 c)=some ir206:=by kernel_rfl
def ir163:IR:=
 .seq (r_ [o_ 3 (.mov (.k (.bool false)))] [3]) (.seq (R_ [l_ 4 0,l_ 5 1,i_ 6 4 5 1,L_ 7 6,o_ 8 (.callp 99 [.t 7]),l_ 9 2,b_ 10 .shr 8 9,c_ 11 .and 10 1,c_ 12 .eql 11 1,m_ 3 12] [0,1,2,4,5,6,7,8,9,10,11,12]) (.ret))
set_option maxRecDepth 4000 in
theorem comp163:(Tryz.f163.body.bind fun c=>compC tab isP chkAll ir163 c)=some ir163:=by kernel_rfl
def ir168:IR:=
 .seq (r_ [o_ 2 (.mov (.k (.bool false)))] [2]) (.seq (r_ [l_ 3 0,l_ 4 1,i_ 5 3 4 1,L_ 6 5,c_ 7 .lss 6 0,m_ 2 7] [0,1,3,4,5,6,7]) (.ret))
set_option maxRecDepth 4000 in
theorem comp168:(Tryz.f168.body.bind fun c=>compC tab isP chkAll ir168 c)=some ir168:=by kernel_rfl
def ir162:IR:=
 .seq (r_ [o_ 3 (.box 20 (.t 0)),o_ 4 (.mov (.k (.val .nilFunc)))] [0,4]) (.seq (r_ [o_ 5 (.mkf 163 [.t 1,.t 3,.t 2]),m_ 4 5] [1,2,3,5]) (.ret))
set_option maxRecDepth 4000 in
theorem comp162:(Tryz.f162.body.bind fun c=>compC tab isP chkAll ir162 c)=some ir162:=by kernel_rfl
def rdBk (l:List Bck) (i:Nat):Bck:=l.getD i default
theorem recAt_Bk {l:List Bck} {i:Nat} (h:i<l.length) (z:List RC):recAt (i:Int) z (l.map Bck.rc)=(rdBk l i).rc:=by
 simp[recAt,rdBk,h]
theorem rdBk_nat {l:List Bck} {i:Nat} (h:i<l.length):rdBk l i=l[i]:=by simp[rdBk,h]
def Bck.sv (x:Bck) (c:Nat):SV:=.agg [.sl c x.L 1 0 x.b.places.length,.int .i64 x.b.w,.int .i64 x.b.parent,.bool x.on]
structure BkA where
 p:StL
 s:StS
 b:Bck
def bkWf (s:StS) (b:Pb):Prop:=-1<=b.parent/\b.parent<s.list.length/\b.places.length<=16/\∀ x∈b.places,0<=x/\x<s.since.length
def someP (s:StS) (pl:List Int):Bool:=pl.any fun x=>decide (oldP s x)
def allP (s:StS) (pl:List Int):Bool:=pl.all fun x=>decide (oldP s x)
def abP (s:StS) (q:Int):Int:=if 0<=q then (if (rdBk s.list q.toNat).on=true then 2 else 1)else 0
def bctxP (s:StS) (b:Pb):Int:=2*abP s b.parent+(if someP s b.places=true then 1 else 0)
def invBk:List SV->Look->Option (BkA×List Nat)
 | [.ptr c _ 0 0 0,.agg [.sl d _ 1 0 _,.int .i64 w,.int .i64 q,.bool on]],look=>match invSt look c,rowI (look d)with
  | some (p,s,g),some (L,.i64,xs)=>some (⟨p,s,⟨L,⟨xs,w,q⟩,on⟩⟩,g++[d])
  | _,_=>none
 | _,_=>none
attribute [push_cast] invBk
theorem any_take {pl:List Int} {f:Int->Bool} {i:Nat} (h:i<pl.length):(pl.take (i+1)).any f=((pl.take i).any f||f (rd pl (i:Nat))):=by
 rw[List.take_succ_eq_append_getElem h,List.any_append,rd_lt pl i h];simp
theorem all_take {pl:List Int} {f:Int->Bool} {i:Nat} (h:i<pl.length):(pl.take (i+1)).all f=((pl.take i).all f&&f (rd pl (i:Nat))):=by
 rw[List.take_succ_eq_append_getElem h,List.all_append,rd_lt pl i h];simp
theorem rd_mem {pl:List Int} {i:Nat} (h:i<pl.length):rd pl (i:Nat)∈pl:=by rw[rd_lt pl i h];exact List.getElem_mem h
def fs164:FS where
 A:=BkA
 args:=fun a=>[.ptr 0 a.p.L 0 0 0,a.b.sv 7]
 mem:=fun a=>stM a.p a.s++[some (.ro,a.b.L,.ints .i64 a.b.b.places)]
 pre:=fun a=>stWf a.s a.s.since.length/\bkWf a.s a.b.b
 res:=fun a _=>.tup [.int .i64 (bctxP a.s a.b.b),.bool (!allP a.s a.b.b.places)]
set_option maxHeartbeats 1000000 in
theorem ok164:FSOk Tryz.prog 164 fs164:=by
 refine hd_ (fk_ Tryz.func164) fun a hp=>?_
 obtain⟨p,s,⟨L,⟨pl,w,q⟩,on⟩⟩:=a
 obtain⟨h1,h2,h3,h4,h5⟩:stWf s s.since.length/\-1<=q/\q<s.list.length/\pl.length<=16/\∀ x∈pl,0<=x/\x<s.since.length:=hp
 have hst:=h1
 obtain⟨o1,o2,o3,o4,o5,o6,o7,o8,o9,o10,o11⟩:=h1
 change Tri Tryz.prog 164 [.ptr 0 p.L 0 0 0,.agg [.sl 7 L 1 0 pl.length,.int .i64 w,.int .i64 q,.bool on]] (stM p s++[some (.ro,L,.ints .i64 pl)]) (postF fs164 ⟨p,s,⟨L,⟨pl,w,q⟩,on⟩⟩)
 have hfin:bctxP s ⟨pl,w,q⟩=2*abP s q+(if someP s pl=true then 1 else 0):=rfl
 refine tri_evS (hyp (l:=[(203,ent203)]) (lp:=[]) ⟨e203,trivial⟩ trivial) Tryz.func164 comp164 (rs:=[.tmp 4,.tmp 5]) (by rfl) Tryz.ntmps164 15 ?_
 simp -implicitDefEqProofs only[push_cast,zz,seval,ir164,stM,stV]
 intro X
 refine evS_loopU (A:=Nat) kp164_1 kl164_1 (fun i=>[(6,.int .i64 (if someP s (pl.take i)=true then 1 else 0)),(7,.bool (allP s (pl.take i))),(14,.int .i64 i)]) (fun i=>[]) (fun i=>i<=pl.length) (fun i=>pl.length-i) 0 (Nat.zero_le _) (Sub.pt ?_) ?_
 ·have e0:someP s (pl.take 0)=false:=rfl
  have e1:allP s (pl.take 0)=true:=rfl
  simp -implicitDefEqProofs only[push_cast,zz,seval,e0,e1]
 intro i hi K hK
 have hi:i<=pl.length:=hi
 by_cases hi':i<pl.length
 ·have hii:(i:Int)<pl.length:=by omega
  have hx:=h5 _ (rd_mem hi')
  have ha:someP s (pl.take (i+1))=(someP s (pl.take i)||decide (oldP s (rd pl (i:Nat)))):=any_take hi'
  have hb:allP s (pl.take (i+1))=(allP s (pl.take i)&&decide (oldP s (rd pl (i:Nat)))):=all_take hi'
  obtain⟨x,hxx⟩:∃ x,rd pl (i:Int)=x:=⟨_,rfl⟩
  rw[hxx]at hx ha hb
  by_cases hold:oldP s x
  ·have e1:decide (oldP s x)=true:=decide_eq_true hold
   rw[e1,Bool.or_true]at ha
   rw[e1,Bool.and_true]at hb
   simp -implicitDefEqProofs only[push_cast,zz,seval,b164_1,stM,stV,fs203,sAtOk,hst,hx,hxx,hii,hold]
   repeat refine om_ ?_
   refine hK (i+1) (show i+1<=pl.length by omega) (show pl.length-(i+1)<pl.length-i by omega) _ _ (Sub.pt ?_)
   simp -implicitDefEqProofs only[push_cast,zz,seval,stM,stV,ha,hb]
  ·have e1:decide (oldP s x)=false:=decide_eq_false hold
   rw[e1,Bool.or_false]at ha
   rw[e1,Bool.and_false]at hb
   simp -implicitDefEqProofs only[push_cast,zz,seval,b164_1,stM,stV,fs203,sAtOk,hst,hx,hxx,hii,hold]
   repeat refine om_ ?_
   refine hK (i+1) (show i+1<=pl.length by omega) (show pl.length-(i+1)<pl.length-i by omega) _ _ (Sub.pt ?_)
   simp -implicitDefEqProofs only[push_cast,zz,seval,stM,stV,ha,hb]
 ·obtain rfl:i=pl.length:=by omega
  clear hK
  obtain⟨u,hu⟩:∃ u,(if someP s pl=true then (1:Int)else 0)=u:=⟨_,rfl⟩
  have hub:0<=u/\u<=1:=by rw[<-hu];split<;>omega
  rw[hu]at hfin
  have hlm:=bkMap_len s.list
  by_cases hq:0<=q
  ·obtain⟨k,rfl⟩:∃ k:Nat,q=k:=⟨q.toNat,by omega⟩
   have he4:esz 4 s.list.length=4:=esz_pos (by omega)
   have rk:=recAt_Bk (l:=s.list) (i:=k) (by omega) []
   have hab:abP s (k:Int)=if (rdBk s.list k).on=true then 2 else 1:=by unfold abP;rw[if_pos hq,Int.toNat_natCast]
   obtain⟨⟨L',b',on'⟩,hbk⟩:∃ b,rdBk s.list k=b:=⟨_,rfl⟩
   rw[hbk]at rk hab
   simp only at hab
   cases on' with
   | true=>
    rw[if_pos rfl]at hab
    rw[hab]at hfin
    simp -implicitDefEqProofs only[push_cast,zz,seval,b164_1,r164_2,stM,stV,Int.lt_irrefl,List.take_length,hu,hq,rk,Bck.rc,hlm,he4]
    repeat refine om_ ?_
    refine postF.mk' (fun _=>default) [some 0,some 1,some 2,some 3,some 4,none,some 6,some 7] ?_
    simp -implicitDefEqProofs only[push_cast,zz,seval,fs164,stM,stV,hfin,he4]
   | false=>
    rw[if_neg (by decide)]at hab
    rw[hab]at hfin
    simp -implicitDefEqProofs only[push_cast,zz,seval,b164_1,r164_2,stM,stV,Int.lt_irrefl,List.take_length,hu,hq,rk,Bck.rc,hlm,he4]
    repeat refine om_ ?_
    refine postF.mk' (fun _=>default) [some 0,some 1,some 2,some 3,some 4,none,some 6,some 7] ?_
    simp -implicitDefEqProofs only[push_cast,zz,seval,fs164,stM,stV,hfin,he4]
  ·have hab:abP s q=0:=if_neg hq
   rw[hab]at hfin
   simp -implicitDefEqProofs only[push_cast,zz,seval,b164_1,r164_2,stM,stV,Int.lt_irrefl,List.take_length,hu,hq]
   repeat refine om_ ?_
   refine postF.mk' (fun _=>default) [some 0,some 1,some 2,some 3,some 4,none,some 6,some 7] ?_
   simp -implicitDefEqProofs only[push_cast,zz,seval,fs164,stM,stV,hfin]
def ent164:Entry:=spOf fs164 invBk
theorem e164:EntryOk Tryz.prog 164 ent164:=entry_of ok164 invBk
@[push_cast] theorem ent164_a u l x k:ent164 u l x k=spOf fs164 invBk u l x k:=rfl
structure BcA where
 p:StL
 s:StS
 at_:Int
 b:Bool
def invBc:List SV->Look->Option (BcA×List Nat)
 | [.ptr c _ 0 0 0,.int .i64 i,.bool b],look=>match invSt look c with
  | some (p,s,g)=>some (⟨p,s,i,b⟩,g)
  | none=>none
 | _,_=>none
attribute [push_cast] invBc
def fs206:FS where
 A:=BcA
 args:=fun a=>[.ptr 0 a.p.L 0 0 0,.int .i64 a.at_,.bool a.b]
 mem:=fun a=>[some (.ro,a.p.L,.cells (stV a.p a.s)),none,some (.lent,a.p.M,.bools a.s.minus),some (.lent,a.p.I,.ints .i64 a.s.since),none,none,none]
 pre:=fun a=>stWf a.s a.s.since.length/\0<=a.at_/\a.at_<a.s.since.length
 res:=fun a _=>.tup []
 out:=fun a _=>[none,none,some (some (.bools (a.s.minus.set a.at_.toNat a.b))),some (some (.ints .i64 (a.s.since.set a.at_.toNat (a.s.now+1))))]
theorem ok206:FSOk Tryz.prog 206 fs206:=by
 refine hd_ (fk_ Tryz.func206) fun a hp=>?_
 obtain⟨p,s,i,b⟩:=a
 obtain⟨h1,h2,h3⟩:stWf s s.since.length/\0<=i/\i<s.since.length:=hp
 obtain⟨o1,o2,o3,o4,o5,o6,o7,o8,o9,o10,o11⟩:=h1
 change Tri Tryz.prog 206 [.ptr 0 p.L 0 0 0,.int .i64 i,.bool b] [some (.ro,p.L,.cells (stV p s)),none,some (.lent,p.M,.bools s.minus),some (.lent,p.I,.ints .i64 s.since),none,none,none] (postF fs206 ⟨p,s,i,b⟩)
 refine tri_evS (hyp (l:=[]) (lp:=[]) trivial trivial) Tryz.func206 comp206 (rs:=[]) (by rfl) Tryz.ntmps206 10 ?_
 simp -implicitDefEqProofs only[push_cast,zz,seval,ir206,stV]
 repeat refine om_ ?_
 refine postF.mk' (fun _=>default) [some 0,none,some 2,some 3,none,none,none] ?_
 simp -implicitDefEqProofs only[push_cast,zz,seval,fs206,stV]
def ent206:Entry:=spOf fs206 invBc
theorem e206:EntryOk Tryz.prog 206 ent206:=entry_of ok206 invBc
@[push_cast] theorem ent206_a u l x k:ent206 u l x k=spOf fs206 invBc u l x k:=rfl
theorem and_1 {x:Int} (h0:0<=x) (h1:x<9223372036854775808):bitop .and .i64 x 1=x % 2:=by
 obtain⟨k,rfl⟩:∃ k:Nat,x=k:=⟨x.toNat,by omega⟩
 have e:((BitVec.ofInt 64 (k:Int)) &&& (BitVec.ofInt 64 1)).toNat=k % 2:=by
  rw[BitVec.toNat_and,BitVec.toNat_ofInt,BitVec.toNat_ofInt]
  rw[show(((1:Int) % ((2^64:Nat):Int)).toNat)=2^1-1 by decide,Nat.and_two_pow_sub_one_eq_mod]
  omega
 show IntKind.i64.wrap _=_
 have e':(BitVec.toNat ((BitVec.ofInt IntKind.i64.bits (k:Int)) &&& (BitVec.ofInt IntKind.i64.bits 1)))=k % 2:=e
 simp only[e']
 rw[inR_wrap (k:=.i64) (by simp only[inR,push_cast];omega)]
 omega
def absI (n:Int):Int:=max n (-n)
def digP (f:List Int) (x t:Int):Bool:=decide (absI (rd f x) / 2^t.toNat % 2=1)
def ofWf (f:List Int) (n:Nat):Prop:=f.length=n/\∀ x∈f,-1000000000<=x/\x<=1000000000
theorem ofWf.at {f:List Int} {n:Nat} (h:ofWf f n) {i:Int} (h0:0<=i) (h1:i<n):-1000000000<=rd f i/\rd f i<=1000000000:=by
 obtain⟨k,rfl⟩:∃ k:Nat,i=k:=⟨i.toNat,by omega⟩
 obtain⟨a,b⟩:=h
 rw[rd_lt f k (by omega)]
 exact b _ (List.getElem_mem _)
theorem dig_bd {v:Int} (h0:-1000000000<=v) (h1:v<=1000000000) (t:Nat):0<=max v (-v) / 2^t/\max v (-v) / 2^t<9223372036854775808:=by
 have a:=Int.ediv_nonneg (a:=max v (-v)) (b:=2^t) (by omega) (Int.le_of_lt (pow_pos' t))
 have b:max v (-v) / 2^t<=max v (-v):=Int.ediv_le_self _ (by omega)
 exact⟨a,by omega⟩
theorem bits_i64:((IntKind.i64.bits:Nat):Int)=64:=rfl
structure WdA where
 L1:Xf.Loc
 L2:Xf.Loc
 L3:Xf.Loc
 F:Xf.Loc
 f:List Int
 at_:Int
 t:Int
def wdM (a:WdA):Mem:=[some (.ro,a.L1,.cells [.sl 3 a.F 1 0 a.f.length]),some (.ro,a.L2,.cells [.int .i64 a.at_]),some (.ro,a.L3,.cells [.int .i64 a.t]),some (.ro,a.F,.ints .i64 a.f)]
def invWd:List SV->Look->Option (WdA×List Nat)
 | [.ptr a _ 0 0 0,.ptr b _ 0 0 0,.ptr c _ 0 0 0],look=>match rowC (look a),rowC (look b),rowC (look c)with
  | some (L1,[.sl d _ 1 0 _]),some (L2,[.int .i64 i]),some (L3,[.int .i64 t])=>match rowI (look d)with
   | some (F,.i64,f)=>some (⟨L1,L2,L3,F,f,i,t⟩,[a,b,c,d])
   | _=>none
  | _,_,_=>none
 | _,_=>none
attribute [push_cast] invWd
def fs163:FS where
 A:=WdA
 args:=fun a=>[.ptr 0 a.L1 0 0 0,.ptr 1 a.L2 0 0 0,.ptr 2 a.L3 0 0 0]
 mem:=wdM
 pre:=fun a=>ofWf a.f a.f.length/\0<=a.at_/\a.at_<a.f.length/\0<=a.t/\a.t<=60
 res:=fun a _=>.bool (digP a.f a.at_ a.t)
theorem ok163:FSOk Tryz.prog 163 fs163:=by
 refine hd_ (fk_ Tryz.func163) fun a hp=>?_
 obtain⟨L1,L2,L3,F,f,i,t⟩:=a
 obtain⟨h1,h2,h3,h4,h5⟩:ofWf f f.length/\0<=i/\i<f.length/\0<=t/\t<=60:=hp
 have hv:=h1.at h2 h3
 have hb64:=bits_i64
 change Tri Tryz.prog 163 [.ptr 0 L1 0 0 0,.ptr 1 L2 0 0 0,.ptr 2 L3 0 0 0] (wdM ⟨L1,L2,L3,F,f,i,t⟩) (postF fs163 ⟨L1,L2,L3,F,f,i,t⟩)
 have hd:digP f i t=decide (max (rd f i) (-rd f i) / 2^t.toNat % 2=1):=rfl
 obtain⟨v,hvv⟩:∃ v,rd f i=v:=⟨_,rfl⟩
 rw[hvv]at hv hd
 have hdb:=dig_bd hv.1 hv.2 t.toNat
 have ha:=and_1 hdb.1 hdb.2
 refine tri_evS (hyp (l:=[]) (lp:=[(99,absF)]) trivial ⟨p99,trivial⟩) Tryz.func163 comp163 (rs:=[.tmp 3]) (by rfl) Tryz.ntmps163 10 ?_
 simp -implicitDefEqProofs only[push_cast,zz,seval,ir163,wdM,hvv,ha]
 repeat refine om_ ?_
 refine postF.mk' (fun _=>default) [some 0,some 1,some 2,some 3] ?_
 simp -implicitDefEqProofs only[push_cast,zz,seval,fs163,wdM,hd]
def ent163:Entry:=spOf fs163 invWd
theorem e163:EntryOk Tryz.prog 163 ent163:=entry_of ok163 invWd
@[push_cast] theorem ent163_a u l x k:ent163 u l x k=spOf fs163 invWd u l x k:=rfl
structure NgA where
 L1:Xf.Loc
 L2:Xf.Loc
 F:Xf.Loc
 f:List Int
 at_:Int
def ngM (a:NgA):Mem:=[some (.ro,a.L1,.cells [.sl 2 a.F 1 0 a.f.length]),some (.ro,a.L2,.cells [.int .i64 a.at_]),some (.ro,a.F,.ints .i64 a.f)]
def invNg:List SV->Look->Option (NgA×List Nat)
 | [.ptr a _ 0 0 0,.ptr b _ 0 0 0],look=>match rowC (look a),rowC (look b)with
  | some (L1,[.sl d _ 1 0 _]),some (L2,[.int .i64 i])=>match rowI (look d)with
   | some (F,.i64,f)=>some (⟨L1,L2,F,f,i⟩,[a,b,d])
   | _=>none
  | _,_=>none
 | _,_=>none
attribute [push_cast] invNg
def fs168:FS where
 A:=NgA
 args:=fun a=>[.ptr 0 a.L1 0 0 0,.ptr 1 a.L2 0 0 0]
 mem:=ngM
 pre:=fun a=>0<=a.at_/\a.at_<a.f.length
 res:=fun a _=>.bool (decide (rd a.f a.at_<0))
theorem ok168:FSOk Tryz.prog 168 fs168:=by
 refine hd_ (fk_ Tryz.func168) fun a hp=>?_
 obtain⟨L1,L2,F,f,i⟩:=a
 obtain⟨h2,h3⟩:0<=i/\i<f.length:=hp
 change Tri Tryz.prog 168 [.ptr 0 L1 0 0 0,.ptr 1 L2 0 0 0] (ngM ⟨L1,L2,F,f,i⟩) (postF fs168 ⟨L1,L2,F,f,i⟩)
 refine tri_evS (hyp (l:=[]) (lp:=[]) trivial trivial) Tryz.func168 comp168 (rs:=[.tmp 2]) (by rfl) Tryz.ntmps168 10 ?_
 simp -implicitDefEqProofs only[push_cast,zz,seval,ir168,ngM]
 repeat refine om_ ?_
 refine postF.mk' (fun _=>default) [some 0,some 1,some 2] ?_
 simp -implicitDefEqProofs only[push_cast,zz,seval,fs168,ngM]
def ent168:Entry:=spOf fs168 invNg
theorem e168:EntryOk Tryz.prog 168 ent168:=entry_of ok168 invNg
@[push_cast] theorem ent168_a u l x k:ent168 u l x k=spOf fs168 invNg u l x k:=rfl
structure DgA where
 L1:Xf.Loc
 L2:Xf.Loc
 at_:Int
def invDg:List SV->Look->Option (DgA×List Nat)
 | [.int .i64 i,.ptr a L1 0 0 0,.ptr b L2 0 0 0],look=>some (⟨L1,L2,i⟩,[a,b])
 | _,_=>none
attribute [push_cast] invDg
def fs162:FS where
 A:=DgA
 args:=fun a=>[.int .i64 a.at_,.ptr 0 a.L1 0 0 0,.ptr 1 a.L2 0 0 0]
 mem:=fun _=>[none,none]
 res:=fun a x=>.fn 163 [.ptr 0 a.L1 0 0 0,.ptr 2 (x 0) 0 0 0,.ptr 1 a.L2 0 0 0]
 new:=fun a x=>[(x 0,.cells [.int .i64 a.at_])]
theorem ok162:FSOk Tryz.prog 162 fs162:=by
 refine hd_ (fk_ Tryz.func162) fun a hp=>?_
 obtain⟨L1,L2,i⟩:=a
 change Tri Tryz.prog 162 [.int .i64 i,.ptr 0 L1 0 0 0,.ptr 1 L2 0 0 0] [none,none] (postF fs162 ⟨L1,L2,i⟩)
 refine tri_evS (hyp (l:=[]) (lp:=[]) trivial trivial) Tryz.func162 comp162 (rs:=[.tmp 4]) (by rfl) Tryz.ntmps162 21 ?_
 simp -implicitDefEqProofs only[push_cast,zz,seval,ir162]
 intro X
 refine postF.mk' (fun _=>X 0 20) [none,none,some 20] ?_
 simp -implicitDefEqProofs only[push_cast,zz,seval,fs162]
def ent162:Entry:=spOf fs162 invDg
theorem e162:EntryOk Tryz.prog 162 ent162:=entry_of ok162 invDg
@[push_cast] theorem ent162_a u l x k:ent162 u l x k=spOf fs162 invDg u l x k:=rfl
def b166_1:IR:=
 .seq (r_ [b_ 15 .lss 14 13] []) (.seq (.cond (.t 15) (.skip) (.exit 0)) (.seq (.block 1 (.seq (r_ [i_ 16 12 14 1,L_ 17 16,m_ 10 17] [15,16,17]) (.seq (r_ [m_ 18 0,m_ 19 10,o_ 20 (.call (some 4) 11 203 [.t 18,.t 19]),o_ 21 (.not (.t 20)),m_ 22 21,p_ 22 (m_ 23 3),p_ 22 (m_ 24 10),p_ 22 (i_ 25 23 24 1),p_ 22 (L_ 26 25),p_ 22 (o_ 27 (.callp 99 [.t 26])),p_ 22 (m_ 28 2),p_ 22 (b_ 29 .shr 27 28),p_ 22 (c_ 30 .and 29 1),p_ 22 (c_ 31 .eql 30 1),K_ 32 22 31] [10,18,19,20,21,22,23,24,25,26,27,28,29,30,31]) (.cond (.t 32) (.seq (r_ [o_ 8 (.mov (.k (.bool true)))] [0,2,3,12,13,14,32]) (.ret)) (.skip))))) (r_ [a_ 33 14 1,m_ 14 33] [8,32,33])))
def r166_2:IR:=
 .seq (r_ [o_ 8 (.mov (.k (.bool false)))] [0,2,3,12,13,14]) (.ret)
def ir166:IR:=
 .seq (r_ [o_ 5 (.box 10 (.t 1)),o_ 8 (.mov (.k (.bool false)))] [1,8]) (.seq (.seq (r_ [f_ 11 5 0,l_ 12 11,h_ 13 12,z_ 14 0] [5,11]) (.block 0 (.loop b166_1))) (r166_2))
def kp166_1:List Nat:=[0,2,3,12,13,14]
def kl166_1:List Nat:=[11,12,13,14]
attribute [push_cast] kp166_1 kl166_1
set_option maxRecDepth 4000 in
theorem comp166:(Tryz.f166.body.bind fun c=>compC tab isP chkAll ir166 c)=some ir166:=by kernel_rfl
def ir165:IR:=
 .seq (r_ [o_ 4 (.mov (.k (.bool false)))] [4]) (.seq (R_ [⟨some 5,none,⟨[20],[]⟩,.ld false none 0 0 (.t 0)⟩,l_ 6 1,n_ 7 6,o_ 8 (.ld true (some 4) 20 1 (.t 7)),⟨some 9,none,⟨[20],[]⟩,.ld false none 0 0 (.t 2)⟩,⟨some 10,none,⟨[20],[]⟩,.ld false none 0 0 (.t 3)⟩,o_ 11 (.call (some 4) 21 166 [.t 5,.t 8,.t 9,.t 10]),m_ 4 11] [0,1,2,3,5,6,7,8,9,10,11]) (.ret))
set_option maxRecDepth 4000 in
theorem comp165:(Tryz.f165.body.bind fun c=>compC tab isP chkAll ir165 c)=some ir165:=by kernel_rfl
def onP (s:StS) (pl f:List Int) (t:Int):Bool:=pl.any fun x=>!decide (oldP s x)&&digP f x t
structure BoA where
 p:StL
 s:StS
 b:Bck
 F:Xf.Loc
 f:List Int
 t:Int
def invBo:List SV->Look->Option (BoA×List Nat)
 | [.ptr c _ 0 0 0,.agg [.sl d _ 1 0 _,.int .i64 w,.int .i64 q,.bool on],.int .i64 t,.sl e _ 1 0 _],look=>match invSt look c,rowI (look d),rowI (look e)with
  | some (p,s,g),some (L,.i64,xs),some (F,.i64,f)=>some (⟨p,s,⟨L,⟨xs,w,q⟩,on⟩,F,f,t⟩,g++[d,e])
  | _,_,_=>none
 | _,_=>none
attribute [push_cast] invBo
def onWf (s:StS) (pl f:List Int) (t:Int):Prop:=stWf s s.since.length/\ofWf f s.since.length/\pl.length<=16/\(∀ x∈pl,0<=x/\x<s.since.length)/\0<=t/\t<=60
def fs166:FS where
 A:=BoA
 args:=fun a=>[.ptr 0 a.p.L 0 0 0,a.b.sv 7,.int .i64 a.t,.sl 8 a.F 1 0 a.f.length]
 mem:=fun a=>stM a.p a.s++[some (.ro,a.b.L,.ints .i64 a.b.b.places),some (.ro,a.F,.ints .i64 a.f)]
 pre:=fun a=>onWf a.s a.b.b.places a.f a.t
 res:=fun a _=>.bool (onP a.s a.b.b.places a.f a.t)
set_option maxHeartbeats 1000000 in
theorem ok166:FSOk Tryz.prog 166 fs166:=by
 refine hd_ (fk_ Tryz.func166) fun a hp=>?_
 obtain⟨p,s,⟨L,⟨pl,w,q⟩,on⟩,F,f,t⟩:=a
 obtain⟨h1,h2,h3,h4,h5,h6⟩:stWf s s.since.length/\ofWf f s.since.length/\pl.length<=16/\(∀ x∈pl,0<=x/\x<s.since.length)/\0<=t/\t<=60:=hp
 have hst:=h1
 have hb64:=bits_i64
 have hfl:=h2.1
 obtain⟨o1,o2,o3,o4,o5,o6,o7,o8,o9,o10,o11⟩:=h1
 change Tri Tryz.prog 166 [.ptr 0 p.L 0 0 0,.agg [.sl 7 L 1 0 pl.length,.int .i64 w,.int .i64 q,.bool on],.int .i64 t,.sl 8 F 1 0 f.length] (stM p s++[some (.ro,L,.ints .i64 pl),some (.ro,F,.ints .i64 f)]) (postF fs166 ⟨p,s,⟨L,⟨pl,w,q⟩,on⟩,F,f,t⟩)
 refine tri_evS (hyp (l:=[(203,ent203)]) (lp:=[(99,absF)]) ⟨e203,trivial⟩ ⟨p99,trivial⟩) Tryz.func166 comp166 (rs:=[.tmp 8]) (by rfl) Tryz.ntmps166 15 ?_
 simp -implicitDefEqProofs only[push_cast,zz,seval,ir166,stM,stV]
 intro X
 refine evS_loopU (A:=Nat) kp166_1 kl166_1 (fun i=>[(14,.int .i64 i)]) (fun i=>[]) (fun i=>i<=pl.length/\onP s (pl.take i) f t=false) (fun i=>pl.length-i) 0 ⟨Nat.zero_le _,rfl⟩ (Sub.pt ?_) ?_
 ·simp -implicitDefEqProofs only[push_cast,zz,seval]
 intro i ⟨(hi:i<=pl.length),(hno:onP s (pl.take i) f t=false)⟩ K hK
 by_cases hi':i<pl.length
 ·have hii:(i:Int)<pl.length:=by omega
  have hx:=h4 _ (rd_mem hi')
  have hst1:onP s (pl.take (i+1)) f t=(onP s (pl.take i) f t||(!decide (oldP s (rd pl (i:Nat)))&&digP f (rd pl (i:Nat)) t)):=any_take hi'
  have hyes:(!decide (oldP s (rd pl (i:Nat)))&&digP f (rd pl (i:Nat)) t)=true->onP s pl f t=true:=fun h=>List.any_eq_true.2 ⟨_,rd_mem hi',h⟩
  obtain⟨x,hxx⟩:∃ x,rd pl (i:Int)=x:=⟨_,rfl⟩
  rw[hxx]at hx hst1 hyes
  have hv:=h2.at hx.1 hx.2
  have hd:digP f x t=decide (max (rd f x) (-rd f x) / 2^t.toNat % 2=1):=rfl
  obtain⟨v,hvv⟩:∃ v,rd f x=v:=⟨_,rfl⟩
  rw[hvv]at hv hd
  have hdb:=dig_bd hv.1 hv.2 t.toNat
  have ha:=and_1 hdb.1 hdb.2
  by_cases hold:oldP s x
  ·have e1:decide (oldP s x)=true:=decide_eq_true hold
   rw[e1,hno]at hst1
   clear hyes
   simp -implicitDefEqProofs only[push_cast,zz,seval,b166_1,stM,stV,fs203,sAtOk,hst,hx,hxx,hii,hold]
   repeat refine om_ ?_
   refine hK (i+1) ⟨show i+1<=pl.length by omega,hst1⟩ (show pl.length-(i+1)<pl.length-i by omega) _ _ (Sub.pt ?_)
   simp -implicitDefEqProofs only[push_cast,zz,seval,stM,stV]
  ·have e1:decide (oldP s x)=false:=decide_eq_false hold
   rw[e1,hno]at hst1
   rw[e1]at hyes
   by_cases hdg:max v (-v) / 2^t.toNat % 2=1
   ·have hyes:=hyes (by rw[hd,decide_eq_true hdg];rfl)
    clear hK
    simp -implicitDefEqProofs only[push_cast,zz,seval,b166_1,stM,stV,fs203,sAtOk,hst,hx,hxx,hii,hold,hvv,ha,hdg]
    repeat refine om_ ?_
    refine postF.mk' (fun _=>default) [some 0,some 1,some 2,some 3,some 4,none,some 6,some 7,some 8] ?_
    simp -implicitDefEqProofs only[push_cast,zz,seval,fs166,stM,stV,hyes]
   ·rw[hd,decide_eq_false hdg]at hst1
    simp -implicitDefEqProofs only[push_cast,zz,seval,b166_1,stM,stV,fs203,sAtOk,hst,hx,hxx,hii,hold,hvv,ha,hdg]
    repeat refine om_ ?_
    refine hK (i+1) ⟨show i+1<=pl.length by omega,hst1⟩ (show pl.length-(i+1)<pl.length-i by omega) _ _ (Sub.pt ?_)
    simp -implicitDefEqProofs only[push_cast,zz,seval,stM,stV]
 ·obtain rfl:i=pl.length:=by omega
  clear hK
  rw[List.take_length]at hno
  simp -implicitDefEqProofs only[push_cast,zz,seval,b166_1,r166_2,stM,stV,Int.lt_irrefl]
  refine postF.mk' (fun _=>default) [some 0,some 1,some 2,some 3,some 4,none,some 6,some 7,some 8] ?_
  simp -implicitDefEqProofs only[push_cast,zz,seval,fs166,stM,stV,hno]
def ent166:Entry:=spOf fs166 invBo
theorem e166:EntryOk Tryz.prog 166 ent166:=entry_of ok166 invBo
@[push_cast] theorem ent166_a u l x k:ent166 u l x k=spOf fs166 invBo u l x k:=rfl
structure WoA where
 p:StL
 s:StS
 i:Nat
 Ls:Xf.Loc
 Lb:Xf.Loc
 Lt:Xf.Loc
 Lf:Xf.Loc
 F:Xf.Loc
 f:List Int
 t:Int
def woM (a:WoA):Mem:=stM a.p a.s++[some (.ro,a.Ls,.cells [.ptr 0 a.p.L 0 0 0]),some (.ro,a.Lb,.cells [.ptr 4 a.p.K (a.i:Nat) 4 0]),some (.ro,a.Lt,.cells [.int .i64 a.t]),some (.ro,a.Lf,.cells [.sl 11 a.F 1 0 a.f.length]),some (.ro,a.F,.ints .i64 a.f)]
def invWo:List SV->Look->Option (WoA×List Nat)
 | [.ptr a _ 0 0 0,.ptr b _ 0 0 0,.ptr c _ 0 0 0,.ptr d _ 0 0 0],look=>match rowC (look a),rowC (look b),rowC (look c),rowC (look d)with
  | some (Ls,[.ptr m _ 0 0 0]),some (Lb,[.ptr _ _ i 4 0]),some (Lt,[.int .i64 t]),some (Lf,[.sl e _ 1 0 _])=>match invSt look m,rowI (look e)with
   | some (p,s,g),some (F,.i64,f)=>some (⟨p,s,i.toNat,Ls,Lb,Lt,Lf,F,f,t⟩,g++[a,b,c,d,e])
   | _,_=>none
  | _,_,_,_=>none
 | _,_=>none
attribute [push_cast] invWo
def fs165:FS where
 A:=WoA
 args:=fun a=>[.ptr 7 a.Ls 0 0 0,.ptr 8 a.Lb 0 0 0,.ptr 9 a.Lt 0 0 0,.ptr 10 a.Lf 0 0 0]
 mem:=woM
 pre:=fun a=>a.i<a.s.list.length/\onWf a.s (rdBk a.s.list a.i).b.places a.f a.t
 res:=fun a _=>.bool (onP a.s (rdBk a.s.list a.i).b.places a.f a.t)
set_option maxHeartbeats 1000000 in
theorem ok165:FSOk Tryz.prog 165 fs165:=by
 refine hd_ (fk_ Tryz.func165) fun a hp=>?_
 obtain⟨p,s,i,Ls,Lb,Lt,Lf,F,f,t⟩:=a
 obtain⟨h1,h2⟩:i<s.list.length/\onWf s (rdBk s.list i).b.places f t:=hp
 change Tri Tryz.prog 165 [.ptr 7 Ls 0 0 0,.ptr 8 Lb 0 0 0,.ptr 9 Lt 0 0 0,.ptr 10 Lf 0 0 0] (woM ⟨p,s,i,Ls,Lb,Lt,Lf,F,f,t⟩) (postF fs165 ⟨p,s,i,Ls,Lb,Lt,Lf,F,f,t⟩)
 have rk:=recAt_Bk h1 []
 have hlm:=bkMap_len s.list
 obtain⟨⟨L',⟨pl,w,q⟩,on'⟩,hbk⟩:∃ b,rdBk s.list i=b:=⟨_,rfl⟩
 rw[hbk]at rk h2
 simp only at h2
 refine tri_evS (hyp (l:=[(166,ent166)]) (lp:=[]) ⟨e166,trivial⟩ trivial) Tryz.func165 comp165 (rs:=[.tmp 4]) (by rfl) Tryz.ntmps165 25 ?_
 simp -implicitDefEqProofs only[push_cast,zz,seval,ir165,woM,stM,stV,rk,Bck.rc,hlm,fs166,Bck.sv,h2]
 repeat refine om_ ?_
 refine postF.mk' (fun _=>default) [some 0,some 1,some 2,some 3,some 4,none,some 6,some 7,some 8,some 9,some 10,some 11] ?_
 simp -implicitDefEqProofs only[push_cast,zz,seval,fs165,woM,stM,stV,hbk]
def ent165:Entry:=spOf fs165 invWo
theorem e165:EntryOk Tryz.prog 165 ent165:=entry_of ok165 invWo
@[push_cast] theorem ent165_a u l x k:ent165 u l x k=spOf fs165 invWo u l x k:=rfl
def ir114:IR:=
 .seq (r_ [o_ 5 (.mov (.k (.bool false))),z_ 6 0] [5,6]) (.seq (r_ [m_ 9 1,o_ 10 (.callv (some 4) 20 (.t 9) []),m_ 7 10] [1,9,10]) (.seq (r_ [z_ 8 0] []) (.seq (.seq (r_ [m_ 11 7] []) (.cond (.t 11) (r_ [z_ 8 1] [11]) (.skip))) (.seq (r_ [m_ 12 7,l_ 13 2,m_ 14 0,m_ 15 8,o_ 16 (.call none 24 115 [.t 13,.t 14,.t 15]),m_ 5 12,m_ 6 16] [0,2,7,8,11,12,13,14,15,16]) (.ret)))))
set_option maxRecDepth 4000 in
theorem comp114:(Tryz.f114.body.bind fun c=>compC tab isP chkAll ir114 c)=some ir114:=by kernel_rfl
def ir189:IR:=
 .seq (r_ [o_ 5 (.mov (.k (.bool false))),z_ 6 0] [1,5,6]) (.seq (r_ [l_ 10 2,m_ 11 0,o_ 12 (.call none 20 190 [.t 10,.t 11]),m_ 9 12,e_ 13 9 0,e_ 14 9 1,m_ 7 13,m_ 8 14] [0,2,9,10,11,12,13,14]) (.seq (r_ [m_ 15 7,c_ 16 .eql 15 1,m_ 17 8,m_ 5 16,m_ 6 17] [7,8,15,16,17]) (.ret)))
set_option maxRecDepth 4000 in
theorem comp189:(Tryz.f189.body.bind fun c=>compC tab isP chkAll ir189 c)=some ir189:=by kernel_rfl
inductive WE where
 | dig (L1 L2 L3 F:Xf.Loc) (f:List Int) (at_ t:Int)
 | neg (L1 L2 F:Xf.Loc) (f:List Int) (at_:Int)
 | on (p:StL) (s:StS) (i:Nat) (Ls Lb Lt Lf F:Xf.Loc) (f:List Int) (t:Int)
def WE.val:WE->Bool
 | .dig _ _ _ _ f i t=>digP f i t
 | .neg _ _ _ f i=>decide (rd f i<0)
 | .on _ s i _ _ _ _ _ f t=>onP s (rdBk s.list i).b.places f t
def WE.wf:WE->Prop
 | .dig _ _ _ _ f i t=>ofWf f f.length/\0<=i/\i<f.length/\0<=t/\t<=60
 | .neg _ _ _ f i=>0<=i/\i<f.length
 | .on _ s i _ _ _ _ _ f t=>i<s.list.length/\onWf s (rdBk s.list i).b.places f t
def WE.fn:WE->SV
 | .dig L1 L2 L3 _ _ _ _=>.fn 163 [.ptr 4 L1 0 0 0,.ptr 5 L2 0 0 0,.ptr 6 L3 0 0 0]
 | .neg L1 L2 _ _ _=>.fn 168 [.ptr 4 L1 0 0 0,.ptr 5 L2 0 0 0]
 | .on _ _ _ Ls Lb Lt Lf _ _ _=>.fn 165 [.ptr 11 Ls 0 0 0,.ptr 12 Lb 0 0 0,.ptr 13 Lt 0 0 0,.ptr 14 Lf 0 0 0]
def WE.mem:WE->Mem
 | .dig L1 L2 L3 F f i t=>[some (.ro,L1,.cells [.sl 7 F 1 0 f.length]),some (.ro,L2,.cells [.int .i64 i]),some (.ro,L3,.cells [.int .i64 t]),some (.ro,F,.ints .i64 f)]
 | .neg L1 L2 F f i=>[some (.ro,L1,.cells [.sl 6 F 1 0 f.length]),some (.ro,L2,.cells [.int .i64 i]),some (.ro,F,.ints .i64 f)]
 | .on p s i Ls Lb Lt Lf F f t=>[some (.ro,p.L,.cells (relabs (fun i=>i+4) (stV p s))),some (.ro,p.Z,.ints .i64 s.size),some (.ro,p.M,.bools s.minus),some (.ro,p.I,.ints .i64 s.since),some (.ro,p.K,.recs 4 false [] (s.list.map Bck.rc)),none,some (.ro,p.B,.ints .i64 s.band),
   some (.ro,Ls,.cells [.ptr 4 p.L 0 0 0]),some (.ro,Lb,.cells [.ptr 8 p.K (i:Nat) 4 0]),some (.ro,Lt,.cells [.int .i64 t]),some (.ro,Lf,.cells [.sl 15 F 1 0 f.length]),some (.ro,F,.ints .i64 f)]
def WE.top:WE->Nat
 | .dig ..=>8
 | .neg ..=>7
 | .on ..=>16
def b2i (b:Bool):Int:=if b=true then 1 else 0
structure PeA where
 L:Xf.Loc
 LS:Xf.Loc
 LO:Xf.Loc
 LX:Xf.Loc
 e:EnS
 ctx:Int
 w:WE
def invPe:List SV->Look->Option (PeA×List Nat)
 | [.int .i64 ctx,.fn g cs,.ptr x _ 0 0 0],look=>match rowC (look x)with
  | some (LX,[.ptr c _ 0 0 0])=>match invEn [.ptr c nilLoc 0 0 0] look with
   | some (⟨L,LS,LO,e,_,_⟩,h)=>bif g==163 then (match invWd cs look with
     | some (⟨L1,L2,L3,F,f,i,t⟩,k)=>some (⟨L,LS,LO,LX,e,ctx,.dig L1 L2 L3 F f i t⟩,h++(x::k))
     | none=>none)
    else bif g==168 then (match invNg cs look with
     | some (⟨L1,L2,F,f,i⟩,k)=>some (⟨L,LS,LO,LX,e,ctx,.neg L1 L2 F f i⟩,h++(x::k))
     | none=>none)
    else bif g==165 then (match invWo cs look with
     | some (⟨p,s,i,Ls,Lb,Lt,Lf,F,f,t⟩,k)=>some (⟨L,LS,LO,LX,e,ctx,.on p s i Ls Lb Lt Lf F f t⟩,h++(x::k))
     | none=>none)
    else none
   | none=>none
  | _=>none
 | _,_=>none
attribute [push_cast] invPe
def fs114:FS where
 A:=PeA
 args:=fun a=>[.int .i64 a.ctx,a.w.fn,.ptr 3 a.LX 0 0 0]
 mem:=fun a=>[some (.lent,a.L,.cells (enV a.LS a.e 2 a.LO)),some (.lent,a.LS,.ints .i64 a.e.st),some (.lent,a.LO,.ints .u8 a.e.out),some (.ro,a.LX,.cells [.ptr 0 a.L 0 0 0])]++a.w.mem
 pre:=fun a=>a.e.ok/\0<=a.ctx/\a.ctx<a.e.st.length/\a.e.out.length<=100000000/\a.w.wf
 res:=fun a _=>.tup [.bool a.w.val,.int .i64 0]
 out:=fun a x=>[some (some (.cells (enV a.LS (putP a.e a.ctx (b2i a.w.val)) a.w.top (x 0)))),some (some (.ints .i64 (putP a.e a.ctx (b2i a.w.val)).st)),some none]
 new:=fun a x=>[(x 0,.ints .u8 (putP a.e a.ctx (b2i a.w.val)).out)]
 newGot:=true
theorem b2i_01 (b:Bool):b2i b=0∨b2i b=1:=by cases b<;>simp[b2i]
set_option maxHeartbeats 4000000 in
theorem ok114:FSOk Tryz.prog 114 fs114:=by
 refine⟨fk_ Tryz.func114,fun a=>?_,fun a hp=>?_⟩
 ·obtain⟨L,LS,LO,LX,e,ctx,w⟩:=a
  cases w<;>exact⟨by simp[fs114,WE.mem,push_cast,noMine,argOwn,Chunk.frArg],by simp[fs114,WE.mem,enV,ivV,putP,push_cast,outOk,Chunk.ext],fun x=>.inl (by simp[fs114,push_cast,frNew,frOut,Chunk.fr])⟩
 obtain⟨L,LS,LO,LX,⟨kind,st,low,high,out⟩,ctx,w⟩:=a
 obtain⟨h1,h2,h3,h4,h5⟩:ivOk2 kind st low high/\0<=ctx/\ctx<st.length/\out.length<=100000000/\w.wf:=hp
 have h1':(⟨kind,st,low,high,out⟩:EnS).ok:=h1
 obtain⟨v,hv⟩:∃ v,w.val=v:=⟨_,rfl⟩
 have hbi:b2i v=0∨b2i v=1:=b2i_01 v
 obtain⟨E,hE⟩:∃ E,putP ⟨kind,st,low,high,out⟩ ctx (b2i v)=E:=⟨_,rfl⟩
 have hst:(E.st.length:Int)=st.length:=by rw[<-hE];simp[putP]
 cases w with
 | dig L1 L2 L3 F f i t=>
  change Tri Tryz.prog 114 [.int .i64 ctx,.fn 163 [.ptr 4 L1 0 0 0,.ptr 5 L2 0 0 0,.ptr 6 L3 0 0 0],.ptr 3 LX 0 0 0]
   [some (.lent,L,.cells (enV LS ⟨kind,st,low,high,out⟩ 2 LO)),some (.lent,LS,.ints .i64 st),some (.lent,LO,.ints .u8 out),some (.ro,LX,.cells [.ptr 0 L 0 0 0]),some (.ro,L1,.cells [.sl 7 F 1 0 f.length]),some (.ro,L2,.cells [.int .i64 i]),some (.ro,L3,.cells [.int .i64 t]),some (.ro,F,.ints .i64 f)] (postF fs114 _)
  have hv':digP f i t=v:=hv
  obtain⟨g1,g2,g3,g4,g5⟩:ofWf f f.length/\0<=i/\i<f.length/\0<=t/\t<=60:=h5
  refine tri_evS (hyp (l:=[(163,ent163),(165,ent165),(168,ent168),(115,ent115)]) (lp:=[]) ⟨e163,e165,e168,e115,trivial⟩ trivial) Tryz.func114 comp114 (rs:=[.tmp 5,.tmp 6]) (by rfl) Tryz.ntmps114 28 ?_
  cases v with
  | true=>
   have e1:b2i true=1:=rfl
   rw[e1]at hE
   simp -implicitDefEqProofs only[push_cast,zz,seval,ir114,enV,ivV,fs163,wdM,g1,g2,g3,g4,g5,hv',fs115,h1',hE]
   intro X
   repeat refine om_ ?_
   refine postF.mk' (fun _=>X 4 24) [some 0,some 1,none,some 3,some 4,some 5,some 6,some 7,some 24] ?_
   simp -implicitDefEqProofs only[push_cast,zz,seval,fs114,enV,ivV,WE.mem,WE.top,hv,e1,hE,hst]
  | false=>
   have e1:b2i false=0:=rfl
   rw[e1]at hE
   simp -implicitDefEqProofs only[push_cast,zz,seval,ir114,enV,ivV,fs163,wdM,g1,g2,g3,g4,g5,hv',fs115,h1',hE]
   intro X
   repeat refine om_ ?_
   refine postF.mk' (fun _=>X 4 24) [some 0,some 1,none,some 3,some 4,some 5,some 6,some 7,some 24] ?_
   simp -implicitDefEqProofs only[push_cast,zz,seval,fs114,enV,ivV,WE.mem,WE.top,hv,e1,hE,hst]
 | neg L1 L2 F f i=>
  change Tri Tryz.prog 114 [.int .i64 ctx,.fn 168 [.ptr 4 L1 0 0 0,.ptr 5 L2 0 0 0],.ptr 3 LX 0 0 0]
   [some (.lent,L,.cells (enV LS ⟨kind,st,low,high,out⟩ 2 LO)),some (.lent,LS,.ints .i64 st),some (.lent,LO,.ints .u8 out),some (.ro,LX,.cells [.ptr 0 L 0 0 0]),some (.ro,L1,.cells [.sl 6 F 1 0 f.length]),some (.ro,L2,.cells [.int .i64 i]),some (.ro,F,.ints .i64 f)] (postF fs114 _)
  have hv':decide (rd f i<0)=v:=hv
  obtain⟨g1,g2⟩:0<=i/\i<f.length:=h5
  refine tri_evS (hyp (l:=[(163,ent163),(165,ent165),(168,ent168),(115,ent115)]) (lp:=[]) ⟨e163,e165,e168,e115,trivial⟩ trivial) Tryz.func114 comp114 (rs:=[.tmp 5,.tmp 6]) (by rfl) Tryz.ntmps114 28 ?_
  cases v with
  | true=>
   have e1:b2i true=1:=rfl
   rw[e1]at hE
   simp -implicitDefEqProofs only[push_cast,zz,seval,ir114,enV,ivV,fs168,ngM,g1,g2,hv',fs115,h1',hE]
   intro X
   repeat refine om_ ?_
   refine postF.mk' (fun _=>X 4 24) [some 0,some 1,none,some 3,some 4,some 5,some 6,some 24] ?_
   simp -implicitDefEqProofs only[push_cast,zz,seval,fs114,enV,ivV,WE.mem,WE.top,hv,e1,hE,hst]
  | false=>
   have e1:b2i false=0:=rfl
   rw[e1]at hE
   simp -implicitDefEqProofs only[push_cast,zz,seval,ir114,enV,ivV,fs168,ngM,g1,g2,hv',fs115,h1',hE]
   intro X
   repeat refine om_ ?_
   refine postF.mk' (fun _=>X 4 24) [some 0,some 1,none,some 3,some 4,some 5,some 6,some 24] ?_
   simp -implicitDefEqProofs only[push_cast,zz,seval,fs114,enV,ivV,WE.mem,WE.top,hv,e1,hE,hst]
 | on p s i Ls Lb Lt Lf F f t=>
  change Tri Tryz.prog 114 [.int .i64 ctx,.fn 165 [.ptr 11 Ls 0 0 0,.ptr 12 Lb 0 0 0,.ptr 13 Lt 0 0 0,.ptr 14 Lf 0 0 0],.ptr 3 LX 0 0 0]
   [some (.lent,L,.cells (enV LS ⟨kind,st,low,high,out⟩ 2 LO)),some (.lent,LS,.ints .i64 st),some (.lent,LO,.ints .u8 out),some (.ro,LX,.cells [.ptr 0 L 0 0 0]),some (.ro,p.L,.cells (relabs (fun i=>i+4) (stV p s))),some (.ro,p.Z,.ints .i64 s.size),some (.ro,p.M,.bools s.minus),some (.ro,p.I,.ints .i64 s.since),some (.ro,p.K,.recs 4 false [] (s.list.map Bck.rc)),none,some (.ro,p.B,.ints .i64 s.band),some (.ro,Ls,.cells [.ptr 4 p.L 0 0 0]),some (.ro,Lb,.cells [.ptr 8 p.K (i:Nat) 4 0]),some (.ro,Lt,.cells [.int .i64 t]),some (.ro,Lf,.cells [.sl 15 F 1 0 f.length]),some (.ro,F,.ints .i64 f)] (postF fs114 _)
  have hv':onP s (rdBk s.list i).b.places f t=v:=hv
  obtain⟨g1,g2⟩:i<s.list.length/\onWf s (rdBk s.list i).b.places f t:=h5
  refine tri_evS (hyp (l:=[(163,ent163),(165,ent165),(168,ent168),(115,ent115)]) (lp:=[]) ⟨e163,e165,e168,e115,trivial⟩ trivial) Tryz.func114 comp114 (rs:=[.tmp 5,.tmp 6]) (by rfl) Tryz.ntmps114 28 ?_
  cases v with
  | true=>
   have e1:b2i true=1:=rfl
   rw[e1]at hE
   simp -implicitDefEqProofs only[push_cast,zz,seval,ir114,enV,ivV,fs165,woM,stM,stV,Int.toNat_natCast,g1,g2,hv',fs115,h1',hE]
   intro X
   repeat refine om_ ?_
   refine postF.mk' (fun _=>X 4 24) [some 0,some 1,none,some 3,some 4,some 5,some 6,some 7,some 8,none,some 10,some 11,some 12,some 13,some 14,some 15,some 24] ?_
   simp -implicitDefEqProofs only[push_cast,zz,seval,fs114,enV,ivV,WE.mem,WE.top,hv,e1,hE,hst,stV,stM]
  | false=>
   have e1:b2i false=0:=rfl
   rw[e1]at hE
   simp -implicitDefEqProofs only[push_cast,zz,seval,ir114,enV,ivV,fs165,woM,stM,stV,Int.toNat_natCast,g1,g2,hv',fs115,h1',hE]
   intro X
   repeat refine om_ ?_
   refine postF.mk' (fun _=>X 4 24) [some 0,some 1,none,some 3,some 4,some 5,some 6,some 7,some 8,none,some 10,some 11,some 12,some 13,some 14,some 15,some 24] ?_
   simp -implicitDefEqProofs only[push_cast,zz,seval,fs114,enV,ivV,WE.mem,WE.top,hv,e1,hE,hst,stV,stM]
def ent114:Entry:=spOf fs114 invPe
theorem e114:EntryOk Tryz.prog 114 ent114:=entry_of ok114 invPe
@[push_cast] theorem ent114_a u l x k:ent114 u l x k=spOf fs114 invPe u l x k:=rfl
structure GeA where
 L:Xf.Loc
 LS:Xf.Loc
 LC:Xf.Loc
 LX:Xf.Loc
 d:DeS
 ctx:Int
 w:SV
def invGe:List SV->Look->Option (GeA×List Nat)
 | [.int .i64 ctx,w,.ptr x _ 0 0 0],look=>match rowC (look x)with
  | some (LX,[.ptr c _ 0 0 0])=>match invDe [.ptr c nilLoc 0 0 0] look with
   | some (⟨L,LS,LC,d,_⟩,h)=>some (⟨L,LS,LC,LX,d,ctx,w⟩,h++[x])
   | none=>none
  | _=>none
 | _,_=>none
attribute [push_cast] invGe
def fs189:FS where
 A:=GeA
 args:=fun a=>[.int .i64 a.ctx,a.w,.ptr 3 a.LX 0 0 0]
 mem:=fun a=>[some (.lent,a.L,.cells (deV a.LS a.d a.LC)),some (.lent,a.LS,.ints .i64 a.d.st),some (.ro,a.LC,.ints .u8 a.d.code),some (.ro,a.LX,.cells [.ptr 0 a.L 0 0 0])]
 pre:=fun a=>a.d.ok/\0<=a.ctx/\a.ctx<a.d.st.length
 res:=fun a _=>.tup [.bool (decide (gotB a.d a.ctx=1)),.int .i64 (gotE a.d a.ctx)]
 out:=fun a x=>[some (some (.cells (deV a.LS (gotS a.d a.ctx) a.LC))),some (some (.ints .i64 (gotS a.d a.ctx).st))]
set_option maxHeartbeats 1000000 in
theorem ok189:FSOk Tryz.prog 189 fs189:=by
 refine hd_ (fk_ Tryz.func189) fun a hp=>?_
 obtain⟨L,LS,LC,LX,d,ctx,w⟩:=a
 obtain⟨h1,h2,h3⟩:d.ok/\0<=ctx/\ctx<d.st.length:=hp
 have hl:=(gotS_len d ctx).1
 have hl2:=(gotS_len d ctx).2.1
 obtain⟨D,hD⟩:∃ D,gotS d ctx=D:=⟨_,rfl⟩
 rw[hD]at hl hl2
 have hl':(D.st.length:Int)=d.st.length:=by rw[hl]
 change Tri Tryz.prog 189 [.int .i64 ctx,w,.ptr 3 LX 0 0 0] [some (.lent,L,.cells (deV LS d LC)),some (.lent,LS,.ints .i64 d.st),some (.ro,LC,.ints .u8 d.code),some (.ro,LX,.cells [.ptr 0 L 0 0 0])] (postF fs189 ⟨L,LS,LC,LX,d,ctx,w⟩)
 refine tri_evS (hyp (l:=[(190,ent190)]) (lp:=[]) ⟨e190,trivial⟩ trivial) Tryz.func189 comp189 (rs:=[.tmp 5,.tmp 6]) (by rfl) Tryz.ntmps189 24 ?_
 simp -implicitDefEqProofs only[push_cast,zz,seval,ir189,deV,deT,ivV,fs190,h1,h2,h3]
 repeat refine om_ ?_
 refine postF.mk' (fun _=>default) [some 0,some 1,some 2,some 3] ?_
 simp -implicitDefEqProofs only[push_cast,zz,seval,fs189,deV,deT,ivV,hD,hl',hl2]
def ent189:Entry:=spOf fs189 invGe
theorem e189:EntryOk Tryz.prog 189 ent189:=entry_of ok189 invGe
@[push_cast] theorem ent189_a u l x k:ent189 u l x k=spOf fs189 invGe u l x k:=rfl
def orP (x t:Int):Int:=((x.toNat ||| 2^t.toNat:Nat):Int)
theorem pw_lt {t:Int} (h0:0<=t) (h1:t<=30):2^t.toNat<=1073741824/\0<2^t.toNat:=by
 have:=Nat.pow_le_pow_right (n:=2) (by decide) (show t.toNat<=30 by omega)
 exact⟨this,Nat.pow_pos (by decide)⟩
theorem orP_bd {x t:Int} (h0:0<=x) (h1:x<1099511627776) (h2:0<=t) (h3:t<=30):0<=orP x t/\orP x t<1099511627776:=by
 have hp:=pw_lt h2 h3
 have:x.toNat ||| 2^t.toNat<2^40:=Nat.or_lt_two_pow (by omega) (by omega)
 unfold orP
 omega
theorem or_i64 {x t:Int} (h0:0<=x) (h1:x<1099511627776) (h2:0<=t) (h3:t<=30):bitop .or .i64 x (2^t.toNat)=orP x t:=by
 have hb:=orP_bd h0 h1 h2 h3
 have hp:=pw_lt h2 h3
 obtain⟨m,hm⟩:∃ m:Nat,2^t.toNat=m:=⟨_,rfl⟩
 have hm':(2:Int)^t.toNat=(m:Int):=by rw[<-hm];simp
 rw[hm']
 unfold orP at hb ⊢
 rw[hm]at hp hb ⊢
 obtain⟨k,rfl⟩:∃ k:Nat,x=k:=⟨x.toNat,by omega⟩
 rw[Int.toNat_natCast]at hb ⊢
 have e:((BitVec.ofInt 64 (k:Int)) ||| (BitVec.ofInt 64 (m:Int))).toNat=k ||| m:=by
  rw[BitVec.toNat_or,BitVec.toNat_ofInt,BitVec.toNat_ofInt]
  rw[show(((k:Int) % ((2^64:Nat):Int)).toNat)=k by omega,show(((m:Int) % ((2^64:Nat):Int)).toNat)=m by omega]
 show IntKind.i64.wrap _=_
 have e':(BitVec.toNat ((BitVec.ofInt IntKind.i64.bits (k:Int)) ||| (BitVec.ofInt IntKind.i64.bits (m:Int))))=k ||| m:=e
 simp only[e']
 rw[inR_wrap (k:=.i64) (by simp only[inR,push_cast];omega)]
def numG {β:Type} (bit:β->Int->Bool->Bool×Int×β) (s:StS) (x:β) (i t:Int) (on dig neg:Bool):StS×β×Int:=
 if oldP s i then
  (if (bit x (dctxP s i) dig).2.1=0 then
   (if (bit x (dctxP s i) dig).1=true then { s with size:=s.size.set i.toNat (orP (rd s.size i) t) }else s,(bit x (dctxP s i) dig).2.2,0)
  else (s,(bit x (dctxP s i) dig).2.2,(bit x (dctxP s i) dig).2.1))
 else if on=true then
  (if (bit x (nctxP s i) dig).2.1=0 then
   (if (bit x (nctxP s i) dig).1=true then
    (if (bit (bit x (nctxP s i) dig).2.2 11 neg).2.1=0 then
     ({ s with size:=s.size.set i.toNat (orP (rd s.size i) t),minus:=s.minus.set i.toNat (bit (bit x (nctxP s i) dig).2.2 11 neg).1,since:=s.since.set i.toNat (s.now+1) },(bit (bit x (nctxP s i) dig).2.2 11 neg).2.2,0)
    else (s,(bit (bit x (nctxP s i) dig).2.2 11 neg).2.2,(bit (bit x (nctxP s i) dig).2.2 11 neg).2.1))
   else (s,(bit x (nctxP s i) dig).2.2,0))
  else (s,(bit x (nctxP s i) dig).2.2,(bit x (nctxP s i) dig).2.1))
 else (s,x,0)
def putG (e:EnS) (ctx:Int) (w:Bool):Bool×Int×EnS:=(w,0,putP e ctx (b2i w))
def getG (d:DeS) (ctx:Int) (_:Bool):Bool×Int×DeS:=(decide (gotB d ctx=1),gotE d ctx,gotS d ctx)
def szWf (s:StS):Prop:=∀ x∈s.size,0<=x/\x<1099511627776
theorem szWf.at {s:StS} (h:szWf s) {i:Int} (h0:0<=i) (h1:i<s.size.length):0<=rd s.size i/\rd s.size i<1099511627776:=by
 obtain⟨k,rfl⟩:∃ k:Nat,i=k:=⟨i.toNat,by omega⟩
 rw[rd_lt _ k (by omega)]
 exact h _ (List.getElem_mem _)
theorem numG_enc_old {s:StS} {e:EnS} {i t:Int} {on dig neg:Bool} (h:oldP s i):numG putG s e i t on dig neg=(if dig=true then { s with size:=s.size.set i.toNat (orP (rd s.size i) t) }else s,putP e (dctxP s i) (b2i dig),0):=by
 unfold numG;rw[if_pos h];simp only[putG,if_true];rfl
theorem numG_enc_new {s:StS} {e:EnS} {i t:Int} {dig neg:Bool} (h:¬ oldP s i):numG putG s e i t true dig neg=if dig=true then ({ s with size:=s.size.set i.toNat (orP (rd s.size i) t),minus:=s.minus.set i.toNat neg,since:=s.since.set i.toNat (s.now+1) },putP (putP e (nctxP s i) (b2i dig)) 11 (b2i neg),0)else (s,putP e (nctxP s i) (b2i dig),0):=by
 unfold numG;rw[if_neg h];simp only[putG,if_true]
theorem numG_off {β:Type} {bit:β->Int->Bool->Bool×Int×β} {s:StS} {x:β} {i t:Int} {dig neg:Bool} (h:¬ oldP s i):numG bit s x i t false dig neg=(s,x,0):=by
 unfold numG;rw[if_neg h,if_neg (by decide)]
def ir167:IR:=
 .seq (r_ [z_ 14 0] [14]) (.seq (.block 0 (.seq (r_ [m_ 21 0,m_ 22 1,o_ 23 (.call (some 4) 20 203 [.t 21,.t 22]),m_ 20 23] [21,22,23]) (.cond (.t 20) (.seq (r_ [m_ 25 6,m_ 26 0,m_ 27 1,o_ 28 (.call (some 4) 24 204 [.t 26,.t 27]),m_ 29 4,o_ 30 (.callv none 28 (.t 25) [.t 28,.t 29]),m_ 24 30,e_ 31 24 0,e_ 32 24 1,m_ 15 31,m_ 16 32] [3,4,5,6,20,24,25,26,27,28,29,30,31,32]) (.seq (.seq (r_ [m_ 33 16,c_ 34 .neq 33 0] [33]) (.cond (.t 34) (.seq (r_ [m_ 35 16,m_ 14 35] [0,1,2,15,16,34,35]) (.ret)) (.skip))) (.seq (r_ [m_ 36 15] [14,15,16,34]) (.cond (.t 36) (R_ [m_ 37 0,n_ 38 37,f_ 39 38 0,l_ 40 39,m_ 41 1,i_ 42 40 41 1,L_ 43 42,m_ 44 2,o_ 45 (.bin 0 .shl (Z_ 1) (.t 44)),b_ 46 .or 43 45,i_ 47 40 41 1,S_ 1 .i64 47 46] [0,1,2,36,37,38,39,40,41,42,43,44,45,46,47]) (.skip))))) (.seq (r_ [m_ 49 3,m_ 48 49] [3,20,49]) (.cond (.t 48) (.seq (r_ [m_ 51 6,m_ 52 0,m_ 53 1,o_ 54 (.call (some 4) 32 205 [.t 52,.t 53]),m_ 55 4,o_ 56 (.callv none 36 (.t 51) [.t 54,.t 55]),m_ 50 56,e_ 57 50 0,e_ 58 50 1,m_ 17 57,m_ 18 58] [4,48,50,51,52,53,54,55,56,57,58]) (.seq (.seq (r_ [m_ 59 18,c_ 60 .neq 59 0,m_ 61 60,q_ 61 (m_ 62 17),q_ 61 (o_ 63 (.not (.t 62))),k_ 64 61 63] [17,59,60,61,62,63]) (.cond (.t 64) (.seq (r_ [m_ 65 18,m_ 14 65] [0,1,2,5,6,18,64,65]) (.ret)) (.skip))) (.seq (r_ [m_ 67 6,m_ 68 5,o_ 69 (.callv none 40 (.t 67) [Z_ 11,.t 68]),m_ 66 69,e_ 70 66 0,e_ 71 66 1,m_ 19 70,m_ 18 71] [5,6,14,64,66,67,68,69,70,71]) (.seq (.seq (r_ [m_ 72 18,c_ 73 .neq 72 0] [72]) (.cond (.t 73) (.seq (r_ [m_ 74 18,m_ 14 74] [0,1,2,18,19,73,74]) (.ret)) (.skip))) (.seq (R_ [m_ 75 0,n_ 76 75,f_ 77 76 0,l_ 78 77,m_ 79 1,i_ 80 78 79 1,L_ 81 80,m_ 82 2,o_ 83 (.bin 0 .shl (Z_ 1) (.t 82)),b_ 84 .or 81 83,i_ 85 78 79 1,S_ 1 .i64 85 84] [2,14,18,73,75,76,77,78,79,80,81,82,83,84,85]) (r_ [m_ 86 0,m_ 87 1,m_ 88 19,o_ 89 (.call none 44 206 [.t 86,.t 87,.t 88])] [0,1,19,86,87,88,89])))))) (.skip)))))) (.seq (r_ [z_ 14 0] [0,1,2,4,5,6,36,48]) (.ret)))
set_option maxRecDepth 4000 in
theorem comp167:(Tryz.f167.body.bind fun c=>compC tab isP chkAll ir167 c)=some ir167:=by kernel_rfl
structure NuA where
 p:StL
 s:StS
 L:Xf.Loc
 LS:Xf.Loc
 LO:Xf.Loc
 LX:Xf.Loc
 e:EnS
 L1:Xf.Loc
 L2:Xf.Loc
 L3:Xf.Loc
 L4:Xf.Loc
 F:Xf.Loc
 f:List Int
 at_:Int
 t:Int
 on:Bool
def nuM (a:NuA):Mem:=[some (.ro,a.p.L,.cells (stV a.p a.s)),some (.lent,a.p.Z,.ints .i64 a.s.size),some (.lent,a.p.M,.bools a.s.minus),some (.lent,a.p.I,.ints .i64 a.s.since),some (.ro,a.p.K,.recs 4 false [] (a.s.list.map Bck.rc)),none,some (.ro,a.p.B,.ints .i64 a.s.band),
 some (.lent,a.L,.cells (relabs (fun i=>i+7) (enV a.LS a.e 2 a.LO))),some (.lent,a.LS,.ints .i64 a.e.st),some (.lent,a.LO,.ints .u8 a.e.out),some (.ro,a.LX,.cells [.ptr 7 a.L 0 0 0]),
 some (.ro,a.L1,.cells [.sl 15 a.F 1 0 a.f.length]),some (.ro,a.L2,.cells [.int .i64 a.at_]),some (.ro,a.L3,.cells [.int .i64 a.t]),some (.ro,a.L4,.cells [.int .i64 a.at_]),some (.ro,a.F,.ints .i64 a.f)]
def nuR (a:NuA):StS×EnS×Int:=numG putG a.s a.e a.at_ a.t a.on (digP a.f a.at_ a.t) (decide (rd a.f a.at_<0))
def invNu:List SV->Look->Option (NuA×List Nat)
 | [.ptr c _ 0 0 0,.int .i64 i,.int .i64 t,.bool on,.fn _ [.ptr a _ 0 0 0,.ptr b _ 0 0 0,.ptr d _ 0 0 0],.fn _ [_,.ptr e _ 0 0 0],.fn _ [.ptr x _ 0 0 0]],look=>match invSt look c,rowC (look x),rowC (look a),rowC (look b),rowC (look d),rowC (look e)with
  | some (p,s,g),some (LX,[.ptr k _ 0 0 0]),some (L1,[.sl y _ 1 0 _]),some (L2,_),some (L3,_),some (L4,_)=>match invEn [.ptr k nilLoc 0 0 0] look,rowI (look y)with
   | some (⟨L,LS,LO,en,_,_⟩,h),some (F,.i64,f)=>some (⟨p,s,L,LS,LO,LX,en,L1,L2,L3,L4,F,f,i,t,on⟩,g++(h++[x,a,b,d,e,y]))
   | _,_=>none
  | _,_,_,_,_,_=>none
 | _,_=>none
attribute [push_cast] invNu
def nuOk (s:StS) (e:EnS) (f:List Int) (i t:Int):Prop:=stWf s s.since.length/\szWf s/\e.ok/\e.st.length=12/\e.out.length<=90000000/\ofWf f s.since.length/\0<=i/\i<s.since.length/\0<=t/\t<=30
def fs167E:FS where
 A:=NuA
 args:=fun a=>[.ptr 0 a.p.L 0 0 0,.int .i64 a.at_,.int .i64 a.t,.bool a.on,.fn 163 [.ptr 11 a.L1 0 0 0,.ptr 12 a.L2 0 0 0,.ptr 13 a.L3 0 0 0],.fn 168 [.ptr 11 a.L1 0 0 0,.ptr 14 a.L4 0 0 0],.fn 114 [.ptr 10 a.LX 0 0 0]]
 mem:=nuM
 pre:=fun a=>nuOk a.s a.e a.f a.at_ a.t
 res:=fun a _=>.int .i64 0
 out:=fun a x=>[none,some (some (.ints .i64 (nuR a).1.size)),some (some (.bools (nuR a).1.minus)),some (some (.ints .i64 (nuR a).1.since)),none,none,none,some (some (.cells (relabs (fun i=>i+7) (enV a.LS (nuR a).2.1 9 (x 0))))),some (some (.ints .i64 (nuR a).2.1.st)),some none]
 new:=fun a x=>[(x 0,.ints .u8 (nuR a).2.1.out)]
 newGot:=true
theorem numG_len {β:Type} (bit:β->Int->Bool->Bool×Int×β) (s:StS) (x:β) (i t:Int) (on dig neg:Bool) :
  (numG bit s x i t on dig neg).1.size.length=s.size.length/\(numG bit s x i t on dig neg).1.minus.length=s.minus.length/\(numG bit s x i t on dig neg).1.since.length=s.since.length:=by
 unfold numG
 split
 ·split
  ·split<;>simp
  ·simp
 ·split
  ·split
   ·split
    ·split<;>simp
    ·simp
   ·simp
  ·simp
theorem numE_st (s:StS) (e:EnS) (i t:Int) (on dig neg:Bool):(numG putG s e i t on dig neg).2.1.st.length=e.st.length:=by
 by_cases h:oldP s i
 ·rw[numG_enc_old h];simp[putP]
 ·cases on with
  | true=>rw[numG_enc_new h];split<;>simp[putP]
  | false=>rw[numG_off h]
set_option maxHeartbeats 4000000 in
theorem ok167E:FSOk Tryz.prog 167 fs167E:=by
 refine⟨fk_ Tryz.func167,fun a=>?_,fun a hp=>?_⟩
 ·have hl:=numG_len putG a.s a.e a.at_ a.t a.on (digP a.f a.at_ a.t) (decide (rd a.f a.at_<0))
  have h2:=numE_st a.s a.e a.at_ a.t a.on (digP a.f a.at_ a.t) (decide (rd a.f a.at_<0))
  exact⟨by simp[fs167E,nuM,push_cast,noMine,argOwn,Chunk.frArg],by simp[fs167E,nuM,nuR,hl,h2,enV,ivV,push_cast,outOk,Chunk.ext],fun x=>.inl (by simp[fs167E,push_cast,frNew,frOut,Chunk.fr])⟩
 obtain⟨p,s,L,LS,LO,LX,e,L1,L2,L3,L4,F,f,i,t,on⟩:=a
 obtain⟨h1,h2,h3,h4,h5,h6,h7,h8,h9,h10⟩:nuOk s e f i t:=hp
 have hst:=h1
 obtain⟨o1,o2,o3,o4,o5,o6,o7,o8,o9,o10,o11⟩:=h1
 have hfl:=h6.1
 have hofl:ofWf f f.length:=by rw[hfl];exact h6
 have hsz:=h2.at (i:=i) (by omega) (by omega)
 have hor:=or_i64 hsz.1 hsz.2 h9 h10
 have horb:=orP_bd hsz.1 hsz.2 h9 h10
 have hpw:=pw_lt h9 h10
 have hpI:(2:Int)^t.toNat<=1073741824/\0<(2:Int)^t.toNat:=by
  have e:(2:Int)^t.toNat=((2^t.toNat:Nat):Int):=by simp
  omega
 obtain⟨T,hT⟩:∃ T,(2:Int)^t.toNat=T:=⟨_,rfl⟩
 rw[hT]at hpI hor
 have hb64:=bits_i64
 obtain⟨dg,hdg⟩:∃ v,digP f i t=v:=⟨_,rfl⟩
 obtain⟨ng,hng⟩:∃ v,decide (rd f i<0)=v:=⟨_,rfl⟩
 have hr:nuR ⟨p,s,L,LS,LO,LX,e,L1,L2,L3,L4,F,f,i,t,on⟩=numG putG s e i t on dg ng:=by rw[<-hdg,<-hng];rfl
 obtain⟨sz,hszz⟩:∃ v,rd s.size i=v:=⟨_,rfl⟩
 obtain⟨oz,hoz⟩:∃ v,orP sz t=v:=⟨_,rfl⟩
 rw[hszz,hoz]at hor horb
 change Tri Tryz.prog 167 [.ptr 0 p.L 0 0 0,.int .i64 i,.int .i64 t,.bool on,.fn 163 [.ptr 11 L1 0 0 0,.ptr 12 L2 0 0 0,.ptr 13 L3 0 0 0],.fn 168 [.ptr 11 L1 0 0 0,.ptr 14 L4 0 0 0],.fn 114 [.ptr 10 LX 0 0 0]] (nuM ⟨p,s,L,LS,LO,LX,e,L1,L2,L3,L4,F,f,i,t,on⟩) (postF fs167E ⟨p,s,L,LS,LO,LX,e,L1,L2,L3,L4,F,f,i,t,on⟩)
 refine tri_evS (hyp (l:=[(203,ent203),(204,ent204),(205,ent205),(114,ent114),(206,ent206)]) (lp:=[]) ⟨e203,e204,e205,e114,e206,trivial⟩ trivial) Tryz.func167 comp167 (rs:=[.tmp 14]) (by rfl) Tryz.ntmps167 48 ?_
 by_cases hold:oldP s i
 ·have hc:0<=dctxP s i/\dctxP s i<12:=by unfold dctxP;split<;>omega
  rw[numG_enc_old hold]at hr
  have hput:=putP_ok (e:=e) (ctx:=dctxP s i) (bit:=b2i dg) h3 hc.1 (by omega) (b2i_01 _)
  obtain⟨e1,he1⟩:∃ e1,putP e (dctxP s i) (b2i dg)=e1:=⟨_,rfl⟩
  rw[he1]at hr hput
  obtain⟨c,hcc⟩:∃ c,dctxP s i=c:=⟨_,rfl⟩
  rw[hcc]at hc he1
  have hput3:(e1.st.length:Int)=e.st.length:=by omega
  cases dg with
  | true=>
   rw[if_pos rfl]at hr
   have hr1:(nuR ⟨p,s,L,LS,LO,LX,e,L1,L2,L3,L4,F,f,i,t,on⟩).2.1=e1:=by rw[hr]
   have hr2:(nuR ⟨p,s,L,LS,LO,LX,e,L1,L2,L3,L4,F,f,i,t,on⟩).1={ s with size:=s.size.set i.toNat (orP (rd s.size i) t) }:=by rw[hr]
   simp -implicitDefEqProofs only[push_cast,zz,seval,ir167,nuM,stM,stV,enV,ivV,fs203,fs204,fs205,fs206,fs114,WE.mem,WE.fn,WE.val,WE.wf,WE.top,sAtOk,hst,hold,hofl,h3,hdg,hng,hszz,Int.one_mul,hT,hor,hcc,he1]
   repeat refine om_ ?_
   intro X
   repeat refine om_ ?_
   refine postF.mk' (fun _=>X 5 28) [some 0,some 1,some 2,some 3,some 4,none,some 6,some 7,some 8,none,some 10,some 11,some 12,some 13,some 14,some 15,some 28] ?_
   simp -implicitDefEqProofs only[push_cast,zz,seval,fs167E,nuM,stV,enV,ivV,hr1,hr2,hszz,hoz,hput3,List.length_set]
  | false=>
   rw[if_neg (by decide)]at hr
   have hr1:(nuR ⟨p,s,L,LS,LO,LX,e,L1,L2,L3,L4,F,f,i,t,on⟩).2.1=e1:=by rw[hr]
   have hr2:(nuR ⟨p,s,L,LS,LO,LX,e,L1,L2,L3,L4,F,f,i,t,on⟩).1=s:=by rw[hr]
   simp -implicitDefEqProofs only[push_cast,zz,seval,ir167,nuM,stM,stV,enV,ivV,fs203,fs204,fs205,fs206,fs114,WE.mem,WE.fn,WE.val,WE.wf,WE.top,sAtOk,hst,hold,hofl,h3,hdg,hng,hszz,Int.one_mul,hT,hor,hcc,he1]
   repeat refine om_ ?_
   intro X
   repeat refine om_ ?_
   refine postF.mk' (fun _=>X 5 28) [some 0,some 1,some 2,some 3,some 4,none,some 6,some 7,some 8,none,some 10,some 11,some 12,some 13,some 14,some 15,some 28] ?_
   simp -implicitDefEqProofs only[push_cast,zz,seval,fs167E,nuM,stV,enV,ivV,hr1,hr2,hput3]
 ·cases on with
  | false=>
   rw[numG_off hold]at hr
   have hr1:(nuR ⟨p,s,L,LS,LO,LX,e,L1,L2,L3,L4,F,f,i,t,false⟩).2.1=e:=by rw[hr]
   have hr2:(nuR ⟨p,s,L,LS,LO,LX,e,L1,L2,L3,L4,F,f,i,t,false⟩).1=s:=by rw[hr]
   simp -implicitDefEqProofs only[push_cast,zz,seval,ir167,nuM,stM,stV,enV,ivV,fs203,fs204,fs205,fs206,fs114,WE.mem,WE.fn,WE.val,WE.wf,WE.top,sAtOk,hst,hold,hofl,h3,hdg,hng,hszz,Int.one_mul,hT,hor]
   repeat refine om_ ?_
   refine postF.mk' (fun _=>LO) [some 0,some 1,some 2,some 3,some 4,none,some 6,some 7,some 8,none,some 10,some 11,some 12,some 13,some 14,some 15,some 9] ?_
   simp -implicitDefEqProofs only[push_cast,zz,seval,fs167E,nuM,stV,enV,ivV,hr1,hr2]
  | true=>
   have hc:0<=nctxP s i/\nctxP s i<12:=by unfold nctxP;split<;>split<;>omega
   rw[numG_enc_new hold]at hr
   have hput:=putP_ok (e:=e) (ctx:=nctxP s i) (bit:=b2i dg) h3 hc.1 (by omega) (b2i_01 _)
   obtain⟨e1,he1⟩:∃ e1,putP e (nctxP s i) (b2i dg)=e1:=⟨_,rfl⟩
   rw[he1]at hr hput
   obtain⟨c,hcc⟩:∃ c,nctxP s i=c:=⟨_,rfl⟩
   rw[hcc]at hc he1
   have hput3:(e1.st.length:Int)=e.st.length:=by omega
   cases dg with
   | true=>
    rw[if_pos rfl]at hr
    have hput':=putP_ok (e:=e1) (ctx:=11) (bit:=b2i ng) hput.1 (by omega) (by omega) (b2i_01 _)
    obtain⟨e2,he2⟩:∃ e2,putP e1 11 (b2i ng)=e2:=⟨_,rfl⟩
    rw[he2]at hr hput'
    have hput4:(e2.st.length:Int)=e.st.length:=by omega
    have hok1:=hput.1
    have hst':stWf { s with size:=s.size.set i.toNat oz } s.since.length:=⟨by simp only[List.length_set];exact o1,o2,o3,o4,o5,o6,o7,o8,o9,o10,o11⟩
    have hr1:(nuR ⟨p,s,L,LS,LO,LX,e,L1,L2,L3,L4,F,f,i,t,true⟩).2.1=e2:=by rw[hr]
    have hr2:(nuR ⟨p,s,L,LS,LO,LX,e,L1,L2,L3,L4,F,f,i,t,true⟩).1={ s with size:=s.size.set i.toNat (orP (rd s.size i) t),minus:=s.minus.set i.toNat ng,since:=s.since.set i.toNat (s.now+1) }:=by rw[hr]
    simp -implicitDefEqProofs only[push_cast,zz,seval,ir167,nuM,stM,stV,enV,ivV,fs203,fs204,fs205,fs206,fs114,WE.mem,WE.fn,WE.val,WE.wf,WE.top,sAtOk,hst,hold,hofl,h3,hdg,hng,hszz,Int.one_mul,hT,hor,hcc,he1,he2,hok1,List.length_set,hst']
    repeat refine om_ ?_
    intro X
    repeat refine om_ ?_
    refine postF.mk' (fun _=>X 2 40) [some 0,some 1,some 2,some 3,some 4,none,some 6,some 7,some 8,none,some 10,some 11,some 12,some 13,some 14,some 15,some 40] ?_
    simp -implicitDefEqProofs only[push_cast,zz,seval,fs167E,nuM,stV,enV,ivV,hr1,hr2,hszz,hoz,hput3,hput4,List.length_set]
   | false=>
    rw[if_neg (by decide)]at hr
    have hr1:(nuR ⟨p,s,L,LS,LO,LX,e,L1,L2,L3,L4,F,f,i,t,true⟩).2.1=e1:=by rw[hr]
    have hr2:(nuR ⟨p,s,L,LS,LO,LX,e,L1,L2,L3,L4,F,f,i,t,true⟩).1=s:=by rw[hr]
    simp -implicitDefEqProofs only[push_cast,zz,seval,ir167,nuM,stM,stV,enV,ivV,fs203,fs204,fs205,fs206,fs114,WE.mem,WE.fn,WE.val,WE.wf,WE.top,sAtOk,hst,hold,hofl,h3,hdg,hng,hszz,Int.one_mul,hT,hor,hcc,he1]
    repeat refine om_ ?_
    intro X
    repeat refine om_ ?_
    refine postF.mk' (fun _=>X 5 36) [some 0,some 1,some 2,some 3,some 4,none,some 6,some 7,some 8,none,some 10,some 11,some 12,some 13,some 14,some 15,some 36] ?_
    simp -implicitDefEqProofs only[push_cast,zz,seval,fs167E,nuM,stV,enV,ivV,hr1,hr2,hput3]
def ent167E:Entry:=spOf fs167E invNu
theorem e167E:EntryOk Tryz.prog 167 ent167E:=entry_of ok167E invNu
@[push_cast] theorem ent167E_a u l x k:ent167E u l x k=spOf fs167E invNu u l x k:=rfl
structure NdA2 where
 p:StL
 s:StS
 L:Xf.Loc
 LS:Xf.Loc
 LC:Xf.Loc
 LX:Xf.Loc
 d:DeS
 w1:SV
 w2:SV
 at_:Int
 t:Int
 on:Bool
def ndM (a:NdA2):Mem:=[some (.ro,a.p.L,.cells (stV a.p a.s)),some (.lent,a.p.Z,.ints .i64 a.s.size),some (.lent,a.p.M,.bools a.s.minus),some (.lent,a.p.I,.ints .i64 a.s.since),some (.ro,a.p.K,.recs 4 false [] (a.s.list.map Bck.rc)),none,some (.ro,a.p.B,.ints .i64 a.s.band),
 some (.lent,a.L,.cells (relabs (fun i=>i+7) (deV a.LS a.d a.LC))),some (.lent,a.LS,.ints .i64 a.d.st),some (.ro,a.LC,.ints .u8 a.d.code),some (.ro,a.LX,.cells [.ptr 7 a.L 0 0 0])]
def ndR (a:NdA2):StS×DeS×Int:=numG getG a.s a.d a.at_ a.t a.on false false
def invNd2:List SV->Look->Option (NdA2×List Nat)
 | [.ptr c _ 0 0 0,.int .i64 i,.int .i64 t,.bool on,w1,w2,.fn _ [.ptr x _ 0 0 0]],look=>match invSt look c,rowC (look x)with
  | some (p,s,g),some (LX,[.ptr k _ 0 0 0])=>match invDe [.ptr k nilLoc 0 0 0] look with
   | some (⟨L,LS,LC,d,_⟩,h)=>some (⟨p,s,L,LS,LC,LX,d,w1,w2,i,t,on⟩,g++(h++[x]))
   | _=>none
  | _,_=>none
 | _,_=>none
attribute [push_cast] invNd2
def ndOk (s:StS) (d:DeS) (i t:Int):Prop:=stWf s s.since.length/\szWf s/\d.ok/\d.st.length=12/\0<=i/\i<s.since.length/\0<=t/\t<=30
def fs167D:FS where
 A:=NdA2
 args:=fun a=>[.ptr 0 a.p.L 0 0 0,.int .i64 a.at_,.int .i64 a.t,.bool a.on,a.w1,a.w2,.fn 189 [.ptr 10 a.LX 0 0 0]]
 mem:=ndM
 pre:=fun a=>ndOk a.s a.d a.at_ a.t
 res:=fun a _=>.int .i64 (ndR a).2.2
 out:=fun a x=>[none,some (some (.ints .i64 (ndR a).1.size)),some (some (.bools (ndR a).1.minus)),some (some (.ints .i64 (ndR a).1.since)),none,none,none,some (some (.cells (relabs (fun i=>i+7) (deV a.LS (ndR a).2.1 a.LC)))),some (some (.ints .i64 (ndR a).2.1.st))]
theorem numD_len (s:StS) (d:DeS) (i t:Int) (on dig neg:Bool):(numG getG s d i t on dig neg).2.1.st.length=d.st.length/\(numG getG s d i t on dig neg).2.1.code=d.code:=by
 unfold numG getG
 split
 ·split
  ·exact⟨(gotS_len _ _).1,(gotS_len _ _).2.1⟩
  ·exact⟨(gotS_len _ _).1,(gotS_len _ _).2.1⟩
 ·split
  ·split
   ·split
    ·split
     ·simp only[(gotS_len _ _).1,(gotS_len _ _).2.1,and_self]
     ·simp only[(gotS_len _ _).1,(gotS_len _ _).2.1,and_self]
    ·exact⟨(gotS_len _ _).1,(gotS_len _ _).2.1⟩
   ·exact⟨(gotS_len _ _).1,(gotS_len _ _).2.1⟩
  ·exact⟨rfl,rfl⟩
theorem numG_dec_old {s:StS} {d:DeS} {i t:Int} {on dig neg:Bool} (h:oldP s i):numG getG s d i t on dig neg=if gotE d (dctxP s i)=0 then (if gotB d (dctxP s i)=1 then { s with size:=s.size.set i.toNat (orP (rd s.size i) t) }else s,gotS d (dctxP s i),0)else (s,gotS d (dctxP s i),gotE d (dctxP s i)):=by
 unfold numG getG;rw[if_pos h];simp only[decide_eq_true_eq]
theorem numG_dec_new {s:StS} {d:DeS} {i t:Int} {dig neg:Bool} (h:¬ oldP s i):numG getG s d i t true dig neg =
  if gotE d (nctxP s i)=0 then (if gotB d (nctxP s i)=1 then (if gotE (gotS d (nctxP s i)) 11=0 then ({ s with size:=s.size.set i.toNat (orP (rd s.size i) t),minus:=s.minus.set i.toNat (decide (gotB (gotS d (nctxP s i)) 11=1)),since:=s.since.set i.toNat (s.now+1) },gotS (gotS d (nctxP s i)) 11,0)
   else (s,gotS (gotS d (nctxP s i)) 11,gotE (gotS d (nctxP s i)) 11))else (s,gotS d (nctxP s i),0))else (s,gotS d (nctxP s i),gotE d (nctxP s i)):=by
 unfold numG getG;rw[if_neg h];simp only[decide_eq_true_eq,if_true]
set_option maxHeartbeats 4000000 in
theorem ok167D:FSOk Tryz.prog 167 fs167D:=by
 refine⟨fk_ Tryz.func167,fun a=>?_,fun a hp=>?_⟩
 ·have hl:=numG_len getG a.s a.d a.at_ a.t a.on false false
  have h2:=numD_len a.s a.d a.at_ a.t a.on false false
  exact⟨by simp[fs167D,ndM,push_cast,noMine,argOwn,Chunk.frArg],by simp[fs167D,ndM,ndR,hl,h2,deV,deT,ivV,push_cast,outOk,Chunk.ext],fun x=>.inl (by simp[fs167D,push_cast,frNew,frOut,Chunk.fr])⟩
 obtain⟨p,s,L,LS,LC,LX,d,w1,w2,i,t,on⟩:=a
 obtain⟨h1,h2,h3,h4,h7,h8,h9,h10⟩:ndOk s d i t:=hp
 have hst:=h1
 obtain⟨o1,o2,o3,o4,o5,o6,o7,o8,o9,o10,o11⟩:=h1
 have hsz:=h2.at (i:=i) (by omega) (by omega)
 have hor:=or_i64 hsz.1 hsz.2 h9 h10
 have horb:=orP_bd hsz.1 hsz.2 h9 h10
 have hpw:=pw_lt h9 h10
 have hpI:(2:Int)^t.toNat<=1073741824/\0<(2:Int)^t.toNat:=by
  have e:(2:Int)^t.toNat=((2^t.toNat:Nat):Int):=by simp
  omega
 obtain⟨T,hT⟩:∃ T,(2:Int)^t.toNat=T:=⟨_,rfl⟩
 rw[hT]at hpI hor
 have hb64:=bits_i64
 have hr:ndR ⟨p,s,L,LS,LC,LX,d,w1,w2,i,t,on⟩=numG getG s d i t on false false:=rfl
 obtain⟨sz,hszz⟩:∃ v,rd s.size i=v:=⟨_,rfl⟩
 obtain⟨oz,hoz⟩:∃ v,orP sz t=v:=⟨_,rfl⟩
 rw[hszz,hoz]at hor horb
 change Tri Tryz.prog 167 [.ptr 0 p.L 0 0 0,.int .i64 i,.int .i64 t,.bool on,w1,w2,.fn 189 [.ptr 10 LX 0 0 0]] (ndM ⟨p,s,L,LS,LC,LX,d,w1,w2,i,t,on⟩) (postF fs167D ⟨p,s,L,LS,LC,LX,d,w1,w2,i,t,on⟩)
 refine tri_evS (hyp (l:=[(203,ent203),(204,ent204),(205,ent205),(189,ent189),(206,ent206)]) (lp:=[]) ⟨e203,e204,e205,e189,e206,trivial⟩ trivial) Tryz.func167 comp167 (rs:=[.tmp 14]) (by rfl) Tryz.ntmps167 48 ?_
 by_cases hold:oldP s i
 ·have hc:0<=dctxP s i/\dctxP s i<12:=by unfold dctxP;split<;>omega
  rw[numG_dec_old hold]at hr
  obtain⟨c,hcc⟩:∃ c,dctxP s i=c:=⟨_,rfl⟩
  rw[hcc]at hc hr
  have hD:=gotS_len d c
  obtain⟨d1,hd1⟩:∃ d1,gotS d c=d1:=⟨_,rfl⟩
  rw[hd1]at hr hD
  have hD3:(d1.st.length:Int)=d.st.length:=by rw[hD.1]
  have hD4:d1.code=d.code:=hD.2.1
  by_cases he:gotE d c=0
  ·rw[if_pos he]at hr
   by_cases hb:gotB d c=1
   ·rw[if_pos hb]at hr
    have hr1:(ndR ⟨p,s,L,LS,LC,LX,d,w1,w2,i,t,on⟩).2.1=d1:=by rw[hr]
    have hr2:(ndR ⟨p,s,L,LS,LC,LX,d,w1,w2,i,t,on⟩).1={ s with size:=s.size.set i.toNat (orP (rd s.size i) t) }:=by rw[hr]
    have hr3:(ndR ⟨p,s,L,LS,LC,LX,d,w1,w2,i,t,on⟩).2.2=0:=by rw[hr]
    simp -implicitDefEqProofs only[push_cast,zz,seval,ir167,ndM,stM,stV,deV,deT,ivV,fs203,fs204,fs205,fs206,fs189,sAtOk,hst,hold,h3,hszz,Int.one_mul,hT,hor,hcc,hd1,he,hb]
    repeat refine om_ ?_
    refine postF.mk' (fun _=>default) [some 0,some 1,some 2,some 3,some 4,none,some 6,some 7,some 8,some 9,some 10] ?_
    simp -implicitDefEqProofs only[push_cast,zz,seval,fs167D,ndM,stV,deV,deT,ivV,hr1,hr2,hr3,hszz,hoz,List.length_set,hD3,hD4]
   ·rw[if_neg hb]at hr
    have hr1:(ndR ⟨p,s,L,LS,LC,LX,d,w1,w2,i,t,on⟩).2.1=d1:=by rw[hr]
    have hr2:(ndR ⟨p,s,L,LS,LC,LX,d,w1,w2,i,t,on⟩).1=s:=by rw[hr]
    have hr3:(ndR ⟨p,s,L,LS,LC,LX,d,w1,w2,i,t,on⟩).2.2=0:=by rw[hr]
    simp -implicitDefEqProofs only[push_cast,zz,seval,ir167,ndM,stM,stV,deV,deT,ivV,fs203,fs204,fs205,fs206,fs189,sAtOk,hst,hold,h3,hszz,Int.one_mul,hT,hor,hcc,hd1,he,hb]
    repeat refine om_ ?_
    refine postF.mk' (fun _=>default) [some 0,some 1,some 2,some 3,some 4,none,some 6,some 7,some 8,some 9,some 10] ?_
    simp -implicitDefEqProofs only[push_cast,zz,seval,fs167D,ndM,stV,deV,deT,ivV,hr1,hr2,hr3,hszz,hoz,List.length_set,hD3,hD4]
  ·rw[if_neg he]at hr
   have hr1:(ndR ⟨p,s,L,LS,LC,LX,d,w1,w2,i,t,on⟩).2.1=d1:=by rw[hr]
   have hr2:(ndR ⟨p,s,L,LS,LC,LX,d,w1,w2,i,t,on⟩).1=s:=by rw[hr]
   have hr3:(ndR ⟨p,s,L,LS,LC,LX,d,w1,w2,i,t,on⟩).2.2=gotE d c:=by rw[hr]
   simp -implicitDefEqProofs only[push_cast,zz,seval,ir167,ndM,stM,stV,deV,deT,ivV,fs203,fs204,fs205,fs206,fs189,sAtOk,hst,hold,h3,hszz,Int.one_mul,hT,hor,hcc,hd1,he]
   repeat refine om_ ?_
   refine postF.mk' (fun _=>default) [some 0,some 1,some 2,some 3,some 4,none,some 6,some 7,some 8,some 9,some 10] ?_
   simp -implicitDefEqProofs only[push_cast,zz,seval,fs167D,ndM,stV,deV,deT,ivV,hr1,hr2,hr3,hszz,hoz,List.length_set,hD3,hD4]
 ·cases on with
  | false=>
   rw[numG_off hold]at hr
   have hr1:(ndR ⟨p,s,L,LS,LC,LX,d,w1,w2,i,t,false⟩).2.1=d:=by rw[hr]
   have hr2:(ndR ⟨p,s,L,LS,LC,LX,d,w1,w2,i,t,false⟩).1=s:=by rw[hr]
   have hr3:(ndR ⟨p,s,L,LS,LC,LX,d,w1,w2,i,t,false⟩).2.2=0:=by rw[hr]
   simp -implicitDefEqProofs only[push_cast,zz,seval,ir167,ndM,stM,stV,deV,deT,ivV,fs203,fs204,fs205,fs206,fs189,sAtOk,hst,hold,h3,hszz,Int.one_mul,hT,hor]
   repeat refine om_ ?_
   refine postF.mk' (fun _=>default) [some 0,some 1,some 2,some 3,some 4,none,some 6,some 7,some 8,some 9,some 10] ?_
   simp -implicitDefEqProofs only[push_cast,zz,seval,fs167D,ndM,stV,deV,deT,ivV,hr1,hr2,hr3,hszz,hoz,List.length_set]
  | true=>
   have hc:0<=nctxP s i/\nctxP s i<12:=by unfold nctxP;split<;>split<;>omega
   rw[numG_dec_new hold]at hr
   obtain⟨c,hcc⟩:∃ c,nctxP s i=c:=⟨_,rfl⟩
   rw[hcc]at hc hr
   have hD:=gotS_len d c
   have hDok:=(gotS_ok (ctx:=c) h3 hc.1 (by omega)).1
   obtain⟨d1,hd1⟩:∃ d1,gotS d c=d1:=⟨_,rfl⟩
   rw[hd1]at hr hD hDok
   have hD3:(d1.st.length:Int)=d.st.length:=by rw[hD.1]
   have hD4:d1.code=d.code:=hD.2.1
   by_cases he:gotE d c=0
   ·rw[if_pos he]at hr
    by_cases hb:gotB d c=1
    ·rw[if_pos hb]at hr
     have hE1:(⟨d1.kind,d1.st,d1.low,d1.high,d.code,d1.at_,d1.value,d1.beyond,d1.ended⟩:DeS)=d1:=by rw[<-hD4]
     have hF:=gotS_len d1 11
     obtain⟨d2,hd2⟩:∃ d2,gotS d1 11=d2:=⟨_,rfl⟩
     rw[hd2]at hr hF
     have hF3:(d2.st.length:Int)=d.st.length:=by rw[hF.1,hD3]
     have hF4:d2.code=d.code:=by rw[hF.2.1,hD4]
     by_cases he2:gotE d1 11=0
     ·rw[if_pos he2]at hr
      have hst':stWf { s with size:=s.size.set i.toNat oz } s.since.length:=⟨by simp only[List.length_set];exact o1,o2,o3,o4,o5,o6,o7,o8,o9,o10,o11⟩
      obtain⟨bb,hbb⟩:∃ bb,decide (gotB d1 11=1)=bb:=⟨_,rfl⟩
      rw[hbb]at hr
      have hr1:(ndR ⟨p,s,L,LS,LC,LX,d,w1,w2,i,t,true⟩).2.1=d2:=by rw[hr]
      have hr2:(ndR ⟨p,s,L,LS,LC,LX,d,w1,w2,i,t,true⟩).1={ s with size:=s.size.set i.toNat (orP (rd s.size i) t),minus:=s.minus.set i.toNat bb,since:=s.since.set i.toNat (s.now+1) }:=by rw[hr]
      have hr3:(ndR ⟨p,s,L,LS,LC,LX,d,w1,w2,i,t,true⟩).2.2=0:=by rw[hr]
      simp -implicitDefEqProofs only[push_cast,zz,seval,ir167,ndM,stM,stV,deV,deT,ivV,fs203,fs204,fs205,fs206,fs189,sAtOk,hst,hold,h3,hszz,Int.one_mul,hT,hor,hcc,hd1,he,hb,hE1,hd2,he2,hbb,hDok,hst',List.length_set,hD3,hD4]
      repeat refine om_ ?_
      refine postF.mk' (fun _=>default) [some 0,some 1,some 2,some 3,some 4,none,some 6,some 7,some 8,some 9,some 10] ?_
      simp -implicitDefEqProofs only[push_cast,zz,seval,fs167D,ndM,stV,deV,deT,ivV,hr1,hr2,hr3,hszz,hoz,List.length_set,hF3,hF4]
     ·rw[if_neg he2]at hr
      have hr1:(ndR ⟨p,s,L,LS,LC,LX,d,w1,w2,i,t,true⟩).2.1=d2:=by rw[hr]
      have hr2:(ndR ⟨p,s,L,LS,LC,LX,d,w1,w2,i,t,true⟩).1=s:=by rw[hr]
      have hr3:(ndR ⟨p,s,L,LS,LC,LX,d,w1,w2,i,t,true⟩).2.2=gotE d1 11:=by rw[hr]
      simp -implicitDefEqProofs only[push_cast,zz,seval,ir167,ndM,stM,stV,deV,deT,ivV,fs203,fs204,fs205,fs206,fs189,sAtOk,hst,hold,h3,hszz,Int.one_mul,hT,hor,hcc,hd1,he,hb,hE1,hd2,he2,hDok,hD3,hD4]
      repeat refine om_ ?_
      refine postF.mk' (fun _=>default) [some 0,some 1,some 2,some 3,some 4,none,some 6,some 7,some 8,some 9,some 10] ?_
      simp -implicitDefEqProofs only[push_cast,zz,seval,fs167D,ndM,stV,deV,deT,ivV,hr1,hr2,hr3,hszz,hoz,List.length_set,hF3,hF4]
    ·rw[if_neg hb]at hr
     have hr1:(ndR ⟨p,s,L,LS,LC,LX,d,w1,w2,i,t,true⟩).2.1=d1:=by rw[hr]
     have hr2:(ndR ⟨p,s,L,LS,LC,LX,d,w1,w2,i,t,true⟩).1=s:=by rw[hr]
     have hr3:(ndR ⟨p,s,L,LS,LC,LX,d,w1,w2,i,t,true⟩).2.2=0:=by rw[hr]
     simp -implicitDefEqProofs only[push_cast,zz,seval,ir167,ndM,stM,stV,deV,deT,ivV,fs203,fs204,fs205,fs206,fs189,sAtOk,hst,hold,h3,hszz,Int.one_mul,hT,hor,hcc,hd1,he,hb]
     repeat refine om_ ?_
     refine postF.mk' (fun _=>default) [some 0,some 1,some 2,some 3,some 4,none,some 6,some 7,some 8,some 9,some 10] ?_
     simp -implicitDefEqProofs only[push_cast,zz,seval,fs167D,ndM,stV,deV,deT,ivV,hr1,hr2,hr3,hszz,hoz,List.length_set,hD3,hD4]
   ·rw[if_neg he]at hr
    have hr1:(ndR ⟨p,s,L,LS,LC,LX,d,w1,w2,i,t,true⟩).2.1=d1:=by rw[hr]
    have hr2:(ndR ⟨p,s,L,LS,LC,LX,d,w1,w2,i,t,true⟩).1=s:=by rw[hr]
    have hr3:(ndR ⟨p,s,L,LS,LC,LX,d,w1,w2,i,t,true⟩).2.2=gotE d c:=by rw[hr]
    simp -implicitDefEqProofs only[push_cast,zz,seval,ir167,ndM,stM,stV,deV,deT,ivV,fs203,fs204,fs205,fs206,fs189,sAtOk,hst,hold,h3,hszz,Int.one_mul,hT,hor,hcc,hd1,he]
    repeat refine om_ ?_
    refine postF.mk' (fun _=>default) [some 0,some 1,some 2,some 3,some 4,none,some 6,some 7,some 8,some 9,some 10] ?_
    simp -implicitDefEqProofs only[push_cast,zz,seval,fs167D,ndM,stV,deV,deT,ivV,hr1,hr2,hr3,hszz,hoz,List.length_set,hD3,hD4]
def ent167D:Entry:=spOf fs167D invNd2
theorem e167D:EntryOk Tryz.prog 167 ent167D:=entry_of ok167D invNd2
@[push_cast] theorem ent167D_a u l x k:ent167D u l x k=spOf fs167D invNd2 u l x k:=rfl
def plsG {β:Type} (bit:β->Int->Bool->Bool×Int×β) (f:List Int) (t:Int) (on:Bool):List Int->StS->β->StS×β×Int
 | [],s,x=>(s,x,0)
 | i::l,s,x=>
  if (numG bit s x i t on (digP f i t) (decide (rd f i<0))).2.2=0 then plsG bit f t on l (numG bit s x i t on (digP f i t) (decide (rd f i<0))).1 (numG bit s x i t on (digP f i t) (decide (rd f i<0))).2.1
  else numG bit s x i t on (digP f i t) (decide (rd f i<0))
def onBk (l:List Bck) (i:Nat) (b:Bool):List Bck:=l.set i ⟨(rdBk l i).L,(rdBk l i).b,b⟩
def setOn (s:StS) (i:Nat) (b:Bool):StS:=⟨s.size,s.minus,s.since,s.now,onBk s.list i b,s.kind,s.nst,s.band,s.w⟩
def bktG {β:Type} (bit:β->Int->Bool->Bool×Int×β) (f:List Int) (t:Int) (i:Nat) (s:StS) (x:β):StS×β×Int:=
 if allP s (rdBk s.list i).b.places=true then plsG bit f t false (rdBk s.list i).b.places (setOn s i false) x
 else if (bit x (bctxP (setOn s i false) (rdBk s.list i).b) (onP s (rdBk s.list i).b.places f t)).2.1=0 then
  plsG bit f t (bit x (bctxP (setOn s i false) (rdBk s.list i).b) (onP s (rdBk s.list i).b.places f t)).1 (rdBk s.list i).b.places (setOn s i (bit x (bctxP (setOn s i false) (rdBk s.list i).b) (onP s (rdBk s.list i).b.places f t)).1) (bit x (bctxP (setOn s i false) (rdBk s.list i).b) (onP s (rdBk s.list i).b.places f t)).2.2
 else (setOn s i false,(bit x (bctxP (setOn s i false) (rdBk s.list i).b) (onP s (rdBk s.list i).b.places f t)).2.2,(bit x (bctxP (setOn s i false) (rdBk s.list i).b) (onP s (rdBk s.list i).b.places f t)).2.1)
def slcG {β:Type} (bit:β->Int->Bool->Bool×Int×β) (f:List Int) (t:Int):Nat->Nat->StS->β->StS×β×Int
 | 0,_,s,x=>(⟨s.size,s.minus,s.since,s.now+1,s.list,s.kind,s.nst,s.band,s.w⟩,x,0)
 | k+1,i,s,x=>if (bktG bit f t i s x).2.2=0 then slcG bit f t k (i+1) (bktG bit f t i s x).1 (bktG bit f t i s x).2.1 else bktG bit f t i s x
def sameS (a s:StS):Prop:=a.size.length=s.size.length/\a.minus.length=s.minus.length/\a.since.length=s.since.length/\a.now=s.now/\a.list=s.list/\a.kind=s.kind/\a.nst=s.nst/\a.band=s.band/\a.w=s.w
theorem sameS.refl (s:StS):sameS s s:=⟨rfl,rfl,rfl,rfl,rfl,rfl,rfl,rfl,rfl⟩
theorem sameS.trans {a b c:StS} (h:sameS a b) (g:sameS b c):sameS a c:=by
 obtain⟨h1,h2,h3,h4,h5,h6,h7,h8,h9⟩:=h
 obtain⟨g1,g2,g3,g4,g5,g6,g7,g8,g9⟩:=g
 exact⟨h1.trans g1,h2.trans g2,h3.trans g3,h4.trans g4,h5.trans g5,h6.trans g6,h7.trans g7,h8.trans g8,h9.trans g9⟩
theorem sameS.wf {a s:StS} (h:sameS a s) {n:Nat} (hs:stWf s n):stWf a n:=by
 obtain⟨h1,h2,h3,h4,h5,h6,h7,h8,h9⟩:=h
 unfold stWf at hs ⊢
 rw[h1,h2,h3,h4,h5,h8,h9]
 exact hs
theorem numG_same {β:Type} (bit:β->Int->Bool->Bool×Int×β) (s:StS) (x:β) (i t:Int) (on dig neg:Bool):sameS (numG bit s x i t on dig neg).1 s:=by
 obtain⟨h1,h2,h3⟩:=numG_len bit s x i t on dig neg
 refine⟨h1,h2,h3,?_⟩
 clear h1 h2 h3
 unfold numG
 split
 ·split
  ·split<;>simp
  ·simp
 ·split
  ·split
   ·split
    ·split<;>simp
    ·simp
   ·simp
  ·simp
theorem szWf_set {s:StS} (h:szWf s) {i:Int} (h0:0<=i) (h1:i<s.size.length) {t:Int} (t0:0<=t) (t1:t<=30):∀ x∈s.size.set i.toNat (orP (rd s.size i) t),0<=x/\x<1099511627776:=fun x hx=>by
 rcases List.mem_or_eq_of_mem_set hx with h' | rfl
 ·exact h x h'
 ·have:=h.at h0 h1
  exact orP_bd this.1 this.2 t0 t1
theorem numG_sz {β:Type} (bit:β->Int->Bool->Bool×Int×β) {s:StS} (x:β) {i t:Int} (on dig neg:Bool) (h:szWf s) (h0:0<=i) (h1:i<s.size.length) (t0:0<=t) (t1:t<=30):szWf (numG bit s x i t on dig neg).1:=by
 have hs:=szWf_set h h0 h1 t0 t1
 unfold numG
 split
 ·split
  ·split
   ·exact hs
   ·exact h
  ·exact h
 ·split
  ·split
   ·split
    ·split
     ·exact hs
     ·exact h
    ·exact h
   ·exact h
  ·exact h
theorem dctxP_bd (s:StS) (i:Int):0<=dctxP s i/\dctxP s i<12:=by unfold dctxP;split<;>omega
theorem nctxP_bd (s:StS) (i:Int):0<=nctxP s i/\nctxP s i<12:=by unfold nctxP;split<;>split<;>omega
theorem bctxP_bd (s:StS) (b:Pb):0<=bctxP s b/\bctxP s b<12:=by
 unfold bctxP abP
 split
 ·split<;>split<;>omega
 ·split<;>omega
def enAft (e e':EnS) (k:Nat):Prop:=e'.ok/\e'.out.length<=e.out.length+k/\e'.st.length=e.st.length/\e'.kind=e.kind
theorem enAft.trans {a b c:EnS} {j k:Nat} (h:enAft a b j) (g:enAft b c k):enAft a c (j+k):=by
 obtain⟨h1,h2,h3,h4⟩:=h
 obtain⟨g1,g2,g3,g4⟩:=g
 exact⟨g1,by omega,g3.trans h3,g4.trans h4⟩
theorem enAft.mono {a b:EnS} {j k:Nat} (h:enAft a b j) (hk:j<=k):enAft a b k:=⟨h.1,by have:=h.2.1;omega,h.2.2⟩
theorem putAft {e:EnS} {c:Int} (h:e.ok) (hs:e.st.length=12) (hc:0<=c/\c<12) (b:Bool):enAft e (putP e c (b2i b)) 4:=
 putP_ok h hc.1 (by omega) (b2i_01 b)
theorem numE_aft (s:StS) {e:EnS} (i t:Int) (on dig neg:Bool) (h:e.ok) (hs:e.st.length=12):enAft e (numG putG s e i t on dig neg).2.1 8/\(numG putG s e i t on dig neg).2.2=0:=by
 by_cases ho:oldP s i
 ·rw[numG_enc_old ho]
  have:=putAft h hs (dctxP_bd s i) dig
  exact⟨this.mono (by decide),rfl⟩
 ·cases on with
  | true=>
   rw[numG_enc_new ho]
   have h1:=putAft h hs (nctxP_bd s i) dig
   have h2:=putAft (c:=11) h1.1 (by rw[h1.2.2.1,hs]) (by omega) neg
   split
   ·exact⟨h1.trans h2,rfl⟩
   ·exact⟨h1.mono (by decide),rfl⟩
  | false=>
   rw[numG_off ho]
   exact⟨⟨h,by simp,rfl,rfl⟩,rfl⟩
def deAft (d d':DeS):Prop:=d'.ok/\d'.st.length=d.st.length/\d'.kind=d.kind/\d'.code=d.code
theorem deAft.trans {a b c:DeS} (h:deAft a b) (g:deAft b c):deAft a c:=by
 obtain⟨h1,h2,h3,h4⟩:=h
 obtain⟨g1,g2,g3,g4⟩:=g
 exact⟨g1,g2.trans h2,g3.trans h3,g4.trans h4⟩
theorem gotAft {d:DeS} {c:Int} (h:d.ok) (hs:d.st.length=12) (hc:0<=c/\c<12):deAft d (gotS d c):=
 gotS_ok h hc.1 (by omega)
theorem numD_aft (s:StS) {d:DeS} (i t:Int) (on dig neg:Bool) (h:d.ok) (hs:d.st.length=12):deAft d (numG getG s d i t on dig neg).2.1:=by
 by_cases ho:oldP s i
 ·rw[numG_dec_old ho]
  have:=gotAft h hs (dctxP_bd s i)
  split
  ·exact this
  ·exact this
 ·cases on with
  | true=>
   rw[numG_dec_new ho]
   have h1:=gotAft h hs (nctxP_bd s i)
   have h2:=gotAft (c:=11) h1.1 (by rw[h1.2.1,hs]) (by omega)
   split
   ·split
    ·split
     ·exact h1.trans h2
     ·exact h1.trans h2
    ·exact h1
   ·exact h1
  | false=>
   rw[numG_off ho]
   exact⟨h,rfl,rfl,rfl⟩
theorem onBk_rc {l:List Bck} {i:Nat} (b:Bool):(onBk l i b).map Bck.rc=(l.map Bck.rc).set i [.row (rdBk l i).L .i64 (rdBk l i).b.places,.int .i64 (rdBk l i).b.w,.int .i64 (rdBk l i).b.parent,.bool b]:=by
 unfold onBk;rw[List.map_set];rfl
theorem onBk_at {l:List Bck} {i:Nat} (h:i<l.length) (b:Bool):rdBk (onBk l i b) i=⟨(rdBk l i).L,(rdBk l i).b,b⟩:=by
 unfold onBk rdBk;simp[h]
theorem onBk_on {l:List Bck} {i:Nat} (h:i<l.length) (a b:Bool):onBk (onBk l i a) i b=onBk l i b:=by
 have:=onBk_at h a
 unfold onBk at this ⊢
 rw[this];simp
theorem onBk_len (l:List Bck) (i:Nat) (b:Bool):(onBk l i b).length=l.length:=by unfold onBk;simp
theorem onBk_mem {l:List Bck} {i:Nat} (hi:i<l.length) {b:Bool} {x:Bck} (h:x∈onBk l i b):∃ y∈l,x.L=y.L/\x.b=y.b:=by
 rcases List.mem_or_eq_of_mem_set h with h | rfl
 ·exact⟨x,h,rfl,rfl⟩
 ·exact⟨rdBk l i,by rw[rdBk_nat hi];exact List.getElem_mem hi,rfl,rfl⟩
theorem setOn_wf {s:StS} {n i:Nat} {b:Bool} (hi:i<s.list.length) (h:stWf s n):stWf (setOn s i b) n:=by
 obtain⟨o1,o2,o3,o4,o5,o6,o7,o8,o9,o10,o11⟩:=h
 refine⟨o1,o2,o3,o4,o5,o6,o7,by simp only[setOn,onBk_len];exact o8,o9,o10,fun x hx=>?_⟩
 obtain⟨y,hy,_,e⟩:=onBk_mem hi hx
 rw[e]
 simp only[setOn,onBk_len]
 exact o11 y hy
def sameK (l m:List Bck):Prop:=l.map (fun x=>(x.L,x.b))=m.map (fun x=>(x.L,x.b))
theorem sameK.refl (l:List Bck):sameK l l:=rfl
theorem sameK.on {l m:List Bck} (h:sameK l m) (i:Nat) (hi:i<l.length) (b:Bool):sameK (onBk l i b) m:=by
 unfold sameK at h ⊢
 rw[<-h]
 unfold onBk
 rw[List.map_set]
 rw[show((rdBk l i).L,(rdBk l i).b)=(l.map (fun x=>(x.L,x.b)))[i]'(by simpa using hi) by simp[rdBk_nat hi]]
 rw[List.set_getElem_self]
end Go.Proofs.YtaofjnkpkocgjaaGreat
