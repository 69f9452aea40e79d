import Derived.Test.YtaofjnkpkocgjaaGreatPA2
set_option linter.unusedVariables false
set_option linter.unusedSimpArgs false
set_option maxRecDepth 1000
namespace Go.Proofs.YtaofjnkpkocgjaaGreat
open Xf
def reR (rows:List (Xf.Loc×List Int)) (k:Int):List (Xf.Loc×List Int):=if reE (rows.map (·.2))=0 then srt (hdP ((rows.map (·.2)).headD [])).ord (frR rows).tail k else []
def cmV (H:HdR) (S0 S1 S2:SV):SV:=.agg [.int .i64 H.w,.int .i64 H.h,.int .i64 H.s.wv,.int .i64 H.s.lv,.int .i64 H.s.kd,.bool H.s.gr,.bool H.s.hf,.int .i64 H.s.d,.int .i64 H.a,.int .i64 H.b,.int .i64 H.c,S0,S1,S2]
def invRq:List SV->Look->Option (RqA×List Nat)
 | [.sl d _ 1 0 _],look=>match rowBy look d with
  | some (L,rows)=>some (⟨L,rows⟩,[d])
  | none=>none
 | _,_=>none
attribute [push_cast] invRq cmV
def fs65:FS where
 A:=RqA
 args:=fun a=>[.sl 0 a.L 1 0 a.rows.length]
 mem:=fun a=>[some (.ro,a.L,.recs 1 false [] (a.rows.map byRc))]
 pre:=fun a=>rowsWf a.rows
 res:=fun a x=>.tup [cmV (reH a.cs) (.sl 1 (lx (reE a.cs=0) x 0) 1 0 (reR a.rows 0).length) (.sl 2 (lx (reE a.cs=0) x 1) 1 0 (reR a.rows 1).length) (.sl 3 (lx (reE a.cs=0) x 2) 1 0 (reR a.rows 2).length),.int .i64 (reE a.cs)]
 out:=fun _ _=>[]
 new:=fun a x=>[(lx (reE a.cs=0) x 0,.recs 1 false [] ((reR a.rows 0).map byRc)),(lx (reE a.cs=0) x 1,.recs 1 false [] ((reR a.rows 1).map byRc)),(lx (reE a.cs=0) x 2,.recs 1 false [] ((reR a.rows 2).map byRc))]
 shr:=[0]
theorem reR_mem {rows:List (Xf.Loc×List Int)} {k:Int} {q:Xf.Loc×List Int} (h:q∈reR rows k):∃ r∈rows,q=(r.1.fr 0,r.2):=by
 unfold reR at h
 split at h
 ·have h1:=srt_mem h
  have h2:=List.mem_of_mem_tail h1
  unfold frR at h2
  obtain⟨r,hr,e⟩:=List.mem_map.1 h2
  exact⟨r,hr,e.symm⟩
 ·cases h
theorem fr0_ad (L:Xf.Loc) (o:Nat):(L.fr 0).ad o=L.ad o:=by
 simp[Loc.fr,Loc.ad]
theorem read_rows (a:RqA) (k:Int) (y:Addr) (h:rows (.recs 1 false [] ((reR a.rows k).map byRc)) y):shrd fs65 a y:=by
 obtain⟨L,kk,xs,⟨r,hr,hm⟩,o,ho,e⟩:=h
 obtain⟨q,hq,rfl⟩:=List.mem_map.1 hr
 obtain⟨r0,hr0,rfl⟩:=reR_mem hq
 unfold byRc at hm
 simp only[List.mem_singleton,RC.row.injEq]at hm
 obtain⟨rfl,rfl,rfl⟩:=hm
 refine⟨0,by simp[fs65],(.ro,a.L,.recs 1 false [] (a.rows.map byRc)),rfl,.inr ⟨r0.1,.u8,r0.2,⟨byRc r0,List.mem_map.2 ⟨r0,hr0,rfl⟩,?_⟩,o,ho,by rw[e,fr0_ad]⟩⟩
 unfold byRc
 exact List.mem_singleton.2 rfl
theorem reE_cons (b:List Int) (l:List (List Int)):reE (b::l)=if hdE b=0 then (if (hdP b).ord.length<l.length then 80 else if SidesOk (hdP b).w (hdP b).h then 0 else 4)else hdE b:=rfl
set_option maxRecDepth 8000 in
set_option maxHeartbeats 4000000 in
theorem ok65:FSOk Tryz.prog 65 fs65:=by
 refine⟨⟨_,Tryz.func65,by kernel_rfl,by kernel_rfl⟩,fun a=>⟨by simp[fs65,push_cast,noMine,argOwn,Chunk.frArg],by simp[fs65,push_cast,outOk,Chunk.ext],fun x=>.inr ⟨fun j L ch h=>.inr fun y hy=>?_,fun c ch h=>by simp[fs65,lk]at h⟩⟩,fun a hp=>?_⟩
 ·match j,h with
  | 0,h=>simp only[fs65,List.getElem?_cons_zero,Option.some.injEq,Prod.mk.injEq]at h;obtain⟨rfl,rfl⟩:=h;exact read_rows a 0 y hy
  | 1,h=>simp only[fs65,List.getElem?_cons_zero,List.getElem?_cons_succ,Option.some.injEq,Prod.mk.injEq]at h;obtain⟨rfl,rfl⟩:=h;exact read_rows a 1 y hy
  | 2,h=>simp only[fs65,List.getElem?_cons_zero,List.getElem?_cons_succ,Option.some.injEq,Prod.mk.injEq]at h;obtain⟨rfl,rfl⟩:=h;exact read_rows a 2 y hy
  | j+3,h=>simp[fs65]at h
 obtain⟨L,rows⟩:=a
 have hwf:rowsWf rows:=hp
 change Tri Tryz.prog 65 [.sl 0 L 1 0 rows.length] [some (.ro,L,.recs 1 false [] (rows.map byRc))] (postF fs65 _)
 refine tri_evS (hyp (l:=[(24,ent24),(55,ent55),(135,ent135)]) (lp:=[]) ⟨e24,e55,e135,trivial⟩ trivial) Tryz.func65 comp65 (rs:=[.cell 2 (some 14),.tmp 3]) (by rfl) Tryz.ntmps65 31 ?_
 have hcs:(⟨L,rows⟩:RqA).cs=rows.map (·.2):=rfl
 have bad:∀ e,reE (rows.map (·.2))=e->e≠0->reH (rows.map (·.2))=hd0/\∀ k,reR rows k=[]:=fun e h h0=>⟨if_neg (by rw[h];exact h0),fun k=>if_neg (by rw[h];exact h0)⟩
 cases rows with
 | nil=>
  obtain⟨b1,b2⟩:=bad 80 rfl (by decide)
  have e1:reE []=80:=rfl
  have b1:reH []=hd0:=b1
  have hcs:(⟨L,[]⟩:RqA).cs=[]:=rfl
  simp -implicitDefEqProofs only[push_cast,zz,seval,ir65]
  intro X
  repeat refine om_ ?_
  refine postF.mk' (fun _=>nilLoc) [some 0,none,none,none] ?_
  simp -implicitDefEqProofs only[push_cast,zz,seval,fs65,hcs,b1,b2,e1,hd0,lx]
 | cons r0 rs=>
 obtain⟨R0,b⟩:=r0
 have hbw:=hwf.2 (R0,b) List.mem_cons_self
 obtain⟨hb,hbl⟩:byB b/\b.length<=140737488355328:=hbw
 have hrl:rs.length<=999999999:=by have:=hwf.1;rw[List.length_cons]at this;omega
 have hcons:reE (((R0,b)::rs).map (·.2))=if hdE b=0 then (if (hdP b).ord.length<rs.length then 80 else if SidesOk (hdP b).w (hdP b).h then 0 else 4)else hdE b:=by
  rw[List.map_cons,reE_cons,List.length_map]
 have hq0:∀ z,recAt 0 z (((R0,b)::rs).map byRc)=[.row R0 .u8 b]:=fun _=>rfl
 have hhd:((((R0,b)::rs).map (·.2)).headD [])=b:=rfl
 have hall:∀ (i:Nat) (hi:i<((R0,b)::rs).length),byAll (((R0,b)::rs)[i]).2/\(((R0,b)::rs)[i]).2.length<=140737488355328:=fun i hi=>hwf.2 _ (List.getElem_mem hi)
 obtain⟨RW,hRW⟩:∃ l,(R0,b)::rs=l:=⟨_,rfl⟩
 have hlenN:RW.length=rs.length+1:=by rw[<-hRW,List.length_cons]
 rw[hRW]at hcs hcons hq0 hhd
 simp only[hRW]at bad hall
 rw[hRW]
 have hmapl:((RW.map byRc).length:Int)=rs.length+1:=by rw[List.length_map];omega
 have hlen1:((RW.length:Nat):Int)=rs.length+1:=by omega
 have hne:¬ (rs.length:Int)+1=0:=by omega
 have q0:=hq0
 have hok:=hdP_ok hb
 obtain⟨E,hE⟩:∃ e,hdE b=e:=⟨_,rfl⟩
 rw[hE]at hcons
 by_cases h0:E=0
 rotate_left
 ·rw[if_neg h0]at hcons
  obtain⟨b1,b2⟩:=bad E hcons h0
  simp -implicitDefEqProofs only[push_cast,zz,seval,ir65,hlen1,hmapl,hne,q0,fs24,SyA.sv,hb,hbl,hE,h0]
  intro X X1
  repeat refine om_ ?_
  refine postF.mk' (fun _=>nilLoc) [some 0,none,none,none] ?_
  simp -implicitDefEqProofs only[push_cast,zz,seval,fs65,hcs,b1,b2,hcons,h0,hd0,lx]
 subst h0
 rw[if_pos rfl]at hcons
 obtain⟨⟨w,h,⟨wv,lv,kd,gr,hf,d⟩,na,nb,nc⟩,hH⟩:∃ x,hdP b=x:=⟨_,rfl⟩
 rw[hH]at hok hcons
 obtain⟨k1,k2,k3,k4,k5⟩:=hok
 have hod:odOk d na nb nc:=k5.ok
 simp only at k1 k2 k3 k4
 have hoe:(⟨w,h,⟨wv,lv,kd,gr,hf,d⟩,na,nb,nc⟩:HdR).ord=ordP d na nb nc:=rfl
 rw[hoe]at hcons
 have hol:=ord_len d na nb nc
 have hat:=fun i hi=>ord_at (d:=d) (a:=na) (b:=nb) (c:=nc) (i:=i) hi
 obtain⟨LS,hLS⟩:∃ l,ordP d na nb nc=l:=⟨_,rfl⟩
 rw[hLS]at hol hcons
 simp only[hLS]at hat
 have s3:∀ x y z w:Int,([x,y,z].set 0 w=[w,y,z]/\[x,y,z].set 1 w=[x,w,z])/\[x,y,z].set 2 w=[x,y,w]:=fun _ _ _ _=>⟨⟨rfl,rfl⟩,rfl⟩
 have t3:∀ x y z w:Int,([x,y,z].getD 0 w=x/\[x,y,z].getD 1 w=y)/\[x,y,z].getD 2 w=z:=fun _ _ _ _=>⟨⟨rfl,rfl⟩,rfl⟩
 have hsub:(rs.length:Int)+1-1=rs.length:=by omega
 by_cases h1:LS.length<rs.length
 ·rw[if_pos h1]at hcons
  obtain⟨b1,b2⟩:=bad 80 hcons (by decide)
  have h1i:(LS.length:Int)<rs.length:=by omega
  simp -implicitDefEqProofs only[push_cast,zz,seval,ir65,hlen1,hmapl,hne,q0,fs24,SyA.sv,hb,hbl,hE,hH,fs64,hod,hLS,t3,s3,hsub,h1i]
  intro X X1
  repeat refine om_ ?_
  intro X2 X3
  repeat refine om_ ?_
  refine postF.mk' (fun _=>nilLoc) [some 0,none,none,none] ?_
  simp -implicitDefEqProofs only[push_cast,zz,seval,fs65,hcs,b1,b2,hcons,hd0,lx]
 rw[if_neg h1]at hcons
 have h1i:¬ (LS.length:Int)<rs.length:=by omega
 by_cases h2:SidesOk w h
 rotate_left
 ·rw[if_neg h2]at hcons
  have hno:¬ (⟨w,h,0,0,0⟩:NewA).Ok:=fun g=>h2 g.1
  obtain⟨b1,b2⟩:=bad 4 hcons (by decide)
  simp -implicitDefEqProofs only[push_cast,zz,seval,ir65,hlen1,hmapl,hne,q0,fs24,SyA.sv,hb,hbl,hE,hH,fs64,hod,hLS,t3,s3,hsub,h1i,fs135,hno]
  intro X X1
  repeat refine om_ ?_
  intro X2 X3
  repeat refine om_ ?_
  intro X4
  repeat refine om_ ?_
  refine postF.mk' (fun _=>nilLoc) [some 0,none,none,none] ?_
  simp -implicitDefEqProofs only[push_cast,zz,seval,fs65,hcs,b1,b2,hcons,hd0,lx]
 rw[if_pos h2]at hcons
 have hv0:ValOk 0:=⟨Int.le_refl 0,by decide⟩
 have hno:(⟨w,h,0,0,0⟩:NewA).Ok:=⟨h2,hv0,hv0,hv0⟩
 simp -implicitDefEqProofs only[push_cast,zz,seval,ir65,hlen1,hmapl,hne,q0,fs24,SyA.sv,hb,hbl,hE,hH,fs64,hod,hLS,t3,s3,hsub,h1i,fs135,hno]
 intro X X1
 repeat refine om_ ?_
 intro X2 X3
 repeat refine om_ ?_
 intro X4
 repeat refine om_ ?_
 obtain⟨T,hT⟩:∃ l,(frR RW).tail=l:=⟨_,rfl⟩
 have hTl:T.length=rs.length:=by rw[<-hT,List.length_tail];unfold frR;rw[List.length_map,hlenN];rfl
 have hTi:∀ (i:Nat) (hi:i<T.length) (hj:i+1<RW.length),T[i]=(RW[i+1].1.fr 0,RW[i+1].2):=fun i hi hj=>by
  subst hT
  rw[List.getElem_tail]
  unfold frR
  rw[List.getElem_map]
 have cs0:∀ xs:List Int,sub xs 0 (xs.length:Int)=xs:=fun xs=>by unfold sub;simp
 refine evS_loopU (A:=Nat×(Nat->Xf.Loc)) kp65_1 kl65_1 (fun y=>[(60,.int .i64 y.1),(10,.sl 5 (X3 2 19) 1 0 LS.length)])
  (fun y=>[(5,.mine,X3 2 19,.ints .i64 LS),(12,.mine,y.2 0,.recs 1 false [] ((srt LS (T.take y.1) 0).map byRc)),(13,.mine,y.2 1,.recs 1 false [] ((srt LS (T.take y.1) 1).map byRc)),(14,.mine,y.2 2,.recs 1 false [] ((srt LS (T.take y.1) 2).map byRc)),(19,.mine,nilLoc,.ints .i64 []),
   (18,.mine,X2 5 18,.cells [.int .i64 w,.int .i64 h,.int .i64 wv,.int .i64 lv,.int .i64 kd,.bool gr,.bool hf,.int .i64 d,.int .i64 na,.int .i64 nb,.int .i64 nc,.sl 12 (y.2 0) 1 0 (srt LS (T.take y.1) 0).length,.sl 13 (y.2 1) 1 0 (srt LS (T.take y.1) 1).length,.sl 14 (y.2 2) 1 0 (srt LS (T.take y.1) 2).length])])
  (fun y=>y.1<=rs.length) (fun y=>rs.length-y.1) (0,fun _=>nilLoc) (Nat.zero_le _) (Sub.of (mkG 31 [(0,0),(1,1),(2,2),(3,3),(4,4),(6,6),(7,7),(8,8),(9,9),(10,10),(11,11),(15,15),(16,16),(17,17),(18,18),(20,20),(21,21),(22,22),(23,23),(24,24),(25,25),(26,26),(27,27),(5,19)]) ?_) ?_
 ·have e0:∀ k,srt LS (List.take 0 T) k=[]:=fun k=>srt_nil LS k
  simp -implicitDefEqProofs only[push_cast,zz,seval,e0]
 intro ⟨i,F⟩ (hi1:i<=rs.length) K hK
 by_cases hi2:i<rs.length
 ·have hi3:(i:Int)<rs.length:=by omega
  have hx:=hat i (by omega)
  have hsn:=fun k=>srt_snoc k LS T i (by omega) (by omega)
  have hTi1:=hTi i (by omega) (by omega)
  have q1:=fun z=>recAt_By (l:=RW) (i:=i+1) (by omega) z
  simp only[show((i+1:Nat):Int)=1+(i:Int) by omega]at q1
  have hbi:=hall (i+1) (by omega)
  obtain⟨⟨Li,ci⟩,hLi⟩:∃ r,RW[i+1]'(by omega)=r:=⟨_,rfl⟩
  rw[hLi]at hTi1 q1 hbi
  rw[hTi1]at hsn
  simp only at hsn q1 hbi
  obtain⟨S0,hS0⟩:∃ s,srt LS (T.take i) 0=s:=⟨_,rfl⟩
  obtain⟨S1,hS1⟩:∃ s,srt LS (T.take i) 1=s:=⟨_,rfl⟩
  obtain⟨S2,hS2⟩:∃ s,srt LS (T.take i) 2=s:=⟨_,rfl⟩
  have n0:=hsn 0
  have n1:=hsn 1
  have n2:=hsn 2
  rw[hS0]at n0
  rw[hS1]at n1
  rw[hS2]at n2
  have sl:∀ k,((srt LS (T.take i) k).length:Int)<=999999999:=fun k=>by have h1:=srt_len k LS (T.take i);rw[List.length_take]at h1;omega
  have l0:=sl 0
  have l1:=sl 1
  have l2:=sl 2
  rw[hS0]at l0
  rw[hS1]at l1
  rw[hS2]at l2
  have m0:((S0.map byRc).length:Int)=S0.length:=by rw[List.length_map]
  have m1:((S1.map byRc).length:Int)=S1.length:=by rw[List.length_map]
  have m2:((S2.map byRc).length:Int)=S2.length:=by rw[List.length_map]
  rw[hS0,hS1,hS2]
  have hii:(i:Int)<LS.length:=by omega
  rcases hx with hx | hx | hx
  ·rw[hx,if_pos rfl]at n0
   rw[hx,if_neg (by decide),List.append_nil]at n1 n2
   simp (maxSteps:=3000000) -implicitDefEqProofs only[push_cast,zz,seval,b65_1,hi3,hii,hx,q1,m0,m1,m2,cs0]
   have hrc:(S0++[(Li.fr 0,ci)]).map byRc=S0.map byRc++[[.row (Li.fr 0) .u8 ci]]:=by rw[List.map_append];rfl
   refine⟨by omega,by omega,by omega,fun X5=>?_,fun X5=>?_,fun X5=>?_,fun X5=>?_⟩
   all_goals repeat refine om_ ?_
   all_goals refine hK (i+1,fun j=>if j=0 then X5 13 30 else F j) (show i+1<=rs.length by omega) (show rs.length-(i+1)<rs.length-i by omega) _ _ (Sub.of (mkG 31 [(0,0),(1,1),(2,2),(3,3),(4,4),(5,5),(6,6),(7,7),(8,8),(9,9),(10,10),(11,11),(12,30),(13,13),(14,14),(15,15),(16,16),(17,17),(18,18),(20,20),(21,21),(22,22),(23,23),(24,24),(25,25),(26,26),(27,27)]) ?_)
   all_goals simp -implicitDefEqProofs only[push_cast,zz,seval,n0,n1,n2,hrc,List.length_append]
  ·rw[hx,if_pos rfl]at n1
   rw[hx,if_neg (by decide),List.append_nil]at n0 n2
   simp (maxSteps:=3000000) -implicitDefEqProofs only[push_cast,zz,seval,b65_1,hi3,hii,hx,q1,m0,m1,m2,cs0]
   have hrc:(S1++[(Li.fr 0,ci)]).map byRc=S1.map byRc++[[.row (Li.fr 0) .u8 ci]]:=by rw[List.map_append];rfl
   refine⟨by omega,by omega,by omega,fun X5=>?_,fun X5=>?_,fun X5=>?_,fun X5=>?_⟩
   all_goals repeat refine om_ ?_
   all_goals refine hK (i+1,fun j=>if j=1 then X5 13 30 else F j) (show i+1<=rs.length by omega) (show rs.length-(i+1)<rs.length-i by omega) _ _ (Sub.of (mkG 31 [(0,0),(1,1),(2,2),(3,3),(4,4),(5,5),(6,6),(7,7),(8,8),(9,9),(10,10),(11,11),(12,12),(13,30),(14,14),(15,15),(16,16),(17,17),(18,18),(20,20),(21,21),(22,22),(23,23),(24,24),(25,25),(26,26),(27,27)]) ?_)
   all_goals simp -implicitDefEqProofs only[push_cast,zz,seval,n0,n1,n2,hrc,List.length_append]
  ·rw[hx,if_pos rfl]at n2
   rw[hx,if_neg (by decide),List.append_nil]at n0 n1
   simp (maxSteps:=3000000) -implicitDefEqProofs only[push_cast,zz,seval,b65_1,hi3,hii,hx,q1,m0,m1,m2,cs0]
   have hrc:(S2++[(Li.fr 0,ci)]).map byRc=S2.map byRc++[[.row (Li.fr 0) .u8 ci]]:=by rw[List.map_append];rfl
   refine⟨by omega,by omega,by omega,fun X5=>?_,fun X5=>?_,fun X5=>?_,fun X5=>?_⟩
   all_goals repeat refine om_ ?_
   all_goals refine hK (i+1,fun j=>if j=2 then X5 13 30 else F j) (show i+1<=rs.length by omega) (show rs.length-(i+1)<rs.length-i by omega) _ _ (Sub.of (mkG 31 [(0,0),(1,1),(2,2),(3,3),(4,4),(5,5),(6,6),(7,7),(8,8),(9,9),(10,10),(11,11),(12,12),(13,13),(14,30),(15,15),(16,16),(17,17),(18,18),(20,20),(21,21),(22,22),(23,23),(24,24),(25,25),(26,26),(27,27)]) ?_)
   all_goals simp -implicitDefEqProofs only[push_cast,zz,seval,n0,n1,n2,hrc,List.length_append]
 ·obtain rfl:i=rs.length:=by omega
  have htk:T.take rs.length=T:=by rw[<-hTl,List.take_length]
  have hrk:∀ k,reR RW k=srt LS T k:=fun k=>by unfold reR;rw[hcons,if_pos rfl,hhd,hH,hoe,hLS,hT]
  have hrh:reH (RW.map (·.2))=⟨w,h,⟨wv,lv,kd,gr,hf,d⟩,na,nb,nc⟩:=by unfold reH;rw[hcons,if_pos rfl,hhd,hH]
  clear hK
  rw[htk]
  simp (maxSteps:=3000000) -implicitDefEqProofs only[push_cast,zz,seval,b65_1,r65_2,Int.lt_irrefl]
  repeat refine om_ ?_
  refine postF.mk' (fun j=>F j) [some 0,some 12,some 13,some 14] ?_
  simp (maxSteps:=3000000) -implicitDefEqProofs only[push_cast,zz,seval,fs65,hcs,hcons,hrk,hrh,lx,if_true]
def ent65:Entry:=spOf fs65 invRq
theorem e65:EntryOk Tryz.prog 65 ent65:=entry_of ok65 invRq
@[push_cast] theorem ent65_app (us:List SV) (look:Look) (x:Nat->Xf.Loc) (k:Nat):ent65 us look x k=spOf fs65 invRq us look x k:=rfl
def ir136:IR:=
 .seq (r_ [o_ 2 (.box 10 (.t 0)),z_ 4 0,z_ 5 0] [0,4,5]) (.seq (.seq (r_ [m_ 6 1,c_ 7 .gtr 6 0,m_ 8 7,p_ 8 (f_ 9 2 2),p_ 8 (f_ 10 9 4),p_ 8 (l_ 11 10),K_ 12 8 11] [1,6,7,8,9,10,11]) (.cond (.t 12) (.seq (R_ [f_ 13 2 0,l_ 14 13,a_ 15 14 1,c_ 16 .quo 15 2,f_ 17 2 1,l_ 18 17,a_ 19 18 1,c_ 20 .quo 19 2,m_ 4 16,m_ 5 20] [2,12,13,14,15,16,17,18,19,20]) (.ret)) (.skip))) (.seq (R_ [f_ 21 2 0,l_ 22 21,f_ 23 2 1,l_ 24 23,m_ 4 22,m_ 5 24] [2,12,21,22,23,24]) (.ret)))
set_option maxRecDepth 4000 in
theorem comp136:(Tryz.f136.body.bind fun c=>compC tab isP chkAll ir136 c)=some ir136:=by kernel_rfl
def b66_1:IR:=
 .seq (r_ [c_ 11 .lss 10 3] []) (.seq (.cond (.t 11) (.skip) (.exit 0)) (.seq (.block 1 (.seq (r_ [m_ 12 10,m_ 5 12] [11,12]) (.seq (.seq (r_ [m_ 13 5,c_ 14 .gtr 13 0,m_ 15 14,p_ 15 (f_ 16 1 2),p_ 15 (f_ 17 16 3),p_ 15 (l_ 18 17),K_ 19 15 18] [13,14,15,16,17,18]) (.cond (.t 19) (.exit 0) (.skip))) (.seq (r_ [o_ 21 (.ld false (some 14) 0 0 (.t 1)),m_ 22 5,o_ 23 (.call (some 4) 11 136 [.t 21,.t 22]),m_ 20 23,e_ 24 20 0,e_ 25 20 1,m_ 6 24,m_ 7 25] [19,20,21,22,23,24,25]) (.seq (R_ [m_ 27 6,m_ 28 7,f_ 29 1 2,f_ 30 29 1,⟨some 31,none,⟨[19],[]⟩,.ld false none 0 0 (.t 30)⟩,f_ 32 1 2,f_ 33 32 2,⟨some 34,none,⟨[19],[]⟩,.ld false none 0 0 (.t 33)⟩,m_ 35 5,f_ 36 1 8,o_ 37 (.idxP (.t 36) (.t 35) 3 1),⟨some 38,none,⟨[19],[]⟩,.ld false none 0 0 (.t 37)⟩,m_ 39 5,f_ 40 1 11,o_ 41 (.idxP (.t 40) (.t 39) 3 1),⟨some 42,none,⟨[19],[]⟩,.ld false none 0 0 (.t 41)⟩,⟨some 43,none,⟨[19],[]⟩,.call (some 4) 15 137 [.t 27,.t 28,.t 31,.t 34,.t 38,.t 42]⟩,m_ 26 43,e_ 44 26 0,e_ 45 26 1,o_ 8 (.alloc 19 [y_,y_,nilSV]),s_ 3 .i64 8 44,m_ 9 45] [5,6,7,26,27,28,29,30,31,32,33,34,35,36,37,38,39,40,41,42,43,44,45]) (.seq (.seq (r_ [m_ 46 9,c_ 47 .neq 46 0] [46]) (.cond (.t 47) (.seq (r_ [m_ 48 9,o_ 2 (.mov (.k nilSV)),m_ 3 48] [1,4,8,9,10,47,48]) (.ret)) (.skip))) (r_ [m_ 49 4,o_ 50 (.ld false (some 3) 0 0 (.t 8)),o_ 51 (.brecs 20 3 .i64 [.t 50]),o_ 52 (.app 21 3 40 (.t 49) (.t 51)),m_ 4 52] [2,3,8,9,47,49,50,51,52]))))))) (r_ [a_ 53 10 1,m_ 10 53] [53])))
def r66_2:IR:=
 .seq (r_ [m_ 54 4,m_ 2 54,z_ 3 0] [1,4,10,54]) (.ret)
def ir66:IR:=
 .seq (r_ [o_ 1 (.box 10 (.t 0)),o_ 2 (.mov (.k nilSV)),z_ 3 0] [0,2,3]) (.seq (r_ [o_ 4 (.mov (.k nilSV))] []) (.seq (.seq (r_ [z_ 10 0] []) (.block 0 (.loop b66_1))) (r66_2)))
def kp66_1:List Nat:=[1,4,10]
def kl66_1:List Nat:=[11,12,13,14,15,16,17,18,19,20,21]
attribute [push_cast] kp66_1 kl66_1
set_option maxRecDepth 4000 in
theorem comp66:(Tryz.f66.body.bind fun c=>compC tab isP chkAll ir66 c)=some ir66:=by kernel_rfl
structure SiA where
 H:HdR
 L0:Xf.Loc
 n0:Int
 L1:Xf.Loc
 n1:Int
 L2:Xf.Loc
 n2:Int
 k:Nat
def invSi:List SV->Look->Option (SiA×List Nat)
 | [.agg [.int .i64 w,.int .i64 h,.int .i64 wv,.int .i64 lv,.int .i64 kd,.bool gr,.bool hf,.int .i64 d,.int .i64 a,.int .i64 b,.int .i64 c,.sl _ L0 1 0 n0,.sl _ L1 1 0 n1,.sl _ L2 1 0 n2],.int .i64 k],_=>some (⟨⟨w,h,⟨wv,lv,kd,gr,hf,d⟩,a,b,c⟩,L0,n0,L1,n1,L2,n2,k.toNat⟩,[])
 | _,_=>none
attribute [push_cast] invSi
def siOk (H:HdR):Prop:=0<=H.w/\0<=H.h/\H.w<=2147483647/\H.h<=2147483647
def fs136:FS where
 A:=SiA
 args:=fun a=>[cmV a.H (.sl 4096 a.L0 1 0 a.n0) (.sl 4096 a.L1 1 0 a.n1) (.sl 4096 a.L2 1 0 a.n2),.int .i64 a.k]
 mem:=fun a=>[]
 pre:=fun a=>siOk a.H
 res:=fun a x=>.tup [.int .i64 (a.H.pw a.k),.int .i64 (a.H.ph a.k)]
 out:=fun _ _=>[]
 new:=fun _ _=>[]
theorem ok136:FSOk Tryz.prog 136 fs136:=by
 refine⟨⟨_,Tryz.func136,by kernel_rfl,by kernel_rfl⟩,fun a=>⟨by simp[fs136,cmV,push_cast,noMine,argOwn,Chunk.frArg],by simp[fs136,cmV,push_cast,outOk,Chunk.ext],fun x=>.inl (by simp[fs136,cmV,push_cast,frNew,frOut,Chunk.fr])⟩,fun a hp=>?_⟩
 obtain⟨⟨w,h,⟨wv,lv,kd,gr,hf,d⟩,a,b,c⟩,L0,n0,L1,n1,L2,n2,k⟩:=a
 obtain⟨h1,h2,h3,h4⟩:0<=w/\0<=h/\w<=2147483647/\h<=2147483647:=hp
 change Tri Tryz.prog 136 [.agg [.int .i64 w,.int .i64 h,.int .i64 wv,.int .i64 lv,.int .i64 kd,.bool gr,.bool hf,.int .i64 d,.int .i64 a,.int .i64 b,.int .i64 c,.sl 4096 L0 1 0 n0,.sl 4096 L1 1 0 n1,.sl 4096 L2 1 0 n2],.int .i64 k] [] (postF fs136 _)
 refine tri_evS (hyp (l:=[]) (lp:=[]) trivial trivial) Tryz.func136 comp136 (rs:=[.tmp 4,.tmp 5]) (by rfl) Tryz.ntmps136 11 ?_
 by_cases hk:0<k
 ·have hki:(0:Int)<k:=by omega
  cases hf with
  | true=>
   have e1:HdR.pw ⟨w,h,⟨wv,lv,kd,gr,true,d⟩,a,b,c⟩ k=(w+1) / 2:=if_pos ⟨hk,rfl⟩
   have e2:HdR.ph ⟨w,h,⟨wv,lv,kd,gr,true,d⟩,a,b,c⟩ k=(h+1) / 2:=if_pos ⟨hk,rfl⟩
   simp -implicitDefEqProofs only[push_cast,zz,seval,ir136,hki]
   intro X
   repeat refine om_ ?_
   refine postF.mk' (fun _=>default) [] ?_
   simp -implicitDefEqProofs only[push_cast,zz,seval,fs136,e1,e2]
  | false=>
   have e1:HdR.pw ⟨w,h,⟨wv,lv,kd,gr,false,d⟩,a,b,c⟩ k=w:=if_neg (fun h=>by cases h.2)
   have e2:HdR.ph ⟨w,h,⟨wv,lv,kd,gr,false,d⟩,a,b,c⟩ k=h:=if_neg (fun h=>by cases h.2)
   simp -implicitDefEqProofs only[push_cast,zz,seval,ir136,hki]
   intro X
   repeat refine om_ ?_
   refine postF.mk' (fun _=>default) [] ?_
   simp -implicitDefEqProofs only[push_cast,zz,seval,fs136,e1,e2]
 ·have hki:¬ (0:Int)<k:=by omega
  have e1:HdR.pw ⟨w,h,⟨wv,lv,kd,gr,hf,d⟩,a,b,c⟩ k=w:=if_neg (fun h=>hk h.1)
  have e2:HdR.ph ⟨w,h,⟨wv,lv,kd,gr,hf,d⟩,a,b,c⟩ k=h:=if_neg (fun h=>hk h.1)
  simp -implicitDefEqProofs only[push_cast,zz,seval,ir136,hki]
  intro X
  repeat refine om_ ?_
  refine postF.mk' (fun _=>default) [] ?_
  simp -implicitDefEqProofs only[push_cast,zz,seval,fs136,e1,e2]
def ent136:Entry:=spOf fs136 invSi
theorem e136:EntryOk Tryz.prog 136 ent136:=entry_of ok136 invSi
@[push_cast] theorem ent136_app (us:List SV) (look:Look) (x:Nat->Xf.Loc) (k:Nat):ent136 us look x k=spOf fs136 invSi us look x k:=rfl
def HdR.ec (H:HdR) (cs:List (List Int)) (k:Nat):Int:=decE (H.pw k) (H.ph k) H.s.lv H.s.kd (H.pn k) cs
def HdR.pc (H:HdR) (cs:List (List Int)) (k:Nat):Pl:=decP (H.pw k) (H.ph k) H.s.lv H.s.kd (H.pn k) cs
def rcN (P:Nat->Pl) (N:Nat->Xf.Loc):Nat->List (List RC)
 | 0=>[]
 | n+1=>rcN P N n++[prc (P n) (N n)]
theorem rcN_len (P:Nat->Pl) (N:Nat->Xf.Loc):∀ n,(rcN P N n).length=n
 | 0=>rfl
 | n+1=>by rw[rcN,List.length_append,rcN_len P N n];rfl
theorem rcN_cong {P:Nat->Pl} {N M:Nat->Xf.Loc}:∀ {n:Nat},(∀ j,j<n->N j=M j)->rcN P N n=rcN P M n
 | 0,_=>rfl
 | n+1,h=>by rw[rcN,rcN,rcN_cong fun j hj=>h j (by omega),h n (by omega)]
structure CmA where
 H:HdR
 L0:Xf.Loc
 r0:List (Xf.Loc×List Int)
 L1:Xf.Loc
 r1:List (Xf.Loc×List Int)
 L2:Xf.Loc
 r2:List (Xf.Loc×List Int)
def CmA.cs (a:CmA):Nat->List (List Int)
 | 0=>a.r0.map (·.2)
 | 1=>a.r1.map (·.2)
 | _=>a.r2.map (·.2)
def CmA.e (a:CmA):Int:=fstE (a.H.ec (a.cs 0) 0) (if a.H.s.gr=true then 0 else fstE (a.H.ec (a.cs 1) 1) (a.H.ec (a.cs 2) 2))
def CmA.n (a:CmA):Nat:=if a.e=0 then (if a.H.s.gr=true then 1 else 3)else 0
def invCm:List SV->Look->Option (CmA×List Nat)
 | [.agg [.int .i64 w,.int .i64 h,.int .i64 wv,.int .i64 lv,.int .i64 kd,.bool gr,.bool hf,.int .i64 d,.int .i64 a,.int .i64 b,.int .i64 c,.sl c0 _ 1 0 _,.sl c1 _ 1 0 _,.sl c2 _ 1 0 _]],look=>match rowBy look c0,rowBy look c1,rowBy look c2 with
  | some (L0,r0),some (L1,r1),some (L2,r2)=>some (⟨⟨w,h,⟨wv,lv,kd,gr,hf,d⟩,a,b,c⟩,L0,r0,L1,r1,L2,r2⟩,[c0,c1,c2])
  | _,_,_=>none
 | _,_=>none
attribute [push_cast] invCm
def fs66:FS where
 A:=CmA
 args:=fun a=>[cmV a.H (.sl 0 a.L0 1 0 a.r0.length) (.sl 1 a.L1 1 0 a.r1.length) (.sl 2 a.L2 1 0 a.r2.length)]
 mem:=fun a=>[some (.ro,a.L0,.recs 1 false [] (a.r0.map byRc)),some (.ro,a.L1,.recs 1 false [] (a.r1.map byRc)),some (.ro,a.L2,.recs 1 false [] (a.r2.map byRc))]
 pre:=fun a=>siOk a.H/\rowsWf a.r0/\rowsWf a.r1/\rowsWf a.r2
 res:=fun a x=>.tup [.sl 3 (lx (a.e=0) x 0) (esz 3 a.n) 0 a.n,.int .i64 a.e]
 out:=fun _ _=>[]
 new:=fun a x=>[(lx (a.e=0) x 0,.recs 3 true [] (rcN (fun k=>a.H.pc (a.cs k) k) (fun j=>x (j+1)) a.n))]
set_option maxRecDepth 8000 in
set_option maxHeartbeats 4000000 in
theorem ok66:FSOk Tryz.prog 66 fs66:=by
 refine⟨⟨_,Tryz.func66,by kernel_rfl,by kernel_rfl⟩,fun a=>⟨by simp[fs66,cmV,push_cast,noMine,argOwn,Chunk.frArg],by simp[fs66,cmV,push_cast,outOk,Chunk.ext],fun x=>.inl (by simp[fs66,cmV,push_cast,frNew,frOut,Chunk.fr])⟩,fun a hp=>?_⟩
 obtain⟨⟨w,h,⟨wv,lv,kd,gr,hf,d⟩,a,b,c⟩,L0,r0,L1,r1,L2,r2⟩:=a
 obtain⟨hsd,w0,w1,w2⟩:siOk ⟨w,h,⟨wv,lv,kd,gr,hf,d⟩,a,b,c⟩/\rowsWf r0/\rowsWf r1/\rowsWf r2:=hp
 change Tri Tryz.prog 66 [.agg [.int .i64 w,.int .i64 h,.int .i64 wv,.int .i64 lv,.int .i64 kd,.bool gr,.bool hf,.int .i64 d,.int .i64 a,.int .i64 b,.int .i64 c,.sl 0 L0 1 0 r0.length,.sl 1 L1 1 0 r1.length,.sl 2 L2 1 0 r2.length]] [some (.ro,L0,.recs 1 false [] (r0.map byRc)),some (.ro,L1,.recs 1 false [] (r1.map byRc)),some (.ro,L2,.recs 1 false [] (r2.map byRc))] (postF fs66 _)
 refine tri_evS (hyp (l:=[(136,ent136),(137,ent137)]) (lp:=[]) ⟨e136,e137,trivial⟩ trivial) Tryz.func66 comp66 (rs:=[.tmp 2,.tmp 3]) (by rfl) Tryz.ntmps66 22 ?_
 have hdc:∀ w h lv kd P L (r:List (Xf.Loc×List Int)),(⟨w,h,lv,kd,P,L,r,r.length⟩:DcA).cs=r.map (·.2):=fun _ _ _ _ _ _ r=>by unfold DcA.cs;simp only;rw[List.take_length]
 have rd0:rd [a,b,c] 0=a:=rfl
 have rd1:rd [a,b,c] 1=b:=rfl
 have rd2:rd [a,b,c] 2=c:=rfl
 have cs0:∀ xs:List Int,sub xs 0 (xs.length:Int)=xs:=fun xs=>by unfold sub;simp
 obtain⟨A,hA⟩:∃ A:CmA,(⟨⟨w,h,⟨wv,lv,kd,gr,hf,d⟩,a,b,c⟩,L0,r0,L1,r1,L2,r2⟩:CmA)=A:=⟨_,rfl⟩
 obtain⟨W0,hW0⟩:∃ v,HdR.pw ⟨w,h,⟨wv,lv,kd,gr,hf,d⟩,a,b,c⟩ 0=v:=⟨_,rfl⟩
 obtain⟨V0,hV0⟩:∃ v,HdR.ph ⟨w,h,⟨wv,lv,kd,gr,hf,d⟩,a,b,c⟩ 0=v:=⟨_,rfl⟩
 obtain⟨e0,he0⟩:∃ e,decE W0 V0 lv kd a (r0.map (·.2))=e:=⟨_,rfl⟩
 obtain⟨⟨x0,y0,z0⟩,hp0⟩:∃ p,decP W0 V0 lv kd a (r0.map (·.2))=p:=⟨_,rfl⟩
 have E0:A.H.ec (A.cs 0) 0=e0:=by rw[<-hA,<-he0,<-hW0,<-hV0];rfl
 have Q0:A.H.pc (A.cs 0) 0=⟨x0,y0,z0⟩:=by rw[<-hA,<-hp0,<-hW0,<-hV0];rfl
 obtain⟨W1,hW1⟩:∃ v,HdR.pw ⟨w,h,⟨wv,lv,kd,gr,hf,d⟩,a,b,c⟩ 1=v:=⟨_,rfl⟩
 obtain⟨V1,hV1⟩:∃ v,HdR.ph ⟨w,h,⟨wv,lv,kd,gr,hf,d⟩,a,b,c⟩ 1=v:=⟨_,rfl⟩
 obtain⟨e1,he1⟩:∃ e,decE W1 V1 lv kd b (r1.map (·.2))=e:=⟨_,rfl⟩
 obtain⟨⟨x1,y1,z1⟩,hp1⟩:∃ p,decP W1 V1 lv kd b (r1.map (·.2))=p:=⟨_,rfl⟩
 have E1:A.H.ec (A.cs 1) 1=e1:=by rw[<-hA,<-he1,<-hW1,<-hV1];rfl
 have Q1:A.H.pc (A.cs 1) 1=⟨x1,y1,z1⟩:=by rw[<-hA,<-hp1,<-hW1,<-hV1];rfl
 obtain⟨W2,hW2⟩:∃ v,HdR.pw ⟨w,h,⟨wv,lv,kd,gr,hf,d⟩,a,b,c⟩ 2=v:=⟨_,rfl⟩
 obtain⟨V2,hV2⟩:∃ v,HdR.ph ⟨w,h,⟨wv,lv,kd,gr,hf,d⟩,a,b,c⟩ 2=v:=⟨_,rfl⟩
 obtain⟨e2,he2⟩:∃ e,decE W2 V2 lv kd c (r2.map (·.2))=e:=⟨_,rfl⟩
 obtain⟨⟨x2,y2,z2⟩,hp2⟩:∃ p,decP W2 V2 lv kd c (r2.map (·.2))=p:=⟨_,rfl⟩
 have E2:A.H.ec (A.cs 2) 2=e2:=by rw[<-hA,<-he2,<-hW2,<-hV2];rfl
 have Q2:A.H.pc (A.cs 2) 2=⟨x2,y2,z2⟩:=by rw[<-hA,<-hp2,<-hW2,<-hV2];rfl
 have hAe:A.e=fstE e0 (if gr=true then 0 else fstE e1 e2):=by
  have hg:A.H.s.gr=gr:=by rw[<-hA]
  unfold CmA.e
  rw[E0,E1,E2,hg]
 have hAn:A.n=if A.e=0 then (if gr=true then 1 else 3)else 0:=by
  have hg:A.H.s.gr=gr:=by rw[<-hA]
  unfold CmA.n
  rw[hg]
 obtain⟨PP,hPP⟩:∃ f,(fun k=>A.H.pc (A.cs k) k)=f:=⟨_,rfl⟩
 have Q0:PP 0=⟨x0,y0,z0⟩:=by rw[<-hPP];exact Q0
 have Q1:PP 1=⟨x1,y1,z1⟩:=by rw[<-hPP];exact Q1
 have Q2:PP 2=⟨x2,y2,z2⟩:=by rw[<-hPP];exact Q2
 have ap:∀ n N M,rcN PP N n++[prc (PP n) M]=rcN PP (fun j=>if j=n then M else N j) (n+1):=fun n N M=>by
  rw[rcN,if_pos rfl,rcN_cong (N:=N) (M:=fun j=>if j=n then M else N j) fun j hj=>by rw[if_neg (by omega)]]
 have a0:∀ N M,rcN PP N 0++[[.int .i64 x0,.int .i64 y0,.row M .i64 z0]]=rcN PP (fun j=>if j=0 then M else N j) 1:=fun N M=>by have h:=ap 0 N M;rw[Q0]at h;exact h
 have a1:∀ N M,rcN PP N 1++[[.int .i64 x1,.int .i64 y1,.row M .i64 z1]]=rcN PP (fun j=>if j=1 then M else N j) 2:=fun N M=>by have h:=ap 1 N M;rw[Q1]at h;exact h
 have a2:∀ N M,rcN PP N 2++[[.int .i64 x2,.int .i64 y2,.row M .i64 z2]]=rcN PP (fun j=>if j=2 then M else N j) 3:=fun N M=>by have h:=ap 2 N M;rw[Q2]at h;exact h
 have h10:∀ i:Nat,¬ i+1=0:=fun i=>by omega
 have hln:∀ N n,((rcN PP N n).length:Int)=n:=fun N n=>by rw[rcN_len]
 simp -implicitDefEqProofs only[push_cast,zz,seval,ir66]
 intro X
 repeat refine om_ ?_
 refine evS_loopU (A:=Nat×(Nat->Xf.Loc)×Xf.Loc) kp66_1 kl66_1 (fun y=>[(4,.sl 5 y.2.2 (esz 3 y.1) 0 y.1),(10,.int .i64 y.1)]) (fun y=>[(5,.mine,y.2.2,.recs 3 true [] (rcN PP y.2.1 y.1))]) (fun y=>y.1<=3/\(0<y.1->e0=0)/\(1<y.1->e1=0/\gr=false)/\(2<y.1->e2=0)) (fun y=>3-y.1) (0,fun _=>nilLoc,nilLoc) ⟨by decide,fun h=>absurd h (by decide),fun h=>absurd h (by decide),fun h=>absurd h (by decide)⟩ (Sub.of (mkG 22 [(0,0),(1,1),(2,2),(10,10)]) ?_) ?_
 ·simp -implicitDefEqProofs only[push_cast,zz,seval,rcN,esz]
 intro ⟨k,N,M⟩ ⟨(hk:k<=3),(c0:0<k->e0=0),(c1:1<k->e1=0/\gr=false),(c2:2<k->e2=0)⟩ K hK
 obtain rfl | rfl | rfl | rfl:k=0∨k=1∨k=2∨k=3:=by omega
 ·by_cases z:e0=0
  ·simp -implicitDefEqProofs only[push_cast,zz,seval,b66_1,hsd,hW0,hV0,hdc,w0,he0,hp0,rd0,Int.toNat_natCast,fs136,fs137,lx,z,cs0,hln]
   intro X5
   repeat refine om_ ?_
   intro X6
   repeat refine om_ ?_
   refine hK (1,fun j=>if j=0 then (X5 16 15).fr 0 else N j,X6 3 21) ⟨by simp,fun _=>z,fun h=>absurd h (by simp),fun h=>absurd h (by simp)⟩ (show 3-1<3-0 by decide) _ _ (Sub.of (mkG 22 [(0,0),(1,1),(2,2),(5,21),(10,10)]) ?_)
   simp -implicitDefEqProofs only[push_cast,zz,seval,a0,esz]
  ·have hAe2:A.e=e0:=by rw[hAe];unfold fstE;simp[z]
   have hAn2:A.n=0:=by rw[hAn,hAe2,if_neg z]
   subst hA
   simp -implicitDefEqProofs only[push_cast,zz,seval,b66_1,hsd,hW0,hV0,hdc,w0,he0,hp0,rd0,Int.toNat_natCast,fs136,fs137,lx,z]
   intro X5
   repeat refine om_ ?_
   refine postF.mk' (fun _=>nilLoc) [some 0,some 1,some 2,none] ?_
   simp -implicitDefEqProofs only[push_cast,zz,seval,fs66,hAe2,hAn2,z,lx,rcN,esz]
 ·cases gr with
  | true=>
   have hAe2:A.e=0:=by rw[hAe];unfold fstE;simp[c0 (by decide)]
   have hAn2:A.n=1:=by rw[hAn,hAe2];rfl
   subst hA
   simp only at hPP
   clear hK
   simp -implicitDefEqProofs only[push_cast,zz,seval,b66_1,r66_2]
   repeat refine om_ ?_
   refine postF.mk' (fun j=>if j=0 then M else N (j-1)) [some 0,some 1,some 2,some 5] ?_
   simp -implicitDefEqProofs only[push_cast,zz,seval,fs66,hAe2,hAn2,hPP,lx,if_true,esz,h10,Nat.add_sub_cancel]
  | false=>
   by_cases z:e1=0
   ·simp -implicitDefEqProofs only[push_cast,zz,seval,b66_1,hsd,hW1,hV1,hdc,w1,he1,hp1,rd1,Int.toNat_natCast,fs136,fs137,lx,z,cs0,hln]
    intro X5
    repeat refine om_ ?_
    intro X6
    repeat refine om_ ?_
    refine hK (2,fun j=>if j=1 then (X5 16 15).fr 0 else N j,X6 3 21) ⟨by simp,fun _=>c0 (by decide),fun _=>⟨z,rfl⟩,fun h=>absurd h (by simp)⟩ (show 3-2<3-1 by decide) _ _ (Sub.of (mkG 22 [(0,0),(1,1),(2,2),(5,21),(10,10)]) ?_)
    simp -implicitDefEqProofs only[push_cast,zz,seval,a1,esz]
   ·have hAe2:A.e=e1:=by rw[hAe];unfold fstE;simp[c0 (by decide),z]
    have hAn2:A.n=0:=by rw[hAn,hAe2,if_neg z]
    subst hA
    simp -implicitDefEqProofs only[push_cast,zz,seval,b66_1,hsd,hW1,hV1,hdc,w1,he1,hp1,rd1,Int.toNat_natCast,fs136,fs137,lx,z]
    intro X5
    repeat refine om_ ?_
    refine postF.mk' (fun _=>nilLoc) [some 0,some 1,some 2,none] ?_
    simp -implicitDefEqProofs only[push_cast,zz,seval,fs66,hAe2,hAn2,z,lx,rcN,esz]
 ·obtain⟨E1z,rfl⟩:=c1 (by decide)
  by_cases z:e2=0
  ·simp -implicitDefEqProofs only[push_cast,zz,seval,b66_1,hsd,hW2,hV2,hdc,w2,he2,hp2,rd2,Int.toNat_natCast,fs136,fs137,lx,z,cs0,hln]
   intro X5
   repeat refine om_ ?_
   intro X6
   repeat refine om_ ?_
   refine hK (3,fun j=>if j=2 then (X5 16 15).fr 0 else N j,X6 3 21) ⟨by simp,fun _=>c0 (by decide),fun _=>⟨E1z,rfl⟩,fun _=>z⟩ (show 3-3<3-2 by decide) _ _ (Sub.of (mkG 22 [(0,0),(1,1),(2,2),(5,21),(10,10)]) ?_)
   simp -implicitDefEqProofs only[push_cast,zz,seval,a2,esz]
  ·have hAe2:A.e=e2:=by rw[hAe];unfold fstE;simp[c0 (by decide),E1z,z]
   have hAn2:A.n=0:=by rw[hAn,hAe2,if_neg z]
   subst hA
   simp -implicitDefEqProofs only[push_cast,zz,seval,b66_1,hsd,hW2,hV2,hdc,w2,he2,hp2,rd2,Int.toNat_natCast,fs136,fs137,lx,z]
   intro X5
   repeat refine om_ ?_
   refine postF.mk' (fun _=>nilLoc) [some 0,some 1,some 2,none] ?_
   simp -implicitDefEqProofs only[push_cast,zz,seval,fs66,hAe2,hAn2,z,lx,rcN,esz]
 ·obtain⟨E1z,rfl⟩:=c1 (by decide)
  have hAe2:A.e=0:=by rw[hAe];unfold fstE;simp[c0 (by decide),E1z,c2 (by decide)]
  have hAn2:A.n=3:=by rw[hAn,hAe2];rfl
  subst hA
  simp only at hPP
  clear hK
  simp -implicitDefEqProofs only[push_cast,zz,seval,b66_1,r66_2]
  repeat refine om_ ?_
  refine postF.mk' (fun j=>if j=0 then M else N (j-1)) [some 0,some 1,some 2,some 5] ?_
  simp -implicitDefEqProofs only[push_cast,zz,seval,fs66,hAe2,hAn2,hPP,lx,if_true,esz,h10,Nat.add_sub_cancel]
def ent66:Entry:=spOf fs66 invCm
theorem e66:EntryOk Tryz.prog 66 ent66:=entry_of ok66 invCm
@[push_cast] theorem ent66_app (us:List SV) (look:Look) (x:Nat->Xf.Loc) (k:Nat):ent66 us look x k=spOf fs66 invCm us look x k:=rfl
def b67_1:IR:=
 .seq (r_ [b_ 14 .lss 13 12] []) (.seq (.cond (.t 14) (.skip) (.exit 0)) (.seq (.block 1 (.seq (r_ [m_ 15 13,i_ 16 11 13 3,o_ 17 (.ld true (some 3) 11 1 (.t 16)),o_ 8 (.alloc 12 [y_,y_,nilSV]),m_ 7 15,s_ 3 .i64 8 17] [14,15,16,17]) (.seq (r_ [o_ 19 (.ld false (some 3) 0 0 (.t 8)),f_ 20 2 2,f_ 21 20 0,l_ 22 21,f_ 23 2 2,f_ 24 23 1,l_ 25 24,o_ 26 (.call (some 4) 13 46 [.t 19,.t 22,.t 25]),m_ 18 26,e_ 27 18 0,e_ 28 18 1,o_ 9 (.alloc 17 [y_,y_,nilSV]),s_ 3 .i64 9 27,m_ 10 28] [8,18,19,20,21,22,23,24,25,26,27,28]) (.seq (.seq (r_ [m_ 29 10,c_ 30 .neq 29 0] [29]) (.cond (.t 30) (.seq (r_ [m_ 31 10,o_ 4 (.mov (.k nilSV)),m_ 5 31] [2,6,7,9,10,11,12,13,30,31]) (.ret)) (.skip))) (.seq (.seq (r_ [m_ 32 7,c_ 33 .gtr 32 0,m_ 34 33,p_ 34 (f_ 35 2 2),p_ 34 (f_ 36 35 4),p_ 34 (l_ 37 36),K_ 38 34 37] [4,5,7,10,30,32,33,34,35,36,37]) (.cond (.t 38) (r_ [o_ 40 (.ld false (some 3) 0 0 (.t 9)),f_ 41 2 0,l_ 42 41,f_ 43 2 1,l_ 44 43,o_ 45 (.call (some 4) 18 138 [.t 40,.t 42,.t 44]),m_ 39 45,e_ 46 39 0,e_ 47 39 1,s_ 3 .i64 9 46] [38,39,40,41,42,43,44,45,46,47]) (.skip))) (r_ [m_ 48 6,o_ 49 (.ld false (some 3) 0 0 (.t 9)),o_ 50 (.brecs 22 3 .i64 [.t 49]),o_ 51 (.app 23 3 40 (.t 48) (.t 50)),m_ 6 51] [9,38,48,49,50,51])))))) (r_ [a_ 52 13 1,m_ 13 52] [52])))
def r67_2:IR:=
 .seq (r_ [m_ 53 6,m_ 4 53,z_ 5 0] [2,6,11,12,13,53]) (.ret)
def ir67:IR:=
 .seq (r_ [o_ 2 (.box 10 (.t 0)),o_ 4 (.mov (.k nilSV)),z_ 5 0] [0,4,5]) (.seq (r_ [o_ 6 (.mov (.k nilSV))] []) (.seq (.seq (r_ [m_ 11 1,h_ 12 11,z_ 13 0] [1]) (.block 0 (.loop b67_1))) (r67_2)))
def kp67_1:List Nat:=[2,6,11,12,13]
def kl67_1:List Nat:=[11,12,13,14,15,16,17,18,19,20,21,22,23]
attribute [push_cast] kp67_1 kl67_1
set_option maxRecDepth 4000 in
theorem comp67:(Tryz.f67.body.bind fun c=>compC tab isP chkAll ir67 c)=some ir67:=by kernel_rfl
def prq (q:Pl×Xf.Loc):List RC:=prc q.1 q.2
def getPr:List (List RC)->Option (List (Pl×Xf.Loc))
 | []=>some []
 | [.int .i64 w,.int .i64 h,.row L .i64 xs]::l=>match getPr l with | some r=>some ((⟨w,h,xs⟩,L)::r) | none=>none
 | _=>none
def psOk (ps:List (Pl×Xf.Loc)):Prop:=∀ q∈ps,q.1.xs.length<=140737488355328
structure IwA where
 H:HdR
 L0:Xf.Loc
 n0:Int
 L1:Xf.Loc
 n1:Int
 L2:Xf.Loc
 n2:Int
 L:Xf.Loc
 ps:List (Pl×Xf.Loc)
def psP (ps:List (Pl×Xf.Loc)):Nat->Pl:=fun k=>(ps.getD k (pl0,nilLoc)).1
def HdR.iF (H:HdR) (P:Nat->Pl):Nat->Nat->Int
 | _,0=>0
 | k,m+1=>fstE (H.iE (P k)) (H.iF P (k+1) m)
theorem iF_skip (H:HdR) (P:Nat->Pl):∀ (k m j:Nat),(∀ i,j<=i->i<j+k->H.iE (P i)=0)->H.iF P j (k+m)=H.iF P (j+k) m
 | 0,m,j,_=>by rw[Nat.zero_add,Nat.add_zero]
 | k+1,m,j,h=>by
  rw[show k+1+m=(k+m)+1 by omega,HdR.iF,h j (Nat.le_refl _) (by omega)]
  unfold fstE
  rw[if_pos rfl,iF_skip H P k m (j+1) fun i h1 h2=>h i (by omega) (by omega),show j+1+k=j+(k+1) by omega]
def IwA.e (a:IwA):Int:=a.H.iF (psP a.ps) 0 a.ps.length
def IwA.n (a:IwA):Nat:=if a.e=0 then a.ps.length else 0
theorem IwA.e_all (a:IwA) (h:∀ j,j<a.ps.length->a.H.iE (psP a.ps j)=0):a.e=0:=by
 unfold IwA.e
 have:=iF_skip a.H (psP a.ps) a.ps.length 0 0 fun i _ h2=>h i (by omega)
 rw[Nat.add_zero]at this
 rw[this]
 rfl
theorem IwA.e_at (a:IwA) {k:Nat} (hk:k<a.ps.length) (h:∀ j,j<k->a.H.iE (psP a.ps j)=0) (h0:a.H.iE (psP a.ps k)≠0):a.e=a.H.iE (psP a.ps k):=by
 unfold IwA.e
 have:=iF_skip a.H (psP a.ps) k (a.ps.length-k) 0 fun i _ h2=>h i (by omega)
 rw[show k+(a.ps.length-k)=a.ps.length by omega,Nat.zero_add]at this
 rw[this,show a.ps.length-k=(a.ps.length-k-1)+1 by omega,HdR.iF]
 unfold fstE
 rw[if_neg h0]
def invIw:List SV->Look->Option (IwA×List Nat)
 | [.agg [.int .i64 w,.int .i64 h,.int .i64 wv,.int .i64 lv,.int .i64 kd,.bool gr,.bool hf,.int .i64 d,.int .i64 a,.int .i64 b,.int .i64 c,.sl _ L0 1 0 n0,.sl _ L1 1 0 n1,.sl _ L2 1 0 n2],.sl e _ _ 0 _],look=>match rowR (look e)with
  | some (L,3,_,r)=>match getPr r with
   | some ps=>some (⟨⟨w,h,⟨wv,lv,kd,gr,hf,d⟩,a,b,c⟩,L0,n0,L1,n1,L2,n2,L,ps⟩,[e])
   | none=>none
  | _=>none
 | _,_=>none
attribute [push_cast] invIw getPr
def fs67:FS where
 A:=IwA
 args:=fun a=>[cmV a.H (.sl 4096 a.L0 1 0 a.n0) (.sl 4096 a.L1 1 0 a.n1) (.sl 4096 a.L2 1 0 a.n2),.sl 0 a.L 3 0 a.ps.length]
 mem:=fun a=>[some (.ro,a.L,.recs 3 false [] (a.ps.map prq))]
 pre:=fun a=>siOk a.H/\0<a.ps.length/\a.ps.length<=3/\psOk a.ps
 res:=fun a x=>.tup [.sl 1 (lx (a.e=0) x 0) (esz 3 a.n) 0 a.n,.int .i64 a.e]
 out:=fun _ _=>[]
 new:=fun a x=>[(lx (a.e=0) x 0,.recs 3 true [] (rcN (fun k=>a.H.iP k (psP a.ps k)) (fun j=>x (j+1)) a.n))]
theorem recAt_pr {ps:List (Pl×Xf.Loc)} {k:Nat} (h:k<ps.length) (z:List RC):recAt (k:Int) z (ps.map prq)=prc (psP ps k) (ps.getD k (pl0,nilLoc)).2:=by
 unfold recAt psP
 simp[h,prq]
theorem ivP_le {p:Pl} {kind n:Int} (h:p.xs.length<=140737488355328):(ivP p kind n).xs.length<=140737488355328:=by
 unfold ivP
 split
 ·rename_i ho
  have h1:=ho.1.len
  simp only
  unfold ivL
  simp only[bwd_length]
  exact h
 ·exact Nat.zero_le _
set_option maxRecDepth 8000 in
set_option maxHeartbeats 4000000 in
theorem ok67:FSOk Tryz.prog 67 fs67:=by
 refine⟨⟨_,Tryz.func67,by kernel_rfl,by kernel_rfl⟩,fun a=>⟨by simp[fs67,cmV,push_cast,noMine,argOwn,Chunk.frArg],by simp[fs67,cmV,push_cast,outOk,Chunk.ext],fun x=>.inl (by simp[fs67,cmV,push_cast,frNew,frOut,Chunk.fr])⟩,fun a hp=>?_⟩
 obtain⟨⟨w,h,⟨wv,lv,kd,gr,hf,d⟩,a,b,c⟩,L0,n0,L1,n1,L2,n2,L,ps⟩:=a
 obtain⟨hsd,hn0,hn3,hps⟩:siOk ⟨w,h,⟨wv,lv,kd,gr,hf,d⟩,a,b,c⟩/\0<ps.length/\ps.length<=3/\∀ q∈ps,q.1.xs.length<=140737488355328:=hp
 change Tri Tryz.prog 67 [.agg [.int .i64 w,.int .i64 h,.int .i64 wv,.int .i64 lv,.int .i64 kd,.bool gr,.bool hf,.int .i64 d,.int .i64 a,.int .i64 b,.int .i64 c,.sl 4096 L0 1 0 n0,.sl 4096 L1 1 0 n1,.sl 4096 L2 1 0 n2],.sl 0 L 3 0 ps.length] [some (.ro,L,.recs 3 false [] (ps.map prq))] (postF fs67 _)
 refine tri_evS (hyp (l:=[(46,ent46),(138,ent138)]) (lp:=[]) ⟨e46,e138,trivial⟩ trivial) Tryz.func67 comp67 (rs:=[.tmp 4,.tmp 5]) (by rfl) Tryz.ntmps67 24 ?_
 have cs0:∀ xs:List Int,sub xs 0 (xs.length:Int)=xs:=fun xs=>by unfold sub;simp
 have h10:∀ i:Nat,¬ i+1=0:=fun i=>by omega
 have hmapl:((ps.map prq).length:Int)=ps.length:=by rw[List.length_map]
 obtain⟨A,hA⟩:∃ A:IwA,(⟨⟨w,h,⟨wv,lv,kd,gr,hf,d⟩,a,b,c⟩,L0,n0,L1,n1,L2,n2,L,ps⟩:IwA)=A:=⟨_,rfl⟩
 have hAp:A.ps=ps:=by rw[<-hA]
 have hiE:∀ p,A.H.iE p=ivE p wv lv:=fun p=>by rw[<-hA];rfl
 have hall:=A.e_all
 have hat:=fun k (hk:k<A.ps.length)=>A.e_at hk
 have hAn:A.n=if A.e=0 then ps.length else 0:=by unfold IwA.n;rw[hAp]
 obtain⟨PP,hPP⟩:∃ f,(fun k=>A.H.iP k (psP A.ps k))=f:=⟨_,rfl⟩
 have hPk:∀ k,PP k=A.H.iP k (psP ps k):=fun k=>by rw[<-hPP,hAp]
 rw[hAp]at hall hat
 simp only[hiE]at hall hat
 have ap:∀ n N M,rcN PP N n++[prc (PP n) M]=rcN PP (fun j=>if j=n then M else N j) (n+1):=fun n N M=>by
  rw[rcN,if_pos rfl,rcN_cong (N:=N) (M:=fun j=>if j=n then M else N j) fun j hj=>by rw[if_neg (by omega)]]
 have hln:∀ N n,((rcN PP N n).length:Int)=n:=fun N n=>by rw[rcN_len]
 have hlx:∀ k,(psP ps k).xs.length<=140737488355328:=fun k=>by
  unfold psP
  rw[List.getD_eq_getElem?_getD]
  rcases Nat.lt_or_ge k ps.length with hk | hk
  ·rw[List.getElem?_eq_getElem hk]
   exact hps _ (List.getElem_mem hk)
  ·rw[List.getElem?_eq_none hk]
   exact Nat.zero_le _
 simp -implicitDefEqProofs only[push_cast,zz,seval,ir67]
 intro X
 repeat refine om_ ?_
 refine evS_loopU (A:=Nat×(Nat->Xf.Loc)×Xf.Loc) kp67_1 kl67_1 (fun y=>[(6,.sl 5 y.2.2 (esz 3 y.1) 0 y.1),(13,.int .i64 y.1)]) (fun y=>[(5,.mine,y.2.2,.recs 3 true [] (rcN PP y.2.1 y.1))]) (fun y=>y.1<=ps.length/\∀ j,j<y.1->ivE (psP ps j) wv lv=0) (fun y=>ps.length-y.1) (0,fun _=>nilLoc,nilLoc) ⟨Nat.zero_le _,fun j h=>absurd h (Nat.not_lt_zero _)⟩ (Sub.of (mkG 24 [(0,0),(10,10)]) ?_) ?_
 ·simp -implicitDefEqProofs only[push_cast,zz,seval,rcN,esz]
 intro ⟨k,N,M⟩ ⟨(hk:k<=ps.length),(hz:∀ j,j<k->ivE (psP ps j) wv lv=0)⟩ K hK
 by_cases hk':k<ps.length
 ·have hki:(k:Int)<ps.length:=by omega
  have hez:esz 3 (k+1)=3:=rfl
  have r1:=fun z=>recAt_pr (ps:=ps) hk' z
  have hPkk:=hPk k
  have hlk:=hlx k
  have hatk:=hat k hk' hz
  have hzn:ivE (psP ps k) wv lv=0->∀ j,j<k+1->ivE (psP ps j) wv lv=0:=fun h0 j hj=>by
   rcases Nat.lt_or_ge j k with g | g
   ·exact hz j g
   ·obtain rfl:j=k:=by omega
    exact h0
  have apk:=ap k N
  have hiP:PP k=if 0<k/\hf=true then dbl ⟨⟨ivP (psP ps k) wv lv,nilLoc⟩,w,h⟩else ivP (psP ps k) wv lv:=by rw[hPkk,<-hA];rfl
  obtain⟨⟨pw,ph,xs⟩,hp⟩:∃ p,psP ps k=p:=⟨_,rfl⟩
  obtain⟨Lk,hLk⟩:∃ L,(ps.getD k (pl0,nilLoc)).2=L:=⟨_,rfl⟩
  rw[hp]at r1 hlk hatk hzn hiP
  rw[hLk]at r1
  simp only[prc]at r1
  simp only at hlk
  by_cases he:ivE ⟨pw,ph,xs⟩ wv lv=0
  ·have hio:ivOk ⟨pw,ph,xs⟩ wv lv:=by
    unfold ivE at he
    split at he
    ·assumption
    ·split at he
     ·split at he<;>cases he
     ·cases he
   have hq2:=ivP_le (kind:=wv) (n:=lv) (p:=⟨pw,ph,xs⟩) hlk
   obtain⟨⟨qw,qh,ys⟩,hq⟩:∃ p,ivP ⟨pw,ph,xs⟩ wv lv=p:=⟨_,rfl⟩
   rw[hq]at hq2 hiP
   simp only at hq2
   by_cases hc:0<k/\hf=true
   ·obtain⟨hc1,rfl⟩:=hc
    have hci:(0:Int)<k:=by omega
    rw[if_pos ⟨hc1,rfl⟩]at hiP
    have hdb:∀ L,dbl ⟨⟨⟨qw,qh,ys⟩,L⟩,w,h⟩=PP k:=fun L=>hiP.symm
    obtain⟨⟨uw,uh,us⟩,hu⟩:∃ p,PP k=p:=⟨_,rfl⟩
    rw[hu]at apk
    simp only[hu]at hdb
    simp only[prc]at apk
    simp -implicitDefEqProofs only[push_cast,zz,seval,b67_1,hki,r1,hmapl,fs46,fs138,hlk,hq2,he,hio,hq,hci,hdb,cs0,hln,lx,if_true]
    intro X4
    repeat refine om_ ?_
    intro X5 X6 X7
    repeat refine om_ ?_
    refine hK (k+1,fun j=>if j=k then (if PlD.Ok ⟨⟨⟨qw,qh,ys⟩,X5 7 13⟩,w,h⟩then X6 5 18 else nilLoc0).fr 0 else N j,X7 3 23) ⟨hk',hzn he⟩ (show ps.length-(k+1)<ps.length-k by omega) _ _ (Sub.of (mkG 24 [(0,0),(5,23),(10,10)]) ?_)
    simp -implicitDefEqProofs only[push_cast,zz,seval,apk,hez]
   ·rw[if_neg hc]at hiP
    rw[hiP]at apk
    simp only[prc]at apk
    by_cases hci:(0:Int)<k
    ·obtain rfl:hf=false:=by
      cases hf with
      | false=>rfl
      | true=>exact absurd ⟨by omega,rfl⟩ hc
     simp -implicitDefEqProofs only[push_cast,zz,seval,b67_1,hki,r1,hmapl,fs46,hlk,hq2,he,hio,hq,hci,cs0,hln,lx,if_true]
     intro X4
     repeat refine om_ ?_
     intro X5 X6
     repeat refine om_ ?_
     refine hK (k+1,fun j=>if j=k then (X5 7 13).fr 0 else N j,X6 3 23) ⟨hk',hzn he⟩ (show ps.length-(k+1)<ps.length-k by omega) _ _ (Sub.of (mkG 24 [(0,0),(5,23),(10,10)]) ?_)
     simp -implicitDefEqProofs only[push_cast,zz,seval,apk,hez]
    ·simp -implicitDefEqProofs only[push_cast,zz,seval,b67_1,hki,r1,hmapl,fs46,hlk,hq2,he,hio,hq,hci,cs0,hln,lx,if_true]
     intro X4
     repeat refine om_ ?_
     intro X5 X6
     repeat refine om_ ?_
     refine hK (k+1,fun j=>if j=k then (X5 7 13).fr 0 else N j,X6 3 23) ⟨hk',hzn he⟩ (show ps.length-(k+1)<ps.length-k by omega) _ _ (Sub.of (mkG 24 [(0,0),(5,23),(10,10)]) ?_)
     simp -implicitDefEqProofs only[push_cast,zz,seval,apk,hez]
  ·have hAe:=hatk he
   have hAn2:A.n=0:=by rw[hAn,hAe,if_neg he]
   obtain⟨E,hE⟩:∃ e,ivE ⟨pw,ph,xs⟩ wv lv=e:=⟨_,rfl⟩
   rw[hE]at he hAe
   subst hA
   simp -implicitDefEqProofs only[push_cast,zz,seval,b67_1,hki,r1,hmapl,fs46,hlk,hE,he,cs0]
   intro X4
   repeat refine om_ ?_
   intro X5
   repeat refine om_ ?_
   refine postF.mk' (fun _=>nilLoc) [some 0,none] ?_
   simp -implicitDefEqProofs only[push_cast,zz,seval,fs67,hAe,hAn2,he,lx,rcN,esz]
 ·obtain rfl:k=ps.length:=by omega
  have hAe:A.e=0:=hall hz
  have hAn2:A.n=ps.length:=by rw[hAn,hAe,if_pos rfl]
  subst hA
  simp only at hPP
  clear hK
  simp -implicitDefEqProofs only[push_cast,zz,seval,b67_1,r67_2,Int.lt_irrefl]
  repeat refine om_ ?_
  refine postF.mk' (fun j=>if j=0 then M else N (j-1)) [some 0,some 5] ?_
  simp -implicitDefEqProofs only[push_cast,zz,seval,fs67,hAe,hAn2,hPP,lx,if_true,h10,Nat.add_sub_cancel]
def ent67:Entry:=spOf fs67 invIw
theorem e67:EntryOk Tryz.prog 67 ent67:=entry_of ok67 invIw
@[push_cast] theorem ent67_app (us:List SV) (look:Look) (x:Nat->Xf.Loc) (k:Nat):ent67 us look x k=spOf fs67 invIw us look x k:=rfl
theorem plsG_sz {β:Type} (bit:β->Int->Bool->Bool×Int×β) (f:List Int) (t:Int) (on:Bool):∀ (l:List Int) (s:StS) (x:β),(plsG bit f t on l s x).1.size.length=s.size.length
 | [],s,x=>rfl
 | i::l,s,x=>by
  have h1:=(numG_same bit s x i t on (digP f i t) (decide (rd f i<0))).1
  rw[plsG]
  split
  ·exact(plsG_sz bit f t on l _ _).trans h1
  ·exact h1
theorem bktG_sz {β:Type} (bit:β->Int->Bool->Bool×Int×β) (f:List Int) (t:Int) (i:Nat) (s:StS) (x:β):(bktG bit f t i s x).1.size.length=s.size.length:=by
 unfold bktG
 split
 ·exact plsG_sz bit f t _ _ _ _
 ·split
  ·exact plsG_sz bit f t _ _ _ _
  ·rfl
theorem slcG_sz {β:Type} (bit:β->Int->Bool->Bool×Int×β) (f:List Int) (t:Int):∀ (k i:Nat) (s:StS) (x:β),(slcG bit f t k i s x).1.size.length=s.size.length
 | 0,i,s,x=>rfl
 | k+1,i,s,x=>by
  rw[slcG]
  split
  ·exact(slcG_sz bit f t k (i+1) _ _).trans (bktG_sz bit f t i s x)
  ·exact bktG_sz bit f t i s x
theorem decG_sz (f:List Int):∀ (l:List (List Int)) (t:Int) (s:StS) (st:List Int),(decG f l t s st).1.size.length=s.size.length
 | [],t,s,st=>rfl
 | c::l,t,s,st=>by
  rw[decG]
  split
  ·exact(decG_sz f l _ _ _).trans (slcG_sz getG f t _ 0 s _)
  ·exact slcG_sz getG f t _ 0 s _
theorem decP_le (w h lv kd P:Int) (cs:List (List Int)):(decP w h lv kd P cs).xs.length<=140737488355328:=by
 unfold decP
 split
 ·rename_i he
  unfold decE at he
  split at he
  ·rename_i ho
   obtain⟨⟨a1,a2,a3,a4,a5⟩,_⟩:=ho
   have h1:(decR w h lv kd P cs).1.size.length=(w*h).toNat:=(decG_sz _ _ _ _ _).trans (by
    show(List.replicate (w*h).toNat (0:Int)).length=_
    exact List.length_replicate)
   show(plL _).length<=_
   unfold plL
   rw[List.length_map,List.length_range,h1]
   omega
  ·cases he
 ·exact Nat.zero_le _
theorem dbl_le (d:PlD):(dbl d).xs.length<=140737488355328:=by
 unfold dbl
 split
 ·rename_i ho
  obtain⟨_,⟨a1,a2,a3,a4,a5⟩,_⟩:=ho
  simp only[tabl_length]
  omega
 ·exact Nat.zero_le _
theorem iP_le (H:HdR) (k:Nat) {p:Pl} (h:p.xs.length<=140737488355328):(H.iP k p).xs.length<=140737488355328:=by
 unfold HdR.iP
 split
 ·exact dbl_le _
 ·exact ivP_le h
theorem reR_snd (rows:List (Xf.Loc×List Int)) (k:Int) (h:reE (rows.map (·.2))=0):(reR rows k).map (·.2)=srt (hdP ((rows.map (·.2)).headD [])).ord (rows.map (·.2)).tail k:=by
 unfold reR
 rw[if_pos h,srt_map]
 congr 1
 unfold frR
 rw[<-List.map_tail,List.map_map,<-List.map_tail]
 rfl
theorem reR_wf {rows:List (Xf.Loc×List Int)} (h:rowsWf rows) (k:Int):rowsWf (reR rows k):=by
 refine⟨?_,fun q hq=>?_⟩
 ·unfold reR
  split
  ·refine Nat.le_trans (srt_len _ _ _) ?_
   rw[List.length_tail]
   unfold frR
   rw[List.length_map]
   have:=h.1
   omega
  ·exact Nat.zero_le _
 ·obtain⟨r,hr,rfl⟩:=reR_mem hq
  exact h.2 r hr
theorem siOk_hd {b:List Int} (h:byB b):siOk (hdP b):=by
 obtain⟨h1,h2,h3,h4,_⟩:=hdP_ok h
 exact⟨h1,h2,h3,h4⟩
def b19_1:IR:=
 .seq (r_ [b_ 57 .lss 56 55] []) (.seq (.cond (.t 57) (.skip) (.exit 0)) (.seq (.block 1 (.seq (r_ [m_ 58 56,i_ 59 54 56 1,L_ 60 59,m_ 7 58,m_ 8 60] [57,58,59,60]) (r_ [m_ 61 6,o_ 62 (.idxS (.t 61) (Z_ 0) 3),f_ 63 62 2,o_ 64 (.ld true none 32 1 (.t 63)),m_ 65 7,m_ 66 8,o_ 67 (.mx (.t 66) (Z_ 0)),o_ 68 (.mn (.t 67) (Z_ 255)),i_ 69 64 65 1,S_ 1 .i64 69 68] [7,8,61,62,63,64,65,66,67,68,69]))) (r_ [a_ 70 56 1,m_ 56 70] [70])))
def r19_2:IR:=
 .seq (r_ [m_ 71 6,o_ 72 (.idxS (.t 71) (Z_ 0) 3),o_ 73 (.ld true (some 3) 33 1 (.t 72)),o_ 74 (.call (some 4) 34 68 [.t 73]),e_ 75 74 0,e_ 76 74 1,s_ 5 .i64 2 75,m_ 3 76] [6,54,55,56,71,72,73,74,75,76]) (.ret)
def ir19:IR:=
 .seq (r_ [o_ 2 (.alloc 10 [y_,y_,nilSV,nilSV,nilSV]),z_ 3 0] [3]) (.seq (r_ [m_ 10 0,o_ 11 (.call (some 4) 11 65 [.t 10]),m_ 9 11,e_ 12 9 0,e_ 13 9 1,o_ 4 (.alloc 15 [y_,y_,y_,y_,y_,.bool false,.bool false,y_,y_,y_,y_,nilSV,nilSV,nilSV]),s_ 14 .u8 4 12,m_ 5 13] [0,9,10,11,12,13]) (.seq (.seq (r_ [m_ 14 5,c_ 15 .neq 14 0] [14]) (.cond (.t 15) (.seq (r_ [o_ 16 (.build [y_,y_,nilSV,nilSV,nilSV] []),m_ 17 5,s_ 5 .i64 2 16,m_ 3 17] [4,5,15,16,17]) (.ret)) (.skip))) (.seq (r_ [o_ 19 (.ld false (some 14) 0 0 (.t 4)),o_ 20 (.call (some 4) 16 66 [.t 19]),m_ 18 20,e_ 21 18 0,e_ 22 18 1,m_ 6 21,m_ 5 22] [3,15,18,19,20,21,22]) (.seq (.seq (r_ [m_ 23 5,c_ 24 .eql 23 0] [23]) (.cond (.t 24) (r_ [o_ 26 (.ld false (some 14) 0 0 (.t 4)),m_ 27 6,o_ 28 (.call (some 4) 20 67 [.t 26,.t 27]),m_ 25 28,e_ 29 25 0,e_ 30 25 1,m_ 6 29,m_ 5 30] [24,25,26,27,28,29,30]) (.skip))) (.seq (.seq (r_ [m_ 31 5,c_ 32 .neq 31 0] [24,31]) (.cond (.t 32) (.seq (r_ [o_ 33 (.build [y_,y_,nilSV,nilSV,nilSV] []),m_ 34 5,s_ 5 .i64 2 33,m_ 3 34] [4,5,6,32,33,34]) (.ret)) (.skip))) (.seq (.seq (r_ [f_ 35 4 2,f_ 36 35 3,l_ 37 36,o_ 38 (.not (.t 37))] [3,4,5,32,35,36,37]) (.cond (.t 38) (.seq (R_ [m_ 39 6,o_ 40 (.idxS (.t 39) (Z_ 0) 3),⟨some 41,none,⟨[25,26],[]⟩,.ld true (some 3) 24 1 (.t 40)⟩,m_ 42 6,o_ 43 (.idxS (.t 42) (Z_ 1) 3),⟨some 44,none,⟨[24,26],[]⟩,.ld true (some 3) 25 1 (.t 43)⟩,m_ 45 6,o_ 46 (.idxS (.t 45) (Z_ 2) 3),⟨some 47,none,⟨[24,25],[]⟩,.ld true (some 3) 26 1 (.t 46)⟩,o_ 48 (.call (some 4) 27 47 [.t 41,.t 44,.t 47]),e_ 49 48 0,e_ 50 48 1,s_ 5 .i64 2 49,m_ 3 50] [6,38,39,40,41,42,43,44,45,46,47,48,49,50]) (.ret)) (.skip))) (.seq (.seq (r_ [m_ 51 6,o_ 52 (.idxS (.t 51) (Z_ 0) 3),f_ 53 52 2,o_ 54 (.ld true none 31 1 (.t 53)),h_ 55 54,z_ 56 0] [3,38,51,52,53]) (.block 0 (.loop b19_1))) (r19_2))))))))
set_option maxRecDepth 4000 in
theorem comp19:(Tryz.f19.body.bind fun c=>compC tab isP chkAll ir19 c)=some ir19:=by kernel_rfl
theorem psP_3 (P0 P1 P2:Pl) (M0 M1 M2:Xf.Loc):psP [(P0,M0),(P1,M1),(P2,M2)]=psP [(P0,nilLoc),(P1,nilLoc),(P2,nilLoc)]:=by
 funext k
 match k with
 | 0=>rfl
 | 1=>rfl
 | 2=>rfl
 | k+3=>rfl
def fs19:FS where
 A:=RqA
 args:=fun a=>[.sl 0 a.L 1 0 a.rows.length]
 mem:=fun a=>[some (.ro,a.L,.recs 1 false [] (a.rows.map byRc))]
 pre:=fun a=>rowsWf a.rows/\(reH a.cs).s.gr=false
 res:=fun a x=>.tup [imV (shI a.cs) (lx (shE a.cs=0) x 0) (lx (shE a.cs=0) x 1) (lx (shE a.cs=0) x 2) 1,.int .i64 (shE a.cs)]
 out:=fun _ _=>[]
 new:=fun a x=>imN (shI a.cs) (lx (shE a.cs=0) x)
theorem fstE_0 (b:Int):fstE 0 b=b:=if_pos rfl
theorem fstE_ne {a:Int} (b:Int) (h:a≠0):fstE a b=a:=if_neg h
theorem fstE_r (a:Int):fstE a 0=a:=by
 unfold fstE
 split
 ·exact Eq.symm (by assumption)
 ·rfl
set_option maxRecDepth 8000 in
set_option maxHeartbeats 4000000 in
theorem ok19:FSOk Tryz.prog 19 fs19:=by
 refine⟨⟨_,Tryz.func19,by kernel_rfl,by kernel_rfl⟩,fun a=>⟨by simp[fs19,imN,push_cast,noMine,argOwn,Chunk.frArg],by simp[fs19,imN,push_cast,outOk,Chunk.ext],fun x=>.inl (by simp[fs19,imN,push_cast,frNew,frOut,Chunk.fr])⟩,fun a hp=>?_⟩
 obtain⟨L,rows⟩:=a
 obtain⟨hwf,hng⟩:rowsWf rows/\(reH (rows.map (·.2))).s.gr=false:=hp
 change Tri Tryz.prog 19 [.sl 0 L 1 0 rows.length] [some (.ro,L,.recs 1 false [] (rows.map byRc))] (postF fs19 _)
 refine tri_evS (hyp (l:=[(65,ent65),(66,ent66),(67,ent67),(47,ent47)]) (lp:=[]) ⟨e65,e66,e67,e47,trivial⟩ trivial) Tryz.func19 comp19 (rs:=[.cell 2 (some 5),.tmp 3]) (by rfl) Tryz.ntmps19 38 ?_
 have hcs:(⟨L,rows⟩:RqA).cs=rows.map (·.2):=rfl
 have hbad:∀ e,shE (rows.map (·.2))=e->e≠0->shI (rows.map (·.2))=im0:=fun e h h0=>if_neg (by rw[h];exact h0)
 have hsE:shE (rows.map (·.2))=fstE (reE (rows.map (·.2))) (fstE ((hdP ((rows.map (·.2)).headD [])).dEs (rows.map (·.2)).tail) (fstE ((hdP ((rows.map (·.2)).headD [])).iEs (rows.map (·.2)).tail) ((hdP ((rows.map (·.2)).headD [])).bE (rows.map (·.2)).tail))):=rfl
 have i0:im0.w=0/\im0.h=0/\im0.R=[]/\im0.G=[]/\im0.B=[]:=⟨rfl,rfl,rfl,rfl,rfl⟩
 have hRm:=fun k=>reR_snd rows k
 have hRw:=fun k=>reR_wf hwf k
 have hsi:siOk (reH (rows.map (·.2))):=by
  unfold reH
  split
  ·cases rows with
   | nil=>exact⟨by decide,by decide,by decide,by decide⟩
   | cons r rs=>exact siOk_hd (hwf.2 r List.mem_cons_self).1
  ·exact⟨by decide,by decide,by decide,by decide⟩
 have hrH:reE (rows.map (·.2))=0->reH (rows.map (·.2))=hdP ((rows.map (·.2)).headD []):=fun h=>if_pos h
 have hw0:=hRw 0
 have hw1:=hRw 1
 have hw2:=hRw 2
 obtain⟨R0,hR0⟩:∃ r,reR rows 0=r:=⟨_,rfl⟩
 obtain⟨R1,hR1⟩:∃ r,reR rows 1=r:=⟨_,rfl⟩
 obtain⟨R2,hR2⟩:∃ r,reR rows 2=r:=⟨_,rfl⟩
 rw[hR0]at hw0
 rw[hR1]at hw1
 rw[hR2]at hw2
 obtain⟨E,hE⟩:∃ e,reE (rows.map (·.2))=e:=⟨_,rfl⟩
 rw[hE]at hsE hrH
 obtain⟨⟨w,h,⟨wv,lv,kd,gr,hf,d⟩,a,b,c⟩,hH⟩:∃ H,reH (rows.map (·.2))=H:=⟨_,rfl⟩
 rw[hH]at hng hsi hrH
 obtain rfl:gr=false:=hng
 by_cases h0:E=0
 rotate_left
 ·rw[fstE_ne _ h0]at hsE
  have hI:=hbad E hsE h0
  simp -implicitDefEqProofs only[push_cast,zz,seval,ir19,fs65,hwf,hcs,hE,h0,hH,hR0,hR1,hR2]
  intro X
  repeat refine om_ ?_
  intro X1
  repeat refine om_ ?_
  refine postF.mk' (fun _=>nilLoc) [some 0,none,none,none] ?_
  simp -implicitDefEqProofs only[push_cast,zz,seval,fs19,hcs,hsE,hI,i0,imV,imN,h0,lx]
 subst h0
 have hHd:=(hrH rfl).symm
 rw[fstE_0,hHd]at hsE
 obtain⟨H,hHe⟩:∃ H:HdR,(⟨w,h,⟨wv,lv,kd,false,hf,d⟩,a,b,c⟩:HdR)=H:=⟨_,rfl⟩
 have hgr:H.s.gr=false:=by rw[<-hHe]
 have m0:=hRm 0 hE
 have m1:=hRm 1 hE
 have m2:=hRm 2 hE
 rw[hR0,hHd,hHe]at m0
 rw[hR1,hHd,hHe]at m1
 rw[hR2,hHd,hHe]at m2
 rw[hHe]at hsE hsi
 obtain⟨TL,hTL⟩:∃ t,(rows.map (·.2)).tail=t:=⟨_,rfl⟩
 rw[hTL]at m0 m1 m2 hsE
 have hsI:shE (rows.map (·.2))=0->shI (rows.map (·.2))=H.bI TL:=fun h=>by unfold shI;rw[if_pos h,hHd,hHe,hTL]
 have hCe:∀ L0 L1 L2,CmA.e ⟨⟨w,h,⟨wv,lv,kd,false,hf,d⟩,a,b,c⟩,L0,R0,L1,R1,L2,R2⟩=H.dEs TL:=fun L0 L1 L2=>by
  rw[hHe]
  unfold CmA.e CmA.cs HdR.dEs
  simp only[hgr,m0,m1,m2]
  rfl
 have hCn:∀ L0 L1 L2,CmA.n ⟨⟨w,h,⟨wv,lv,kd,false,hf,d⟩,a,b,c⟩,L0,R0,L1,R1,L2,R2⟩=if H.dEs TL=0 then 3 else 0:=fun L0 L1 L2=>by
  unfold CmA.n
  rw[hCe]
  rfl
 obtain⟨D,hD⟩:∃ d,H.dEs TL=d:=⟨_,rfl⟩
 rw[hD]at hsE
 simp only[hD]at hCe hCn
 by_cases h1:D=0
 rotate_left
 ·rw[fstE_ne _ h1]at hsE
  have hI:=hbad D hsE h1
  simp only[if_neg h1]at hCn
  rw[<-hHe]at hsi
  simp -implicitDefEqProofs only[push_cast,zz,seval,ir19,fs65,hwf,hcs,hE,hH,hR0,hR1,hR2,fs66,hsi,hw0,hw1,hw2,hCe,hCn,h1,esz,rcN]
  intro X X1 X2
  repeat refine om_ ?_
  refine postF.mk' (fun _=>nilLoc) [some 0,none,none,none] ?_
  simp -implicitDefEqProofs only[push_cast,zz,seval,fs19,hcs,hsE,hI,i0,imV,imN,h1,lx]
 subst h1
 simp only[if_true]at hCn
 rw[fstE_0]at hsE
 obtain⟨PP,hPPd⟩:∃ f,(fun k=>HdR.pc ⟨w,h,⟨wv,lv,kd,false,hf,d⟩,a,b,c⟩ (CmA.cs ⟨⟨w,h,⟨wv,lv,kd,false,hf,d⟩,a,b,c⟩,nilLoc,R0,nilLoc,R1,nilLoc,R2⟩ k) k)=f:=⟨_,rfl⟩
 have hPP:∀ L0 L1 L2,(fun k=>HdR.pc ⟨w,h,⟨wv,lv,kd,false,hf,d⟩,a,b,c⟩ (CmA.cs ⟨⟨w,h,⟨wv,lv,kd,false,hf,d⟩,a,b,c⟩,L0,R0,L1,R1,L2,R2⟩ k) k)=PP:=fun _ _ _=>hPPd
 have p0:PP 0=H.dP TL 0:=by rw[<-hPPd,hHe];show H.pc (R0.map (·.2)) 0=_;rw[m0];rfl
 have p1:PP 1=H.dP TL 1:=by rw[<-hPPd,hHe];show H.pc (R1.map (·.2)) 1=_;rw[m1];rfl
 have p2:PP 2=H.dP TL 2:=by rw[<-hPPd,hHe];show H.pc (R2.map (·.2)) 2=_;rw[m2];rfl
 have l0:(H.dP TL 0).xs.length<=140737488355328:=decP_le _ _ _ _ _ _
 have l1:(H.dP TL 1).xs.length<=140737488355328:=decP_le _ _ _ _ _ _
 have l2:(H.dP TL 2).xs.length<=140737488355328:=decP_le _ _ _ _ _ _
 have hiEs:H.iEs TL=fstE (H.iE (H.dP TL 0)) (fstE (H.iE (H.dP TL 1)) (fstE (H.iE (H.dP TL 2)) 0)):=by
  unfold HdR.iEs
  rw[hgr,fstE_r]
  rfl
 have s0:H.pl TL 0=H.iP 0 (H.dP TL 0):=rfl
 have s1:H.pl TL 1=H.iP 1 (H.dP TL 1):=rfl
 have s2:H.pl TL 2=H.iP 2 (H.dP TL 2):=rfl
 have hbI:H.bI TL=backI (H.bk TL):=by unfold HdR.bI;rw[hgr];rfl
 have hbE:H.bE TL=if (H.bk TL).Ok then 0 else if (H.bk TL).planes then 2 else 70:=by unfold HdR.bE;rw[hgr];rfl
 have hbk:H.bk TL=⟨⟨H.pl TL 0,nilLoc⟩,⟨H.pl TL 1,nilLoc⟩,⟨H.pl TL 2,nilLoc⟩⟩:=rfl
 obtain⟨⟨u0,v0,x0⟩,P0⟩:∃ p,H.dP TL 0=p:=⟨_,rfl⟩
 obtain⟨⟨u1,v1,x1⟩,P1⟩:∃ p,H.dP TL 1=p:=⟨_,rfl⟩
 obtain⟨⟨u2,v2,x2⟩,P2⟩:∃ p,H.dP TL 2=p:=⟨_,rfl⟩
 rw[P0]at p0 l0 hiEs s0
 rw[P1]at p1 l1 hiEs s1
 rw[P2]at p2 l2 hiEs s2
 have t0:=iP_le H 0 l0
 have t1:=iP_le H 1 l1
 have t2:=iP_le H 2 l2
 rw[<-s0]at t0
 rw[<-s1]at t1
 rw[<-s2]at t2
 have hrc3:∀ N,rcN PP N 3=[[.int .i64 u0,.int .i64 v0,.row (N 0) .i64 x0],[.int .i64 u1,.int .i64 v1,.row (N 1) .i64 x1],[.int .i64 u2,.int .i64 v2,.row (N 2) .i64 x2]]:=fun N=>by
  have e:rcN PP N 3=[prc (PP 0) (N 0),prc (PP 1) (N 1),prc (PP 2) (N 2)]:=rfl
  rw[e,p0,p1,p2]
  rfl
 have hIe:∀ a0 n0 a1 n1 a2 n2 L M0 M1 M2,IwA.e ⟨⟨w,h,⟨wv,lv,kd,false,hf,d⟩,a,b,c⟩,a0,n0,a1,n1,a2,n2,L,[(⟨u0,v0,x0⟩,M0),(⟨u1,v1,x1⟩,M1),(⟨u2,v2,x2⟩,M2)]⟩=H.iEs TL:=fun _ _ _ _ _ _ _ _ _ _=>by
  rw[hHe,hiEs]
  rfl
 have hIn:∀ a0 n0 a1 n1 a2 n2 L M0 M1 M2,IwA.n ⟨⟨w,h,⟨wv,lv,kd,false,hf,d⟩,a,b,c⟩,a0,n0,a1,n1,a2,n2,L,[(⟨u0,v0,x0⟩,M0),(⟨u1,v1,x1⟩,M1),(⟨u2,v2,x2⟩,M2)]⟩=if H.iEs TL=0 then 3 else 0:=fun _ _ _ _ _ _ _ _ _ _=>by
  unfold IwA.n
  rw[hIe]
  rfl
 have hps:∀ M0 M1 M2:Xf.Loc,psOk [(⟨u0,v0,x0⟩,M0),(⟨u1,v1,x1⟩,M1),(⟨u2,v2,x2⟩,M2)]:=fun M0 M1 M2 q hq=>by
  simp only[List.mem_cons,List.not_mem_nil,or_false]at hq
  rcases hq with rfl | rfl | rfl
  ·exact l0
  ·exact l1
  ·exact l2
 obtain⟨QQ,hQQd⟩:∃ f,(fun k=>HdR.iP ⟨w,h,⟨wv,lv,kd,false,hf,d⟩,a,b,c⟩ k (psP [(⟨u0,v0,x0⟩,nilLoc),(⟨u1,v1,x1⟩,nilLoc),(⟨u2,v2,x2⟩,nilLoc)] k))=f:=⟨_,rfl⟩
 have hQQ:∀ M0 M1 M2,(fun k=>HdR.iP ⟨w,h,⟨wv,lv,kd,false,hf,d⟩,a,b,c⟩ k (psP [(⟨u0,v0,x0⟩,M0),(⟨u1,v1,x1⟩,M1),(⟨u2,v2,x2⟩,M2)] k))=QQ:=fun M0 M1 M2=>by rw[psP_3];exact hQQd
 have q0:QQ 0=H.pl TL 0:=by rw[<-hQQd,hHe,s0];rfl
 have q1:QQ 1=H.pl TL 1:=by rw[<-hQQd,hHe,s1];rfl
 have q2:QQ 2=H.pl TL 2:=by rw[<-hQQd,hHe,s2];rfl
 obtain⟨⟨w0,g0,y0⟩,Q0⟩:∃ p,H.pl TL 0=p:=⟨_,rfl⟩
 obtain⟨⟨w1,g1,y1⟩,Q1⟩:∃ p,H.pl TL 1=p:=⟨_,rfl⟩
 obtain⟨⟨w2,g2,y2⟩,Q2⟩:∃ p,H.pl TL 2=p:=⟨_,rfl⟩
 rw[Q0]at q0 t0 hbk
 rw[Q1]at q1 t1 hbk
 rw[Q2]at q2 t2 hbk
 have hrq3:∀ N,rcN QQ N 3=[[.int .i64 w0,.int .i64 g0,.row (N 0) .i64 y0],[.int .i64 w1,.int .i64 g1,.row (N 1) .i64 y1],[.int .i64 w2,.int .i64 g2,.row (N 2) .i64 y2]]:=fun N=>by
  have e:rcN QQ N 3=[prc (QQ 0) (N 0),prc (QQ 1) (N 1),prc (QQ 2) (N 2)]:=rfl
  rw[e,q0,q1,q2]
  rfl
 have hsm:∀ M0 M1 M2,Bk.small ⟨⟨⟨w0,g0,y0⟩,M0⟩,⟨⟨w1,g1,y1⟩,M1⟩,⟨⟨w2,g2,y2⟩,M2⟩⟩:=fun _ _ _=>⟨t0,t1,t2⟩
 have hlen:([(⟨u0,v0,x0⟩,nilLoc),(⟨u1,v1,x1⟩,nilLoc),(⟨u2,v2,x2⟩,nilLoc)]:List (Pl×Xf.Loc)).length=3:=rfl
 have ra:∀ (x y z q:List RC),(recAt 0 q [x,y,z]=x/\recAt 1 q [x,y,z]=y)/\recAt 2 q [x,y,z]=z:=fun _ _ _ _=>⟨⟨rfl,rfl⟩,rfl⟩
 have cs0:∀ xs:List Int,sub xs 0 (xs.length:Int)=xs:=fun xs=>by unfold sub;simp
 rw[hbk]at hbE hbI
 clear hbk hiEs m0 m1 m2 hRm hRw s0 s1 s2
 obtain⟨D2,hD2⟩:∃ e,H.iEs TL=e:=⟨_,rfl⟩
 rw[hD2]at hsE
 simp only[hD2]at hIe hIn
 by_cases h2:D2=0
 rotate_left
 ·rw[fstE_ne _ h2]at hsE
  have hI:=hbad D2 hsE h2
  simp only[if_neg h2]at hIn
  rw[<-hHe]at hsi
  simp -implicitDefEqProofs only[push_cast,zz,seval,ir19,fs65,hwf,hcs,hE,hH,hR0,hR1,hR2,fs66,hsi,hw0,hw1,hw2,hCe,hCn,hPP,hrc3,fs67,hIe,hIn,hps,h2,esz,rcN,prq,prc]
  intro X X1 X2
  repeat refine om_ ?_
  intro X3
  repeat refine om_ ?_
  refine postF.mk' (fun _=>nilLoc) [some 0,none,none,none] ?_
  simp -implicitDefEqProofs only[push_cast,zz,seval,fs19,hcs,hsE,hI,i0,imV,imN,h2,lx]
 subst h2
 simp only[if_true]at hIn
 rw[fstE_0,hbE]at hsE
 rw[<-hHe]at hsi
 obtain⟨hOk,hPl,hBI⟩:(∀ M0 M1 M2,Bk.Ok ⟨⟨⟨w0,g0,y0⟩,M0⟩,⟨⟨w1,g1,y1⟩,M1⟩,⟨⟨w2,g2,y2⟩,M2⟩⟩=Bk.Ok ⟨⟨⟨w0,g0,y0⟩,nilLoc⟩,⟨⟨w1,g1,y1⟩,nilLoc⟩,⟨⟨w2,g2,y2⟩,nilLoc⟩⟩)/\(∀ M0 M1 M2,Bk.planes ⟨⟨⟨w0,g0,y0⟩,M0⟩,⟨⟨w1,g1,y1⟩,M1⟩,⟨⟨w2,g2,y2⟩,M2⟩⟩=Bk.planes ⟨⟨⟨w0,g0,y0⟩,nilLoc⟩,⟨⟨w1,g1,y1⟩,nilLoc⟩,⟨⟨w2,g2,y2⟩,nilLoc⟩⟩)/\(∀ M0 M1 M2,backI ⟨⟨⟨w0,g0,y0⟩,M0⟩,⟨⟨w1,g1,y1⟩,M1⟩,⟨⟨w2,g2,y2⟩,M2⟩⟩=backI ⟨⟨⟨w0,g0,y0⟩,nilLoc⟩,⟨⟨w1,g1,y1⟩,nilLoc⟩,⟨⟨w2,g2,y2⟩,nilLoc⟩⟩):=⟨fun _ _ _=>rfl,fun _ _ _=>rfl,fun _ _ _=>rfl⟩
 obtain⟨I,hIv⟩:∃ i,backI ⟨⟨⟨w0,g0,y0⟩,nilLoc⟩,⟨⟨w1,g1,y1⟩,nilLoc⟩,⟨⟨w2,g2,y2⟩,nilLoc⟩⟩=i:=⟨_,rfl⟩
 rw[hIv]at hbI
 simp only[hIv]at hBI
 by_cases hk:Bk.Ok ⟨⟨⟨w0,g0,y0⟩,nilLoc⟩,⟨⟨w1,g1,y1⟩,nilLoc⟩,⟨⟨w2,g2,y2⟩,nilLoc⟩⟩
 ·rw[if_pos hk]at hsE
  have hI:shI (rows.map (·.2))=I:=(hsI hsE).trans hbI
  have hk2:∀ M0 M1 M2,Bk.Ok ⟨⟨⟨w0,g0,y0⟩,M0⟩,⟨⟨w1,g1,y1⟩,M1⟩,⟨⟨w2,g2,y2⟩,M2⟩⟩:=fun M0 M1 M2=>by rw[hOk];exact hk
  simp -implicitDefEqProofs only[push_cast,zz,seval,ir19,fs65,hwf,hcs,hE,hH,hR0,hR1,hR2,fs66,hsi,hw0,hw1,hw2,hCe,hCn,hPP,hrc3,fs67,hIe,hIn,hps,hQQ,hrq3,ra,fs47,hsm,hk2,hBI,esz,cs0,prq,prc]
  intro X X1 X2 X3 X4
  refine postF.mk' (fun j=>X4 9 (27+j)) [some 0,some 27,some 28,some 29] ?_
  simp -implicitDefEqProofs only[push_cast,zz,seval,fs19,hcs,hsE,hI,imV,imN,lx,if_true]
 ·rw[if_neg hk]at hsE
  obtain rfl:im0=I:=by rw[<-hIv];exact(if_neg hk).symm
  have hk2:∀ M0 M1 M2,¬ Bk.Ok ⟨⟨⟨w0,g0,y0⟩,M0⟩,⟨⟨w1,g1,y1⟩,M1⟩,⟨⟨w2,g2,y2⟩,M2⟩⟩:=fun M0 M1 M2=>by rw[hOk];exact hk
  by_cases hp:Bk.planes ⟨⟨⟨w0,g0,y0⟩,nilLoc⟩,⟨⟨w1,g1,y1⟩,nilLoc⟩,⟨⟨w2,g2,y2⟩,nilLoc⟩⟩
  ·have hp2:∀ M0 M1 M2,Bk.planes ⟨⟨⟨w0,g0,y0⟩,M0⟩,⟨⟨w1,g1,y1⟩,M1⟩,⟨⟨w2,g2,y2⟩,M2⟩⟩:=fun M0 M1 M2=>by rw[hPl];exact hp
   rw[if_pos hp]at hsE
   have hI:=hbad 2 hsE (by decide)
   simp -implicitDefEqProofs only[push_cast,zz,seval,ir19,fs65,hwf,hcs,hE,hH,hR0,hR1,hR2,fs66,hsi,hw0,hw1,hw2,hCe,hCn,hPP,hrc3,fs67,hIe,hIn,hps,hQQ,hrq3,ra,fs47,hsm,hk2,hp2,i0,hBI,esz,cs0,prq,prc]
   intro X X1 X2 X3 X4
   refine postF.mk' (fun _=>nilLoc) [some 0,none,none,none] ?_
   simp -implicitDefEqProofs only[push_cast,zz,seval,fs19,hcs,hsE,hI,i0,imV,imN,lx]
  ·have hp2:∀ M0 M1 M2,¬ Bk.planes ⟨⟨⟨w0,g0,y0⟩,M0⟩,⟨⟨w1,g1,y1⟩,M1⟩,⟨⟨w2,g2,y2⟩,M2⟩⟩:=fun M0 M1 M2=>by rw[hPl];exact hp
   rw[if_neg hp]at hsE
   have hI:=hbad 70 hsE (by decide)
   simp -implicitDefEqProofs only[push_cast,zz,seval,ir19,fs65,hwf,hcs,hE,hH,hR0,hR1,hR2,fs66,hsi,hw0,hw1,hw2,hCe,hCn,hPP,hrc3,fs67,hIe,hIn,hps,hQQ,hrq3,ra,fs47,hsm,hk2,hp2,i0,hBI,esz,cs0,prq,prc]
   intro X X1 X2 X3 X4
   refine postF.mk' (fun _=>nilLoc) [some 0,none,none,none] ?_
   simp -implicitDefEqProofs only[push_cast,zz,seval,fs19,hcs,hsE,hI,i0,imV,imN,lx]
def ent19:Entry:=spOf fs19 invRq
theorem e19:EntryOk Tryz.prog 19 ent19:=entry_of ok19 invRq
@[push_cast] theorem ent19_app (us:List SV) (look:Look) (x:Nat->Xf.Loc) (k:Nat):ent19 us look x k=spOf fs19 invRq us look x k:=rfl
def ir13:IR:=
 .seq (r_ [o_ 0 (.mov (.k (.bool false)))] [0]) (.seq (r_ [o_ 6 (.bslice 10 [Z_ 255]),o_ 7 (.bslice 11 [Z_ 255]),o_ 8 (.bslice 12 [Z_ 255]),o_ 9 (.build [y_,y_,nilSV,nilSV,nilSV] [(0,1,Z_ 1),(1,1,Z_ 1),(2,1,.t 6),(3,1,.t 7),(4,1,.t 8)]),o_ 1 (.alloc 13 [y_,y_,nilSV,nilSV,nilSV]),s_ 5 .i64 1 9] [6,7,8,9]) (.seq (r_ [o_ 11 (.ld false (some 5) 0 0 (.t 1)),o_ 12 (.build [y_,y_,y_,.bool false,.bool false,y_] []),o_ 13 (.call (some 4) 14 14 [.t 11,.t 12]),m_ 10 13,e_ 14 10 0,e_ 15 10 1,m_ 2 14,m_ 3 15] [10,11,12,13,14,15]) (.seq (r_ [m_ 17 2,o_ 18 (.call (some 4) 18 19 [.t 17]),m_ 16 18,e_ 19 16 0,e_ 20 16 1,o_ 4 (.alloc 22 [y_,y_,nilSV,nilSV,nilSV]),s_ 5 .i64 4 19,m_ 5 20] [16,17,18,19,20]) (.seq (r_ [m_ 21 3,c_ 22 .eql 21 0,m_ 23 22,p_ 23 (m_ 24 5),p_ 23 (c_ 25 .eql 24 0),K_ 26 23 25,m_ 27 26,p_ 27 (m_ 28 2),p_ 27 (h_ 29 28),p_ 27 (c_ 30 .eql 29 9),K_ 31 27 30,m_ 32 31,p_ 32 (o_ 33 (.ld false (some 5) 0 0 (.t 4))),p_ 32 (o_ 34 (.ld false (some 5) 0 0 (.t 1))),p_ 32 (o_ 35 (.call (some 4) 23 20 [.t 33,.t 34])),K_ 36 32 35,m_ 0 36] [1,2,3,4,5,21,22,23,24,25,26,27,28,29,30,31,32,33,34,35,36]) (.ret)))))
set_option maxRecDepth 4000 in
theorem comp13:(Tryz.f13.body.bind fun c=>compC tab isP chkAll ir13 c)=some ir13:=by kernel_rfl
def wh1:Im:=⟨1,1,[255],[255],[255]⟩
def sy0:SyA:=⟨0,0,0,false,false,0⟩
theorem wh1_all:enE wh1 sy0=0/\(enL wh1 sy0).length=9/\shE (enL wh1 sy0)=0/\(shI (enL wh1 sy0)).Eq wh1/\(reH (enL wh1 sy0)).s.gr=false/\∀ c∈enL wh1 sy0,(∀ b∈c,0<=b/\b<256)/\c.length<=1000:=by decide +kernel
def fs13:FS where
 A:=Unit
 args:=fun _=>[]
 mem:=fun _=>[]
 pre:=fun _=>True
 res:=fun _ _=>.bool true
 out:=fun _ _=>[]
 new:=fun _ _=>[]
set_option maxHeartbeats 1000000 in
theorem ok13:FSOk Tryz.prog 13 fs13:=by
 refine⟨⟨_,Tryz.func13,by kernel_rfl,by kernel_rfl⟩,fun a=>⟨by simp[fs13,push_cast,noMine,argOwn,Chunk.frArg],by simp[fs13,push_cast,outOk,Chunk.ext],fun x=>.inl (by simp[fs13,push_cast,frNew,frOut,Chunk.fr])⟩,fun a hp=>?_⟩
 change Tri Tryz.prog 13 [] [] (postF fs13 a)
 refine tri_evS (hyp (l:=[(14,ent14),(19,ent19),(20,ent20)]) (lp:=[]) ⟨e14,e19,e20,trivial⟩ trivial) Tryz.func13 comp13 (rs:=[.tmp 0]) (by rfl) Tryz.ntmps13 27 ?_
 obtain⟨hE,hL,hS,hI,hG,hB⟩:=wh1_all
 have f1:(⟨1,1,[255],[255],[255]⟩:Im)=wh1:=rfl
 have f2:wh1.small:=⟨by decide,by decide,by decide⟩
 have f3:(⟨0,0,0,false,false,0⟩:SyA)=sy0:=rfl
 obtain⟨C,hC⟩:∃ c,enL wh1 sy0=c:=⟨_,rfl⟩
 rw[hC]at hL hS hI hG hB
 have hm:=fun f=>byOf_map f C
 have hml:=fun f=>byL_len f C
 have hcs:∀ L f,RqA.cs ⟨L,byL f C⟩=C:=fun L f=>byL_snd f C
 have hwf:∀ f,rowsWf (byL f C):=fun f=>⟨by rw[byL_len,hL];decide,fun r hr=>by
  have h:=hB _ (byL_mem hr)
  exact⟨h.1,by omega⟩⟩
 obtain⟨J,hJ⟩:∃ j,shI C=j:=⟨_,rfl⟩
 rw[hJ]at hI
 have hsm:J.small:=by
  obtain⟨_,_,h1,h2,h3⟩:=hI
  unfold Im.small
  rw[h1,h2,h3]
  exact f2
 simp -implicitDefEqProofs only[push_cast,zz,seval,ir13,fs14,f1,f2,f3,hE,hC,hL,fs19,hm,hml,hcs,hwf,hG,hS,hJ,fs20,hsm,hI,lx,if_true]
 intro X X1
 refine⟨rfl,rfl,rfl,rfl,rfl,rfl,rfl,rfl,rfl,rfl,rfl,rfl,rfl,rfl,fun X2=>⟨rfl,rfl,rfl,rfl,rfl,rfl,rfl,rfl,?_⟩⟩
 refine postF.mk' (fun _=>default) [] ?_
 simp -implicitDefEqProofs only[push_cast,zz,seval,fs13]
end Go.Proofs.YtaofjnkpkocgjaaGreat
