import Derived.Test.YtaofjnkpkocgjaaGreatPA1
set_option linter.unusedVariables false
set_option linter.unusedSimpArgs false
set_option maxRecDepth 1000
namespace Go.Proofs.YtaofjnkpkocgjaaGreat
open Xf
theorem sameK.len {l m:List Bck} (h:sameK l m):l.length=m.length:=by
 have:=congrArg List.length h
 simpa using this
theorem rows_sameK {l m:List Bck} (h:sameK l m) {y:Addr} (hr:rows (.recs 4 false [] (l.map Bck.rc)) y):rows (.recs 4 false [] (m.map Bck.rc)) y:=by
 obtain⟨L,k,xs,⟨r,hr,hm⟩,ho⟩:=hr
 refine⟨L,k,xs,?_,ho⟩
 obtain⟨b,hb,rfl⟩:=List.mem_map.1 hr
 have hb':(b.L,b.b)∈m.map (fun x=>(x.L,x.b)):=by rw[<-h];exact List.mem_map.2 ⟨b,hb,rfl⟩
 obtain⟨c,hc,e⟩:=List.mem_map.1 hb'
 simp only[Prod.mk.injEq]at e
 refine⟨c.rc,List.mem_map.2 ⟨c,hc,rfl⟩,?_⟩
 unfold Bck.rc at hm ⊢
 rw[e.1,e.2]
 simp only[List.mem_cons,List.not_mem_nil,or_false,reduceCtorEq]at hm ⊢
 exact hm
def simS (a s:StS):Prop:=a.size.length=s.size.length/\a.minus.length=s.minus.length/\a.since.length=s.since.length/\a.now=s.now/\sameK a.list s.list/\a.kind=s.kind/\a.nst=s.nst/\a.band=s.band/\a.w=s.w
theorem simS.refl (s:StS):simS s s:=⟨rfl,rfl,rfl,rfl,rfl,rfl,rfl,rfl,rfl⟩
theorem simS.same {a b s:StS} (g:sameS a b) (h:simS b s):simS a s:=by
 obtain⟨h1,h2,h3,h4,h5,h6,h7,h8,h9⟩:=h
 obtain⟨g1,g2,g3,g4,g5,g6,g7,g8,g9⟩:=g
 exact⟨g1.trans h1,g2.trans h2,g3.trans h3,g4.trans h4,by rw[g5];exact h5,g6.trans h6,g7.trans h7,g8.trans h8,g9.trans h9⟩
theorem simS.on {b s:StS} {i:Nat} (hi:i<b.list.length) (h:simS b s) (v:Bool):simS (setOn b i v) s:=by
 obtain⟨h1,h2,h3,h4,h5,h6,h7,h8,h9⟩:=h
 exact⟨h1,h2,h3,h4,h5.on i hi v,h6,h7,h8,h9⟩
theorem plsG_cons {β:Type} (bit:β->Int->Bool->Bool×Int×β) (f:List Int) (t:Int) (on:Bool) {pl:List Int} {j:Nat} (hj:j<pl.length) (s:StS) (x:β) :
  plsG bit f t on (pl.drop j) s x=if (numG bit s x (rd pl (j:Nat)) t on (digP f (rd pl (j:Nat)) t) (decide (rd f (rd pl (j:Nat))<0))).2.2=0 then plsG bit f t on (pl.drop (j+1)) (numG bit s x (rd pl (j:Nat)) t on (digP f (rd pl (j:Nat)) t) (decide (rd f (rd pl (j:Nat))<0))).1 (numG bit s x (rd pl (j:Nat)) t on (digP f (rd pl (j:Nat)) t) (decide (rd f (rd pl (j:Nat))<0))).2.1
  else numG bit s x (rd pl (j:Nat)) t on (digP f (rd pl (j:Nat)) t) (decide (rd f (rd pl (j:Nat))<0)):=by
 rw[rd_lt pl j hj,List.drop_eq_getElem_cons hj,plsG]
theorem sameK.on' {l m:List Bck} (h:sameK l m) (i:Nat) (b:Bool):sameK (onBk l i b) m:=by
 by_cases hi:i<l.length
 ·exact h.on i hi b
 ·unfold onBk
  rw[List.set_eq_of_length_le (by omega)]
  exact h
theorem plsG_list {β:Type} (bit:β->Int->Bool->Bool×Int×β) (f:List Int) (t:Int) (on:Bool):∀ (l:List Int) (s:StS) (x:β),(plsG bit f t on l s x).1.list=s.list
 | [],s,x=>rfl
 | i::l,s,x=>by
  have h:=(numG_same bit s x i t on (digP f i t) (decide (rd f i<0))).2.2.2.2.1
  rw[plsG]
  split
  ·rw[plsG_list bit f t on l];exact h
  ·exact h
theorem bktG_k {β:Type} (bit:β->Int->Bool->Bool×Int×β) (f:List Int) (t:Int) (i:Nat) (s:StS) (x:β):sameK (bktG bit f t i s x).1.list s.list:=by
 unfold bktG
 split
 ·rw[plsG_list];exact(sameK.refl _).on' i false
 ·split
  ·rw[plsG_list];exact(sameK.refl _).on' i _
  ·exact(sameK.refl _).on' i false
theorem slcG_k {β:Type} (bit:β->Int->Bool->Bool×Int×β) (f:List Int) (t:Int):∀ (k i:Nat) (s:StS) (x:β),sameK (slcG bit f t k i s x).1.list s.list
 | 0,i,s,x=>sameK.refl _
 | k+1,i,s,x=>by
  rw[slcG]
  split
  ·exact Eq.trans (slcG_k bit f t k (i+1) _ _) (bktG_k bit f t i s x)
  ·exact bktG_k bit f t i s x
structure SlA where
 p:StL
 s:StS
 L:Xf.Loc
 LS:Xf.Loc
 LO:Xf.Loc
 LX:Xf.Loc
 e:EnS
 F:Xf.Loc
 f:List Int
 t:Int
def slM (a:SlA):Mem:=[some (.lent,a.p.L,.cells (stV a.p a.s)),some (.lent,a.p.Z,.ints .i64 a.s.size),some (.lent,a.p.M,.bools a.s.minus),some (.lent,a.p.I,.ints .i64 a.s.since),some (.lent,a.p.K,.recs 4 false [] (a.s.list.map Bck.rc)),none,some (.ro,a.p.B,.ints .i64 a.s.band),
 some (.lent,a.L,.cells (relabs (fun i=>i+7) (enV a.LS a.e 2 a.LO))),some (.lent,a.LS,.ints .i64 a.e.st),some (.lent,a.LO,.ints .u8 a.e.out),some (.ro,a.LX,.cells [.ptr 7 a.L 0 0 0]),some (.ro,a.F,.ints .i64 a.f)]
def slR (a:SlA):StS×EnS×Int:=slcG putG a.f a.t a.s.list.length 0 a.s a.e
def invSl:List SV->Look->Option (SlA×List Nat)
 | [.ptr c _ 0 0 0,.int .i64 t,.sl y _ 1 0 _,.fn _ [.ptr x _ 0 0 0]],look=>match invSt look c,rowC (look x),rowI (look y)with
  | some (p,s,g),some (LX,[.ptr k _ 0 0 0]),some (F,.i64,f)=>match invEn [.ptr k nilLoc 0 0 0] look with
   | some (⟨L,LS,LO,e,_,_⟩,h)=>some (⟨p,s,L,LS,LO,LX,e,F,f,t⟩,g++(h++[x,y]))
   | _=>none
  | _,_,_=>none
 | _,_=>none
attribute [push_cast] invSl
def slOk (s:StS) (e:EnS) (f:List Int) (t:Int):Prop:=stWf s s.since.length/\szWf s/\e.ok/\e.st.length=12/\e.out.length<=1000000/\ofWf f s.since.length/\0<=t/\t<=30
def fs113E:FS where
 A:=SlA
 args:=fun a=>[.ptr 0 a.p.L 0 0 0,.int .i64 a.t,.sl 11 a.F 1 0 a.f.length,.fn 114 [.ptr 10 a.LX 0 0 0]]
 mem:=slM
 pre:=fun a=>slOk a.s a.e a.f a.t
 res:=fun a _=>.int .i64 0
 out:=fun a x=>[some (some (.cells (stV a.p (slR a).1))),some (some (.ints .i64 (slR a).1.size)),some (some (.bools (slR a).1.minus)),some (some (.ints .i64 (slR a).1.since)),some (some (.recs 4 false [] ((slR a).1.list.map Bck.rc))),none,none,some (some (.cells (relabs (fun i=>i+7) (enV a.LS (slR a).2.1 5 (x 0))))),some (some (.ints .i64 (slR a).2.1.st)),some none]
 new:=fun a x=>[(x 0,.ints .u8 (slR a).2.1.out)]
 newGot:=true
theorem plsE_inv (f:List Int) (t:Int) (t0:0<=t) (t1:t<=30) (on:Bool):∀ (l:List Int) (s:StS) (e:EnS) (n:Nat),stWf s n->szWf s->e.ok->e.st.length=12->(∀ x∈l,0<=x/\x<n) ->
  sameS (plsG putG f t on l s e).1 s/\szWf (plsG putG f t on l s e).1/\enAft e (plsG putG f t on l s e).2.1 (8*l.length)/\(plsG putG f t on l s e).2.2=0
 | [],s,e,n,hs,hz,he,h12,hl=>⟨sameS.refl s,hz,⟨he,by simp[plsG],rfl,rfl⟩,rfl⟩
 | i::l,s,e,n,hs,hz,he,h12,hl=>by
  have hi:=hl i List.mem_cons_self
  have h1:=numG_same putG s e i t on (digP f i t) (decide (rd f i<0))
  have h2:=numG_sz putG e on (digP f i t) (decide (rd f i<0)) hz hi.1 (by have:=hs.1;omega) t0 t1
  obtain⟨h3,h4⟩:=numE_aft s i t on (digP f i t) (decide (rd f i<0)) he h12
  rw[plsG,if_pos h4]
  obtain⟨k1,k2,k3,k4⟩:=plsE_inv f t t0 t1 on l _ _ n (h1.wf hs) h2 h3.1 (by rw[h3.2.2.1,h12]) (fun x hx=>hl x (List.mem_cons_of_mem _ hx))
  exact⟨k1.trans h1,k2,(h3.trans k3).mono (by simp only[List.length_cons];omega),k4⟩
theorem bktE_inv (f:List Int) (t:Int) (t0:0<=t) (t1:t<=30) (i:Nat) (s:StS) (e:EnS) (n:Nat) (hs:stWf s n) (hz:szWf s) (he:e.ok) (h12:e.st.length=12) (hi:i<s.list.length) :
  simS (bktG putG f t i s e).1 s/\szWf (bktG putG f t i s e).1/\enAft e (bktG putG f t i s e).2.1 132/\(bktG putG f t i s e).2.2=0:=by
 obtain⟨b1,b2,b3,b4⟩:=hs.2.2.2.2.2.2.2.2.2.2 _ (by rw[rdBk_nat hi];exact List.getElem_mem hi:rdBk s.list i∈s.list)
 unfold bktG
 split
 ·obtain⟨k1,k2,k3,k4⟩:=plsE_inv f t t0 t1 false (rdBk s.list i).b.places (setOn s i false) e n (setOn_wf hi hs) hz he h12 b4
  exact⟨simS.same k1 ((simS.refl s).on hi false),k2,k3.mono (by omega),k4⟩
 ·simp only[putG,if_true]
  have hp:=putAft he h12 (bctxP_bd (setOn s i false) (rdBk s.list i).b) (onP s (rdBk s.list i).b.places f t)
  obtain⟨k1,k2,k3,k4⟩:=plsE_inv f t t0 t1 (onP s (rdBk s.list i).b.places f t) (rdBk s.list i).b.places (setOn s i (onP s (rdBk s.list i).b.places f t)) _ n (setOn_wf hi hs) hz hp.1 (by rw[hp.2.2.1,h12]) b4
  exact⟨simS.same k1 ((simS.refl s).on hi _),k2,(hp.trans k3).mono (by omega),k4⟩
theorem simS.wf {a s:StS} (h:simS a s) {n:Nat} (hs:stWf s n):stWf a n:=by
 obtain⟨h1,h2,h3,h4,h5,h6,h7,h8,h9⟩:=h
 obtain⟨o1,o2,o3,o4,o5,o6,o7,o8,o9,o10,o11⟩:=hs
 refine⟨h1.trans o1,h2.trans o2,h3.trans o3,by rw[h8];exact o4,o5,by rw[h4];exact o6,by rw[h4];exact o7,by rw[h5.len];exact o8,by rw[h9];exact o9,by rw[h9];exact o10,fun b hb=>?_⟩
 have hb':(b.L,b.b)∈s.list.map (fun x=>(x.L,x.b)):=by rw[<-h5];exact List.mem_map.2 ⟨b,hb,rfl⟩
 obtain⟨c,hc,e⟩:=List.mem_map.1 hb'
 simp only[Prod.mk.injEq]at e
 rw[<-e.2,h5.len]
 exact o11 c hc
theorem simS.trans {a b c:StS} (h:simS a b) (g:simS b c):simS a c:=by
 obtain⟨h1,h2,h3,h4,h5,h6,h7,h8,h9⟩:=h
 obtain⟨g1,g2,g3,g4,g5,g6,g7,g8,g9⟩:=g
 exact⟨h1.trans g1,h2.trans g2,h3.trans g3,h4.trans g4,Eq.trans h5 g5,h6.trans g6,h7.trans g7,h8.trans g8,h9.trans g9⟩
theorem slcE_inv (f:List Int) (t:Int) (t0:0<=t) (t1:t<=30) (n:Nat):∀ (k i:Nat) (s:StS) (e:EnS),stWf s n->szWf s->e.ok->e.st.length=12->i+k=s.list.length ->
  simS (slcG putG f t k i s e).1 { s with now:=s.now+1 }/\szWf (slcG putG f t k i s e).1/\enAft e (slcG putG f t k i s e).2.1 (132*k)/\(slcG putG f t k i s e).2.2=0
 | 0,i,s,e,hs,hz,he,h12,hik=>⟨simS.refl _,hz,⟨he,by simp[slcG],rfl,rfl⟩,rfl⟩
 | k+1,i,s,e,hs,hz,he,h12,hik=>by
  obtain⟨k1,k2,k3,k4⟩:=bktE_inv f t t0 t1 i s e n hs hz he h12 (by omega)
  rw[slcG,if_pos k4]
  obtain⟨j1,j2,j3,j4⟩:=slcE_inv f t t0 t1 n k (i+1) _ _ (k1.wf hs) k2 k3.1 (by rw[k3.2.2.1,h12]) (by rw[k1.2.2.2.2.1.len];omega)
  refine⟨j1.trans ?_,j2,(k3.trans j3).mono (by omega),j4⟩
  obtain⟨h1,h2,h3,h4,h5,h6,h7,h8,h9⟩:=k1
  exact⟨h1,h2,h3,by simp only;rw[h4],h5,h6,h7,h8,h9⟩
def b113_2:IR:=
 .seq (r_ [b_ 66 .lss 65 64] []) (.seq (.cond (.t 66) (.skip) (.exit 2)) (.seq (.block 3 (.seq (r_ [i_ 67 63 65 1,L_ 68 67,o_ 17 (.alloc 34 [y_]),s_ 1 .i64 17 68] [66,67,68]) (.seq (R_ [⟨some 69,none,⟨[35,36,37,38],[]⟩,.ld false none 0 0 (.t 4)⟩,⟨some 70,none,⟨[35,36,37,38],[]⟩,.ld false none 0 0 (.t 17)⟩,⟨some 71,none,⟨[35,36,37,38],[]⟩,.ld false none 0 0 (.t 5)⟩,⟨some 72,none,⟨[35,36,37,38],[]⟩,.ld false none 0 0 (.t 11)⟩,n_ 73 72,f_ 74 73 3,⟨some 75,none,⟨[35,36,37,38],[]⟩,.ld true none 0 0 (.t 74)⟩,m_ 76 9,l_ 77 17,o_ 78 (.callv (some 4) 35 (.t 76) [.t 77]),o_ 79 (.mkf 168 [.t 6,.t 17]),m_ 80 3,o_ 81 (.call none 39 167 [.t 69,.t 70,.t 71,.t 75,.t 78,.t 79,.t 80]),m_ 18 81] [17,69,70,71,72,73,74,75,76,77,78,79,80,81]) (.seq (r_ [m_ 82 18,c_ 83 .neq 82 0] [82]) (.cond (.t 83) (.seq (r_ [m_ 84 18,m_ 8 84] [3,4,5,6,9,11,18,24,25,63,64,65,83,84]) (.ret)) (.skip)))))) (r_ [a_ 85 65 1,m_ 65 85] [8,18,83,85])))
def r113_3:IR:=
 r_ [a_ 86 25 1,m_ 25 86] [11,63,64,65,86]
def b113_1:IR:=
 .seq (r_ [b_ 26 .lss 25 24] []) (.seq (.cond (.t 26) (.skip) (.exit 0)) (.seq (.block 1 (.seq (r_ [m_ 27 25,m_ 10 27] [26,27]) (.seq (r_ [l_ 28 4,n_ 29 28,f_ 30 29 4,l_ 31 30,m_ 32 10,i_ 33 31 32 4,o_ 11 (.alloc 23 [.val (.pointer none)]),s_ 1 .i64 11 33] [10,28,29,30,31,32,33]) (.seq (r_ [l_ 34 11,n_ 35 34,f_ 36 35 3,O_ (.sto true 1 .i64 (.t 36) (.k (.bool false)))] [34,35,36]) (.seq (.seq (R_ [⟨some 38,none,⟨[24],[]⟩,.ld false none 0 0 (.t 4)⟩,l_ 39 11,n_ 40 39,o_ 41 (.ld true (some 4) 24 1 (.t 40)),o_ 42 (.call (some 4) 25 164 [.t 38,.t 41]),m_ 37 42,e_ 43 37 0,e_ 44 37 1,m_ 12 43,m_ 13 44] [37,38,39,40,41,42,43,44]) (.seq (r_ [m_ 45 13] [13]) (.cond (.t 45) (.seq (r_ [m_ 47 3,m_ 48 12,o_ 49 (.mkf 165 [.t 4,.t 11,.t 5,.t 6]),o_ 50 (.callv none 29 (.t 47) [.t 48,.t 49]),m_ 46 50,e_ 51 46 0,e_ 52 46 1,m_ 14 51,m_ 15 52] [12,45,46,47,48,49,50,51,52]) (.seq (.seq (r_ [m_ 53 15,c_ 54 .neq 53 0] [53]) (.cond (.t 54) (.seq (r_ [m_ 55 15,m_ 8 55] [3,4,5,6,9,11,14,15,24,25,54,55]) (.ret)) (.skip))) (r_ [l_ 56 11,m_ 57 14,n_ 58 56,f_ 59 58 3,S_ 1 .i64 59 57] [8,14,15,54,56,57,58,59]))) (.skip)))) (.seq (r_ [l_ 60 11,n_ 61 60,f_ 62 61 0,o_ 63 (.ld true none 33 1 (.t 62)),h_ 64 63,z_ 65 0] [12,45,60,61,62]) (.block 2 (.loop b113_2)))))))) (r113_3)))
def r113_4:IR:=
 .seq (r_ [l_ 87 4,n_ 88 87,f_ 89 88 3,l_ 90 89,a_ 91 90 1,n_ 92 87,f_ 93 92 3,s_ 1 .i64 93 91] [3,4,5,6,9,24,25,87,88,89,90,91,92,93]) (.seq (r_ [z_ 8 0] []) (.ret))
def ir113:IR:=
 .seq (r_ [o_ 4 (.box 20 (.t 0)),o_ 5 (.box 21 (.t 1)),o_ 6 (.box 22 (.t 2)),z_ 8 0] [0,1,2,8]) (.seq (r_ [o_ 19 (.mkf 162 [.t 6,.t 5]),m_ 9 19] [19]) (.seq (.seq (r_ [l_ 20 4,n_ 21 20,f_ 22 21 4,l_ 23 22,h_ 24 23,z_ 25 0] [20,21,22,23]) (.block 0 (.loop b113_1))) (r113_4)))
def kp113_2:List Nat:=[3,4,5,6,9,11,24,25,63,64,65]
def kl113_2:List Nat:=[34,35,36,37,38,39,40,41,42]
attribute [push_cast] kp113_2 kl113_2
def kp113_1:List Nat:=[3,4,5,6,9,24,25]
def kl113_1:List Nat:=[23,24,25,26,27,28,29,30,31,32,33,34,35,36,37,38,39,40,41,42]
attribute [push_cast] kp113_1 kl113_1
set_option maxRecDepth 4000 in
theorem comp113:(Tryz.f113.body.bind fun c=>compC tab isP chkAll ir113 c)=some ir113:=by kernel_rfl
theorem slE_rows (a:SlA) (x:Nat->Xf.Loc):rowsOk fs113E a x:=by
 have k1:=slcG_k putG a.f a.t a.s.list.length 0 a.s a.e
 refine .inr ⟨fun j L ch h=>.inl ?_,fun c ch h=>?_⟩
 ·cases j with
  | zero=>simp[fs113E]at h;rw[<-h.2];rfl
  | succ j=>simp[fs113E]at h
 ·rcases c with _ | _ | _ | _ | _ | _ | _ | _ | _ | _ | c
  all_goals simp[fs113E,lk]at h
  all_goals subst h
  ·exact .inl rfl
  ·exact .inl rfl
  ·exact .inl rfl
  ·exact .inl rfl
  ·exact .inr fun y hy=>.inr ⟨_,rfl,rows_sameK k1 hy⟩
  ·exact .inl rfl
  ·exact .inl rfl
set_option maxHeartbeats 4000000 in
theorem ok113E:FSOk Tryz.prog 113 fs113E:=by
 refine⟨fk_ Tryz.func113,fun a=>⟨by simp[fs113E,slM,push_cast,noMine,argOwn,Chunk.frArg],by simp[fs113E,slM,stV,enV,ivV,push_cast,outOk,Chunk.ext],fun x=>slE_rows a x⟩,fun a hp=>?_⟩
 obtain⟨p,s0,L,LS,LO,LX,e0,F,f,t⟩:=a
 obtain⟨h1,h2,h3,h4,h5,h6,h7,h8⟩:slOk s0 e0 f t:=hp
 obtain⟨n,hn⟩:∃ n,s0.since.length=n:=⟨_,rfl⟩
 rw[hn]at h1 h6
 have hfl:=h6.1
 have hofl:ofWf f f.length:=by rw[hfl];exact h6
 have hR0:slR ⟨p,s0,L,LS,LO,LX,e0,F,f,t⟩=slcG putG f t s0.list.length 0 s0 e0:=rfl
 obtain⟨R,hR⟩:∃ R,slR ⟨p,s0,L,LS,LO,LX,e0,F,f,t⟩=R:=⟨_,rfl⟩
 rw[hR]at hR0
 obtain⟨size0,minus0,since0,now,list0,kind,nst,band,w⟩:=s0
 obtain⟨o1,o2,o3,o4,o5,o6,o7,o8,o9,o10,o11⟩:=id h1
 simp only at o1 o2 o3 o4 o5 o6 o7 o8 o9 o10 o11 hR0
 obtain⟨m,hm⟩:∃ m,list0.length=m:=⟨_,rfl⟩
 rw[hm]at hR0
 have hb64:=bits_i64
 change Tri Tryz.prog 113 [.ptr 0 p.L 0 0 0,.int .i64 t,.sl 11 F 1 0 f.length,.fn 114 [.ptr 10 LX 0 0 0]] (slM ⟨p,⟨size0,minus0,since0,now,list0,kind,nst,band,w⟩,L,LS,LO,LX,e0,F,f,t⟩) (postF fs113E ⟨p,⟨size0,minus0,since0,now,list0,kind,nst,band,w⟩,L,LS,LO,LX,e0,F,f,t⟩)
 refine tri_evS (hyp (l:=[(162,ent162),(164,ent164),(114,ent114),(167,ent167E)]) (lp:=[]) ⟨e162,e164,e114,e167E,trivial⟩ trivial) Tryz.func113 comp113 (rs:=[.tmp 8]) (by rfl) Tryz.ntmps113 43 ?_
 have he4:(k:Nat)->k<m->esz 4 m=4:=fun k hk=>esz_pos (by omega)
 simp -implicitDefEqProofs only[push_cast,zz,seval,ir113,slM,stV,enV,ivV,o1,o2,o3,o4,hm]
 intro X
 refine evS_loopU (A:=Nat×StS×EnS×Xf.Loc) kp113_1 kl113_1 (fun y=>[(25,.int .i64 y.1)])
  (fun y=>[(1,.lent,p.Z,.ints .i64 y.2.1.size),(2,.lent,p.M,.bools y.2.1.minus),(3,.lent,p.I,.ints .i64 y.2.1.since),(4,.lent,p.K,.recs 4 false [] (y.2.1.list.map Bck.rc)),(7,.lent,L,.cells (relabs (fun i=>i+7) (enV LS y.2.2.1 2 y.2.2.2))),(8,.lent,LS,.ints .i64 y.2.2.1.st),(9,.got,y.2.2.2,.ints .u8 y.2.2.1.out)])
  (fun y=>y.1<=m/\slcG putG f t (m-y.1) y.1 y.2.1 y.2.2.1=R/\simS y.2.1 ⟨size0,minus0,since0,now,list0,kind,nst,band,w⟩/\szWf y.2.1/\enAft e0 y.2.2.1 (132*y.1)) (fun y=>m-y.1) (0,⟨size0,minus0,since0,now,list0,kind,nst,band,w⟩,e0,LO) ⟨Nat.zero_le _,hR0.symm,simS.refl _,h2,h3,Nat.le_refl _,rfl,rfl⟩ (Sub.pt ?_) ?_
 ·simp -implicitDefEqProofs only[push_cast,zz,seval,enV,ivV,o1,o2,o3,o4,hm]
 intro ⟨i,s,e,M⟩ ⟨(hi:i<=m),(hs:slcG putG f t (m-i) i s e=R),(hsim:simS s _),(hz:szWf s),(haft:enAft e0 e (132*i))⟩ K hK
 have hwf:=hsim.wf h1
 obtain⟨size,minus,since,now',list,kind',nst',band',w'⟩:=s
 obtain⟨rfl,rfl,rfl,rfl,rfl⟩:now'=now/\kind'=kind/\nst'=nst/\band'=band/\w'=w:=⟨hsim.2.2.2.1,hsim.2.2.2.2.2⟩
 have hlm:list.length=m:=by rw[<-hm];exact hsim.2.2.2.2.1.len
 obtain⟨p1,p2,p3,p4,p5,p6,p7,p8,p9,p10,p11⟩:=id hwf
 simp only at p1 p2 p3 p8 p9 p11
 have ho8:m<=50000:=by omega
 by_cases hi':i<m
 ·have hii:(i:Int)<m:=by omega
  have he4':=he4 i hi'
  have rk:=recAt_Bk (l:=list) (i:=i) (by omega) []
  have hmapl:(list.map Bck.rc).length=m:=by rw[List.length_map,hlm]
  have hset0:=(onBk_rc (l:=list) (i:=i) false).symm
  have hsetl:(onBk list i false).length=m:=by rw[onBk_len,hlm]
  have hkat:=onBk_at (l:=list) (i:=i) (by omega) false
  have rk1:=recAt_Bk (l:=onBk list i false) (i:=i) (by omega) []
  have hset1:=fun v=>(onBk_rc (l:=onBk list i false) (i:=i) v).symm.trans (by rw[onBk_on (by omega)])
  have hwf1:=setOn_wf (s:=⟨size,minus,since,now',list,kind',nst',band',w'⟩) (b:=false) (show i<list.length by omega) hwf
  have hbki:=p11 _ (by rw[rdBk_nat (show i<list.length by omega)];exact List.getElem_mem _:rdBk list i∈list)
  simp only[setOn]at hwf1
  obtain⟨⟨L',⟨pl,bw,q⟩,on'⟩,hbk⟩:∃ b,rdBk list i=b:=⟨_,rfl⟩
  rw[hbk]at rk hset0 hkat hbki
  rw[hkat]at rk1 hset1
  simp only at hbki
  obtain⟨V,hV⟩:∃ V,onP ⟨size,minus,since,now',list,kind',nst',band',w'⟩ pl f t=V:=⟨_,rfl⟩
  obtain⟨l1,hl1⟩:∃ l,onBk list i false=l:=⟨_,rfl⟩
  obtain⟨B,hB⟩:∃ B,bktG putG f t i ⟨size,minus,since,now',list,kind',nst',band',w'⟩ e=B:=⟨_,rfl⟩
  have hbA:allP ⟨size,minus,since,now',list,kind',nst',band',w'⟩ pl=true->B=plsG putG f t false pl ⟨size,minus,since,now',l1,kind',nst',band',w'⟩ e:=fun h=>by
   rw[<-hB,<-hl1];unfold bktG;simp only[hbk,h,if_true];rfl
  have hbN:¬ allP ⟨size,minus,since,now',list,kind',nst',band',w'⟩ pl=true->B=plsG putG f t V pl ⟨size,minus,since,now',onBk list i V,kind',nst',band',w'⟩ (putP e (bctxP ⟨size,minus,since,now',l1,kind',nst',band',w'⟩ ⟨pl,bw,q⟩) (b2i V)):=fun h=>by
   rw[<-hB,<-hl1,<-hV];unfold bktG;simp only[hbk,h,if_false];rfl
  rw[hl1]at hset0 hsetl rk1 hset1 hwf1
  have hbi:=bktE_inv f t h7 h8 i ⟨size,minus,since,now',list,kind',nst',band',w'⟩ e n hwf hz haft.1 (by have:=haft.2.2.1;omega) (by simp only;omega)
  have hsl:slcG putG f t (m-(i+1)) (i+1) B.1 B.2.1=R:=by
   rw[show m-i=(m-(i+1))+1 by omega,slcG,if_pos hbi.2.2.2,hB]at hs
   exact hs
  rw[hB]at hbi
  have he12:e.st.length=12:=by have:=haft.2.2.1;omega
  have hoe:e.out.length<=8000000:=by have:=haft.2.1;omega
  have b4:=hbki.2.2.2
  have hml1:(l1.map Bck.rc).length=m:=by rw[List.length_map,hsetl]
  by_cases hall:allP ⟨size,minus,since,now',list,kind',nst',band',w'⟩ pl=true
  ·have hall':allP ⟨size,minus,since,now',l1,kind',nst',band',w'⟩ pl=true:=hall
   have hbA:=hbA hall
   have haftA:enAft e e (4+8*0):=⟨haft.1,by omega,rfl,rfl⟩
   simp -implicitDefEqProofs only[push_cast,zz,seval,b113_1,stM,stV,enV,ivV,hii,rk,rk1,Bck.rc,hset0,hmapl,hml1,he4',Int.toNat_natCast,fs164,Bck.sv,p1,p2,p3,o4,hsetl,hwf1,bkWf,hbki,hall']
   intro X1
   repeat refine om_ ?_
   refine evS_loopU (A:=Nat×StS×EnS×Xf.Loc) kp113_2 kl113_2 (fun y=>[(65,.int .i64 y.1)])
    (fun y=>[(1,.lent,p.Z,.ints .i64 y.2.1.size),(2,.lent,p.M,.bools y.2.1.minus),(3,.lent,p.I,.ints .i64 y.2.1.since),(7,.lent,L,.cells (relabs (fun i=>i+7) (enV LS y.2.2.1 2 y.2.2.2))),(8,.lent,LS,.ints .i64 y.2.2.1.st),(9,.got,y.2.2.2,.ints .u8 y.2.2.1.out)])
    (fun y=>y.1<=pl.length/\plsG putG f t false (pl.drop y.1) y.2.1 y.2.2.1=B/\sameS y.2.1 ⟨size,minus,since,now',l1,kind',nst',band',w'⟩/\szWf y.2.1/\enAft e y.2.2.1 (4+8*y.1)) (fun y=>pl.length-y.1) (0,⟨size,minus,since,now',l1,kind',nst',band',w'⟩,e,M) ⟨Nat.zero_le _,hbA.symm,sameS.refl _,hz,haftA⟩ (Sub.pt ?_) ?_
   ·simp -implicitDefEqProofs only[push_cast,zz,seval,enV,ivV,p1,p2,p3,he4']
   intro ⟨j,s2,e2,M2⟩ ⟨(hj:j<=pl.length),(hp2:plsG putG f t false (pl.drop j) s2 e2=B),(hsame:sameS s2 _),(hz2:szWf s2),(haft2:enAft e e2 (4+8*j))⟩ K2 hK2
   have hwf2:stWf s2 n:=hsame.wf (by first | exact hwf1 | exact hwf2)
   obtain⟨size2,minus2,since2,now2,list2,kind2,nst2,band2,w2⟩:=s2
   obtain⟨rfl,rfl,rfl,rfl,rfl,rfl⟩:now'=now2/\l1=list2/\kind'=kind2/\nst'=nst2/\band'=band2/\w'=w2:=⟨hsame.2.2.2.1.symm,hsame.2.2.2.2.1.symm,hsame.2.2.2.2.2.1.symm,hsame.2.2.2.2.2.2.1.symm,hsame.2.2.2.2.2.2.2.1.symm,hsame.2.2.2.2.2.2.2.2.symm⟩
   have q1:size2.length=n:=hwf2.1
   have q2:minus2.length=n:=hwf2.2.1
   have q3:since2.length=n:=hwf2.2.2.1
   by_cases hj':j<pl.length
   ·have hji:(j:Int)<pl.length:=by omega
    have hx:=b4 _ (rd_mem hj')
    have hcons:=plsG_cons putG f t false hj' ⟨size2,minus2,since2,now',l1,kind',nst',band',w'⟩ e2
    rw[hp2]at hcons
    obtain⟨x,hxx⟩:∃ x,rd pl (j:Int)=x:=⟨_,rfl⟩
    rw[hxx]at hx hcons
    have a1:=numG_same putG ⟨size2,minus2,since2,now',l1,kind',nst',band',w'⟩ e2 x t false (digP f x t) (decide (rd f x<0))
    have a2:=numG_sz putG e2 false (digP f x t) (decide (rd f x<0)) hz2 hx.1 (by simp only;omega) h7 h8
    obtain⟨a3,a4⟩:=numE_aft ⟨size2,minus2,since2,now',l1,kind',nst',band',w'⟩ x t false (digP f x t) (decide (rd f x<0)) haft2.1 (by have:=haft2.2.2.1;omega)
    rw[if_pos a4]at hcons
    have hnuR:∀ L1 L2 L3 L4,nuR ⟨p,⟨size2,minus2,since2,now',l1,kind',nst',band',w'⟩,L,LS,M2,LX,e2,L1,L2,L3,L4,F,f,x,t,false⟩=numG putG ⟨size2,minus2,since2,now',l1,kind',nst',band',w'⟩ e2 x t false (digP f x t) (decide (rd f x<0)):=fun _ _ _ _=>rfl
    have hnu:nuOk ⟨size2,minus2,since2,now',l1,kind',nst',band',w'⟩ e2 f x t:=⟨by rw[q3];exact hwf2,hz2,haft2.1,by have:=haft2.2.2.1;omega,by have:=haft2.2.1;omega,by rw[q3];exact h6,hx.1,by rw[q3];exact hx.2,h7,h8⟩
    obtain⟨N,hN⟩:∃ N,numG putG ⟨size2,minus2,since2,now',l1,kind',nst',band',w'⟩ e2 x t false (digP f x t) (decide (rd f x<0))=N:=⟨_,rfl⟩
    rw[hN]at hcons a1 a2 a3
    simp only[hN]at hnuR
    obtain⟨⟨size3,minus3,since3,now3,list3,kind3,nst3,band3,w3⟩,e3,er3⟩:=N
    obtain⟨rfl,rfl,rfl,rfl,rfl,rfl⟩:now'=now3/\l1=list3/\kind'=kind3/\nst'=nst3/\band'=band3/\w'=w3:=⟨a1.2.2.2.1.symm,a1.2.2.2.2.1.symm,a1.2.2.2.2.2.1.symm,a1.2.2.2.2.2.2.1.symm,a1.2.2.2.2.2.2.2.1.symm,a1.2.2.2.2.2.2.2.2.symm⟩
    have q5:size3.length=n:=a1.1.trans q1
    have q6:minus3.length=n:=a1.2.1.trans q2
    have q7:since3.length=n:=a1.2.2.1.trans q3
    have q8:(e3.st.length:Int)=e2.st.length:=by rw[a3.2.2.1]
    clear hK
    simp -implicitDefEqProofs only[push_cast,zz,seval,b113_2,stM,stV,enV,ivV,hji,hxx,fs162,fs167E,nuM,rk1,Bck.rc,hml1,q1,q2,q3,q5,q6,q7,q8,p1,p2,p3,o4,hsetl,he4',Int.toNat_natCast,hnu,hnuR]
    repeat refine om_ ?_
    intro X2
    repeat refine om_ ?_
    intro X3
    repeat refine om_ ?_
    refine hK2 (j+1,⟨size3,minus3,since3,now',l1,kind',nst',band',w'⟩,e3,X3 12 39) ⟨show j+1<=pl.length by omega,hcons.symm,a1.trans hsame,a2,(haft2.trans a3).mono (by omega)⟩ (show pl.length-(j+1)<pl.length-j by omega) _ _ (Sub.of (mkG 43 [(0,0),(1,1),(2,2),(3,3),(4,4),(6,6),(7,7),(8,8),(9,39),(10,10),(11,11),(20,20),(21,21),(22,22),(23,23),(24,24),(33,33)]) ?_)
    simp -implicitDefEqProofs only[push_cast,zz,seval,enV,ivV,q1,q2,q3,q5,q6,q7,q8,he4']
   ·obtain rfl:j=pl.length:=by omega
    rw[List.drop_length,plsG]at hp2
    subst hp2
    simp only at hsl hbi
    clear hK2
    simp -implicitDefEqProofs only[push_cast,zz,seval,b113_2,r113_3,Int.lt_irrefl]
    repeat refine om_ ?_
    refine hK (i+1,⟨size2,minus2,since2,now',l1,kind',nst',band',w'⟩,e2,M2) ⟨show i+1<=m by omega,hsl,hbi.1.trans hsim,hbi.2.1,(haft.trans hbi.2.2.1).mono (by omega)⟩ (show m-(i+1)<m-i by omega) _ _ (Sub.pt ?_)
    simp -implicitDefEqProofs only[push_cast,zz,seval,enV,ivV,q1,q2,q3,p1,p2,p3,he4']
  ·have hall':¬ allP ⟨size,minus,since,now',l1,kind',nst',band',w'⟩ pl=true:=hall
   have hbN:=hbN hall
   have hcb:=bctxP_bd ⟨size,minus,since,now',l1,kind',nst',band',w'⟩ ⟨pl,bw,q⟩
   have hputA:=putAft haft.1 he12 hcb V
   have hV':onP ⟨size,minus,since,now',l1,kind',nst',band',w'⟩ pl f t=V:=hV
   obtain⟨c,hcc⟩:∃ c,bctxP ⟨size,minus,since,now',l1,kind',nst',band',w'⟩ ⟨pl,bw,q⟩=c:=⟨_,rfl⟩
   rw[hcc]at hbN hcb hputA
   obtain⟨e1,he1⟩:∃ e1,putP e c (b2i V)=e1:=⟨_,rfl⟩
   rw[he1]at hbN hputA
   have haftN:enAft e e1 (4+8*0):=hputA
   have hok:e.ok:=haft.1
   have he1l:(e1.st.length:Int)=e.st.length:=by rw[hputA.2.2.1]
   have hkat1:rdBk l1 i=⟨L',⟨pl,bw,q⟩,false⟩:=by rw[<-hl1];exact hkat
   have honwf:onWf ⟨size,minus,since,now',l1,kind',nst',band',w'⟩ pl f t:=⟨by simp only[p3];exact hwf1,by simp only[p3];exact h6,hbki.2.2.1,by simp only[p3];exact hbki.2.2.2,h7,by omega⟩
   obtain⟨l2,hl2⟩:∃ l,onBk list i V=l:=⟨_,rfl⟩
   have hset1:=hset1 V
   rw[hl2]at hset1 hbN
   have hsetl2:l2.length=m:=by rw[<-hl2,onBk_len,hlm]
   have hml2:(l2.map Bck.rc).length=m:=by rw[List.length_map,hsetl2]
   have hkat2:rdBk l2 i=⟨L',⟨pl,bw,q⟩,V⟩:=by
    rw[<-hl2,onBk_at (by omega),hbk]
   have rk2:=recAt_Bk (l:=l2) (i:=i) (by omega) []
   rw[hkat2]at rk2
   have hwf2:=setOn_wf (s:=⟨size,minus,since,now',list,kind',nst',band',w'⟩) (b:=V) (show i<list.length by omega) hwf
   simp only[setOn,hl2]at hwf2
   simp -implicitDefEqProofs only[push_cast,zz,seval,b113_1,stM,stV,enV,ivV,hii,rk,rk1,Bck.rc,hset0,hmapl,hml1,he4',Int.toNat_natCast,fs164,Bck.sv,p1,p2,p3,o4,hsetl,hwf1,bkWf,hbki,hall',fs114,WE.mem,WE.fn,WE.val,WE.wf,WE.top,hkat1,hV',hcc,he1,honwf,hok,hset1,he1l,rk2,hml2]
   intro X1
   repeat refine om_ ?_
   intro X4
   repeat refine om_ ?_
   refine evS_loopU (A:=Nat×StS×EnS×Xf.Loc) kp113_2 kl113_2 (fun y=>[(65,.int .i64 y.1)])
    (fun y=>[(1,.lent,p.Z,.ints .i64 y.2.1.size),(2,.lent,p.M,.bools y.2.1.minus),(3,.lent,p.I,.ints .i64 y.2.1.since),(7,.lent,L,.cells (relabs (fun i=>i+7) (enV LS y.2.2.1 22 y.2.2.2))),(8,.lent,LS,.ints .i64 y.2.2.1.st),(29,.got,y.2.2.2,.ints .u8 y.2.2.1.out)])
    (fun y=>y.1<=pl.length/\plsG putG f t V (pl.drop y.1) y.2.1 y.2.2.1=B/\sameS y.2.1 ⟨size,minus,since,now',l2,kind',nst',band',w'⟩/\szWf y.2.1/\enAft e y.2.2.1 (4+8*y.1)) (fun y=>pl.length-y.1) (0,⟨size,minus,since,now',l2,kind',nst',band',w'⟩,e1,(X4 3 29)) ⟨Nat.zero_le _,hbN.symm,sameS.refl _,hz,haftN⟩ (Sub.pt ?_) ?_
   ·simp -implicitDefEqProofs only[push_cast,zz,seval,enV,ivV,p1,p2,p3,he4',he1l]
   intro ⟨j,s2,e2,M2⟩ ⟨(hj:j<=pl.length),(hp2:plsG putG f t V (pl.drop j) s2 e2=B),(hsame:sameS s2 _),(hz2:szWf s2),(haft2:enAft e e2 (4+8*j))⟩ K2 hK2
   have hwf2:stWf s2 n:=hsame.wf (by first | exact hwf1 | exact hwf2)
   obtain⟨size2,minus2,since2,now2,list2,kind2,nst2,band2,w2⟩:=s2
   obtain⟨rfl,rfl,rfl,rfl,rfl,rfl⟩:now'=now2/\l2=list2/\kind'=kind2/\nst'=nst2/\band'=band2/\w'=w2:=⟨hsame.2.2.2.1.symm,hsame.2.2.2.2.1.symm,hsame.2.2.2.2.2.1.symm,hsame.2.2.2.2.2.2.1.symm,hsame.2.2.2.2.2.2.2.1.symm,hsame.2.2.2.2.2.2.2.2.symm⟩
   have q1:size2.length=n:=hwf2.1
   have q2:minus2.length=n:=hwf2.2.1
   have q3:since2.length=n:=hwf2.2.2.1
   by_cases hj':j<pl.length
   ·have hji:(j:Int)<pl.length:=by omega
    have hx:=b4 _ (rd_mem hj')
    have hcons:=plsG_cons putG f t V hj' ⟨size2,minus2,since2,now',l2,kind',nst',band',w'⟩ e2
    rw[hp2]at hcons
    obtain⟨x,hxx⟩:∃ x,rd pl (j:Int)=x:=⟨_,rfl⟩
    rw[hxx]at hx hcons
    have a1:=numG_same putG ⟨size2,minus2,since2,now',l2,kind',nst',band',w'⟩ e2 x t V (digP f x t) (decide (rd f x<0))
    have a2:=numG_sz putG e2 V (digP f x t) (decide (rd f x<0)) hz2 hx.1 (by simp only;omega) h7 h8
    obtain⟨a3,a4⟩:=numE_aft ⟨size2,minus2,since2,now',l2,kind',nst',band',w'⟩ x t V (digP f x t) (decide (rd f x<0)) haft2.1 (by have:=haft2.2.2.1;omega)
    rw[if_pos a4]at hcons
    have hnuR:∀ L1 L2 L3 L4,nuR ⟨p,⟨size2,minus2,since2,now',l2,kind',nst',band',w'⟩,L,LS,M2,LX,e2,L1,L2,L3,L4,F,f,x,t,V⟩=numG putG ⟨size2,minus2,since2,now',l2,kind',nst',band',w'⟩ e2 x t V (digP f x t) (decide (rd f x<0)):=fun _ _ _ _=>rfl
    have hnu:nuOk ⟨size2,minus2,since2,now',l2,kind',nst',band',w'⟩ e2 f x t:=⟨by rw[q3];exact hwf2,hz2,haft2.1,by have:=haft2.2.2.1;omega,by have:=haft2.2.1;omega,by rw[q3];exact h6,hx.1,by rw[q3];exact hx.2,h7,h8⟩
    obtain⟨N,hN⟩:∃ N,numG putG ⟨size2,minus2,since2,now',l2,kind',nst',band',w'⟩ e2 x t V (digP f x t) (decide (rd f x<0))=N:=⟨_,rfl⟩
    rw[hN]at hcons a1 a2 a3
    simp only[hN]at hnuR
    obtain⟨⟨size3,minus3,since3,now3,list3,kind3,nst3,band3,w3⟩,e3,er3⟩:=N
    obtain⟨rfl,rfl,rfl,rfl,rfl,rfl⟩:now'=now3/\l2=list3/\kind'=kind3/\nst'=nst3/\band'=band3/\w'=w3:=⟨a1.2.2.2.1.symm,a1.2.2.2.2.1.symm,a1.2.2.2.2.2.1.symm,a1.2.2.2.2.2.2.1.symm,a1.2.2.2.2.2.2.2.1.symm,a1.2.2.2.2.2.2.2.2.symm⟩
    have q5:size3.length=n:=a1.1.trans q1
    have q6:minus3.length=n:=a1.2.1.trans q2
    have q7:since3.length=n:=a1.2.2.1.trans q3
    have q8:(e3.st.length:Int)=e2.st.length:=by rw[a3.2.2.1]
    clear hK
    simp -implicitDefEqProofs only[push_cast,zz,seval,b113_2,stM,stV,enV,ivV,hji,hxx,fs162,fs167E,nuM,rk2,Bck.rc,hml2,q1,q2,q3,q5,q6,q7,q8,p1,p2,p3,o4,hsetl2,he4',Int.toNat_natCast,hnu,hnuR]
    repeat refine om_ ?_
    intro X2
    repeat refine om_ ?_
    intro X3
    repeat refine om_ ?_
    refine hK2 (j+1,⟨size3,minus3,since3,now',l2,kind',nst',band',w'⟩,e3,X3 12 39) ⟨show j+1<=pl.length by omega,hcons.symm,a1.trans hsame,a2,(haft2.trans a3).mono (by omega)⟩ (show pl.length-(j+1)<pl.length-j by omega) _ _ (Sub.of (mkG 43 [(0,0),(1,1),(2,2),(3,3),(4,4),(6,6),(7,7),(8,8),(29,39),(10,10),(11,11),(20,20),(21,21),(22,22),(23,23),(24,24),(33,33)]) ?_)
    simp -implicitDefEqProofs only[push_cast,zz,seval,enV,ivV,q1,q2,q3,q5,q6,q7,q8,he4']
   ·obtain rfl:j=pl.length:=by omega
    rw[List.drop_length,plsG]at hp2
    subst hp2
    simp only at hsl hbi
    clear hK2
    simp -implicitDefEqProofs only[push_cast,zz,seval,b113_2,r113_3,Int.lt_irrefl]
    repeat refine om_ ?_
    refine hK (i+1,⟨size2,minus2,since2,now',l2,kind',nst',band',w'⟩,e2,M2) ⟨show i+1<=m by omega,hsl,hbi.1.trans hsim,hbi.2.1,(haft.trans hbi.2.2.1).mono (by omega)⟩ (show m-(i+1)<m-i by omega) _ _ (Sub.of (mkG 43 [(0,0),(1,1),(2,2),(3,3),(4,4),(6,6),(7,7),(8,8),(9,29),(10,10),(11,11),(20,20),(21,21),(22,22)]) ?_)
    simp -implicitDefEqProofs only[push_cast,zz,seval,enV,ivV,q1,q2,q3,p1,p2,p3,he4']
 ·obtain rfl:i=m:=by omega
  have hii:¬ (i:Int)<i:=by omega
  rw[Nat.sub_self,slcG]at hs
  subst hs
  have ho6:now'<=1000:=o7
  clear hK
  simp -implicitDefEqProofs only[push_cast,zz,seval,b113_1,r113_4,Int.lt_irrefl,enV,ivV]
  repeat refine om_ ?_
  refine postF.mk' (fun _=>M) [some 0,some 1,some 2,some 3,some 4,none,some 6,some 7,some 8,none,some 10,some 11,some 9] ?_
  simp -implicitDefEqProofs only[push_cast,zz,seval,fs113E,slM,stV,enV,ivV,hR,p1,p2,p3,o1,o2,o3,o4,hm,hlm]
def ent113E:Entry:=spOf fs113E invSl
theorem e113E:EntryOk Tryz.prog 113 ent113E:=entry_of ok113E invSl
@[push_cast] theorem ent113E_a u l x k:ent113E u l x k=spOf fs113E invSl u l x k:=rfl
theorem numG_get (s:StS) (d:DeS) (i t:Int) (on dig neg:Bool):numG getG s d i t on dig neg=numG getG s d i t on false false:=rfl
structure SqA where
 p:StL
 s:StS
 L:Xf.Loc
 LS:Xf.Loc
 LC:Xf.Loc
 LX:Xf.Loc
 d:DeS
 F:Xf.Loc
 f:List Int
 t:Int
def sqM (a:SqA):Mem:=[some (.lent,a.p.L,.cells (stV a.p a.s)),some (.lent,a.p.Z,.ints .i64 a.s.size),some (.lent,a.p.M,.bools a.s.minus),some (.lent,a.p.I,.ints .i64 a.s.since),some (.lent,a.p.K,.recs 4 false [] (a.s.list.map Bck.rc)),none,some (.ro,a.p.B,.ints .i64 a.s.band),
 some (.lent,a.L,.cells (relabs (fun i=>i+7) (deV a.LS a.d a.LC))),some (.lent,a.LS,.ints .i64 a.d.st),some (.ro,a.LC,.ints .u8 a.d.code),some (.ro,a.LX,.cells [.ptr 7 a.L 0 0 0]),some (.ro,a.F,.ints .i64 a.f)]
def sqR (a:SqA):StS×DeS×Int:=slcG getG a.f a.t a.s.list.length 0 a.s a.d
def invSq:List SV->Look->Option (SqA×List Nat)
 | [.ptr c _ 0 0 0,.int .i64 t,.sl y _ 1 0 _,.fn _ [.ptr x _ 0 0 0]],look=>match invSt look c,rowC (look x),rowI (look y)with
  | some (p,s,g),some (LX,[.ptr k _ 0 0 0]),some (F,.i64,f)=>match invDe [.ptr k nilLoc 0 0 0] look with
   | some (⟨L,LS,LC,d,_⟩,h)=>some (⟨p,s,L,LS,LC,LX,d,F,f,t⟩,g++(h++[x,y]))
   | _=>none
  | _,_,_=>none
 | _,_=>none
attribute [push_cast] invSq
def sqOk (s:StS) (d:DeS) (f:List Int) (t:Int):Prop:=stWf s s.since.length/\szWf s/\d.ok/\d.st.length=12/\ofWf f s.since.length/\0<=t/\t<=30
def fs113D:FS where
 A:=SqA
 args:=fun a=>[.ptr 0 a.p.L 0 0 0,.int .i64 a.t,.sl 11 a.F 1 0 a.f.length,.fn 189 [.ptr 10 a.LX 0 0 0]]
 mem:=sqM
 pre:=fun a=>sqOk a.s a.d a.f a.t
 res:=fun a _=>.int .i64 (sqR a).2.2
 out:=fun a x=>[some (some (.cells (stV a.p (sqR a).1))),some (some (.ints .i64 (sqR a).1.size)),some (some (.bools (sqR a).1.minus)),some (some (.ints .i64 (sqR a).1.since)),some (some (.recs 4 false [] ((sqR a).1.list.map Bck.rc))),none,none,some (some (.cells (relabs (fun i=>i+7) (deV a.LS (sqR a).2.1 a.LC)))),some (some (.ints .i64 (sqR a).2.1.st))]
theorem plsD_inv (f:List Int) (t:Int) (t0:0<=t) (t1:t<=30) (on:Bool):∀ (l:List Int) (s:StS) (d:DeS) (n:Nat),stWf s n->szWf s->d.ok->d.st.length=12->(∀ x∈l,0<=x/\x<n) ->
  sameS (plsG getG f t on l s d).1 s/\szWf (plsG getG f t on l s d).1/\deAft d (plsG getG f t on l s d).2.1
 | [],s,e,n,hs,hz,he,h12,hl=>⟨sameS.refl s,hz,he,rfl,rfl,rfl⟩
 | i::l,s,e,n,hs,hz,he,h12,hl=>by
  have hi:=hl i List.mem_cons_self
  have h1:=numG_same getG s e i t on (digP f i t) (decide (rd f i<0))
  have h2:=numG_sz getG e on (digP f i t) (decide (rd f i<0)) hz hi.1 (by have:=hs.1;omega) t0 t1
  have h3:=numD_aft s i t on (digP f i t) (decide (rd f i<0)) he h12
  rw[plsG]
  split
  ·obtain⟨k1,k2,k3⟩:=plsD_inv f t t0 t1 on l _ _ n (h1.wf hs) h2 h3.1 (by rw[h3.2.1,h12]) (fun x hx=>hl x (List.mem_cons_of_mem _ hx))
   exact⟨k1.trans h1,k2,h3.trans k3⟩
  ·exact⟨h1,h2,h3⟩
theorem bktG_get (f:List Int) (t:Int) (i:Nat) (s:StS) (d:DeS):bktG getG f t i s d=if allP s (rdBk s.list i).b.places=true then plsG getG f t false (rdBk s.list i).b.places (setOn s i false) d
 else if gotE d (bctxP (setOn s i false) (rdBk s.list i).b)=0 then
  plsG getG f t (decide (gotB d (bctxP (setOn s i false) (rdBk s.list i).b)=1)) (rdBk s.list i).b.places (setOn s i (decide (gotB d (bctxP (setOn s i false) (rdBk s.list i).b)=1))) (gotS d (bctxP (setOn s i false) (rdBk s.list i).b))
 else (setOn s i false,gotS d (bctxP (setOn s i false) (rdBk s.list i).b),gotE d (bctxP (setOn s i false) (rdBk s.list i).b)):=rfl
theorem bktD_inv (f:List Int) (t:Int) (t0:0<=t) (t1:t<=30) (i:Nat) (s:StS) (d:DeS) (n:Nat) (hs:stWf s n) (hz:szWf s) (he:d.ok) (h12:d.st.length=12) (hi:i<s.list.length) :
  simS (bktG getG f t i s d).1 s/\szWf (bktG getG f t i s d).1/\deAft d (bktG getG f t i s d).2.1:=by
 obtain⟨b1,b2,b3,b4⟩:=hs.2.2.2.2.2.2.2.2.2.2 _ (by rw[rdBk_nat hi];exact List.getElem_mem hi:rdBk s.list i∈s.list)
 rw[bktG_get]
 split
 ·obtain⟨k1,k2,k3⟩:=plsD_inv f t t0 t1 false (rdBk s.list i).b.places (setOn s i false) d n (setOn_wf hi hs) hz he h12 b4
  exact⟨simS.same k1 ((simS.refl s).on hi false),k2,k3⟩
 ·have hp:=gotAft he h12 (bctxP_bd (setOn s i false) (rdBk s.list i).b)
  split
  ·obtain⟨k1,k2,k3⟩:=plsD_inv f t t0 t1 (decide (gotB d (bctxP (setOn s i false) (rdBk s.list i).b)=1)) (rdBk s.list i).b.places (setOn s i (decide (gotB d (bctxP (setOn s i false) (rdBk s.list i).b)=1))) _ n (setOn_wf hi hs) hz hp.1 (by rw[hp.2.1,h12]) b4
   exact⟨simS.same k1 ((simS.refl s).on hi _),k2,hp.trans k3⟩
  ·exact⟨(simS.refl s).on hi _,hz,hp⟩
theorem slcD_inv (f:List Int) (t:Int) (t0:0<=t) (t1:t<=30) (n:Nat):∀ (k i:Nat) (s:StS) (d:DeS),stWf s n->szWf s->d.ok->d.st.length=12->i+k=s.list.length ->
  ((slcG getG f t k i s d).2.2=0->simS (slcG getG f t k i s d).1 { s with now:=s.now+1 })/\szWf (slcG getG f t k i s d).1/\deAft d (slcG getG f t k i s d).2.1
 | 0,i,s,d,hs,hz,he,h12,hik=>⟨fun _=>simS.refl _,hz,he,rfl,rfl,rfl⟩
 | k+1,i,s,d,hs,hz,he,h12,hik=>by
  obtain⟨k1,k2,k3⟩:=bktD_inv f t t0 t1 i s d n hs hz he h12 (by omega)
  rw[slcG]
  split
  ·obtain⟨j1,j2,j3⟩:=slcD_inv f t t0 t1 n k (i+1) _ _ (k1.wf hs) k2 k3.1 (by rw[k3.2.1,h12]) (by rw[k1.2.2.2.2.1.len];omega)
   refine⟨fun h=>(j1 h).trans ?_,j2,k3.trans j3⟩
   obtain⟨h1,h2,h3,h4,h5,h6,h7,h8,h9⟩:=k1
   exact⟨h1,h2,h3,by simp only;rw[h4],h5,h6,h7,h8,h9⟩
  ·rename_i hne
   exact⟨fun h=>absurd h hne,k2,k3⟩
theorem slD_len (f:List Int) (t:Int):∀ (k i:Nat) (s:StS) (d:DeS),(slcG getG f t k i s d).2.1.code=d.code:=by
 have hp:∀ on l s d,(plsG getG f t on l s d).2.1.code=d.code:=fun on l=>by
  induction l with
  | nil=>intro s d;rfl
  | cons i l ih=>
   intro s d
   have:=(numD_len s d i t on (digP f i t) (decide (rd f i<0))).2
   rw[plsG]
   split
   ·rw[ih,this]
   ·exact this
 intro k
 induction k with
 | zero=>intro i s d;rfl
 | succ k ih=>
  intro i s d
  have hb:(bktG getG f t i s d).2.1.code=d.code:=by
   rw[bktG_get]
   split
   ·rw[hp]
   ·split
    ·rw[hp,(gotS_len _ _).2.1]
    ·exact(gotS_len _ _).2.1
  rw[slcG]
  split
  ·rw[ih,hb]
  ·exact hb
theorem slD_rows (a:SqA) (x:Nat->Xf.Loc):rowsOk fs113D a x:=by
 have k1:=slcG_k getG a.f a.t a.s.list.length 0 a.s a.d
 refine .inr ⟨fun j L ch h=>.inl ?_,fun c ch h=>?_⟩
 ·simp[fs113D]at h
 ·rcases c with _ | _ | _ | _ | _ | _ | _ | _ | _ | c
  all_goals simp[fs113D,lk]at h
  all_goals subst h
  ·exact .inl rfl
  ·exact .inl rfl
  ·exact .inl rfl
  ·exact .inl rfl
  ·exact .inr fun y hy=>.inr ⟨_,rfl,rows_sameK k1 hy⟩
  ·exact .inl rfl
  ·exact .inl rfl
set_option maxHeartbeats 4000000 in
theorem ok113D:FSOk Tryz.prog 113 fs113D:=by
 refine⟨fk_ Tryz.func113,fun a=>⟨by simp[fs113D,sqM,push_cast,noMine,argOwn,Chunk.frArg],by simp[fs113D,sqM,sqR,slD_len,stV,deV,deT,ivV,push_cast,outOk,Chunk.ext],fun x=>slD_rows a x⟩,fun a hp=>?_⟩
 obtain⟨p,s0,L,LS,LC,LX,d0,F,f,t⟩:=a
 obtain⟨h1,h2,h3,h4,h6,h7,h8⟩:sqOk s0 d0 f t:=hp
 obtain⟨n,hn⟩:∃ n,s0.since.length=n:=⟨_,rfl⟩
 rw[hn]at h1 h6
 have hfl:=h6.1
 have hR0:sqR ⟨p,s0,L,LS,LC,LX,d0,F,f,t⟩=slcG getG f t s0.list.length 0 s0 d0:=rfl
 obtain⟨R,hR⟩:∃ R,sqR ⟨p,s0,L,LS,LC,LX,d0,F,f,t⟩=R:=⟨_,rfl⟩
 rw[hR]at hR0
 obtain⟨size0,minus0,since0,now,list0,kind,nst,band,w⟩:=s0
 obtain⟨dk0,dst0,dlo0,dhi0,code,dat0,dvv0,dbe0,den0⟩:=d0
 obtain⟨o1,o2,o3,o4,o5,o6,o7,o8,o9,o10,o11⟩:=id h1
 simp only at o1 o2 o3 o4 o5 o6 o7 o8 o9 o10 o11 hR0 h4
 obtain⟨m,hm⟩:∃ m,list0.length=m:=⟨_,rfl⟩
 rw[hm]at hR0
 have hb64:=bits_i64
 change Tri Tryz.prog 113 [.ptr 0 p.L 0 0 0,.int .i64 t,.sl 11 F 1 0 f.length,.fn 189 [.ptr 10 LX 0 0 0]] (sqM ⟨p,⟨size0,minus0,since0,now,list0,kind,nst,band,w⟩,L,LS,LC,LX,⟨dk0,dst0,dlo0,dhi0,code,dat0,dvv0,dbe0,den0⟩,F,f,t⟩) (postF fs113D ⟨p,⟨size0,minus0,since0,now,list0,kind,nst,band,w⟩,L,LS,LC,LX,⟨dk0,dst0,dlo0,dhi0,code,dat0,dvv0,dbe0,den0⟩,F,f,t⟩)
 refine tri_evS (hyp (l:=[(162,ent162),(164,ent164),(189,ent189),(167,ent167D)]) (lp:=[]) ⟨e162,e164,e189,e167D,trivial⟩ trivial) Tryz.func113 comp113 (rs:=[.tmp 8]) (by rfl) Tryz.ntmps113 43 ?_
 have he4:(k:Nat)->k<m->esz 4 m=4:=fun k hk=>esz_pos (by omega)
 simp -implicitDefEqProofs only[push_cast,zz,seval,ir113,sqM,stV,deV,deT,ivV,o1,o2,o3,o4,h4,hm]
 intro X
 refine evS_loopU (A:=Nat×StS×DeS) kp113_1 kl113_1 (fun y=>[(25,.int .i64 y.1)])
  (fun y=>[(1,.lent,p.Z,.ints .i64 y.2.1.size),(2,.lent,p.M,.bools y.2.1.minus),(3,.lent,p.I,.ints .i64 y.2.1.since),(4,.lent,p.K,.recs 4 false [] (y.2.1.list.map Bck.rc)),(7,.lent,L,.cells (relabs (fun i=>i+7) (deV LS y.2.2 LC))),(8,.lent,LS,.ints .i64 y.2.2.st)])
  (fun y=>y.1<=m/\slcG getG f t (m-y.1) y.1 y.2.1 y.2.2=R/\simS y.2.1 ⟨size0,minus0,since0,now,list0,kind,nst,band,w⟩/\szWf y.2.1/\deAft ⟨dk0,dst0,dlo0,dhi0,code,dat0,dvv0,dbe0,den0⟩ y.2.2) (fun y=>m-y.1) (0,⟨size0,minus0,since0,now,list0,kind,nst,band,w⟩,⟨dk0,dst0,dlo0,dhi0,code,dat0,dvv0,dbe0,den0⟩) ⟨Nat.zero_le _,hR0.symm,simS.refl _,h2,h3,rfl,rfl,rfl⟩ (Sub.pt ?_) ?_
 ·simp -implicitDefEqProofs only[push_cast,zz,seval,deV,deT,ivV,o1,o2,o3,o4,hm,h4]
 intro ⟨i,s,d⟩ ⟨(hi:i<=m),(hs:slcG getG f t (m-i) i s d=R),(hsim:simS s _),(hz:szWf s),(haft:deAft _ d)⟩ K hK
 have hwf:=hsim.wf h1
 obtain⟨size,minus,since,now',list,kind',nst',band',w'⟩:=s
 obtain⟨rfl,rfl,rfl,rfl,rfl⟩:now'=now/\kind'=kind/\nst'=nst/\band'=band/\w'=w:=⟨hsim.2.2.2.1,hsim.2.2.2.2.2⟩
 have hlm:list.length=m:=by rw[<-hm];exact hsim.2.2.2.2.1.len
 obtain⟨dk,dst,dlo,dhi,code',dat,dvv,dbe,den⟩:=d
 obtain rfl:code=code':=haft.2.2.2.symm
 have hdst:dst.length=12:=haft.2.1.trans h4
 obtain⟨p1,p2,p3,p4,p5,p6,p7,p8,p9,p10,p11⟩:=id hwf
 simp only at p1 p2 p3 p8 p9 p11
 have ho8:m<=50000:=by omega
 by_cases hi':i<m
 ·have hii:(i:Int)<m:=by omega
  have he4':=he4 i hi'
  have rk:=recAt_Bk (l:=list) (i:=i) (by omega) []
  have hmapl:(list.map Bck.rc).length=m:=by rw[List.length_map,hlm]
  have hset0:=(onBk_rc (l:=list) (i:=i) false).symm
  have hsetl:(onBk list i false).length=m:=by rw[onBk_len,hlm]
  have hkat:=onBk_at (l:=list) (i:=i) (by omega) false
  have rk1:=recAt_Bk (l:=onBk list i false) (i:=i) (by omega) []
  have hset1:=fun v=>(onBk_rc (l:=onBk list i false) (i:=i) v).symm.trans (by rw[onBk_on (by omega)])
  have hwf1:=setOn_wf (s:=⟨size,minus,since,now',list,kind',nst',band',w'⟩) (b:=false) (show i<list.length by omega) hwf
  have hbki:=p11 _ (by rw[rdBk_nat (show i<list.length by omega)];exact List.getElem_mem _:rdBk list i∈list)
  simp only[setOn]at hwf1
  obtain⟨⟨L',⟨pl,bw,q⟩,on'⟩,hbk⟩:∃ b,rdBk list i=b:=⟨_,rfl⟩
  rw[hbk]at rk hset0 hkat hbki
  rw[hkat]at rk1 hset1
  simp only at hbki
  obtain⟨l1,hl1⟩:∃ l,onBk list i false=l:=⟨_,rfl⟩
  obtain⟨B,hB⟩:∃ B,bktG getG f t i ⟨size,minus,since,now',list,kind',nst',band',w'⟩ ⟨dk,dst,dlo,dhi,code,dat,dvv,dbe,den⟩=B:=⟨_,rfl⟩
  have hbg:=bktG_get f t i ⟨size,minus,since,now',list,kind',nst',band',w'⟩ ⟨dk,dst,dlo,dhi,code,dat,dvv,dbe,den⟩
  simp only[hbk,hB,setOn,hl1]at hbg
  rw[hl1]at hset0 hsetl rk1 hset1 hwf1
  have hbi:=bktD_inv f t h7 h8 i ⟨size,minus,since,now',list,kind',nst',band',w'⟩ ⟨dk,dst,dlo,dhi,code,dat,dvv,dbe,den⟩ n hwf hz haft.1 hdst (by simp only;omega)
  rw[show m-i=(m-(i+1))+1 by omega,slcG,hB]at hs
  rw[hB]at hbi
  have b4:=hbki.2.2.2
  have hml1:(l1.map Bck.rc).length=m:=by rw[List.length_map,hsetl]
  by_cases hall:allP ⟨size,minus,since,now',list,kind',nst',band',w'⟩ pl=true
  ·have hall':allP ⟨size,minus,since,now',l1,kind',nst',band',w'⟩ pl=true:=hall
   rw[if_pos hall]at hbg
   simp -implicitDefEqProofs only[push_cast,zz,seval,b113_1,stM,stV,deV,deT,ivV,hii,rk,rk1,Bck.rc,hset0,hmapl,hml1,he4',Int.toNat_natCast,fs164,Bck.sv,p1,p2,p3,o4,hsetl,hdst,hwf1,bkWf,hbki,hall']
   intro X1
   repeat refine om_ ?_
   refine evS_loopU (A:=Nat×StS×DeS) kp113_2 kl113_2 (fun y=>[(65,.int .i64 y.1)])
    (fun y=>[(1,.lent,p.Z,.ints .i64 y.2.1.size),(2,.lent,p.M,.bools y.2.1.minus),(3,.lent,p.I,.ints .i64 y.2.1.since),(7,.lent,L,.cells (relabs (fun i=>i+7) (deV LS y.2.2 LC))),(8,.lent,LS,.ints .i64 y.2.2.st)])
    (fun y=>y.1<=pl.length/\plsG getG f t false (pl.drop y.1) y.2.1 y.2.2=B/\sameS y.2.1 ⟨size,minus,since,now',l1,kind',nst',band',w'⟩/\szWf y.2.1/\deAft ⟨dk,dst,dlo,dhi,code,dat,dvv,dbe,den⟩ y.2.2) (fun y=>pl.length-y.1) (0,⟨size,minus,since,now',l1,kind',nst',band',w'⟩,⟨dk,dst,dlo,dhi,code,dat,dvv,dbe,den⟩) ⟨Nat.zero_le _,hbg.symm,sameS.refl _,hz,⟨haft.1,rfl,rfl,rfl⟩⟩ (Sub.pt ?_) ?_
   ·simp -implicitDefEqProofs only[push_cast,zz,seval,deV,deT,ivV,p1,p2,p3,he4',hdst]
   intro ⟨j,s2,d2⟩ ⟨(hj:j<=pl.length),(hp2:plsG getG f t false (pl.drop j) s2 d2=B),(hsame:sameS s2 _),(hz2:szWf s2),(haft2:deAft ⟨dk,dst,dlo,dhi,code,dat,dvv,dbe,den⟩ d2)⟩ K2 hK2
   have hwf2:stWf s2 n:=hsame.wf (by first | exact hwf1 | exact hwf2)
   obtain⟨size2,minus2,since2,now2,list2,kind2,nst2,band2,w2⟩:=s2
   obtain⟨rfl,rfl,rfl,rfl,rfl,rfl⟩:now'=now2/\l1=list2/\kind'=kind2/\nst'=nst2/\band'=band2/\w'=w2:=⟨hsame.2.2.2.1.symm,hsame.2.2.2.2.1.symm,hsame.2.2.2.2.2.1.symm,hsame.2.2.2.2.2.2.1.symm,hsame.2.2.2.2.2.2.2.1.symm,hsame.2.2.2.2.2.2.2.2.symm⟩
   obtain⟨dk2,dst2,dlo2,dhi2,code2,dat2,dvv2,dbe2,den2⟩:=d2
   obtain rfl:code=code2:=haft2.2.2.2.symm
   have hdst2:dst2.length=12:=haft2.2.1.trans hdst
   have q1:size2.length=n:=hwf2.1
   have q2:minus2.length=n:=hwf2.2.1
   have q3:since2.length=n:=hwf2.2.2.1
   by_cases hj':j<pl.length
   ·have hji:(j:Int)<pl.length:=by omega
    have hx:=b4 _ (rd_mem hj')
    have hcons:=plsG_cons getG f t false hj' ⟨size2,minus2,since2,now',l1,kind',nst',band',w'⟩ ⟨dk2,dst2,dlo2,dhi2,code,dat2,dvv2,dbe2,den2⟩
    rw[hp2]at hcons
    obtain⟨x,hxx⟩:∃ x,rd pl (j:Int)=x:=⟨_,rfl⟩
    rw[hxx]at hx hcons
    rw[numG_get]at hcons
    have a1:=numG_same getG ⟨size2,minus2,since2,now',l1,kind',nst',band',w'⟩ ⟨dk2,dst2,dlo2,dhi2,code,dat2,dvv2,dbe2,den2⟩ x t false false false
    have a2:=numG_sz getG ⟨dk2,dst2,dlo2,dhi2,code,dat2,dvv2,dbe2,den2⟩ false false false hz2 hx.1 (by simp only;omega) h7 h8
    have a3:=numD_aft ⟨size2,minus2,since2,now',l1,kind',nst',band',w'⟩ x t false false false haft2.1 hdst2
    have hnuR:∀ w1 w2,ndR ⟨p,⟨size2,minus2,since2,now',l1,kind',nst',band',w'⟩,L,LS,LC,LX,⟨dk2,dst2,dlo2,dhi2,code,dat2,dvv2,dbe2,den2⟩,w1,w2,x,t,false⟩=numG getG ⟨size2,minus2,since2,now',l1,kind',nst',band',w'⟩ ⟨dk2,dst2,dlo2,dhi2,code,dat2,dvv2,dbe2,den2⟩ x t false false false:=fun _ _=>rfl
    have hnu:ndOk ⟨size2,minus2,since2,now',l1,kind',nst',band',w'⟩ ⟨dk2,dst2,dlo2,dhi2,code,dat2,dvv2,dbe2,den2⟩ x t:=⟨by rw[q3];exact hwf2,hz2,haft2.1,hdst2,hx.1,by rw[q3];exact hx.2,h7,h8⟩
    obtain⟨N,hN⟩:∃ N,numG getG ⟨size2,minus2,since2,now',l1,kind',nst',band',w'⟩ ⟨dk2,dst2,dlo2,dhi2,code,dat2,dvv2,dbe2,den2⟩ x t false false false=N:=⟨_,rfl⟩
    rw[hN]at hcons a1 a2 a3
    simp only[hN]at hnuR
    obtain⟨⟨size3,minus3,since3,now3,list3,kind3,nst3,band3,w3⟩,⟨dk3,dst3,dlo3,dhi3,code3,dat3,dvv3,dbe3,den3⟩,er3⟩:=N
    obtain⟨rfl,rfl,rfl,rfl,rfl,rfl⟩:now'=now3/\l1=list3/\kind'=kind3/\nst'=nst3/\band'=band3/\w'=w3:=⟨a1.2.2.2.1.symm,a1.2.2.2.2.1.symm,a1.2.2.2.2.2.1.symm,a1.2.2.2.2.2.2.1.symm,a1.2.2.2.2.2.2.2.1.symm,a1.2.2.2.2.2.2.2.2.symm⟩
    obtain rfl:code=code3:=a3.2.2.2.symm
    have q5:size3.length=n:=a1.1.trans q1
    have q6:minus3.length=n:=a1.2.1.trans q2
    have q7:since3.length=n:=a1.2.2.1.trans q3
    have q8:dst3.length=12:=a3.2.1.trans hdst2
    clear hK
    by_cases her:er3=0
    ·subst her
     rw[if_pos rfl]at hcons
     simp -implicitDefEqProofs only[push_cast,zz,seval,b113_2,stM,stV,deV,deT,ivV,hji,hxx,fs162,fs167D,ndM,rk1,Bck.rc,hml1,q1,q2,q3,q5,q6,q7,q8,p1,p2,p3,o4,hsetl,he4',hdst,hdst2,Int.toNat_natCast,hnu,hnuR]
     repeat refine om_ ?_
     intro X2
     repeat refine om_ ?_
     intro X3
     repeat refine om_ ?_
     refine hK2 (j+1,⟨size3,minus3,since3,now',l1,kind',nst',band',w'⟩,⟨dk3,dst3,dlo3,dhi3,code,dat3,dvv3,dbe3,den3⟩) ⟨show j+1<=pl.length by omega,hcons.symm,a1.trans hsame,a2,haft2.trans a3⟩ (show pl.length-(j+1)<pl.length-j by omega) _ _ (Sub.pt ?_)
     simp -implicitDefEqProofs only[push_cast,zz,seval,deV,deT,ivV,q1,q2,q3,q5,q6,q7,q8,he4',hdst]
    ·rw[if_neg her]at hcons
     subst hcons
     rw[if_neg her]at hs
     subst hs
     clear hK2
     simp -implicitDefEqProofs only[push_cast,zz,seval,b113_2,stM,stV,deV,deT,ivV,hji,hxx,fs162,fs167D,ndM,rk1,Bck.rc,hml1,q1,q2,q3,q5,q6,q7,q8,p1,p2,p3,o4,hsetl,he4',hdst,hdst2,Int.toNat_natCast,hnu,hnuR,her]
     repeat refine om_ ?_
     intro X2
     repeat refine om_ ?_
     intro X3
     repeat refine om_ ?_
     refine postF.mk' (fun _=>default) [some 0,some 1,some 2,some 3,some 4,none,some 6,some 7,some 8,some 9,some 10,some 11] ?_
     simp -implicitDefEqProofs only[push_cast,zz,seval,fs113D,sqM,stV,deV,deT,ivV,hR,q1,q2,q3,q5,q6,q7,q8,o1,o2,o3,o4,hm,hlm,hsetl,he4',h4]
   ·obtain rfl:j=pl.length:=by omega
    rw[List.drop_length,plsG]at hp2
    subst hp2
    simp only at hbi
    rw[if_pos rfl]at hs
    clear hK2
    simp -implicitDefEqProofs only[push_cast,zz,seval,b113_2,r113_3,Int.lt_irrefl]
    repeat refine om_ ?_
    refine hK (i+1,⟨size2,minus2,since2,now',l1,kind',nst',band',w'⟩,⟨dk2,dst2,dlo2,dhi2,code,dat2,dvv2,dbe2,den2⟩) ⟨show i+1<=m by omega,hs,hbi.1.trans hsim,hbi.2.1,haft.trans hbi.2.2⟩ (show m-(i+1)<m-i by omega) _ _ (Sub.pt ?_)
    simp -implicitDefEqProofs only[push_cast,zz,seval,deV,deT,ivV,q1,q2,q3,p1,p2,p3,he4',hdst,hdst2]
  ·have hall':¬ allP ⟨size,minus,since,now',l1,kind',nst',band',w'⟩ pl=true:=hall
   rw[if_neg hall]at hbg
   have hcb:=bctxP_bd ⟨size,minus,since,now',l1,kind',nst',band',w'⟩ ⟨pl,bw,q⟩
   obtain⟨c,hcc⟩:∃ c,bctxP ⟨size,minus,since,now',l1,kind',nst',band',w'⟩ ⟨pl,bw,q⟩=c:=⟨_,rfl⟩
   rw[hcc]at hbg hcb
   have hgot:=gotAft haft.1 hdst hcb
   obtain⟨d1,hd1⟩:∃ d1,gotS ⟨dk,dst,dlo,dhi,code,dat,dvv,dbe,den⟩ c=d1:=⟨_,rfl⟩
   rw[hd1]at hbg hgot
   have hok:DeS.ok ⟨dk,dst,dlo,dhi,code,dat,dvv,dbe,den⟩:=haft.1
   obtain⟨dk1,dst1,dlo1,dhi1,code1,dat1,dvv1,dbe1,den1⟩:=d1
   obtain rfl:code=code1:=hgot.2.2.2.symm
   have hdst1:dst1.length=12:=hgot.2.1.trans hdst
   by_cases hge:gotE ⟨dk,dst,dlo,dhi,code,dat,dvv,dbe,den⟩ c=0
   ·rw[if_pos hge]at hbg
    obtain⟨V,hV⟩:∃ V,decide (gotB ⟨dk,dst,dlo,dhi,code,dat,dvv,dbe,den⟩ c=1)=V:=⟨_,rfl⟩
    rw[hV]at hbg
    obtain⟨l2,hl2⟩:∃ l,onBk list i V=l:=⟨_,rfl⟩
    have hset1:=hset1 V
    rw[hl2]at hset1 hbg
    have hsetl2:l2.length=m:=by rw[<-hl2,onBk_len,hlm]
    have hml2:(l2.map Bck.rc).length=m:=by rw[List.length_map,hsetl2]
    have hkat2:rdBk l2 i=⟨L',⟨pl,bw,q⟩,V⟩:=by
     rw[<-hl2,onBk_at (by omega),hbk]
    have rk2:=recAt_Bk (l:=l2) (i:=i) (by omega) []
    rw[hkat2]at rk2
    have hwf2:=setOn_wf (s:=⟨size,minus,since,now',list,kind',nst',band',w'⟩) (b:=V) (show i<list.length by omega) hwf
    simp only[setOn,hl2]at hwf2
    simp -implicitDefEqProofs only[push_cast,zz,seval,b113_1,stM,stV,deV,deT,ivV,hii,rk,rk1,Bck.rc,hset0,hmapl,hml1,he4',Int.toNat_natCast,fs164,Bck.sv,p1,p2,p3,o4,hsetl,hdst,hwf1,bkWf,hbki,hall',fs189,hcc,hd1,hge,hV,hok,hset1,hdst1,rk2,hml2]
    intro X1
    repeat refine om_ ?_
    refine evS_loopU (A:=Nat×StS×DeS) kp113_2 kl113_2 (fun y=>[(65,.int .i64 y.1)])
     (fun y=>[(1,.lent,p.Z,.ints .i64 y.2.1.size),(2,.lent,p.M,.bools y.2.1.minus),(3,.lent,p.I,.ints .i64 y.2.1.since),(7,.lent,L,.cells (relabs (fun i=>i+7) (deV LS y.2.2 LC))),(8,.lent,LS,.ints .i64 y.2.2.st)])
     (fun y=>y.1<=pl.length/\plsG getG f t V (pl.drop y.1) y.2.1 y.2.2=B/\sameS y.2.1 ⟨size,minus,since,now',l2,kind',nst',band',w'⟩/\szWf y.2.1/\deAft ⟨dk,dst,dlo,dhi,code,dat,dvv,dbe,den⟩ y.2.2) (fun y=>pl.length-y.1) (0,⟨size,minus,since,now',l2,kind',nst',band',w'⟩,⟨dk1,dst1,dlo1,dhi1,code,dat1,dvv1,dbe1,den1⟩) ⟨Nat.zero_le _,hbg.symm,sameS.refl _,hz,hgot⟩ (Sub.pt ?_) ?_
    ·simp -implicitDefEqProofs only[push_cast,zz,seval,deV,deT,ivV,p1,p2,p3,he4',hdst,hdst1]
    intro ⟨j,s2,d2⟩ ⟨(hj:j<=pl.length),(hp2:plsG getG f t V (pl.drop j) s2 d2=B),(hsame:sameS s2 _),(hz2:szWf s2),(haft2:deAft ⟨dk,dst,dlo,dhi,code,dat,dvv,dbe,den⟩ d2)⟩ K2 hK2
    have hwf2:stWf s2 n:=hsame.wf (by first | exact hwf1 | exact hwf2)
    obtain⟨size2,minus2,since2,now2,list2,kind2,nst2,band2,w2⟩:=s2
    obtain⟨rfl,rfl,rfl,rfl,rfl,rfl⟩:now'=now2/\l2=list2/\kind'=kind2/\nst'=nst2/\band'=band2/\w'=w2:=⟨hsame.2.2.2.1.symm,hsame.2.2.2.2.1.symm,hsame.2.2.2.2.2.1.symm,hsame.2.2.2.2.2.2.1.symm,hsame.2.2.2.2.2.2.2.1.symm,hsame.2.2.2.2.2.2.2.2.symm⟩
    obtain⟨dk2,dst2,dlo2,dhi2,code2,dat2,dvv2,dbe2,den2⟩:=d2
    obtain rfl:code=code2:=haft2.2.2.2.symm
    have hdst2:dst2.length=12:=haft2.2.1.trans hdst
    have q1:size2.length=n:=hwf2.1
    have q2:minus2.length=n:=hwf2.2.1
    have q3:since2.length=n:=hwf2.2.2.1
    by_cases hj':j<pl.length
    ·have hji:(j:Int)<pl.length:=by omega
     have hx:=b4 _ (rd_mem hj')
     have hcons:=plsG_cons getG f t V hj' ⟨size2,minus2,since2,now',l2,kind',nst',band',w'⟩ ⟨dk2,dst2,dlo2,dhi2,code,dat2,dvv2,dbe2,den2⟩
     rw[hp2]at hcons
     obtain⟨x,hxx⟩:∃ x,rd pl (j:Int)=x:=⟨_,rfl⟩
     rw[hxx]at hx hcons
     rw[numG_get]at hcons
     have a1:=numG_same getG ⟨size2,minus2,since2,now',l2,kind',nst',band',w'⟩ ⟨dk2,dst2,dlo2,dhi2,code,dat2,dvv2,dbe2,den2⟩ x t V false false
     have a2:=numG_sz getG ⟨dk2,dst2,dlo2,dhi2,code,dat2,dvv2,dbe2,den2⟩ V false false hz2 hx.1 (by simp only;omega) h7 h8
     have a3:=numD_aft ⟨size2,minus2,since2,now',l2,kind',nst',band',w'⟩ x t V false false haft2.1 hdst2
     have hnuR:∀ w1 w2,ndR ⟨p,⟨size2,minus2,since2,now',l2,kind',nst',band',w'⟩,L,LS,LC,LX,⟨dk2,dst2,dlo2,dhi2,code,dat2,dvv2,dbe2,den2⟩,w1,w2,x,t,V⟩=numG getG ⟨size2,minus2,since2,now',l2,kind',nst',band',w'⟩ ⟨dk2,dst2,dlo2,dhi2,code,dat2,dvv2,dbe2,den2⟩ x t V false false:=fun _ _=>rfl
     have hnu:ndOk ⟨size2,minus2,since2,now',l2,kind',nst',band',w'⟩ ⟨dk2,dst2,dlo2,dhi2,code,dat2,dvv2,dbe2,den2⟩ x t:=⟨by rw[q3];exact hwf2,hz2,haft2.1,hdst2,hx.1,by rw[q3];exact hx.2,h7,h8⟩
     obtain⟨N,hN⟩:∃ N,numG getG ⟨size2,minus2,since2,now',l2,kind',nst',band',w'⟩ ⟨dk2,dst2,dlo2,dhi2,code,dat2,dvv2,dbe2,den2⟩ x t V false false=N:=⟨_,rfl⟩
     rw[hN]at hcons a1 a2 a3
     simp only[hN]at hnuR
     obtain⟨⟨size3,minus3,since3,now3,list3,kind3,nst3,band3,w3⟩,⟨dk3,dst3,dlo3,dhi3,code3,dat3,dvv3,dbe3,den3⟩,er3⟩:=N
     obtain⟨rfl,rfl,rfl,rfl,rfl,rfl⟩:now'=now3/\l2=list3/\kind'=kind3/\nst'=nst3/\band'=band3/\w'=w3:=⟨a1.2.2.2.1.symm,a1.2.2.2.2.1.symm,a1.2.2.2.2.2.1.symm,a1.2.2.2.2.2.2.1.symm,a1.2.2.2.2.2.2.2.1.symm,a1.2.2.2.2.2.2.2.2.symm⟩
     obtain rfl:code=code3:=a3.2.2.2.symm
     have q5:size3.length=n:=a1.1.trans q1
     have q6:minus3.length=n:=a1.2.1.trans q2
     have q7:since3.length=n:=a1.2.2.1.trans q3
     have q8:dst3.length=12:=a3.2.1.trans hdst2
     clear hK
     by_cases her:er3=0
     ·subst her
      rw[if_pos rfl]at hcons
      simp -implicitDefEqProofs only[push_cast,zz,seval,b113_2,stM,stV,deV,deT,ivV,hji,hxx,fs162,fs167D,ndM,rk2,Bck.rc,hml2,q1,q2,q3,q5,q6,q7,q8,p1,p2,p3,o4,hsetl2,he4',hdst,hdst2,Int.toNat_natCast,hnu,hnuR]
      repeat refine om_ ?_
      intro X2
      repeat refine om_ ?_
      intro X3
      repeat refine om_ ?_
      refine hK2 (j+1,⟨size3,minus3,since3,now',l2,kind',nst',band',w'⟩,⟨dk3,dst3,dlo3,dhi3,code,dat3,dvv3,dbe3,den3⟩) ⟨show j+1<=pl.length by omega,hcons.symm,a1.trans hsame,a2,haft2.trans a3⟩ (show pl.length-(j+1)<pl.length-j by omega) _ _ (Sub.pt ?_)
      simp -implicitDefEqProofs only[push_cast,zz,seval,deV,deT,ivV,q1,q2,q3,q5,q6,q7,q8,he4',hdst]
     ·rw[if_neg her]at hcons
      subst hcons
      rw[if_neg her]at hs
      subst hs
      clear hK2
      simp -implicitDefEqProofs only[push_cast,zz,seval,b113_2,stM,stV,deV,deT,ivV,hji,hxx,fs162,fs167D,ndM,rk2,Bck.rc,hml2,q1,q2,q3,q5,q6,q7,q8,p1,p2,p3,o4,hsetl2,he4',hdst,hdst2,Int.toNat_natCast,hnu,hnuR,her]
      repeat refine om_ ?_
      intro X2
      repeat refine om_ ?_
      intro X3
      repeat refine om_ ?_
      refine postF.mk' (fun _=>default) [some 0,some 1,some 2,some 3,some 4,none,some 6,some 7,some 8,some 9,some 10,some 11] ?_
      simp -implicitDefEqProofs only[push_cast,zz,seval,fs113D,sqM,stV,deV,deT,ivV,hR,q1,q2,q3,q5,q6,q7,q8,o1,o2,o3,o4,hm,hlm,hsetl2,he4',h4]
    ·obtain rfl:j=pl.length:=by omega
     rw[List.drop_length,plsG]at hp2
     subst hp2
     simp only at hbi
     rw[if_pos rfl]at hs
     clear hK2
     simp -implicitDefEqProofs only[push_cast,zz,seval,b113_2,r113_3,Int.lt_irrefl]
     repeat refine om_ ?_
     refine hK (i+1,⟨size2,minus2,since2,now',l2,kind',nst',band',w'⟩,⟨dk2,dst2,dlo2,dhi2,code,dat2,dvv2,dbe2,den2⟩) ⟨show i+1<=m by omega,hs,hbi.1.trans hsim,hbi.2.1,haft.trans hbi.2.2⟩ (show m-(i+1)<m-i by omega) _ _ (Sub.pt ?_)
     simp -implicitDefEqProofs only[push_cast,zz,seval,deV,deT,ivV,q1,q2,q3,p1,p2,p3,he4',hdst,hdst2]
   ·rw[if_neg hge]at hbg
    subst hbg
    rw[if_neg hge]at hs
    subst hs
    clear hK
    simp -implicitDefEqProofs only[push_cast,zz,seval,b113_1,stM,stV,deV,deT,ivV,hii,rk,rk1,Bck.rc,hset0,hmapl,hml1,he4',Int.toNat_natCast,fs164,Bck.sv,p1,p2,p3,o4,hsetl,hdst,hwf1,bkWf,hbki,hall',fs189,hcc,hd1,hge,hok,hdst1]
    intro X1
    repeat refine om_ ?_
    refine postF.mk' (fun _=>default) [some 0,some 1,some 2,some 3,some 4,none,some 6,some 7,some 8,some 9,some 10,some 11] ?_
    simp -implicitDefEqProofs only[push_cast,zz,seval,fs113D,sqM,stV,deV,deT,ivV,hR,p1,p2,p3,o1,o2,o3,o4,hm,hlm,hsetl,he4',h4,hdst1]
 ·obtain rfl:i=m:=by omega
  have hii:¬ (i:Int)<i:=by omega
  rw[Nat.sub_self,slcG]at hs
  subst hs
  have ho6:now'<=1000:=o7
  clear hK
  simp -implicitDefEqProofs only[push_cast,zz,seval,b113_1,r113_4,Int.lt_irrefl,deV,deT,ivV]
  repeat refine om_ ?_
  refine postF.mk' (fun _=>default) [some 0,some 1,some 2,some 3,some 4,none,some 6,some 7,some 8,some 9,some 10,some 11] ?_
  simp -implicitDefEqProofs only[push_cast,zz,seval,fs113D,sqM,stV,deV,deT,ivV,hR,p1,p2,p3,o1,o2,o3,o4,hm,hlm,h4,hdst]
def ent113D:Entry:=spOf fs113D invSq
theorem e113D:EntryOk Tryz.prog 113 ent113D:=entry_of ok113D invSq
@[push_cast] theorem ent113D_a u l x k:ent113D u l x k=spOf fs113D invSq u l x k:=rfl
def b111_3:IR:=
 .seq (r_ [b_ 65 .lss 64 63] []) (.seq (.cond (.t 65) (.skip) (.exit 4)) (.seq (.block 5 (.seq (r_ [m_ 66 64,m_ 16 66] [65,66]) (R_ [m_ 67 10,n_ 68 67,f_ 69 68 7,l_ 70 69,f_ 71 14 3,l_ 72 71,m_ 73 15,b_ 74 .add 72 73,m_ 75 0,b_ 76 .mul 74 75,f_ 77 14 2,l_ 78 77,b_ 79 .add 76 78,m_ 80 16,b_ 81 .add 79 80,m_ 82 13,i_ 83 70 81 1,S_ 1 .i64 83 82] [16,67,68,69,70,71,72,73,74,75,76,77,78,79,80,81,82,83]))) (r_ [a_ 84 64 1,m_ 64 84] [84])))
def r111_4:IR:=
 r_ [a_ 85 59 1,m_ 59 85] [15,63,64,85]
def b111_2:IR:=
 .seq (r_ [b_ 60 .lss 59 58] []) (.seq (.cond (.t 60) (.skip) (.exit 2)) (.seq (.block 3 (.seq (r_ [m_ 61 59,m_ 15 61] [60,61]) (.seq (r_ [f_ 62 14 4,l_ 63 62,z_ 64 0] [62]) (.block 4 (.loop b111_3))))) (r111_4)))
def r111_5:IR:=
 r_ [a_ 86 52 1,m_ 52 86] [13,14,58,59,86]
def b111_1:IR:=
 .seq (r_ [b_ 53 .lss 52 51] []) (.seq (.cond (.t 53) (.skip) (.exit 0)) (.seq (.block 1 (.seq (r_ [m_ 54 52,i_ 55 50 52 6,o_ 56 (.ld true (some 6) 0 0 (.t 55)),o_ 14 (.alloc 27 [y_,y_,y_,y_,y_,y_]),m_ 13 54,s_ 6 .i64 14 56] [53,54,55,56]) (.seq (r_ [f_ 57 14 5,l_ 58 57,z_ 59 0] [57]) (.block 2 (.loop b111_2))))) (r111_5)))
def r111_6:IR:=
 .seq (r_ [m_ 87 10,m_ 8 87] [0,10,50,51,52,87]) (.ret)
def ir111:IR:=
 .seq (r_ [o_ 8 (.mov (.k nilP))] [8]) (.seq (r_ [m_ 17 0,m_ 18 1,b_ 19 .mul 17 18,m_ 9 19] [17,18,19]) (.seq (R_ [m_ 20 9,o_ 21 (.mks 10 (.int .i64 0) 8 (.t 20) (.t 20)),m_ 22 9,o_ 23 (.mks 11 (.bool false) 1 (.t 22) (.t 22)),m_ 24 9,o_ 25 (.mks 12 (.int .i64 0) 8 (.t 24) (.t 24)),m_ 26 0,m_ 27 1,m_ 28 2,⟨some 29,none,⟨[10,11,12,17],[]⟩,.call (some 4) 13 157 [.t 26,.t 27,.t 28]⟩,m_ 30 9,o_ 31 (.mks 17 (.int .i64 0) 8 (.t 30) (.t 30)),m_ 32 0,o_ 33 (.build [nilSV,nilSV,nilSV,y_,nilSV,y_,nilSV,nilSV,y_] [(0,1,.t 21),(1,1,.t 23),(2,1,.t 25),(4,1,.t 29),(7,1,.t 31),(8,1,.t 32)]),o_ 34 (.box 18 (.t 33)),m_ 10 34] [9,20,21,22,23,24,25,26,27,28,29,30,31,32,33,34]) (.seq (r_ [m_ 36 10,m_ 37 3,o_ 38 (.call (some 4) 19 158 [.t 37,Z_ 12]),m_ 35 38,e_ 39 35 0,e_ 40 35 1,n_ 41 36,f_ 42 41 5,s_ 2 .i64 42 39] [3,35,36,37,38,39,40,41,42]) (.seq (r_ [m_ 44 0,m_ 45 1,m_ 46 2,o_ 47 (.call (some 4) 23 159 [.t 44,.t 45,.t 46]),m_ 43 47,e_ 48 43 0,e_ 49 43 1,m_ 11 48,m_ 12 49] [1,2,12,43,44,45,46,47,48,49]) (.seq (.seq (r_ [m_ 50 11,h_ 51 50,z_ 52 0] [11]) (.block 0 (.loop b111_1))) (r111_6))))))
def kp111_3:List Nat:=[0,10,13,14,15,50,51,52,58,59,63,64]
def kl111_3:List Nat:=[]
attribute [push_cast] kp111_3 kl111_3
def kp111_2:List Nat:=[0,10,13,14,50,51,52,58,59]
def kl111_2:List Nat:=[]
attribute [push_cast] kp111_2 kl111_2
def kp111_1:List Nat:=[0,10,50,51,52]
def kl111_1:List Nat:=[27]
attribute [push_cast] kp111_1 kl111_1
set_option maxRecDepth 4000 in
theorem comp111:(Tryz.f111.body.bind fun c=>compC tab isP chkAll ir111 c)=some ir111:=by kernel_rfl
def bset (W:Int) (b:Bd) (i:Int) (y:Nat) (B:List Int) (x:Nat):List Int:=B.set ((b.y+y)*W+b.x+x).toNat i
def brow (W:Int) (b:Bd) (i:Int) (B:List Int) (y:Nat) (k:Nat):List Int:=(List.range k).foldl (bset W b i y) B
def ball (W:Int) (b:Bd) (i:Int) (B:List Int) (m:Nat):List Int:=(List.range m).foldl (fun B y=>brow W b i B y b.w.toNat) B
def bfold (W:Int) (l:List Bd) (n:Nat):Nat->List Int
 | 0=>List.replicate n 0
 | i+1=>ball W (rdBd l i) i (bfold W l n i) (rdBd l i).h.toNat
theorem brow_succ (W:Int) (b:Bd) (i:Int) (B:List Int) (y k:Nat):brow W b i B y (k+1)=(brow W b i B y k).set ((b.y+y)*W+b.x+k).toNat i:=by
 unfold brow;rw[List.range_succ,List.foldl_append];rfl
theorem ball_succ (W:Int) (b:Bd) (i:Int) (B:List Int) (m:Nat):ball W b i B (m+1)=brow W b i (ball W b i B m) m b.w.toNat:=by
 unfold ball;rw[List.range_succ,List.foldl_append];rfl
theorem brow_len (W:Int) (b:Bd) (i:Int) (B:List Int) (y:Nat):∀ k,(brow W b i B y k).length=B.length
 | 0=>rfl
 | k+1=>by rw[brow_succ,List.length_set,brow_len W b i B y k]
theorem ball_len (W:Int) (b:Bd) (i:Int) (B:List Int):∀ m,(ball W b i B m).length=B.length
 | 0=>rfl
 | m+1=>by rw[ball_succ,brow_len,ball_len W b i B m]
theorem bfold_len (W:Int) (l:List Bd) (n:Nat):∀ i,(bfold W l n i).length=n
 | 0=>by simp[bfold]
 | i+1=>by rw[bfold,ball_len,bfold_len W l n i]
def bandL (w h n:Int):List Int:=bfold w (bnL w h n) (w*h).toNat (bnL w h n).length
structure BgA where
 w:Int
 h:Int
 n:Int
 kind:Int
def st0 (a:BgA) (f:Nat->Xf.Loc):StS:=⟨List.replicate (a.w*a.h).toNat 0,List.replicate (a.w*a.h).toNat false,List.replicate (a.w*a.h).toNat 0,0,bkOf f (bkts a.w a.h a.n),a.kind,12,bandL a.w a.h a.n,a.w⟩
theorem bandL_len (w h n:Int):(bandL w h n).length=(w*h).toNat:=bfold_len _ _ _ _
def fs111:FS where
 A:=BgA
 args:=fun a=>[.int .i64 a.w,.int .i64 a.h,.int .i64 a.n,.int .i64 a.kind]
 pre:=fun a=>bnOk a.w a.h a.n/\a.w*a.h<=8192/\(a.kind=0∨a.kind=1)
 res:=fun a x=>.ptr 6 (x 6) 0 0 0
 new:=fun a x=>[(x 0,.ints .i64 (List.replicate (a.w*a.h).toNat 0)),(x 1,.bools (List.replicate (a.w*a.h).toNat false)),(x 2,.ints .i64 (List.replicate (a.w*a.h).toNat 0)),(x 3,.recs 4 true [] ((bkOf (fun i=>x (i+7)) (bkts a.w a.h a.n)).map Bck.rc)),(x 4,.ints .i64 (List.replicate 12 0)),(x 5,.ints .i64 (bandL a.w a.h a.n)),
  (x 6,.cells (relabs (fun i=>i-1) (stV ⟨x 6,x 0,x 1,x 2,x 3,x 4,x 5⟩ (st0 a fun i=>x (i+7)))))]
def inv111:List SV->Look->Option (BgA×List Nat)
 | [.int .i64 w,.int .i64 h,.int .i64 n,.int .i64 k],look=>some (⟨w,h,n,k⟩,[])
 | _,_=>none
attribute [push_cast] inv111
theorem bkOf_len (f:Nat->Xf.Loc) (l:List Pb):(bkOf f l).length=l.length:=by unfold bkOf;simp
set_option maxHeartbeats 1000000 in
theorem ok111:FSOk Tryz.prog 111 fs111:=by
 refine hd_ (fk_ Tryz.func111) fun a hp=>?_
 obtain⟨w,h,n,kind⟩:=a
 obtain⟨hb,hwh,hk⟩:bnOk w h n/\w*h<=8192/\(kind=0∨kind=1):=hp
 obtain⟨q1,q2,q3,q4,q5,q6⟩:=id hb
 have hwh0:0<=w*h:=Int.mul_nonneg q3 q5
 change Tri Tryz.prog 111 [.int .i64 w,.int .i64 h,.int .i64 n,.int .i64 kind] [] (postF fs111 ⟨w,h,n,kind⟩)
 have hin:∀ i:Nat,i<(bnL w h n).length->0<=(rdBd (bnL w h n) i).x/\0<=(rdBd (bnL w h n) i).y/\1<=(rdBd (bnL w h n) i).w/\1<=(rdBd (bnL w h n) i).h/\(rdBd (bnL w h n) i).x+(rdBd (bnL w h n) i).w<=w/\(rdBd (bnL w h n) i).y+(rdBd (bnL w h n) i).h<=h/\-1000<=(rdBd (bnL w h n) i).lv/\(rdBd (bnL w h n) i).lv<=1000:=fun i hi=>bnL_in hb (rdBd_mem hi)
 have hl19:=bnL_le w h n
 have r1:∀ i:Nat,i<(bnL w h n).length->recAt (i:Int) [] (bnZ w h n)=(rdBd (bnL w h n) i).rc:=fun i hi=>recAt_Bd (by omega) (by omega) [] _
 have hzl:(bnL w h n).length<=(bnZ w h n).length:=by unfold bnZ;rw[List.length_append,List.length_map];omega
 have hbl:bandL w h n=bfold w (bnL w h n) (w*h).toNat (bnL w h n).length:=rfl
 have hst:∀ f,st0 ⟨w,h,n,kind⟩ f=⟨List.replicate (w*h).toNat 0,List.replicate (w*h).toNat false,List.replicate (w*h).toNat 0,0,bkOf f (bkts w h n),kind,12,bandL w h n,w⟩:=fun f=>rfl
 obtain⟨N,hN⟩:∃ N:Nat,w*h=(N:Int):=⟨(w*h).toNat,by omega⟩
 rw[hN,Int.toNat_natCast]at hbl hst
 obtain⟨BK,hBK⟩:∃ B,bkts w h n=B:=⟨_,rfl⟩
 obtain⟨BL,hBL⟩:∃ B,bandL w h n=B:=⟨_,rfl⟩
 rw[hBK]at hst
 rw[hBL]at hbl
 simp only[hBL]at hst
 have hBLl:BL.length=N:=by rw[hbl,bfold_len]
 have hBKl:=fun f=>bkOf_len f BK
 have hBK5:BK.length<=50000:=by
  rw[<-hBK]
  have:=(bkFold_len w (l:=bnL w h n) (fun b hb'=>by
   obtain⟨i,hi,rfl⟩:=List.mem_iff_getElem.1 hb'
   have:=hin i hi
   rw[rdBd_nat hi]at this
   unfold Bd.ok
   omega) (bnL w h n).length (Nat.le_refl _)).1
  rw[List.take_length]at this
  unfold bkts
  omega
 obtain⟨B,hB⟩:∃ B,bnL w h n=B:=⟨_,rfl⟩
 obtain⟨Z,hZ⟩:∃ Z,bnZ w h n=Z:=⟨_,rfl⟩
 rw[hB]at hin hl19 r1 hzl hbl
 rw[hZ]at r1 hzl
 have h12:(12:Int).toNat=12:=rfl
 refine tri_evS (hyp (l:=[(157,ent157),(158,ent158),(159,ent159)]) (lp:=[]) ⟨e157,e158,e159,trivial⟩ trivial) Tryz.func111 comp111 (rs:=[.tmp 8]) (by rfl) Tryz.ntmps111 28 ?_
 simp -implicitDefEqProofs only[push_cast,zz,seval,ir111,fs159,fs157,fs158,hb,hB,hZ,lx,hN,hBK,hk,h12]
 repeat refine om_ ?_
 intro X
 repeat refine om_ ?_
 intro X1
 repeat refine om_ ?_
 intro X2
 rw[hN]at hwh
 have hrep:(List.replicate N (0:Int)).length=N:=List.length_replicate
 refine evS_loopU (A:=Nat) kp111_1 kl111_1 (fun i=>[(52,.int .i64 i)]) (fun i=>[(17,.mine,X 11 17,.ints .i64 (bfold w B N i))]) (fun i=>i<=B.length) (fun i=>B.length-i) 0 (Nat.zero_le _) (Sub.pt ?_) ?_
 ·simp -implicitDefEqProofs only[push_cast,zz,seval,bfold,Int.toNat_natCast]
 intro i hi K hK
 have hi:i<=B.length:=hi
 by_cases hi':i<B.length
 ·obtain⟨b1,b2,b3,b4,b5,b6,b7,b8⟩:=hin i hi'
  have rr:=r1 i hi'
  have hii:(i:Int)<B.length:=by omega
  have hstep:bfold w B N (i+1)=ball w (rdBd B i) i (bfold w B N i) (rdBd B i).h.toNat:=rfl
  have hfl:=bfold_len w B N i
  obtain⟨b,hb'⟩:∃ b,rdBd B i=b:=⟨_,rfl⟩
  rw[hb']at b1 b2 b3 b4 b5 b6 rr hstep
  obtain⟨FF,hFF⟩:∃ F,bfold w B N i=F:=⟨_,rfl⟩
  rw[hFF]at hfl hstep
  obtain⟨lv,kd,bx,by',bw,bh⟩:=b
  simp only at b1 b2 b3 b4 b5 b6 hstep
  obtain⟨C,hC⟩:∃ C:Nat,bw=(C:Int):=⟨bw.toNat,by omega⟩
  obtain⟨R,hR⟩:∃ C:Nat,bh=(C:Int):=⟨bh.toNat,by omega⟩
  subst hC hR
  simp only[Int.toNat_natCast]at hstep
  simp -implicitDefEqProofs only[push_cast,zz,seval,b111_1,rr,Bd.rc,hii,hFF]
  intro X3
  repeat refine om_ ?_
  obtain⟨b,hbb⟩:∃ b:Bd,b=⟨lv,kd,bx,by',C,R⟩:=⟨_,rfl⟩
  rw[<-hbb]at hstep
  have hbl':=fun m=>ball_len w b i FF m
  rw[hfl]at hbl'
  refine evS_loopU (A:=Nat) kp111_2 kl111_2 (fun y=>[(59,.int .i64 y)]) (fun y=>[(17,.mine,X 11 17,.ints .i64 (ball w b i FF y))]) (fun y=>y<=R) (fun y=>R-y) 0 (Nat.zero_le _) (Sub.pt ?_) ?_
  ·have e0:ball w b i FF 0=FF:=rfl
   simp -implicitDefEqProofs only[push_cast,zz,seval,e0]
  intro y hy K2 hK2
  have hy:y<=R:=hy
  by_cases hy':y<R
  ·have hyi:(y:Int)<R:=by omega
   have hs2:=ball_succ w b i FF y
   rw[show b.w.toNat=C by rw[hbb];rfl]at hs2
   have hl2:=hbl' y
   obtain⟨GG,hGG⟩:∃ F,ball w b i FF y=F:=⟨_,rfl⟩
   rw[hGG]at hs2 hl2
   have hrl:=fun k=>brow_len w b i GG y k
   rw[hl2]at hrl
   clear hK
   simp -implicitDefEqProofs only[push_cast,zz,seval,b111_2,hyi,hGG]
   refine evS_loopU (A:=Nat) kp111_3 kl111_3 (fun x=>[(64,.int .i64 x)]) (fun x=>[(17,.mine,X 11 17,.ints .i64 (brow w b i GG y x))]) (fun x=>x<=C) (fun x=>C-x) 0 (Nat.zero_le _) (Sub.pt ?_) ?_
   ·have e0:brow w b i GG y 0=GG:=rfl
    simp -implicitDefEqProofs only[push_cast,zz,seval,e0]
   intro x hx K3 hK3
   have hx:x<=C:=hx
   by_cases hx':x<C
   ·have hxi:(x:Int)<C:=by omega
    have hs3:=brow_succ w b i GG y x
    have hl3:=hrl x
    have hby:b.y=by':=by rw[hbb]
    have hbx:b.x=bx:=by rw[hbb]
    rw[hby,hbx]at hs3
    clear hK2
    have hmul:0<=(by'+y)*w/\(by'+(y:Int))*w+w<=N:=by
     have h1:=Int.mul_nonneg (show 0<=by'+(y:Int) by omega) q3
     have h2:=Int.mul_le_mul_of_nonneg_right (show by'+(y:Int)+1<=h by omega) q3
     rw[Int.add_mul,Int.one_mul,Int.mul_comm h w,hN]at h2
     exact⟨h1,h2⟩
    obtain⟨M,hM⟩:∃ M,(by'+(y:Int))*w=M:=⟨_,rfl⟩
    rw[hM]at hmul hs3
    obtain⟨HH,hHH⟩:∃ F,brow w b i GG y x=F:=⟨_,rfl⟩
    rw[hHH]at hs3 hl3
    simp -implicitDefEqProofs only[push_cast,zz,seval,b111_3,hxi,hM,hHH]
    repeat refine om_ ?_
    refine hK3 (x+1) (show x+1<=C by omega) (show C-(x+1)<C-x by omega) _ _ (Sub.pt ?_)
    simp -implicitDefEqProofs only[push_cast,zz,seval,hs3]
   ·have hxi:¬ (x:Int)<C:=by omega
    have hxC:x=C:=by omega
    rw[hxC,<-hs2]at *
    clear hK3
    simp -implicitDefEqProofs only[push_cast,zz,seval,b111_3,Int.lt_irrefl,r111_4]
    repeat refine om_ ?_
    refine hK2 (y+1) (show y+1<=R by omega) (show R-(y+1)<R-y by omega) _ _ (Sub.pt ?_)
    simp -implicitDefEqProofs only[push_cast,zz,seval]
  ·have hyR:y=R:=by omega
   subst hyR
   rw[<-hstep]at *
   clear hK2
   simp -implicitDefEqProofs only[push_cast,zz,seval,b111_2,Int.lt_irrefl,r111_5]
   repeat refine om_ ?_
   refine hK (i+1) (show i+1<=B.length by omega) (show B.length-(i+1)<B.length-i by omega) _ _ (Sub.pt ?_)
   simp -implicitDefEqProofs only[push_cast,zz,seval]
 ·have hiB:i=B.length:=by omega
  subst hiB
  clear hK
  rw[<-hbl]
  simp -implicitDefEqProofs only[push_cast,zz,seval,b111_1,Int.lt_irrefl,r111_6]
  have g:∀ i:Nat,¬ i+7=0/\¬ i+7=1/\¬ i+7=2/\¬ i+7=3/\¬ i+7=4/\¬ i+7=5/\¬ i+7=6:=fun i=>by omega
  refine postF.mk' (fun j=>if j=0 then X 1 10 else if j=1 then X 3 11 else if j=2 then X 5 12 else if j=3 then X 9 13 else if j=4 then X1 2 19 else if j=5 then X 11 17 else if j=6 then X 14 18 else X 9 (13+(j-7+1))) [some 10,some 11,some 12,some 13,some 19,some 17,some 18] ?_
  simp -implicitDefEqProofs only[push_cast,zz,seval,fs111,hN,Int.toNat_natCast,hBK,hBL,stV,st0,g,Nat.add_sub_cancel,hBKl,hBLl,hrep,List.length_replicate]
def ent111:Entry:=spOf fs111 inv111
theorem e111:EntryOk Tryz.prog 111 ent111:=entry_of ok111 inv111
@[push_cast] theorem ent111_a u l x k:ent111 u l x k=spOf fs111 inv111 u l x k:=rfl
def b192_1:IR:=
 .seq (r_ [b_ 23 .lss 22 21] []) (.seq (.cond (.t 23) (.skip) (.exit 0)) (.seq (.block 1 (.seq (r_ [m_ 24 22,i_ 25 20 22 1,L_ 26 25,m_ 8 24,m_ 9 26] [23,24,25,26]) (.seq (.seq (r_ [m_ 27 0,n_ 28 27,f_ 29 28 1,l_ 30 29,m_ 31 8,i_ 32 30 31 1,L_ 33 32] [27,28,29,30,31,32]) (.cond (.t 33) (r_ [m_ 34 9,o_ 35 (.neg 0 (.t 34)),m_ 9 35] [33,34,35]) (.skip))) (r_ [f_ 36 7 2,l_ 37 36,m_ 38 8,m_ 39 9,i_ 40 37 38 1,S_ 1 .i64 40 39] [8,9,33,36,37,38,39,40])))) (r_ [a_ 41 22 1,m_ 22 41] [41])))
def r192_2:IR:=
 .seq (r_ [o_ 42 (.ld false (some 3) 0 0 (.t 7)),s_ 3 .i64 6 42] [0,7,20,21,22,42]) (.ret)
def ir192:IR:=
 .seq (r_ [o_ 6 (.alloc 10 [y_,y_,nilSV])] []) (.seq (r_ [m_ 10 1,m_ 11 2,m_ 12 1,m_ 13 2,b_ 14 .mul 12 13,o_ 15 (.mks 11 (.int .i64 0) 8 (.t 14) (.t 14)),o_ 16 (.build [y_,y_,nilSV] [(0,1,.t 10),(1,1,.t 11),(2,1,.t 15)]),o_ 7 (.alloc 12 [y_,y_,nilSV]),s_ 3 .i64 7 16] [1,2,10,11,12,13,14,15,16]) (.seq (.seq (r_ [m_ 17 0,n_ 18 17,f_ 19 18 0,l_ 20 19,h_ 21 20,z_ 22 0] [17,18,19]) (.block 0 (.loop b192_1))) (r192_2)))
def kp192_1:List Nat:=[0,6,7,20,21,22]
def kl192_1:List Nat:=[]
attribute [push_cast] kp192_1 kl192_1
set_option maxRecDepth 4000 in
theorem comp192:(Tryz.f192.body.bind fun c=>compC tab isP chkAll ir192 c)=some ir192:=by kernel_rfl
def b109_1:IR:=
 .seq (r_ [b_ 10 .lss 9 8] []) (.seq (.cond (.t 10) (.skip) (.exit 0)) (.seq (.block 1 (.seq (r_ [i_ 11 7 9 1,L_ 12 11,m_ 5 12] [10,11,12]) (r_ [m_ 13 3,m_ 14 5,o_ 15 (.callp 99 [.t 14]),o_ 16 (.mx (.t 13) (.t 15)),m_ 3 16] [5,13,14,15,16]))) (r_ [a_ 17 9 1,m_ 9 17] [17])))
def r109_2:IR:=
 .seq (r_ [m_ 18 3,o_ 19 (.cvt 0 .u64 (.t 18)),o_ 20 (.callp 156 [.t 19]),m_ 2 20] [3,7,8,9,18,19,20]) (.ret)
def ir109:IR:=
 .seq (r_ [o_ 1 (.box 10 (.t 0)),z_ 2 0] [0,2]) (.seq (r_ [z_ 3 0] []) (.seq (.seq (r_ [f_ 6 1 2,l_ 7 6,h_ 8 7,z_ 9 0] [1,6]) (.block 0 (.loop b109_1))) (r109_2)))
def kp109_1:List Nat:=[3,7,8,9]
def kl109_1:List Nat:=[]
attribute [push_cast] kp109_1 kl109_1
set_option maxRecDepth 4000 in
theorem comp109:(Tryz.f109.body.bind fun c=>compC tab isP chkAll ir109 c)=some ir109:=by kernel_rfl
def ir52:IR:=
 .seq (r_ [o_ 1 (.box 10 (.t 0)),z_ 2 0,z_ 3 0] [0,2,3]) (.seq (.seq (r_ [o_ 4 (.ld false (some 3) 0 0 (.t 1)),o_ 5 (.call (some 4) 11 98 [.t 4]),o_ 6 (.not (.t 5))] [4,5]) (.cond (.t 6) (.seq (r_ [z_ 2 0,z_ 3 70] [1,6]) (.ret)) (.skip))) (.seq (r_ [o_ 7 (.ld false (some 3) 0 0 (.t 1)),o_ 8 (.call (some 4) 15 109 [.t 7]),m_ 2 8,z_ 3 0] [1,6,7,8]) (.ret)))
set_option maxRecDepth 4000 in
theorem comp52:(Tryz.f52.body.bind fun c=>compC tab isP chkAll ir52 c)=some ir52:=by kernel_rfl
def pixF (s:StS) (i:Nat):Int:=if rdB s.minus (i:Nat)=true then-rd s.size (i:Nat)else rd s.size (i:Nat)
def plL (s:StS):List Int:=(List.range s.size.length).map (pixF s)
structure PsA where
 p:StL
 s:StS
 w:Int
 h:Int
def invPs:List SV->Look->Option (PsA×List Nat)
 | [.ptr c _ 0 0 0,.int .i64 w,.int .i64 h],look=>match invSt look c with
  | some (p,s,g)=>some (⟨p,s,w,h⟩,g)
  | none=>none
 | _,_=>none
attribute [push_cast] invPs
def fs192:FS where
 A:=PsA
 args:=fun a=>[.ptr 0 a.p.L 0 0 0,.int .i64 a.w,.int .i64 a.h]
 mem:=fun a=>stM a.p a.s
 pre:=fun a=>stWf a.s a.s.since.length/\szWf a.s/\a.w*a.h=a.s.since.length/\0<=a.w/\0<=a.h
 res:=fun a x=>.agg [.int .i64 a.w,.int .i64 a.h,.sl 7 (x 0) 1 0 (plL a.s).length]
 new:=fun a x=>[(x 0,.ints .i64 (plL a.s))]
set_option maxHeartbeats 1000000 in
theorem ok192:FSOk Tryz.prog 192 fs192:=by
 refine hd_ (fk_ Tryz.func192) fun a hp=>?_
 obtain⟨p,⟨size,minus,since,now,list,kind,nst,band,ww⟩,w,h⟩:=a
 obtain⟨h1,h2,h3,h4,h5⟩:stWf ⟨size,minus,since,now,list,kind,nst,band,ww⟩ since.length/\szWf ⟨size,minus,since,now,list,kind,nst,band,ww⟩/\w*h=since.length/\0<=w/\0<=h:=hp
 obtain⟨o1,o2,o3,o4,o5,o6,o7,o8,o9,o10,o11⟩:=id h1
 simp only at o1 o2 o4 o5 o8
 obtain⟨n,hn⟩:∃ n,since.length=n:=⟨_,rfl⟩
 rw[hn]at o1 o2 o4 o5 h3
 have hpl:plL ⟨size,minus,since,now,list,kind,nst,band,ww⟩=(List.range n).map (pixF ⟨size,minus,since,now,list,kind,nst,band,ww⟩):=by unfold plL;rw[o1]
 have hpf:∀ k:Nat,pixF ⟨size,minus,since,now,list,kind,nst,band,ww⟩ k=if rdB minus (k:Nat)=true then-rd size (k:Nat)else rd size (k:Nat):=fun k=>rfl
 have hsz:∀ k:Nat,k<n->0<=rd size (k:Nat)/\rd size (k:Nat)<1099511627776:=fun k hk=>h2.at (i:=(k:Int)) (by omega) (by simp only;omega)
 obtain⟨f,hf⟩:∃ f,pixF ⟨size,minus,since,now,list,kind,nst,band,ww⟩=f:=⟨_,rfl⟩
 rw[hf]at hpl hpf
 change Tri Tryz.prog 192 [.ptr 0 p.L 0 0 0,.int .i64 w,.int .i64 h] (stM p ⟨size,minus,since,now,list,kind,nst,band,ww⟩) (postF fs192 ⟨p,⟨size,minus,since,now,list,kind,nst,band,ww⟩,w,h⟩)
 refine tri_evS (hyp (l:=[]) (lp:=[]) trivial trivial) Tryz.func192 comp192 (rs:=[.cell 6 (some 3)]) (by rfl) Tryz.ntmps192 13 ?_
 simp -implicitDefEqProofs only[push_cast,zz,seval,ir192,stM,stV,o1,o2,hn,o4,h3]
 intro X X1
 repeat refine om_ ?_
 refine evS_loopU (A:=Nat) kp192_1 kl192_1 (fun k=>[(22,.int .i64 k)]) (fun k=>[(11,.mine,X1 5 11,.ints .i64 (prt n k f))]) (fun k=>k<=n) (fun k=>n-k) 0 (Nat.zero_le _) (Sub.pt ?_) ?_
 ·have e0:prt n 0 f=List.replicate (n:Int).toNat 0:=by rw[prt_zero,Int.toNat_natCast]
  simp -implicitDefEqProofs only[push_cast,zz,seval,e0]
 intro k hk K hK
 have hk:k<=n:=hk
 by_cases hk':k<n
 ·have hki:(k:Int)<n:=by omega
  have hs:=hsz k hk'
  have hset:(prt n k f).set k (f k)=prt n (k+1) f:=prt_set hk' f
  rw[hpf k]at hset
  have hlen:=prt_length (Nat.le_of_lt hk') f
  obtain⟨P,hP⟩:∃ P,prt n k f=P:=⟨_,rfl⟩
  rw[hP]at hset hlen
  obtain⟨v,hv⟩:∃ v,rd size (k:Nat)=v:=⟨_,rfl⟩
  rw[hv]at hset hs
  obtain⟨m,hm⟩:∃ m,rdB minus (k:Nat)=m:=⟨_,rfl⟩
  rw[hm]at hset
  cases m with
  | true=>
   rw[if_pos rfl]at hset
   simp -implicitDefEqProofs only[push_cast,zz,seval,b192_1,hki,hv,hm,hP,hlen,o1,o2,Int.toNat_natCast,hset]
   repeat refine om_ ?_
   refine hK (k+1) (show k+1<=n by omega) (show n-(k+1)<n-k by omega) _ _ (Sub.pt ?_)
   simp -implicitDefEqProofs only[push_cast,zz,seval]
  | false=>
   rw[if_neg (by decide)]at hset
   simp -implicitDefEqProofs only[push_cast,zz,seval,b192_1,hki,hv,hm,hP,hlen,o1,o2,Int.toNat_natCast,hset]
   repeat refine om_ ?_
   refine hK (k+1) (show k+1<=n by omega) (show n-(k+1)<n-k by omega) _ _ (Sub.pt ?_)
   simp -implicitDefEqProofs only[push_cast,zz,seval]
 ·have hkn:k=n:=by omega
  subst hkn
  clear hK
  have hfin:prt k k f=(List.range k).map f:=prt_all k f
  rw[hfin,<-hpl]
  have hpll:(plL ⟨size,minus,since,now,list,kind,nst,band,ww⟩).length=k:=by rw[hpl,List.length_map,List.length_range]
  simp -implicitDefEqProofs only[push_cast,zz,seval,b192_1,r192_2,Int.lt_irrefl]
  refine postF.mk' (fun _=>X1 5 11) [some 0,some 1,some 2,some 3,some 4,none,some 6,some 11] ?_
  simp -implicitDefEqProofs only[push_cast,zz,seval,fs192,stM,stV,o1,o2,hn,o4,hpll]
def ent192:Entry:=spOf fs192 invPs
theorem e192:EntryOk Tryz.prog 192 ent192:=entry_of ok192 invPs
@[push_cast] theorem ent192_a u l x k:ent192 u l x k=spOf fs192 invPs u l x k:=rfl
def maxA (xs:List Int):Int:=xs.foldl (fun m c=>max m (max c (-c))) 0
theorem maxA_take {xs:List Int} {k:Nat} (h:k<xs.length):maxA (xs.take (k+1))=max (maxA (xs.take k)) (max (rd xs (k:Nat)) (- rd xs (k:Nat))):=by
 unfold maxA
 rw[List.take_succ_eq_append_getElem h,List.foldl_append,rd_lt xs k h];rfl
theorem maxA_bd {xs:List Int} {B:Int} (hB:0<=B) (h:AllIn (-B) B xs):∀ k,k<=xs.length->0<=maxA (xs.take k)/\maxA (xs.take k)<=B
 | 0,_=>by simp[maxA];exact hB
 | k+1,hk=>by
  have ih:=maxA_bd hB h k (by omega)
  have:=allIn_rd.1 h k (by omega)
  rw[maxA_take (by omega)]
  omega
def planesP (xs:List Int):Int:=lenP (maxA xs)
def fs109:FS where
 A:=PlA
 args:=fun a=>[plV a.p a.L 0]
 mem:=fun a=>[some (.ro,a.L,.ints .i64 a.p.xs)]
 pre:=fun a=>AllIn (-16777216) 16777216 a.p.xs/\a.p.xs.length<=1000000
 res:=fun a _=>.int .i64 (planesP a.p.xs)
theorem ok109:FSOk Tryz.prog 109 fs109:=by
 refine hd_ (fk_ Tryz.func109) fun a hp=>?_
 obtain⟨⟨w,h,xs⟩,L⟩:=a
 obtain⟨h1,h2⟩:AllIn (-16777216) 16777216 xs/\xs.length<=1000000:=hp
 have hmx:=maxA_bd (B:=16777216) (by decide) h1
 change Tri Tryz.prog 109 [plV ⟨w,h,xs⟩ L 0] [some (.ro,L,.ints .i64 xs)] (postF fs109 ⟨⟨w,h,xs⟩,L⟩)
 have hfin:planesP xs=lenP (maxA xs):=rfl
 refine tri_evS (hyp (l:=[]) (lp:=[(99,absF),(156,lenF)]) trivial ⟨p99,p156,trivial⟩) Tryz.func109 comp109 (rs:=[.tmp 2]) (by rfl) Tryz.ntmps109 11 ?_
 simp -implicitDefEqProofs only[push_cast,zz,seval,ir109]
 intro X
 refine evS_loopU (A:=Nat) kp109_1 kl109_1 (fun k=>[(3,.int .i64 (maxA (xs.take k))),(9,.int .i64 k)]) (fun k=>[]) (fun k=>k<=xs.length) (fun k=>xs.length-k) 0 (Nat.zero_le _) (Sub.pt ?_) ?_
 ·have e0:maxA (xs.take 0)=0:=rfl
  simp -implicitDefEqProofs only[push_cast,zz,seval,e0]
 intro k hk K hK
 have hk:k<=xs.length:=hk
 have hb:=hmx k hk
 by_cases hk':k<xs.length
 ·have hki:(k:Int)<xs.length:=by omega
  have ht:=maxA_take hk'
  have hx:=allIn_rd.1 h1 k hk'
  obtain⟨m,hm⟩:∃ m,maxA (xs.take k)=m:=⟨_,rfl⟩
  obtain⟨x,hxx⟩:∃ m,rd xs (k:Nat)=m:=⟨_,rfl⟩
  rw[hm]at ht hb
  rw[hxx]at ht hx
  simp -implicitDefEqProofs only[push_cast,zz,seval,b109_1,hki,hm,hxx]
  repeat refine om_ ?_
  refine hK (k+1) (show k+1<=xs.length by omega) (show xs.length-(k+1)<xs.length-k by omega) _ _ (Sub.pt ?_)
  simp -implicitDefEqProofs only[push_cast,zz,seval,ht]
 ·obtain rfl:k=xs.length:=by omega
  clear hK
  rw[List.take_length]at hb
  obtain⟨m,hm⟩:∃ m,maxA xs=m:=⟨_,rfl⟩
  rw[hm]at hb hfin
  simp -implicitDefEqProofs only[push_cast,zz,seval,b109_1,r109_2,Int.lt_irrefl,List.take_length,hm]
  repeat refine om_ ?_
  refine postF.mk' (fun _=>default) [some 0] ?_
  simp -implicitDefEqProofs only[push_cast,zz,seval,fs109,hfin]
def ent109:Entry:=spOf fs109 inv98
theorem e109:EntryOk Tryz.prog 109 ent109:=entry_of ok109 inv98
@[push_cast] theorem ent109_a u l x k:ent109 u l x k=spOf fs109 inv98 u l x k:=rfl
def fs52:FS where
 A:=PlA
 args:=fun a=>[plV a.p a.L 0]
 mem:=fun a=>[some (.ro,a.L,.ints .i64 a.p.xs)]
 pre:=fun a=>a.p.xs.length<=140737488355328
 res:=fun a _=>.tup [.int .i64 (if a.p.Ok then planesP a.p.xs else 0),.int .i64 (if a.p.Ok then 0 else 70)]
theorem Pl.Ok.len {p:Pl} (h:p.Ok):p.xs.length<=8192:=by
 obtain⟨⟨a1,a2,a3,a4,a5⟩,b,_⟩:=h
 omega
theorem ok52:FSOk Tryz.prog 52 fs52:=by
 refine hd_ (fk_ Tryz.func52) fun a hp=>?_
 obtain⟨⟨w,h,xs⟩,L⟩:=a
 have h1:xs.length<=140737488355328:=hp
 change Tri Tryz.prog 52 [plV ⟨w,h,xs⟩ L 0] [some (.ro,L,.ints .i64 xs)] (postF fs52 ⟨⟨w,h,xs⟩,L⟩)
 refine tri_evS (hyp (l:=[(98,ent98),(109,ent109)]) (lp:=[]) ⟨e98,e109,trivial⟩ trivial) Tryz.func52 comp52 (rs:=[.tmp 2,.tmp 3]) (by rfl) Tryz.ntmps52 19 ?_
 by_cases hok:(⟨w,h,xs⟩:Pl).Ok
 ·have hl:=hok.len
  have hall:=hok.2.2
  simp only at hl hall
  simp -implicitDefEqProofs only[push_cast,zz,seval,ir52,fs98,fs109,hok,hall]
  intro X
  repeat refine om_ ?_
  refine postF.mk' (fun _=>default) [some 0] ?_
  simp -implicitDefEqProofs only[push_cast,zz,seval,fs52,hok]
 ·simp -implicitDefEqProofs only[push_cast,zz,seval,ir52,fs98,fs109,hok]
  intro X
  repeat refine om_ ?_
  refine postF.mk' (fun _=>default) [some 0] ?_
  simp -implicitDefEqProofs only[push_cast,zz,seval,fs52,hok]
def ent52:Entry:=spOf fs52 inv98
theorem e52:EntryOk Tryz.prog 52 ent52:=entry_of ok52 inv98
@[push_cast] theorem ent52_a u l x k:ent52 u l x k=spOf fs52 inv98 u l x k:=rfl
def Bck.er (x:Bck):Bck:=⟨nilLoc,x.b,x.on⟩
def StS.er (s:StS):StS:=⟨s.size,s.minus,s.since,s.now,s.list.map Bck.er,s.kind,s.nst,s.band,s.w⟩
theorem numG_er {β:Type} (bit:β->Int->Bool->Bool×Int×β) (s:StS) (x:β) (i t:Int) (on dig neg:Bool):numG bit s.er x i t on dig neg=((numG bit s x i t on dig neg).1.er,(numG bit s x i t on dig neg).2):=by
 have h1:oldP s.er i↔oldP s i:=Iff.rfl
 have h2:dctxP s.er i=dctxP s i:=rfl
 have h3:nctxP s.er i=nctxP s i:=rfl
 unfold numG
 rw[h2,h3]
 by_cases ho:oldP s i
 ·rw[if_pos ho,if_pos (h1.2 ho)]
  split
  ·split<;>rfl
  ·rfl
 ·rw[if_neg ho,if_neg (fun h=>ho (h1.1 h))]
  split
  ·split
   ·split
    ·split<;>rfl
    ·rfl
   ·rfl
  ·rfl
theorem plsG_er {β:Type} (bit:β->Int->Bool->Bool×Int×β) (f:List Int) (t:Int) (on:Bool):∀ (l:List Int) (s:StS) (x:β),plsG bit f t on l s.er x=((plsG bit f t on l s x).1.er,(plsG bit f t on l s x).2)
 | [],s,x=>rfl
 | i::l,s,x=>by
  rw[plsG,plsG,numG_er]
  simp only
  split
  ·exact plsG_er bit f t on l _ _
  ·rfl
theorem rdBk_er {l:List Bck} {i:Nat} (h:i<l.length):rdBk (l.map Bck.er) i=(rdBk l i).er:=by
 rw[rdBk_nat (by simpa using h),rdBk_nat h,List.getElem_map]
theorem setOn_er {s:StS} {i:Nat} (h:i<s.list.length) (b:Bool):setOn s.er i b=(setOn s i b).er:=by
 unfold setOn StS.er onBk
 simp only[rdBk_er h,List.map_set]
 rfl
theorem abP_er (s:StS) {q:Int} (h:q<s.list.length):abP s.er q=abP s q:=by
 unfold abP
 split
 ·have:rdBk s.er.list q.toNat=(rdBk s.list q.toNat).er:=rdBk_er (by omega)
  rw[this];rfl
 ·rfl
theorem bktG_er {β:Type} (bit:β->Int->Bool->Bool×Int×β) (f:List Int) (t:Int) {i:Nat} {s:StS} (x:β) (h:i<s.list.length) (hq:(rdBk s.list i).b.parent<s.list.length):bktG bit f t i s.er x=((bktG bit f t i s x).1.er,(bktG bit f t i s x).2):=by
 have e1:rdBk s.er.list i=(rdBk s.list i).er:=rdBk_er h
 have e2:(rdBk s.list i).er.b=(rdBk s.list i).b:=rfl
 have e3:∀ pl,allP s.er pl=allP s pl:=fun _=>rfl
 have e4:∀ pl,onP s.er pl f t=onP s pl f t:=fun _=>rfl
 have e5:bctxP (setOn s.er i false) (rdBk s.list i).b=bctxP (setOn s i false) (rdBk s.list i).b:=by
  rw[setOn_er h]
  unfold bctxP
  rw[abP_er _ (by simp only[setOn,onBk_len];exact hq)]
  rfl
 unfold bktG
 rw[e1,e2,e3,e4,e5]
 simp only[setOn_er h]
 split
 ·exact plsG_er bit f t _ _ _ _
 ·split
  ·exact plsG_er bit f t _ _ _ _
  ·rfl
def parOk (l:List Bck):Prop:=∀ i,i<l.length->(rdBk l i).b.parent<l.length
theorem sameK.at {l m:List Bck} (h:sameK l m) {i:Nat} (hi:i<l.length):(rdBk l i).b=(rdBk m i).b/\(rdBk l i).L=(rdBk m i).L:=by
 have hm:i<m.length:=by rw[<-h.len];exact hi
 have e:(l.map (fun x=>(x.L,x.b)))[i]'(by simpa using hi)=(m.map (fun x=>(x.L,x.b)))[i]'(by simpa using hm):=by
  have:=h
  unfold sameK at this
  simp only[this]
 simp only[List.getElem_map,Prod.mk.injEq]at e
 rw[rdBk_nat hi,rdBk_nat hm]
 exact⟨e.2,e.1⟩
theorem parOk.same {l m:List Bck} (h:sameK l m) (hm:parOk m):parOk l:=fun i hi=>by
 rw[(h.at hi).1,h.len]
 exact hm i (by rw[<-h.len];exact hi)
theorem slcG_er {β:Type} (bit:β->Int->Bool->Bool×Int×β) (f:List Int) (t:Int):∀ (k i:Nat) (s:StS) (x:β),i+k=s.list.length->parOk s.list->slcG bit f t k i s.er x=((slcG bit f t k i s x).1.er,(slcG bit f t k i s x).2)
 | 0,i,s,x,_,_=>rfl
 | k+1,i,s,x,hk,hp=>by
  have hb:=bktG_k bit f t i s x
  rw[slcG,slcG,bktG_er bit f t x (by omega) (hp i (by omega))]
  simp only
  split
  ·exact slcG_er bit f t k (i+1) _ _ (by rw[hb.len];omega) (hp.same hb)
  ·rfl
def encStep (f:List Int) (t:Int) (s:StS) (st:List Int):StS×EnS×Int:=slcG putG f t s.list.length 0 s (newEn s.kind st)
def encG (f:List Int):Nat->StS->List Int->List (List Int)
 | 0,_,_=>[]
 | k+1,s,st=>encEnd (encStep f k s st).2.1::encG f k (encStep f k s st).1 (encStep f k s st).2.1.st
theorem encStep_er (f:List Int) (t:Int) (s:StS) (st:List Int) (h:parOk s.list):encStep f t s.er st=((encStep f t s st).1.er,(encStep f t s st).2):=by
 have:=slcG_er putG f t s.list.length 0 s (newEn s.kind st) (by omega) h
 unfold encStep
 rw[<-this]
 have e:s.er.list.length=s.list.length:=by simp[StS.er]
 rw[e];rfl
theorem encG_er (f:List Int):∀ (k:Nat) (s:StS) (st:List Int),parOk s.list->encG f k s.er st=encG f k s st
 | 0,s,st,_=>rfl
 | k+1,s,st,h=>by
  rw[encG,encG,encStep_er f k s st h]
  simp only
  rw[encG_er f k (encStep f k s st).1 _ (h.same (slcG_k putG f k s.list.length 0 s (newEn s.kind st)))]
def st00 (a:BgA):StS:=st0 a fun _=>nilLoc
theorem st0_er (a:BgA) (f:Nat->Xf.Loc):(st0 a f).er=st00 a:=by
 unfold st0 st00 StS.er st0 bkOf
 simp only[List.map_map]
 rfl
theorem plF_bd {w h:Int} {b:Bd} (hx:0<=b.x) (hy:0<=b.y) (hw:b.x+b.w<=w) (hh:b.y+b.h<=h) {r c:Int} {dy dx:Nat} (hr:0<=r) (hc:0<=c) (h1:r*4+dy<b.h) (h2:c*4+dx<b.w):0<=plF w b r c dy dx/\plF w b r c dy dx<w*h:=by
 unfold plF
 have a1:=Int.mul_nonneg (show 0<=b.y+(r*4+(dy:Int)) by omega) (show 0<=w by omega)
 have a2:=Int.mul_le_mul_of_nonneg_right (show b.y+(r*4+(dy:Int))+1<=h by omega) (show 0<=w by omega)
 rw[Int.add_mul,Int.one_mul,Int.mul_comm h w]at a2
 omega
theorem pls_bd {w h:Int} {b:Bd} (hx:0<=b.x) (hy:0<=b.y) (hw:b.x+b.w<=w) (hh:b.y+b.h<=h) {r c:Int} (hr:0<=r) (hc:0<=c):∀ x∈plAll w b r c (khB b r).toNat,0<=x/\x<w*h:=fun x hm=>by
 unfold plAll plRow at hm
 rw[List.mem_flatMap]at hm
 obtain⟨dy,hdy,hm⟩:=hm
 rw[List.mem_map]at hm
 obtain⟨dx,hdx,rfl⟩:=hm
 rw[List.mem_range]at hdy hdx
 unfold khB at hdy
 unfold kwB at hdx
 exact plF_bd hx hy hw hh hr hc (by omega) (by omega)
def bkGood (w h:Int) (n:Nat) (x:Pb):Prop:=-1<=x.parent/\x.parent<n/\x.places.length<=16/\∀ p∈x.places,0<=p/\p<w*h
theorem bkGood.mono {w h:Int} {n m:Nat} {x:Pb} (H:bkGood w h n x) (hnm:n<=m):bkGood w h m x:=⟨H.1,by have:=H.2.1;omega,H.2.2⟩
def grGood (n:Nat) (g:Gr):Prop:=1<=colsB g.band/\1<=rowsB g.band/\g.frm+rowsB g.band*colsB g.band<=n
theorem par_lt {R C r c:Int} (h1:1<=R) (h2:1<=C) (hr:0<=r) (hc:0<=c):0<=min r (R-1)*C+min c (C-1)/\min r (R-1)*C+min c (C-1)<R*C:=by
 have a:=Int.mul_nonneg (show 0<=min r (R-1) by omega) (show 0<=C by omega)
 have b:=Int.mul_le_mul_of_nonneg_right (show min r (R-1)<=R-1 by omega) (show 0<=C by omega)
 rw[Int.sub_mul,Int.one_mul]at b
 omega
theorem bkAt_good {w h:Int} {G:List Gr} {b:Bd} {n:Nat} (hG:∀ g∈G,grGood n g) (hx:0<=b.x) (hy:0<=b.y) (hw:b.x+b.w<=w) (hh:b.y+b.h<=h) {r c:Nat}:bkGood w h n (bkAt w G b r c):=by
 unfold bkAt bkGood
 simp only
 have hpar:-1<=parP G (findG G b) r c/\parP G (findG G b) r c<n:=by
  unfold parP
  cases hF:findG G b with
  | none=>simp only;omega
  | some i=>
   have hi:=findG_lt hF
   obtain⟨g1,g2,g3⟩:=hG _ (by rw[rdGr_nat hi];exact List.getElem_mem hi:rdGr G i∈G)
   have:=par_lt (r:=(r:Int) / 2) (c:=(c:Int) / 2) g2 g1 (by omega) (by omega)
   simp only
   omega
 refine⟨hpar.1,hpar.2,?_,pls_bd hx hy hw hh (by omega) (by omega)⟩
 rw[plAll_len]
 have h1:(kwB b c).toNat<=4:=by unfold kwB;omega
 have h2:(khB b r).toNat<=4:=by unfold khB;omega
 exact Nat.le_trans (Nat.mul_le_mul h2 h1) (by decide)
theorem bkFold_good {w h:Int} {l:List Bd} (hl:∀ b∈l,0<=b.x/\0<=b.y/\1<=b.w/\1<=b.h/\b.x+b.w<=w/\b.y+b.h<=h):∀ i,i<=l.length->(∀ b∈(bkFold w (l.take i)).1,bkGood w h (bkFold w (l.take i)).1.length b)/\(∀ g∈(bkFold w (l.take i)).2,grGood (bkFold w (l.take i)).1.length g)
 | 0,_=>by simp[bkFold]
 | i+1,hi=>by
  obtain⟨h1,h2⟩:=bkFold_good hl i (by omega)
  obtain⟨b1,b2,b3,b4,b5,b6⟩:=hl _ (rdBd_mem (show i<l.length by omega))
  rw[bkFold_succ w (by omega)]
  obtain⟨⟨O,G⟩,hOG⟩:∃ s,bkFold w (l.take i)=s:=⟨_,rfl⟩
  rw[hOG]at h1 h2 ⊢
  unfold bkStep
  simp only at h1 h2 ⊢
  obtain⟨b,hb⟩:∃ b,rdBd l i=b:=⟨_,rfl⟩
  rw[hb]at b1 b2 b3 b4 b5 b6 ⊢
  have hlen:(O++bkBand w G b (rowsB b).toNat).length=O.length+(rowsB b).toNat*(colsB b).toNat:=by rw[List.length_append,bkBand_len]
  have hle:O.length<=(O++bkBand w G b (rowsB b).toNat).length:=by rw[hlen];exact Nat.le_add_right _ _
  have hrc:1<=colsB b/\1<=rowsB b:=by unfold colsB rowsB;omega
  refine⟨fun x hx=>?_,fun g hg=>?_⟩
  ·rcases List.mem_append.1 hx with hx | hx
   ·exact(h1 x hx).mono hle
   ·unfold bkBand bkRow at hx
    rw[List.mem_flatMap]at hx
    obtain⟨r,hr,hx⟩:=hx
    rw[List.mem_map]at hx
    obtain⟨c,hc,rfl⟩:=hx
    exact(bkAt_good h2 b1 b2 b5 b6).mono hle
  ·rcases List.mem_append.1 hg with hg | hg
   ·obtain⟨g1,g2,g3⟩:=h2 g hg
    exact⟨g1,g2,by omega⟩
   ·rw[List.mem_singleton]at hg
    subst hg
    refine⟨hrc.1,hrc.2,?_⟩
    simp only
    rw[hlen]
    obtain⟨C,hC⟩:∃ C:Nat,colsB b=C:=⟨(colsB b).toNat,by omega⟩
    obtain⟨R,hR⟩:∃ C:Nat,rowsB b=C:=⟨(rowsB b).toNat,by omega⟩
    rw[hC,hR]
    simp only[Int.toNat_natCast]
    push_cast
    omega
theorem bkts_good {w h n:Int} (hb:bnOk w h n):∀ b∈bkts w h n,bkGood w h (bkts w h n).length b:=by
 have:=(bkFold_good (w:=w) (h:=h) (l:=bnL w h n) (fun b hm=>by have:=bnL_in hb hm;omega) (bnL w h n).length (Nat.le_refl _)).1
 rw[List.take_length]at this
 exact this
theorem bkts_len {w h n:Int} (hb:bnOk w h n):(bkts w h n).length<=50000:=by
 have hl19:=bnL_le w h n
 have:=(bkFold_len w (l:=bnL w h n) (fun b hm=>by have:=bnL_in hb hm;obtain⟨_,_,q1,q2,q3,q4⟩:=hb;unfold Bd.ok;omega) (bnL w h n).length (Nat.le_refl _)).1
 rw[List.take_length]at this
 unfold bkts
 omega
theorem bkOf_mem {f:Nat->Xf.Loc} {l:List Pb} {x:Bck} (h:x∈bkOf f l):x.b∈l/\x.on=false:=by
 unfold bkOf at h
 rw[List.mem_map]at h
 obtain⟨i,hi,rfl⟩:=h
 rw[List.mem_range]at hi
 refine⟨?_,rfl⟩
 simp only[List.getD_eq_getElem?_getD,List.getElem?_eq_getElem hi,Option.getD_some]
 exact List.getElem_mem hi
theorem st0_wf {a:BgA} (hb:bnOk a.w a.h a.n) (hwh:a.w*a.h<=8192) (f:Nat->Xf.Loc):stWf (st0 a f) (a.w*a.h).toNat/\szWf (st0 a f)/\parOk (st0 a f).list:=by
 have hg:=bkts_good hb
 have hl:=bkts_len hb
 have hp0:0<=a.w*a.h:=Int.mul_nonneg hb.2.2.1 hb.2.2.2.2.1
 refine⟨⟨by simp[st0],by simp[st0],by simp[st0],by simp[st0,bandL_len],by omega,by simp[st0],by simp[st0],by simp only[st0,bkOf_len];exact hl,fun h=>?_,hb.2.2.2.1,fun b hm=>?_⟩,fun x hx=>?_,fun i hi=>?_⟩
 ·show 0<a.w
  rcases Int.lt_or_le 0 a.w with h' | h'
  ·exact h'
  ·have:a.w=0:=by have:=hb.2.2.1;omega
   rw[this,Int.zero_mul]at h
   simp at h
 ·obtain⟨g1,g2,g3,g4⟩:=hg _ (bkOf_mem hm).1
  refine⟨g1,by simp only[st0,bkOf_len];exact g2,g3,fun x hx=>?_⟩
  have:=g4 x hx
  omega
 ·have:x=0:=by have h:=hx;simp[st0]at h;exact h.2
  omega
 ·simp only[st0,bkOf_len]at hi ⊢
  obtain⟨g1,g2,g3,g4⟩:=hg _ (bkOf_mem (by rw[rdBk_nat (by rw[bkOf_len];exact hi)];exact List.getElem_mem _:rdBk (bkOf f (bkts a.w a.h a.n)) i∈bkOf f (bkts a.w a.h a.n))).1
  exact g2
def b53_1:IR:=
 .seq (.seq (r_ [m_ 32 10,c_ 33 .geq 32 0] [32]) (.cond (.t 33) (.skip) (.exit 1))) (.seq (.block 2 (.seq (r_ [m_ 37 8,n_ 38 37,f_ 39 38 5,o_ 40 (.ld false (some 2) 0 0 (.t 39)),o_ 41 (.call (some 4) 27 112 [.t 40]),m_ 36 41,e_ 42 36 0,e_ 43 36 1,o_ 11 (.alloc 31 [.val (.pointer none)]),s_ 1 .i64 11 42,m_ 12 43] [12,33,36,37,38,39,40,41,42,43]) (.seq (r_ [m_ 44 8,m_ 45 10,f_ 46 3 2,l_ 47 46,o_ 48 (.mkf 114 [.t 11]),o_ 49 (.call none 32 113 [.t 44,.t 45,.t 47,.t 48])] [44,45,46,47,48,49]) (.seq (r_ [m_ 50 8,l_ 51 11,o_ 52 (.call (some 4) 36 116 [.t 51]),n_ 53 50,f_ 54 53 5,s_ 2 .i64 54 52] [50,51,52,53,54]) (r_ [m_ 55 9,l_ 56 11,o_ 57 (.call (some 4) 40 117 [.t 56]),o_ 58 (.brecs 44 1 .u8 [.t 57]),o_ 59 (.app 45 1 24 (.t 55) (.t 58)),m_ 9 59] [11,55,56,57,58,59]))))) (r_ [m_ 34 10,c_ 35 .sub 34 1,m_ 10 35] [34,35]))
def r53_2:IR:=
 .seq (r_ [m_ 60 9,m_ 6 60,z_ 7 0] [3,8,9,10,60]) (.ret)
def ir53:IR:=
 .seq (r_ [o_ 3 (.box 10 (.t 0)),o_ 6 (.mov (.k nilSV)),z_ 7 0] [0,6,7]) (.seq (.block 0 (.seq (r_ [o_ 14 (.ld false (some 3) 0 0 (.t 3)),o_ 15 (.call (some 4) 11 98 [.t 14]),o_ 16 (.not (.t 15)),m_ 13 16] [14,15,16]) (.cond (.t 13) (.seq (r_ [o_ 6 (.mov (.k nilSV)),z_ 7 70] [1,2,3,13]) (.ret)) (.seq (r_ [m_ 18 1,m_ 19 2,o_ 20 (.callp 110 [.t 18,.t 19]),o_ 21 (.not (.t 20)),m_ 17 21] [13,18,19,20,21]) (.cond (.t 17) (.seq (r_ [o_ 6 (.mov (.k nilSV)),z_ 7 2] [1,2,3,17]) (.ret)) (.skip)))))) (.seq (r_ [f_ 22 3 0,l_ 23 22,f_ 24 3 1,l_ 25 24,m_ 26 1,m_ 27 2,o_ 28 (.call (some 8) 15 111 [.t 23,.t 25,.t 26,.t 27]),m_ 8 28] [1,2,6,7,17,22,23,24,25,26,27,28]) (.seq (r_ [o_ 9 (.mov (.k nilSV))] []) (.seq (.seq (r_ [o_ 29 (.ld false (some 3) 0 0 (.t 3)),o_ 30 (.call (some 4) 23 109 [.t 29]),c_ 31 .sub 30 1,m_ 10 31] [29,30,31]) (.block 1 (.loop b53_1))) (r53_2)))))
def kp53_1:List Nat:=[3,8,9,10]
def kl53_1:List Nat:=[27,28,29,30,31,32,33,34,35,36,37,38,39,40,41,42,43,44,45]
attribute [push_cast] kp53_1 kl53_1
set_option maxRecDepth 4000 in
theorem comp53:(Tryz.f53.body.bind fun c=>compC tab isP chkAll ir53 c)=some ir53:=by kernel_rfl
def byRc (x:Xf.Loc×List Int):List RC:=[.row x.1 .u8 x.2]
def byOf (f:Nat->Xf.Loc) (l:List (List Int)):List (List RC):=(List.range l.length).map fun i=>byRc (f i,l.getD i [])
theorem byOf_eq {l:List (Xf.Loc×List Int)} {m:List (List Int)} (h:l.map (·.2)=m):byOf (fun i=>(l.getD i (nilLoc,[])).1) m=l.map byRc:=by
 subst h
 unfold byOf
 refine List.ext_getElem (by simp) fun i h1 h2=>?_
 have hi:i<l.length:=by simpa using h2
 simp[List.getD_eq_getElem?_getD,hi]
theorem byOf_len (f:Nat->Xf.Loc) (l:List (List Int)):(byOf f l).length=l.length:=by unfold byOf;simp
structure EcA where
 p:Pl
 L:Xf.Loc
 lv:Int
 kd:Int
def encP (p:Pl) (lv kd:Int):List (List Int):=if p.Ok/\argsOk lv kd then encG p.xs (planesP p.xs).toNat (st00 ⟨p.w,p.h,lv,kd⟩) (List.replicate 12 0)else []
def encE (p:Pl) (lv kd:Int):Int:=if p.Ok then (if argsOk lv kd then 0 else 2)else 70
def fs53:FS where
 A:=EcA
 args:=fun a=>[plV a.p a.L 0,.int .i64 a.lv,.int .i64 a.kd]
 mem:=fun a=>[some (.ro,a.L,.ints .i64 a.p.xs)]
 pre:=fun a=>a.p.xs.length<=140737488355328
 res:=fun a x=>.tup [.sl 1 (lx (a.p.Ok/\argsOk a.lv a.kd) x 0) 1 0 (encP a.p a.lv a.kd).length,.int .i64 (encE a.p a.lv a.kd)]
 new:=fun a x=>[(lx (a.p.Ok/\argsOk a.lv a.kd) x 0,.recs 1 true [] (byOf (fun i=>x (i+1)) (encP a.p a.lv a.kd)))]
def inv53:List SV->Look->Option (EcA×List Nat)
 | [v,.int .i64 lv,.int .i64 kd],look=>match getP look v with
  | some (a,g)=>some (⟨a.p,a.L,lv,kd⟩,g)
  | none=>none
 | _,_=>none
attribute [push_cast] inv53
theorem newEn_ok {kind:Int} {st:List Int} (h:mdOk kind st):(newEn kind st).ok:=by
 obtain⟨h1,h2⟩:=h
 have e1:(newEn kind st).low=0:=rfl
 have e2:(newEn kind st).high=4294967295:=rfl
 have e3:(newEn kind st).st=st:=rfl
 unfold EnS.ok ivOk2
 rw[e1,e2,e3]
 exact⟨h1,by omega,by decide,by decide,by decide,by decide⟩
theorem zero12_ok {kind:Int} (h:kind=0∨kind=1):mdOk kind (List.replicate 12 0):=by
 refine⟨⟨h,fun s hs=>?_⟩,by simp⟩
 rw[List.eq_of_mem_replicate hs]
 exact⟨by decide,fun _=>by decide,fun _=>by decide⟩
theorem EnS.ok.md {e:EnS} (h:e.ok) (h12:e.st.length=12):mdOk e.kind e.st:=⟨h.1,by omega⟩
theorem lenN_lt {k n:Nat} (h:n<2^k):lenN n<=k:=by
 rcases Nat.lt_or_ge k (lenN n)with hk | hk
 ·have:=(lenN_bd n).2 (by
   rcases Nat.eq_zero_or_pos n with h0 | h0
   ·subst h0;simp[lenN]at hk
   ·exact h0)
  have h2:=Nat.pow_le_pow_right (n:=2) (by decide) (show k<=lenN n-1 by omega)
  omega
 ·exact hk
theorem planesP_bd {xs:List Int} (h:AllIn (-16777216) 16777216 xs):0<=planesP xs/\planesP xs<=25:=by
 have:=maxA_bd (B:=16777216) (by decide) h xs.length (Nat.le_refl _)
 rw[List.take_length]at this
 unfold planesP lenP
 have:lenN (maxA xs).toNat<=25:=lenN_lt (by omega)
 omega
set_option maxHeartbeats 1000000 in
theorem ok53:FSOk Tryz.prog 53 fs53:=by
 refine hd_ (fk_ Tryz.func53) fun a hp=>?_
 obtain⟨⟨w,h,xs⟩,L,lv,kd⟩:=a
 have h1:xs.length<=140737488355328:=hp
 change Tri Tryz.prog 53 [plV ⟨w,h,xs⟩ L 0,.int .i64 lv,.int .i64 kd] [some (.ro,L,.ints .i64 xs)] (postF fs53 ⟨⟨w,h,xs⟩,L,lv,kd⟩)
 refine tri_evS (hyp (l:=[(98,ent98),(111,ent111),(109,ent109),(112,ent112),(113,ent113E),(116,ent116),(117,ent117)]) (lp:=[(110,rightF)]) ⟨e98,e111,e109,e112,e113E,e116,e117,trivial⟩ ⟨p110,trivial⟩) Tryz.func53 comp53 (rs:=[.tmp 6,.tmp 7]) (by rfl) Tryz.ntmps53 46 ?_
 by_cases hok:(⟨w,h,xs⟩:Pl).Ok
 ·by_cases hag:argsOk lv kd
  ·have hE:encE ⟨w,h,xs⟩ lv kd=0:=by unfold encE;rw[if_pos hok,if_pos hag]
   have hP:encP ⟨w,h,xs⟩ lv kd=encG xs (planesP xs).toNat (st00 ⟨w,h,lv,kd⟩) (List.replicate 12 0):=by unfold encP;rw[if_pos ⟨hok,hag⟩]
   obtain⟨⟨a1,a2,a3,a4,a5⟩,b1,hall⟩:=id hok
   simp only at a1 a2 a3 a4 a5 b1 hall
   have hl:=hok.len
   simp only at hl
   have hbn:bnOk w h lv:=⟨hag.1,hag.2.1,by omega,by omega,by omega,by omega⟩
   have hwf:=fun f=>st0_wf (a:=⟨w,h,lv,kd⟩) hbn (by simp only;omega) f
   have hkd:=hag.2.2
   have hpb:=planesP_bd hall
   have her:=fun f=>st0_er ⟨w,h,lv,kd⟩ f
   rw[show st00 ⟨w,h,lv,kd⟩=(st0 ⟨w,h,lv,kd⟩ fun _=>nilLoc).er from (her _).symm]at hP
   have hst:∀ f,st0 ⟨w,h,lv,kd⟩ f=⟨List.replicate (w*h).toNat 0,List.replicate (w*h).toNat false,List.replicate (w*h).toNat 0,0,bkOf f (bkts w h lv),kd,12,bandL w h lv,w⟩:=fun f=>rfl
   obtain⟨P,hPP⟩:∃ P:Nat,planesP xs=P:=⟨(planesP xs).toNat,by omega⟩
   rw[hPP,Int.toNat_natCast]at hP
   rw[hPP]at hpb
   obtain⟨N,hN⟩:∃ N:Nat,w*h=(N:Int):=⟨(w*h).toNat,by omega⟩
   simp only[hN,Int.toNat_natCast]at hst hwf
   simp -implicitDefEqProofs only[push_cast,zz,seval,ir53,fs98,fs109,fs111,hok,hall,hag,hkd,hPP,hbn,hst,stV,hN,Int.toNat_natCast]
   intro X
   repeat refine om_ ?_
   intro X1
   repeat refine om_ ?_
   have hNB:(N:Int)<=8192:=by omega
   obtain⟨ff,hff⟩:∃ f:Nat->Xf.Loc,(fun i=>X1 6 (15+(i+7)))=f:=⟨_,rfl⟩
   rw[hff]
   have hwf0:=hwf ff
   have hALL:encG xs P (st0 ⟨w,h,lv,kd⟩ ff) (List.replicate 12 0)=encP ⟨w,h,xs⟩ lv kd:=by
    rw[hP,her,<-her ff,encG_er xs P _ _ hwf0.2.2]
   simp only[hst]at hwf0 hALL
   obtain⟨BK,hBK⟩:∃ B,bkOf ff (bkts w h lv)=B:=⟨_,rfl⟩
   obtain⟨BL,hBL⟩:∃ B,bandL w h lv=B:=⟨_,rfl⟩
   rw[hBK,hBL]at hwf0 hALL ⊢
   have hBKl:BK.length<=50000:=hwf0.1.2.2.2.2.2.2.2.1
   have hBLl:BL.length=N:=hwf0.1.2.2.2.1
   have hrep0:(List.replicate N (0:Int)).length=N:=List.length_replicate
   have hrepf:(List.replicate N false).length=N:=List.length_replicate
   have hz12:([0,0,0,0,0,0,0,0,0,0,0,0]:List Int)=List.replicate 12 0:=rfl
   have hz12l:(List.replicate 12 (0:Int)).length=12:=List.length_replicate
   have hofw:ofWf xs N:=⟨by omega,fun x hx=>by have:=hall x hx;omega⟩
   have hmd0:=zero12_ok hkd
   rw[hz12]
   obtain⟨Z,hZ⟩:∃ Z,List.replicate 12 (0:Int)=Z:=⟨_,rfl⟩
   rw[hZ]at hALL hmd0 hz12l ⊢
   refine evS_loopU (A:=Nat×StS×List Int×Xf.Loc×List (Xf.Loc×List Int)×Xf.Loc) kp53_1 kl53_1 (fun y=>[(10,.int .i64 (y.1-1)),(9,.sl 24 y.2.2.2.2.2 1 0 y.2.2.2.2.1.length)])
    (fun y=>[(15,.mine,X1 6 15,.ints .i64 y.2.1.size),(16,.mine,X1 6 16,.bools y.2.1.minus),(17,.mine,X1 6 17,.ints .i64 y.2.1.since),(18,.mine,X1 6 18,.recs 4 false [] (y.2.1.list.map Bck.rc)),(19,.mine,y.2.2.2.1,.ints .i64 y.2.2.1),(21,.mine,X1 6 21,.cells (relabs (fun i=>i+14) (stV ⟨X1 6 21,X1 6 15,X1 6 16,X1 6 17,X1 6 18,y.2.2.2.1,X1 6 20⟩ y.2.1))),(24,.mine,y.2.2.2.2.2,.recs 1 true [] (y.2.2.2.2.1.map byRc))])
    (fun y=>y.1<=P/\y.2.2.2.2.1.map (·.2)++encG xs y.1 y.2.1 y.2.2.1=encP ⟨w,h,xs⟩ lv kd/\(stWf y.2.1 N/\szWf y.2.1/\y.2.1.now+y.1=P/\y.2.1.kind=kd/\y.2.1.nst=12/\y.2.1.band=BL/\y.2.1.w=w/\y.2.1.list.length=BK.length)/\mdOk kd y.2.2.1/\y.2.2.1.length=12/\y.2.2.2.2.1.length+y.1=P) (fun y=>y.1)
    (P,⟨List.replicate N 0,List.replicate N false,List.replicate N 0,0,BK,kd,12,BL,w⟩,Z,X1 6 19,[],nilLoc) ⟨Nat.le_refl _,hALL,⟨hwf0.1,hwf0.2.1,by simp only;omega,rfl,rfl,rfl,rfl,rfl⟩,hmd0,hz12l,by simp⟩ (Sub.of (mkG 46 [(0,0),(10,10),(15,15),(16,16),(17,17),(18,18),(19,19),(20,20),(21,21)]) ?_) ?_
   ·simp -implicitDefEqProofs only[push_cast,zz,seval,stV,hrep0,hrepf,hBLl]
   intro ⟨k,s,st,S,rows,M⟩ ⟨(hk:k<=P),(hrows:rows.map (·.2)++encG xs k s st=encP ⟨w,h,xs⟩ lv kd),⟨(hwfs:stWf s N),(hszs:szWf s),(hnow:s.now+k=P),(hkind:s.kind=kd),(hnst:s.nst=12),(hband:s.band=BL),(hw:s.w=w),(hll:s.list.length=BK.length)⟩,(hmd:mdOk kd st),(hst12:st.length=12),(hrl:rows.length+k=P)⟩ K hK
   obtain⟨size,minus,since,now,list,kind',nst',band',w'⟩:=s
   simp only at hnow hkind hnst hband hw hll
   subst hkind hnst hband hw
   obtain⟨p1,p2,p3,p4,p5,p6,p7,p8,p9,p10,p11⟩:=id hwfs
   simp only at p1 p2 p3 p8
   rcases Nat.eq_zero_or_pos k with hk0 | hk0
   ·obtain⟨t,ht⟩:∃ t,(k:Int)-1=t:=⟨_,rfl⟩
    have hc:¬ (0:Int)<=t:=by omega
    rw[hk0,encG,List.append_nil]at hrows
    have hby:=byOf_eq hrows
    have hlen:rows.length=(encP ⟨w',h,xs⟩ lv kind').length:=by rw[<-hrows,List.length_map]
    have hoa:(⟨w',h,xs⟩:Pl).Ok/\argsOk lv kind':=⟨hok,hag⟩
    have h10:∀ i:Nat,¬ i+1=0:=fun i=>by omega
    clear hK
    simp -implicitDefEqProofs only[push_cast,zz,seval,b53_1,ht,hc,r53_2]
    refine postF.mk' (fun j=>if j=0 then M else (rows.getD (j-1) (nilLoc,[])).1) [some 0,some 24] ?_
    simp -implicitDefEqProofs only[push_cast,zz,seval,fs53,hE,hoa,lx,h10,Nat.add_sub_cancel,hby,hlen,hok,hag]
   ·obtain⟨k,rfl⟩:∃ t,k=t+1:=⟨k-1,by omega⟩
    have hc:(0:Int)<=k:=by omega
    have hk1:(k:Int)+1-1=k:=by omega
    have hnew:=newEn_ok hmd
    have hslR:∀ p L LS LO LX F,slR ⟨p,⟨size,minus,since,now,list,kind',12,band',w'⟩,L,LS,LO,LX,⟨kind',st,0,4294967295,[]⟩,F,xs,(k:Int)⟩=encStep xs k ⟨size,minus,since,now,list,kind',12,band',w'⟩ st:=fun _ _ _ _ _ _=>rfl
    have hslok:slOk ⟨size,minus,since,now,list,kind',12,band',w'⟩ ⟨kind',st,0,4294967295,[]⟩ xs (k:Int):=⟨by simp only[p3];exact hwfs,hszs,hnew,hst12,by simp,by simp only[p3];exact hofw,by omega,by omega⟩
    have hinv:=slcE_inv xs (k:Int) (by omega) (by omega) N list.length 0 ⟨size,minus,since,now,list,kind',12,band',w'⟩ (newEn kind' st) hwfs hszs hnew hst12 (by simp)
    have hcons:encG xs (k+1) ⟨size,minus,since,now,list,kind',12,band',w'⟩ st=_:=encG.eq_2 xs ⟨size,minus,since,now,list,kind',12,band',w'⟩ st k
    obtain⟨D,hD⟩:∃ D,encStep xs k ⟨size,minus,since,now,list,kind',12,band',w'⟩ st=D:=⟨_,rfl⟩
    rw[show slcG putG xs (k:Int) list.length 0 ⟨size,minus,since,now,list,kind',12,band',w'⟩ (newEn kind' st)=D from hD]at hinv
    rw[hD]at hcons
    simp only[hD]at hslR
    obtain⟨i1,i2,i3,i4⟩:=hinv
    have hwfD:stWf D.1 N:=i1.wf ⟨p1,p2,p3,p4,p5,by simp only;omega,by simp only;omega,p8,p9,p10,p11⟩
    obtain⟨⟨size2,minus2,since2,now2,list2,kind2,nst2,band2,w2⟩,e2,er2⟩:=D
    obtain⟨j1,j2,j3,j4,j5,j6,j7,j8,j9⟩:=i1
    simp only at j1 j2 j3 j4 j6 j7 j8 j9 i4
    have j6:=j6.symm
    have j8:=j8.symm
    have j9:=j9.symm
    subst j4 j6 j7 j8 j9 i4
    have q1:size2.length=N:=j1.trans p1
    have q2:minus2.length=N:=j2.trans p2
    have q3:since2.length=N:=j3.trans p3
    have q4:list2.length=list.length:=j5.len
    obtain⟨ek,est,elo,ehi,eout⟩:=e2
    obtain⟨t1,t2,t3,t4⟩:=i3
    simp only[newEn]at t2 t3 t4
    obtain rfl:kind'=ek:=t4.symm
    have he12:est.length=12:=t3.trans hst12
    have hmd2:mdOk kind' est:=t1.md he12
    have hout:eout.length<=200000000:=by simp only[List.length_nil]at t2;omega
    obtain⟨code,hcode⟩:∃ c,encEnd ⟨kind',est,elo,ehi,eout⟩=c:=⟨_,rfl⟩
    rw[hcode]at hcons
    rw[hcons]at hrows
    have hcl:code.length<=200000004:=by
     rw[<-hcode];unfold encEnd endP endN
     rw[List.length_append,List.length_map,List.length_range]
     have:∀ n,n<=4->eout.length+n<=200000004:=fun n hn=>by omega
     simp only
     repeat' split
     all_goals exact this _ (by decide)
    have hst12I:(st.length:Int)=12:=by omega
    have he12I:(est.length:Int)=12:=by omega
    simp -implicitDefEqProofs only[push_cast,zz,seval,b53_1,hc,hk1,stV,p1,p2,p3,p4,hll,fs112,mdM,hmd,hst12I,enV,ivV,newEn,fs113E,slM,hslR,hslok,fs116,fs117,enM,q1,q2,q3,q4,t1,hout,hcode,he12I]
    intro X2 X3 X4
    repeat refine om_ ?_
    intro X5
    repeat refine om_ ?_
    refine⟨by rw[List.length_map],by omega,by omega,by omega,?_⟩
    refine hK (k,⟨size2,minus2,since2,now+1,list2,kind',12,band',w'⟩,est,X4 2 36,rows++[((X5 2 40).fr 0,code)],X5 4 45) ⟨by omega,by rw[List.map_append,List.append_assoc];exact hrows,⟨hwfD,i2,by simp only;omega,rfl,rfl,rfl,rfl,by simp only;omega⟩,hmd2,he12,by simp only[List.length_append,List.length_singleton];omega⟩ (Nat.lt_succ_self k) _ _ (Sub.of (mkG 46 [(0,0),(10,10),(15,15),(16,16),(17,17),(18,18),(19,36),(20,20),(21,21),(24,45)]) ?_)
    have hrc:(rows++[((X5 2 40).fr 0,code)]).map byRc=rows.map byRc++[[.row ((X5 2 40).fr 0) .u8 code]]:=by rw[List.map_append];rfl
    simp -implicitDefEqProofs only[push_cast,zz,seval,stV,q1,q2,q3,q4,p4,hll,hrc,he12I,List.length_append,sub_all]
  ·have hE:encE ⟨w,h,xs⟩ lv kd=2:=by unfold encE;rw[if_pos hok,if_neg hag]
   have hP:encP ⟨w,h,xs⟩ lv kd=[]:=by unfold encP;rw[if_neg (fun h=>hag h.2)]
   simp -implicitDefEqProofs only[push_cast,zz,seval,ir53,fs98,hok,hag]
   intro X
   repeat refine om_ ?_
   refine postF.mk' (fun _=>default) [some 0,none] ?_
   have hb:byOf (fun _=>default) []=[]:=rfl
   simp -implicitDefEqProofs only[push_cast,zz,seval,fs53,hE,hP,hok,hag,and_false,lx,hb,List.length_nil]
 ·have hE:encE ⟨w,h,xs⟩ lv kd=70:=by unfold encE;rw[if_neg hok]
  have hP:encP ⟨w,h,xs⟩ lv kd=[]:=by unfold encP;rw[if_neg (fun h=>hok h.1)]
  simp -implicitDefEqProofs only[push_cast,zz,seval,ir53,fs98,hok]
  intro X
  repeat refine om_ ?_
  refine postF.mk' (fun _=>default) [some 0,none] ?_
  have hb:byOf (fun _=>default) []=[]:=rfl
  simp -implicitDefEqProofs only[push_cast,zz,seval,fs53,hE,hP,hok,false_and,lx,hb,List.length_nil]
def ent53:Entry:=spOf fs53 inv53
theorem e53:EntryOk Tryz.prog 53 ent53:=entry_of ok53 inv53
@[push_cast] theorem ent53_a u l x k:ent53 u l x k=spOf fs53 inv53 u l x k:=rfl
def decStep (f:List Int) (t:Int) (s:StS) (st c:List Int):StS×DeS×Int:=slcG getG f t s.list.length 0 s (newDe s.kind st c)
def decG (f:List Int):List (List Int)->Int->StS->List Int->StS×Int
 | [],_,s,_=>(s,0)
 | c::l,t,s,st=>if (decStep f t s st c).2.2=0 then decG f l (t-1) (decStep f t s st c).1 (decStep f t s st c).2.1.st else ((decStep f t s st c).1,(decStep f t s st c).2.2)
theorem decStep_er (f:List Int) (t:Int) (s:StS) (st c:List Int) (h:parOk s.list):decStep f t s.er st c=((decStep f t s st c).1.er,(decStep f t s st c).2):=by
 have:=slcG_er getG f t s.list.length 0 s (newDe s.kind st c) (by omega) h
 unfold decStep
 rw[<-this]
 have e:s.er.list.length=s.list.length:=by simp[StS.er]
 rw[e];rfl
theorem decG_er (f:List Int):∀ (l:List (List Int)) (t:Int) (s:StS) (st:List Int),parOk s.list->decG f l t s.er st=((decG f l t s st).1.er,(decG f l t s st).2)
 | [],t,s,st,_=>rfl
 | c::l,t,s,st,h=>by
  rw[decG,decG,decStep_er f t s st c h]
  simp only
  split
  ·rw[decG_er f l _ (decStep f t s st c).1 _ (h.same (slcG_k getG f t s.list.length 0 s (newDe s.kind st c)))]
  ·rfl
structure DcA where
 w:Int
 h:Int
 lv:Int
 kd:Int
 P:Int
 L:Xf.Loc
 rows:List (Xf.Loc×List Int)
 n:Nat
def decOk (w h lv kd P:Int) (n:Nat):Prop:=(0<=w/\0<=h/\w<=200/\h<=200/\w*h<=8192)/\argsOk lv kd/\0<=P/\P<=25/\n<=P
instance decOk_dec (w h lv kd P:Int) (n:Nat):Decidable (decOk w h lv kd P n):=by unfold decOk;infer_instance
def decR (w h lv kd P:Int) (cs:List (List Int)):StS×Int:=decG (List.replicate (w*h).toNat 0) cs (P-1) (st00 ⟨w,h,lv,kd⟩) (List.replicate 12 0)
def decE (w h lv kd P:Int) (cs:List (List Int)):Int:=if decOk w h lv kd P cs.length then (decR w h lv kd P cs).2 else 2
def decP (w h lv kd P:Int) (cs:List (List Int)):Pl:=if decE w h lv kd P cs=0 then ⟨w,h,plL (decR w h lv kd P cs).1⟩else pl0
def DcA.cs (a:DcA):List (List Int):=(a.rows.take a.n).map (·.2)
def getBy:List (List RC)->Option (List (Xf.Loc×List Int))
 | []=>some []
 | [.row L .u8 xs]::l=>match getBy l with | some r=>some ((L,xs)::r) | none=>none
 | _=>none
theorem getBy_map:∀ l:List (Xf.Loc×List Int),getBy (l.map byRc)=some l
 | []=>rfl
 | g::l=>by
  simp only[List.map_cons,byRc,getBy]
  have:=getBy_map l
  rw[this]
@[push_cast] theorem getBy_map' (l:List (Xf.Loc×List Int)):getBy (l.map byRc)=some l:=getBy_map l
def rowBy (look:Look) (d:Nat):Option (Xf.Loc×List (Xf.Loc×List Int)):=
 bif d==4096 then some (nilLoc,[])else match rowR (look d)with
  | some (L,1,_,r)=>match getBy r with | some l=>some (L,l) | none=>none
  | _=>none
def invDc:List SV->Look->Option (DcA×List Nat)
 | [.int .i64 w,.int .i64 h,.int .i64 lv,.int .i64 kd,.int .i64 P,.sl d _ 1 0 n],look=>match rowBy look d with
  | some (L,rows)=>some (⟨w,h,lv,kd,P,L,rows,n.toNat⟩,[d])
  | none=>none
 | _,_=>none
attribute [push_cast] rowBy invDc
def rowsWf (rows:List (Xf.Loc×List Int)):Prop:=rows.length<=1000000000/\∀ r∈rows,byAll r.2/\r.2.length<=140737488355328
def fs137:FS where
 A:=DcA
 args:=fun a=>[.int .i64 a.w,.int .i64 a.h,.int .i64 a.lv,.int .i64 a.kd,.int .i64 a.P,.sl 0 a.L 1 0 a.n]
 mem:=fun a=>[some (.ro,a.L,.recs 1 false [] (a.rows.map byRc))]
 pre:=fun a=>rowsWf a.rows/\a.n<=a.rows.length
 res:=fun a x=>.tup [plV (decP a.w a.h a.lv a.kd a.P a.cs) (lx (decE a.w a.h a.lv a.kd a.P a.cs=0) x 0) 1,.int .i64 (decE a.w a.h a.lv a.kd a.P a.cs)]
 new:=fun a x=>[(lx (decE a.w a.h a.lv a.kd a.P a.cs=0) x 0,.ints .i64 (decP a.w a.h a.lv a.kd a.P a.cs).xs)]
theorem newDe_ok {kind:Int} {st c:List Int} (h:mdOk kind st) (hb:byAll c) (hl:c.length<=140737488355328):(newDe kind st c).ok:=by
 obtain⟨h1,h2⟩:=h
 have hv:=vN_bd hb 4
 exact⟨⟨h1,show st.length<=1000000 by omega,show(0:Int)<=0 by decide,show(0:Int)<4294967295 by decide,show(4294967295:Int)<4294967296 by decide,show ¬ (0:Int) / 16777216=4294967295 / 16777216 by decide⟩,⟨hl,hb,show(0:Int)<=4 by decide,show(4:Int)<=_ by omega,hv.1,hv.2,rfl⟩,show(4:Int)<=c.length+4 by omega⟩
def ir100:IR:=
 .seq (r_ [o_ 1 (.box 10 (.t 0)),o_ 2 (.mov (.k (.val .nilFunc)))] [0,2]) (.seq (r_ [o_ 3 (.mkf 152 [.t 1]),m_ 2 3] [1,3]) (.ret))
set_option maxRecDepth 4000 in
theorem comp100:(Tryz.f100.body.bind fun c=>compC tab isP chkAll ir100 c)=some ir100:=by kernel_rfl
def b152_1:IRG:=
 .seq (.seq (.reg false [m_ 7 3,c_ 8 .geq 7 0] [7]) (.cond (.t 8) (.skip) (.exit 0))) (.seq (.block 1 (.seq (.yl [m_ 11 0,m_ 12 3,l_ 13 1,m_ 14 3,i_ 15 13 14 2,o_ 16 (.ld true (some 2) 0 0 (.t 15))] (some 17) (.t 11) [.t 12,.t 16] [o_ 18 (.not (.t 17))] [8,11,12,13,14,15,16,17]) (.cond (.t 18) (.ret) (.skip)))) (.reg false [m_ 9 3,c_ 10 .sub 9 1,m_ 3 10] [9,10,18]))
def ir152:IRG:=
 .seq (.reg false [l_ 4 1,h_ 5 4,c_ 6 .sub 5 1,m_ 3 6] [4,5,6]) (.block 0 (.loop b152_1))
def kp152_1:List Nat:=[0,1,3]
attribute [push_cast] kp152_1
set_option maxRecDepth 4000 in
theorem comp152:(Tryz.f152.body.bind fun c=>compGd tab isP chkAll ir152 c)=some ir152:=by kernel_rfl
structure BwA where
 L:Xf.Loc
 s:Nat
 l:List (List RC)
def fs100:FS where
 A:=BwA
 args:=fun a=>[.sl 0 a.L a.s 0 a.l.length]
 mem:=fun a=>[some (.ro,a.L,.recs 2 false [] a.l)]
 res:=fun a x=>.fn 152 [.ptr 1 (x 0) 0 0 0]
 new:=fun a x=>[(x 0,.cells [.sl 0 a.L a.s 0 a.l.length])]
def inv100:List SV->Look->Option (BwA×List Nat)
 | [.sl c _ s 0 _],look=>match rowR (look c)with
  | some (L,2,_,l)=>some (⟨L,s,l⟩,[c])
  | _=>none
 | _,_=>none
attribute [push_cast] inv100
theorem ok100:FSOk Tryz.prog 100 fs100:=by
 refine hd_ (fk_ Tryz.func100) fun a hp=>?_
 obtain⟨L,s,l⟩:=a
 change Tri Tryz.prog 100 [.sl 0 L s 0 l.length] [some (.ro,L,.recs 2 false [] l)] (postF fs100 ⟨L,s,l⟩)
 refine tri_evS (hyp (l:=[]) (lp:=[]) trivial trivial) Tryz.func100 comp100 (rs:=[.tmp 2]) (by rfl) Tryz.ntmps100 11 ?_
 simp -implicitDefEqProofs only[push_cast,zz,seval,ir100]
 intro X
 refine postF.mk' (fun _=>X 0 10) [some 0,some 10] ?_
 simp -implicitDefEqProofs only[push_cast,zz,seval,fs100]
def ent100:Entry:=spOf fs100 inv100
theorem e100:EntryOk Tryz.prog 100 ent100:=entry_of ok100 inv100
@[push_cast] theorem ent100_a u l x k:ent100 u l x k=spOf fs100 inv100 u l x k:=rfl
structure BwI where
 F:Xf.Loc
 L:Xf.Loc
 s:Nat
 w:Nat
 h:Nat
 n:Nat
def bwX (w h n k:Nat):List SV:=[.int .i64 ((n-1-k:Nat):Int),.agg [.int .i64 (hlf w (n-1-k)),.int .i64 (hlf h (n-1-k))]]
def its152:ITS where
 A:=BwI
 cs:=fun a=>[.ptr 0 a.F 0 0 0]
 mem:=fun a=>[some (.ro,a.F,.cells [.sl 1 a.L a.s 0 a.n]),some (.ro,a.L,.recs 2 false [] (tabR a.n (sdR a.w a.h)))]
 n:=fun a=>a.n
 xs:=fun a=>bwX a.w a.h a.n
 pre:=fun a=>a.n<=7/\(0<a.n->a.s=2)
theorem it152:ItOk Tryz.prog 152 its152:=by
 refine⟨fk_ Tryz.func152,fun a hp=>?_⟩
 obtain⟨F,L,s,w,h,n⟩:=a
 obtain⟨h1,h2⟩:n<=7/\(0<n->s=2):=hp
 change IterOk Tryz.prog 152 [.ptr 0 F 0 0 0] [some (.ro,F,.cells [.sl 1 L s 0 n]),some (.ro,L,.recs 2 false [] (tabR n (sdR w h)))] n (bwX w h n)
 refine iter_of (hyp (l:=[]) (lp:=[]) trivial trivial) Tryz.func152 comp152 (by rfl) Tryz.ntmps152 fun l=>?_
 simp -implicitDefEqProofs only[push_cast,zz,seval,ir152]
 repeat refine om_ ?_
 refine evY_loopU (A:=Nat) _ _ _ _ _ _ _ kp152_1 (fun k=>k) (fun k=>[(3,.int .i64 ((n:Int)-1-k))]) (fun k=>k<=n) (fun k=>n-k) 0 (Nat.zero_le _) rfl ?_ ?_
 ·have e0:(n:Int)-1-0=n-1:=by omega
  simp -implicitDefEqProofs only[push_cast,zz,seval,e0]
 intro k (hk:k<=n) K hK
 by_cases hk':k<n
 ·obtain⟨i,hi⟩:∃ i:Nat,i=n-1-k:=⟨_,rfl⟩
  have e1:(n:Int)-1-k=(i:Int):=by omega
  obtain rfl:=h2 (by omega)
  have r1:=recAt_tabR (n:=n) (i:=i) (by omega) (sdR w h) []
  simp only[e1]
  simp -implicitDefEqProofs only[push_cast,zz,seval,b152_1,r1,sdR,bwX,tabR_length,<-hi,Option.some.injEq,exists_eq_left',hk']
  refine⟨fun _=>?_,fun h=>by omega⟩
  repeat refine om_ ?_
  refine hK (k+1) (by omega) (by omega) _ _ rfl ?_
  have e2:(n:Int)-1-((k+1:Nat):Int)=i-1:=by omega
  simp only[e2]
  simp -implicitDefEqProofs only[push_cast,zz,seval]
 ·obtain rfl:k=n:=by omega
  have e1:(k:Int)-1-k=-1:=by omega
  simp only[e1]
  simp -implicitDefEqProofs only[push_cast,zz,seval,b152_1]
  all_goals (intro h;omega)
def b46_1:IR:=
 .block 1 (.seq (r_ [l_ 37 9,o_ 38 (.idxP (.t 11) (Z_ 0) 2 1),L_ 39 38,o_ 40 (.idxP (.t 11) (Z_ 1) 2 1),L_ 41 40,o_ 42 (.call none 31 97 [.t 37,.t 39,.t 41,.k (.fn 101 [])])] [37,38,39,40,41,42]) (r_ [l_ 43 9,o_ 44 (.idxP (.t 11) (Z_ 0) 2 1),L_ 45 44,o_ 46 (.idxP (.t 11) (Z_ 1) 2 1),L_ 47 46,o_ 48 (.call none 35 95 [.t 43,.t 45,.t 47,.k (.fn 101 [])])] [9,11,43,44,45,46,47,48]))
def r46_2:IR:=
 .seq (.seq (r_ [l_ 49 9,n_ 50 49,f_ 51 50 1,l_ 52 51,o_ 53 (.call (some 4) 39 92 [.t 52,Z_ 16777216]),o_ 54 (.not (.t 53))] [49,50,51,52,53]) (.cond (.t 54) (.seq (r_ [o_ 55 (.build [y_,y_,nilSV] []),s_ 3 .i64 6 55,z_ 7 4] [3,9,54,55]) (.ret)) (.skip))) (.seq (R_ [f_ 56 3 0,l_ 57 56,f_ 58 3 1,l_ 59 58,l_ 60 9,n_ 61 60,f_ 62 61 1,l_ 63 62,o_ 64 (.build [y_,y_,nilSV] [(0,1,.t 57),(1,1,.t 59),(2,1,.t 63)]),s_ 3 .i64 6 64,z_ 7 0] [3,9,54,56,57,58,59,60,61,62,63,64]) (.ret))
def ir46:IR:=
 .seq (r_ [o_ 3 (.box 10 (.t 0)),o_ 6 (.alloc 11 [y_,y_,nilSV]),z_ 7 0] [0,7]) (.seq (.seq (r_ [o_ 12 (.ld false (some 3) 0 0 (.t 3)),m_ 13 1,m_ 14 2,o_ 15 (.call (some 4) 12 91 [.t 12,.t 13,.t 14]),m_ 8 15] [12,13,14,15]) (.seq (r_ [m_ 16 8,c_ 17 .neq 16 0] [16]) (.cond (.t 17) (.seq (r_ [o_ 18 (.build [y_,y_,nilSV] []),m_ 19 8,s_ 3 .i64 6 18,m_ 7 19] [1,2,3,8,17,18,19]) (.ret)) (.skip)))) (.seq (R_ [f_ 20 3 0,⟨some 21,none,⟨[16,17,18,19,21],[]⟩,.ld false none 0 0 (.t 20)⟩,f_ 22 3 2,⟨some 23,none,⟨[21],[]⟩,.ld false none 0 0 (.t 22)⟩,⟨some 24,none,⟨[21],[]⟩,.call (some 4) 16 93 [.t 23]⟩,m_ 25 1,o_ 26 (.build [y_,nilSV,y_] [(0,1,.t 21),(1,1,.t 24),(2,1,.t 25)]),o_ 27 (.box 20 (.t 26)),o_ 9 (.alloc 21 [.val (.pointer none)]),s_ 1 .i64 9 27] [1,7,8,17,20,21,22,23,24,25,26,27]) (.seq (.seq (r_ [f_ 28 3 0,l_ 29 28,f_ 30 3 1,l_ 31 30,m_ 32 2,o_ 33 (.call (some 4) 22 94 [.t 29,.t 31,.t 32]),o_ 34 (.call (some 4) 26 100 [.t 33])] [2,28,29,30,31,32,33]) (.block 0 (.rf (.t 34) [35,36] (r_ [o_ 11 (.allocI 30 .i64 2),S_ 2 .i64 11 36] [3,6,34,35,36]) (b46_1) [34] []))) (r46_2))))
set_option maxRecDepth 4000 in
theorem comp46:(Tryz.f46.body.bind fun c=>compC tab isP chkAll ir46 c)=some ir46:=by kernel_rfl
def ivL (p:Pl) (kind n:Int):List Int:=bwd unL kind p.w.toNat p.h.toNat n.toNat p.xs n.toNat
def ivOk (p:Pl) (kind n:Int):Prop:=p.Ok/\stOk kind n/\AllIn (-16777216) 16777216 (ivL p kind n)
instance (p:Pl) (kind n:Int):Decidable (ivOk p kind n):=by unfold ivOk;infer_instance
def ivP (p:Pl) (kind n:Int):Pl:=if ivOk p kind n then ⟨p.w,p.h,ivL p kind n⟩else pl0
def ivE (p:Pl) (kind n:Int):Int:=if ivOk p kind n then 0 else if p.Ok then if stOk kind n then 4 else 2 else 70
theorem bwd_bd6 {kind:Int} {W H:Nat} {xs:List Int} (hl:xs.length=H*W) (h:AllIn (-16777216) 16777216 xs) {n i:Nat} (hi:i<=5):AllIn (-375299968947541) 375299968947541 (bwd unL kind W H n xs i) /\
  ∀ (w h:Nat),w<=W->h<=H->AllIn (-375299968947541) 375299968947541 (clL unL kind W h (bwd unL kind W H n xs i) w):=by
 have hB:=bwd_bd trn_unline (kind:=kind) (W:=W) (h:=H) (n:=n) (by omega) h (by omega) i
 have h0:(0:Int)<=bnd 16777216 i:=bnd_pos (by omega) i
 have key:∀ i:Nat,i<=5->3*bnd 16777216 i+1<=375299968947541:=by
  intro i hi
  have:i=0∨i=1∨i=2∨i=3∨i=4∨i=5:=by omega
  rcases this with rfl | rfl | rfl | rfl | rfl | rfl<;>decide
 have k:=key i hi
 have up:∀ (B:Int) (ys:List Int),B<=375299968947541->AllIn (-B) B ys->AllIn (-375299968947541) 375299968947541 ys:=fun B ys hB h n hn=>by have:=h n hn;omega
 refine⟨up _ _ (by omega) hB,fun w h hw hh=>up _ _ k (clL_bd trn_unline (by rw[bwd_length,hl];exact Nat.mul_le_mul_right _ hh) hw hB h0)⟩
def fs46:FS where
 A:=AskA
 args:=fun a=>[plV a.a.p a.a.L 0,.int .i64 a.kind,.int .i64 a.n]
 mem:=fun a=>[some (.ro,a.a.L,.ints .i64 a.a.p.xs)]
 pre:=fun a=>a.a.p.xs.length<=140737488355328
 res:=fun a x=>.tup [plV (ivP a.a.p a.kind a.n) (lx (ivOk a.a.p a.kind a.n) x 0) 1,.int .i64 (ivE a.a.p a.kind a.n)]
 new:=fun a x=>[(lx (ivOk a.a.p a.kind a.n) x 0,.ints .i64 (ivP a.a.p a.kind a.n).xs)]
set_option maxHeartbeats 1000000 in
theorem ok46:FSOk Tryz.prog 46 fs46:=by
 refine hd_ (fk_ Tryz.func46) fun a hp=>?_
 obtain⟨⟨⟨w,h,xs⟩,L⟩,kind,n⟩:=a
 change xs.length<=140737488355328 at hp
 change Tri Tryz.prog 46 [plV ⟨w,h,xs⟩ L 0,.int .i64 kind,.int .i64 n] [some (.ro,L,.ints .i64 xs)] (postF fs46 ⟨⟨⟨w,h,xs⟩,L⟩,kind,n⟩)
 refine tri_evS (hypI (l:=[(91,ent91),(92,ent92),(93,ent93),(94,ent94),(100,ent100),(95,ent95u),(97,ent97u)]) (li:=[(152,its152)]) (lp:=[])
  ⟨e91,e92,e93,e94,e100,e95u,e97u,trivial⟩ ⟨it152,trivial⟩ trivial) Tryz.func46 comp46 (rs:=[.cell 6 (some 3),.tmp 7]) (by rfl) Tryz.ntmps46 43 ?_
 simp -implicitDefEqProofs only[push_cast,zz,seval,ir46,fs91]
 by_cases hO:(⟨w,h,xs⟩:Pl).Ok/\stOk kind n
 ·obtain⟨hO,hS⟩:=hO
  have hE:askE ⟨w,h,xs⟩ kind n=0:=by unfold askE;rw[if_pos hO,if_pos hS]
  simp -implicitDefEqProofs only[push_cast,zz,seval,hE,hp]
  obtain⟨hs,hl,ha⟩:SidesOk w h/\(xs.length:Int)=w*h/\AllIn (-16777216) 16777216 xs:=id hO
  obtain⟨W,H,rfl,rfl,hW,hH,hl2,hl3⟩:=Pl.nat hs hl
  obtain⟨hk,hn0,hn6⟩:=id hS
  obtain⟨n,rfl⟩:∃ m:Nat,n=(m:Int):=⟨n.toNat,by omega⟩
  simp -implicitDefEqProofs only[push_cast,zz,seval,fs93,fs94,fs100,tabR_length,Int.toNat_natCast]
  intro X X1
  repeat refine om_ ?_
  intro X2
  refine⟨hW,hH,by omega,?_⟩
  obtain⟨LS,hLS⟩:∃ LS,lx (0<n) (fun j=>X2 5 (22+j)) 0=LS:=⟨_,rfl⟩
  rw[hLS]
  refine evS_rf its152 ⟨X2 6 26,LS,esz 2 n,W,H,n⟩ rfl ⟨show n<=7 by omega,fun h=>esz_pos h⟩ ⟨by kernel_rfl,by kernel_rfl⟩ rfl ?_ (fun _ _=>rfl) (A:=Unit)
   (fun k _=>[(16,.mine,X1 4 16,.ints .i64 (bwd unL kind W H n xs k)),(22,.mine,LS,.recs 2 false [] (tabR n (sdR W H)))]) (fun k _=>k<=n) () (Nat.zero_le _) ?_ [some 26,some 22] ?_ ?_ ?_ ?_
  ·simp -implicitDefEqProofs only[push_cast,zz,seval,its152]
  ·simp -implicitDefEqProofs only[push_cast,zz,seval,bwd]
  ·simp -implicitDefEqProofs only[push_cast,zz,seval,its152]
  ·intro k _ _
   simp -implicitDefEqProofs only[push_cast,zz,seval,its152]
  ·intro k _ (hk1:k<n) _ K hK
   obtain⟨i,hi⟩:∃ i:Nat,i=n-1-k:=⟨_,rfl⟩
   have b1:=hlf_le W i
   have b2:=hlf_le H i
   obtain⟨f1,f2⟩:=bwd_bd6 (kind:=kind) (n:=n) hl2 ha (i:=k) (by omega)
   have f2:=f2 (hlf W i) (hlf H i) b1 b2
   have hL:=bwd_length unL kind W H n xs k
   have hR:=clL_length unL kind W (hlf H i) (bwd unL kind W H n xs k) (hlf W i)
   have hm:hlf H i*W<=xs.length:=by rw[hl2];exact Nat.mul_le_mul_right _ b2
   have q:rwL unL kind W (hlf W i) (clL unL kind W (hlf H i) (bwd unL kind W H n xs k) (hlf W i)) (hlf H i)=bwd unL kind W H n xs (k+1):=by rw[hi];rfl
   have e0:rd [(hlf W i:Int),(hlf H i:Int)] 0=hlf W i:=rfl
   have e1:rd [(hlf W i:Int),(hlf H i:Int)] 1=hlf H i:=rfl
   change evS _ _ _ _ (putsE _ [35,36] (bwX W H n k)) _
   simp -implicitDefEqProofs only[push_cast,zz,seval,bwX,<-hi]
   intro X3
   simp -implicitDefEqProofs only[push_cast,zz,seval,b46_1,e0,e1,fs95u,fs97u,hL,hR,hk,f1,f2,q,Int.toNat_natCast]
   repeat refine om_ ?_
   refine hK () (by omega) _ _ ?_
   simp -implicitDefEqProofs only[push_cast,zz,seval]
  ·intro _ _
   have hL:=bwd_length unL kind W H n xs n
   have hI:ivL ⟨W,H,xs⟩ kind n=bwd unL kind W H n xs n:=by unfold ivL;simp only[Int.toNat_natCast]
   simp -implicitDefEqProofs only[push_cast,zz,seval,its152,r46_2,fs92,hL]
   repeat refine om_ ?_
   refine⟨fun hb=>?_,fun hg=>?_⟩
   ·have e:¬ ivOk ⟨W,H,xs⟩ kind n:=fun H=>hb (by rw[<-hI];exact H.2.2)
    refine postF.mk' (fun _=>default) [some 0,none] ?_
    simp -implicitDefEqProofs only[push_cast,zz,seval,fs46,ivP,ivE,e,hO,hS,if_false,if_true,lx,pl0]
   ·have e:ivOk ⟨W,H,xs⟩ kind n:=⟨hO,hS,by rw[hI];exact hg⟩
    refine postF.mk' (locs [X1 4 16]) [some 0,some 16] ?_
    simp -implicitDefEqProofs only[push_cast,zz,seval,fs46,ivP,ivE,e,hI,hL,if_true,lx]
 ·have e:¬ ivOk ⟨w,h,xs⟩ kind n:=fun H=>hO ⟨H.1,H.2.1⟩
  obtain⟨c,hcc,hc0,hc1⟩:∃ c:Int,askE ⟨w,h,xs⟩ kind n=c/\¬ c=0/\(if (⟨w,h,xs⟩:Pl).Ok then if stOk kind n then 4 else 2 else 70)=c:=by
   refine⟨_,rfl,?_,?_⟩
   ·unfold askE;split
    ·rename_i hq;rw[if_neg (fun q=>hO ⟨hq,q⟩)];decide
    ·decide
   ·unfold askE;split
    ·rename_i hq;rw[if_neg (fun q=>hO ⟨hq,q⟩),if_neg (fun q=>hO ⟨hq,q⟩)]
    ·rfl
  simp -implicitDefEqProofs only[push_cast,zz,seval,hcc,hp,hc0]
  refine fun X=>postF.mk' (fun _=>default) [some 0,none] ?_
  simp -implicitDefEqProofs only[push_cast,zz,seval,fs46,ivP,ivE,e,hc1,if_false,lx,pl0]
def ent46:Entry:=spOf fs46 inv91
theorem e46:EntryOk Tryz.prog 46 ent46:=entry_of ok46 inv91
@[push_cast] theorem ent46_a u l x k:ent46 u l x k=spOf fs46 inv91 u l x k:=rfl
def srt {α:Type}:List Int->List α->Int->List α
 | x::l,r::rows,k=>if x=k then r::srt l rows k else srt l rows k
 | _,_,_=>[]
theorem srt_nil {α:Type} (l:List Int) (k:Int):srt l ([]:List α) k=[]:=by cases l<;>rfl
theorem srt_snoc {α:Type} (k:Int):∀ (l:List Int) (rows:List α) (i:Nat) (h1:i<rows.length) (h2:i<l.length),srt l (rows.take (i+1)) k=srt l (rows.take i) k++(if rd l i=k then [rows[i]]else [])
 | [],_,i,_,h2=>absurd h2 (Nat.not_lt_zero _)
 | _::_,[],i,h1,_=>absurd h1 (Nat.not_lt_zero _)
 | x::l,r::rows,0,_,_=>by
  have e:rd (x::l) ((0:Nat):Int)=x:=rfl
  rw[e]
  show srt (x::l) [r] k=srt (x::l) [] k++_
  unfold srt
  split
  ·rw[srt_nil];rfl
  ·rw[srt_nil];rfl
 | x::l,r::rows,i+1,h1,h2=>by
  have ih:=srt_snoc k l rows i (Nat.lt_of_succ_lt_succ h1) (Nat.lt_of_succ_lt_succ h2)
  have e:rd (x::l) ((i+1:Nat):Int)=rd l (i:Int):=by rw[rd_nat,rd_nat];rfl
  rw[e]
  show srt (x::l) (r::rows.take (i+1)) k=srt (x::l) (r::rows.take i) k++_
  unfold srt
  rw[ih]
  split
  ·rfl
  ·rfl
theorem srt_map {α β:Type} (f:α->β) (k:Int):∀ (l:List Int) (rows:List α),(srt l rows k).map f=srt l (rows.map f) k
 | [],_=>rfl
 | _::_,[]=>rfl
 | x::l,r::rows=>by
  show(srt (x::l) (r::rows) k).map f=srt (x::l) (f r::rows.map f) k
  unfold srt
  split
  ·rw[List.map_cons,srt_map f k l rows]
  ·exact srt_map f k l rows
theorem srt_mem {α:Type} {k:Int} {x:α}:∀ {l:List Int} {rows:List α},x∈srt l rows k->x∈rows
 | [],_,h=>by cases h
 | _::_,[],h=>by cases h
 | y::l,r::rows,h=>by
  unfold srt at h
  split at h
  ·rcases List.mem_cons.1 h with rfl | h
   ·exact List.mem_cons_self
   ·exact List.mem_cons_of_mem _ (srt_mem h)
  ·exact List.mem_cons_of_mem _ (srt_mem h)
theorem srt_len {α:Type} (k:Int):∀ (l:List Int) (rows:List α),(srt l rows k).length<=rows.length
 | [],_=>Nat.zero_le _
 | _::_,[]=>Nat.zero_le _
 | y::l,r::rows=>by
  have:=srt_len k l rows
  unfold srt
  split
  ·rw[List.length_cons,List.length_cons];omega
  ·rw[List.length_cons];omega
def HdR.ord (H:HdR):List Int:=ordP H.s.d H.a H.b H.c
def HdR.pw (H:HdR) (k:Nat):Int:=if 0<k/\H.s.hf=true then (H.w+1) / 2 else H.w
def HdR.ph (H:HdR) (k:Nat):Int:=if 0<k/\H.s.hf=true then (H.h+1) / 2 else H.h
def HdR.pn (H:HdR):Nat->Int
 | 0=>H.a
 | 1=>H.b
 | _=>H.c
def HdR.dE (H:HdR) (rows:List (List Int)) (k:Nat):Int:=decE (H.pw k) (H.ph k) H.s.lv H.s.kd (H.pn k) (srt H.ord rows k)
def HdR.dP (H:HdR) (rows:List (List Int)) (k:Nat):Pl:=decP (H.pw k) (H.ph k) H.s.lv H.s.kd (H.pn k) (srt H.ord rows k)
def HdR.iE (H:HdR) (p:Pl):Int:=ivE p H.s.wv H.s.lv
def HdR.iP (H:HdR) (k:Nat) (p:Pl):Pl:=if 0<k/\H.s.hf=true then dbl ⟨⟨ivP p H.s.wv H.s.lv,nilLoc⟩,H.w,H.h⟩else ivP p H.s.wv H.s.lv
def reE:List (List Int)->Int
 | []=>80
 | b::rows=>if hdE b=0 then (if (hdP b).ord.length<rows.length then 80 else if SidesOk (hdP b).w (hdP b).h then 0 else 4)else hdE b
def fstE (a b:Int):Int:=if a=0 then b else a
def HdR.dEs (H:HdR) (rows:List (List Int)):Int:=fstE (H.dE rows 0) (if H.s.gr=true then 0 else fstE (H.dE rows 1) (H.dE rows 2))
def HdR.iEs (H:HdR) (rows:List (List Int)):Int:=fstE (H.iE (H.dP rows 0)) (if H.s.gr=true then 0 else fstE (H.iE (H.dP rows 1)) (H.iE (H.dP rows 2)))
def HdR.pl (H:HdR) (rows:List (List Int)) (k:Nat):Pl:=H.iP k (H.dP rows k)
def HdR.bk (H:HdR) (rows:List (List Int)):Bk:=⟨⟨H.pl rows 0,nilLoc⟩,⟨H.pl rows 1,nilLoc⟩,⟨H.pl rows 2,nilLoc⟩⟩
def clP (p:Pl):Pl:=⟨p.w,p.h,p.xs.map clampI⟩
def HdR.bE (H:HdR) (rows:List (List Int)):Int:=if H.s.gr=true then (if (clP (H.pl rows 0)).Gr then 0 else 70)else if (H.bk rows).Ok then 0 else if (H.bk rows).planes then 2 else 70
def HdR.bI (H:HdR) (rows:List (List Int)):Im:=if H.s.gr=true then greyI (clP (H.pl rows 0))else backI (H.bk rows)
def shE (l:List (List Int)):Int:=fstE (reE l) (fstE ((hdP (l.headD [])).dEs l.tail) (fstE ((hdP (l.headD [])).iEs l.tail) ((hdP (l.headD [])).bE l.tail)))
def shI (l:List (List Int)):Im:=if shE l=0 then (hdP (l.headD [])).bI l.tail else im0
def nuP (i:Im) (s:SyA):Nat->Pl
 | 0=>fwP (turn tY i) s.wv s.lv
 | 1=>fwP (if s.hf=true then half (turn tU i)else turn tU i) s.wv s.lv
 | _=>fwP (if s.hf=true then half (turn tV i)else turn tV i) s.wv s.lv
def isGr (i:Im):Prop:=i.R=i.G/\i.G=i.B
instance isGr_dec (i:Im):Decidable (isGr i):=by unfold isGr;infer_instance
def pnP (p:Pl):Int:=if p.Ok then planesP p.xs else 0
def mix {α:Type} [Inhabited α]:List Int->(Int->List α)->(Int->Nat)->List α
 | [],_,_=>[]
 | k::l,A,c=>(A k).getD (c k) default::mix l A (fun j=>if j=k then c j+1 else c j)
def enP (i:Im) (s:SyA) (k:Nat):List (List Int):=encP (nuP i s k) s.lv s.kd
def enN (i:Im) (s:SyA) (k:Nat):Int:=if s.gr=true/\0<k then 0 else pnP (nuP i s k)
def enE (i:Im) (s:SyA):Int:=if syOk s then (if i.Ok then (if s.gr=true/\¬ isGr i then 2 else 0)else 75)else 2
def enL (i:Im) (s:SyA):List (List Int):=if enE i s=0 then wrH ⟨i.w,i.h,s,enN i s 0,enN i s 1,enN i s 2⟩::mix (ordP s.d (enN i s 0) (enN i s 1) (enN i s 2)) (fun k=>enP i s k.toNat) (fun _=>0)else []
def b51_1:IR:=
 .seq (r_ [b_ 29 .lss 28 27] []) (.seq (.cond (.t 29) (.skip) (.exit 0)) (.seq (.block 1 (.seq (r_ [m_ 30 28,m_ 10 30] [29,30]) (.seq (.seq (r_ [m_ 31 10,c_ 32 .gtr 31 0,m_ 33 32,p_ 33 (f_ 34 3 4),p_ 33 (l_ 35 34),K_ 36 33 35] [31,32,33,34,35]) (.cond (.t 36) (r_ [m_ 38 9,m_ 39 10,m_ 40 9,m_ 41 10,i_ 42 40 41 3,o_ 43 (.ld true (some 3) 20 1 (.t 42)),o_ 44 (.call (some 4) 21 108 [.t 43]),m_ 37 44,e_ 45 37 0,e_ 46 37 1,i_ 47 38 39 3,S_ 3 .i64 47 45] [36,37,38,39,40,41,42,43,44,45,46,47]) (.skip))) (R_ [m_ 49 9,m_ 50 10,m_ 51 9,m_ 52 10,i_ 53 51 52 3,o_ 54 (.ld true (some 3) 25 1 (.t 53)),f_ 55 3 0,⟨some 56,none,⟨[25],[]⟩,.ld false none 0 0 (.t 55)⟩,f_ 57 3 1,⟨some 58,none,⟨[25],[]⟩,.ld false none 0 0 (.t 57)⟩,o_ 59 (.call (some 4) 26 44 [.t 54,.t 56,.t 58]),m_ 48 59,e_ 60 48 0,e_ 61 48 1,i_ 62 49 50 3,S_ 3 .i64 62 60] [10,36,48,49,50,51,52,53,54,55,56,57,58,59,60,61,62])))) (r_ [a_ 63 28 1,m_ 28 63] [63])))
def r51_2:IR:=
 .seq (r_ [m_ 64 9,m_ 4 64] [3,9,27,28,64]) (.ret)
def ir51:IR:=
 .seq (r_ [o_ 2 (.box 10 (.t 0)),o_ 3 (.box 11 (.t 1)),o_ 4 (.mov (.k nilSV))] [0,1,4]) (.seq (r_ [o_ 12 (.ld false (some 5) 0 0 (.t 2)),o_ 13 (.call (some 4) 12 43 [.t 12]),m_ 11 13,e_ 14 11 0,e_ 15 11 1,e_ 16 11 2,e_ 17 11 3,o_ 5 (.alloc 16 [y_,y_,nilSV]),o_ 6 (.alloc 17 [y_,y_,nilSV]),o_ 7 (.alloc 18 [y_,y_,nilSV]),s_ 3 .i64 5 14,s_ 3 .i64 6 15,s_ 3 .i64 7 16,m_ 8 17] [2,8,11,12,13,14,15,16,17]) (.seq (r_ [o_ 18 (.ld false (some 3) 0 0 (.t 5)),o_ 19 (.ld false (some 3) 0 0 (.t 6)),o_ 20 (.ld false (some 3) 0 0 (.t 7)),o_ 21 (.brecs 19 3 .i64 [.t 18,.t 19,.t 20]),m_ 9 21] [5,6,7,18,19,20,21]) (.seq (.seq (r_ [f_ 22 3 3,l_ 23 22] [22]) (.cond (.t 23) (r_ [m_ 24 9,o_ 25 (.slc (.t 24) 3 none (some (Z_ 1))),m_ 9 25] [23,24,25]) (.skip))) (.seq (.seq (r_ [m_ 26 9,h_ 27 26,z_ 28 0] [23,26]) (.block 0 (.loop b51_1))) (r51_2)))))
def kp51_1:List Nat:=[3,9,27,28]
def kl51_1:List Nat:=[20,21,22,23,24,25,26,27,28,29]
attribute [push_cast] kp51_1 kl51_1
set_option maxRecDepth 4000 in
theorem comp51:(Tryz.f51.body.bind fun c=>compC tab isP chkAll ir51 c)=some ir51:=by kernel_rfl
def prc (p:Pl) (L:Xf.Loc):List RC:=[.int .i64 p.w,.int .i64 p.h,.row L .i64 p.xs]
def rc3 (P:Nat->Pl) (N:Nat->Xf.Loc):List (List RC):=[prc (P 0) (N 0),prc (P 1) (N 1),prc (P 2) (N 2)]
theorem rc3_at (P:Nat->Pl) (N:Nat->Xf.Loc) {k:Nat} (hk:k<3) (z:List RC):recAt (k:Int) z (rc3 P N)=prc (P k) (N k):=by
 have:k=0∨k=1∨k=2:=by omega
 rcases this with rfl | rfl | rfl<;>rfl
theorem rc3_set (P:Nat->Pl) (N:Nat->Xf.Loc) {k:Nat} (hk:k<3) (p:Pl) (M:Xf.Loc):(rc3 P N).set k (prc p M)=rc3 (fun j=>if j=k then p else P j) (fun j=>if j=k then M else N j):=by
 have:k=0∨k=1∨k=2:=by omega
 rcases this with rfl | rfl | rfl<;>rfl
theorem rc3_len (P:Nat->Pl) (N:Nat->Xf.Loc):(rc3 P N).length=3:=rfl
theorem recAt_st {l:List (List RC)} {i:Nat} (h:i<l.length) (z r:List RC):recAt (i:Int) z (l.set i r)=r:=by
 simp[recAt,h]
def tP (i:Im):Nat->Pl
 | 0=>turn tY i
 | 1=>turn tU i
 | _=>turn tV i
def hP (i:Im) (s:SyA) (k:Nat):Pl:=if 0<k/\s.hf=true then half (tP i k)else tP i k
theorem nuP_eq (i:Im) (s:SyA) (k:Nat):nuP i s k=fwP (hP i s k) s.wv s.lv:=by
 obtain⟨wv,lv,kd,gr,hf,d⟩:=s
 match k with
 | 0=>rfl
 | 1=>cases hf<;>rfl
 | k+2=>cases hf<;>rfl
def pK (i:Im) (s:SyA) (k:Nat):Nat->Pl:=fun j=>if j<k then nuP i s j else tP i j
theorem pK_at (i:Im) (s:SyA) (k:Nat):pK i s k k=tP i k:=if_neg (Nat.lt_irrefl k)
theorem pK_upd (i:Im) (s:SyA) (k:Nat):(fun j=>if j=k then nuP i s k else pK i s k j)=pK i s (k+1):=by
 funext j
 unfold pK
 by_cases h:j=k
 ·subst h
  rw[if_pos rfl,if_pos (Nat.lt_succ_self _)]
 ·rw[if_neg h]
  by_cases g:j<k
  ·rw[if_pos g,if_pos (by omega)]
  ·rw[if_neg g,if_neg (by omega)]
def nuF (i:Im) (s:SyA):Nat->Pl:=pK i s (if s.gr=true then 1 else 3)
structure NmA where
 a:ImA
 s:SyA
def invNm:List SV->Look->Option (NmA×List Nat)
 | [v,.agg [.int .i64 wv,.int .i64 lv,.int .i64 kd,.bool gr,.bool hf,.int .i64 d]],look=>match getI look v with
  | some (a,g)=>some (⟨a,⟨wv,lv,kd,gr,hf,d⟩⟩,g)
  | _=>none
 | _,_=>none
attribute [push_cast] invNm
def fs51:FS where
 A:=NmA
 args:=fun a=>[imV a.a.i a.a.L1 a.a.L2 a.a.L3 0,a.s.sv]
 mem:=fun a=>imM a.a.i a.a.L1 a.a.L2 a.a.L3
 pre:=fun a=>a.a.i.Ok/\a.a.i.small/\syOk a.s
 res:=fun a x=>.sl 3 (x 0) 3 0 (if a.s.gr=true then 1 else 3)
 new:=fun a x=>[(x 0,.recs 3 true [] (rc3 (nuF a.a.i a.s) (fun j=>x (j+1))))]
theorem tP_len {i:Im} (h:i.Ok) (k:Nat):(tP i k).xs.length=i.R.length/\(tP i k).w=i.w/\(tP i k).h=i.h:=by
 have eY:turn tY i=⟨i.w,i.h,tabl i.R.length (tY i)⟩:=if_pos h
 have eU:turn tU i=⟨i.w,i.h,tabl i.R.length (tU i)⟩:=if_pos h
 have eV:turn tV i=⟨i.w,i.h,tabl i.R.length (tV i)⟩:=if_pos h
 match k with
 | 0=>show(turn tY i).xs.length=_/\_;rw[eY];exact⟨tabl_length _ _,by first | rfl | (show(turn tY i).w=i.w;rw[eY]),by first | rfl | (show(turn tY i).h=i.h;rw[eY])⟩
 | 1=>show(turn tU i).xs.length=_/\_;rw[eU];exact⟨tabl_length _ _,by first | rfl | (show(turn tU i).w=i.w;rw[eU]),by first | rfl | (show(turn tU i).h=i.h;rw[eU])⟩
 | k+2=>show(turn tV i).xs.length=_/\_;rw[eV];exact⟨tabl_length _ _,by first | rfl | (show(turn tV i).w=i.w;rw[eV]),by first | rfl | (show(turn tV i).h=i.h;rw[eV])⟩
theorem hP_len {i:Im} {s:SyA} (h:i.Ok) (k:Nat):(hP i s k).xs.length<=140737488355328:=by
 have h1:=(tP_len h k).1
 have h2:=h.1.bd
 have h3:=h.2.1.1
 unfold hP
 split
 ·unfold half
  split
  ·rename_i ho
   simp only[tabl_length]
   obtain⟨⟨b1,b2,b3,b4,b5⟩,b6,_⟩:=id ho
   have h2:(((tP i k).h+1) / 2).toNat<=200:=by omega
   have h3:(((tP i k).w+1) / 2).toNat<=200:=by omega
   exact Nat.le_trans (Nat.mul_le_mul h2 h3) (by decide)
  ·exact Nat.zero_le _
 ·omega
theorem nuP_len {i:Im} {s:SyA} (h:i.Ok) (k:Nat):(nuP i s k).xs.length<=140737488355328:=by
 rw[nuP_eq]
 have:=hP_len (s:=s) h k
 unfold fwP
 split
 ·simp only[fwd_length];exact this
 ·exact Nat.zero_le _
set_option maxRecDepth 4000 in
set_option maxHeartbeats 2000000 in
theorem ok51:FSOk Tryz.prog 51 fs51:=by
 refine hd_ (fk_ Tryz.func51) fun a hp=>?_
 obtain⟨⟨⟨W,H,R,G,B⟩,L1,L2,L3⟩,⟨wv,lv,kd,gr,hf,d⟩⟩:=a
 obtain⟨hi,hsm,hsy⟩:(⟨W,H,R,G,B⟩:Im).Ok/\(⟨W,H,R,G,B⟩:Im).small/\syOk ⟨wv,lv,kd,gr,hf,d⟩:=hp
 change Tri Tryz.prog 51 [imV ⟨W,H,R,G,B⟩ L1 L2 L3 0,.agg [.int .i64 wv,.int .i64 lv,.int .i64 kd,.bool gr,.bool hf,.int .i64 d]] [some (.ro,L1,.ints .i64 R),some (.ro,L2,.ints .i64 G),some (.ro,L3,.ints .i64 B)] (postF fs51 _)
 refine tri_evS (hyp (l:=[(43,ent43),(108,ent108),(44,ent44)]) (lp:=[]) ⟨e43,e108,e44,trivial⟩ trivial) Tryz.func51 comp51 (rs:=[.tmp 4]) (by rfl) Tryz.ntmps51 30 ?_
 have hR:R.length<=140737488355328:=hsm.1
 have e0:tP ⟨W,H,R,G,B⟩ 0=turn tY ⟨W,H,R,G,B⟩:=rfl
 have e1:tP ⟨W,H,R,G,B⟩ 1=turn tU ⟨W,H,R,G,B⟩:=rfl
 have e2:tP ⟨W,H,R,G,B⟩ 2=turn tV ⟨W,H,R,G,B⟩:=rfl
 obtain⟨a0,a0',a0''⟩:=tP_len hi 0
 obtain⟨a1,a1',a1''⟩:=tP_len hi 1
 obtain⟨a2,a2',a2''⟩:=tP_len hi 2
 have c0:∀ xs:List Int,sub xs 0 (xs.length:Int)=xs:=fun xs=>by unfold sub;simp
 have hw0:∀ N:Nat->Xf.Loc,rc3 (pK ⟨W,H,R,G,B⟩ ⟨wv,lv,kd,gr,hf,d⟩ 0) N=[prc (tP ⟨W,H,R,G,B⟩ 0) (N 0),prc (tP ⟨W,H,R,G,B⟩ 1) (N 1),prc (tP ⟨W,H,R,G,B⟩ 2) (N 2)]:=fun _=>rfl
 have ht:=fun k=>tP_len hi k
 have hle:∀ k,(hP ⟨W,H,R,G,B⟩ ⟨wv,lv,kd,gr,hf,d⟩ k).xs.length<=140737488355328:=fun k=>hP_len hi k
 cases gr with
 | true=>
  simp -implicitDefEqProofs only[push_cast,zz,seval,ir51,fs43,hsm,hi,<-e0,<-e1,<-e2,lx,if_true,c0]
  intro X X1 X2
  repeat refine om_ ?_
  obtain⟨I,hI⟩:∃ I,(⟨W,H,R,G,B⟩:Im)=I:=⟨_,rfl⟩
  rw[hI]at hw0 ht hle
  rw[hI]
  refine evS_loopU (A:=Nat×(Nat->Xf.Loc)) kp51_1 kl51_1 (fun y=>[(28,.int .i64 y.1)]) (fun y=>[(19,.mine,X2 3 19,.recs 3 true [] (rc3 (pK I ⟨wv,lv,kd,true,hf,d⟩ y.1) y.2))]) (fun y=>y.1<=1) (fun y=>1-y.1) (0,fun j=>(X1 1 (12+j)).fr 0) (Nat.zero_le _) (Sub.pt ?_) ?_
  ·simp -implicitDefEqProofs only[push_cast,zz,seval,hw0,prc]
  intro ⟨k,N⟩ hk K hK
  have hk:k<=1:=hk
  by_cases hk':k<1
  ·have hki:(k:Int)<1:=by omega
   have hk3:k<3:=by omega
   have r1:=fun z=>rc3_at (pK I ⟨wv,lv,kd,true,hf,d⟩ k) N hk3 z
   have r2:=fun M=>rc3_set (pK I ⟨wv,lv,kd,true,hf,d⟩ k) N hk3 (nuP I ⟨wv,lv,kd,true,hf,d⟩ k) M
   have r3:=rc3_len (pK I ⟨wv,lv,kd,true,hf,d⟩ k) N
   have hlk:=hle k
   have hlk0:(tP I k).xs.length<=140737488355328:=by have:=(ht k).1;rw[<-hI]at this;simp only at this;rw[<-hI];omega
   have hnu:=nuP_eq I ⟨wv,lv,kd,true,hf,d⟩ k
   simp only[pK_at,prc]at r1
   simp only[pK_upd,prc]at r2
   rw[hnu]at r2
   by_cases hc:0<k/\hf=true
   ·obtain⟨hc1,rfl⟩:=hc
    have hci:0<(k:Int):=by omega
    have eh:hP I ⟨wv,lv,kd,true,true,d⟩ k=half (tP I k):=if_pos ⟨hc1,rfl⟩
    rw[eh]at hlk r2
    obtain⟨L0,hL0⟩:∃ L,rc3 (pK I ⟨wv,lv,kd,true,true,d⟩ k) N=L:=⟨_,rfl⟩
    rw[hL0]at r1 r2 r3
    rw[hL0]
    have q1:=fun z r=>recAt_st (l:=L0) (i:=k) (by omega) z r
    have q2:∀ r,(L0.set k r).length=3:=fun r=>by rw[List.length_set,r3]
    obtain⟨⟨pw,ph,xs⟩,hp⟩:∃ p,tP I k=p:=⟨_,rfl⟩
    rw[hp]at r1 hlk0 hlk r2
    obtain⟨⟨qw,qh,ys⟩,hq⟩:∃ p,half ⟨pw,ph,xs⟩=p:=⟨_,rfl⟩
    rw[hq]at hlk r2
    simp only at r1 hlk0 hlk r2
    obtain⟨⟨uw,uh,us⟩,hu⟩:∃ p,fwP ⟨qw,qh,ys⟩ wv lv=p:=⟨_,rfl⟩
    rw[hu]at r2
    simp only at r2
    simp -implicitDefEqProofs only[push_cast,zz,seval,b51_1,hki,hci,r1,r3,q1,q2,fs108,fs44,hlk0,hlk,hq,hu,c0,lx,List.set_set,Int.toNat_natCast]
    intro X4
    repeat refine om_ ?_
    intro X5
    repeat refine om_ ?_
    rw[r2]
    refine hK (k+1,fun j=>if j=k then (if fwOk ⟨qw,qh,ys⟩ wv lv then X5 10 26 else nilLoc0).fr 0 else N j) (show k+1<=1 by omega) (show 1-(k+1)<1-k by omega) _ _ (Sub.pt ?_)
    simp -implicitDefEqProofs only[push_cast,zz,seval]
   ·have eh:hP I ⟨wv,lv,kd,true,hf,d⟩ k=tP I k:=if_neg hc
    rw[eh]at hlk r2
    obtain⟨L0,hL0⟩:∃ L,rc3 (pK I ⟨wv,lv,kd,true,hf,d⟩ k) N=L:=⟨_,rfl⟩
    rw[hL0]at r1 r2 r3
    rw[hL0]
    obtain⟨⟨pw,ph,xs⟩,hp⟩:∃ p,tP I k=p:=⟨_,rfl⟩
    rw[hp]at r1 hlk0 hlk r2
    simp only at r1 hlk0 hlk r2
    obtain⟨⟨uw,uh,us⟩,hu⟩:∃ p,fwP ⟨pw,ph,xs⟩ wv lv=p:=⟨_,rfl⟩
    rw[hu]at r2
    simp only at r2
    have hci:0<(k:Int)->hf=false:=fun h=>by
     cases hf with
     | false=>rfl
     | true=>exact absurd ⟨by omega,rfl⟩ hc
    by_cases h0:0<(k:Int)
    ·obtain rfl:=hci h0
     simp -implicitDefEqProofs only[push_cast,zz,seval,b51_1,hki,h0,r1,r3,fs44,hlk0,hlk,hu,c0,lx,Int.toNat_natCast]
     repeat refine om_ ?_
     intro X5
     repeat refine om_ ?_
     rw[r2]
     refine hK (k+1,fun j=>if j=k then (if fwOk ⟨pw,ph,xs⟩ wv lv then X5 10 26 else nilLoc0).fr 0 else N j) (show k+1<=1 by omega) (show 1-(k+1)<1-k by omega) _ _ (Sub.pt ?_)
     simp -implicitDefEqProofs only[push_cast,zz,seval]
    ·simp -implicitDefEqProofs only[push_cast,zz,seval,b51_1,hki,h0,r1,r3,fs44,hlk0,hlk,hu,c0,lx,Int.toNat_natCast]
     repeat refine om_ ?_
     intro X5
     repeat refine om_ ?_
     rw[r2]
     refine hK (k+1,fun j=>if j=k then (if fwOk ⟨pw,ph,xs⟩ wv lv then X5 10 26 else nilLoc0).fr 0 else N j) (show k+1<=1 by omega) (show 1-(k+1)<1-k by omega) _ _ (Sub.pt ?_)
     simp -implicitDefEqProofs only[push_cast,zz,seval]
  ·obtain rfl:k=1:=by omega
   clear hK
   subst hI
   have hnf:nuF ⟨W,H,R,G,B⟩ ⟨wv,lv,kd,true,hf,d⟩=pK ⟨W,H,R,G,B⟩ ⟨wv,lv,kd,true,hf,d⟩ 1:=rfl
   simp -implicitDefEqProofs only[push_cast,zz,seval,b51_1,r51_2]
   refine postF.mk' (fun j=>if j=0 then X2 3 19 else N (j-1)) [some 0,some 1,some 2,some 19] ?_
   have h10:∀ i:Nat,¬ i+1=0:=fun i=>by omega
   simp -implicitDefEqProofs only[push_cast,zz,seval,fs51,hnf,h10,Nat.add_sub_cancel]
 | false=>
  simp -implicitDefEqProofs only[push_cast,zz,seval,ir51,fs43,hsm,hi,<-e0,<-e1,<-e2,lx,if_true,c0]
  intro X X1 X2
  repeat refine om_ ?_
  obtain⟨I,hI⟩:∃ I,(⟨W,H,R,G,B⟩:Im)=I:=⟨_,rfl⟩
  rw[hI]at hw0 ht hle
  rw[hI]
  refine evS_loopU (A:=Nat×(Nat->Xf.Loc)) kp51_1 kl51_1 (fun y=>[(28,.int .i64 y.1)]) (fun y=>[(19,.mine,X2 3 19,.recs 3 true [] (rc3 (pK I ⟨wv,lv,kd,false,hf,d⟩ y.1) y.2))]) (fun y=>y.1<=3) (fun y=>3-y.1) (0,fun j=>(X1 1 (12+j)).fr 0) (Nat.zero_le _) (Sub.pt ?_) ?_
  ·simp -implicitDefEqProofs only[push_cast,zz,seval,hw0,prc]
  intro ⟨k,N⟩ hk K hK
  have hk:k<=3:=hk
  by_cases hk':k<3
  ·have hki:(k:Int)<3:=by omega
   have hk3:k<3:=by omega
   have r1:=fun z=>rc3_at (pK I ⟨wv,lv,kd,false,hf,d⟩ k) N hk3 z
   have r2:=fun M=>rc3_set (pK I ⟨wv,lv,kd,false,hf,d⟩ k) N hk3 (nuP I ⟨wv,lv,kd,false,hf,d⟩ k) M
   have r3:=rc3_len (pK I ⟨wv,lv,kd,false,hf,d⟩ k) N
   have hlk:=hle k
   have hlk0:(tP I k).xs.length<=140737488355328:=by have:=(ht k).1;rw[<-hI]at this;simp only at this;rw[<-hI];omega
   have hnu:=nuP_eq I ⟨wv,lv,kd,false,hf,d⟩ k
   simp only[pK_at,prc]at r1
   simp only[pK_upd,prc]at r2
   rw[hnu]at r2
   by_cases hc:0<k/\hf=true
   ·obtain⟨hc1,rfl⟩:=hc
    have hci:0<(k:Int):=by omega
    have eh:hP I ⟨wv,lv,kd,false,true,d⟩ k=half (tP I k):=if_pos ⟨hc1,rfl⟩
    rw[eh]at hlk r2
    obtain⟨L0,hL0⟩:∃ L,rc3 (pK I ⟨wv,lv,kd,false,true,d⟩ k) N=L:=⟨_,rfl⟩
    rw[hL0]at r1 r2 r3
    rw[hL0]
    have q1:=fun z r=>recAt_st (l:=L0) (i:=k) (by omega) z r
    have q2:∀ r,(L0.set k r).length=3:=fun r=>by rw[List.length_set,r3]
    obtain⟨⟨pw,ph,xs⟩,hp⟩:∃ p,tP I k=p:=⟨_,rfl⟩
    rw[hp]at r1 hlk0 hlk r2
    obtain⟨⟨qw,qh,ys⟩,hq⟩:∃ p,half ⟨pw,ph,xs⟩=p:=⟨_,rfl⟩
    rw[hq]at hlk r2
    simp only at r1 hlk0 hlk r2
    obtain⟨⟨uw,uh,us⟩,hu⟩:∃ p,fwP ⟨qw,qh,ys⟩ wv lv=p:=⟨_,rfl⟩
    rw[hu]at r2
    simp only at r2
    simp -implicitDefEqProofs only[push_cast,zz,seval,b51_1,hki,hci,r1,r3,q1,q2,fs108,fs44,hlk0,hlk,hq,hu,c0,lx,List.set_set,Int.toNat_natCast]
    intro X4
    repeat refine om_ ?_
    intro X5
    repeat refine om_ ?_
    rw[r2]
    refine hK (k+1,fun j=>if j=k then (if fwOk ⟨qw,qh,ys⟩ wv lv then X5 10 26 else nilLoc0).fr 0 else N j) (show k+1<=3 by omega) (show 3-(k+1)<3-k by omega) _ _ (Sub.pt ?_)
    simp -implicitDefEqProofs only[push_cast,zz,seval]
   ·have eh:hP I ⟨wv,lv,kd,false,hf,d⟩ k=tP I k:=if_neg hc
    rw[eh]at hlk r2
    obtain⟨L0,hL0⟩:∃ L,rc3 (pK I ⟨wv,lv,kd,false,hf,d⟩ k) N=L:=⟨_,rfl⟩
    rw[hL0]at r1 r2 r3
    rw[hL0]
    obtain⟨⟨pw,ph,xs⟩,hp⟩:∃ p,tP I k=p:=⟨_,rfl⟩
    rw[hp]at r1 hlk0 hlk r2
    simp only at r1 hlk0 hlk r2
    obtain⟨⟨uw,uh,us⟩,hu⟩:∃ p,fwP ⟨pw,ph,xs⟩ wv lv=p:=⟨_,rfl⟩
    rw[hu]at r2
    simp only at r2
    have hci:0<(k:Int)->hf=false:=fun h=>by
     cases hf with
     | false=>rfl
     | true=>exact absurd ⟨by omega,rfl⟩ hc
    by_cases h0:0<(k:Int)
    ·obtain rfl:=hci h0
     simp -implicitDefEqProofs only[push_cast,zz,seval,b51_1,hki,h0,r1,r3,fs44,hlk0,hlk,hu,c0,lx,Int.toNat_natCast]
     repeat refine om_ ?_
     intro X5
     repeat refine om_ ?_
     rw[r2]
     refine hK (k+1,fun j=>if j=k then (if fwOk ⟨pw,ph,xs⟩ wv lv then X5 10 26 else nilLoc0).fr 0 else N j) (show k+1<=3 by omega) (show 3-(k+1)<3-k by omega) _ _ (Sub.pt ?_)
     simp -implicitDefEqProofs only[push_cast,zz,seval]
    ·simp -implicitDefEqProofs only[push_cast,zz,seval,b51_1,hki,h0,r1,r3,fs44,hlk0,hlk,hu,c0,lx,Int.toNat_natCast]
     repeat refine om_ ?_
     intro X5
     repeat refine om_ ?_
     rw[r2]
     refine hK (k+1,fun j=>if j=k then (if fwOk ⟨pw,ph,xs⟩ wv lv then X5 10 26 else nilLoc0).fr 0 else N j) (show k+1<=3 by omega) (show 3-(k+1)<3-k by omega) _ _ (Sub.pt ?_)
     simp -implicitDefEqProofs only[push_cast,zz,seval]
  ·obtain rfl:k=3:=by omega
   clear hK
   subst hI
   have hnf:nuF ⟨W,H,R,G,B⟩ ⟨wv,lv,kd,false,hf,d⟩=pK ⟨W,H,R,G,B⟩ ⟨wv,lv,kd,false,hf,d⟩ 3:=rfl
   simp -implicitDefEqProofs only[push_cast,zz,seval,b51_1,r51_2]
   refine postF.mk' (fun j=>if j=0 then X2 3 19 else N (j-1)) [some 0,some 1,some 2,some 19] ?_
   have h10:∀ i:Nat,¬ i+1=0:=fun i=>by omega
   simp -implicitDefEqProofs only[push_cast,zz,seval,fs51,hnf,h10,Nat.add_sub_cancel]
def ent51:Entry:=spOf fs51 invNm
theorem e51:EntryOk Tryz.prog 51 ent51:=entry_of ok51 invNm
@[push_cast] theorem ent51_a u l x k:ent51 u l x k=spOf fs51 invNm u l x k:=rfl
def b137_1:IR:=
 .seq (r_ [b_ 74 .lss 73 72] []) (.seq (.cond (.t 74) (.skip) (.exit 0)) (.seq (.block 1 (.seq (r_ [m_ 75 73,i_ 76 71 73 1,o_ 77 (.ld true none 20 1 (.t 76)),m_ 16 75,m_ 17 77] [74,75,76,77]) (.seq (r_ [m_ 79 14,n_ 80 79,f_ 81 80 5,o_ 82 (.ld false (some 2) 0 0 (.t 81)),m_ 83 17,o_ 84 (.call (some 4) 21 188 [.t 82,.t 83]),m_ 78 84,e_ 85 78 0,e_ 86 78 1,o_ 18 (.alloc 25 [.val (.pointer none)]),s_ 1 .i64 18 85,m_ 19 86] [17,19,78,79,80,81,82,83,84,85,86]) (.seq (r_ [m_ 87 14,m_ 88 4,c_ 89 .sub 88 1,m_ 90 16,b_ 91 .sub 89 90,m_ 92 15,o_ 93 (.mkf 189 [.t 18]),o_ 94 (.call none 26 113 [.t 87,.t 91,.t 92,.t 93]),m_ 20 94] [16,87,88,89,90,91,92,93,94]) (.seq (.seq (r_ [m_ 95 20,c_ 96 .neq 95 0] [95]) (.cond (.t 96) (.seq (r_ [o_ 97 (.build [y_,y_,nilSV] []),m_ 98 20,s_ 3 .i64 12 97,m_ 13 98] [0,1,4,14,15,18,20,71,72,73,96,97,98]) (.ret)) (.skip))) (r_ [m_ 99 14,l_ 100 18,o_ 101 (.call (some 4) 30 191 [.t 100]),n_ 102 99,f_ 103 102 5,s_ 2 .i64 103 101] [13,18,20,96,99,100,101,102,103])))))) (r_ [a_ 104 73 1,m_ 73 104] [104])))
def r137_2:IR:=
 .seq (r_ [m_ 105 14,m_ 106 0,m_ 107 1,o_ 108 (.call (some 4) 34 192 [.t 105,.t 106,.t 107]),s_ 3 .i64 12 108,z_ 13 0] [0,1,4,14,15,71,72,73,105,106,107,108]) (.ret)
def ir137:IR:=
 .seq (r_ [o_ 12 (.alloc 10 [y_,y_,nilSV]),z_ 13 0] [13]) (.seq (.seq (r_ [m_ 21 0,c_ 22 .lss 21 0,m_ 23 22,q_ 23 (m_ 24 1),q_ 23 (c_ 25 .lss 24 0),k_ 26 23 25,m_ 27 26,q_ 27 (m_ 28 0),q_ 27 (c_ 29 .gtr 28 200),k_ 30 27 29,m_ 31 30,q_ 31 (m_ 32 1),q_ 31 (c_ 33 .gtr 32 200),k_ 34 31 33,m_ 35 34,q_ 35 (m_ 36 0),q_ 35 (m_ 37 1),q_ 35 (b_ 38 .mul 36 37),q_ 35 (c_ 39 .gtr 38 8192),k_ 40 35 39,m_ 41 40,q_ 41 (m_ 42 2),q_ 41 (m_ 43 3),q_ 41 (o_ 44 (.callp 110 [.t 42,.t 43])),q_ 41 (o_ 45 (.not (.t 44))),k_ 46 41 45,m_ 47 46,q_ 47 (m_ 48 4),q_ 47 (c_ 49 .lss 48 0),k_ 50 47 49,m_ 51 50,q_ 51 (m_ 52 4),q_ 51 (c_ 53 .gtr 52 25),k_ 54 51 53,m_ 55 54,q_ 55 (m_ 56 5),q_ 55 (h_ 57 56),q_ 55 (m_ 58 4),q_ 55 (b_ 59 .gtr 57 58),k_ 60 55 59] [21,22,23,24,25,26,27,28,29,30,31,32,33,34,35,36,37,38,39,40,41,42,43,44,45,46,47,48,49,50,51,52,53,54,55,56,57,58,59]) (.cond (.t 60) (.seq (r_ [o_ 61 (.build [y_,y_,nilSV] []),s_ 3 .i64 12 61,z_ 13 2] [0,1,2,3,4,5,60,61]) (.ret)) (.skip))) (.seq (r_ [m_ 62 0,m_ 63 1,m_ 64 2,m_ 65 3,o_ 66 (.call (some 8) 11 111 [.t 62,.t 63,.t 64,.t 65]),m_ 14 66] [2,3,13,60,62,63,64,65,66]) (.seq (r_ [m_ 67 0,m_ 68 1,b_ 69 .mul 67 68,o_ 70 (.mks 19 (.int .i64 0) 8 (.t 69) (.t 69)),m_ 15 70] [67,68,69,70]) (.seq (.seq (r_ [m_ 71 5,h_ 72 71,z_ 73 0] [5]) (.block 0 (.loop b137_1))) (r137_2)))))
def kp137_1:List Nat:=[0,1,4,12,14,15,71,72,73]
def kl137_1:List Nat:=[20,21,22,23,24,25,26,27,28,29,30,31,32,33]
attribute [push_cast] kp137_1 kl137_1
set_option maxRecDepth 4000 in
theorem comp137:(Tryz.f137.body.bind fun c=>compC tab isP chkAll ir137 c)=some ir137:=by kernel_rfl
theorem recAt_By {l:List (Xf.Loc×List Int)} {i:Nat} (h:i<l.length) (z:List RC):recAt (i:Int) z (l.map byRc)=[.row (l[i]).1 .u8 (l[i]).2]:=by
 simp[recAt,h,byRc]
theorem decG_cons (f:List Int) {cs:List (List Int)} {i:Nat} (h:i<cs.length) (t:Int) (s:StS) (st:List Int):decG f (cs.drop i) t s st=if (decStep f t s st cs[i]).2.2=0 then decG f (cs.drop (i+1)) (t-1) (decStep f t s st cs[i]).1 (decStep f t s st cs[i]).2.1.st else ((decStep f t s st cs[i]).1,(decStep f t s st cs[i]).2.2):=by
 rw[List.drop_eq_getElem_cons h,decG]
set_option maxHeartbeats 4000000 in
theorem ok137:FSOk Tryz.prog 137 fs137:=by
 refine hd_ (fk_ Tryz.func137) fun a hp=>?_
 obtain⟨w,h,lv,kd,P,L,rows,n⟩:=a
 obtain⟨⟨h1,h2⟩,h3⟩:rowsWf rows/\n<=rows.length:=hp
 have hcs:(⟨w,h,lv,kd,P,L,rows,n⟩:DcA).cs=(rows.take n).map (·.2):=rfl
 have hcsl:((rows.take n).map (·.2)).length=n:=by rw[List.length_map,List.length_take];omega
 have hmapl:(rows.map byRc).length=rows.length:=List.length_map _
 change Tri Tryz.prog 137 [.int .i64 w,.int .i64 h,.int .i64 lv,.int .i64 kd,.int .i64 P,.sl 0 L 1 0 n] [some (.ro,L,.recs 1 false [] (rows.map byRc))] (postF fs137 ⟨w,h,lv,kd,P,L,rows,n⟩)
 obtain⟨CS,hCS⟩:∃ c,(rows.take n).map (·.2)=c:=⟨_,rfl⟩
 rw[hCS]at hcs hcsl
 obtain⟨E,hE⟩:∃ E,decE w h lv kd P CS=E:=⟨_,rfl⟩
 obtain⟨Q,hQeq⟩:∃ Q,decP w h lv kd P CS=Q:=⟨_,rfl⟩
 have hQ0:¬ E=0->Q=pl0:=fun h=>by rw[<-hQeq];unfold decP;rw[hE,if_neg h]
 have hQ1:E=0->Q=⟨w,h,plL (decR w h lv kd P CS).1⟩:=fun h=>by rw[<-hQeq];unfold decP;rw[hE,if_pos h]
 refine tri_evS (hyp (l:=[(111,ent111),(188,ent188),(113,ent113D),(191,ent191),(192,ent192)]) (lp:=[(110,rightF)]) ⟨e111,e188,e113D,e191,e192,trivial⟩ ⟨p110,trivial⟩) Tryz.func137 comp137 (rs:=[.cell 12 (some 3),.tmp 13]) (by rfl) Tryz.ntmps137 38 ?_
 have hmulb:0<=w->w<=200->0<=h->h<=200->0<=w*h/\w*h<=40000:=fun a b c d=>by have:=mul_bd a b c d;omega
 by_cases hok:decOk w h lv kd P n
 ·obtain⟨⟨a1,a2,a3,a4,a5⟩,hag,a6,a7,a8⟩:=id hok
  have hEE:E=(decR w h lv kd P CS).2:=by rw[<-hE];unfold decE;rw[hcsl,if_pos hok]
  have hbn:bnOk w h lv:=⟨hag.1,hag.2.1,by omega,by omega,by omega,by omega⟩
  have hwf:=fun f=>st0_wf (a:=⟨w,h,lv,kd⟩) hbn (by simp only;omega) f
  have hkd:=hag.2.2
  have her:=fun f=>st0_er ⟨w,h,lv,kd⟩ f
  have hst:∀ f,st0 ⟨w,h,lv,kd⟩ f=⟨List.replicate (w*h).toNat 0,List.replicate (w*h).toNat false,List.replicate (w*h).toNat 0,0,bkOf f (bkts w h lv),kd,12,bandL w h lv,w⟩:=fun f=>rfl
  have hR:decR w h lv kd P CS=decG (List.replicate (w*h).toNat 0) CS (P-1) (st00 ⟨w,h,lv,kd⟩) (List.replicate 12 0):=rfl
  have hwh0:=(hmulb a1 a3 a2 a4).1
  obtain⟨N,hN⟩:∃ N:Nat,w*h=(N:Int):=⟨(w*h).toNat,by omega⟩
  simp only[hN,Int.toNat_natCast]at hst hwf hR
  have c1:¬ w<0:=by omega
  have c2:¬ h<0:=by omega
  have c3:¬ 200<w:=by omega
  have c4:¬ 200<h:=by omega
  have c5:¬ (8192:Int)<N:=by omega
  have c6:¬ P<0:=by omega
  have c7:¬ 25<P:=by omega
  have c8:¬ P<n:=by omega
  have c9:(N:Int)<=8192:=by omega
  simp -implicitDefEqProofs only[push_cast,zz,seval,ir137,fs111,c1,c2,c3,c4,c5,c6,c7,c8,hag,hkd,hbn,hst,stV,hN,c9,Int.toNat_natCast]
  intro X
  repeat refine om_ ?_
  intro X1 X2
  repeat refine om_ ?_
  obtain⟨ff,hff⟩:∃ f:Nat->Xf.Loc,(fun i=>X1 4 (11+(i+7)))=f:=⟨_,rfl⟩
  rw[hff]
  have hwf0:=hwf ff
  obtain⟨FZ,hFZ⟩:∃ Z,List.replicate N (0:Int)=Z:=⟨_,rfl⟩
  have hALL:plL (decG FZ CS (P-1) (st0 ⟨w,h,lv,kd⟩ ff) (List.replicate 12 0)).1=plL (decR w h lv kd P CS).1/\(decG FZ CS (P-1) (st0 ⟨w,h,lv,kd⟩ ff) (List.replicate 12 0)).2=E:=by
   rw[hEE,hR,<-her ff,decG_er _ CS _ _ _ hwf0.2.2,hFZ]
   exact⟨rfl,rfl⟩
  obtain⟨RR,hRR⟩:∃ R,decG FZ CS (P-1) (st0 ⟨w,h,lv,kd⟩ ff) (List.replicate 12 0)=R:=⟨_,rfl⟩
  rw[hRR]at hALL
  simp only[hst]at hwf0 hRR
  rw[hFZ]at hwf0 hRR ⊢
  obtain⟨BK,hBK⟩:∃ B,bkOf ff (bkts w h lv)=B:=⟨_,rfl⟩
  obtain⟨BL,hBL⟩:∃ B,bandL w h lv=B:=⟨_,rfl⟩
  rw[hBK,hBL]at hwf0 hRR ⊢
  have hBKl:BK.length<=50000:=hwf0.1.2.2.2.2.2.2.2.1
  have hBLl:BL.length=N:=hwf0.1.2.2.2.1
  have hrep0:FZ.length=N:=by rw[<-hFZ];exact List.length_replicate
  have hrepf:(List.replicate N false).length=N:=List.length_replicate
  have hz12:([0,0,0,0,0,0,0,0,0,0,0,0]:List Int)=List.replicate 12 0:=rfl
  have hz12l:(List.replicate 12 (0:Int)).length=12:=List.length_replicate
  have hofw:ofWf FZ N:=⟨hrep0,fun x hx=>by rw[<-hFZ]at hx;have:=List.eq_of_mem_replicate hx;omega⟩
  have hmd0:=zero12_ok hkd
  rw[hz12]
  obtain⟨Z,hZ⟩:∃ Z,List.replicate 12 (0:Int)=Z:=⟨_,rfl⟩
  rw[hZ]at hRR hmd0 hz12l ⊢
  refine evS_loopU (A:=Nat×StS×List Int×Xf.Loc) kp137_1 kl137_1 (fun y=>[(73,.int .i64 y.1)])
   (fun y=>[(11,.mine,X1 4 11,.ints .i64 y.2.1.size),(12,.mine,X1 4 12,.bools y.2.1.minus),(13,.mine,X1 4 13,.ints .i64 y.2.1.since),(14,.mine,X1 4 14,.recs 4 false [] (y.2.1.list.map Bck.rc)),(15,.mine,y.2.2.2,.ints .i64 y.2.2.1),(17,.mine,X1 4 17,.cells (relabs (fun i=>i+10) (stV ⟨X1 4 17,X1 4 11,X1 4 12,X1 4 13,X1 4 14,y.2.2.2,X1 4 16⟩ y.2.1)))])
   (fun y=>y.1<=n/\decG FZ (CS.drop y.1) (P-1-y.1) y.2.1 y.2.2.1=RR/\(stWf y.2.1 N/\szWf y.2.1/\y.2.1.now=y.1/\y.2.1.kind=kd/\y.2.1.nst=12/\y.2.1.band=BL/\y.2.1.w=w/\y.2.1.list.length=BK.length)/\mdOk kd y.2.2.1/\y.2.2.1.length=12) (fun y=>n-y.1)
   (0,⟨FZ,List.replicate N false,FZ,0,BK,kd,12,BL,w⟩,Z,X1 4 15) ⟨Nat.zero_le _,by simp only[List.drop_zero];rw[show P-1-((0:Nat):Int)=P-1 by omega];exact hRR,⟨hwf0.1,hwf0.2.1,rfl,rfl,rfl,rfl,rfl,rfl⟩,hmd0,hz12l⟩ (Sub.of (mkG 38 [(0,0),(10,10),(11,11),(12,12),(13,13),(14,14),(15,15),(16,16),(17,17),(19,19)]) ?_) ?_
  ·simp -implicitDefEqProofs only[push_cast,zz,seval,stV,hrep0,hrepf,hBLl]
  intro ⟨i,s,st,S⟩ ⟨(hi:i<=n),(hrows:decG FZ (CS.drop i) (P-1-i) s st=RR),⟨(hwfs:stWf s N),(hszs:szWf s),(hnow:s.now=i),(hkind:s.kind=kd),(hnst:s.nst=12),(hband:s.band=BL),(hw:s.w=w),(hll:s.list.length=BK.length)⟩,(hmd:mdOk kd st),(hst12:st.length=12)⟩ K hK
  obtain⟨size,minus,since,now,list,kind',nst',band',w'⟩:=s
  simp only at hnow hkind hnst hband hw hll
  subst hkind hnst hband hw
  obtain⟨p1,p2,p3,p4,p5,p6,p7,p8,p9,p10,p11⟩:=id hwfs
  simp only at p1 p2 p3 p8
  by_cases hi':i<n
  ·have hii:(i:Int)<n:=by omega
   have hk1:P-1-(i:Int)=P-1-i:=rfl
   have hir:i<rows.length:=by omega
   have rr:=recAt_By hir []
   have hci:i<CS.length:=by omega
   have hrow:CS[i]=rows[i].2:=by
    simp only[<-hCS,List.getElem_map,List.getElem_take]
   have hcons:=decG_cons FZ hci (P-1-i) ⟨size,minus,since,now,list,kind',12,band',w'⟩ st
   rw[hrow,hrows]at hcons
   obtain⟨hby,hcl⟩:=h2 _ (List.getElem_mem hir)
   obtain⟨⟨LR,code⟩,hrc⟩:∃ r,rows[i]=r:=⟨_,rfl⟩
   rw[hrc]at rr hcons hby hcl
   simp only at rr hcons hby hcl
   obtain⟨t,ht⟩:∃ t:Int,P-1-(i:Int)=t:=⟨_,rfl⟩
   have ht2:P-1-((i+1:Nat):Int)=t-1:=by omega
   rw[ht]at hcons
   have hnew:=newDe_ok hmd hby hcl
   have hslR:∀ p L LS LO LX F,sqR ⟨p,⟨size,minus,since,now,list,kind',12,band',w'⟩,L,LS,LO,LX,⟨kind',st,0,4294967295,code,4,vN code 4,beyP code 4,false⟩,F,FZ,t⟩=decStep FZ t ⟨size,minus,since,now,list,kind',12,band',w'⟩ st code:=fun _ _ _ _ _ _=>rfl
   have hslok:sqOk ⟨size,minus,since,now,list,kind',12,band',w'⟩ ⟨kind',st,0,4294967295,code,4,vN code 4,beyP code 4,false⟩ FZ t:=⟨by simp only[p3];exact hwfs,hszs,hnew,hst12,by simp only[p3];exact hofw,by omega,by omega⟩
   have hinv:=slcD_inv FZ t (by omega) (by omega) N list.length 0 ⟨size,minus,since,now,list,kind',12,band',w'⟩ (newDe kind' st code) hwfs hszs hnew hst12 (by simp)
   have hlenD:=slcG_k getG FZ t list.length 0 ⟨size,minus,since,now,list,kind',12,band',w'⟩ (newDe kind' st code)
   obtain⟨D,hD⟩:∃ D,decStep FZ t ⟨size,minus,since,now,list,kind',12,band',w'⟩ st code=D:=⟨_,rfl⟩
   rw[show slcG getG FZ t list.length 0 ⟨size,minus,since,now,list,kind',12,band',w'⟩ (newDe kind' st code)=D from hD]at hinv hlenD
   rw[hD]at hcons
   simp only[hD]at hslR
   obtain⟨i1,i2,i3⟩:=hinv
   obtain⟨⟨size2,minus2,since2,now2,list2,kind2,nst2,band2,w2⟩,⟨ek,est,elo,ehi,ecode,eat,ev,ebe,een⟩,er2⟩:=D
   obtain⟨t1,t2,t3,t4⟩:=i3
   simp only[newDe]at t2 t3 t4
   obtain rfl:kind'=ek:=t3.symm
   obtain rfl:code=ecode:=t4.symm
   have he12:est.length=12:=t2.trans hst12
   have hst12I:(st.length:Int)=12:=by omega
   have he12I:(est.length:Int)=12:=by omega
   by_cases her2:er2=0
   ·subst her2
    have i1:=i1 rfl
    rw[if_pos rfl]at hcons
    have hwfD:=i1.wf (n:=N) ⟨p1,p2,p3,p4,p5,by simp only;omega,by simp only;omega,p8,p9,p10,p11⟩
    obtain⟨j1,j2,j3,j4,j5,j6,j7,j8,j9⟩:=i1
    simp only at j1 j2 j3 j4 j6 j7 j8 j9
    have j6:=j6.symm
    have j8:=j8.symm
    have j9:=j9.symm
    subst j4 j6 j7 j8 j9
    have q1:size2.length=N:=j1.trans p1
    have q2:minus2.length=N:=j2.trans p2
    have q3:since2.length=N:=j3.trans p3
    have q4:list2.length=list.length:=j5.len
    have hmd2:mdOk kind' est:=⟨t1.1.1,by omega⟩
    simp -implicitDefEqProofs only[push_cast,zz,seval,b137_1,hii,rr,hmapl,ht,stV,p1,p2,p3,p4,hll,fs188,mdM,hmd,hby,hcl,hst12I,deV,deT,ivV,newDe,fs113D,sqM,hslR,hslok,fs191,deM,q1,q2,q3,q4,t1,he12I]
    repeat refine om_ ?_
    intro X3
    repeat refine om_ ?_
    intro X4
    repeat refine om_ ?_
    refine hK (i+1,⟨size2,minus2,since2,now+1,list2,kind',12,band',w'⟩,est,X4 2 30) ⟨by omega,by rw[ht2];exact hcons.symm,⟨hwfD,i2,by simp only;omega,rfl,rfl,rfl,rfl,by simp only;omega⟩,hmd2,he12⟩ (show n-(i+1)<n-i by omega) _ _ (Sub.of (mkG 38 [(0,0),(10,10),(11,11),(12,12),(13,13),(14,14),(15,30),(16,16),(17,17),(19,19)]) ?_)
    simp -implicitDefEqProofs only[push_cast,zz,seval,stV,q1,q2,q3,q4,p4,hll,he12I]
   ·rw[if_neg her2]at hcons
    subst hcons
    have hEr:E=er2:=hALL.2.symm
    have hQ:=hQ0 (by rw[hEr];exact her2)
    have hE2:¬ E=0:=by rw[hEr];exact her2
    have hrn:∀ n:Nat,n=n:=fun _=>rfl
    clear hK
    simp -implicitDefEqProofs only[push_cast,zz,seval,b137_1,hii,rr,hmapl,ht,stV,p1,p2,p3,p4,hll,fs188,mdM,hmd,hby,hcl,hst12I,deV,deT,ivV,newDe,fs113D,sqM,hslR,hslok,her2]
    repeat refine om_ ?_
    intro X3
    repeat refine om_ ?_
    refine postF.mk' (fun _=>default) [some 0,none] ?_
    simp -implicitDefEqProofs only[push_cast,zz,seval,fs137,hcs,hE,hQeq,hQ,pl0,lx,hEr,her2,List.length_nil]
  ·have hin:i=n:=by omega
   subst hin
   have hdn:CS.drop i=[]:=by rw[<-hcsl,List.drop_length]
   rw[hdn,decG]at hrows
   subst hrows
   have hE0:E=0:=hALL.2.symm
   have hQ:=hQ1 hE0
   rw[<-hALL.1]at hQ
   clear hK
   have hwf2:stWf ⟨size,minus,since,now,list,kind',12,band',w'⟩ since.length:=by rw[p3];exact hwfs
   have hsz2:szWf ⟨size,minus,since,now,list,kind',12,band',w'⟩:=hszs
   have hpll:(plL ⟨size,minus,since,now,list,kind',12,band',w'⟩).length=(plL ⟨size,minus,since,now,list,kind',12,band',w'⟩).length:=rfl
   obtain⟨PL,hPL⟩:∃ p,plL ⟨size,minus,since,now,list,kind',12,band',w'⟩=p:=⟨_,rfl⟩
   rw[hPL]at hQ
   simp -implicitDefEqProofs only[push_cast,zz,seval,b137_1,Int.lt_irrefl,r137_2,stV,p1,p2,p3,p4,hll,fs192,stM,hwfs,hsz2,hPL,hN]
   repeat refine om_ ?_
   intro X3
   repeat refine om_ ?_
   refine postF.mk' (fun _=>X3 3 34) [some 0,some 34] ?_
   simp -implicitDefEqProofs only[push_cast,zz,seval,fs137,hcs,hE,hQeq,hQ,lx,hE0]
 ·have hEE:E=2:=by rw[<-hE];unfold decE;rw[hcsl,if_neg hok]
  have hE2:¬ E=0:=by omega
  have h20:¬ (2:Int)=0:=by decide
  have hQ:=hQ0 hE2
  by_cases c0:w<0
  ·simp -implicitDefEqProofs only[push_cast,zz,seval,ir137,c0]
   intro X
   repeat refine om_ ?_
   refine postF.mk' (fun _=>default) [some 0,none] ?_
   simp -implicitDefEqProofs only[push_cast,zz,seval,fs137,hcs,hE,hQeq,hQ,pl0,lx,hEE,h20,List.length_nil]
  by_cases c1:h<0
  ·simp -implicitDefEqProofs only[push_cast,zz,seval,ir137,c0,c1]
   intro X
   repeat refine om_ ?_
   refine postF.mk' (fun _=>default) [some 0,none] ?_
   simp -implicitDefEqProofs only[push_cast,zz,seval,fs137,hcs,hE,hQeq,hQ,pl0,lx,hEE,h20,List.length_nil]
  by_cases c2:200<w
  ·simp -implicitDefEqProofs only[push_cast,zz,seval,ir137,c0,c1,c2]
   intro X
   repeat refine om_ ?_
   refine postF.mk' (fun _=>default) [some 0,none] ?_
   simp -implicitDefEqProofs only[push_cast,zz,seval,fs137,hcs,hE,hQeq,hQ,pl0,lx,hEE,h20,List.length_nil]
  by_cases c3:200<h
  ·simp -implicitDefEqProofs only[push_cast,zz,seval,ir137,c0,c1,c2,c3]
   intro X
   repeat refine om_ ?_
   refine postF.mk' (fun _=>default) [some 0,none] ?_
   simp -implicitDefEqProofs only[push_cast,zz,seval,fs137,hcs,hE,hQeq,hQ,pl0,lx,hEE,h20,List.length_nil]
  have hm:=hmulb (by omega) (by omega) (by omega) (by omega)
  by_cases c4:8192<w*h
  ·simp -implicitDefEqProofs only[push_cast,zz,seval,ir137,c0,c1,c2,c3,c4]
   intro X
   repeat refine om_ ?_
   refine postF.mk' (fun _=>default) [some 0,none] ?_
   simp -implicitDefEqProofs only[push_cast,zz,seval,fs137,hcs,hE,hQeq,hQ,pl0,lx,hEE,h20,List.length_nil]
  by_cases c5:argsOk lv kd
  rotate_left
  ·simp -implicitDefEqProofs only[push_cast,zz,seval,ir137,c0,c1,c2,c3,c4,c5]
   intro X
   repeat refine om_ ?_
   refine postF.mk' (fun _=>default) [some 0,none] ?_
   simp -implicitDefEqProofs only[push_cast,zz,seval,fs137,hcs,hE,hQeq,hQ,pl0,lx,hEE,h20,List.length_nil]
  by_cases c6:P<0
  ·simp -implicitDefEqProofs only[push_cast,zz,seval,ir137,c0,c1,c2,c3,c4,c5,c6]
   intro X
   repeat refine om_ ?_
   refine postF.mk' (fun _=>default) [some 0,none] ?_
   simp -implicitDefEqProofs only[push_cast,zz,seval,fs137,hcs,hE,hQeq,hQ,pl0,lx,hEE,h20,List.length_nil]
  by_cases c7:25<P
  ·simp -implicitDefEqProofs only[push_cast,zz,seval,ir137,c0,c1,c2,c3,c4,c5,c6,c7]
   intro X
   repeat refine om_ ?_
   refine postF.mk' (fun _=>default) [some 0,none] ?_
   simp -implicitDefEqProofs only[push_cast,zz,seval,fs137,hcs,hE,hQeq,hQ,pl0,lx,hEE,h20,List.length_nil]
  by_cases c8:P<n
  ·simp -implicitDefEqProofs only[push_cast,zz,seval,ir137,c0,c1,c2,c3,c4,c5,c6,c7,c8]
   intro X
   repeat refine om_ ?_
   refine postF.mk' (fun _=>default) [some 0,none] ?_
   simp -implicitDefEqProofs only[push_cast,zz,seval,fs137,hcs,hE,hQeq,hQ,pl0,lx,hEE,h20,List.length_nil]
  exact absurd ⟨⟨by omega,by omega,by omega,by omega,by omega⟩,c5,by omega,by omega,by omega⟩ hok
def ent137:Entry:=spOf fs137 invDc
theorem e137:EntryOk Tryz.prog 137 ent137:=entry_of ok137 invDc
@[push_cast] theorem ent137_a u l x k:ent137 u l x k=spOf fs137 invDc u l x k:=rfl
def byL (f:Nat->Xf.Loc) (l:List (List Int)):List (Xf.Loc×List Int):=(List.range l.length).map fun i=>(f i,l.getD i [])
theorem byOf_map (f:Nat->Xf.Loc) (l:List (List Int)):byOf f l=(byL f l).map byRc:=by unfold byOf byL;rw[List.map_map];rfl
theorem byL_snd (f:Nat->Xf.Loc) (l:List (List Int)):(byL f l).map (·.2)=l:=by
 unfold byL
 refine List.ext_getElem (by simp) fun i h1 h2=>?_
 simp[List.getD_eq_getElem?_getD,h2]
theorem byL_len (f:Nat->Xf.Loc) (l:List (List Int)):(byL f l).length=l.length:=by unfold byL;simp
theorem byL_mem {f:Nat->Xf.Loc} {l:List (List Int)} {r:Xf.Loc×List Int} (h:r∈byL f l):r.2∈l:=by
 have:=byL_snd f l
 rw[<-this]
 exact List.mem_map.2 ⟨r,h,rfl⟩
structure SgA where
 p:Pl
 L:Xf.Loc
 t:Int
theorem encG_len (f:List Int):∀ (k:Nat) (s:StS) (st:List Int),(encG f k s st).length=k
 | 0,_,_=>rfl
 | k+1,s,st=>by rw[encG,List.length_cons,encG_len f k]
theorem encP_len {p:Pl} {lv kd:Int} (hok:p.Ok) (hag:argsOk lv kd):((encP p lv kd).length:Int)=planesP p.xs:=by
 have hpb:=planesP_bd hok.2.2
 unfold encP
 rw[if_pos ⟨hok,hag⟩,encG_len]
 omega
def ir50:IR:=
 .seq (r_ [o_ 1 (.box 10 (.t 0)),o_ 2 (.mov (.k (.bool false)))] [0,2]) (.seq (r_ [f_ 3 1 2,l_ 4 3,f_ 5 1 3,l_ 6 5,o_ 7 (.call (some 4) 11 107 [.t 4,.t 6]),m_ 8 7,p_ 8 (f_ 9 1 3),p_ 8 (l_ 10 9),p_ 8 (f_ 11 1 4),p_ 8 (l_ 12 11),p_ 8 (o_ 13 (.call (some 4) 15 107 [.t 10,.t 12])),K_ 14 8 13,m_ 2 14] [1,3,4,5,6,7,8,9,10,11,12,13,14]) (.ret))
set_option maxRecDepth 4000 in
theorem comp50:(Tryz.f50.body.bind fun c=>compC tab isP chkAll ir50 c)=some ir50:=by kernel_rfl
theorem odR_c (d a b c r:Int):((odR d a b c r).count 0=if r<a then 1 else 0)/\((odR d a b c r).count 1=if 0<=r-d/\r-d<b then 1 else 0)/\((odR d a b c r).count 2=if 0<=r-d/\r-d<c then 1 else 0):=by
 have q:∀ (P:Prop) [Decidable P] (x k:Int),(if P then [x]else []).count k=if P then (if x=k then 1 else 0)else 0:=fun P _ x k=>by
  by_cases h:P
  ·rw[if_pos h,if_pos h]
   by_cases e:x=k
   ·subst e
    rw[if_pos rfl,List.count_cons_self];rfl
   ·rw[if_neg e,List.count_cons_of_ne e];rfl
  ·rw[if_neg h,if_neg h];rfl
 unfold odR
 simp only[List.count_append,q]
 refine⟨?_,?_,?_⟩
 ·simp
 ·simp
 ·simp
theorem odN_c (d a b c:Int) (ha:0<=a) (hb:0<=b) (hc:0<=c) (hd:0<=d):∀ n:Nat,(((odN d a b c n).count 0:Nat):Int)=min (n:Int) a/\(((odN d a b c n).count 1:Nat):Int)=max 0 (min ((n:Int)-d) b)/\(((odN d a b c n).count 2:Nat):Int)=max 0 (min ((n:Int)-d) c)
 | 0=>by
  have e:odN d a b c 0=[]:=rfl
  rw[e]
  simp only[List.count_nil]
  omega
 | n+1=>by
  obtain⟨i0,i1,i2⟩:=odN_c d a b c ha hb hc hd n
  obtain⟨r0,r1,r2⟩:=odR_c d a b c n
  have e:odN d a b c (n+1)=odN d a b c n++odR d a b c n:=rfl
  rw[e,List.count_append,List.count_append,List.count_append,r0,r1,r2]
  refine⟨?_,?_,?_⟩
  ·split<;>omega
  ·split<;>omega
  ·split<;>omega
theorem ord_c {d a b c:Int} (h:odOk d a b c):(((ordP d a b c).count 0:Nat):Int)=a/\(((ordP d a b c).count 1:Nat):Int)=b/\(((ordP d a b c).count 2:Nat):Int)=c:=by
 obtain⟨h1,h2,h3,h4,h5,h6,h7,h8⟩:=h
 obtain⟨i0,i1,i2⟩:=odN_c d a b c h3 h5 h7 h1 51
 have e:ordP d a b c=odN d a b c 51:=rfl
 rw[e]
 omega
theorem odR_mem {d a b c r x:Int} (h:x∈odR d a b c r):x=0∨x=1∨x=2:=by
 unfold odR at h
 simp only[List.mem_append]at h
 rcases h with h | h | h<;>split at h<;>simp_all
theorem odN_mem {d a b c x:Int}:∀ n,x∈odN d a b c n->x=0∨x=1∨x=2
 | 0,h=>by cases h
 | n+1,h=>by
  have e:odN d a b c (n+1)=odN d a b c n++odR d a b c n:=rfl
  rw[e]at h
  rcases List.mem_append.1 h with h | h
  ·exact odN_mem n h
  ·exact odR_mem h
theorem ord_at {d a b c:Int} {i:Nat} (hi:i<(ordP d a b c).length):rd (ordP d a b c) i=0∨rd (ordP d a b c) i=1∨rd (ordP d a b c) i=2:=by
 rw[rd_lt _ _ hi]
 exact odN_mem 51 (List.getElem_mem hi)
theorem ord_len (d a b c:Int):(ordP d a b c).length<=153:=odN_len d a b c 51
theorem drop_rd {l:List Int} {i:Nat} (hi:i<l.length):l.drop i=rd l i::l.drop (i+1):=by
 rw[rd_lt _ _ hi]
 exact List.drop_eq_getElem_cons hi
def mixJ {α:Type} (l:List Int) (A:Int->List α) (c:Int->Nat):Prop:=∀ k,k=0∨k=1∨k=2->c k+l.count k=(A k).length
theorem mixJ.step {α:Type} {x:Int} {l:List Int} {A:Int->List α} {c:Int->Nat} (h:mixJ (x::l) A c) (hx:x=0∨x=1∨x=2):c x<(A x).length/\mixJ l A (fun j=>if j=x then c j+1 else c j):=by
 have h1:=h x hx
 rw[List.count_cons_self]at h1
 refine⟨by omega,fun k hk=>?_⟩
 have h2:=h k hk
 by_cases e:k=x
 ·subst e
  rw[List.count_cons_self]at h2
  simp only[if_true]
  omega
 ·rw[List.count_cons_of_ne (fun g=>e g.symm)]at h2
  simp only[if_neg e]
  exact h2
theorem encP_pn (p:Pl) {lv kd:Int} (hag:argsOk lv kd):(((encP p lv kd).length:Nat):Int)=pnP p/\pnP p<=25:=by
 unfold pnP
 by_cases h:p.Ok
 ·rw[if_pos h]
  exact⟨encP_len h hag,(planesP_bd h.2.2).2⟩
 ·rw[if_neg h]
  unfold encP
  rw[if_neg (fun g=>h g.1)]
  exact⟨rfl,by decide⟩
theorem recAt_by {f:Nat->Xf.Loc} {l:List (List Int)} {i:Nat} (h:i<l.length) (z:List RC):recAt (i:Int) z (byOf f l)=[.row (f i) .u8 (l.getD i default)]:=by
 unfold byOf recAt
 simp[h,byRc]
def fs50:FS where
 A:=ImA
 args:=fun a=>[imV a.i a.L1 a.L2 a.L3 0]
 mem:=fun a=>imM a.i a.L1 a.L2 a.L3
 pre:=fun a=>a.i.small
 res:=fun a _=>.bool (decide (isGr a.i))
theorem ok50:FSOk Tryz.prog 50 fs50:=by
 refine hd_ (fk_ Tryz.func50) fun a hp=>?_
 obtain⟨⟨W,H,R,G,B⟩,L1,L2,L3⟩:=a
 obtain⟨s1,s2,s3⟩:R.length<=140737488355328/\G.length<=140737488355328/\B.length<=140737488355328:=hp
 change Tri Tryz.prog 50 [imV ⟨W,H,R,G,B⟩ L1 L2 L3 0] [some (.ro,L1,.ints .i64 R),some (.ro,L2,.ints .i64 G),some (.ro,L3,.ints .i64 B)] (postF fs50 _)
 refine tri_evS (hyp (l:=[(107,ent107)]) (lp:=[]) ⟨e107,trivial⟩ trivial) Tryz.func50 comp50 (rs:=[.tmp 2]) (by rfl) Tryz.ntmps50 19 ?_
 have hd:decide (isGr ⟨W,H,R,G,B⟩)=decide (R=G/\G=B):=rfl
 by_cases h1:R=G
 ·by_cases h2:G=B
  ·subst h1
   subst h2
   have hg:isGr ⟨W,H,R,R,R⟩:=⟨rfl,rfl⟩
   simp -implicitDefEqProofs only[push_cast,zz,seval,ir50,fs107,s1,s2,s3]
   intro X
   repeat refine om_ ?_
   refine postF.mk' (fun _=>default) [some 0,some 1,some 2] ?_
   simp -implicitDefEqProofs only[push_cast,zz,seval,fs50,hg]
  ·subst h1
   have hg:¬ isGr ⟨W,H,R,R,B⟩:=fun h=>h2 h.2
   simp -implicitDefEqProofs only[push_cast,zz,seval,ir50,fs107,s1,s2,s3,h2]
   intro X
   repeat refine om_ ?_
   refine postF.mk' (fun _=>default) [some 0,some 1,some 2] ?_
   simp -implicitDefEqProofs only[push_cast,zz,seval,fs50,hg,h2]
 ·have hg:¬ isGr ⟨W,H,R,G,B⟩:=fun h=>h1 h.1
  simp -implicitDefEqProofs only[push_cast,zz,seval,ir50,fs107,s1,s2,s3,h1]
  intro X
  repeat refine om_ ?_
  refine postF.mk' (fun _=>default) [some 0,some 1,some 2] ?_
  simp -implicitDefEqProofs only[push_cast,zz,seval,fs50,hg,h1]
def ent50:Entry:=spOf fs50 inv49
theorem e50:EntryOk Tryz.prog 50 ent50:=entry_of ok50 inv49
@[push_cast] theorem ent50_a u l x k:ent50 u l x k=spOf fs50 inv49 u l x k:=rfl
def b14_1:IR:=
 .seq (r_ [b_ 34 .lss 33 32] []) (.seq (.cond (.t 34) (.skip) (.exit 1)) (.seq (.block 2 (.seq (r_ [m_ 35 33,i_ 36 31 33 3,o_ 37 (.ld true (some 3) 30 1 (.t 36)),o_ 9 (.alloc 31 [y_,y_,nilSV]),m_ 8 35,s_ 3 .i64 9 37] [34,35,36,37]) (.seq (r_ [m_ 39 8,o_ 40 (.ld false (some 3) 0 0 (.t 9)),o_ 41 (.call (some 4) 32 52 [.t 40]),m_ 38 41,e_ 42 38 0,e_ 43 38 1,o_ 44 (.idxP (.t 6) (.t 39) 3 1),S_ 1 .i64 44 42] [38,39,40,41,42,43,44]) (r_ [m_ 46 8,o_ 47 (.ld false (some 3) 0 0 (.t 9)),f_ 48 3 1,l_ 49 48,f_ 50 3 2,l_ 51 50,o_ 52 (.call (some 4) 36 53 [.t 47,.t 49,.t 51]),m_ 45 52,e_ 53 45 0,e_ 54 45 1,o_ 55 (.idxP (.t 7) (.t 46) 3 1),s_ 1 .u8 55 53] [8,9,45,46,47,48,49,50,51,52,53,54,55])))) (r_ [a_ 56 33 1,m_ 33 56] [56])))
def b14_2:IR:=
 .seq (r_ [b_ 70 .lss 69 68] []) (.seq (.cond (.t 70) (.skip) (.exit 3)) (.seq (.block 4 (.seq (r_ [i_ 71 67 69 1,L_ 72 71,m_ 12 72] [70,71,72]) (.seq (r_ [m_ 73 10,m_ 74 12,o_ 75 (.idxP (.t 7) (.t 74) 3 1),l_ 76 75,o_ 77 (.idxS (.t 76) (Z_ 0) 1),o_ 78 (.ld true none 49 1 (.t 77)),o_ 79 (.brecs 50 1 .u8 [.t 78]),o_ 80 (.app 51 1 24 (.t 73) (.t 79)),m_ 10 80] [73,74,75,76,77,78,79,80]) (r_ [m_ 81 12,m_ 82 12,o_ 83 (.idxP (.t 7) (.t 82) 3 1),l_ 84 83,o_ 85 (.slc (.t 84) 1 (some (Z_ 1)) none),o_ 86 (.idxP (.t 7) (.t 81) 3 1),s_ 1 .u8 86 85] [12,81,82,83,84,85,86])))) (r_ [a_ 87 69 1,m_ 69 87] [87])))
def r14_3:IR:=
 .seq (r_ [m_ 88 10,m_ 4 88,z_ 5 0] [7,10,67,68,69,88]) (.ret)
def r14_4:IR:=
 .seq (r_ [f_ 57 2 0,l_ 58 57,f_ 59 2 1,l_ 60 59,o_ 61 (.ld false (some 6) 0 0 (.t 3)),o_ 62 (.ld true (some 3) 0 0 (.t 6)),o_ 63 (.call (some 4) 40 54 [.t 58,.t 60,.t 61,.t 62]),o_ 64 (.brecs 44 1 .u8 [.t 63]),m_ 10 64] [2,31,32,33,57,58,59,60,61,62,63,64]) (.seq (.seq (r_ [o_ 65 (.ld false (some 6) 0 0 (.t 3)),o_ 66 (.ld true (some 3) 0 0 (.t 6)),o_ 67 (.call (some 4) 45 55 [.t 65,.t 66]),h_ 68 67,z_ 69 0] [3,6,65,66]) (.block 3 (.loop b14_2))) (r14_3))
def ir14:IR:=
 .seq (r_ [o_ 2 (.box 10 (.t 0)),o_ 3 (.box 11 (.t 1)),o_ 4 (.mov (.k nilSV)),z_ 5 0] [0,1,4,5]) (.seq (.block 0 (.seq (r_ [o_ 14 (.ld false (some 6) 0 0 (.t 3)),o_ 15 (.call (some 4) 12 17 [.t 14]),o_ 16 (.not (.t 15)),m_ 13 16] [14,15,16]) (.cond (.t 13) (.seq (r_ [o_ 4 (.mov (.k nilSV)),z_ 5 2] [2,3,13]) (.ret)) (.seq (r_ [o_ 18 (.ld false (some 5) 0 0 (.t 2)),o_ 19 (.call (some 4) 16 49 [.t 18]),o_ 20 (.not (.t 19)),m_ 17 20] [13,18,19,20]) (.cond (.t 17) (.seq (r_ [o_ 4 (.mov (.k nilSV)),z_ 5 75] [2,3,17]) (.ret)) (.seq (r_ [f_ 22 3 3,l_ 23 22,m_ 24 23,p_ 24 (o_ 25 (.ld false (some 5) 0 0 (.t 2))),p_ 24 (o_ 26 (.call (some 4) 20 50 [.t 25])),p_ 24 (o_ 27 (.not (.t 26))),K_ 28 24 27,m_ 21 28] [17,22,23,24,25,26,27,28]) (.cond (.t 21) (.seq (r_ [o_ 4 (.mov (.k nilSV)),z_ 5 2] [2,3,21]) (.ret)) (.skip)))))))) (.seq (r_ [o_ 6 (.allocI 24 .i64 3)] [4,5,21]) (.seq (r_ [o_ 7 (.alloc 25 [nilSV,nilSV,nilSV])] []) (.seq (.seq (r_ [o_ 29 (.ld false (some 5) 0 0 (.t 2)),o_ 30 (.ld false (some 6) 0 0 (.t 3)),o_ 31 (.call (some 4) 26 51 [.t 29,.t 30]),h_ 32 31,z_ 33 0] [29,30]) (.block 1 (.loop b14_1))) (r14_4)))))
def kp14_1:List Nat:=[2,3,6,7,31,32,33]
def kl14_1:List Nat:=[30,31,32,33,34,35,36,37,38,39]
attribute [push_cast] kp14_1 kl14_1
def kp14_2:List Nat:=[7,10,67,68,69]
def kl14_2:List Nat:=[49,50,51]
attribute [push_cast] kp14_2 kl14_2
set_option maxRecDepth 4000 in
theorem comp14:(Tryz.f14.body.bind fun c=>compC tab isP chkAll ir14 c)=some ir14:=by kernel_rfl
def alC (E:Nat->Xf.Loc) (n:Nat->Nat):Nat->List SV
 | 0=>[nilSV,nilSV,nilSV]
 | 1=>[.sl 12 (E 0) 1 0 (n 0),nilSV,nilSV]
 | 2=>[.sl 12 (E 0) 1 0 (n 0),.sl 13 (E 1) 1 0 (n 1),nilSV]
 | _=>[.sl 12 (E 0) 1 0 (n 0),.sl 13 (E 1) 1 0 (n 1),.sl 14 (E 2) 1 0 (n 2)]
def alM (E:Nat->Xf.Loc) (F:Nat->Nat->Xf.Loc) (A:Nat->List (List Int)):Nat->List (Nat×Xf.Own×Xf.Loc×Xf.Chunk)
 | 0=>[]
 | 1=>[(12,.mine,E 0,.recs 1 true [] (byOf (F 0) (A 0)))]
 | 2=>[(12,.mine,E 0,.recs 1 true [] (byOf (F 0) (A 0))),(13,.mine,E 1,.recs 1 true [] (byOf (F 1) (A 1)))]
 | _=>[(12,.mine,E 0,.recs 1 true [] (byOf (F 0) (A 0))),(13,.mine,E 1,.recs 1 true [] (byOf (F 1) (A 1))),(14,.mine,E 2,.recs 1 true [] (byOf (F 2) (A 2)))]
def pnC (n:Nat->Nat):Nat->List Int
 | 0=>[0,0,0]
 | 1=>[n 0,0,0]
 | 2=>[n 0,n 1,0]
 | _=>[n 0,n 1,n 2]
def sel3 {α:Type} (a b c:α):Nat->α
 | 0=>a
 | 1=>b
 | _=>c
attribute [push_cast] alC alM pnC sel3
def fs14:FS where
 A:=NmA
 args:=fun a=>[imV a.a.i a.a.L1 a.a.L2 a.a.L3 0,a.s.sv]
 mem:=fun a=>imM a.a.i a.a.L1 a.a.L2 a.a.L3
 pre:=fun a=>a.a.i.small
 res:=fun a x=>.tup [.sl 3 (lx (enE a.a.i a.s=0) x 0) 1 0 (enL a.a.i a.s).length,.int .i64 (enE a.a.i a.s)]
 new:=fun a x=>[(lx (enE a.a.i a.s=0) x 0,.recs 1 true [] (byOf (fun j=>x (j+1)) (enL a.a.i a.s)))]
def aL (i:Im) (s:SyA) (k:Nat):List (List Int):=if s.gr=true/\0<k then []else enP i s k
theorem aL_len {i:Im} {s:SyA} (hs:syOk s) (k:Nat):(((aL i s k).length:Nat):Int)=enN i s k/\enN i s k<=25:=by
 have hag:argsOk s.lv s.kd:=⟨hs.2.1,hs.2.2.1,hs.2.2.2.1⟩
 unfold aL enN
 by_cases h:s.gr=true/\0<k
 ·rw[if_pos h,if_pos h]
  exact⟨rfl,by decide⟩
 ·rw[if_neg h,if_neg h]
  exact encP_pn _ hag
set_option maxRecDepth 8000 in
set_option maxHeartbeats 4000000 in
theorem ok14:FSOk Tryz.prog 14 fs14:=by
 refine hd_ (fk_ Tryz.func14) fun a hp=>?_
 obtain⟨⟨⟨W,H,R,G,B⟩,L1,L2,L3⟩,⟨wv,lv,kd,gr,hf,d⟩⟩:=a
 have hsm:(⟨W,H,R,G,B⟩:Im).small:=hp
 change Tri Tryz.prog 14 [imV ⟨W,H,R,G,B⟩ L1 L2 L3 0,.agg [.int .i64 wv,.int .i64 lv,.int .i64 kd,.bool gr,.bool hf,.int .i64 d]] [some (.ro,L1,.ints .i64 R),some (.ro,L2,.ints .i64 G),some (.ro,L3,.ints .i64 B)] (postF fs14 _)
 refine tri_evS (hyp (l:=[(17,ent17),(49,ent49),(50,ent50),(51,ent51),(52,ent52),(53,ent53),(54,ent54),(55,ent55)]) (lp:=[]) ⟨e17,e49,e50,e51,e52,e53,e54,e55,trivial⟩ trivial) Tryz.func14 comp14 (rs:=[.tmp 4,.tmp 5]) (by rfl) Tryz.ntmps14 52 ?_
 have bad:∀ e,enE ⟨W,H,R,G,B⟩ ⟨wv,lv,kd,gr,hf,d⟩=e->e≠0->enL ⟨W,H,R,G,B⟩ ⟨wv,lv,kd,gr,hf,d⟩=[]:=fun e h h0=>if_neg (fun g=>h0 (by rw[<-h];exact g))
 have hb0:byOf (fun _=>default) []=[]:=rfl
 have hb1:∀ f,byOf f []=[]:=fun _=>rfl
 by_cases hs:syOk ⟨wv,lv,kd,gr,hf,d⟩
 rotate_left
 ·have hE:enE ⟨W,H,R,G,B⟩ ⟨wv,lv,kd,gr,hf,d⟩=2:=if_neg hs
  have hL:=bad 2 hE (by decide)
  simp -implicitDefEqProofs only[push_cast,zz,seval,ir14,fs17,SyA.sv,hs]
  intro X
  repeat refine om_ ?_
  refine postF.mk' (fun _=>nilLoc) [some 0,some 1,some 2,none] ?_
  simp -implicitDefEqProofs only[push_cast,zz,seval,fs14,hE,hL,lx,hb1]
 by_cases hi:(⟨W,H,R,G,B⟩:Im).Ok
 rotate_left
 ·have hE:enE ⟨W,H,R,G,B⟩ ⟨wv,lv,kd,gr,hf,d⟩=75:=by unfold enE;rw[if_pos hs,if_neg hi]
  have hL:=bad 75 hE (by decide)
  simp -implicitDefEqProofs only[push_cast,zz,seval,ir14,fs17,fs49,SyA.sv,hs,hi,hsm]
  intro X
  repeat refine om_ ?_
  refine postF.mk' (fun _=>nilLoc) [some 0,some 1,some 2,none] ?_
  simp -implicitDefEqProofs only[push_cast,zz,seval,fs14,hE,hL,lx,hb1]
 by_cases hg:gr=true/\¬ isGr ⟨W,H,R,G,B⟩
 ·obtain⟨rfl,hg⟩:=hg
  have hE:enE ⟨W,H,R,G,B⟩ ⟨wv,lv,kd,true,hf,d⟩=2:=by unfold enE;rw[if_pos hs,if_pos hi,if_pos ⟨rfl,hg⟩]
  have hL:=bad 2 hE (by decide)
  simp -implicitDefEqProofs only[push_cast,zz,seval,ir14,fs17,fs49,fs50,SyA.sv,hs,hi,hsm,hg]
  intro X
  repeat refine om_ ?_
  refine postF.mk' (fun _=>nilLoc) [some 0,some 1,some 2,none] ?_
  simp -implicitDefEqProofs only[push_cast,zz,seval,fs14,hE,hL,lx,hb1]
 have hE:enE ⟨W,H,R,G,B⟩ ⟨wv,lv,kd,gr,hf,d⟩=0:=by unfold enE;rw[if_pos hs,if_pos hi,if_neg hg]
 have hL:enL ⟨W,H,R,G,B⟩ ⟨wv,lv,kd,gr,hf,d⟩=wrH ⟨W,H,⟨wv,lv,kd,gr,hf,d⟩,enN ⟨W,H,R,G,B⟩ ⟨wv,lv,kd,gr,hf,d⟩ 0,enN ⟨W,H,R,G,B⟩ ⟨wv,lv,kd,gr,hf,d⟩ 1,enN ⟨W,H,R,G,B⟩ ⟨wv,lv,kd,gr,hf,d⟩ 2⟩::mix (ordP d (enN ⟨W,H,R,G,B⟩ ⟨wv,lv,kd,gr,hf,d⟩ 0) (enN ⟨W,H,R,G,B⟩ ⟨wv,lv,kd,gr,hf,d⟩ 1) (enN ⟨W,H,R,G,B⟩ ⟨wv,lv,kd,gr,hf,d⟩ 2)) (fun k=>enP ⟨W,H,R,G,B⟩ ⟨wv,lv,kd,gr,hf,d⟩ k.toNat) (fun _=>0):=if_pos hE
 have hal:=fun k=>aL_len (i:=⟨W,H,R,G,B⟩) hs k
 have hag:argsOk lv kd:=⟨hs.2.1,hs.2.2.1,hs.2.2.2.1⟩
 obtain⟨hs1,hs2,hs3,hs4,hs5,hs6⟩:=id hs
 simp only at hs5 hs6
 obtain⟨⟨i1,i2,i3,i4,i5⟩,_⟩:=id hi
 simp only at i1 i2 i3 i4
 obtain⟨N0,hN0⟩:∃ N:Nat,enN ⟨W,H,R,G,B⟩ ⟨wv,lv,kd,gr,hf,d⟩ 0=(N:Int):=⟨_,(hal 0).1.symm⟩
 obtain⟨N1,hN1⟩:∃ N:Nat,enN ⟨W,H,R,G,B⟩ ⟨wv,lv,kd,gr,hf,d⟩ 1=(N:Int):=⟨_,(hal 1).1.symm⟩
 obtain⟨N2,hN2⟩:∃ N:Nat,enN ⟨W,H,R,G,B⟩ ⟨wv,lv,kd,gr,hf,d⟩ 2=(N:Int):=⟨_,(hal 2).1.symm⟩
 have a0:=hal 0
 have a1:=hal 1
 have a2:=hal 2
 rw[hN0]at a0
 rw[hN1]at a1
 rw[hN2]at a2
 rw[hN0,hN1,hN2]at hL
 have hod:odOk d N0 N1 N2:=⟨hs5,hs6,by omega,a0.2,by omega,a1.2,by omega,a2.2⟩
 have hwh:whOk ⟨W,H,⟨wv,lv,kd,gr,hf,d⟩,N0,N1,N2⟩:=⟨i1,by simp only;omega,i2,by simp only;omega,hs,by simp only;omega,a0.2,by simp only;omega,a1.2,by simp only;omega,a2.2⟩
 obtain⟨oc0,oc1,oc2⟩:=ord_c hod
 have hol:=ord_len d N0 N1 N2
 have hat:=fun i hi=>ord_at (d:=d) (a:=N0) (b:=N1) (c:=N2) (i:=i) hi
 obtain⟨LS,hLS⟩:∃ l,ordP d N0 N1 N2=l:=⟨_,rfl⟩
 rw[hLS]at hol oc0 oc1 oc2 hL
 simp only[hLS]at hat
 obtain⟨HD,hHD⟩:∃ l,wrH ⟨W,H,⟨wv,lv,kd,gr,hf,d⟩,N0,N1,N2⟩=l:=⟨_,rfl⟩
 rw[hHD]at hL
 have s3:∀ x y z w:Int,([x,y,z].set 0 w=[w,y,z]/\[x,y,z].set 1 w=[x,w,z])/\[x,y,z].set 2 w=[x,y,w]:=fun _ _ _ _=>⟨⟨rfl,rfl⟩,rfl⟩
 have t3:∀ x y z w:Int,([x,y,z].getD 0 w=x/\[x,y,z].getD 1 w=y)/\[x,y,z].getD 2 w=z:=fun _ _ _ _=>⟨⟨rfl,rfl⟩,rfl⟩
 have hnd:(nuF ⟨W,H,R,G,B⟩ ⟨wv,lv,kd,gr,hf,d⟩) 0=nuP ⟨W,H,R,G,B⟩ ⟨wv,lv,kd,gr,hf,d⟩ 0:=by cases gr<;>rfl
 cases gr with
 | true=>
  obtain⟨⟨w0,h0,x0⟩,hp0⟩:∃ p,nuP ⟨W,H,R,G,B⟩ ⟨wv,lv,kd,true,hf,d⟩ 0=p:=⟨_,rfl⟩
  have pl0:(if (⟨w0,h0,x0⟩:Pl).Ok then planesP x0 else 0)=(N0:Int):=by have h:enN ⟨W,H,R,G,B⟩ ⟨wv,lv,kd,true,hf,d⟩ 0=_:=if_neg (by simp);rw[hp0,hN0]at h;exact h.symm
  have A0:aL ⟨W,H,R,G,B⟩ ⟨wv,lv,kd,true,hf,d⟩ 0=encP ⟨w0,h0,x0⟩ lv kd:=by have h:aL ⟨W,H,R,G,B⟩ ⟨wv,lv,kd,true,hf,d⟩ 0=enP ⟨W,H,R,G,B⟩ ⟨wv,lv,kd,true,hf,d⟩ 0:=if_neg (by simp);rw[h];unfold enP;rw[hp0]
  have xl0:x0.length<=140737488355328:=by have h:=nuP_len (s:=⟨wv,lv,kd,true,hf,d⟩) hi 0;rw[hp0]at h;exact h
  have M0:enP ⟨W,H,R,G,B⟩ ⟨wv,lv,kd,true,hf,d⟩ 0=encP ⟨w0,h0,x0⟩ lv kd:=by unfold enP;rw[hp0]
  rw[A0]at a0
  obtain⟨C0,hC0⟩:∃ c,encP ⟨w0,h0,x0⟩ lv kd=c:=⟨_,rfl⟩
  rw[hC0]at a0 M0
  have c0:(C0.length:Int)=N0:=a0.1
  have nl0:C0.length=N0:=by omega
  obtain rfl:N1=0:=by have h:enN ⟨W,H,R,G,B⟩ ⟨wv,lv,kd,true,hf,d⟩ 1=0:=if_pos ⟨rfl,by decide⟩;omega
  obtain rfl:N2=0:=by have h:enN ⟨W,H,R,G,B⟩ ⟨wv,lv,kd,true,hf,d⟩ 2=0:=if_pos ⟨rfl,by decide⟩;omega
  have hz:((0:Nat):Int)=0:=rfl
  rw[hz]at hod hwh hHD hLS
  have hrc:∀ N,rc3 (nuF ⟨W,H,R,G,B⟩ ⟨wv,lv,kd,true,hf,d⟩) N=rc3 (nuF ⟨W,H,R,G,B⟩ ⟨wv,lv,kd,true,hf,d⟩) N:=fun _=>rfl
  have r0:∀ (N:Nat->Xf.Loc) z,recAt 0 z (rc3 (nuF ⟨W,H,R,G,B⟩ ⟨wv,lv,kd,true,hf,d⟩) N)=[.int .i64 w0,.int .i64 h0,.row (N 0) .i64 x0]:=fun N z=>by
   have h:nuF ⟨W,H,R,G,B⟩ ⟨wv,lv,kd,true,hf,d⟩ 0=nuP ⟨W,H,R,G,B⟩ ⟨wv,lv,kd,true,hf,d⟩ 0:=rfl
   have h2:=rc3_at (nuF ⟨W,H,R,G,B⟩ ⟨wv,lv,kd,true,hf,d⟩) N (k:=0) (by decide) z
   rw[h,hp0]at h2
   exact h2
  have rl:=fun N=>rc3_len (nuF ⟨W,H,R,G,B⟩ ⟨wv,lv,kd,true,hf,d⟩) N
  obtain⟨RC,hRC⟩:∃ f:(Nat->Xf.Loc)->List (List RC),(fun N=>rc3 (nuF ⟨W,H,R,G,B⟩ ⟨wv,lv,kd,true,hf,d⟩) N)=f:=⟨_,rfl⟩
  have hRC:∀ N,rc3 (nuF ⟨W,H,R,G,B⟩ ⟨wv,lv,kd,true,hf,d⟩) N=RC N:=fun N=>congrFun hRC N
  simp only[hRC]at rl
  simp only[hRC]at r0
  have hii:isGr ⟨W,H,R,G,B⟩:=by rcases Classical.em (isGr ⟨W,H,R,G,B⟩)with h | h;exact h;exact absurd ⟨rfl,h⟩ hg
  simp -implicitDefEqProofs only[push_cast,zz,seval,ir14,fs17,fs49,fs50,fs51,SyA.sv,hs,hi,hsm,hii,hRC]
  intro X0
  repeat refine om_ ?_
  intro X1 X2 X3
  repeat refine om_ ?_
  refine evS_loopU (A:=Nat×(Nat->Xf.Loc)×(Nat->Nat->Xf.Loc)) kp14_1 kl14_1 (fun y=>[(33,.int .i64 y.1)]) (fun y=>alM y.2.1 y.2.2 (sel3 C0 [] []) y.1++[(24,.mine,⟨(X1 0 24).b,(X1 0 24).o,false,3⟩,.ints .i64 (pnC (sel3 N0 0 0) y.1)),(25,.mine,X2 0 25,.cells (alC y.2.1 (sel3 N0 0 0) y.1))]) (fun y=>y.1<=1) (fun y=>1-y.1) (0,fun _=>nilLoc,fun _ _=>nilLoc) (Nat.zero_le _) (Sub.pt ?_) ?_
  ·simp -implicitDefEqProofs only[push_cast,zz,seval]
  intro ⟨k,E,F⟩ hk K hK
  have hk:k<=1:=hk
  obtain rfl | rfl:k=0∨k=1:=by omega
  ·simp -implicitDefEqProofs only[push_cast,zz,seval,b14_1,r0,rl,fs52,fs53,xl0,pl0,hC0,nl0,lx]
   intro X4 X5
   repeat refine om_ ?_
   refine hK (1,sel3 ((if (⟨w0,h0,x0⟩:Pl).Ok/\argsOk lv kd then X5 6 36 else nilLoc0)) (nilLoc) (nilLoc),sel3 (fun i=>X5 6 (36+(i+1))) (fun _=>nilLoc) (fun _=>nilLoc)) (show 1<=1 by decide) (show 1-1<1-0 by decide) _ _ (Sub.of (mkG 52 [(0,0),(1,1),(2,2),(10,10),(11,11),(24,24),(25,25),(26,26),(12,36)]) ?_)
   simp -implicitDefEqProofs only[push_cast,zz,seval,s3,nl0]
  ·clear hK
   simp -implicitDefEqProofs only[push_cast,zz,seval,b14_1,r14_4,fs54,fs64,SyA.sv,t3,hwh,hHD,hod,hLS]
   intro X6
   repeat refine om_ ?_
   intro X7
   obtain⟨MF,hMFe⟩:∃ f:Int->List (List Int),(fun k:Int=>enP ⟨W,H,R,G,B⟩ ⟨wv,lv,kd,true,hf,d⟩ k.toNat)=f:=⟨_,rfl⟩
   rw[hMFe]at hL
   have m0:MF 0=C0:=by rw[<-hMFe];exact M0
   obtain⟨AJ,hAJ⟩:∃ f:Int->List (List Int),(fun k:Int=>sel3 C0 [] [] k.toNat)=f:=⟨_,rfl⟩
   have j0:AJ 0=C0:=by rw[<-hAJ];rfl
   have j1:AJ 1=[]:=by rw[<-hAJ];rfl
   have j2:AJ 2=[]:=by rw[<-hAJ];rfl
   have hJ:mixJ LS AJ (fun _=>0):=fun k hk=>by
    rcases hk with rfl | rfl | rfl
    ·rw[j0];simp only[Nat.zero_add];omega
    ·rw[j1];simp only[Nat.zero_add];show _=0;omega
    ·rw[j2];simp only[Nat.zero_add];show _=0;omega
   have cs0:∀ xs:List Int,sub xs 0 (xs.length:Int)=xs:=fun xs=>by unfold sub;simp
   refine evS_loopU (A:=Nat×(Int->Nat)×List (Xf.Loc×List Int)×Xf.Loc) kp14_2 kl14_2 (fun y=>[(10,.sl 44 y.2.2.2 1 0 y.2.2.1.length),(69,.int .i64 y.1)]) (fun y=>[(25,.mine,X2 0 25,.cells [.sl 12 (E 0) 1 (y.2.1 0) (N0-y.2.1 0),.sl 4096 nilLoc0 1 0 0,.sl 4096 nilLoc0 1 0 0]),(44,.mine,y.2.2.2,.recs 1 true [] (y.2.2.1.map byRc))]) (fun y=>y.1<=LS.length/\mixJ (LS.drop y.1) AJ y.2.1/\y.2.2.1.map (·.2)++mix (LS.drop y.1) MF y.2.1=HD::mix LS MF (fun _=>0)/\y.2.2.1.length=y.1+1) (fun y=>LS.length-y.1) (0,fun _=>0,[((X6 6 40).fr 0,HD)],X6 7 44) ⟨Nat.zero_le _,hJ,rfl,rfl⟩ (Sub.pt ?_) ?_
   ·simp -implicitDefEqProofs only[push_cast,zz,seval,cs0,byRc,Int.sub_zero]
   intro ⟨i,c,rows,M⟩ ⟨(hi1:i<=LS.length),(hJ1:mixJ (LS.drop i) AJ c),(hm:rows.map (·.2)++mix (LS.drop i) MF c=HD::mix LS MF (fun _=>0)),(hrl:rows.length=i+1)⟩ K hK
   have hmapl:((rows.map byRc).length:Int)=rows.length:=by rw[List.length_map]
   by_cases hi2:i<LS.length
   ·have hi3:(i:Int)<LS.length:=by omega
    have hx:=hat i hi2
    rw[drop_rd hi2]at hJ1 hm
    obtain⟨hlt,hJ2⟩:=hJ1.step hx
    obtain⟨x,hxe⟩:∃ x,rd LS i=x:=⟨_,rfl⟩
    rw[hxe]at hx hlt hm
    simp only[hxe]at hJ2
    rcases hx with rfl | rfl | rfl
    ·rw[j0]at hlt
     have q1:=fun z=>recAt_by (f:=F 0) hlt z
     have q2:((byOf (F 0) C0).length:Int)=N0:=by rw[byOf_len,nl0]
     have hlt2:((c 0:Nat):Int)<N0:=by omega
     obtain⟨u,hu⟩:∃ u,C0.getD (c 0) default=u:=⟨_,rfl⟩
     rw[hu]at q1
     have hm2:mix (0::LS.drop (i+1)) MF c=u::mix (LS.drop (i+1)) MF (fun j=>if j=0 then c j+1 else c j):=by rw[mix,m0,hu]
     rw[hm2]at hm
     simp -implicitDefEqProofs only[push_cast,zz,seval,b14_2,hi3,hxe,q1,q2,cs0,hmapl]
     repeat refine om_ ?_
     intro X8
     repeat refine om_ ?_
     have hrc:(rows++[((F 0 (c 0)).fr 0,u)]).map byRc=rows.map byRc++[[.row ((F 0 (c 0)).fr 0) .u8 u]]:=by rw[List.map_append];rfl
     refine hK (i+1,fun j=>if j=0 then c j+1 else c j,rows++[((F 0 (c 0)).fr 0,u)],X8 7 51) ⟨hi2,hJ2,by simp only[List.map_append,List.append_assoc];exact hm,by simp only[List.length_append,List.length_singleton];omega⟩ (show LS.length-(i+1)<LS.length-i by omega) _ _ (Sub.of (mkG 52 [(0,0),(1,1),(2,2),(10,10),(11,11),(12,12),(24,24),(25,25),(26,26),(40,40),(44,51),(45,45)]) ?_)
     simp -implicitDefEqProofs only[push_cast,zz,seval,hrc,Int.sub_sub,List.length_append]
    ·rw[j1]at hlt;exact absurd hlt (Nat.not_lt_zero _)
    ·rw[j2]at hlt;exact absurd hlt (Nat.not_lt_zero _)
   ·obtain rfl:i=LS.length:=by omega
    have hrows:rows.map (·.2)=enL ⟨W,H,R,G,B⟩ ⟨wv,lv,kd,true,hf,d⟩:=by rw[hL,<-hm,List.drop_length,mix,List.append_nil]
    have hby:=byOf_eq hrows
    have hlen:rows.length=(enL ⟨W,H,R,G,B⟩ ⟨wv,lv,kd,true,hf,d⟩).length:=by rw[<-hrows,List.length_map]
    have h10:∀ i:Nat,¬ i+1=0:=fun i=>by omega
    clear hK
    simp -implicitDefEqProofs only[push_cast,zz,seval,b14_2,r14_3,Int.lt_irrefl]
    refine postF.mk' (fun j=>if j=0 then M else (rows.getD (j-1) (nilLoc,[])).1) [some 0,some 1,some 2,some 44] ?_
    simp -implicitDefEqProofs only[push_cast,zz,seval,fs14,hE,lx,h10,Nat.add_sub_cancel,hby,hlen,if_true]
 | false=>
  obtain⟨⟨w0,h0,x0⟩,hp0⟩:∃ p,nuP ⟨W,H,R,G,B⟩ ⟨wv,lv,kd,false,hf,d⟩ 0=p:=⟨_,rfl⟩
  have pl0:(if (⟨w0,h0,x0⟩:Pl).Ok then planesP x0 else 0)=(N0:Int):=by have h:enN ⟨W,H,R,G,B⟩ ⟨wv,lv,kd,false,hf,d⟩ 0=_:=if_neg (by simp);rw[hp0,hN0]at h;exact h.symm
  have A0:aL ⟨W,H,R,G,B⟩ ⟨wv,lv,kd,false,hf,d⟩ 0=encP ⟨w0,h0,x0⟩ lv kd:=by have h:aL ⟨W,H,R,G,B⟩ ⟨wv,lv,kd,false,hf,d⟩ 0=enP ⟨W,H,R,G,B⟩ ⟨wv,lv,kd,false,hf,d⟩ 0:=if_neg (by simp);rw[h];unfold enP;rw[hp0]
  have xl0:x0.length<=140737488355328:=by have h:=nuP_len (s:=⟨wv,lv,kd,false,hf,d⟩) hi 0;rw[hp0]at h;exact h
  have M0:enP ⟨W,H,R,G,B⟩ ⟨wv,lv,kd,false,hf,d⟩ 0=encP ⟨w0,h0,x0⟩ lv kd:=by unfold enP;rw[hp0]
  rw[A0]at a0
  obtain⟨C0,hC0⟩:∃ c,encP ⟨w0,h0,x0⟩ lv kd=c:=⟨_,rfl⟩
  rw[hC0]at a0 M0
  have c0:(C0.length:Int)=N0:=a0.1
  have nl0:C0.length=N0:=by omega
  obtain⟨⟨w1,h1,x1⟩,hp1⟩:∃ p,nuP ⟨W,H,R,G,B⟩ ⟨wv,lv,kd,false,hf,d⟩ 1=p:=⟨_,rfl⟩
  have pl1:(if (⟨w1,h1,x1⟩:Pl).Ok then planesP x1 else 0)=(N1:Int):=by have h:enN ⟨W,H,R,G,B⟩ ⟨wv,lv,kd,false,hf,d⟩ 1=_:=if_neg (by simp);rw[hp1,hN1]at h;exact h.symm
  have A1:aL ⟨W,H,R,G,B⟩ ⟨wv,lv,kd,false,hf,d⟩ 1=encP ⟨w1,h1,x1⟩ lv kd:=by have h:aL ⟨W,H,R,G,B⟩ ⟨wv,lv,kd,false,hf,d⟩ 1=enP ⟨W,H,R,G,B⟩ ⟨wv,lv,kd,false,hf,d⟩ 1:=if_neg (by simp);rw[h];unfold enP;rw[hp1]
  have xl1:x1.length<=140737488355328:=by have h:=nuP_len (s:=⟨wv,lv,kd,false,hf,d⟩) hi 1;rw[hp1]at h;exact h
  have M1:enP ⟨W,H,R,G,B⟩ ⟨wv,lv,kd,false,hf,d⟩ 1=encP ⟨w1,h1,x1⟩ lv kd:=by unfold enP;rw[hp1]
  rw[A1]at a1
  obtain⟨C1,hC1⟩:∃ c,encP ⟨w1,h1,x1⟩ lv kd=c:=⟨_,rfl⟩
  rw[hC1]at a1 M1
  have c1:(C1.length:Int)=N1:=a1.1
  have nl1:C1.length=N1:=by omega
  obtain⟨⟨w2,h2,x2⟩,hp2⟩:∃ p,nuP ⟨W,H,R,G,B⟩ ⟨wv,lv,kd,false,hf,d⟩ 2=p:=⟨_,rfl⟩
  have pl2:(if (⟨w2,h2,x2⟩:Pl).Ok then planesP x2 else 0)=(N2:Int):=by have h:enN ⟨W,H,R,G,B⟩ ⟨wv,lv,kd,false,hf,d⟩ 2=_:=if_neg (by simp);rw[hp2,hN2]at h;exact h.symm
  have A2:aL ⟨W,H,R,G,B⟩ ⟨wv,lv,kd,false,hf,d⟩ 2=encP ⟨w2,h2,x2⟩ lv kd:=by have h:aL ⟨W,H,R,G,B⟩ ⟨wv,lv,kd,false,hf,d⟩ 2=enP ⟨W,H,R,G,B⟩ ⟨wv,lv,kd,false,hf,d⟩ 2:=if_neg (by simp);rw[h];unfold enP;rw[hp2]
  have xl2:x2.length<=140737488355328:=by have h:=nuP_len (s:=⟨wv,lv,kd,false,hf,d⟩) hi 2;rw[hp2]at h;exact h
  have M2:enP ⟨W,H,R,G,B⟩ ⟨wv,lv,kd,false,hf,d⟩ 2=encP ⟨w2,h2,x2⟩ lv kd:=by unfold enP;rw[hp2]
  rw[A2]at a2
  obtain⟨C2,hC2⟩:∃ c,encP ⟨w2,h2,x2⟩ lv kd=c:=⟨_,rfl⟩
  rw[hC2]at a2 M2
  have c2:(C2.length:Int)=N2:=a2.1
  have nl2:C2.length=N2:=by omega
  have hrc:∀ N,rc3 (nuF ⟨W,H,R,G,B⟩ ⟨wv,lv,kd,false,hf,d⟩) N=rc3 (nuF ⟨W,H,R,G,B⟩ ⟨wv,lv,kd,false,hf,d⟩) N:=fun _=>rfl
  have r0:∀ (N:Nat->Xf.Loc) z,recAt 0 z (rc3 (nuF ⟨W,H,R,G,B⟩ ⟨wv,lv,kd,false,hf,d⟩) N)=[.int .i64 w0,.int .i64 h0,.row (N 0) .i64 x0]:=fun N z=>by
   have h:nuF ⟨W,H,R,G,B⟩ ⟨wv,lv,kd,false,hf,d⟩ 0=nuP ⟨W,H,R,G,B⟩ ⟨wv,lv,kd,false,hf,d⟩ 0:=rfl
   have h2:=rc3_at (nuF ⟨W,H,R,G,B⟩ ⟨wv,lv,kd,false,hf,d⟩) N (k:=0) (by decide) z
   rw[h,hp0]at h2
   exact h2
  have r1:∀ (N:Nat->Xf.Loc) z,recAt 1 z (rc3 (nuF ⟨W,H,R,G,B⟩ ⟨wv,lv,kd,false,hf,d⟩) N)=[.int .i64 w1,.int .i64 h1,.row (N 1) .i64 x1]:=fun N z=>by
   have h:nuF ⟨W,H,R,G,B⟩ ⟨wv,lv,kd,false,hf,d⟩ 1=nuP ⟨W,H,R,G,B⟩ ⟨wv,lv,kd,false,hf,d⟩ 1:=rfl
   have h2:=rc3_at (nuF ⟨W,H,R,G,B⟩ ⟨wv,lv,kd,false,hf,d⟩) N (k:=1) (by decide) z
   rw[h,hp1]at h2
   exact h2
  have r2:∀ (N:Nat->Xf.Loc) z,recAt 2 z (rc3 (nuF ⟨W,H,R,G,B⟩ ⟨wv,lv,kd,false,hf,d⟩) N)=[.int .i64 w2,.int .i64 h2,.row (N 2) .i64 x2]:=fun N z=>by
   have h:nuF ⟨W,H,R,G,B⟩ ⟨wv,lv,kd,false,hf,d⟩ 2=nuP ⟨W,H,R,G,B⟩ ⟨wv,lv,kd,false,hf,d⟩ 2:=rfl
   have h2:=rc3_at (nuF ⟨W,H,R,G,B⟩ ⟨wv,lv,kd,false,hf,d⟩) N (k:=2) (by decide) z
   rw[h,hp2]at h2
   exact h2
  have rl:=fun N=>rc3_len (nuF ⟨W,H,R,G,B⟩ ⟨wv,lv,kd,false,hf,d⟩) N
  obtain⟨RC,hRC⟩:∃ f:(Nat->Xf.Loc)->List (List RC),(fun N=>rc3 (nuF ⟨W,H,R,G,B⟩ ⟨wv,lv,kd,false,hf,d⟩) N)=f:=⟨_,rfl⟩
  have hRC:∀ N,rc3 (nuF ⟨W,H,R,G,B⟩ ⟨wv,lv,kd,false,hf,d⟩) N=RC N:=fun N=>congrFun hRC N
  simp only[hRC]at rl
  simp only[hRC]at r0
  simp only[hRC]at r1
  simp only[hRC]at r2
  have hii:True:=trivial
  simp -implicitDefEqProofs only[push_cast,zz,seval,ir14,fs17,fs49,fs50,fs51,SyA.sv,hs,hi,hsm,hii,hRC]
  intro X0
  repeat refine om_ ?_
  intro X1 X2 X3
  repeat refine om_ ?_
  refine evS_loopU (A:=Nat×(Nat->Xf.Loc)×(Nat->Nat->Xf.Loc)) kp14_1 kl14_1 (fun y=>[(33,.int .i64 y.1)]) (fun y=>alM y.2.1 y.2.2 (sel3 C0 C1 C2) y.1++[(24,.mine,⟨(X1 0 24).b,(X1 0 24).o,false,3⟩,.ints .i64 (pnC (sel3 N0 N1 N2) y.1)),(25,.mine,X2 0 25,.cells (alC y.2.1 (sel3 N0 N1 N2) y.1))]) (fun y=>y.1<=3) (fun y=>3-y.1) (0,fun _=>nilLoc,fun _ _=>nilLoc) (Nat.zero_le _) (Sub.pt ?_) ?_
  ·simp -implicitDefEqProofs only[push_cast,zz,seval]
  intro ⟨k,E,F⟩ hk K hK
  have hk:k<=3:=hk
  obtain rfl | rfl | rfl | rfl:k=0∨k=1∨k=2∨k=3:=by omega
  ·simp -implicitDefEqProofs only[push_cast,zz,seval,b14_1,r0,rl,fs52,fs53,xl0,pl0,hC0,nl0,lx]
   intro X4 X5
   repeat refine om_ ?_
   refine hK (1,sel3 ((if (⟨w0,h0,x0⟩:Pl).Ok/\argsOk lv kd then X5 6 36 else nilLoc0)) (nilLoc) (nilLoc),sel3 (fun i=>X5 6 (36+(i+1))) (fun _=>nilLoc) (fun _=>nilLoc)) (show 1<=3 by decide) (show 3-1<3-0 by decide) _ _ (Sub.of (mkG 52 [(0,0),(1,1),(2,2),(10,10),(11,11),(24,24),(25,25),(26,26),(12,36)]) ?_)
   simp -implicitDefEqProofs only[push_cast,zz,seval,s3,nl0]
  ·simp -implicitDefEqProofs only[push_cast,zz,seval,b14_1,r1,rl,fs52,fs53,xl1,pl1,hC1,nl1,lx]
   intro X4 X5
   repeat refine om_ ?_
   refine hK (2,sel3 (E 0) ((if (⟨w1,h1,x1⟩:Pl).Ok/\argsOk lv kd then X5 6 36 else nilLoc0)) (nilLoc),sel3 (F 0) (fun i=>X5 6 (36+(i+1))) (fun _=>nilLoc)) (show 2<=3 by decide) (show 3-2<3-1 by decide) _ _ (Sub.of (mkG 52 [(0,0),(1,1),(2,2),(10,10),(11,11),(24,24),(25,25),(26,26),(12,12),(13,36)]) ?_)
   simp -implicitDefEqProofs only[push_cast,zz,seval,s3,nl1]
  ·simp -implicitDefEqProofs only[push_cast,zz,seval,b14_1,r2,rl,fs52,fs53,xl2,pl2,hC2,nl2,lx]
   intro X4 X5
   repeat refine om_ ?_
   refine hK (3,sel3 (E 0) (E 1) ((if (⟨w2,h2,x2⟩:Pl).Ok/\argsOk lv kd then X5 6 36 else nilLoc0)),sel3 (F 0) (F 1) (fun i=>X5 6 (36+(i+1)))) (show 3<=3 by decide) (show 3-3<3-2 by decide) _ _ (Sub.of (mkG 52 [(0,0),(1,1),(2,2),(10,10),(11,11),(24,24),(25,25),(26,26),(12,12),(13,13),(14,36)]) ?_)
   simp -implicitDefEqProofs only[push_cast,zz,seval,s3,nl2]
  ·clear hK
   simp -implicitDefEqProofs only[push_cast,zz,seval,b14_1,r14_4,fs54,fs64,SyA.sv,t3,hwh,hHD,hod,hLS]
   intro X6
   repeat refine om_ ?_
   intro X7
   obtain⟨MF,hMFe⟩:∃ f:Int->List (List Int),(fun k:Int=>enP ⟨W,H,R,G,B⟩ ⟨wv,lv,kd,false,hf,d⟩ k.toNat)=f:=⟨_,rfl⟩
   rw[hMFe]at hL
   have m0:MF 0=C0:=by rw[<-hMFe];exact M0
   have m1:MF 1=C1:=by rw[<-hMFe];exact M1
   have m2:MF 2=C2:=by rw[<-hMFe];exact M2
   obtain⟨AJ,hAJ⟩:∃ f:Int->List (List Int),(fun k:Int=>sel3 C0 C1 C2 k.toNat)=f:=⟨_,rfl⟩
   have j0:AJ 0=C0:=by rw[<-hAJ];rfl
   have j1:AJ 1=C1:=by rw[<-hAJ];rfl
   have j2:AJ 2=C2:=by rw[<-hAJ];rfl
   have hJ:mixJ LS AJ (fun _=>0):=fun k hk=>by
    rcases hk with rfl | rfl | rfl
    ·rw[j0];simp only[Nat.zero_add];omega
    ·rw[j1];simp only[Nat.zero_add];omega
    ·rw[j2];simp only[Nat.zero_add];omega
   have cs0:∀ xs:List Int,sub xs 0 (xs.length:Int)=xs:=fun xs=>by unfold sub;simp
   refine evS_loopU (A:=Nat×(Int->Nat)×List (Xf.Loc×List Int)×Xf.Loc) kp14_2 kl14_2 (fun y=>[(10,.sl 44 y.2.2.2 1 0 y.2.2.1.length),(69,.int .i64 y.1)]) (fun y=>[(25,.mine,X2 0 25,.cells [.sl 12 (E 0) 1 (y.2.1 0) (N0-y.2.1 0),.sl 13 (E 1) 1 (y.2.1 1) (N1-y.2.1 1),.sl 14 (E 2) 1 (y.2.1 2) (N2-y.2.1 2)]),(44,.mine,y.2.2.2,.recs 1 true [] (y.2.2.1.map byRc))]) (fun y=>y.1<=LS.length/\mixJ (LS.drop y.1) AJ y.2.1/\y.2.2.1.map (·.2)++mix (LS.drop y.1) MF y.2.1=HD::mix LS MF (fun _=>0)/\y.2.2.1.length=y.1+1) (fun y=>LS.length-y.1) (0,fun _=>0,[((X6 6 40).fr 0,HD)],X6 7 44) ⟨Nat.zero_le _,hJ,rfl,rfl⟩ (Sub.pt ?_) ?_
   ·simp -implicitDefEqProofs only[push_cast,zz,seval,cs0,byRc,Int.sub_zero]
   intro ⟨i,c,rows,M⟩ ⟨(hi1:i<=LS.length),(hJ1:mixJ (LS.drop i) AJ c),(hm:rows.map (·.2)++mix (LS.drop i) MF c=HD::mix LS MF (fun _=>0)),(hrl:rows.length=i+1)⟩ K hK
   have hmapl:((rows.map byRc).length:Int)=rows.length:=by rw[List.length_map]
   by_cases hi2:i<LS.length
   ·have hi3:(i:Int)<LS.length:=by omega
    have hx:=hat i hi2
    rw[drop_rd hi2]at hJ1 hm
    obtain⟨hlt,hJ2⟩:=hJ1.step hx
    obtain⟨x,hxe⟩:∃ x,rd LS i=x:=⟨_,rfl⟩
    rw[hxe]at hx hlt hm
    simp only[hxe]at hJ2
    rcases hx with rfl | rfl | rfl
    ·rw[j0]at hlt
     have q1:=fun z=>recAt_by (f:=F 0) hlt z
     have q2:((byOf (F 0) C0).length:Int)=N0:=by rw[byOf_len,nl0]
     have hlt2:((c 0:Nat):Int)<N0:=by omega
     obtain⟨u,hu⟩:∃ u,C0.getD (c 0) default=u:=⟨_,rfl⟩
     rw[hu]at q1
     have hm2:mix (0::LS.drop (i+1)) MF c=u::mix (LS.drop (i+1)) MF (fun j=>if j=0 then c j+1 else c j):=by rw[mix,m0,hu]
     rw[hm2]at hm
     simp -implicitDefEqProofs only[push_cast,zz,seval,b14_2,hi3,hxe,q1,q2,cs0,hmapl]
     repeat refine om_ ?_
     intro X8
     repeat refine om_ ?_
     have hrc:(rows++[((F 0 (c 0)).fr 0,u)]).map byRc=rows.map byRc++[[.row ((F 0 (c 0)).fr 0) .u8 u]]:=by rw[List.map_append];rfl
     refine hK (i+1,fun j=>if j=0 then c j+1 else c j,rows++[((F 0 (c 0)).fr 0,u)],X8 7 51) ⟨hi2,hJ2,by simp only[List.map_append,List.append_assoc];exact hm,by simp only[List.length_append,List.length_singleton];omega⟩ (show LS.length-(i+1)<LS.length-i by omega) _ _ (Sub.of (mkG 52 [(0,0),(1,1),(2,2),(10,10),(11,11),(12,12),(13,13),(14,14),(24,24),(25,25),(26,26),(40,40),(44,51),(45,45)]) ?_)
     simp -implicitDefEqProofs only[push_cast,zz,seval,hrc,Int.sub_sub,List.length_append]
    ·rw[j1]at hlt
     have q1:=fun z=>recAt_by (f:=F 1) hlt z
     have q2:((byOf (F 1) C1).length:Int)=N1:=by rw[byOf_len,nl1]
     have hlt2:((c 1:Nat):Int)<N1:=by omega
     obtain⟨u,hu⟩:∃ u,C1.getD (c 1) default=u:=⟨_,rfl⟩
     rw[hu]at q1
     have hm2:mix (1::LS.drop (i+1)) MF c=u::mix (LS.drop (i+1)) MF (fun j=>if j=1 then c j+1 else c j):=by rw[mix,m1,hu]
     rw[hm2]at hm
     simp -implicitDefEqProofs only[push_cast,zz,seval,b14_2,hi3,hxe,q1,q2,cs0,hmapl]
     repeat refine om_ ?_
     intro X8
     repeat refine om_ ?_
     have hrc:(rows++[((F 1 (c 1)).fr 0,u)]).map byRc=rows.map byRc++[[.row ((F 1 (c 1)).fr 0) .u8 u]]:=by rw[List.map_append];rfl
     refine hK (i+1,fun j=>if j=1 then c j+1 else c j,rows++[((F 1 (c 1)).fr 0,u)],X8 7 51) ⟨hi2,hJ2,by simp only[List.map_append,List.append_assoc];exact hm,by simp only[List.length_append,List.length_singleton];omega⟩ (show LS.length-(i+1)<LS.length-i by omega) _ _ (Sub.of (mkG 52 [(0,0),(1,1),(2,2),(10,10),(11,11),(12,12),(13,13),(14,14),(24,24),(25,25),(26,26),(40,40),(44,51),(45,45)]) ?_)
     simp -implicitDefEqProofs only[push_cast,zz,seval,hrc,Int.sub_sub,List.length_append]
    ·rw[j2]at hlt
     have q1:=fun z=>recAt_by (f:=F 2) hlt z
     have q2:((byOf (F 2) C2).length:Int)=N2:=by rw[byOf_len,nl2]
     have hlt2:((c 2:Nat):Int)<N2:=by omega
     obtain⟨u,hu⟩:∃ u,C2.getD (c 2) default=u:=⟨_,rfl⟩
     rw[hu]at q1
     have hm2:mix (2::LS.drop (i+1)) MF c=u::mix (LS.drop (i+1)) MF (fun j=>if j=2 then c j+1 else c j):=by rw[mix,m2,hu]
     rw[hm2]at hm
     simp -implicitDefEqProofs only[push_cast,zz,seval,b14_2,hi3,hxe,q1,q2,cs0,hmapl]
     repeat refine om_ ?_
     intro X8
     repeat refine om_ ?_
     have hrc:(rows++[((F 2 (c 2)).fr 0,u)]).map byRc=rows.map byRc++[[.row ((F 2 (c 2)).fr 0) .u8 u]]:=by rw[List.map_append];rfl
     refine hK (i+1,fun j=>if j=2 then c j+1 else c j,rows++[((F 2 (c 2)).fr 0,u)],X8 7 51) ⟨hi2,hJ2,by simp only[List.map_append,List.append_assoc];exact hm,by simp only[List.length_append,List.length_singleton];omega⟩ (show LS.length-(i+1)<LS.length-i by omega) _ _ (Sub.of (mkG 52 [(0,0),(1,1),(2,2),(10,10),(11,11),(12,12),(13,13),(14,14),(24,24),(25,25),(26,26),(40,40),(44,51),(45,45)]) ?_)
     simp -implicitDefEqProofs only[push_cast,zz,seval,hrc,Int.sub_sub,List.length_append]
   ·obtain rfl:i=LS.length:=by omega
    have hrows:rows.map (·.2)=enL ⟨W,H,R,G,B⟩ ⟨wv,lv,kd,false,hf,d⟩:=by rw[hL,<-hm,List.drop_length,mix,List.append_nil]
    have hby:=byOf_eq hrows
    have hlen:rows.length=(enL ⟨W,H,R,G,B⟩ ⟨wv,lv,kd,false,hf,d⟩).length:=by rw[<-hrows,List.length_map]
    have h10:∀ i:Nat,¬ i+1=0:=fun i=>by omega
    clear hK
    simp -implicitDefEqProofs only[push_cast,zz,seval,b14_2,r14_3,Int.lt_irrefl]
    refine postF.mk' (fun j=>if j=0 then M else (rows.getD (j-1) (nilLoc,[])).1) [some 0,some 1,some 2,some 44] ?_
    simp -implicitDefEqProofs only[push_cast,zz,seval,fs14,hE,lx,h10,Nat.add_sub_cancel,hby,hlen,if_true]
def ent14:Entry:=spOf fs14 invNm
theorem e14:EntryOk Tryz.prog 14 ent14:=entry_of ok14 invNm
@[push_cast] theorem ent14_a u l x k:ent14 u l x k=spOf fs14 invNm u l x k:=rfl
def b65_1:IR:=
 .seq (r_ [b_ 61 .lss 60 59] []) (.seq (.cond (.t 61) (.skip) (.exit 0)) (.seq (.block 1 (.seq (r_ [m_ 62 60,i_ 63 58 60 1,o_ 64 (.ld true none 28 1 (.t 63)),m_ 13 62,m_ 14 64] [61,62,63,64]) (.regT (.split 3 12 (.split 7 12 (.leaf [0,1,2,3,4,5,6,7,8,9,10,11,12,13,14,15,16]) (.leaf [0,1,2,3,4,5,6,8,11,12,7,9,10,13,14,15,16])) (.split 7 12 (.leaf [0,1,2,4,5,6,7,8,9,10,11,12,3,13,14,15,16]) (.leaf [0,1,2,4,5,6,8,11,12,3,7,9,10,13,14,15,16]))) [m_ 65 10,m_ 66 13,i_ 67 65 66 1,⟨some 68,none,⟨[29,30],[0,1,2,3,4,5,6,7,8,9]⟩,.ld true none 0 0 (.t 67)⟩,m_ 69 10,m_ 70 13,i_ 71 69 70 1,⟨some 72,none,⟨[29],[]⟩,.ld true none 0 0 (.t 71)⟩,f_ 73 9 11,o_ 74 (.idxP (.t 73) (.t 72) 3 1),⟨some 75,none,⟨[29],[]⟩,.ld false none 0 0 (.t 74)⟩,m_ 76 14,o_ 77 (.brecs 29 1 .u8 [.t 76]),⟨some 78,none,⟨[0,1,2,3,4,5,6,7,8,9],[]⟩,.app 30 1 24 (.t 75) (.t 77)⟩,f_ 79 9 11,o_ 80 (.idxP (.t 79) (.t 68) 3 1),s_ 1 .u8 80 78] [13,14,65,66,67,68,69,70,71,72,73,74,75,76,77,78,79,80] []))) (r_ [a_ 81 60 1,m_ 60 81] [81])))
def r65_2:IR:=
 .seq (r_ [o_ 82 (.ld false (some 14) 0 0 (.t 9)),s_ 14 .u8 2 82,z_ 3 0] [9,10,58,59,60,82]) (.ret)
def ir65:IR:=
 .seq (r_ [o_ 2 (.alloc 10 [y_,y_,y_,y_,y_,.bool false,.bool false,y_,y_,y_,y_,nilSV,nilSV,nilSV]),z_ 3 0] [3]) (.seq (.seq (r_ [m_ 15 0,h_ 16 15,c_ 17 .eql 16 0] [15,16]) (.cond (.t 17) (.seq (r_ [o_ 18 (.build [y_,y_,y_,y_,y_,.bool false,.bool false,y_,y_,y_,y_,nilSV,nilSV,nilSV] []),s_ 14 .u8 2 18,z_ 3 80] [0,17,18]) (.ret)) (.skip))) (.seq (r_ [m_ 20 0,o_ 21 (.idxS (.t 20) (Z_ 0) 1),o_ 22 (.ld true none 11 1 (.t 21)),o_ 23 (.call (some 4) 12 24 [.t 22]),m_ 19 23,e_ 24 19 0,e_ 25 19 1,e_ 26 19 2,e_ 27 19 3,e_ 28 19 4,o_ 6 (.alloc 16 [y_,y_,y_,.bool false,.bool false,y_]),o_ 7 (.allocI 17 .i64 3),m_ 4 24,m_ 5 25,s_ 6 .i64 6 26,S_ 3 .i64 7 27,m_ 8 28] [3,17,19,20,21,22,23,24,25,26,27,28]) (.seq (.seq (r_ [m_ 29 8,c_ 30 .neq 29 0] [29]) (.cond (.t 30) (.seq (r_ [o_ 31 (.build [y_,y_,y_,y_,y_,.bool false,.bool false,y_,y_,y_,y_,nilSV,nilSV,nilSV] []),m_ 32 8,s_ 14 .u8 2 31,m_ 3 32] [0,4,5,6,7,8,30,31,32]) (.ret)) (.skip))) (.seq (r_ [m_ 33 4,m_ 34 5,o_ 35 (.ld false (some 6) 0 0 (.t 6)),o_ 36 (.ld true (some 3) 0 0 (.t 7)),o_ 37 (.build [y_,y_,y_,y_,y_,.bool false,.bool false,y_,y_,y_,y_,nilSV,nilSV,nilSV] [(0,1,.t 33),(1,1,.t 34),(2,6,.t 35),(8,3,.t 36)]),o_ 9 (.alloc 18 [y_,y_,y_,y_,y_,.bool false,.bool false,y_,y_,y_,y_,nilSV,nilSV,nilSV]),s_ 14 .u8 9 37] [3,8,30,33,34,35,36,37]) (.seq (r_ [o_ 38 (.ld false (some 6) 0 0 (.t 6)),o_ 39 (.ld true (some 3) 0 0 (.t 7)),o_ 40 (.call (some 4) 19 55 [.t 38,.t 39]),m_ 10 40] [6,7,38,39,40]) (.seq (.seq (r_ [m_ 41 0,h_ 42 41,c_ 43 .sub 42 1,m_ 44 10,h_ 45 44,b_ 46 .gtr 43 45] [41,42,43,44,45]) (.cond (.t 46) (.seq (r_ [o_ 47 (.build [y_,y_,y_,y_,y_,.bool false,.bool false,y_,y_,y_,y_,nilSV,nilSV,nilSV] []),s_ 14 .u8 2 47,z_ 3 80] [0,4,5,9,10,46,47]) (.ret)) (.skip))) (.seq (.seq (r_ [m_ 49 4,m_ 50 5,o_ 51 (.call (some 4) 23 135 [.t 49,.t 50,Z_ 0,Z_ 0,Z_ 0]),m_ 48 51,e_ 52 48 0,e_ 53 48 1,o_ 11 (.alloc 27 [y_,y_,nilSV,nilSV,nilSV]),s_ 5 .i64 11 52,m_ 12 53] [3,4,5,11,46,48,49,50,51,52,53]) (.seq (r_ [m_ 54 12,c_ 55 .neq 54 0] [12,54]) (.cond (.t 55) (.seq (r_ [o_ 56 (.build [y_,y_,y_,y_,y_,.bool false,.bool false,y_,y_,y_,y_,nilSV,nilSV,nilSV] []),s_ 14 .u8 2 56,z_ 3 4] [0,9,10,55,56]) (.ret)) (.skip)))) (.seq (.seq (r_ [m_ 57 0,o_ 58 (.slc (.t 57) 1 (some (Z_ 1)) none),h_ 59 58,z_ 60 0] [0,3,55,57]) (.block 0 (.loop b65_1))) (r65_2)))))))))
def kp65_1:List Nat:=[2,9,10,58,59,60]
def kl65_1:List Nat:=[28,29,30]
attribute [push_cast] kp65_1 kl65_1
set_option maxRecDepth 4000 in
theorem comp65:(Tryz.f65.body.bind fun c=>compC tab isP chkAll ir65 c)=some ir65:=by kernel_rfl
def reH (l:List (List Int)):HdR:=if reE l=0 then hdP (l.headD [])else hd0
structure RqA where
 L:Xf.Loc
 rows:List (Xf.Loc×List Int)
def RqA.cs (a:RqA):List (List Int):=a.rows.map (·.2)
def frR (rows:List (Xf.Loc×List Int)):List (Xf.Loc×List Int):=rows.map fun r=>(r.1.fr 0,r.2)
def reR (rows:List (Xf.Loc×List Int)) (k:Int):List (Xf.Loc×List Int):=if reE (rows.map (·.2))=0 then srt (hdP ((rows.map (·.2)).headD [])).ord (frR rows).tail k else []
def cmV (H:HdR) (S0 S1 S2:SV):SV:=.agg [.int .i64 H.w,.int .i64 H.h,.int .i64 H.s.wv,.int .i64 H.s.lv,.int .i64 H.s.kd,.bool H.s.gr,.bool H.s.hf,.int .i64 H.s.d,.int .i64 H.a,.int .i64 H.b,.int .i64 H.c,S0,S1,S2]
def invRq:List SV->Look->Option (RqA×List Nat)
 | [.sl d _ 1 0 _],look=>match rowBy look d with
  | some (L,rows)=>some (⟨L,rows⟩,[d])
  | none=>none
 | _,_=>none
attribute [push_cast] invRq cmV
def fs65:FS where
 A:=RqA
 args:=fun a=>[.sl 0 a.L 1 0 a.rows.length]
 mem:=fun a=>[some (.ro,a.L,.recs 1 false [] (a.rows.map byRc))]
 pre:=fun a=>rowsWf a.rows
 res:=fun a x=>.tup [cmV (reH a.cs) (.sl 1 (lx (reE a.cs=0) x 0) 1 0 (reR a.rows 0).length) (.sl 2 (lx (reE a.cs=0) x 1) 1 0 (reR a.rows 1).length) (.sl 3 (lx (reE a.cs=0) x 2) 1 0 (reR a.rows 2).length),.int .i64 (reE a.cs)]
 new:=fun a x=>[(lx (reE a.cs=0) x 0,.recs 1 false [] ((reR a.rows 0).map byRc)),(lx (reE a.cs=0) x 1,.recs 1 false [] ((reR a.rows 1).map byRc)),(lx (reE a.cs=0) x 2,.recs 1 false [] ((reR a.rows 2).map byRc))]
 shr:=[0]
theorem reR_mem {rows:List (Xf.Loc×List Int)} {k:Int} {q:Xf.Loc×List Int} (h:q∈reR rows k):∃ r∈rows,q=(r.1.fr 0,r.2):=by
 unfold reR at h
 split at h
 ·have h1:=srt_mem h
  have h2:=List.mem_of_mem_tail h1
  unfold frR at h2
  obtain⟨r,hr,e⟩:=List.mem_map.1 h2
  exact⟨r,hr,e.symm⟩
 ·cases h
theorem fr0_ad (L:Xf.Loc) (o:Nat):(L.fr 0).ad o=L.ad o:=by
 simp[Loc.fr,Loc.ad]
theorem read_rows (a:RqA) (k:Int) (y:Addr) (h:rows (.recs 1 false [] ((reR a.rows k).map byRc)) y):shrd fs65 a y:=by
 obtain⟨L,kk,xs,⟨r,hr,hm⟩,o,ho,e⟩:=h
 obtain⟨q,hq,rfl⟩:=List.mem_map.1 hr
 obtain⟨r0,hr0,rfl⟩:=reR_mem hq
 unfold byRc at hm
 simp only[List.mem_singleton,RC.row.injEq]at hm
 obtain⟨rfl,rfl,rfl⟩:=hm
 refine⟨0,by simp[fs65],(.ro,a.L,.recs 1 false [] (a.rows.map byRc)),rfl,.inr ⟨r0.1,.u8,r0.2,⟨byRc r0,List.mem_map.2 ⟨r0,hr0,rfl⟩,?_⟩,o,ho,by rw[e,fr0_ad]⟩⟩
 unfold byRc
 exact List.mem_singleton.2 rfl
theorem reE_cons (b:List Int) (l:List (List Int)):reE (b::l)=if hdE b=0 then (if (hdP b).ord.length<l.length then 80 else if SidesOk (hdP b).w (hdP b).h then 0 else 4)else hdE b:=rfl
set_option maxRecDepth 8000 in
set_option maxHeartbeats 4000000 in
theorem ok65:FSOk Tryz.prog 65 fs65:=by
 refine⟨fk_ Tryz.func65,fun a=>⟨by simp[fs65,push_cast,noMine,argOwn,Chunk.frArg],by simp[fs65,push_cast,outOk,Chunk.ext],fun x=>.inr ⟨fun j L ch h=>.inr fun y hy=>?_,fun c ch h=>by simp[fs65,lk]at h⟩⟩,fun a hp=>?_⟩
 ·match j,h with
  | 0,h=>simp only[fs65,List.getElem?_cons_zero,Option.some.injEq,Prod.mk.injEq]at h;obtain⟨rfl,rfl⟩:=h;exact read_rows a 0 y hy
  | 1,h=>simp only[fs65,List.getElem?_cons_zero,List.getElem?_cons_succ,Option.some.injEq,Prod.mk.injEq]at h;obtain⟨rfl,rfl⟩:=h;exact read_rows a 1 y hy
  | 2,h=>simp only[fs65,List.getElem?_cons_zero,List.getElem?_cons_succ,Option.some.injEq,Prod.mk.injEq]at h;obtain⟨rfl,rfl⟩:=h;exact read_rows a 2 y hy
  | j+3,h=>simp[fs65]at h
 obtain⟨L,rows⟩:=a
 have hwf:rowsWf rows:=hp
 change Tri Tryz.prog 65 [.sl 0 L 1 0 rows.length] [some (.ro,L,.recs 1 false [] (rows.map byRc))] (postF fs65 _)
 refine tri_evS (hyp (l:=[(24,ent24),(55,ent55),(135,ent135)]) (lp:=[]) ⟨e24,e55,e135,trivial⟩ trivial) Tryz.func65 comp65 (rs:=[.cell 2 (some 14),.tmp 3]) (by rfl) Tryz.ntmps65 31 ?_
 have hcs:(⟨L,rows⟩:RqA).cs=rows.map (·.2):=rfl
 have bad:∀ e,reE (rows.map (·.2))=e->e≠0->reH (rows.map (·.2))=hd0/\∀ k,reR rows k=[]:=fun e h h0=>⟨if_neg (by rw[h];exact h0),fun k=>if_neg (by rw[h];exact h0)⟩
 cases rows with
 | nil=>
  obtain⟨b1,b2⟩:=bad 80 rfl (by decide)
  have e1:reE []=80:=rfl
  have b1:reH []=hd0:=b1
  have hcs:(⟨L,[]⟩:RqA).cs=[]:=rfl
  simp -implicitDefEqProofs only[push_cast,zz,seval,ir65]
  intro X
  repeat refine om_ ?_
  refine postF.mk' (fun _=>nilLoc) [some 0,none,none,none] ?_
  simp -implicitDefEqProofs only[push_cast,zz,seval,fs65,hcs,b1,b2,e1,hd0,lx]
 | cons r0 rs=>
 obtain⟨R0,b⟩:=r0
 have hbw:=hwf.2 (R0,b) List.mem_cons_self
 obtain⟨hb,hbl⟩:byB b/\b.length<=140737488355328:=hbw
 have hrl:rs.length<=999999999:=by have:=hwf.1;rw[List.length_cons]at this;omega
 have hcons:reE (((R0,b)::rs).map (·.2))=if hdE b=0 then (if (hdP b).ord.length<rs.length then 80 else if SidesOk (hdP b).w (hdP b).h then 0 else 4)else hdE b:=by
  rw[List.map_cons,reE_cons,List.length_map]
 have hq0:∀ z,recAt 0 z (((R0,b)::rs).map byRc)=[.row R0 .u8 b]:=fun _=>rfl
 have hhd:((((R0,b)::rs).map (·.2)).headD [])=b:=rfl
 have hall:∀ (i:Nat) (hi:i<((R0,b)::rs).length),byAll (((R0,b)::rs)[i]).2/\(((R0,b)::rs)[i]).2.length<=140737488355328:=fun i hi=>hwf.2 _ (List.getElem_mem hi)
 obtain⟨RW,hRW⟩:∃ l,(R0,b)::rs=l:=⟨_,rfl⟩
 have hlenN:RW.length=rs.length+1:=by rw[<-hRW,List.length_cons]
 rw[hRW]at hcs hcons hq0 hhd
 simp only[hRW]at bad hall
 rw[hRW]
 have hmapl:((RW.map byRc).length:Int)=rs.length+1:=by rw[List.length_map];omega
 have hlen1:((RW.length:Nat):Int)=rs.length+1:=by omega
 have hne:¬ (rs.length:Int)+1=0:=by omega
 have q0:=hq0
 have hok:=hdP_ok hb
 obtain⟨E,hE⟩:∃ e,hdE b=e:=⟨_,rfl⟩
 rw[hE]at hcons
 by_cases h0:E=0
 rotate_left
 ·rw[if_neg h0]at hcons
  obtain⟨b1,b2⟩:=bad E hcons h0
  simp -implicitDefEqProofs only[push_cast,zz,seval,ir65,hlen1,hmapl,hne,q0,fs24,SyA.sv,hb,hbl,hE,h0]
  intro X X1
  repeat refine om_ ?_
  refine postF.mk' (fun _=>nilLoc) [some 0,none,none,none] ?_
  simp -implicitDefEqProofs only[push_cast,zz,seval,fs65,hcs,b1,b2,hcons,h0,hd0,lx]
 subst h0
 rw[if_pos rfl]at hcons
 obtain⟨⟨w,h,⟨wv,lv,kd,gr,hf,d⟩,na,nb,nc⟩,hH⟩:∃ x,hdP b=x:=⟨_,rfl⟩
 rw[hH]at hok hcons
 obtain⟨k1,k2,k3,k4,k5⟩:=hok
 have hod:odOk d na nb nc:=k5.ok
 simp only at k1 k2 k3 k4
 have hoe:(⟨w,h,⟨wv,lv,kd,gr,hf,d⟩,na,nb,nc⟩:HdR).ord=ordP d na nb nc:=rfl
 rw[hoe]at hcons
 have hol:=ord_len d na nb nc
 have hat:=fun i hi=>ord_at (d:=d) (a:=na) (b:=nb) (c:=nc) (i:=i) hi
 obtain⟨LS,hLS⟩:∃ l,ordP d na nb nc=l:=⟨_,rfl⟩
 rw[hLS]at hol hcons
 simp only[hLS]at hat
 have s3:∀ x y z w:Int,([x,y,z].set 0 w=[w,y,z]/\[x,y,z].set 1 w=[x,w,z])/\[x,y,z].set 2 w=[x,y,w]:=fun _ _ _ _=>⟨⟨rfl,rfl⟩,rfl⟩
 have t3:∀ x y z w:Int,([x,y,z].getD 0 w=x/\[x,y,z].getD 1 w=y)/\[x,y,z].getD 2 w=z:=fun _ _ _ _=>⟨⟨rfl,rfl⟩,rfl⟩
 have hsub:(rs.length:Int)+1-1=rs.length:=by omega
 by_cases h1:LS.length<rs.length
 ·rw[if_pos h1]at hcons
  obtain⟨b1,b2⟩:=bad 80 hcons (by decide)
  have h1i:(LS.length:Int)<rs.length:=by omega
  simp -implicitDefEqProofs only[push_cast,zz,seval,ir65,hlen1,hmapl,hne,q0,fs24,SyA.sv,hb,hbl,hE,hH,fs64,hod,hLS,t3,s3,hsub,h1i]
  intro X X1
  repeat refine om_ ?_
  intro X2 X3
  repeat refine om_ ?_
  refine postF.mk' (fun _=>nilLoc) [some 0,none,none,none] ?_
  simp -implicitDefEqProofs only[push_cast,zz,seval,fs65,hcs,b1,b2,hcons,hd0,lx]
 rw[if_neg h1]at hcons
 have h1i:¬ (LS.length:Int)<rs.length:=by omega
 by_cases h2:SidesOk w h
 rotate_left
 ·rw[if_neg h2]at hcons
  have hno:¬ (⟨w,h,0,0,0⟩:NewA).Ok:=fun g=>h2 g.1
  obtain⟨b1,b2⟩:=bad 4 hcons (by decide)
  simp -implicitDefEqProofs only[push_cast,zz,seval,ir65,hlen1,hmapl,hne,q0,fs24,SyA.sv,hb,hbl,hE,hH,fs64,hod,hLS,t3,s3,hsub,h1i,fs135,hno]
  intro X X1
  repeat refine om_ ?_
  intro X2 X3
  repeat refine om_ ?_
  intro X4
  repeat refine om_ ?_
  refine postF.mk' (fun _=>nilLoc) [some 0,none,none,none] ?_
  simp -implicitDefEqProofs only[push_cast,zz,seval,fs65,hcs,b1,b2,hcons,hd0,lx]
 rw[if_pos h2]at hcons
 have hv0:ValOk 0:=⟨Int.le_refl 0,by decide⟩
 have hno:(⟨w,h,0,0,0⟩:NewA).Ok:=⟨h2,hv0,hv0,hv0⟩
 simp -implicitDefEqProofs only[push_cast,zz,seval,ir65,hlen1,hmapl,hne,q0,fs24,SyA.sv,hb,hbl,hE,hH,fs64,hod,hLS,t3,s3,hsub,h1i,fs135,hno]
 intro X X1
 repeat refine om_ ?_
 intro X2 X3
 repeat refine om_ ?_
 intro X4
 repeat refine om_ ?_
 obtain⟨T,hT⟩:∃ l,(frR RW).tail=l:=⟨_,rfl⟩
 have hTl:T.length=rs.length:=by rw[<-hT,List.length_tail];unfold frR;rw[List.length_map,hlenN];rfl
 have hTi:∀ (i:Nat) (hi:i<T.length) (hj:i+1<RW.length),T[i]=(RW[i+1].1.fr 0,RW[i+1].2):=fun i hi hj=>by
  subst hT
  rw[List.getElem_tail]
  unfold frR
  rw[List.getElem_map]
 have cs0:∀ xs:List Int,sub xs 0 (xs.length:Int)=xs:=fun xs=>by unfold sub;simp
 refine evS_loopU (A:=Nat×(Nat->Xf.Loc)) kp65_1 kl65_1 (fun y=>[(60,.int .i64 y.1),(10,.sl 5 (X3 2 19) 1 0 LS.length)])
  (fun y=>[(5,.mine,X3 2 19,.ints .i64 LS),(12,.mine,y.2 0,.recs 1 false [] ((srt LS (T.take y.1) 0).map byRc)),(13,.mine,y.2 1,.recs 1 false [] ((srt LS (T.take y.1) 1).map byRc)),(14,.mine,y.2 2,.recs 1 false [] ((srt LS (T.take y.1) 2).map byRc)),(19,.mine,nilLoc,.ints .i64 []),
   (18,.mine,X2 5 18,.cells [.int .i64 w,.int .i64 h,.int .i64 wv,.int .i64 lv,.int .i64 kd,.bool gr,.bool hf,.int .i64 d,.int .i64 na,.int .i64 nb,.int .i64 nc,.sl 12 (y.2 0) 1 0 (srt LS (T.take y.1) 0).length,.sl 13 (y.2 1) 1 0 (srt LS (T.take y.1) 1).length,.sl 14 (y.2 2) 1 0 (srt LS (T.take y.1) 2).length])])
  (fun y=>y.1<=rs.length) (fun y=>rs.length-y.1) (0,fun _=>nilLoc) (Nat.zero_le _) (Sub.of (mkG 31 [(0,0),(1,1),(2,2),(3,3),(4,4),(6,6),(7,7),(8,8),(9,9),(10,10),(11,11),(15,15),(16,16),(17,17),(18,18),(20,20),(21,21),(22,22),(23,23),(24,24),(25,25),(26,26),(27,27),(5,19)]) ?_) ?_
 ·have e0:∀ k,srt LS (List.take 0 T) k=[]:=fun k=>srt_nil LS k
  simp -implicitDefEqProofs only[push_cast,zz,seval,e0]
 intro ⟨i,F⟩ (hi1:i<=rs.length) K hK
 by_cases hi2:i<rs.length
 ·have hi3:(i:Int)<rs.length:=by omega
  have hx:=hat i (by omega)
  have hsn:=fun k=>srt_snoc k LS T i (by omega) (by omega)
  have hTi1:=hTi i (by omega) (by omega)
  have q1:=fun z=>recAt_By (l:=RW) (i:=i+1) (by omega) z
  simp only[show((i+1:Nat):Int)=1+(i:Int) by omega]at q1
  have hbi:=hall (i+1) (by omega)
  obtain⟨⟨Li,ci⟩,hLi⟩:∃ r,RW[i+1]'(by omega)=r:=⟨_,rfl⟩
  rw[hLi]at hTi1 q1 hbi
  rw[hTi1]at hsn
  simp only at hsn q1 hbi
  obtain⟨S0,hS0⟩:∃ s,srt LS (T.take i) 0=s:=⟨_,rfl⟩
  obtain⟨S1,hS1⟩:∃ s,srt LS (T.take i) 1=s:=⟨_,rfl⟩
  obtain⟨S2,hS2⟩:∃ s,srt LS (T.take i) 2=s:=⟨_,rfl⟩
  have n0:=hsn 0
  have n1:=hsn 1
  have n2:=hsn 2
  rw[hS0]at n0
  rw[hS1]at n1
  rw[hS2]at n2
  have sl:∀ k,((srt LS (T.take i) k).length:Int)<=999999999:=fun k=>by have h1:=srt_len k LS (T.take i);rw[List.length_take]at h1;omega
  have l0:=sl 0
  have l1:=sl 1
  have l2:=sl 2
  rw[hS0]at l0
  rw[hS1]at l1
  rw[hS2]at l2
  have m0:((S0.map byRc).length:Int)=S0.length:=by rw[List.length_map]
  have m1:((S1.map byRc).length:Int)=S1.length:=by rw[List.length_map]
  have m2:((S2.map byRc).length:Int)=S2.length:=by rw[List.length_map]
  rw[hS0,hS1,hS2]
  have hii:(i:Int)<LS.length:=by omega
  rcases hx with hx | hx | hx
  ·rw[hx,if_pos rfl]at n0
   rw[hx,if_neg (by decide),List.append_nil]at n1 n2
   simp (maxSteps:=3000000) -implicitDefEqProofs only[push_cast,zz,seval,b65_1,hi3,hii,hx,q1,m0,m1,m2,cs0]
   have hrc:(S0++[(Li.fr 0,ci)]).map byRc=S0.map byRc++[[.row (Li.fr 0) .u8 ci]]:=by rw[List.map_append];rfl
   refine⟨by omega,by omega,by omega,fun X5=>?_,fun X5=>?_,fun X5=>?_,fun X5=>?_⟩
   all_goals repeat refine om_ ?_
   all_goals refine hK (i+1,fun j=>if j=0 then X5 13 30 else F j) (show i+1<=rs.length by omega) (show rs.length-(i+1)<rs.length-i by omega) _ _ (Sub.of (mkG 31 [(0,0),(1,1),(2,2),(3,3),(4,4),(5,5),(6,6),(7,7),(8,8),(9,9),(10,10),(11,11),(12,30),(13,13),(14,14),(15,15),(16,16),(17,17),(18,18),(20,20),(21,21),(22,22),(23,23),(24,24),(25,25),(26,26),(27,27)]) ?_)
   all_goals simp -implicitDefEqProofs only[push_cast,zz,seval,n0,n1,n2,hrc,List.length_append]
  ·rw[hx,if_pos rfl]at n1
   rw[hx,if_neg (by decide),List.append_nil]at n0 n2
   simp (maxSteps:=3000000) -implicitDefEqProofs only[push_cast,zz,seval,b65_1,hi3,hii,hx,q1,m0,m1,m2,cs0]
   have hrc:(S1++[(Li.fr 0,ci)]).map byRc=S1.map byRc++[[.row (Li.fr 0) .u8 ci]]:=by rw[List.map_append];rfl
   refine⟨by omega,by omega,by omega,fun X5=>?_,fun X5=>?_,fun X5=>?_,fun X5=>?_⟩
   all_goals repeat refine om_ ?_
   all_goals refine hK (i+1,fun j=>if j=1 then X5 13 30 else F j) (show i+1<=rs.length by omega) (show rs.length-(i+1)<rs.length-i by omega) _ _ (Sub.of (mkG 31 [(0,0),(1,1),(2,2),(3,3),(4,4),(5,5),(6,6),(7,7),(8,8),(9,9),(10,10),(11,11),(12,12),(13,30),(14,14),(15,15),(16,16),(17,17),(18,18),(20,20),(21,21),(22,22),(23,23),(24,24),(25,25),(26,26),(27,27)]) ?_)
   all_goals simp -implicitDefEqProofs only[push_cast,zz,seval,n0,n1,n2,hrc,List.length_append]
  ·rw[hx,if_pos rfl]at n2
   rw[hx,if_neg (by decide),List.append_nil]at n0 n1
   simp (maxSteps:=3000000) -implicitDefEqProofs only[push_cast,zz,seval,b65_1,hi3,hii,hx,q1,m0,m1,m2,cs0]
   have hrc:(S2++[(Li.fr 0,ci)]).map byRc=S2.map byRc++[[.row (Li.fr 0) .u8 ci]]:=by rw[List.map_append];rfl
   refine⟨by omega,by omega,by omega,fun X5=>?_,fun X5=>?_,fun X5=>?_,fun X5=>?_⟩
   all_goals repeat refine om_ ?_
   all_goals refine hK (i+1,fun j=>if j=2 then X5 13 30 else F j) (show i+1<=rs.length by omega) (show rs.length-(i+1)<rs.length-i by omega) _ _ (Sub.of (mkG 31 [(0,0),(1,1),(2,2),(3,3),(4,4),(5,5),(6,6),(7,7),(8,8),(9,9),(10,10),(11,11),(12,12),(13,13),(14,30),(15,15),(16,16),(17,17),(18,18),(20,20),(21,21),(22,22),(23,23),(24,24),(25,25),(26,26),(27,27)]) ?_)
   all_goals simp -implicitDefEqProofs only[push_cast,zz,seval,n0,n1,n2,hrc,List.length_append]
 ·obtain rfl:i=rs.length:=by omega
  have htk:T.take rs.length=T:=by rw[<-hTl,List.take_length]
  have hrk:∀ k,reR RW k=srt LS T k:=fun k=>by unfold reR;rw[hcons,if_pos rfl,hhd,hH,hoe,hLS,hT]
  have hrh:reH (RW.map (·.2))=⟨w,h,⟨wv,lv,kd,gr,hf,d⟩,na,nb,nc⟩:=by unfold reH;rw[hcons,if_pos rfl,hhd,hH]
  clear hK
  rw[htk]
  simp (maxSteps:=3000000) -implicitDefEqProofs only[push_cast,zz,seval,b65_1,r65_2,Int.lt_irrefl]
  repeat refine om_ ?_
  refine postF.mk' (fun j=>F j) [some 0,some 12,some 13,some 14] ?_
  simp (maxSteps:=3000000) -implicitDefEqProofs only[push_cast,zz,seval,fs65,hcs,hcons,hrk,hrh,lx,if_true]
def ent65:Entry:=spOf fs65 invRq
theorem e65:EntryOk Tryz.prog 65 ent65:=entry_of ok65 invRq
@[push_cast] theorem ent65_a u l x k:ent65 u l x k=spOf fs65 invRq u l x k:=rfl
def ir136:IR:=
 .seq (r_ [o_ 2 (.box 10 (.t 0)),z_ 4 0,z_ 5 0] [0,4,5]) (.seq (.seq (r_ [m_ 6 1,c_ 7 .gtr 6 0,m_ 8 7,p_ 8 (f_ 9 2 2),p_ 8 (f_ 10 9 4),p_ 8 (l_ 11 10),K_ 12 8 11] [1,6,7,8,9,10,11]) (.cond (.t 12) (.seq (R_ [f_ 13 2 0,l_ 14 13,a_ 15 14 1,c_ 16 .quo 15 2,f_ 17 2 1,l_ 18 17,a_ 19 18 1,c_ 20 .quo 19 2,m_ 4 16,m_ 5 20] [2,12,13,14,15,16,17,18,19,20]) (.ret)) (.skip))) (.seq (R_ [f_ 21 2 0,l_ 22 21,f_ 23 2 1,l_ 24 23,m_ 4 22,m_ 5 24] [2,12,21,22,23,24]) (.ret)))
set_option maxRecDepth 4000 in
theorem comp136:(Tryz.f136.body.bind fun c=>compC tab isP chkAll ir136 c)=some ir136:=by kernel_rfl
def b66_1:IR:=
 .seq (r_ [c_ 11 .lss 10 3] []) (.seq (.cond (.t 11) (.skip) (.exit 0)) (.seq (.block 1 (.seq (r_ [m_ 12 10,m_ 5 12] [11,12]) (.seq (.seq (r_ [m_ 13 5,c_ 14 .gtr 13 0,m_ 15 14,p_ 15 (f_ 16 1 2),p_ 15 (f_ 17 16 3),p_ 15 (l_ 18 17),K_ 19 15 18] [13,14,15,16,17,18]) (.cond (.t 19) (.exit 0) (.skip))) (.seq (r_ [o_ 21 (.ld false (some 14) 0 0 (.t 1)),m_ 22 5,o_ 23 (.call (some 4) 11 136 [.t 21,.t 22]),m_ 20 23,e_ 24 20 0,e_ 25 20 1,m_ 6 24,m_ 7 25] [19,20,21,22,23,24,25]) (.seq (R_ [m_ 27 6,m_ 28 7,f_ 29 1 2,f_ 30 29 1,⟨some 31,none,⟨[19],[]⟩,.ld false none 0 0 (.t 30)⟩,f_ 32 1 2,f_ 33 32 2,⟨some 34,none,⟨[19],[]⟩,.ld false none 0 0 (.t 33)⟩,m_ 35 5,f_ 36 1 8,o_ 37 (.idxP (.t 36) (.t 35) 3 1),⟨some 38,none,⟨[19],[]⟩,.ld false none 0 0 (.t 37)⟩,m_ 39 5,f_ 40 1 11,o_ 41 (.idxP (.t 40) (.t 39) 3 1),⟨some 42,none,⟨[19],[]⟩,.ld false none 0 0 (.t 41)⟩,⟨some 43,none,⟨[19],[]⟩,.call (some 4) 15 137 [.t 27,.t 28,.t 31,.t 34,.t 38,.t 42]⟩,m_ 26 43,e_ 44 26 0,e_ 45 26 1,o_ 8 (.alloc 19 [y_,y_,nilSV]),s_ 3 .i64 8 44,m_ 9 45] [5,6,7,26,27,28,29,30,31,32,33,34,35,36,37,38,39,40,41,42,43,44,45]) (.seq (.seq (r_ [m_ 46 9,c_ 47 .neq 46 0] [46]) (.cond (.t 47) (.seq (r_ [m_ 48 9,o_ 2 (.mov (.k nilSV)),m_ 3 48] [1,4,8,9,10,47,48]) (.ret)) (.skip))) (r_ [m_ 49 4,o_ 50 (.ld false (some 3) 0 0 (.t 8)),o_ 51 (.brecs 20 3 .i64 [.t 50]),o_ 52 (.app 21 3 40 (.t 49) (.t 51)),m_ 4 52] [2,3,8,9,47,49,50,51,52]))))))) (r_ [a_ 53 10 1,m_ 10 53] [53])))
def r66_2:IR:=
 .seq (r_ [m_ 54 4,m_ 2 54,z_ 3 0] [1,4,10,54]) (.ret)
def ir66:IR:=
 .seq (r_ [o_ 1 (.box 10 (.t 0)),o_ 2 (.mov (.k nilSV)),z_ 3 0] [0,2,3]) (.seq (r_ [o_ 4 (.mov (.k nilSV))] []) (.seq (.seq (r_ [z_ 10 0] []) (.block 0 (.loop b66_1))) (r66_2)))
def kp66_1:List Nat:=[1,4,10]
def kl66_1:List Nat:=[11,12,13,14,15,16,17,18,19,20,21]
attribute [push_cast] kp66_1 kl66_1
set_option maxRecDepth 4000 in
theorem comp66:(Tryz.f66.body.bind fun c=>compC tab isP chkAll ir66 c)=some ir66:=by kernel_rfl
structure SiA where
 H:HdR
 L0:Xf.Loc
 n0:Int
 L1:Xf.Loc
 n1:Int
 L2:Xf.Loc
 n2:Int
 k:Nat
def invSi:List SV->Look->Option (SiA×List Nat)
 | [.agg [.int .i64 w,.int .i64 h,.int .i64 wv,.int .i64 lv,.int .i64 kd,.bool gr,.bool hf,.int .i64 d,.int .i64 a,.int .i64 b,.int .i64 c,.sl _ L0 1 0 n0,.sl _ L1 1 0 n1,.sl _ L2 1 0 n2],.int .i64 k],_=>some (⟨⟨w,h,⟨wv,lv,kd,gr,hf,d⟩,a,b,c⟩,L0,n0,L1,n1,L2,n2,k.toNat⟩,[])
 | _,_=>none
attribute [push_cast] invSi
def siOk (H:HdR):Prop:=0<=H.w/\0<=H.h/\H.w<=2147483647/\H.h<=2147483647
def fs136:FS where
 A:=SiA
 args:=fun a=>[cmV a.H (.sl 4096 a.L0 1 0 a.n0) (.sl 4096 a.L1 1 0 a.n1) (.sl 4096 a.L2 1 0 a.n2),.int .i64 a.k]
 pre:=fun a=>siOk a.H
 res:=fun a x=>.tup [.int .i64 (a.H.pw a.k),.int .i64 (a.H.ph a.k)]
theorem ok136:FSOk Tryz.prog 136 fs136:=by
 refine hd_ (fk_ Tryz.func136) fun a hp=>?_
 obtain⟨⟨w,h,⟨wv,lv,kd,gr,hf,d⟩,a,b,c⟩,L0,n0,L1,n1,L2,n2,k⟩:=a
 obtain⟨h1,h2,h3,h4⟩:0<=w/\0<=h/\w<=2147483647/\h<=2147483647:=hp
 change Tri Tryz.prog 136 [.agg [.int .i64 w,.int .i64 h,.int .i64 wv,.int .i64 lv,.int .i64 kd,.bool gr,.bool hf,.int .i64 d,.int .i64 a,.int .i64 b,.int .i64 c,.sl 4096 L0 1 0 n0,.sl 4096 L1 1 0 n1,.sl 4096 L2 1 0 n2],.int .i64 k] [] (postF fs136 _)
 refine tri_evS (hyp (l:=[]) (lp:=[]) trivial trivial) Tryz.func136 comp136 (rs:=[.tmp 4,.tmp 5]) (by rfl) Tryz.ntmps136 11 ?_
 by_cases hk:0<k
 ·have hki:(0:Int)<k:=by omega
  cases hf with
  | true=>
   have e1:HdR.pw ⟨w,h,⟨wv,lv,kd,gr,true,d⟩,a,b,c⟩ k=(w+1) / 2:=if_pos ⟨hk,rfl⟩
   have e2:HdR.ph ⟨w,h,⟨wv,lv,kd,gr,true,d⟩,a,b,c⟩ k=(h+1) / 2:=if_pos ⟨hk,rfl⟩
   simp -implicitDefEqProofs only[push_cast,zz,seval,ir136,hki]
   intro X
   repeat refine om_ ?_
   refine postF.mk' (fun _=>default) [] ?_
   simp -implicitDefEqProofs only[push_cast,zz,seval,fs136,e1,e2]
  | false=>
   have e1:HdR.pw ⟨w,h,⟨wv,lv,kd,gr,false,d⟩,a,b,c⟩ k=w:=if_neg (fun h=>by cases h.2)
   have e2:HdR.ph ⟨w,h,⟨wv,lv,kd,gr,false,d⟩,a,b,c⟩ k=h:=if_neg (fun h=>by cases h.2)
   simp -implicitDefEqProofs only[push_cast,zz,seval,ir136,hki]
   intro X
   repeat refine om_ ?_
   refine postF.mk' (fun _=>default) [] ?_
   simp -implicitDefEqProofs only[push_cast,zz,seval,fs136,e1,e2]
 ·have hki:¬ (0:Int)<k:=by omega
  have e1:HdR.pw ⟨w,h,⟨wv,lv,kd,gr,hf,d⟩,a,b,c⟩ k=w:=if_neg (fun h=>hk h.1)
  have e2:HdR.ph ⟨w,h,⟨wv,lv,kd,gr,hf,d⟩,a,b,c⟩ k=h:=if_neg (fun h=>hk h.1)
  simp -implicitDefEqProofs only[push_cast,zz,seval,ir136,hki]
  intro X
  repeat refine om_ ?_
  refine postF.mk' (fun _=>default) [] ?_
  simp -implicitDefEqProofs only[push_cast,zz,seval,fs136,e1,e2]
def ent136:Entry:=spOf fs136 invSi
theorem e136:EntryOk Tryz.prog 136 ent136:=entry_of ok136 invSi
@[push_cast] theorem ent136_a u l x k:ent136 u l x k=spOf fs136 invSi u l x k:=rfl
def HdR.ec (H:HdR) (cs:List (List Int)) (k:Nat):Int:=decE (H.pw k) (H.ph k) H.s.lv H.s.kd (H.pn k) cs
def HdR.pc (H:HdR) (cs:List (List Int)) (k:Nat):Pl:=decP (H.pw k) (H.ph k) H.s.lv H.s.kd (H.pn k) cs
def rcN (P:Nat->Pl) (N:Nat->Xf.Loc):Nat->List (List RC)
 | 0=>[]
 | n+1=>rcN P N n++[prc (P n) (N n)]
theorem rcN_len (P:Nat->Pl) (N:Nat->Xf.Loc):∀ n,(rcN P N n).length=n
 | 0=>rfl
 | n+1=>by rw[rcN,List.length_append,rcN_len P N n];rfl
theorem rcN_cong {P:Nat->Pl} {N M:Nat->Xf.Loc}:∀ {n:Nat},(∀ j,j<n->N j=M j)->rcN P N n=rcN P M n
 | 0,_=>rfl
 | n+1,h=>by rw[rcN,rcN,rcN_cong fun j hj=>h j (by omega),h n (by omega)]
structure CmA where
 H:HdR
 L0:Xf.Loc
 r0:List (Xf.Loc×List Int)
 L1:Xf.Loc
 r1:List (Xf.Loc×List Int)
 L2:Xf.Loc
 r2:List (Xf.Loc×List Int)
def CmA.cs (a:CmA):Nat->List (List Int)
 | 0=>a.r0.map (·.2)
 | 1=>a.r1.map (·.2)
 | _=>a.r2.map (·.2)
def CmA.e (a:CmA):Int:=fstE (a.H.ec (a.cs 0) 0) (if a.H.s.gr=true then 0 else fstE (a.H.ec (a.cs 1) 1) (a.H.ec (a.cs 2) 2))
def CmA.n (a:CmA):Nat:=if a.e=0 then (if a.H.s.gr=true then 1 else 3)else 0
def invCm:List SV->Look->Option (CmA×List Nat)
 | [.agg [.int .i64 w,.int .i64 h,.int .i64 wv,.int .i64 lv,.int .i64 kd,.bool gr,.bool hf,.int .i64 d,.int .i64 a,.int .i64 b,.int .i64 c,.sl c0 _ 1 0 _,.sl c1 _ 1 0 _,.sl c2 _ 1 0 _]],look=>match rowBy look c0,rowBy look c1,rowBy look c2 with
  | some (L0,r0),some (L1,r1),some (L2,r2)=>some (⟨⟨w,h,⟨wv,lv,kd,gr,hf,d⟩,a,b,c⟩,L0,r0,L1,r1,L2,r2⟩,[c0,c1,c2])
  | _,_,_=>none
 | _,_=>none
attribute [push_cast] invCm
def fs66:FS where
 A:=CmA
 args:=fun a=>[cmV a.H (.sl 0 a.L0 1 0 a.r0.length) (.sl 1 a.L1 1 0 a.r1.length) (.sl 2 a.L2 1 0 a.r2.length)]
 mem:=fun a=>[some (.ro,a.L0,.recs 1 false [] (a.r0.map byRc)),some (.ro,a.L1,.recs 1 false [] (a.r1.map byRc)),some (.ro,a.L2,.recs 1 false [] (a.r2.map byRc))]
 pre:=fun a=>siOk a.H/\rowsWf a.r0/\rowsWf a.r1/\rowsWf a.r2
 res:=fun a x=>.tup [.sl 3 (lx (a.e=0) x 0) (esz 3 a.n) 0 a.n,.int .i64 a.e]
 new:=fun a x=>[(lx (a.e=0) x 0,.recs 3 true [] (rcN (fun k=>a.H.pc (a.cs k) k) (fun j=>x (j+1)) a.n))]
set_option maxRecDepth 8000 in
set_option maxHeartbeats 4000000 in
theorem ok66:FSOk Tryz.prog 66 fs66:=by
 refine hd_ (fk_ Tryz.func66) fun a hp=>?_
 obtain⟨⟨w,h,⟨wv,lv,kd,gr,hf,d⟩,a,b,c⟩,L0,r0,L1,r1,L2,r2⟩:=a
 obtain⟨hsd,w0,w1,w2⟩:siOk ⟨w,h,⟨wv,lv,kd,gr,hf,d⟩,a,b,c⟩/\rowsWf r0/\rowsWf r1/\rowsWf r2:=hp
 change Tri Tryz.prog 66 [.agg [.int .i64 w,.int .i64 h,.int .i64 wv,.int .i64 lv,.int .i64 kd,.bool gr,.bool hf,.int .i64 d,.int .i64 a,.int .i64 b,.int .i64 c,.sl 0 L0 1 0 r0.length,.sl 1 L1 1 0 r1.length,.sl 2 L2 1 0 r2.length]] [some (.ro,L0,.recs 1 false [] (r0.map byRc)),some (.ro,L1,.recs 1 false [] (r1.map byRc)),some (.ro,L2,.recs 1 false [] (r2.map byRc))] (postF fs66 _)
 refine tri_evS (hyp (l:=[(136,ent136),(137,ent137)]) (lp:=[]) ⟨e136,e137,trivial⟩ trivial) Tryz.func66 comp66 (rs:=[.tmp 2,.tmp 3]) (by rfl) Tryz.ntmps66 22 ?_
 have hdc:∀ w h lv kd P L (r:List (Xf.Loc×List Int)),(⟨w,h,lv,kd,P,L,r,r.length⟩:DcA).cs=r.map (·.2):=fun _ _ _ _ _ _ r=>by unfold DcA.cs;simp only;rw[List.take_length]
 have rd0:rd [a,b,c] 0=a:=rfl
 have rd1:rd [a,b,c] 1=b:=rfl
 have rd2:rd [a,b,c] 2=c:=rfl
 have cs0:∀ xs:List Int,sub xs 0 (xs.length:Int)=xs:=fun xs=>by unfold sub;simp
 obtain⟨A,hA⟩:∃ A:CmA,(⟨⟨w,h,⟨wv,lv,kd,gr,hf,d⟩,a,b,c⟩,L0,r0,L1,r1,L2,r2⟩:CmA)=A:=⟨_,rfl⟩
 obtain⟨W0,hW0⟩:∃ v,HdR.pw ⟨w,h,⟨wv,lv,kd,gr,hf,d⟩,a,b,c⟩ 0=v:=⟨_,rfl⟩
 obtain⟨V0,hV0⟩:∃ v,HdR.ph ⟨w,h,⟨wv,lv,kd,gr,hf,d⟩,a,b,c⟩ 0=v:=⟨_,rfl⟩
 obtain⟨e0,he0⟩:∃ e,decE W0 V0 lv kd a (r0.map (·.2))=e:=⟨_,rfl⟩
 obtain⟨⟨x0,y0,z0⟩,hp0⟩:∃ p,decP W0 V0 lv kd a (r0.map (·.2))=p:=⟨_,rfl⟩
 have E0:A.H.ec (A.cs 0) 0=e0:=by rw[<-hA,<-he0,<-hW0,<-hV0];rfl
 have Q0:A.H.pc (A.cs 0) 0=⟨x0,y0,z0⟩:=by rw[<-hA,<-hp0,<-hW0,<-hV0];rfl
 obtain⟨W1,hW1⟩:∃ v,HdR.pw ⟨w,h,⟨wv,lv,kd,gr,hf,d⟩,a,b,c⟩ 1=v:=⟨_,rfl⟩
 obtain⟨V1,hV1⟩:∃ v,HdR.ph ⟨w,h,⟨wv,lv,kd,gr,hf,d⟩,a,b,c⟩ 1=v:=⟨_,rfl⟩
 obtain⟨e1,he1⟩:∃ e,decE W1 V1 lv kd b (r1.map (·.2))=e:=⟨_,rfl⟩
 obtain⟨⟨x1,y1,z1⟩,hp1⟩:∃ p,decP W1 V1 lv kd b (r1.map (·.2))=p:=⟨_,rfl⟩
 have E1:A.H.ec (A.cs 1) 1=e1:=by rw[<-hA,<-he1,<-hW1,<-hV1];rfl
 have Q1:A.H.pc (A.cs 1) 1=⟨x1,y1,z1⟩:=by rw[<-hA,<-hp1,<-hW1,<-hV1];rfl
 obtain⟨W2,hW2⟩:∃ v,HdR.pw ⟨w,h,⟨wv,lv,kd,gr,hf,d⟩,a,b,c⟩ 2=v:=⟨_,rfl⟩
 obtain⟨V2,hV2⟩:∃ v,HdR.ph ⟨w,h,⟨wv,lv,kd,gr,hf,d⟩,a,b,c⟩ 2=v:=⟨_,rfl⟩
 obtain⟨e2,he2⟩:∃ e,decE W2 V2 lv kd c (r2.map (·.2))=e:=⟨_,rfl⟩
 obtain⟨⟨x2,y2,z2⟩,hp2⟩:∃ p,decP W2 V2 lv kd c (r2.map (·.2))=p:=⟨_,rfl⟩
 have E2:A.H.ec (A.cs 2) 2=e2:=by rw[<-hA,<-he2,<-hW2,<-hV2];rfl
 have Q2:A.H.pc (A.cs 2) 2=⟨x2,y2,z2⟩:=by rw[<-hA,<-hp2,<-hW2,<-hV2];rfl
 have hAe:A.e=fstE e0 (if gr=true then 0 else fstE e1 e2):=by
  have hg:A.H.s.gr=gr:=by rw[<-hA]
  unfold CmA.e
  rw[E0,E1,E2,hg]
 have hAn:A.n=if A.e=0 then (if gr=true then 1 else 3)else 0:=by
  have hg:A.H.s.gr=gr:=by rw[<-hA]
  unfold CmA.n
  rw[hg]
 obtain⟨PP,hPP⟩:∃ f,(fun k=>A.H.pc (A.cs k) k)=f:=⟨_,rfl⟩
 have Q0:PP 0=⟨x0,y0,z0⟩:=by rw[<-hPP];exact Q0
 have Q1:PP 1=⟨x1,y1,z1⟩:=by rw[<-hPP];exact Q1
 have Q2:PP 2=⟨x2,y2,z2⟩:=by rw[<-hPP];exact Q2
 have ap:∀ n N M,rcN PP N n++[prc (PP n) M]=rcN PP (fun j=>if j=n then M else N j) (n+1):=fun n N M=>by
  rw[rcN,if_pos rfl,rcN_cong (N:=N) (M:=fun j=>if j=n then M else N j) fun j hj=>by rw[if_neg (by omega)]]
 have a0:∀ N M,rcN PP N 0++[[.int .i64 x0,.int .i64 y0,.row M .i64 z0]]=rcN PP (fun j=>if j=0 then M else N j) 1:=fun N M=>by have h:=ap 0 N M;rw[Q0]at h;exact h
 have a1:∀ N M,rcN PP N 1++[[.int .i64 x1,.int .i64 y1,.row M .i64 z1]]=rcN PP (fun j=>if j=1 then M else N j) 2:=fun N M=>by have h:=ap 1 N M;rw[Q1]at h;exact h
 have a2:∀ N M,rcN PP N 2++[[.int .i64 x2,.int .i64 y2,.row M .i64 z2]]=rcN PP (fun j=>if j=2 then M else N j) 3:=fun N M=>by have h:=ap 2 N M;rw[Q2]at h;exact h
 have h10:∀ i:Nat,¬ i+1=0:=fun i=>by omega
 have hln:∀ N n,((rcN PP N n).length:Int)=n:=fun N n=>by rw[rcN_len]
 simp -implicitDefEqProofs only[push_cast,zz,seval,ir66]
 intro X
 repeat refine om_ ?_
 refine evS_loopU (A:=Nat×(Nat->Xf.Loc)×Xf.Loc) kp66_1 kl66_1 (fun y=>[(4,.sl 5 y.2.2 (esz 3 y.1) 0 y.1),(10,.int .i64 y.1)]) (fun y=>[(5,.mine,y.2.2,.recs 3 true [] (rcN PP y.2.1 y.1))]) (fun y=>y.1<=3/\(0<y.1->e0=0)/\(1<y.1->e1=0/\gr=false)/\(2<y.1->e2=0)) (fun y=>3-y.1) (0,fun _=>nilLoc,nilLoc) ⟨by decide,fun h=>absurd h (by decide),fun h=>absurd h (by decide),fun h=>absurd h (by decide)⟩ (Sub.of (mkG 22 [(0,0),(1,1),(2,2),(10,10)]) ?_) ?_
 ·simp -implicitDefEqProofs only[push_cast,zz,seval,rcN,esz]
 intro ⟨k,N,M⟩ ⟨(hk:k<=3),(c0:0<k->e0=0),(c1:1<k->e1=0/\gr=false),(c2:2<k->e2=0)⟩ K hK
 obtain rfl | rfl | rfl | rfl:k=0∨k=1∨k=2∨k=3:=by omega
 ·by_cases z:e0=0
  ·simp -implicitDefEqProofs only[push_cast,zz,seval,b66_1,hsd,hW0,hV0,hdc,w0,he0,hp0,rd0,Int.toNat_natCast,fs136,fs137,lx,z,cs0,hln]
   intro X5
   repeat refine om_ ?_
   intro X6
   repeat refine om_ ?_
   refine hK (1,fun j=>if j=0 then (X5 16 15).fr 0 else N j,X6 3 21) ⟨by simp,fun _=>z,fun h=>absurd h (by simp),fun h=>absurd h (by simp)⟩ (show 3-1<3-0 by decide) _ _ (Sub.of (mkG 22 [(0,0),(1,1),(2,2),(5,21),(10,10)]) ?_)
   simp -implicitDefEqProofs only[push_cast,zz,seval,a0,esz]
  ·have hAe2:A.e=e0:=by rw[hAe];unfold fstE;simp[z]
   have hAn2:A.n=0:=by rw[hAn,hAe2,if_neg z]
   subst hA
   simp -implicitDefEqProofs only[push_cast,zz,seval,b66_1,hsd,hW0,hV0,hdc,w0,he0,hp0,rd0,Int.toNat_natCast,fs136,fs137,lx,z]
   intro X5
   repeat refine om_ ?_
   refine postF.mk' (fun _=>nilLoc) [some 0,some 1,some 2,none] ?_
   simp -implicitDefEqProofs only[push_cast,zz,seval,fs66,hAe2,hAn2,z,lx,rcN,esz]
 ·cases gr with
  | true=>
   have hAe2:A.e=0:=by rw[hAe];unfold fstE;simp[c0 (by decide)]
   have hAn2:A.n=1:=by rw[hAn,hAe2];rfl
   subst hA
   simp only at hPP
   clear hK
   simp -implicitDefEqProofs only[push_cast,zz,seval,b66_1,r66_2]
   repeat refine om_ ?_
   refine postF.mk' (fun j=>if j=0 then M else N (j-1)) [some 0,some 1,some 2,some 5] ?_
   simp -implicitDefEqProofs only[push_cast,zz,seval,fs66,hAe2,hAn2,hPP,lx,if_true,esz,h10,Nat.add_sub_cancel]
  | false=>
   by_cases z:e1=0
   ·simp -implicitDefEqProofs only[push_cast,zz,seval,b66_1,hsd,hW1,hV1,hdc,w1,he1,hp1,rd1,Int.toNat_natCast,fs136,fs137,lx,z,cs0,hln]
    intro X5
    repeat refine om_ ?_
    intro X6
    repeat refine om_ ?_
    refine hK (2,fun j=>if j=1 then (X5 16 15).fr 0 else N j,X6 3 21) ⟨by simp,fun _=>c0 (by decide),fun _=>⟨z,rfl⟩,fun h=>absurd h (by simp)⟩ (show 3-2<3-1 by decide) _ _ (Sub.of (mkG 22 [(0,0),(1,1),(2,2),(5,21),(10,10)]) ?_)
    simp -implicitDefEqProofs only[push_cast,zz,seval,a1,esz]
   ·have hAe2:A.e=e1:=by rw[hAe];unfold fstE;simp[c0 (by decide),z]
    have hAn2:A.n=0:=by rw[hAn,hAe2,if_neg z]
    subst hA
    simp -implicitDefEqProofs only[push_cast,zz,seval,b66_1,hsd,hW1,hV1,hdc,w1,he1,hp1,rd1,Int.toNat_natCast,fs136,fs137,lx,z]
    intro X5
    repeat refine om_ ?_
    refine postF.mk' (fun _=>nilLoc) [some 0,some 1,some 2,none] ?_
    simp -implicitDefEqProofs only[push_cast,zz,seval,fs66,hAe2,hAn2,z,lx,rcN,esz]
 ·obtain⟨E1z,rfl⟩:=c1 (by decide)
  by_cases z:e2=0
  ·simp -implicitDefEqProofs only[push_cast,zz,seval,b66_1,hsd,hW2,hV2,hdc,w2,he2,hp2,rd2,Int.toNat_natCast,fs136,fs137,lx,z,cs0,hln]
   intro X5
   repeat refine om_ ?_
   intro X6
   repeat refine om_ ?_
   refine hK (3,fun j=>if j=2 then (X5 16 15).fr 0 else N j,X6 3 21) ⟨by simp,fun _=>c0 (by decide),fun _=>⟨E1z,rfl⟩,fun _=>z⟩ (show 3-3<3-2 by decide) _ _ (Sub.of (mkG 22 [(0,0),(1,1),(2,2),(5,21),(10,10)]) ?_)
   simp -implicitDefEqProofs only[push_cast,zz,seval,a2,esz]
  ·have hAe2:A.e=e2:=by rw[hAe];unfold fstE;simp[c0 (by decide),E1z,z]
   have hAn2:A.n=0:=by rw[hAn,hAe2,if_neg z]
   subst hA
   simp -implicitDefEqProofs only[push_cast,zz,seval,b66_1,hsd,hW2,hV2,hdc,w2,he2,hp2,rd2,Int.toNat_natCast,fs136,fs137,lx,z]
   intro X5
   repeat refine om_ ?_
   refine postF.mk' (fun _=>nilLoc) [some 0,some 1,some 2,none] ?_
   simp -implicitDefEqProofs only[push_cast,zz,seval,fs66,hAe2,hAn2,z,lx,rcN,esz]
 ·obtain⟨E1z,rfl⟩:=c1 (by decide)
  have hAe2:A.e=0:=by rw[hAe];unfold fstE;simp[c0 (by decide),E1z,c2 (by decide)]
  have hAn2:A.n=3:=by rw[hAn,hAe2];rfl
  subst hA
  simp only at hPP
  clear hK
  simp -implicitDefEqProofs only[push_cast,zz,seval,b66_1,r66_2]
  repeat refine om_ ?_
  refine postF.mk' (fun j=>if j=0 then M else N (j-1)) [some 0,some 1,some 2,some 5] ?_
  simp -implicitDefEqProofs only[push_cast,zz,seval,fs66,hAe2,hAn2,hPP,lx,if_true,esz,h10,Nat.add_sub_cancel]
def ent66:Entry:=spOf fs66 invCm
theorem e66:EntryOk Tryz.prog 66 ent66:=entry_of ok66 invCm
@[push_cast] theorem ent66_a u l x k:ent66 u l x k=spOf fs66 invCm u l x k:=rfl
def b67_1:IR:=
 .seq (r_ [b_ 14 .lss 13 12] []) (.seq (.cond (.t 14) (.skip) (.exit 0)) (.seq (.block 1 (.seq (r_ [m_ 15 13,i_ 16 11 13 3,o_ 17 (.ld true (some 3) 11 1 (.t 16)),o_ 8 (.alloc 12 [y_,y_,nilSV]),m_ 7 15,s_ 3 .i64 8 17] [14,15,16,17]) (.seq (r_ [o_ 19 (.ld false (some 3) 0 0 (.t 8)),f_ 20 2 2,f_ 21 20 0,l_ 22 21,f_ 23 2 2,f_ 24 23 1,l_ 25 24,o_ 26 (.call (some 4) 13 46 [.t 19,.t 22,.t 25]),m_ 18 26,e_ 27 18 0,e_ 28 18 1,o_ 9 (.alloc 17 [y_,y_,nilSV]),s_ 3 .i64 9 27,m_ 10 28] [8,18,19,20,21,22,23,24,25,26,27,28]) (.seq (.seq (r_ [m_ 29 10,c_ 30 .neq 29 0] [29]) (.cond (.t 30) (.seq (r_ [m_ 31 10,o_ 4 (.mov (.k nilSV)),m_ 5 31] [2,6,7,9,10,11,12,13,30,31]) (.ret)) (.skip))) (.seq (.seq (r_ [m_ 32 7,c_ 33 .gtr 32 0,m_ 34 33,p_ 34 (f_ 35 2 2),p_ 34 (f_ 36 35 4),p_ 34 (l_ 37 36),K_ 38 34 37] [4,5,7,10,30,32,33,34,35,36,37]) (.cond (.t 38) (r_ [o_ 40 (.ld false (some 3) 0 0 (.t 9)),f_ 41 2 0,l_ 42 41,f_ 43 2 1,l_ 44 43,o_ 45 (.call (some 4) 18 138 [.t 40,.t 42,.t 44]),m_ 39 45,e_ 46 39 0,e_ 47 39 1,s_ 3 .i64 9 46] [38,39,40,41,42,43,44,45,46,47]) (.skip))) (r_ [m_ 48 6,o_ 49 (.ld false (some 3) 0 0 (.t 9)),o_ 50 (.brecs 22 3 .i64 [.t 49]),o_ 51 (.app 23 3 40 (.t 48) (.t 50)),m_ 6 51] [9,38,48,49,50,51])))))) (r_ [a_ 52 13 1,m_ 13 52] [52])))
def r67_2:IR:=
 .seq (r_ [m_ 53 6,m_ 4 53,z_ 5 0] [2,6,11,12,13,53]) (.ret)
def ir67:IR:=
 .seq (r_ [o_ 2 (.box 10 (.t 0)),o_ 4 (.mov (.k nilSV)),z_ 5 0] [0,4,5]) (.seq (r_ [o_ 6 (.mov (.k nilSV))] []) (.seq (.seq (r_ [m_ 11 1,h_ 12 11,z_ 13 0] [1]) (.block 0 (.loop b67_1))) (r67_2)))
def kp67_1:List Nat:=[2,6,11,12,13]
def kl67_1:List Nat:=[11,12,13,14,15,16,17,18,19,20,21,22,23]
attribute [push_cast] kp67_1 kl67_1
set_option maxRecDepth 4000 in
theorem comp67:(Tryz.f67.body.bind fun c=>compC tab isP chkAll ir67 c)=some ir67:=by kernel_rfl
def prq (q:Pl×Xf.Loc):List RC:=prc q.1 q.2
def getPr:List (List RC)->Option (List (Pl×Xf.Loc))
 | []=>some []
 | [.int .i64 w,.int .i64 h,.row L .i64 xs]::l=>match getPr l with | some r=>some ((⟨w,h,xs⟩,L)::r) | none=>none
 | _=>none
def psOk (ps:List (Pl×Xf.Loc)):Prop:=∀ q∈ps,q.1.xs.length<=140737488355328
structure IwA where
 H:HdR
 L0:Xf.Loc
 n0:Int
 L1:Xf.Loc
 n1:Int
 L2:Xf.Loc
 n2:Int
 L:Xf.Loc
 ps:List (Pl×Xf.Loc)
def psP (ps:List (Pl×Xf.Loc)):Nat->Pl:=fun k=>(ps.getD k (pl0,nilLoc)).1
def HdR.iF (H:HdR) (P:Nat->Pl):Nat->Nat->Int
 | _,0=>0
 | k,m+1=>fstE (H.iE (P k)) (H.iF P (k+1) m)
theorem iF_skip (H:HdR) (P:Nat->Pl):∀ (k m j:Nat),(∀ i,j<=i->i<j+k->H.iE (P i)=0)->H.iF P j (k+m)=H.iF P (j+k) m
 | 0,m,j,_=>by rw[Nat.zero_add,Nat.add_zero]
 | k+1,m,j,h=>by
  rw[show k+1+m=(k+m)+1 by omega,HdR.iF,h j (Nat.le_refl _) (by omega)]
  unfold fstE
  rw[if_pos rfl,iF_skip H P k m (j+1) fun i h1 h2=>h i (by omega) (by omega),show j+1+k=j+(k+1) by omega]
def IwA.e (a:IwA):Int:=a.H.iF (psP a.ps) 0 a.ps.length
def IwA.n (a:IwA):Nat:=if a.e=0 then a.ps.length else 0
theorem IwA.e_all (a:IwA) (h:∀ j,j<a.ps.length->a.H.iE (psP a.ps j)=0):a.e=0:=by
 unfold IwA.e
 have:=iF_skip a.H (psP a.ps) a.ps.length 0 0 fun i _ h2=>h i (by omega)
 rw[Nat.add_zero]at this
 rw[this]
 rfl
theorem IwA.e_at (a:IwA) {k:Nat} (hk:k<a.ps.length) (h:∀ j,j<k->a.H.iE (psP a.ps j)=0) (h0:a.H.iE (psP a.ps k)≠0):a.e=a.H.iE (psP a.ps k):=by
 unfold IwA.e
 have:=iF_skip a.H (psP a.ps) k (a.ps.length-k) 0 fun i _ h2=>h i (by omega)
 rw[show k+(a.ps.length-k)=a.ps.length by omega,Nat.zero_add]at this
 rw[this,show a.ps.length-k=(a.ps.length-k-1)+1 by omega,HdR.iF]
 unfold fstE
 rw[if_neg h0]
def invIw:List SV->Look->Option (IwA×List Nat)
 | [.agg [.int .i64 w,.int .i64 h,.int .i64 wv,.int .i64 lv,.int .i64 kd,.bool gr,.bool hf,.int .i64 d,.int .i64 a,.int .i64 b,.int .i64 c,.sl _ L0 1 0 n0,.sl _ L1 1 0 n1,.sl _ L2 1 0 n2],.sl e _ _ 0 _],look=>match rowR (look e)with
  | some (L,3,_,r)=>match getPr r with
   | some ps=>some (⟨⟨w,h,⟨wv,lv,kd,gr,hf,d⟩,a,b,c⟩,L0,n0,L1,n1,L2,n2,L,ps⟩,[e])
   | none=>none
  | _=>none
 | _,_=>none
attribute [push_cast] invIw getPr
def fs67:FS where
 A:=IwA
 args:=fun a=>[cmV a.H (.sl 4096 a.L0 1 0 a.n0) (.sl 4096 a.L1 1 0 a.n1) (.sl 4096 a.L2 1 0 a.n2),.sl 0 a.L 3 0 a.ps.length]
 mem:=fun a=>[some (.ro,a.L,.recs 3 false [] (a.ps.map prq))]
 pre:=fun a=>siOk a.H/\0<a.ps.length/\a.ps.length<=3/\psOk a.ps
 res:=fun a x=>.tup [.sl 1 (lx (a.e=0) x 0) (esz 3 a.n) 0 a.n,.int .i64 a.e]
 new:=fun a x=>[(lx (a.e=0) x 0,.recs 3 true [] (rcN (fun k=>a.H.iP k (psP a.ps k)) (fun j=>x (j+1)) a.n))]
theorem recAt_pr {ps:List (Pl×Xf.Loc)} {k:Nat} (h:k<ps.length) (z:List RC):recAt (k:Int) z (ps.map prq)=prc (psP ps k) (ps.getD k (pl0,nilLoc)).2:=by
 unfold recAt psP
 simp[h,prq]
theorem ivP_le {p:Pl} {kind n:Int} (h:p.xs.length<=140737488355328):(ivP p kind n).xs.length<=140737488355328:=by
 unfold ivP
 split
 ·rename_i ho
  have h1:=ho.1.len
  simp only
  unfold ivL
  simp only[bwd_length]
  exact h
 ·exact Nat.zero_le _
set_option maxRecDepth 8000 in
set_option maxHeartbeats 4000000 in
theorem ok67:FSOk Tryz.prog 67 fs67:=by
 refine hd_ (fk_ Tryz.func67) fun a hp=>?_
 obtain⟨⟨w,h,⟨wv,lv,kd,gr,hf,d⟩,a,b,c⟩,L0,n0,L1,n1,L2,n2,L,ps⟩:=a
 obtain⟨hsd,hn0,hn3,hps⟩:siOk ⟨w,h,⟨wv,lv,kd,gr,hf,d⟩,a,b,c⟩/\0<ps.length/\ps.length<=3/\∀ q∈ps,q.1.xs.length<=140737488355328:=hp
 change Tri Tryz.prog 67 [.agg [.int .i64 w,.int .i64 h,.int .i64 wv,.int .i64 lv,.int .i64 kd,.bool gr,.bool hf,.int .i64 d,.int .i64 a,.int .i64 b,.int .i64 c,.sl 4096 L0 1 0 n0,.sl 4096 L1 1 0 n1,.sl 4096 L2 1 0 n2],.sl 0 L 3 0 ps.length] [some (.ro,L,.recs 3 false [] (ps.map prq))] (postF fs67 _)
 refine tri_evS (hyp (l:=[(46,ent46),(138,ent138)]) (lp:=[]) ⟨e46,e138,trivial⟩ trivial) Tryz.func67 comp67 (rs:=[.tmp 4,.tmp 5]) (by rfl) Tryz.ntmps67 24 ?_
 have cs0:∀ xs:List Int,sub xs 0 (xs.length:Int)=xs:=fun xs=>by unfold sub;simp
 have h10:∀ i:Nat,¬ i+1=0:=fun i=>by omega
 have hmapl:((ps.map prq).length:Int)=ps.length:=by rw[List.length_map]
 obtain⟨A,hA⟩:∃ A:IwA,(⟨⟨w,h,⟨wv,lv,kd,gr,hf,d⟩,a,b,c⟩,L0,n0,L1,n1,L2,n2,L,ps⟩:IwA)=A:=⟨_,rfl⟩
 have hAp:A.ps=ps:=by rw[<-hA]
 have hiE:∀ p,A.H.iE p=ivE p wv lv:=fun p=>by rw[<-hA];rfl
 have hall:=A.e_all
 have hat:=fun k (hk:k<A.ps.length)=>A.e_at hk
 have hAn:A.n=if A.e=0 then ps.length else 0:=by unfold IwA.n;rw[hAp]
 obtain⟨PP,hPP⟩:∃ f,(fun k=>A.H.iP k (psP A.ps k))=f:=⟨_,rfl⟩
 have hPk:∀ k,PP k=A.H.iP k (psP ps k):=fun k=>by rw[<-hPP,hAp]
 rw[hAp]at hall hat
 simp only[hiE]at hall hat
 have ap:∀ n N M,rcN PP N n++[prc (PP n) M]=rcN PP (fun j=>if j=n then M else N j) (n+1):=fun n N M=>by
  rw[rcN,if_pos rfl,rcN_cong (N:=N) (M:=fun j=>if j=n then M else N j) fun j hj=>by rw[if_neg (by omega)]]
 have hln:∀ N n,((rcN PP N n).length:Int)=n:=fun N n=>by rw[rcN_len]
 have hlx:∀ k,(psP ps k).xs.length<=140737488355328:=fun k=>by
  unfold psP
  rw[List.getD_eq_getElem?_getD]
  rcases Nat.lt_or_ge k ps.length with hk | hk
  ·rw[List.getElem?_eq_getElem hk]
   exact hps _ (List.getElem_mem hk)
  ·rw[List.getElem?_eq_none hk]
   exact Nat.zero_le _
 simp -implicitDefEqProofs only[push_cast,zz,seval,ir67]
 intro X
 repeat refine om_ ?_
 refine evS_loopU (A:=Nat×(Nat->Xf.Loc)×Xf.Loc) kp67_1 kl67_1 (fun y=>[(6,.sl 5 y.2.2 (esz 3 y.1) 0 y.1),(13,.int .i64 y.1)]) (fun y=>[(5,.mine,y.2.2,.recs 3 true [] (rcN PP y.2.1 y.1))]) (fun y=>y.1<=ps.length/\∀ j,j<y.1->ivE (psP ps j) wv lv=0) (fun y=>ps.length-y.1) (0,fun _=>nilLoc,nilLoc) ⟨Nat.zero_le _,fun j h=>absurd h (Nat.not_lt_zero _)⟩ (Sub.of (mkG 24 [(0,0),(10,10)]) ?_) ?_
 ·simp -implicitDefEqProofs only[push_cast,zz,seval,rcN,esz]
 intro ⟨k,N,M⟩ ⟨(hk:k<=ps.length),(hz:∀ j,j<k->ivE (psP ps j) wv lv=0)⟩ K hK
 by_cases hk':k<ps.length
 ·have hki:(k:Int)<ps.length:=by omega
  have hez:esz 3 (k+1)=3:=rfl
  have r1:=fun z=>recAt_pr (ps:=ps) hk' z
  have hPkk:=hPk k
  have hlk:=hlx k
  have hatk:=hat k hk' hz
  have hzn:ivE (psP ps k) wv lv=0->∀ j,j<k+1->ivE (psP ps j) wv lv=0:=fun h0 j hj=>by
   rcases Nat.lt_or_ge j k with g | g
   ·exact hz j g
   ·obtain rfl:j=k:=by omega
    exact h0
  have apk:=ap k N
  have hiP:PP k=if 0<k/\hf=true then dbl ⟨⟨ivP (psP ps k) wv lv,nilLoc⟩,w,h⟩else ivP (psP ps k) wv lv:=by rw[hPkk,<-hA];rfl
  obtain⟨⟨pw,ph,xs⟩,hp⟩:∃ p,psP ps k=p:=⟨_,rfl⟩
  obtain⟨Lk,hLk⟩:∃ L,(ps.getD k (pl0,nilLoc)).2=L:=⟨_,rfl⟩
  rw[hp]at r1 hlk hatk hzn hiP
  rw[hLk]at r1
  simp only[prc]at r1
  simp only at hlk
  by_cases he:ivE ⟨pw,ph,xs⟩ wv lv=0
  ·have hio:ivOk ⟨pw,ph,xs⟩ wv lv:=by
    unfold ivE at he
    split at he
    ·assumption
    ·split at he
     ·split at he<;>cases he
     ·cases he
   have hq2:=ivP_le (kind:=wv) (n:=lv) (p:=⟨pw,ph,xs⟩) hlk
   obtain⟨⟨qw,qh,ys⟩,hq⟩:∃ p,ivP ⟨pw,ph,xs⟩ wv lv=p:=⟨_,rfl⟩
   rw[hq]at hq2 hiP
   simp only at hq2
   by_cases hc:0<k/\hf=true
   ·obtain⟨hc1,rfl⟩:=hc
    have hci:(0:Int)<k:=by omega
    rw[if_pos ⟨hc1,rfl⟩]at hiP
    have hdb:∀ L,dbl ⟨⟨⟨qw,qh,ys⟩,L⟩,w,h⟩=PP k:=fun L=>hiP.symm
    obtain⟨⟨uw,uh,us⟩,hu⟩:∃ p,PP k=p:=⟨_,rfl⟩
    rw[hu]at apk
    simp only[hu]at hdb
    simp only[prc]at apk
    simp -implicitDefEqProofs only[push_cast,zz,seval,b67_1,hki,r1,hmapl,fs46,fs138,hlk,hq2,he,hio,hq,hci,hdb,cs0,hln,lx,if_true]
    intro X4
    repeat refine om_ ?_
    intro X5 X6 X7
    repeat refine om_ ?_
    refine hK (k+1,fun j=>if j=k then (if PlD.Ok ⟨⟨⟨qw,qh,ys⟩,X5 7 13⟩,w,h⟩then X6 5 18 else nilLoc0).fr 0 else N j,X7 3 23) ⟨hk',hzn he⟩ (show ps.length-(k+1)<ps.length-k by omega) _ _ (Sub.of (mkG 24 [(0,0),(5,23),(10,10)]) ?_)
    simp -implicitDefEqProofs only[push_cast,zz,seval,apk,hez]
   ·rw[if_neg hc]at hiP
    rw[hiP]at apk
    simp only[prc]at apk
    by_cases hci:(0:Int)<k
    ·obtain rfl:hf=false:=by
      cases hf with
      | false=>rfl
      | true=>exact absurd ⟨by omega,rfl⟩ hc
     simp -implicitDefEqProofs only[push_cast,zz,seval,b67_1,hki,r1,hmapl,fs46,hlk,hq2,he,hio,hq,hci,cs0,hln,lx,if_true]
     intro X4
     repeat refine om_ ?_
     intro X5 X6
     repeat refine om_ ?_
     refine hK (k+1,fun j=>if j=k then (X5 7 13).fr 0 else N j,X6 3 23) ⟨hk',hzn he⟩ (show ps.length-(k+1)<ps.length-k by omega) _ _ (Sub.of (mkG 24 [(0,0),(5,23),(10,10)]) ?_)
     simp -implicitDefEqProofs only[push_cast,zz,seval,apk,hez]
    ·simp -implicitDefEqProofs only[push_cast,zz,seval,b67_1,hki,r1,hmapl,fs46,hlk,hq2,he,hio,hq,hci,cs0,hln,lx,if_true]
     intro X4
     repeat refine om_ ?_
     intro X5 X6
     repeat refine om_ ?_
     refine hK (k+1,fun j=>if j=k then (X5 7 13).fr 0 else N j,X6 3 23) ⟨hk',hzn he⟩ (show ps.length-(k+1)<ps.length-k by omega) _ _ (Sub.of (mkG 24 [(0,0),(5,23),(10,10)]) ?_)
     simp -implicitDefEqProofs only[push_cast,zz,seval,apk,hez]
  ·have hAe:=hatk he
   have hAn2:A.n=0:=by rw[hAn,hAe,if_neg he]
   obtain⟨E,hE⟩:∃ e,ivE ⟨pw,ph,xs⟩ wv lv=e:=⟨_,rfl⟩
   rw[hE]at he hAe
   subst hA
   simp -implicitDefEqProofs only[push_cast,zz,seval,b67_1,hki,r1,hmapl,fs46,hlk,hE,he,cs0]
   intro X4
   repeat refine om_ ?_
   intro X5
   repeat refine om_ ?_
   refine postF.mk' (fun _=>nilLoc) [some 0,none] ?_
   simp -implicitDefEqProofs only[push_cast,zz,seval,fs67,hAe,hAn2,he,lx,rcN,esz]
 ·obtain rfl:k=ps.length:=by omega
  have hAe:A.e=0:=hall hz
  have hAn2:A.n=ps.length:=by rw[hAn,hAe,if_pos rfl]
  subst hA
  simp only at hPP
  clear hK
  simp -implicitDefEqProofs only[push_cast,zz,seval,b67_1,r67_2,Int.lt_irrefl]
  repeat refine om_ ?_
  refine postF.mk' (fun j=>if j=0 then M else N (j-1)) [some 0,some 5] ?_
  simp -implicitDefEqProofs only[push_cast,zz,seval,fs67,hAe,hAn2,hPP,lx,if_true,h10,Nat.add_sub_cancel]
def ent67:Entry:=spOf fs67 invIw
theorem e67:EntryOk Tryz.prog 67 ent67:=entry_of ok67 invIw
@[push_cast] theorem ent67_a u l x k:ent67 u l x k=spOf fs67 invIw u l x k:=rfl
theorem plsG_sz {β:Type} (bit:β->Int->Bool->Bool×Int×β) (f:List Int) (t:Int) (on:Bool):∀ (l:List Int) (s:StS) (x:β),(plsG bit f t on l s x).1.size.length=s.size.length
 | [],s,x=>rfl
 | i::l,s,x=>by
  have h1:=(numG_same bit s x i t on (digP f i t) (decide (rd f i<0))).1
  rw[plsG]
  split
  ·exact(plsG_sz bit f t on l _ _).trans h1
  ·exact h1
theorem bktG_sz {β:Type} (bit:β->Int->Bool->Bool×Int×β) (f:List Int) (t:Int) (i:Nat) (s:StS) (x:β):(bktG bit f t i s x).1.size.length=s.size.length:=by
 unfold bktG
 split
 ·exact plsG_sz bit f t _ _ _ _
 ·split
  ·exact plsG_sz bit f t _ _ _ _
  ·rfl
theorem slcG_sz {β:Type} (bit:β->Int->Bool->Bool×Int×β) (f:List Int) (t:Int):∀ (k i:Nat) (s:StS) (x:β),(slcG bit f t k i s x).1.size.length=s.size.length
 | 0,i,s,x=>rfl
 | k+1,i,s,x=>by
  rw[slcG]
  split
  ·exact(slcG_sz bit f t k (i+1) _ _).trans (bktG_sz bit f t i s x)
  ·exact bktG_sz bit f t i s x
theorem decG_sz (f:List Int):∀ (l:List (List Int)) (t:Int) (s:StS) (st:List Int),(decG f l t s st).1.size.length=s.size.length
 | [],t,s,st=>rfl
 | c::l,t,s,st=>by
  rw[decG]
  split
  ·exact(decG_sz f l _ _ _).trans (slcG_sz getG f t _ 0 s _)
  ·exact slcG_sz getG f t _ 0 s _
theorem decP_le (w h lv kd P:Int) (cs:List (List Int)):(decP w h lv kd P cs).xs.length<=140737488355328:=by
 unfold decP
 split
 ·rename_i he
  unfold decE at he
  split at he
  ·rename_i ho
   obtain⟨⟨a1,a2,a3,a4,a5⟩,_⟩:=ho
   have h1:(decR w h lv kd P cs).1.size.length=(w*h).toNat:=(decG_sz _ _ _ _ _).trans (by
    show(List.replicate (w*h).toNat (0:Int)).length=_
    exact List.length_replicate)
   show(plL _).length<=_
   unfold plL
   rw[List.length_map,List.length_range,h1]
   omega
  ·cases he
 ·exact Nat.zero_le _
theorem dbl_le (d:PlD):(dbl d).xs.length<=140737488355328:=by
 unfold dbl
 split
 ·rename_i ho
  obtain⟨_,⟨a1,a2,a3,a4,a5⟩,_⟩:=ho
  simp only[tabl_length]
  omega
 ·exact Nat.zero_le _
theorem iP_le (H:HdR) (k:Nat) {p:Pl} (h:p.xs.length<=140737488355328):(H.iP k p).xs.length<=140737488355328:=by
 unfold HdR.iP
 split
 ·exact dbl_le _
 ·exact ivP_le h
theorem reR_snd (rows:List (Xf.Loc×List Int)) (k:Int) (h:reE (rows.map (·.2))=0):(reR rows k).map (·.2)=srt (hdP ((rows.map (·.2)).headD [])).ord (rows.map (·.2)).tail k:=by
 unfold reR
 rw[if_pos h,srt_map]
 congr 1
 unfold frR
 rw[<-List.map_tail,List.map_map,<-List.map_tail]
 rfl
theorem reR_wf {rows:List (Xf.Loc×List Int)} (h:rowsWf rows) (k:Int):rowsWf (reR rows k):=by
 refine⟨?_,fun q hq=>?_⟩
 ·unfold reR
  split
  ·refine Nat.le_trans (srt_len _ _ _) ?_
   rw[List.length_tail]
   unfold frR
   rw[List.length_map]
   have:=h.1
   omega
  ·exact Nat.zero_le _
 ·obtain⟨r,hr,rfl⟩:=reR_mem hq
  exact h.2 r hr
theorem siOk_hd {b:List Int} (h:byB b):siOk (hdP b):=by
 obtain⟨h1,h2,h3,h4,_⟩:=hdP_ok h
 exact⟨h1,h2,h3,h4⟩
def b19_1:IR:=
 .seq (r_ [b_ 57 .lss 56 55] []) (.seq (.cond (.t 57) (.skip) (.exit 0)) (.seq (.block 1 (.seq (r_ [m_ 58 56,i_ 59 54 56 1,L_ 60 59,m_ 7 58,m_ 8 60] [57,58,59,60]) (r_ [m_ 61 6,o_ 62 (.idxS (.t 61) (Z_ 0) 3),f_ 63 62 2,l_ 64 63,m_ 65 7,m_ 66 8,o_ 67 (.mx (.t 66) (Z_ 0)),o_ 68 (.mn (.t 67) (Z_ 255)),i_ 69 64 65 1,S_ 1 .i64 69 68] [7,8,61,62,63,64,65,66,67,68,69]))) (r_ [a_ 70 56 1,m_ 56 70] [70])))
def r19_2:IR:=
 .seq (r_ [m_ 71 6,o_ 72 (.idxS (.t 71) (Z_ 0) 3),o_ 73 (.ld false (some 3) 0 0 (.t 72)),o_ 74 (.call (some 4) 31 68 [.t 73]),e_ 75 74 0,e_ 76 74 1,s_ 5 .i64 2 75,m_ 3 76] [6,54,55,56,71,72,73,74,75,76]) (.ret)
def ir19:IR:=
 .seq (r_ [o_ 2 (.alloc 10 [y_,y_,nilSV,nilSV,nilSV]),z_ 3 0] [3]) (.seq (r_ [m_ 10 0,o_ 11 (.call (some 4) 11 65 [.t 10]),m_ 9 11,e_ 12 9 0,e_ 13 9 1,o_ 4 (.alloc 15 [y_,y_,y_,y_,y_,.bool false,.bool false,y_,y_,y_,y_,nilSV,nilSV,nilSV]),s_ 14 .u8 4 12,m_ 5 13] [0,9,10,11,12,13]) (.seq (.seq (r_ [m_ 14 5,c_ 15 .neq 14 0] [14]) (.cond (.t 15) (.seq (r_ [o_ 16 (.build [y_,y_,nilSV,nilSV,nilSV] []),m_ 17 5,s_ 5 .i64 2 16,m_ 3 17] [4,5,15,16,17]) (.ret)) (.skip))) (.seq (r_ [o_ 19 (.ld false (some 14) 0 0 (.t 4)),o_ 20 (.call (some 4) 16 66 [.t 19]),m_ 18 20,e_ 21 18 0,e_ 22 18 1,m_ 6 21,m_ 5 22] [3,15,18,19,20,21,22]) (.seq (.seq (r_ [m_ 23 5,c_ 24 .eql 23 0] [23]) (.cond (.t 24) (r_ [o_ 26 (.ld false (some 14) 0 0 (.t 4)),m_ 27 6,o_ 28 (.call (some 4) 20 67 [.t 26,.t 27]),m_ 25 28,e_ 29 25 0,e_ 30 25 1,m_ 6 29,m_ 5 30] [24,25,26,27,28,29,30]) (.skip))) (.seq (.seq (r_ [m_ 31 5,c_ 32 .neq 31 0] [24,31]) (.cond (.t 32) (.seq (r_ [o_ 33 (.build [y_,y_,nilSV,nilSV,nilSV] []),m_ 34 5,s_ 5 .i64 2 33,m_ 3 34] [4,5,6,32,33,34]) (.ret)) (.skip))) (.seq (.seq (r_ [f_ 35 4 2,f_ 36 35 3,l_ 37 36,o_ 38 (.not (.t 37))] [3,4,5,32,35,36,37]) (.cond (.t 38) (.seq (R_ [m_ 39 6,o_ 40 (.idxS (.t 39) (Z_ 0) 3),⟨some 41,none,⟨[25,26],[]⟩,.ld true (some 3) 24 1 (.t 40)⟩,m_ 42 6,o_ 43 (.idxS (.t 42) (Z_ 1) 3),⟨some 44,none,⟨[24,26],[]⟩,.ld true (some 3) 25 1 (.t 43)⟩,m_ 45 6,o_ 46 (.idxS (.t 45) (Z_ 2) 3),⟨some 47,none,⟨[24,25],[]⟩,.ld true (some 3) 26 1 (.t 46)⟩,o_ 48 (.call (some 4) 27 47 [.t 41,.t 44,.t 47]),e_ 49 48 0,e_ 50 48 1,s_ 5 .i64 2 49,m_ 3 50] [6,38,39,40,41,42,43,44,45,46,47,48,49,50]) (.ret)) (.skip))) (.seq (.seq (r_ [m_ 51 6,o_ 52 (.idxS (.t 51) (Z_ 0) 3),f_ 53 52 2,l_ 54 53,h_ 55 54,z_ 56 0] [3,38,51,52,53]) (.block 0 (.loop b19_1))) (r19_2))))))))
set_option maxRecDepth 4000 in
theorem comp19:(Tryz.f19.body.bind fun c=>compC tab isP chkAll ir19 c)=some ir19:=by kernel_rfl
theorem psP_3 (P0 P1 P2:Pl) (M0 M1 M2:Xf.Loc):psP [(P0,M0),(P1,M1),(P2,M2)]=psP [(P0,nilLoc),(P1,nilLoc),(P2,nilLoc)]:=by
 funext k
 match k with
 | 0=>rfl
 | 1=>rfl
 | 2=>rfl
 | k+3=>rfl
def fs19:FS where
 A:=RqA
 args:=fun a=>[.sl 0 a.L 1 0 a.rows.length]
 mem:=fun a=>[some (.ro,a.L,.recs 1 false [] (a.rows.map byRc))]
 pre:=fun a=>rowsWf a.rows/\(reH a.cs).s.gr=false
 res:=fun a x=>.tup [imV (shI a.cs) (lx (shE a.cs=0) x 0) (lx (shE a.cs=0) x 1) (lx (shE a.cs=0) x 2) 1,.int .i64 (shE a.cs)]
 new:=fun a x=>imN (shI a.cs) (lx (shE a.cs=0) x)
theorem fstE_0 (b:Int):fstE 0 b=b:=if_pos rfl
theorem fstE_ne {a:Int} (b:Int) (h:a≠0):fstE a b=a:=if_neg h
theorem fstE_r (a:Int):fstE a 0=a:=by
 unfold fstE
 split
 ·exact Eq.symm (by assumption)
 ·rfl
set_option maxRecDepth 8000 in
set_option maxHeartbeats 4000000 in
theorem ok19:FSOk Tryz.prog 19 fs19:=by
 refine hd_ (fk_ Tryz.func19) fun a hp=>?_
 obtain⟨L,rows⟩:=a
 obtain⟨hwf,hng⟩:rowsWf rows/\(reH (rows.map (·.2))).s.gr=false:=hp
 change Tri Tryz.prog 19 [.sl 0 L 1 0 rows.length] [some (.ro,L,.recs 1 false [] (rows.map byRc))] (postF fs19 _)
 refine tri_evS (hyp (l:=[(65,ent65),(66,ent66),(67,ent67),(47,ent47)]) (lp:=[]) ⟨e65,e66,e67,e47,trivial⟩ trivial) Tryz.func19 comp19 (rs:=[.cell 2 (some 5),.tmp 3]) (by rfl) Tryz.ntmps19 35 ?_
 have hcs:(⟨L,rows⟩:RqA).cs=rows.map (·.2):=rfl
 have hbad:∀ e,shE (rows.map (·.2))=e->e≠0->shI (rows.map (·.2))=im0:=fun e h h0=>if_neg (by rw[h];exact h0)
 have hsE:shE (rows.map (·.2))=fstE (reE (rows.map (·.2))) (fstE ((hdP ((rows.map (·.2)).headD [])).dEs (rows.map (·.2)).tail) (fstE ((hdP ((rows.map (·.2)).headD [])).iEs (rows.map (·.2)).tail) ((hdP ((rows.map (·.2)).headD [])).bE (rows.map (·.2)).tail))):=rfl
 have i0:im0.w=0/\im0.h=0/\im0.R=[]/\im0.G=[]/\im0.B=[]:=⟨rfl,rfl,rfl,rfl,rfl⟩
 have hRm:=fun k=>reR_snd rows k
 have hRw:=fun k=>reR_wf hwf k
 have hsi:siOk (reH (rows.map (·.2))):=by
  unfold reH
  split
  ·cases rows with
   | nil=>exact⟨by decide,by decide,by decide,by decide⟩
   | cons r rs=>exact siOk_hd (hwf.2 r List.mem_cons_self).1
  ·exact⟨by decide,by decide,by decide,by decide⟩
 have hrH:reE (rows.map (·.2))=0->reH (rows.map (·.2))=hdP ((rows.map (·.2)).headD []):=fun h=>if_pos h
 have hw0:=hRw 0
 have hw1:=hRw 1
 have hw2:=hRw 2
 obtain⟨R0,hR0⟩:∃ r,reR rows 0=r:=⟨_,rfl⟩
 obtain⟨R1,hR1⟩:∃ r,reR rows 1=r:=⟨_,rfl⟩
 obtain⟨R2,hR2⟩:∃ r,reR rows 2=r:=⟨_,rfl⟩
 rw[hR0]at hw0
 rw[hR1]at hw1
 rw[hR2]at hw2
 obtain⟨E,hE⟩:∃ e,reE (rows.map (·.2))=e:=⟨_,rfl⟩
 rw[hE]at hsE hrH
 obtain⟨⟨w,h,⟨wv,lv,kd,gr,hf,d⟩,a,b,c⟩,hH⟩:∃ H,reH (rows.map (·.2))=H:=⟨_,rfl⟩
 rw[hH]at hng hsi hrH
 obtain rfl:gr=false:=hng
 by_cases h0:E=0
 rotate_left
 ·rw[fstE_ne _ h0]at hsE
  have hI:=hbad E hsE h0
  simp -implicitDefEqProofs only[push_cast,zz,seval,ir19,fs65,hwf,hcs,hE,h0,hH,hR0,hR1,hR2]
  intro X
  repeat refine om_ ?_
  intro X1
  repeat refine om_ ?_
  refine postF.mk' (fun _=>nilLoc) [some 0,none,none,none] ?_
  simp -implicitDefEqProofs only[push_cast,zz,seval,fs19,hcs,hsE,hI,i0,imV,imN,h0,lx]
 subst h0
 have hHd:=(hrH rfl).symm
 rw[fstE_0,hHd]at hsE
 obtain⟨H,hHe⟩:∃ H:HdR,(⟨w,h,⟨wv,lv,kd,false,hf,d⟩,a,b,c⟩:HdR)=H:=⟨_,rfl⟩
 have hgr:H.s.gr=false:=by rw[<-hHe]
 have m0:=hRm 0 hE
 have m1:=hRm 1 hE
 have m2:=hRm 2 hE
 rw[hR0,hHd,hHe]at m0
 rw[hR1,hHd,hHe]at m1
 rw[hR2,hHd,hHe]at m2
 rw[hHe]at hsE hsi
 obtain⟨TL,hTL⟩:∃ t,(rows.map (·.2)).tail=t:=⟨_,rfl⟩
 rw[hTL]at m0 m1 m2 hsE
 have hsI:shE (rows.map (·.2))=0->shI (rows.map (·.2))=H.bI TL:=fun h=>by unfold shI;rw[if_pos h,hHd,hHe,hTL]
 have hCe:∀ L0 L1 L2,CmA.e ⟨⟨w,h,⟨wv,lv,kd,false,hf,d⟩,a,b,c⟩,L0,R0,L1,R1,L2,R2⟩=H.dEs TL:=fun L0 L1 L2=>by
  rw[hHe]
  unfold CmA.e CmA.cs HdR.dEs
  simp only[hgr,m0,m1,m2]
  rfl
 have hCn:∀ L0 L1 L2,CmA.n ⟨⟨w,h,⟨wv,lv,kd,false,hf,d⟩,a,b,c⟩,L0,R0,L1,R1,L2,R2⟩=if H.dEs TL=0 then 3 else 0:=fun L0 L1 L2=>by
  unfold CmA.n
  rw[hCe]
  rfl
 obtain⟨D,hD⟩:∃ d,H.dEs TL=d:=⟨_,rfl⟩
 rw[hD]at hsE
 simp only[hD]at hCe hCn
 by_cases h1:D=0
 rotate_left
 ·rw[fstE_ne _ h1]at hsE
  have hI:=hbad D hsE h1
  simp only[if_neg h1]at hCn
  rw[<-hHe]at hsi
  simp -implicitDefEqProofs only[push_cast,zz,seval,ir19,fs65,hwf,hcs,hE,hH,hR0,hR1,hR2,fs66,hsi,hw0,hw1,hw2,hCe,hCn,h1,esz,rcN]
  intro X X1 X2
  repeat refine om_ ?_
  refine postF.mk' (fun _=>nilLoc) [some 0,none,none,none] ?_
  simp -implicitDefEqProofs only[push_cast,zz,seval,fs19,hcs,hsE,hI,i0,imV,imN,h1,lx]
 subst h1
 simp only[if_true]at hCn
 rw[fstE_0]at hsE
 obtain⟨PP,hPPd⟩:∃ f,(fun k=>HdR.pc ⟨w,h,⟨wv,lv,kd,false,hf,d⟩,a,b,c⟩ (CmA.cs ⟨⟨w,h,⟨wv,lv,kd,false,hf,d⟩,a,b,c⟩,nilLoc,R0,nilLoc,R1,nilLoc,R2⟩ k) k)=f:=⟨_,rfl⟩
 have hPP:∀ L0 L1 L2,(fun k=>HdR.pc ⟨w,h,⟨wv,lv,kd,false,hf,d⟩,a,b,c⟩ (CmA.cs ⟨⟨w,h,⟨wv,lv,kd,false,hf,d⟩,a,b,c⟩,L0,R0,L1,R1,L2,R2⟩ k) k)=PP:=fun _ _ _=>hPPd
 have p0:PP 0=H.dP TL 0:=by rw[<-hPPd,hHe];show H.pc (R0.map (·.2)) 0=_;rw[m0];rfl
 have p1:PP 1=H.dP TL 1:=by rw[<-hPPd,hHe];show H.pc (R1.map (·.2)) 1=_;rw[m1];rfl
 have p2:PP 2=H.dP TL 2:=by rw[<-hPPd,hHe];show H.pc (R2.map (·.2)) 2=_;rw[m2];rfl
 have l0:(H.dP TL 0).xs.length<=140737488355328:=decP_le _ _ _ _ _ _
 have l1:(H.dP TL 1).xs.length<=140737488355328:=decP_le _ _ _ _ _ _
 have l2:(H.dP TL 2).xs.length<=140737488355328:=decP_le _ _ _ _ _ _
 have hiEs:H.iEs TL=fstE (H.iE (H.dP TL 0)) (fstE (H.iE (H.dP TL 1)) (fstE (H.iE (H.dP TL 2)) 0)):=by
  unfold HdR.iEs
  rw[hgr,fstE_r]
  rfl
 have s0:H.pl TL 0=H.iP 0 (H.dP TL 0):=rfl
 have s1:H.pl TL 1=H.iP 1 (H.dP TL 1):=rfl
 have s2:H.pl TL 2=H.iP 2 (H.dP TL 2):=rfl
 have hbI:H.bI TL=backI (H.bk TL):=by unfold HdR.bI;rw[hgr];rfl
 have hbE:H.bE TL=if (H.bk TL).Ok then 0 else if (H.bk TL).planes then 2 else 70:=by unfold HdR.bE;rw[hgr];rfl
 have hbk:H.bk TL=⟨⟨H.pl TL 0,nilLoc⟩,⟨H.pl TL 1,nilLoc⟩,⟨H.pl TL 2,nilLoc⟩⟩:=rfl
 obtain⟨⟨u0,v0,x0⟩,P0⟩:∃ p,H.dP TL 0=p:=⟨_,rfl⟩
 obtain⟨⟨u1,v1,x1⟩,P1⟩:∃ p,H.dP TL 1=p:=⟨_,rfl⟩
 obtain⟨⟨u2,v2,x2⟩,P2⟩:∃ p,H.dP TL 2=p:=⟨_,rfl⟩
 rw[P0]at p0 l0 hiEs s0
 rw[P1]at p1 l1 hiEs s1
 rw[P2]at p2 l2 hiEs s2
 have t0:=iP_le H 0 l0
 have t1:=iP_le H 1 l1
 have t2:=iP_le H 2 l2
 rw[<-s0]at t0
 rw[<-s1]at t1
 rw[<-s2]at t2
 have hrc3:∀ N,rcN PP N 3=[[.int .i64 u0,.int .i64 v0,.row (N 0) .i64 x0],[.int .i64 u1,.int .i64 v1,.row (N 1) .i64 x1],[.int .i64 u2,.int .i64 v2,.row (N 2) .i64 x2]]:=fun N=>by
  have e:rcN PP N 3=[prc (PP 0) (N 0),prc (PP 1) (N 1),prc (PP 2) (N 2)]:=rfl
  rw[e,p0,p1,p2]
  rfl
 have hIe:∀ a0 n0 a1 n1 a2 n2 L M0 M1 M2,IwA.e ⟨⟨w,h,⟨wv,lv,kd,false,hf,d⟩,a,b,c⟩,a0,n0,a1,n1,a2,n2,L,[(⟨u0,v0,x0⟩,M0),(⟨u1,v1,x1⟩,M1),(⟨u2,v2,x2⟩,M2)]⟩=H.iEs TL:=fun _ _ _ _ _ _ _ _ _ _=>by
  rw[hHe,hiEs]
  rfl
 have hIn:∀ a0 n0 a1 n1 a2 n2 L M0 M1 M2,IwA.n ⟨⟨w,h,⟨wv,lv,kd,false,hf,d⟩,a,b,c⟩,a0,n0,a1,n1,a2,n2,L,[(⟨u0,v0,x0⟩,M0),(⟨u1,v1,x1⟩,M1),(⟨u2,v2,x2⟩,M2)]⟩=if H.iEs TL=0 then 3 else 0:=fun _ _ _ _ _ _ _ _ _ _=>by
  unfold IwA.n
  rw[hIe]
  rfl
 have hps:∀ M0 M1 M2:Xf.Loc,psOk [(⟨u0,v0,x0⟩,M0),(⟨u1,v1,x1⟩,M1),(⟨u2,v2,x2⟩,M2)]:=fun M0 M1 M2 q hq=>by
  simp only[List.mem_cons,List.not_mem_nil,or_false]at hq
  rcases hq with rfl | rfl | rfl
  ·exact l0
  ·exact l1
  ·exact l2
 obtain⟨QQ,hQQd⟩:∃ f,(fun k=>HdR.iP ⟨w,h,⟨wv,lv,kd,false,hf,d⟩,a,b,c⟩ k (psP [(⟨u0,v0,x0⟩,nilLoc),(⟨u1,v1,x1⟩,nilLoc),(⟨u2,v2,x2⟩,nilLoc)] k))=f:=⟨_,rfl⟩
 have hQQ:∀ M0 M1 M2,(fun k=>HdR.iP ⟨w,h,⟨wv,lv,kd,false,hf,d⟩,a,b,c⟩ k (psP [(⟨u0,v0,x0⟩,M0),(⟨u1,v1,x1⟩,M1),(⟨u2,v2,x2⟩,M2)] k))=QQ:=fun M0 M1 M2=>by rw[psP_3];exact hQQd
 have q0:QQ 0=H.pl TL 0:=by rw[<-hQQd,hHe,s0];rfl
 have q1:QQ 1=H.pl TL 1:=by rw[<-hQQd,hHe,s1];rfl
 have q2:QQ 2=H.pl TL 2:=by rw[<-hQQd,hHe,s2];rfl
 obtain⟨⟨w0,g0,y0⟩,Q0⟩:∃ p,H.pl TL 0=p:=⟨_,rfl⟩
 obtain⟨⟨w1,g1,y1⟩,Q1⟩:∃ p,H.pl TL 1=p:=⟨_,rfl⟩
 obtain⟨⟨w2,g2,y2⟩,Q2⟩:∃ p,H.pl TL 2=p:=⟨_,rfl⟩
 rw[Q0]at q0 t0 hbk
 rw[Q1]at q1 t1 hbk
 rw[Q2]at q2 t2 hbk
 have hrq3:∀ N,rcN QQ N 3=[[.int .i64 w0,.int .i64 g0,.row (N 0) .i64 y0],[.int .i64 w1,.int .i64 g1,.row (N 1) .i64 y1],[.int .i64 w2,.int .i64 g2,.row (N 2) .i64 y2]]:=fun N=>by
  have e:rcN QQ N 3=[prc (QQ 0) (N 0),prc (QQ 1) (N 1),prc (QQ 2) (N 2)]:=rfl
  rw[e,q0,q1,q2]
  rfl
 have hsm:∀ M0 M1 M2,Bk.small ⟨⟨⟨w0,g0,y0⟩,M0⟩,⟨⟨w1,g1,y1⟩,M1⟩,⟨⟨w2,g2,y2⟩,M2⟩⟩:=fun _ _ _=>⟨t0,t1,t2⟩
 have hlen:([(⟨u0,v0,x0⟩,nilLoc),(⟨u1,v1,x1⟩,nilLoc),(⟨u2,v2,x2⟩,nilLoc)]:List (Pl×Xf.Loc)).length=3:=rfl
 have ra:∀ (x y z q:List RC),(recAt 0 q [x,y,z]=x/\recAt 1 q [x,y,z]=y)/\recAt 2 q [x,y,z]=z:=fun _ _ _ _=>⟨⟨rfl,rfl⟩,rfl⟩
 have cs0:∀ xs:List Int,sub xs 0 (xs.length:Int)=xs:=fun xs=>by unfold sub;simp
 rw[hbk]at hbE hbI
 clear hbk hiEs m0 m1 m2 hRm hRw s0 s1 s2
 obtain⟨D2,hD2⟩:∃ e,H.iEs TL=e:=⟨_,rfl⟩
 rw[hD2]at hsE
 simp only[hD2]at hIe hIn
 by_cases h2:D2=0
 rotate_left
 ·rw[fstE_ne _ h2]at hsE
  have hI:=hbad D2 hsE h2
  simp only[if_neg h2]at hIn
  rw[<-hHe]at hsi
  simp -implicitDefEqProofs only[push_cast,zz,seval,ir19,fs65,hwf,hcs,hE,hH,hR0,hR1,hR2,fs66,hsi,hw0,hw1,hw2,hCe,hCn,hPP,hrc3,fs67,hIe,hIn,hps,h2,esz,rcN,prq,prc]
  intro X X1 X2
  repeat refine om_ ?_
  intro X3
  repeat refine om_ ?_
  refine postF.mk' (fun _=>nilLoc) [some 0,none,none,none] ?_
  simp -implicitDefEqProofs only[push_cast,zz,seval,fs19,hcs,hsE,hI,i0,imV,imN,h2,lx]
 subst h2
 simp only[if_true]at hIn
 rw[fstE_0,hbE]at hsE
 rw[<-hHe]at hsi
 obtain⟨hOk,hPl,hBI⟩:(∀ M0 M1 M2,Bk.Ok ⟨⟨⟨w0,g0,y0⟩,M0⟩,⟨⟨w1,g1,y1⟩,M1⟩,⟨⟨w2,g2,y2⟩,M2⟩⟩=Bk.Ok ⟨⟨⟨w0,g0,y0⟩,nilLoc⟩,⟨⟨w1,g1,y1⟩,nilLoc⟩,⟨⟨w2,g2,y2⟩,nilLoc⟩⟩)/\(∀ M0 M1 M2,Bk.planes ⟨⟨⟨w0,g0,y0⟩,M0⟩,⟨⟨w1,g1,y1⟩,M1⟩,⟨⟨w2,g2,y2⟩,M2⟩⟩=Bk.planes ⟨⟨⟨w0,g0,y0⟩,nilLoc⟩,⟨⟨w1,g1,y1⟩,nilLoc⟩,⟨⟨w2,g2,y2⟩,nilLoc⟩⟩)/\(∀ M0 M1 M2,backI ⟨⟨⟨w0,g0,y0⟩,M0⟩,⟨⟨w1,g1,y1⟩,M1⟩,⟨⟨w2,g2,y2⟩,M2⟩⟩=backI ⟨⟨⟨w0,g0,y0⟩,nilLoc⟩,⟨⟨w1,g1,y1⟩,nilLoc⟩,⟨⟨w2,g2,y2⟩,nilLoc⟩⟩):=⟨fun _ _ _=>rfl,fun _ _ _=>rfl,fun _ _ _=>rfl⟩
 obtain⟨I,hIv⟩:∃ i,backI ⟨⟨⟨w0,g0,y0⟩,nilLoc⟩,⟨⟨w1,g1,y1⟩,nilLoc⟩,⟨⟨w2,g2,y2⟩,nilLoc⟩⟩=i:=⟨_,rfl⟩
 rw[hIv]at hbI
 simp only[hIv]at hBI
 by_cases hk:Bk.Ok ⟨⟨⟨w0,g0,y0⟩,nilLoc⟩,⟨⟨w1,g1,y1⟩,nilLoc⟩,⟨⟨w2,g2,y2⟩,nilLoc⟩⟩
 ·rw[if_pos hk]at hsE
  have hI:shI (rows.map (·.2))=I:=(hsI hsE).trans hbI
  have hk2:∀ M0 M1 M2,Bk.Ok ⟨⟨⟨w0,g0,y0⟩,M0⟩,⟨⟨w1,g1,y1⟩,M1⟩,⟨⟨w2,g2,y2⟩,M2⟩⟩:=fun M0 M1 M2=>by rw[hOk];exact hk
  simp -implicitDefEqProofs only[push_cast,zz,seval,ir19,fs65,hwf,hcs,hE,hH,hR0,hR1,hR2,fs66,hsi,hw0,hw1,hw2,hCe,hCn,hPP,hrc3,fs67,hIe,hIn,hps,hQQ,hrq3,ra,fs47,hsm,hk2,hBI,esz,cs0,prq,prc]
  intro X X1 X2 X3 X4
  refine postF.mk' (fun j=>X4 9 (27+j)) [some 0,some 27,some 28,some 29] ?_
  simp -implicitDefEqProofs only[push_cast,zz,seval,fs19,hcs,hsE,hI,imV,imN,lx,if_true]
 ·rw[if_neg hk]at hsE
  obtain rfl:im0=I:=by rw[<-hIv];exact(if_neg hk).symm
  have hk2:∀ M0 M1 M2,¬ Bk.Ok ⟨⟨⟨w0,g0,y0⟩,M0⟩,⟨⟨w1,g1,y1⟩,M1⟩,⟨⟨w2,g2,y2⟩,M2⟩⟩:=fun M0 M1 M2=>by rw[hOk];exact hk
  by_cases hp:Bk.planes ⟨⟨⟨w0,g0,y0⟩,nilLoc⟩,⟨⟨w1,g1,y1⟩,nilLoc⟩,⟨⟨w2,g2,y2⟩,nilLoc⟩⟩
  ·have hp2:∀ M0 M1 M2,Bk.planes ⟨⟨⟨w0,g0,y0⟩,M0⟩,⟨⟨w1,g1,y1⟩,M1⟩,⟨⟨w2,g2,y2⟩,M2⟩⟩:=fun M0 M1 M2=>by rw[hPl];exact hp
   rw[if_pos hp]at hsE
   have hI:=hbad 2 hsE (by decide)
   simp -implicitDefEqProofs only[push_cast,zz,seval,ir19,fs65,hwf,hcs,hE,hH,hR0,hR1,hR2,fs66,hsi,hw0,hw1,hw2,hCe,hCn,hPP,hrc3,fs67,hIe,hIn,hps,hQQ,hrq3,ra,fs47,hsm,hk2,hp2,i0,hBI,esz,cs0,prq,prc]
   intro X X1 X2 X3 X4
   refine postF.mk' (fun _=>nilLoc) [some 0,none,none,none] ?_
   simp -implicitDefEqProofs only[push_cast,zz,seval,fs19,hcs,hsE,hI,i0,imV,imN,lx]
  ·have hp2:∀ M0 M1 M2,¬ Bk.planes ⟨⟨⟨w0,g0,y0⟩,M0⟩,⟨⟨w1,g1,y1⟩,M1⟩,⟨⟨w2,g2,y2⟩,M2⟩⟩:=fun M0 M1 M2=>by rw[hPl];exact hp
   rw[if_neg hp]at hsE
   have hI:=hbad 70 hsE (by decide)
   simp -implicitDefEqProofs only[push_cast,zz,seval,ir19,fs65,hwf,hcs,hE,hH,hR0,hR1,hR2,fs66,hsi,hw0,hw1,hw2,hCe,hCn,hPP,hrc3,fs67,hIe,hIn,hps,hQQ,hrq3,ra,fs47,hsm,hk2,hp2,i0,hBI,esz,cs0,prq,prc]
   intro X X1 X2 X3 X4
   refine postF.mk' (fun _=>nilLoc) [some 0,none,none,none] ?_
   simp -implicitDefEqProofs only[push_cast,zz,seval,fs19,hcs,hsE,hI,i0,imV,imN,lx]
def ent19:Entry:=spOf fs19 invRq
theorem e19:EntryOk Tryz.prog 19 ent19:=entry_of ok19 invRq
@[push_cast] theorem ent19_a u l x k:ent19 u l x k=spOf fs19 invRq u l x k:=rfl
def ir13:IR:=
 .seq (r_ [o_ 0 (.mov (.k (.bool false)))] [0]) (.seq (r_ [o_ 6 (.bslice 10 [Z_ 255]),o_ 7 (.bslice 11 [Z_ 255]),o_ 8 (.bslice 12 [Z_ 255]),o_ 9 (.build [y_,y_,nilSV,nilSV,nilSV] [(0,1,Z_ 1),(1,1,Z_ 1),(2,1,.t 6),(3,1,.t 7),(4,1,.t 8)]),o_ 1 (.alloc 13 [y_,y_,nilSV,nilSV,nilSV]),s_ 5 .i64 1 9] [6,7,8,9]) (.seq (r_ [o_ 11 (.ld false (some 5) 0 0 (.t 1)),o_ 12 (.build [y_,y_,y_,.bool false,.bool false,y_] []),o_ 13 (.call (some 4) 14 14 [.t 11,.t 12]),m_ 10 13,e_ 14 10 0,e_ 15 10 1,m_ 2 14,m_ 3 15] [10,11,12,13,14,15]) (.seq (r_ [m_ 17 2,o_ 18 (.call (some 4) 18 19 [.t 17]),m_ 16 18,e_ 19 16 0,e_ 20 16 1,o_ 4 (.alloc 22 [y_,y_,nilSV,nilSV,nilSV]),s_ 5 .i64 4 19,m_ 5 20] [16,17,18,19,20]) (.seq (r_ [m_ 21 3,c_ 22 .eql 21 0,m_ 23 22,p_ 23 (m_ 24 5),p_ 23 (c_ 25 .eql 24 0),K_ 26 23 25,m_ 27 26,p_ 27 (m_ 28 2),p_ 27 (h_ 29 28),p_ 27 (c_ 30 .eql 29 9),K_ 31 27 30,m_ 32 31,p_ 32 (o_ 33 (.ld false (some 5) 0 0 (.t 4))),p_ 32 (o_ 34 (.ld false (some 5) 0 0 (.t 1))),p_ 32 (o_ 35 (.call (some 4) 23 20 [.t 33,.t 34])),K_ 36 32 35,m_ 0 36] [1,2,3,4,5,21,22,23,24,25,26,27,28,29,30,31,32,33,34,35,36]) (.ret)))))
set_option maxRecDepth 4000 in
theorem comp13:(Tryz.f13.body.bind fun c=>compC tab isP chkAll ir13 c)=some ir13:=by kernel_rfl
def wh1:Im:=⟨1,1,[255],[255],[255]⟩
def sy0:SyA:=⟨0,0,0,false,false,0⟩
theorem wh1_all:enE wh1 sy0=0/\(enL wh1 sy0).length=9/\shE (enL wh1 sy0)=0/\(shI (enL wh1 sy0)).Eq wh1/\(reH (enL wh1 sy0)).s.gr=false/\∀ c∈enL wh1 sy0,(∀ b∈c,0<=b/\b<256)/\c.length<=1000:=by decide +kernel
def fs13:FS where
 A:=Unit
 args:=fun _=>[]
 res:=fun _ _=>.bool true
set_option maxHeartbeats 1000000 in
theorem ok13:FSOk Tryz.prog 13 fs13:=by
 refine hd_ (fk_ Tryz.func13) fun a hp=>?_
 change Tri Tryz.prog 13 [] [] (postF fs13 a)
 refine tri_evS (hyp (l:=[(14,ent14),(19,ent19),(20,ent20)]) (lp:=[]) ⟨e14,e19,e20,trivial⟩ trivial) Tryz.func13 comp13 (rs:=[.tmp 0]) (by rfl) Tryz.ntmps13 27 ?_
 obtain⟨hE,hL,hS,hI,hG,hB⟩:=wh1_all
 have f1:(⟨1,1,[255],[255],[255]⟩:Im)=wh1:=rfl
 have f2:wh1.small:=⟨by decide,by decide,by decide⟩
 have f3:(⟨0,0,0,false,false,0⟩:SyA)=sy0:=rfl
 obtain⟨C,hC⟩:∃ c,enL wh1 sy0=c:=⟨_,rfl⟩
 rw[hC]at hL hS hI hG hB
 have hm:=fun f=>byOf_map f C
 have hml:=fun f=>byL_len f C
 have hcs:∀ L f,RqA.cs ⟨L,byL f C⟩=C:=fun L f=>byL_snd f C
 have hwf:∀ f,rowsWf (byL f C):=fun f=>⟨by rw[byL_len,hL];decide,fun r hr=>by
  have h:=hB _ (byL_mem hr)
  exact⟨h.1,by omega⟩⟩
 obtain⟨J,hJ⟩:∃ j,shI C=j:=⟨_,rfl⟩
 rw[hJ]at hI
 have hsm:J.small:=by
  obtain⟨_,_,h1,h2,h3⟩:=hI
  unfold Im.small
  rw[h1,h2,h3]
  exact f2
 simp -implicitDefEqProofs only[push_cast,zz,seval,ir13,fs14,f1,f2,f3,hE,hC,hL,fs19,hm,hml,hcs,hwf,hG,hS,hJ,fs20,hsm,hI,lx,if_true]
 intro X X1
 refine⟨rfl,rfl,rfl,rfl,rfl,rfl,rfl,rfl,rfl,rfl,rfl,rfl,rfl,rfl,fun X2=>⟨rfl,rfl,rfl,rfl,rfl,rfl,rfl,rfl,?_⟩⟩
 refine postF.mk' (fun _=>default) [] ?_
 simp -implicitDefEqProofs only[push_cast,zz,seval,fs13]
end Go.Proofs.YtaofjnkpkocgjaaGreat
