import Derived.Test.YthicgkilfjjifaaPA1
set_option linter.unusedVariables false
set_option linter.unusedSimpArgs false
set_option maxRecDepth 1000
namespace Go.Proofs.Ythicgkilfjjifaa
open Xf
theorem plsD_inv (f:List Int) (t:Int) (t0:0≤t) (t1:t≤30) (on:Bool):∀ (l:List Int) (s:StS) (d:DeS) (n:Nat),stWf s n→szWf s→d.ok→d.st.length = 12→(∀ x ∈ l,0≤x∧x < n) →
    sameS (plsG getG f t on l s d).1 s∧szWf (plsG getG f t on l s d).1∧deAft d (plsG getG f t on l s d).2.1
  | [],s,e,n,hs,hz,he,h12,hl => ⟨sameS.refl s,hz,he,rfl,rfl,rfl⟩
  | i :: l,s,e,n,hs,hz,he,h12,hl => by
    have hi:=hl i List.mem_cons_self
    have h1:=numG_same getG s e i t on (digP f i t) (decide (rd f i < 0))
    have h2:=numG_sz getG e on (digP f i t) (decide (rd f i < 0)) hz hi.1 (by have:=hs.1; omega) t0 t1
    have h3:=numD_aft s i t on (digP f i t) (decide (rd f i < 0)) he h12
    rw [plsG]
    split
    · obtain ⟨k1,k2,k3⟩:=plsD_inv f t t0 t1 on l _ _ n (h1.wf hs) h2 h3.1 (by rw [h3.2.1,h12]) (fun x hx => hl x (List.mem_cons_of_mem _ hx))
      exact ⟨k1.trans h1,k2,h3.trans k3⟩
    · exact ⟨h1,h2,h3⟩
theorem bktG_get (f:List Int) (t:Int) (i:Nat) (s:StS) (d:DeS):bktG getG f t i s d = if allP s (rdBk s.list i).b.places = true then plsG getG f t false (rdBk s.list i).b.places (setOn s i false) d
  else if gotE d (bctxP (setOn s i false) (rdBk s.list i).b) = 0 then
    plsG getG f t (decide (gotB d (bctxP (setOn s i false) (rdBk s.list i).b) = 1)) (rdBk s.list i).b.places (setOn s i (decide (gotB d (bctxP (setOn s i false) (rdBk s.list i).b) = 1))) (gotS d (bctxP (setOn s i false) (rdBk s.list i).b))
  else (setOn s i false,gotS d (bctxP (setOn s i false) (rdBk s.list i).b),gotE d (bctxP (setOn s i false) (rdBk s.list i).b)):=rfl
theorem bktD_inv (f:List Int) (t:Int) (t0:0≤t) (t1:t≤30) (i:Nat) (s:StS) (d:DeS) (n:Nat) (hs:stWf s n) (hz:szWf s) (he:d.ok) (h12:d.st.length = 12) (hi:i < s.list.length) :
    simS (bktG getG f t i s d).1 s∧szWf (bktG getG f t i s d).1∧deAft d (bktG getG f t i s d).2.1:=by
  obtain ⟨b1,b2,b3,b4⟩:=hs.2.2.2.2.2.2.2.2.2.2 _ (by rw [rdBk_nat hi]; exact List.getElem_mem hi:rdBk s.list i ∈ s.list)
  rw [bktG_get]
  split
  · obtain ⟨k1,k2,k3⟩:=plsD_inv f t t0 t1 false (rdBk s.list i).b.places (setOn s i false) d n (setOn_wf hi hs) hz he h12 b4
    exact ⟨simS.same k1 ((simS.refl s).on hi false),k2,k3⟩
  · have hp:=gotAft he h12 (bctxP_bd (setOn s i false) (rdBk s.list i).b)
    split
    · obtain ⟨k1,k2,k3⟩:=plsD_inv f t t0 t1 (decide (gotB d (bctxP (setOn s i false) (rdBk s.list i).b) = 1)) (rdBk s.list i).b.places (setOn s i (decide (gotB d (bctxP (setOn s i false) (rdBk s.list i).b) = 1))) _ n (setOn_wf hi hs) hz hp.1 (by rw [hp.2.1,h12]) b4
      exact ⟨simS.same k1 ((simS.refl s).on hi _),k2,hp.trans k3⟩
    · exact ⟨(simS.refl s).on hi _,hz,hp⟩
theorem slcD_inv (f:List Int) (t:Int) (t0:0≤t) (t1:t≤30) (n:Nat):∀ (k i:Nat) (s:StS) (d:DeS),stWf s n→szWf s→d.ok→d.st.length = 12→i + k = s.list.length →
    ((slcG getG f t k i s d).2.2 = 0→simS (slcG getG f t k i s d).1 { s with now:=s.now + 1 })∧szWf (slcG getG f t k i s d).1∧deAft d (slcG getG f t k i s d).2.1
  | 0,i,s,d,hs,hz,he,h12,hik => ⟨fun _ => simS.refl _,hz,he,rfl,rfl,rfl⟩
  | k + 1,i,s,d,hs,hz,he,h12,hik => by
    obtain ⟨k1,k2,k3⟩:=bktD_inv f t t0 t1 i s d n hs hz he h12 (by omega)
    rw [slcG]
    split
    · obtain ⟨j1,j2,j3⟩:=slcD_inv f t t0 t1 n k (i + 1) _ _ (k1.wf hs) k2 k3.1 (by rw [k3.2.1,h12]) (by rw [k1.2.2.2.2.1.len]; omega)
      refine ⟨fun h => (j1 h).trans ?_,j2,k3.trans j3⟩
      obtain ⟨h1,h2,h3,h4,h5,h6,h7,h8,h9⟩:=k1
      exact ⟨h1,h2,h3,by simp only; rw [h4],h5,h6,h7,h8,h9⟩
    · rename_i hne
      exact ⟨fun h => absurd h hne,k2,k3⟩
theorem slD_len (f:List Int) (t:Int):∀ (k i:Nat) (s:StS) (d:DeS),(slcG getG f t k i s d).2.1.code = d.code:=by
  have hp:∀ on l s d,(plsG getG f t on l s d).2.1.code = d.code:=fun on l => by
    induction l with
    | nil => intro s d; rfl
    | cons i l ih =>
      intro s d
      have:=(numD_len s d i t on (digP f i t) (decide (rd f i < 0))).2
      rw [plsG]
      split
      · rw [ih,this]
      · exact this
  intro k
  induction k with
  | zero => intro i s d; rfl
  | succ k ih =>
    intro i s d
    have hb:(bktG getG f t i s d).2.1.code = d.code:=by
      rw [bktG_get]
      split
      · rw [hp]
      · split
        · rw [hp,(gotS_len _ _).2.1]
        · exact (gotS_len _ _).2.1
    rw [slcG]
    split
    · rw [ih,hb]
    · exact hb
theorem slD_rows (a:SqA) (x:Nat→Xf.Loc):rowsOk fs27D a x:=by
  have k1:=slcG_k getG a.f a.t a.s.list.length 0 a.s a.d
  refine .inr ⟨fun j L ch h => .inl ?_,fun c ch h => ?_⟩
  · simp [fs27D] at h
  · rcases c with _ | _ | _ | _ | _ | _ | _ | _ | _ | c
    all_goals simp [fs27D,lk] at h
    all_goals subst h
    · exact .inl rfl
    · exact .inl rfl
    · exact .inl rfl
    · exact .inl rfl
    · exact .inr fun y hy => .inr ⟨_,rfl,rows_sameK k1 hy⟩
    · exact .inl rfl
    · exact .inl rfl
set_option maxHeartbeats 4000000 in
theorem ok27D:FSOk Try.prog 27 fs27D:=by
  refine ⟨⟨_,Try.func27,by kernel_rfl,by kernel_rfl⟩,fun a => ⟨by simp [fs27D,sqM,push_cast,noMine,argOwn,Chunk.frArg],by simp [fs27D,sqM,sqR,slD_len,stV,deV,deT,ivV,push_cast,outOk,Chunk.ext],fun x => slD_rows a x⟩,fun a hp => ?_⟩
  obtain ⟨p,s0,L,LS,LC,LX,d0,F,f,t⟩:=a
  obtain ⟨h1,h2,h3,h4,h6,h7,h8⟩:sqOk s0 d0 f t:=hp
  obtain ⟨n,hn⟩:∃ n,s0.since.length = n:=⟨_,rfl⟩
  rw [hn] at h1 h6
  have hfl:=h6.1
  have hR0:sqR ⟨p,s0,L,LS,LC,LX,d0,F,f,t⟩ = slcG getG f t s0.list.length 0 s0 d0:=rfl
  obtain ⟨R,hR⟩:∃ R,sqR ⟨p,s0,L,LS,LC,LX,d0,F,f,t⟩ = R:=⟨_,rfl⟩
  rw [hR] at hR0
  obtain ⟨size0,minus0,since0,now,list0,kind,nst,band,w⟩:=s0
  obtain ⟨dk0,dst0,dlo0,dhi0,code,dat0,dvv0,dbe0,den0⟩:=d0
  obtain ⟨o1,o2,o3,o4,o5,o6,o7,o8,o9,o10,o11⟩:=id h1
  simp only at o1 o2 o3 o4 o5 o6 o7 o8 o9 o10 o11 hR0 h4
  obtain ⟨m,hm⟩:∃ m,list0.length = m:=⟨_,rfl⟩
  rw [hm] at hR0
  have hb64:=bits_i64
  change Tri Try.prog 27 [.ptr 0 p.L 0 0 0,.int .i64 t,.sl 11 F 1 0 f.length,.fn 28 [.ptr 10 LX 0 0 0]] (sqM ⟨p,⟨size0,minus0,since0,now,list0,kind,nst,band,w⟩,L,LS,LC,LX,⟨dk0,dst0,dlo0,dhi0,code,dat0,dvv0,dbe0,den0⟩,F,f,t⟩) (postF fs27D ⟨p,⟨size0,minus0,since0,now,list0,kind,nst,band,w⟩,L,LS,LC,LX,⟨dk0,dst0,dlo0,dhi0,code,dat0,dvv0,dbe0,den0⟩,F,f,t⟩)
  refine tri_evS (hyp (l:=[(58,ent58),(60,ent60),(28,ent28),(63,ent63D)]) (lp:=[]) ⟨e58,e60,e28,e63D,trivial⟩ trivial) Try.func27 comp27 (rs:=[.tmp 8]) (by rfl) Try.ntmps27 43 ?_
  have he4:(k:Nat)→k < m→esz 4 m = 4:=fun k hk => esz_pos (by omega)
  simp -implicitDefEqProofs only [push_cast,zz,BEq.rfl,ite_true,ite_false,List.append_nil,reduceCtorEq,Nat.reduceAdd,Nat.reduceSub,Nat.reduceMul,Nat.reduceLeDiff,Nat.reduceLT,Nat.reduceEqDiff,Nat.reduceBEq,Nat.reduceBNe,Int.reduceNeg,Int.reduceToNat,ir27,sqM,stV,deV,deT,ivV,o1,o2,o3,o4,h4,hm]
  intro X
  refine evS_loopU (A:=Nat × StS × DeS) kp27_1 kl27_1 (fun y => [(25,.int .i64 y.1)])
    (fun y => [(1,.lent,p.Z,.ints .i64 y.2.1.size),(2,.lent,p.M,.bools y.2.1.minus),(3,.lent,p.I,.ints .i64 y.2.1.since),(4,.lent,p.K,.recs 4 false [] (y.2.1.list.map Bck.rc)),(7,.lent,L,.cells (relabs (fun i => i + 7) (deV LS y.2.2 LC))),(8,.lent,LS,.ints .i64 y.2.2.st)])
    (fun y => y.1≤m∧slcG getG f t (m - y.1) y.1 y.2.1 y.2.2 = R∧simS y.2.1 ⟨size0,minus0,since0,now,list0,kind,nst,band,w⟩∧szWf y.2.1∧deAft ⟨dk0,dst0,dlo0,dhi0,code,dat0,dvv0,dbe0,den0⟩ y.2.2) (fun y => m - y.1) (0,⟨size0,minus0,since0,now,list0,kind,nst,band,w⟩,⟨dk0,dst0,dlo0,dhi0,code,dat0,dvv0,dbe0,den0⟩) ⟨Nat.zero_le _,hR0.symm,simS.refl _,h2,h3,rfl,rfl,rfl⟩ (Sub.pt ?_) ?_
  · simp -implicitDefEqProofs only [push_cast,zz,BEq.rfl,ite_true,ite_false,List.append_nil,reduceCtorEq,Nat.reduceAdd,Nat.reduceSub,Nat.reduceMul,Nat.reduceLeDiff,Nat.reduceLT,Nat.reduceEqDiff,Nat.reduceBEq,Nat.reduceBNe,Int.reduceNeg,Int.reduceToNat,deV,deT,ivV,o1,o2,o3,o4,hm,h4]
  intro ⟨i,s,d⟩ ⟨(hi:i≤m),(hs:slcG getG f t (m - i) i s d = R),(hsim:simS s _),(hz:szWf s),(haft:deAft _ d)⟩ K hK
  have hwf:=hsim.wf h1
  obtain ⟨size,minus,since,now',list,kind',nst',band',w'⟩:=s
  obtain ⟨rfl,rfl,rfl,rfl,rfl⟩:now' = now∧kind' = kind∧nst' = nst∧band' = band∧w' = w:=⟨hsim.2.2.2.1,hsim.2.2.2.2.2⟩
  have hlm:list.length = m:=by rw [← hm]; exact hsim.2.2.2.2.1.len
  obtain ⟨dk,dst,dlo,dhi,code',dat,dvv,dbe,den⟩:=d
  obtain rfl:code = code':=haft.2.2.2.symm
  have hdst:dst.length = 12:=haft.2.1.trans h4
  obtain ⟨p1,p2,p3,p4,p5,p6,p7,p8,p9,p10,p11⟩:=id hwf
  simp only at p1 p2 p3 p8 p9 p11
  have ho8:m≤50000:=by omega
  by_cases hi':i < m
  · have hii:(i:Int) < m:=by omega
    have he4':=he4 i hi'
    have rk:=recAt_Bk (l:=list) (i:=i) (by omega) []
    have hmapl:(list.map Bck.rc).length = m:=by rw [List.length_map,hlm]
    have hset0:=(onBk_rc (l:=list) (i:=i) false).symm
    have hsetl:(onBk list i false).length = m:=by rw [onBk_len,hlm]
    have hkat:=onBk_at (l:=list) (i:=i) (by omega) false
    have rk1:=recAt_Bk (l:=onBk list i false) (i:=i) (by omega) []
    have hset1:=fun v => (onBk_rc (l:=onBk list i false) (i:=i) v).symm.trans (by rw [onBk_on (by omega)])
    have hwf1:=setOn_wf (s:=⟨size,minus,since,now',list,kind',nst',band',w'⟩) (b:=false) (show i < list.length by omega) hwf
    have hbki:=p11 _ (by rw [rdBk_nat (show i < list.length by omega)]; exact List.getElem_mem _:rdBk list i ∈ list)
    simp only [setOn] at hwf1
    obtain ⟨⟨L',⟨pl,bw,q⟩,on'⟩,hbk⟩:∃ b,rdBk list i = b:=⟨_,rfl⟩
    rw [hbk] at rk hset0 hkat hbki
    rw [hkat] at rk1 hset1
    simp only at hbki
    obtain ⟨l1,hl1⟩:∃ l,onBk list i false = l:=⟨_,rfl⟩
    obtain ⟨B,hB⟩:∃ B,bktG getG f t i ⟨size,minus,since,now',list,kind',nst',band',w'⟩ ⟨dk,dst,dlo,dhi,code,dat,dvv,dbe,den⟩ = B:=⟨_,rfl⟩
    have hbg:=bktG_get f t i ⟨size,minus,since,now',list,kind',nst',band',w'⟩ ⟨dk,dst,dlo,dhi,code,dat,dvv,dbe,den⟩
    simp only [hbk,hB,setOn,hl1] at hbg
    rw [hl1] at hset0 hsetl rk1 hset1 hwf1
    have hbi:=bktD_inv f t h7 h8 i ⟨size,minus,since,now',list,kind',nst',band',w'⟩ ⟨dk,dst,dlo,dhi,code,dat,dvv,dbe,den⟩ n hwf hz haft.1 hdst (by simp only; omega)
    rw [show m - i = (m - (i + 1)) + 1 by omega,slcG,hB] at hs
    rw [hB] at hbi
    have b4:=hbki.2.2.2
    have hml1:(l1.map Bck.rc).length = m:=by rw [List.length_map,hsetl]
    by_cases hall:allP ⟨size,minus,since,now',list,kind',nst',band',w'⟩ pl = true
    · have hall':allP ⟨size,minus,since,now',l1,kind',nst',band',w'⟩ pl = true:=hall
      rw [if_pos hall] at hbg
      simp -implicitDefEqProofs only [push_cast,zz,BEq.rfl,ite_true,ite_false,List.append_nil,reduceCtorEq,Nat.reduceAdd,Nat.reduceSub,Nat.reduceMul,Nat.reduceLeDiff,Nat.reduceLT,Nat.reduceEqDiff,Nat.reduceBEq,Nat.reduceBNe,Int.reduceNeg,Int.reduceToNat,b27_1,stM,stV,deV,deT,ivV,hii,rk,rk1,Bck.rc,hset0,hmapl,hml1,he4',Int.toNat_natCast,fs60,Bck.sv,p1,p2,p3,o4,hsetl,hdst,hwf1,bkWf,hbki,hall']
      intro X1
      repeat (refine And.intro (by first | omega | trivial | (intros; omega)) ?_)
      refine evS_loopU (A:=Nat × StS × DeS) kp27_2 kl27_2 (fun y => [(65,.int .i64 y.1)])
        (fun y => [(1,.lent,p.Z,.ints .i64 y.2.1.size),(2,.lent,p.M,.bools y.2.1.minus),(3,.lent,p.I,.ints .i64 y.2.1.since),(7,.lent,L,.cells (relabs (fun i => i + 7) (deV LS y.2.2 LC))),(8,.lent,LS,.ints .i64 y.2.2.st)])
        (fun y => y.1≤pl.length∧plsG getG f t false (pl.drop y.1) y.2.1 y.2.2 = B∧sameS y.2.1 ⟨size,minus,since,now',l1,kind',nst',band',w'⟩∧szWf y.2.1∧deAft ⟨dk,dst,dlo,dhi,code,dat,dvv,dbe,den⟩ y.2.2) (fun y => pl.length - y.1) (0,⟨size,minus,since,now',l1,kind',nst',band',w'⟩,⟨dk,dst,dlo,dhi,code,dat,dvv,dbe,den⟩) ⟨Nat.zero_le _,hbg.symm,sameS.refl _,hz,⟨haft.1,rfl,rfl,rfl⟩⟩ (Sub.pt ?_) ?_
      · simp -implicitDefEqProofs only [push_cast,zz,BEq.rfl,ite_true,ite_false,List.append_nil,reduceCtorEq,Nat.reduceAdd,Nat.reduceSub,Nat.reduceMul,Nat.reduceLeDiff,Nat.reduceLT,Nat.reduceEqDiff,Nat.reduceBEq,Nat.reduceBNe,Int.reduceNeg,Int.reduceToNat,deV,deT,ivV,p1,p2,p3,he4',hdst]
      intro ⟨j,s2,d2⟩ ⟨(hj:j≤pl.length),(hp2:plsG getG f t false (pl.drop j) s2 d2 = B),(hsame:sameS s2 _),(hz2:szWf s2),(haft2:deAft ⟨dk,dst,dlo,dhi,code,dat,dvv,dbe,den⟩ d2)⟩ K2 hK2
      have hwf2:stWf s2 n:=hsame.wf (by first | exact hwf1 | exact hwf2)
      obtain ⟨size2,minus2,since2,now2,list2,kind2,nst2,band2,w2⟩:=s2
      obtain ⟨rfl,rfl,rfl,rfl,rfl,rfl⟩:now' = now2∧l1 = list2∧kind' = kind2∧nst' = nst2∧band' = band2∧w' = w2:=⟨hsame.2.2.2.1.symm,hsame.2.2.2.2.1.symm,hsame.2.2.2.2.2.1.symm,hsame.2.2.2.2.2.2.1.symm,hsame.2.2.2.2.2.2.2.1.symm,hsame.2.2.2.2.2.2.2.2.symm⟩
      obtain ⟨dk2,dst2,dlo2,dhi2,code2,dat2,dvv2,dbe2,den2⟩:=d2
      obtain rfl:code = code2:=haft2.2.2.2.symm
      have hdst2:dst2.length = 12:=haft2.2.1.trans hdst
      have q1:size2.length = n:=hwf2.1
      have q2:minus2.length = n:=hwf2.2.1
      have q3:since2.length = n:=hwf2.2.2.1
      by_cases hj':j < pl.length
      · have hji:(j:Int) < pl.length:=by omega
        have hx:=b4 _ (rd_mem hj')
        have hcons:=plsG_cons getG f t false hj' ⟨size2,minus2,since2,now',l1,kind',nst',band',w'⟩ ⟨dk2,dst2,dlo2,dhi2,code,dat2,dvv2,dbe2,den2⟩
        rw [hp2] at hcons
        obtain ⟨x,hxx⟩:∃ x,rd pl (j:Int) = x:=⟨_,rfl⟩
        rw [hxx] at hx hcons
        rw [numG_get] at hcons
        have a1:=numG_same getG ⟨size2,minus2,since2,now',l1,kind',nst',band',w'⟩ ⟨dk2,dst2,dlo2,dhi2,code,dat2,dvv2,dbe2,den2⟩ x t false false false
        have a2:=numG_sz getG ⟨dk2,dst2,dlo2,dhi2,code,dat2,dvv2,dbe2,den2⟩ false false false hz2 hx.1 (by simp only; omega) h7 h8
        have a3:=numD_aft ⟨size2,minus2,since2,now',l1,kind',nst',band',w'⟩ x t false false false haft2.1 hdst2
        have hnuR:∀ w1 w2,ndR ⟨p,⟨size2,minus2,since2,now',l1,kind',nst',band',w'⟩,L,LS,LC,LX,⟨dk2,dst2,dlo2,dhi2,code,dat2,dvv2,dbe2,den2⟩,w1,w2,x,t,false⟩ = numG getG ⟨size2,minus2,since2,now',l1,kind',nst',band',w'⟩ ⟨dk2,dst2,dlo2,dhi2,code,dat2,dvv2,dbe2,den2⟩ x t false false false:=fun _ _ => rfl
        have hnu:ndOk ⟨size2,minus2,since2,now',l1,kind',nst',band',w'⟩ ⟨dk2,dst2,dlo2,dhi2,code,dat2,dvv2,dbe2,den2⟩ x t:=⟨by rw [q3]; exact hwf2,hz2,haft2.1,hdst2,hx.1,by rw [q3]; exact hx.2,h7,h8⟩
        obtain ⟨N,hN⟩:∃ N,numG getG ⟨size2,minus2,since2,now',l1,kind',nst',band',w'⟩ ⟨dk2,dst2,dlo2,dhi2,code,dat2,dvv2,dbe2,den2⟩ x t false false false = N:=⟨_,rfl⟩
        rw [hN] at hcons a1 a2 a3
        simp only [hN] at hnuR
        obtain ⟨⟨size3,minus3,since3,now3,list3,kind3,nst3,band3,w3⟩,⟨dk3,dst3,dlo3,dhi3,code3,dat3,dvv3,dbe3,den3⟩,er3⟩:=N
        obtain ⟨rfl,rfl,rfl,rfl,rfl,rfl⟩:now' = now3∧l1 = list3∧kind' = kind3∧nst' = nst3∧band' = band3∧w' = w3:=⟨a1.2.2.2.1.symm,a1.2.2.2.2.1.symm,a1.2.2.2.2.2.1.symm,a1.2.2.2.2.2.2.1.symm,a1.2.2.2.2.2.2.2.1.symm,a1.2.2.2.2.2.2.2.2.symm⟩
        obtain rfl:code = code3:=a3.2.2.2.symm
        have q5:size3.length = n:=a1.1.trans q1
        have q6:minus3.length = n:=a1.2.1.trans q2
        have q7:since3.length = n:=a1.2.2.1.trans q3
        have q8:dst3.length = 12:=a3.2.1.trans hdst2
        clear hK
        by_cases her:er3 = 0
        · subst her
          rw [if_pos rfl] at hcons
          simp -implicitDefEqProofs only [push_cast,zz,BEq.rfl,ite_true,ite_false,List.append_nil,reduceCtorEq,Nat.reduceAdd,Nat.reduceSub,Nat.reduceMul,Nat.reduceLeDiff,Nat.reduceLT,Nat.reduceEqDiff,Nat.reduceBEq,Nat.reduceBNe,Int.reduceNeg,Int.reduceToNat,b27_2,stM,stV,deV,deT,ivV,hji,hxx,fs58,fs63D,ndM,rk1,Bck.rc,hml1,q1,q2,q3,q5,q6,q7,q8,p1,p2,p3,o4,hsetl,he4',hdst,hdst2,Int.toNat_natCast,hnu,hnuR]
          repeat (refine And.intro (by first | omega | trivial | (intros; omega)) ?_)
          intro X2
          repeat (refine And.intro (by first | omega | trivial | (intros; omega)) ?_)
          intro X3
          repeat (refine And.intro (by first | omega | trivial | (intros; omega)) ?_)
          refine hK2 (j + 1,⟨size3,minus3,since3,now',l1,kind',nst',band',w'⟩,⟨dk3,dst3,dlo3,dhi3,code,dat3,dvv3,dbe3,den3⟩) ⟨show j + 1≤pl.length by omega,hcons.symm,a1.trans hsame,a2,haft2.trans a3⟩ (show pl.length - (j + 1) < pl.length - j by omega) _ _ (Sub.pt ?_)
          simp -implicitDefEqProofs only [push_cast,zz,BEq.rfl,ite_true,ite_false,List.append_nil,reduceCtorEq,Nat.reduceAdd,Nat.reduceSub,Nat.reduceMul,Nat.reduceLeDiff,Nat.reduceLT,Nat.reduceEqDiff,Nat.reduceBEq,Nat.reduceBNe,Int.reduceNeg,Int.reduceToNat,deV,deT,ivV,q1,q2,q3,q5,q6,q7,q8,he4',hdst]
        · rw [if_neg her] at hcons
          subst hcons
          rw [if_neg her] at hs
          subst hs
          clear hK2
          simp -implicitDefEqProofs only [push_cast,zz,BEq.rfl,ite_true,ite_false,List.append_nil,reduceCtorEq,Nat.reduceAdd,Nat.reduceSub,Nat.reduceMul,Nat.reduceLeDiff,Nat.reduceLT,Nat.reduceEqDiff,Nat.reduceBEq,Nat.reduceBNe,Int.reduceNeg,Int.reduceToNat,b27_2,stM,stV,deV,deT,ivV,hji,hxx,fs58,fs63D,ndM,rk1,Bck.rc,hml1,q1,q2,q3,q5,q6,q7,q8,p1,p2,p3,o4,hsetl,he4',hdst,hdst2,Int.toNat_natCast,hnu,hnuR,her]
          repeat (refine And.intro (by first | omega | trivial | (intros; omega)) ?_)
          intro X2
          repeat (refine And.intro (by first | omega | trivial | (intros; omega)) ?_)
          intro X3
          repeat (refine And.intro (by first | omega | trivial | (intros; omega)) ?_)
          refine postF.mk' (fun _ => default) [some 0,some 1,some 2,some 3,some 4,none,some 6,some 7,some 8,some 9,some 10,some 11] ?_
          simp -implicitDefEqProofs only [push_cast,zz,BEq.rfl,ite_true,ite_false,List.append_nil,reduceCtorEq,Nat.reduceAdd,Nat.reduceSub,Nat.reduceMul,Nat.reduceLeDiff,Nat.reduceLT,Nat.reduceEqDiff,Nat.reduceBEq,Nat.reduceBNe,Int.reduceNeg,Int.reduceToNat,fs27D,sqM,stV,deV,deT,ivV,hR,q1,q2,q3,q5,q6,q7,q8,o1,o2,o3,o4,hm,hlm,hsetl,he4',h4]
      · obtain rfl:j = pl.length:=by omega
        rw [List.drop_length,plsG] at hp2
        subst hp2
        simp only at hbi
        rw [if_pos rfl] at hs
        clear hK2
        simp -implicitDefEqProofs only [push_cast,zz,BEq.rfl,ite_true,ite_false,List.append_nil,reduceCtorEq,Nat.reduceAdd,Nat.reduceSub,Nat.reduceMul,Nat.reduceLeDiff,Nat.reduceLT,Nat.reduceEqDiff,Nat.reduceBEq,Nat.reduceBNe,Int.reduceNeg,Int.reduceToNat,b27_2,r27_3,Int.lt_irrefl]
        repeat (refine And.intro (by first | omega | trivial | (intros; omega)) ?_)
        refine hK (i + 1,⟨size2,minus2,since2,now',l1,kind',nst',band',w'⟩,⟨dk2,dst2,dlo2,dhi2,code,dat2,dvv2,dbe2,den2⟩) ⟨show i + 1≤m by omega,hs,hbi.1.trans hsim,hbi.2.1,haft.trans hbi.2.2⟩ (show m - (i + 1) < m - i by omega) _ _ (Sub.pt ?_)
        simp -implicitDefEqProofs only [push_cast,zz,BEq.rfl,ite_true,ite_false,List.append_nil,reduceCtorEq,Nat.reduceAdd,Nat.reduceSub,Nat.reduceMul,Nat.reduceLeDiff,Nat.reduceLT,Nat.reduceEqDiff,Nat.reduceBEq,Nat.reduceBNe,Int.reduceNeg,Int.reduceToNat,deV,deT,ivV,q1,q2,q3,p1,p2,p3,he4',hdst,hdst2]
    · have hall':¬ allP ⟨size,minus,since,now',l1,kind',nst',band',w'⟩ pl = true:=hall
      rw [if_neg hall] at hbg
      have hcb:=bctxP_bd ⟨size,minus,since,now',l1,kind',nst',band',w'⟩ ⟨pl,bw,q⟩
      obtain ⟨c,hcc⟩:∃ c,bctxP ⟨size,minus,since,now',l1,kind',nst',band',w'⟩ ⟨pl,bw,q⟩ = c:=⟨_,rfl⟩
      rw [hcc] at hbg hcb
      have hgot:=gotAft haft.1 hdst hcb
      obtain ⟨d1,hd1⟩:∃ d1,gotS ⟨dk,dst,dlo,dhi,code,dat,dvv,dbe,den⟩ c = d1:=⟨_,rfl⟩
      rw [hd1] at hbg hgot
      have hok:DeS.ok ⟨dk,dst,dlo,dhi,code,dat,dvv,dbe,den⟩:=haft.1
      obtain ⟨dk1,dst1,dlo1,dhi1,code1,dat1,dvv1,dbe1,den1⟩:=d1
      obtain rfl:code = code1:=hgot.2.2.2.symm
      have hdst1:dst1.length = 12:=hgot.2.1.trans hdst
      by_cases hge:gotE ⟨dk,dst,dlo,dhi,code,dat,dvv,dbe,den⟩ c = 0
      · rw [if_pos hge] at hbg
        obtain ⟨V,hV⟩:∃ V,decide (gotB ⟨dk,dst,dlo,dhi,code,dat,dvv,dbe,den⟩ c = 1) = V:=⟨_,rfl⟩
        rw [hV] at hbg
        obtain ⟨l2,hl2⟩:∃ l,onBk list i V = l:=⟨_,rfl⟩
        have hset1:=hset1 V
        rw [hl2] at hset1 hbg
        have hsetl2:l2.length = m:=by rw [← hl2,onBk_len,hlm]
        have hml2:(l2.map Bck.rc).length = m:=by rw [List.length_map,hsetl2]
        have hkat2:rdBk l2 i = ⟨L',⟨pl,bw,q⟩,V⟩:=by
          rw [← hl2,onBk_at (by omega),hbk]
        have rk2:=recAt_Bk (l:=l2) (i:=i) (by omega) []
        rw [hkat2] at rk2
        have hwf2:=setOn_wf (s:=⟨size,minus,since,now',list,kind',nst',band',w'⟩) (b:=V) (show i < list.length by omega) hwf
        simp only [setOn,hl2] at hwf2
        simp -implicitDefEqProofs only [push_cast,zz,BEq.rfl,ite_true,ite_false,List.append_nil,reduceCtorEq,Nat.reduceAdd,Nat.reduceSub,Nat.reduceMul,Nat.reduceLeDiff,Nat.reduceLT,Nat.reduceEqDiff,Nat.reduceBEq,Nat.reduceBNe,Int.reduceNeg,Int.reduceToNat,b27_1,stM,stV,deV,deT,ivV,hii,rk,rk1,Bck.rc,hset0,hmapl,hml1,he4',Int.toNat_natCast,fs60,Bck.sv,p1,p2,p3,o4,hsetl,hdst,hwf1,bkWf,hbki,hall',fs28,hcc,hd1,hge,hV,hok,hset1,hdst1,rk2,hml2]
        intro X1
        repeat (refine And.intro (by first | omega | trivial | (intros; omega)) ?_)
        refine evS_loopU (A:=Nat × StS × DeS) kp27_2 kl27_2 (fun y => [(65,.int .i64 y.1)])
          (fun y => [(1,.lent,p.Z,.ints .i64 y.2.1.size),(2,.lent,p.M,.bools y.2.1.minus),(3,.lent,p.I,.ints .i64 y.2.1.since),(7,.lent,L,.cells (relabs (fun i => i + 7) (deV LS y.2.2 LC))),(8,.lent,LS,.ints .i64 y.2.2.st)])
          (fun y => y.1≤pl.length∧plsG getG f t V (pl.drop y.1) y.2.1 y.2.2 = B∧sameS y.2.1 ⟨size,minus,since,now',l2,kind',nst',band',w'⟩∧szWf y.2.1∧deAft ⟨dk,dst,dlo,dhi,code,dat,dvv,dbe,den⟩ y.2.2) (fun y => pl.length - y.1) (0,⟨size,minus,since,now',l2,kind',nst',band',w'⟩,⟨dk1,dst1,dlo1,dhi1,code,dat1,dvv1,dbe1,den1⟩) ⟨Nat.zero_le _,hbg.symm,sameS.refl _,hz,hgot⟩ (Sub.pt ?_) ?_
        · simp -implicitDefEqProofs only [push_cast,zz,BEq.rfl,ite_true,ite_false,List.append_nil,reduceCtorEq,Nat.reduceAdd,Nat.reduceSub,Nat.reduceMul,Nat.reduceLeDiff,Nat.reduceLT,Nat.reduceEqDiff,Nat.reduceBEq,Nat.reduceBNe,Int.reduceNeg,Int.reduceToNat,deV,deT,ivV,p1,p2,p3,he4',hdst,hdst1]
        intro ⟨j,s2,d2⟩ ⟨(hj:j≤pl.length),(hp2:plsG getG f t V (pl.drop j) s2 d2 = B),(hsame:sameS s2 _),(hz2:szWf s2),(haft2:deAft ⟨dk,dst,dlo,dhi,code,dat,dvv,dbe,den⟩ d2)⟩ K2 hK2
        have hwf2:stWf s2 n:=hsame.wf (by first | exact hwf1 | exact hwf2)
        obtain ⟨size2,minus2,since2,now2,list2,kind2,nst2,band2,w2⟩:=s2
        obtain ⟨rfl,rfl,rfl,rfl,rfl,rfl⟩:now' = now2∧l2 = list2∧kind' = kind2∧nst' = nst2∧band' = band2∧w' = w2:=⟨hsame.2.2.2.1.symm,hsame.2.2.2.2.1.symm,hsame.2.2.2.2.2.1.symm,hsame.2.2.2.2.2.2.1.symm,hsame.2.2.2.2.2.2.2.1.symm,hsame.2.2.2.2.2.2.2.2.symm⟩
        obtain ⟨dk2,dst2,dlo2,dhi2,code2,dat2,dvv2,dbe2,den2⟩:=d2
        obtain rfl:code = code2:=haft2.2.2.2.symm
        have hdst2:dst2.length = 12:=haft2.2.1.trans hdst
        have q1:size2.length = n:=hwf2.1
        have q2:minus2.length = n:=hwf2.2.1
        have q3:since2.length = n:=hwf2.2.2.1
        by_cases hj':j < pl.length
        · have hji:(j:Int) < pl.length:=by omega
          have hx:=b4 _ (rd_mem hj')
          have hcons:=plsG_cons getG f t V hj' ⟨size2,minus2,since2,now',l2,kind',nst',band',w'⟩ ⟨dk2,dst2,dlo2,dhi2,code,dat2,dvv2,dbe2,den2⟩
          rw [hp2] at hcons
          obtain ⟨x,hxx⟩:∃ x,rd pl (j:Int) = x:=⟨_,rfl⟩
          rw [hxx] at hx hcons
          rw [numG_get] at hcons
          have a1:=numG_same getG ⟨size2,minus2,since2,now',l2,kind',nst',band',w'⟩ ⟨dk2,dst2,dlo2,dhi2,code,dat2,dvv2,dbe2,den2⟩ x t V false false
          have a2:=numG_sz getG ⟨dk2,dst2,dlo2,dhi2,code,dat2,dvv2,dbe2,den2⟩ V false false hz2 hx.1 (by simp only; omega) h7 h8
          have a3:=numD_aft ⟨size2,minus2,since2,now',l2,kind',nst',band',w'⟩ x t V false false haft2.1 hdst2
          have hnuR:∀ w1 w2,ndR ⟨p,⟨size2,minus2,since2,now',l2,kind',nst',band',w'⟩,L,LS,LC,LX,⟨dk2,dst2,dlo2,dhi2,code,dat2,dvv2,dbe2,den2⟩,w1,w2,x,t,V⟩ = numG getG ⟨size2,minus2,since2,now',l2,kind',nst',band',w'⟩ ⟨dk2,dst2,dlo2,dhi2,code,dat2,dvv2,dbe2,den2⟩ x t V false false:=fun _ _ => rfl
          have hnu:ndOk ⟨size2,minus2,since2,now',l2,kind',nst',band',w'⟩ ⟨dk2,dst2,dlo2,dhi2,code,dat2,dvv2,dbe2,den2⟩ x t:=⟨by rw [q3]; exact hwf2,hz2,haft2.1,hdst2,hx.1,by rw [q3]; exact hx.2,h7,h8⟩
          obtain ⟨N,hN⟩:∃ N,numG getG ⟨size2,minus2,since2,now',l2,kind',nst',band',w'⟩ ⟨dk2,dst2,dlo2,dhi2,code,dat2,dvv2,dbe2,den2⟩ x t V false false = N:=⟨_,rfl⟩
          rw [hN] at hcons a1 a2 a3
          simp only [hN] at hnuR
          obtain ⟨⟨size3,minus3,since3,now3,list3,kind3,nst3,band3,w3⟩,⟨dk3,dst3,dlo3,dhi3,code3,dat3,dvv3,dbe3,den3⟩,er3⟩:=N
          obtain ⟨rfl,rfl,rfl,rfl,rfl,rfl⟩:now' = now3∧l2 = list3∧kind' = kind3∧nst' = nst3∧band' = band3∧w' = w3:=⟨a1.2.2.2.1.symm,a1.2.2.2.2.1.symm,a1.2.2.2.2.2.1.symm,a1.2.2.2.2.2.2.1.symm,a1.2.2.2.2.2.2.2.1.symm,a1.2.2.2.2.2.2.2.2.symm⟩
          obtain rfl:code = code3:=a3.2.2.2.symm
          have q5:size3.length = n:=a1.1.trans q1
          have q6:minus3.length = n:=a1.2.1.trans q2
          have q7:since3.length = n:=a1.2.2.1.trans q3
          have q8:dst3.length = 12:=a3.2.1.trans hdst2
          clear hK
          by_cases her:er3 = 0
          · subst her
            rw [if_pos rfl] at hcons
            simp -implicitDefEqProofs only [push_cast,zz,BEq.rfl,ite_true,ite_false,List.append_nil,reduceCtorEq,Nat.reduceAdd,Nat.reduceSub,Nat.reduceMul,Nat.reduceLeDiff,Nat.reduceLT,Nat.reduceEqDiff,Nat.reduceBEq,Nat.reduceBNe,Int.reduceNeg,Int.reduceToNat,b27_2,stM,stV,deV,deT,ivV,hji,hxx,fs58,fs63D,ndM,rk2,Bck.rc,hml2,q1,q2,q3,q5,q6,q7,q8,p1,p2,p3,o4,hsetl2,he4',hdst,hdst2,Int.toNat_natCast,hnu,hnuR]
            repeat (refine And.intro (by first | omega | trivial | (intros; omega)) ?_)
            intro X2
            repeat (refine And.intro (by first | omega | trivial | (intros; omega)) ?_)
            intro X3
            repeat (refine And.intro (by first | omega | trivial | (intros; omega)) ?_)
            refine hK2 (j + 1,⟨size3,minus3,since3,now',l2,kind',nst',band',w'⟩,⟨dk3,dst3,dlo3,dhi3,code,dat3,dvv3,dbe3,den3⟩) ⟨show j + 1≤pl.length by omega,hcons.symm,a1.trans hsame,a2,haft2.trans a3⟩ (show pl.length - (j + 1) < pl.length - j by omega) _ _ (Sub.pt ?_)
            simp -implicitDefEqProofs only [push_cast,zz,BEq.rfl,ite_true,ite_false,List.append_nil,reduceCtorEq,Nat.reduceAdd,Nat.reduceSub,Nat.reduceMul,Nat.reduceLeDiff,Nat.reduceLT,Nat.reduceEqDiff,Nat.reduceBEq,Nat.reduceBNe,Int.reduceNeg,Int.reduceToNat,deV,deT,ivV,q1,q2,q3,q5,q6,q7,q8,he4',hdst]
          · rw [if_neg her] at hcons
            subst hcons
            rw [if_neg her] at hs
            subst hs
            clear hK2
            simp -implicitDefEqProofs only [push_cast,zz,BEq.rfl,ite_true,ite_false,List.append_nil,reduceCtorEq,Nat.reduceAdd,Nat.reduceSub,Nat.reduceMul,Nat.reduceLeDiff,Nat.reduceLT,Nat.reduceEqDiff,Nat.reduceBEq,Nat.reduceBNe,Int.reduceNeg,Int.reduceToNat,b27_2,stM,stV,deV,deT,ivV,hji,hxx,fs58,fs63D,ndM,rk2,Bck.rc,hml2,q1,q2,q3,q5,q6,q7,q8,p1,p2,p3,o4,hsetl2,he4',hdst,hdst2,Int.toNat_natCast,hnu,hnuR,her]
            repeat (refine And.intro (by first | omega | trivial | (intros; omega)) ?_)
            intro X2
            repeat (refine And.intro (by first | omega | trivial | (intros; omega)) ?_)
            intro X3
            repeat (refine And.intro (by first | omega | trivial | (intros; omega)) ?_)
            refine postF.mk' (fun _ => default) [some 0,some 1,some 2,some 3,some 4,none,some 6,some 7,some 8,some 9,some 10,some 11] ?_
            simp -implicitDefEqProofs only [push_cast,zz,BEq.rfl,ite_true,ite_false,List.append_nil,reduceCtorEq,Nat.reduceAdd,Nat.reduceSub,Nat.reduceMul,Nat.reduceLeDiff,Nat.reduceLT,Nat.reduceEqDiff,Nat.reduceBEq,Nat.reduceBNe,Int.reduceNeg,Int.reduceToNat,fs27D,sqM,stV,deV,deT,ivV,hR,q1,q2,q3,q5,q6,q7,q8,o1,o2,o3,o4,hm,hlm,hsetl2,he4',h4]
        · obtain rfl:j = pl.length:=by omega
          rw [List.drop_length,plsG] at hp2
          subst hp2
          simp only at hbi
          rw [if_pos rfl] at hs
          clear hK2
          simp -implicitDefEqProofs only [push_cast,zz,BEq.rfl,ite_true,ite_false,List.append_nil,reduceCtorEq,Nat.reduceAdd,Nat.reduceSub,Nat.reduceMul,Nat.reduceLeDiff,Nat.reduceLT,Nat.reduceEqDiff,Nat.reduceBEq,Nat.reduceBNe,Int.reduceNeg,Int.reduceToNat,b27_2,r27_3,Int.lt_irrefl]
          repeat (refine And.intro (by first | omega | trivial | (intros; omega)) ?_)
          refine hK (i + 1,⟨size2,minus2,since2,now',l2,kind',nst',band',w'⟩,⟨dk2,dst2,dlo2,dhi2,code,dat2,dvv2,dbe2,den2⟩) ⟨show i + 1≤m by omega,hs,hbi.1.trans hsim,hbi.2.1,haft.trans hbi.2.2⟩ (show m - (i + 1) < m - i by omega) _ _ (Sub.pt ?_)
          simp -implicitDefEqProofs only [push_cast,zz,BEq.rfl,ite_true,ite_false,List.append_nil,reduceCtorEq,Nat.reduceAdd,Nat.reduceSub,Nat.reduceMul,Nat.reduceLeDiff,Nat.reduceLT,Nat.reduceEqDiff,Nat.reduceBEq,Nat.reduceBNe,Int.reduceNeg,Int.reduceToNat,deV,deT,ivV,q1,q2,q3,p1,p2,p3,he4',hdst,hdst2]
      · rw [if_neg hge] at hbg
        subst hbg
        rw [if_neg hge] at hs
        subst hs
        clear hK
        simp -implicitDefEqProofs only [push_cast,zz,BEq.rfl,ite_true,ite_false,List.append_nil,reduceCtorEq,Nat.reduceAdd,Nat.reduceSub,Nat.reduceMul,Nat.reduceLeDiff,Nat.reduceLT,Nat.reduceEqDiff,Nat.reduceBEq,Nat.reduceBNe,Int.reduceNeg,Int.reduceToNat,b27_1,stM,stV,deV,deT,ivV,hii,rk,rk1,Bck.rc,hset0,hmapl,hml1,he4',Int.toNat_natCast,fs60,Bck.sv,p1,p2,p3,o4,hsetl,hdst,hwf1,bkWf,hbki,hall',fs28,hcc,hd1,hge,hok,hdst1]
        intro X1
        repeat (refine And.intro (by first | omega | trivial | (intros; omega)) ?_)
        refine postF.mk' (fun _ => default) [some 0,some 1,some 2,some 3,some 4,none,some 6,some 7,some 8,some 9,some 10,some 11] ?_
        simp -implicitDefEqProofs only [push_cast,zz,BEq.rfl,ite_true,ite_false,List.append_nil,reduceCtorEq,Nat.reduceAdd,Nat.reduceSub,Nat.reduceMul,Nat.reduceLeDiff,Nat.reduceLT,Nat.reduceEqDiff,Nat.reduceBEq,Nat.reduceBNe,Int.reduceNeg,Int.reduceToNat,fs27D,sqM,stV,deV,deT,ivV,hR,p1,p2,p3,o1,o2,o3,o4,hm,hlm,hsetl,he4',h4,hdst1]
  · obtain rfl:i = m:=by omega
    have hii:¬ (i:Int) < i:=by omega
    rw [Nat.sub_self,slcG] at hs
    subst hs
    have ho6:now'≤1000:=o7
    clear hK
    simp -implicitDefEqProofs only [push_cast,zz,BEq.rfl,ite_true,ite_false,List.append_nil,reduceCtorEq,Nat.reduceAdd,Nat.reduceSub,Nat.reduceMul,Nat.reduceLeDiff,Nat.reduceLT,Nat.reduceEqDiff,Nat.reduceBEq,Nat.reduceBNe,Int.reduceNeg,Int.reduceToNat,b27_1,r27_4,Int.lt_irrefl,deV,deT,ivV]
    repeat (refine And.intro (by first | omega | trivial | (intros; omega)) ?_)
    refine postF.mk' (fun _ => default) [some 0,some 1,some 2,some 3,some 4,none,some 6,some 7,some 8,some 9,some 10,some 11] ?_
    simp -implicitDefEqProofs only [push_cast,zz,BEq.rfl,ite_true,ite_false,List.append_nil,reduceCtorEq,Nat.reduceAdd,Nat.reduceSub,Nat.reduceMul,Nat.reduceLeDiff,Nat.reduceLT,Nat.reduceEqDiff,Nat.reduceBEq,Nat.reduceBNe,Int.reduceNeg,Int.reduceToNat,fs27D,sqM,stV,deV,deT,ivV,hR,p1,p2,p3,o1,o2,o3,o4,hm,hlm,h4,hdst]
def ent27D:Entry:=spOf fs27D invSq
theorem e27D:EntryOk Try.prog 27 ent27D:=entry_of ok27D invSq
@[push_cast] theorem ent27D_app (us:List SV) (look:Look) (x:Nat→Xf.Loc) (k:Nat):ent27D us look x k = spOf fs27D invSq us look x k:=rfl
def b25_3:IR :=
  .seq (.reg false [⟨some 65,none,⟨[],[]⟩,.bin 0 .lss (.t 64) (.t 63)⟩] [] []) (.seq (.cond (.t 65) (.skip) (.exit 4)) (.seq (.block 5 (.seq (.reg false [⟨some 66,none,⟨[],[]⟩,.mov (.t 64)⟩,
    ⟨some 16,none,⟨[],[]⟩,.mov (.t 66)⟩] [65,66] []) (.reg true [⟨some 67,none,⟨[],[]⟩,.mov (.t 10)⟩,
    ⟨some 68,none,⟨[],[]⟩,.nilc (.t 67)⟩,
    ⟨some 69,none,⟨[],[]⟩,.fld (.t 68) 7⟩,
    ⟨some 70,none,⟨[],[]⟩,.ld false none 0 0 (.t 69)⟩,
    ⟨some 71,none,⟨[],[]⟩,.fld (.t 14) 3⟩,
    ⟨some 72,none,⟨[],[]⟩,.ld false none 0 0 (.t 71)⟩,
    ⟨some 73,none,⟨[],[]⟩,.mov (.t 15)⟩,
    ⟨some 74,none,⟨[],[]⟩,.bin 0 .add (.t 72) (.t 73)⟩,
    ⟨some 75,none,⟨[],[]⟩,.mov (.t 0)⟩,
    ⟨some 76,none,⟨[],[]⟩,.bin 0 .mul (.t 74) (.t 75)⟩,
    ⟨some 77,none,⟨[],[]⟩,.fld (.t 14) 2⟩,
    ⟨some 78,none,⟨[],[]⟩,.ld false none 0 0 (.t 77)⟩,
    ⟨some 79,none,⟨[],[]⟩,.bin 0 .add (.t 76) (.t 78)⟩,
    ⟨some 80,none,⟨[],[]⟩,.mov (.t 16)⟩,
    ⟨some 81,none,⟨[],[]⟩,.bin 0 .add (.t 79) (.t 80)⟩,
    ⟨some 82,none,⟨[],[]⟩,.mov (.t 13)⟩,
    ⟨some 83,none,⟨[],[]⟩,.idxS (.t 70) (.t 81) 1⟩,
    ⟨none,none,⟨[],[]⟩,.sto true 1 .i64 (.t 83) (.t 82)⟩] [16,67,68,69,70,71,72,73,74,75,76,77,78,79,80,81,82,83] []))) (.reg false [⟨some 84,none,⟨[],[]⟩,.bin 0 .add (.t 64) (.k (.int .i64 1))⟩,
    ⟨some 64,none,⟨[],[]⟩,.mov (.t 84)⟩] [84] [])))
def r25_4:IR :=
  .reg false [⟨some 85,none,⟨[],[]⟩,.bin 0 .add (.t 59) (.k (.int .i64 1))⟩,
    ⟨some 59,none,⟨[],[]⟩,.mov (.t 85)⟩] [15,63,64,85] []
def b25_2:IR :=
  .seq (.reg false [⟨some 60,none,⟨[],[]⟩,.bin 0 .lss (.t 59) (.t 58)⟩] [] []) (.seq (.cond (.t 60) (.skip) (.exit 2)) (.seq (.block 3 (.seq (.reg false [⟨some 61,none,⟨[],[]⟩,.mov (.t 59)⟩,
    ⟨some 15,none,⟨[],[]⟩,.mov (.t 61)⟩] [60,61] []) (.seq (.reg false [⟨some 62,none,⟨[],[]⟩,.fld (.t 14) 4⟩,
    ⟨some 63,none,⟨[],[]⟩,.ld false none 0 0 (.t 62)⟩,
    ⟨some 64,none,⟨[],[]⟩,.mov (.k (.int .i64 0))⟩] [62] []) (.block 4 (.loop b25_3))))) (r25_4)))
def r25_5:IR :=
  .reg false [⟨some 86,none,⟨[],[]⟩,.bin 0 .add (.t 52) (.k (.int .i64 1))⟩,
    ⟨some 52,none,⟨[],[]⟩,.mov (.t 86)⟩] [13,14,58,59,86] []
def b25_1:IR :=
  .seq (.reg false [⟨some 53,none,⟨[],[]⟩,.bin 0 .lss (.t 52) (.t 51)⟩] [] []) (.seq (.cond (.t 53) (.skip) (.exit 0)) (.seq (.block 1 (.seq (.reg false [⟨some 54,none,⟨[],[]⟩,.mov (.t 52)⟩,
    ⟨some 55,none,⟨[],[]⟩,.idxS (.t 50) (.t 52) 6⟩,
    ⟨some 56,none,⟨[],[]⟩,.ld true (some 6) 0 0 (.t 55)⟩,
    ⟨some 14,none,⟨[],[]⟩,.alloc 27 [.int .i64 0,.int .i64 0,.int .i64 0,.int .i64 0,.int .i64 0,.int .i64 0]⟩,
    ⟨some 13,none,⟨[],[]⟩,.mov (.t 54)⟩,
    ⟨none,none,⟨[],[]⟩,.sto false 6 .i64 (.t 14) (.t 56)⟩] [53,54,55,56] []) (.seq (.reg false [⟨some 57,none,⟨[],[]⟩,.fld (.t 14) 5⟩,
    ⟨some 58,none,⟨[],[]⟩,.ld false none 0 0 (.t 57)⟩,
    ⟨some 59,none,⟨[],[]⟩,.mov (.k (.int .i64 0))⟩] [57] []) (.block 2 (.loop b25_2))))) (r25_5)))
def r25_6:IR :=
  .seq (.reg false [⟨some 87,none,⟨[],[]⟩,.mov (.t 10)⟩,
    ⟨some 8,none,⟨[],[]⟩,.mov (.t 87)⟩] [0,10,50,51,52,87] []) (.ret)
def ir25:IR :=
  .seq (.reg false [⟨some 8,none,⟨[],[]⟩,.mov (.k nilP)⟩] [8] []) (.seq (.reg false [⟨some 17,none,⟨[],[]⟩,.mov (.t 0)⟩,
    ⟨some 18,none,⟨[],[]⟩,.mov (.t 1)⟩,
    ⟨some 19,none,⟨[],[]⟩,.bin 0 .mul (.t 17) (.t 18)⟩,
    ⟨some 9,none,⟨[],[]⟩,.mov (.t 19)⟩] [17,18,19] []) (.seq (.reg true [⟨some 20,none,⟨[],[]⟩,.mov (.t 9)⟩,
    ⟨some 21,none,⟨[],[]⟩,.mks 10 (.int .i64 0) 8 (.t 20) (.t 20)⟩,
    ⟨some 22,none,⟨[],[]⟩,.mov (.t 9)⟩,
    ⟨some 23,none,⟨[],[]⟩,.mks 11 (.bool false) 1 (.t 22) (.t 22)⟩,
    ⟨some 24,none,⟨[],[]⟩,.mov (.t 9)⟩,
    ⟨some 25,none,⟨[],[]⟩,.mks 12 (.int .i64 0) 8 (.t 24) (.t 24)⟩,
    ⟨some 26,none,⟨[],[]⟩,.mov (.t 0)⟩,
    ⟨some 27,none,⟨[],[]⟩,.mov (.t 1)⟩,
    ⟨some 28,none,⟨[],[]⟩,.mov (.t 2)⟩,
    ⟨some 29,none,⟨[10,11,12,17],[]⟩,.call (some 4) 13 48 [.t 26,.t 27,.t 28]⟩,
    ⟨some 30,none,⟨[],[]⟩,.mov (.t 9)⟩,
    ⟨some 31,none,⟨[],[]⟩,.mks 17 (.int .i64 0) 8 (.t 30) (.t 30)⟩,
    ⟨some 32,none,⟨[],[]⟩,.mov (.t 0)⟩,
    ⟨some 33,none,⟨[],[]⟩,.build [nilSV,nilSV,nilSV,.int .i64 0,nilSV,.int .i64 0,nilSV,nilSV,.int .i64 0] [(0,1,.t 21),(1,1,.t 23),(2,1,.t 25),(4,1,.t 29),(7,1,.t 31),(8,1,.t 32)]⟩,
    ⟨some 34,none,⟨[],[]⟩,.box 18 (.t 33)⟩,
    ⟨some 10,none,⟨[],[]⟩,.mov (.t 34)⟩] [9,20,21,22,23,24,25,26,27,28,29,30,31,32,33,34] []) (.seq (.reg false [⟨some 36,none,⟨[],[]⟩,.mov (.t 10)⟩,
    ⟨some 37,none,⟨[],[]⟩,.mov (.t 3)⟩,
    ⟨some 38,none,⟨[],[]⟩,.call (some 4) 19 53 [.t 37,.k (.int .i64 12)]⟩,
    ⟨some 35,none,⟨[],[]⟩,.mov (.t 38)⟩,
    ⟨some 39,none,⟨[],[]⟩,.ext (.t 35) 0⟩,
    ⟨some 40,none,⟨[],[]⟩,.ext (.t 35) 1⟩,
    ⟨some 41,none,⟨[],[]⟩,.nilc (.t 36)⟩,
    ⟨some 42,none,⟨[],[]⟩,.fld (.t 41) 5⟩,
    ⟨none,none,⟨[],[]⟩,.sto false 2 .i64 (.t 42) (.t 39)⟩] [3,35,36,37,38,39,40,41,42] []) (.seq (.reg false [⟨some 44,none,⟨[],[]⟩,.mov (.t 0)⟩,
    ⟨some 45,none,⟨[],[]⟩,.mov (.t 1)⟩,
    ⟨some 46,none,⟨[],[]⟩,.mov (.t 2)⟩,
    ⟨some 47,none,⟨[],[]⟩,.call (some 4) 23 54 [.t 44,.t 45,.t 46]⟩,
    ⟨some 43,none,⟨[],[]⟩,.mov (.t 47)⟩,
    ⟨some 48,none,⟨[],[]⟩,.ext (.t 43) 0⟩,
    ⟨some 49,none,⟨[],[]⟩,.ext (.t 43) 1⟩,
    ⟨some 11,none,⟨[],[]⟩,.mov (.t 48)⟩,
    ⟨some 12,none,⟨[],[]⟩,.mov (.t 49)⟩] [1,2,12,43,44,45,46,47,48,49] []) (.seq (.seq (.reg false [⟨some 50,none,⟨[],[]⟩,.mov (.t 11)⟩,
    ⟨some 51,none,⟨[],[]⟩,.len (.t 50)⟩,
    ⟨some 52,none,⟨[],[]⟩,.mov (.k (.int .i64 0))⟩] [11] []) (.block 0 (.loop b25_1))) (r25_6))))))
def kp25_3:List Nat:=[0,10,13,14,15,50,51,52,58,59,63,64]
def kl25_3:List Nat:=[]
attribute [push_cast] kp25_3 kl25_3
def kp25_2:List Nat:=[0,10,13,14,50,51,52,58,59]
def kl25_2:List Nat:=[]
attribute [push_cast] kp25_2 kl25_2
def kp25_1:List Nat:=[0,10,50,51,52]
def kl25_1:List Nat:=[27]
attribute [push_cast] kp25_1 kl25_1
set_option maxRecDepth 4000 in
theorem comp25:(Try.f25.body.bind fun c => compC tab isP chkAll ir25 c) = some ir25:=by kernel_rfl
def bset (W:Int) (b:Bd) (i:Int) (y:Nat) (B:List Int) (x:Nat):List Int:=B.set ((b.y + y) * W + b.x + x).toNat i
def brow (W:Int) (b:Bd) (i:Int) (B:List Int) (y:Nat) (k:Nat):List Int:=(List.range k).foldl (bset W b i y) B
def ball (W:Int) (b:Bd) (i:Int) (B:List Int) (m:Nat):List Int:=(List.range m).foldl (fun B y => brow W b i B y b.w.toNat) B
def bfold (W:Int) (l:List Bd) (n:Nat):Nat→List Int
  | 0 => List.replicate n 0
  | i + 1 => ball W (rdBd l i) i (bfold W l n i) (rdBd l i).h.toNat
theorem brow_succ (W:Int) (b:Bd) (i:Int) (B:List Int) (y k:Nat):brow W b i B y (k + 1) = (brow W b i B y k).set ((b.y + y) * W + b.x + k).toNat i:=by
  unfold brow; rw [List.range_succ,List.foldl_append]; rfl
theorem ball_succ (W:Int) (b:Bd) (i:Int) (B:List Int) (m:Nat):ball W b i B (m + 1) = brow W b i (ball W b i B m) m b.w.toNat:=by
  unfold ball; rw [List.range_succ,List.foldl_append]; rfl
theorem brow_len (W:Int) (b:Bd) (i:Int) (B:List Int) (y:Nat):∀ k,(brow W b i B y k).length = B.length
  | 0 => rfl
  | k + 1 => by rw [brow_succ,List.length_set,brow_len W b i B y k]
theorem ball_len (W:Int) (b:Bd) (i:Int) (B:List Int):∀ m,(ball W b i B m).length = B.length
  | 0 => rfl
  | m + 1 => by rw [ball_succ,brow_len,ball_len W b i B m]
theorem bfold_len (W:Int) (l:List Bd) (n:Nat):∀ i,(bfold W l n i).length = n
  | 0 => by simp [bfold]
  | i + 1 => by rw [bfold,ball_len,bfold_len W l n i]
def bandL (w h n:Int):List Int:=bfold w (bnL w h n) (w * h).toNat (bnL w h n).length
structure BgA where
  w:Int
  h:Int
  n:Int
  kind:Int
def st0 (a:BgA) (f:Nat→Xf.Loc):StS:=⟨List.replicate (a.w * a.h).toNat 0,List.replicate (a.w * a.h).toNat false,List.replicate (a.w * a.h).toNat 0,0,bkOf f (bkts a.w a.h a.n),a.kind,12,bandL a.w a.h a.n,a.w⟩
theorem bandL_len (w h n:Int):(bandL w h n).length = (w * h).toNat:=bfold_len _ _ _ _
def fs25:FS where
  A:=BgA
  args:=fun a => [.int .i64 a.w,.int .i64 a.h,.int .i64 a.n,.int .i64 a.kind]
  mem:=fun _ => []
  pre:=fun a => bnOk a.w a.h a.n∧a.w * a.h≤8192∧(a.kind = 0∨a.kind = 1)
  res:=fun a x => .ptr 6 (x 6) 0 0 0
  out:=fun _ _ => []
  new:=fun a x => [(x 0,.ints .i64 (List.replicate (a.w * a.h).toNat 0)),(x 1,.bools (List.replicate (a.w * a.h).toNat false)),(x 2,.ints .i64 (List.replicate (a.w * a.h).toNat 0)),(x 3,.recs 4 true [] ((bkOf (fun i => x (i + 7)) (bkts a.w a.h a.n)).map Bck.rc)),(x 4,.ints .i64 (List.replicate 12 0)),(x 5,.ints .i64 (bandL a.w a.h a.n)),
    (x 6,.cells (relabs (fun i => i - 1) (stV ⟨x 6,x 0,x 1,x 2,x 3,x 4,x 5⟩ (st0 a fun i => x (i + 7)))))]
def inv25:List SV→Look→Option (BgA × List Nat)
  | [.int .i64 w,.int .i64 h,.int .i64 n,.int .i64 k],look => some (⟨w,h,n,k⟩,[])
  | _,_ => none
attribute [push_cast] inv25
theorem bkOf_len (f:Nat→Xf.Loc) (l:List Pb):(bkOf f l).length = l.length:=by unfold bkOf; simp
set_option maxHeartbeats 1000000 in
theorem ok25:FSOk Try.prog 25 fs25:=by
  refine ⟨⟨_,Try.func25,by kernel_rfl,by kernel_rfl⟩,fun a => ⟨by simp [fs25,push_cast,noMine,argOwn,Chunk.frArg],by simp [fs25,push_cast,outOk,Chunk.ext],fun x => .inl (by simp [fs25,push_cast,frNew,frOut,Chunk.fr])⟩,fun a hp => ?_⟩
  obtain ⟨w,h,n,kind⟩:=a
  obtain ⟨hb,hwh,hk⟩:bnOk w h n∧w * h≤8192∧(kind = 0∨kind = 1):=hp
  obtain ⟨q1,q2,q3,q4,q5,q6⟩:=id hb
  have hwh0:0≤w * h:=Int.mul_nonneg q3 q5
  change Tri Try.prog 25 [.int .i64 w,.int .i64 h,.int .i64 n,.int .i64 kind] [] (postF fs25 ⟨w,h,n,kind⟩)
  have hin:∀ i:Nat,i < (bnL w h n).length→0≤(rdBd (bnL w h n) i).x∧0≤(rdBd (bnL w h n) i).y∧1≤(rdBd (bnL w h n) i).w∧1≤(rdBd (bnL w h n) i).h∧(rdBd (bnL w h n) i).x + (rdBd (bnL w h n) i).w≤w∧(rdBd (bnL w h n) i).y + (rdBd (bnL w h n) i).h≤h∧-1000≤(rdBd (bnL w h n) i).lv∧(rdBd (bnL w h n) i).lv≤1000:=fun i hi => bnL_in hb (rdBd_mem hi)
  have hl19:=bnL_le w h n
  have r1:∀ i:Nat,i < (bnL w h n).length→recAt (i:Int) [] (bnZ w h n) = (rdBd (bnL w h n) i).rc:=fun i hi => recAt_Bd (by omega) (by omega) [] _
  have hzl:(bnL w h n).length≤(bnZ w h n).length:=by unfold bnZ; rw [List.length_append,List.length_map]; omega
  have hbl:bandL w h n = bfold w (bnL w h n) (w * h).toNat (bnL w h n).length:=rfl
  have hst:∀ f,st0 ⟨w,h,n,kind⟩ f = ⟨List.replicate (w * h).toNat 0,List.replicate (w * h).toNat false,List.replicate (w * h).toNat 0,0,bkOf f (bkts w h n),kind,12,bandL w h n,w⟩:=fun f => rfl
  obtain ⟨N,hN⟩:∃ N:Nat,w * h = (N:Int):=⟨(w * h).toNat,by omega⟩
  rw [hN,Int.toNat_natCast] at hbl hst
  obtain ⟨BK,hBK⟩:∃ B,bkts w h n = B:=⟨_,rfl⟩
  obtain ⟨BL,hBL⟩:∃ B,bandL w h n = B:=⟨_,rfl⟩
  rw [hBK] at hst
  rw [hBL] at hbl
  simp only [hBL] at hst
  have hBLl:BL.length = N:=by rw [hbl,bfold_len]
  have hBKl:=fun f => bkOf_len f BK
  have hBK5:BK.length≤50000:=by
    rw [← hBK]
    have:=(bkFold_len w (l:=bnL w h n) (fun b hb' => by
      obtain ⟨i,hi,rfl⟩:=List.mem_iff_getElem.1 hb'
      have:=hin i hi
      rw [rdBd_nat hi] at this
      unfold Bd.ok
      omega) (bnL w h n).length (Nat.le_refl _)).1
    rw [List.take_length] at this
    unfold bkts
    omega
  obtain ⟨B,hB⟩:∃ B,bnL w h n = B:=⟨_,rfl⟩
  obtain ⟨Z,hZ⟩:∃ Z,bnZ w h n = Z:=⟨_,rfl⟩
  rw [hB] at hin hl19 r1 hzl hbl
  rw [hZ] at r1 hzl
  have h12:(12:Int).toNat = 12:=rfl
  refine tri_evS (hyp (l:=[(48,ent48),(53,ent53),(54,ent54)]) (lp:=[]) ⟨e48,e53,e54,trivial⟩ trivial) Try.func25 comp25 (rs:=[.tmp 8]) (by rfl) Try.ntmps25 28 ?_
  simp -implicitDefEqProofs only [push_cast,zz,BEq.rfl,ite_true,ite_false,List.append_nil,reduceCtorEq,Nat.reduceAdd,Nat.reduceSub,Nat.reduceMul,Nat.reduceLeDiff,Nat.reduceLT,Nat.reduceEqDiff,Nat.reduceBEq,Nat.reduceBNe,Int.reduceNeg,Int.reduceToNat,ir25,fs54,fs48,fs53,hb,hB,hZ,lx,hN,hBK,hk,h12]
  refine ⟨by omega,by omega,fun X => ?_⟩
  repeat (refine And.intro (by first | omega | trivial | (intros; omega)) ?_)
  intro X1
  repeat (refine And.intro (by first | omega | trivial | (intros; omega)) ?_)
  intro X2
  rw [hN] at hwh
  have hrep:(List.replicate N (0:Int)).length = N:=List.length_replicate
  refine evS_loopU (A:=Nat) kp25_1 kl25_1 (fun i => [(52,.int .i64 i)]) (fun i => [(17,.mine,X 11 17,.ints .i64 (bfold w B N i))]) (fun i => i≤B.length) (fun i => B.length - i) 0 (Nat.zero_le _) (Sub.pt ?_) ?_
  · simp -implicitDefEqProofs only [push_cast,zz,BEq.rfl,ite_true,ite_false,List.append_nil,reduceCtorEq,Nat.reduceAdd,Nat.reduceSub,Nat.reduceMul,Nat.reduceLeDiff,Nat.reduceLT,Nat.reduceEqDiff,Nat.reduceBEq,Nat.reduceBNe,Int.reduceNeg,Int.reduceToNat,bfold,Int.toNat_natCast]
  intro i hi K hK
  have hi:i≤B.length:=hi
  by_cases hi':i < B.length
  · obtain ⟨b1,b2,b3,b4,b5,b6,b7,b8⟩:=hin i hi'
    have rr:=r1 i hi'
    have hii:(i:Int) < B.length:=by omega
    have hstep:bfold w B N (i + 1) = ball w (rdBd B i) i (bfold w B N i) (rdBd B i).h.toNat:=rfl
    have hfl:=bfold_len w B N i
    obtain ⟨b,hb'⟩:∃ b,rdBd B i = b:=⟨_,rfl⟩
    rw [hb'] at b1 b2 b3 b4 b5 b6 rr hstep
    obtain ⟨FF,hFF⟩:∃ F,bfold w B N i = F:=⟨_,rfl⟩
    rw [hFF] at hfl hstep
    obtain ⟨lv,kd,bx,by',bw,bh⟩:=b
    simp only at b1 b2 b3 b4 b5 b6 hstep
    obtain ⟨C,hC⟩:∃ C:Nat,bw = (C:Int):=⟨bw.toNat,by omega⟩
    obtain ⟨R,hR⟩:∃ C:Nat,bh = (C:Int):=⟨bh.toNat,by omega⟩
    subst hC hR
    simp only [Int.toNat_natCast] at hstep
    simp -implicitDefEqProofs only [push_cast,zz,BEq.rfl,ite_true,ite_false,List.append_nil,reduceCtorEq,Nat.reduceAdd,Nat.reduceSub,Nat.reduceMul,Nat.reduceLeDiff,Nat.reduceLT,Nat.reduceEqDiff,Nat.reduceBEq,Nat.reduceBNe,Int.reduceNeg,Int.reduceToNat,b25_1,rr,Bd.rc,hii,hFF]
    intro X3
    repeat (refine And.intro (by first | omega | trivial | (intros; omega)) ?_)
    obtain ⟨b,hbb⟩:∃ b:Bd,b = ⟨lv,kd,bx,by',C,R⟩:=⟨_,rfl⟩
    rw [← hbb] at hstep
    have hbl':=fun m => ball_len w b i FF m
    rw [hfl] at hbl'
    refine evS_loopU (A:=Nat) kp25_2 kl25_2 (fun y => [(59,.int .i64 y)]) (fun y => [(17,.mine,X 11 17,.ints .i64 (ball w b i FF y))]) (fun y => y≤R) (fun y => R - y) 0 (Nat.zero_le _) (Sub.pt ?_) ?_
    · have e0:ball w b i FF 0 = FF:=rfl
      simp -implicitDefEqProofs only [push_cast,zz,BEq.rfl,ite_true,ite_false,List.append_nil,reduceCtorEq,Nat.reduceAdd,Nat.reduceSub,Nat.reduceMul,Nat.reduceLeDiff,Nat.reduceLT,Nat.reduceEqDiff,Nat.reduceBEq,Nat.reduceBNe,Int.reduceNeg,Int.reduceToNat,e0]
    intro y hy K2 hK2
    have hy:y≤R:=hy
    by_cases hy':y < R
    · have hyi:(y:Int) < R:=by omega
      have hs2:=ball_succ w b i FF y
      rw [show b.w.toNat = C by rw [hbb]; rfl] at hs2
      have hl2:=hbl' y
      obtain ⟨GG,hGG⟩:∃ F,ball w b i FF y = F:=⟨_,rfl⟩
      rw [hGG] at hs2 hl2
      have hrl:=fun k => brow_len w b i GG y k
      rw [hl2] at hrl
      clear hK
      simp -implicitDefEqProofs only [push_cast,zz,BEq.rfl,ite_true,ite_false,List.append_nil,reduceCtorEq,Nat.reduceAdd,Nat.reduceSub,Nat.reduceMul,Nat.reduceLeDiff,Nat.reduceLT,Nat.reduceEqDiff,Nat.reduceBEq,Nat.reduceBNe,Int.reduceNeg,Int.reduceToNat,b25_2,hyi,hGG]
      refine evS_loopU (A:=Nat) kp25_3 kl25_3 (fun x => [(64,.int .i64 x)]) (fun x => [(17,.mine,X 11 17,.ints .i64 (brow w b i GG y x))]) (fun x => x≤C) (fun x => C - x) 0 (Nat.zero_le _) (Sub.pt ?_) ?_
      · have e0:brow w b i GG y 0 = GG:=rfl
        simp -implicitDefEqProofs only [push_cast,zz,BEq.rfl,ite_true,ite_false,List.append_nil,reduceCtorEq,Nat.reduceAdd,Nat.reduceSub,Nat.reduceMul,Nat.reduceLeDiff,Nat.reduceLT,Nat.reduceEqDiff,Nat.reduceBEq,Nat.reduceBNe,Int.reduceNeg,Int.reduceToNat,e0]
      intro x hx K3 hK3
      have hx:x≤C:=hx
      by_cases hx':x < C
      · have hxi:(x:Int) < C:=by omega
        have hs3:=brow_succ w b i GG y x
        have hl3:=hrl x
        have hby:b.y = by':=by rw [hbb]
        have hbx:b.x = bx:=by rw [hbb]
        rw [hby,hbx] at hs3
        clear hK2
        have hmul:0≤(by' + y) * w∧(by' + (y:Int)) * w + w≤N:=by
          have h1:=Int.mul_nonneg (show 0≤by' + (y:Int) by omega) q3
          have h2:=Int.mul_le_mul_of_nonneg_right (show by' + (y:Int) + 1≤h by omega) q3
          rw [Int.add_mul,Int.one_mul,Int.mul_comm h w,hN] at h2
          exact ⟨h1,h2⟩
        obtain ⟨M,hM⟩:∃ M,(by' + (y:Int)) * w = M:=⟨_,rfl⟩
        rw [hM] at hmul hs3
        obtain ⟨HH,hHH⟩:∃ F,brow w b i GG y x = F:=⟨_,rfl⟩
        rw [hHH] at hs3 hl3
        simp -implicitDefEqProofs only [push_cast,zz,BEq.rfl,ite_true,ite_false,List.append_nil,reduceCtorEq,Nat.reduceAdd,Nat.reduceSub,Nat.reduceMul,Nat.reduceLeDiff,Nat.reduceLT,Nat.reduceEqDiff,Nat.reduceBEq,Nat.reduceBNe,Int.reduceNeg,Int.reduceToNat,b25_3,hxi,hM,hHH]
        repeat (refine And.intro (by first | omega | trivial | (intros; omega)) ?_)
        refine hK3 (x + 1) (show x + 1≤C by omega) (show C - (x + 1) < C - x by omega) _ _ (Sub.pt ?_)
        simp -implicitDefEqProofs only [push_cast,zz,BEq.rfl,ite_true,ite_false,List.append_nil,reduceCtorEq,Nat.reduceAdd,Nat.reduceSub,Nat.reduceMul,Nat.reduceLeDiff,Nat.reduceLT,Nat.reduceEqDiff,Nat.reduceBEq,Nat.reduceBNe,Int.reduceNeg,Int.reduceToNat,hs3]
      · have hxi:¬ (x:Int) < C:=by omega
        have hxC:x = C:=by omega
        rw [hxC,← hs2] at *
        clear hK3
        simp -implicitDefEqProofs only [push_cast,zz,BEq.rfl,ite_true,ite_false,List.append_nil,reduceCtorEq,Nat.reduceAdd,Nat.reduceSub,Nat.reduceMul,Nat.reduceLeDiff,Nat.reduceLT,Nat.reduceEqDiff,Nat.reduceBEq,Nat.reduceBNe,Int.reduceNeg,Int.reduceToNat,b25_3,Int.lt_irrefl,r25_4]
        repeat (refine And.intro (by first | omega | trivial | (intros; omega)) ?_)
        refine hK2 (y + 1) (show y + 1≤R by omega) (show R - (y + 1) < R - y by omega) _ _ (Sub.pt ?_)
        simp -implicitDefEqProofs only [push_cast,zz,BEq.rfl,ite_true,ite_false,List.append_nil,reduceCtorEq,Nat.reduceAdd,Nat.reduceSub,Nat.reduceMul,Nat.reduceLeDiff,Nat.reduceLT,Nat.reduceEqDiff,Nat.reduceBEq,Nat.reduceBNe,Int.reduceNeg,Int.reduceToNat]
    · have hyR:y = R:=by omega
      subst hyR
      rw [← hstep] at *
      clear hK2
      simp -implicitDefEqProofs only [push_cast,zz,BEq.rfl,ite_true,ite_false,List.append_nil,reduceCtorEq,Nat.reduceAdd,Nat.reduceSub,Nat.reduceMul,Nat.reduceLeDiff,Nat.reduceLT,Nat.reduceEqDiff,Nat.reduceBEq,Nat.reduceBNe,Int.reduceNeg,Int.reduceToNat,b25_2,Int.lt_irrefl,r25_5]
      repeat (refine And.intro (by first | omega | trivial | (intros; omega)) ?_)
      refine hK (i + 1) (show i + 1≤B.length by omega) (show B.length - (i + 1) < B.length - i by omega) _ _ (Sub.pt ?_)
      simp -implicitDefEqProofs only [push_cast,zz,BEq.rfl,ite_true,ite_false,List.append_nil,reduceCtorEq,Nat.reduceAdd,Nat.reduceSub,Nat.reduceMul,Nat.reduceLeDiff,Nat.reduceLT,Nat.reduceEqDiff,Nat.reduceBEq,Nat.reduceBNe,Int.reduceNeg,Int.reduceToNat]
  · have hiB:i = B.length:=by omega
    subst hiB
    clear hK
    rw [← hbl]
    simp -implicitDefEqProofs only [push_cast,zz,BEq.rfl,ite_true,ite_false,List.append_nil,reduceCtorEq,Nat.reduceAdd,Nat.reduceSub,Nat.reduceMul,Nat.reduceLeDiff,Nat.reduceLT,Nat.reduceEqDiff,Nat.reduceBEq,Nat.reduceBNe,Int.reduceNeg,Int.reduceToNat,b25_1,Int.lt_irrefl,r25_6]
    have g:∀ i:Nat,¬ i + 7 = 0∧¬ i + 7 = 1∧¬ i + 7 = 2∧¬ i + 7 = 3∧¬ i + 7 = 4∧¬ i + 7 = 5∧¬ i + 7 = 6:=fun i => by omega
    refine postF.mk' (fun j => if j = 0 then X 1 10 else if j = 1 then X 3 11 else if j = 2 then X 5 12 else if j = 3 then X 9 13 else if j = 4 then X1 2 19 else if j = 5 then X 11 17 else if j = 6 then X 14 18 else X 9 (13 + (j - 7 + 1))) [some 10,some 11,some 12,some 13,some 19,some 17,some 18] ?_
    simp -implicitDefEqProofs only [push_cast,zz,BEq.rfl,ite_true,ite_false,List.append_nil,reduceCtorEq,Nat.reduceAdd,Nat.reduceSub,Nat.reduceMul,Nat.reduceLeDiff,Nat.reduceLT,Nat.reduceEqDiff,Nat.reduceBEq,Nat.reduceBNe,Int.reduceNeg,Int.reduceToNat,fs25,hN,Int.toNat_natCast,hBK,hBL,stV,st0,g,Nat.add_sub_cancel,hBKl,hBLl,hrep,List.length_replicate]
def ent25:Entry:=spOf fs25 inv25
theorem e25:EntryOk Try.prog 25 ent25:=entry_of ok25 inv25
@[push_cast] theorem ent25_app (us:List SV) (look:Look) (x:Nat→Xf.Loc) (k:Nat):ent25 us look x k = spOf fs25 inv25 us look x k:=rfl
def b31_1:IR :=
  .seq (.reg false [⟨some 23,none,⟨[],[]⟩,.bin 0 .lss (.t 22) (.t 21)⟩] [] []) (.seq (.cond (.t 23) (.skip) (.exit 0)) (.seq (.block 1 (.seq (.reg false [⟨some 24,none,⟨[],[]⟩,.mov (.t 22)⟩,
    ⟨some 25,none,⟨[],[]⟩,.idxS (.t 20) (.t 22) 1⟩,
    ⟨some 26,none,⟨[],[]⟩,.ld true none 0 0 (.t 25)⟩,
    ⟨some 8,none,⟨[],[]⟩,.mov (.t 24)⟩,
    ⟨some 9,none,⟨[],[]⟩,.mov (.t 26)⟩] [23,24,25,26] []) (.seq (.seq (.reg false [⟨some 27,none,⟨[],[]⟩,.mov (.t 0)⟩,
    ⟨some 28,none,⟨[],[]⟩,.nilc (.t 27)⟩,
    ⟨some 29,none,⟨[],[]⟩,.fld (.t 28) 1⟩,
    ⟨some 30,none,⟨[],[]⟩,.ld false none 0 0 (.t 29)⟩,
    ⟨some 31,none,⟨[],[]⟩,.mov (.t 8)⟩,
    ⟨some 32,none,⟨[],[]⟩,.idxS (.t 30) (.t 31) 1⟩,
    ⟨some 33,none,⟨[],[]⟩,.ld true none 0 0 (.t 32)⟩] [27,28,29,30,31,32] []) (.cond (.t 33) (.reg false [⟨some 34,none,⟨[],[]⟩,.mov (.t 9)⟩,
    ⟨some 35,none,⟨[],[]⟩,.neg 0 (.t 34)⟩,
    ⟨some 9,none,⟨[],[]⟩,.mov (.t 35)⟩] [33,34,35] []) (.skip))) (.reg false [⟨some 36,none,⟨[],[]⟩,.fld (.t 7) 2⟩,
    ⟨some 37,none,⟨[],[]⟩,.ld false none 0 0 (.t 36)⟩,
    ⟨some 38,none,⟨[],[]⟩,.mov (.t 8)⟩,
    ⟨some 39,none,⟨[],[]⟩,.mov (.t 9)⟩,
    ⟨some 40,none,⟨[],[]⟩,.idxS (.t 37) (.t 38) 1⟩,
    ⟨none,none,⟨[],[]⟩,.sto true 1 .i64 (.t 40) (.t 39)⟩] [8,9,33,36,37,38,39,40] [])))) (.reg false [⟨some 41,none,⟨[],[]⟩,.bin 0 .add (.t 22) (.k (.int .i64 1))⟩,
    ⟨some 22,none,⟨[],[]⟩,.mov (.t 41)⟩] [41] [])))
def r31_2:IR :=
  .seq (.reg false [⟨some 42,none,⟨[],[]⟩,.ld false (some 3) 0 0 (.t 7)⟩,
    ⟨none,none,⟨[],[]⟩,.sto false 3 .i64 (.t 6) (.t 42)⟩] [0,7,20,21,22,42] []) (.ret)
def ir31:IR :=
  .seq (.reg false [⟨some 6,none,⟨[],[]⟩,.alloc 10 [.int .i64 0,.int .i64 0,nilSV]⟩] [] []) (.seq (.reg false [⟨some 10,none,⟨[],[]⟩,.mov (.t 1)⟩,
    ⟨some 11,none,⟨[],[]⟩,.mov (.t 2)⟩,
    ⟨some 12,none,⟨[],[]⟩,.mov (.t 1)⟩,
    ⟨some 13,none,⟨[],[]⟩,.mov (.t 2)⟩,
    ⟨some 14,none,⟨[],[]⟩,.bin 0 .mul (.t 12) (.t 13)⟩,
    ⟨some 15,none,⟨[],[]⟩,.mks 11 (.int .i64 0) 8 (.t 14) (.t 14)⟩,
    ⟨some 16,none,⟨[],[]⟩,.build [.int .i64 0,.int .i64 0,nilSV] [(0,1,.t 10),(1,1,.t 11),(2,1,.t 15)]⟩,
    ⟨some 7,none,⟨[],[]⟩,.alloc 12 [.int .i64 0,.int .i64 0,nilSV]⟩,
    ⟨none,none,⟨[],[]⟩,.sto false 3 .i64 (.t 7) (.t 16)⟩] [1,2,10,11,12,13,14,15,16] []) (.seq (.seq (.reg false [⟨some 17,none,⟨[],[]⟩,.mov (.t 0)⟩,
    ⟨some 18,none,⟨[],[]⟩,.nilc (.t 17)⟩,
    ⟨some 19,none,⟨[],[]⟩,.fld (.t 18) 0⟩,
    ⟨some 20,none,⟨[],[]⟩,.ld false none 0 0 (.t 19)⟩,
    ⟨some 21,none,⟨[],[]⟩,.len (.t 20)⟩,
    ⟨some 22,none,⟨[],[]⟩,.mov (.k (.int .i64 0))⟩] [17,18,19] []) (.block 0 (.loop b31_1))) (r31_2)))
def kp31_1:List Nat:=[0,6,7,20,21,22]
def kl31_1:List Nat:=[]
attribute [push_cast] kp31_1 kl31_1
set_option maxRecDepth 4000 in
theorem comp31:(Try.f31.body.bind fun c => compC tab isP chkAll ir31 c) = some ir31:=by kernel_rfl
def b40_1:IR :=
  .seq (.reg false [⟨some 10,none,⟨[],[]⟩,.bin 0 .lss (.t 9) (.t 8)⟩] [] []) (.seq (.cond (.t 10) (.skip) (.exit 0)) (.seq (.block 1 (.seq (.reg false [⟨some 11,none,⟨[],[]⟩,.idxS (.t 7) (.t 9) 1⟩,
    ⟨some 12,none,⟨[],[]⟩,.ld true none 0 0 (.t 11)⟩,
    ⟨some 5,none,⟨[],[]⟩,.mov (.t 12)⟩] [10,11,12] []) (.reg false [⟨some 13,none,⟨[],[]⟩,.mov (.t 3)⟩,
    ⟨some 14,none,⟨[],[]⟩,.mov (.t 5)⟩,
    ⟨some 15,none,⟨[],[]⟩,.callp 51 [.t 14]⟩,
    ⟨some 16,none,⟨[],[]⟩,.mx (.t 13) (.t 15)⟩,
    ⟨some 3,none,⟨[],[]⟩,.mov (.t 16)⟩] [5,13,14,15,16] []))) (.reg false [⟨some 17,none,⟨[],[]⟩,.bin 0 .add (.t 9) (.k (.int .i64 1))⟩,
    ⟨some 9,none,⟨[],[]⟩,.mov (.t 17)⟩] [17] [])))
def r40_2:IR :=
  .seq (.reg false [⟨some 18,none,⟨[],[]⟩,.mov (.t 3)⟩,
    ⟨some 19,none,⟨[],[]⟩,.cvt 0 .u64 (.t 18)⟩,
    ⟨some 20,none,⟨[],[]⟩,.callp 80 [.t 19]⟩,
    ⟨some 2,none,⟨[],[]⟩,.mov (.t 20)⟩] [3,7,8,9,18,19,20] []) (.ret)
def ir40:IR :=
  .seq (.reg false [⟨some 1,none,⟨[],[]⟩,.box 10 (.t 0)⟩,
    ⟨some 2,none,⟨[],[]⟩,.mov (.k (.int .i64 0))⟩] [0,2] []) (.seq (.reg false [⟨some 3,none,⟨[],[]⟩,.mov (.k (.int .i64 0))⟩] [] []) (.seq (.seq (.reg false [⟨some 6,none,⟨[],[]⟩,.fld (.t 1) 2⟩,
    ⟨some 7,none,⟨[],[]⟩,.ld false none 0 0 (.t 6)⟩,
    ⟨some 8,none,⟨[],[]⟩,.len (.t 7)⟩,
    ⟨some 9,none,⟨[],[]⟩,.mov (.k (.int .i64 0))⟩] [1,6] []) (.block 0 (.loop b40_1))) (r40_2)))
def kp40_1:List Nat:=[3,7,8,9]
def kl40_1:List Nat:=[]
attribute [push_cast] kp40_1 kl40_1
set_option maxRecDepth 4000 in
theorem comp40:(Try.f40.body.bind fun c => compC tab isP chkAll ir40 c) = some ir40:=by kernel_rfl
def ir15:IR :=
  .seq (.reg false [⟨some 1,none,⟨[],[]⟩,.box 10 (.t 0)⟩,
    ⟨some 2,none,⟨[],[]⟩,.mov (.k (.int .i64 0))⟩,
    ⟨some 3,none,⟨[],[]⟩,.mov (.k (.int .i64 0))⟩] [0,2,3] []) (.seq (.seq (.reg false [⟨some 4,none,⟨[],[]⟩,.ld false (some 3) 0 0 (.t 1)⟩,
    ⟨some 5,none,⟨[],[]⟩,.call (some 4) 11 39 [.t 4]⟩,
    ⟨some 6,none,⟨[],[]⟩,.not (.t 5)⟩] [4,5] []) (.cond (.t 6) (.seq (.reg false [⟨some 2,none,⟨[],[]⟩,.mov (.k (.int .i64 0))⟩,
    ⟨some 3,none,⟨[],[]⟩,.mov (.k (.int .i64 70))⟩] [1,6] []) (.ret)) (.skip))) (.seq (.reg false [⟨some 7,none,⟨[],[]⟩,.ld false (some 3) 0 0 (.t 1)⟩,
    ⟨some 8,none,⟨[],[]⟩,.call (some 4) 15 40 [.t 7]⟩,
    ⟨some 2,none,⟨[],[]⟩,.mov (.t 8)⟩,
    ⟨some 3,none,⟨[],[]⟩,.mov (.k (.int .i64 0))⟩] [1,6,7,8] []) (.ret)))
set_option maxRecDepth 4000 in
theorem comp15:(Try.f15.body.bind fun c => compC tab isP chkAll ir15 c) = some ir15:=by kernel_rfl
def pixF (s:StS) (i:Nat):Int:=if rdB s.minus (i:Nat) = true then - rd s.size (i:Nat) else rd s.size (i:Nat)
def plL (s:StS):List Int:=(List.range s.size.length).map (pixF s)
structure PsA where
  p:StL
  s:StS
  w:Int
  h:Int
def invPs:List SV→Look→Option (PsA × List Nat)
  | [.ptr c _ 0 0 0,.int .i64 w,.int .i64 h],look => match invSt look c with
    | some (p,s,g) => some (⟨p,s,w,h⟩,g)
    | none => none
  | _,_ => none
attribute [push_cast] invPs
def fs31:FS where
  A:=PsA
  args:=fun a => [.ptr 0 a.p.L 0 0 0,.int .i64 a.w,.int .i64 a.h]
  mem:=fun a => stM a.p a.s
  pre:=fun a => stWf a.s a.s.since.length∧szWf a.s∧a.w * a.h = a.s.since.length∧0≤a.w∧0≤a.h
  res:=fun a x => .agg [.int .i64 a.w,.int .i64 a.h,.sl 7 (x 0) 1 0 (plL a.s).length]
  out:=fun _ _ => []
  new:=fun a x => [(x 0,.ints .i64 (plL a.s))]
set_option maxHeartbeats 1000000 in
theorem ok31:FSOk Try.prog 31 fs31:=by
  refine ⟨⟨_,Try.func31,by kernel_rfl,by kernel_rfl⟩,fun a => ⟨by simp [fs31,stM,push_cast,noMine,argOwn,Chunk.frArg],by simp [fs31,stM,push_cast,outOk,Chunk.ext],fun x => .inl (by simp [fs31,stM,push_cast,frNew,frOut,Chunk.fr])⟩,fun a hp => ?_⟩
  obtain ⟨p,⟨size,minus,since,now,list,kind,nst,band,ww⟩,w,h⟩:=a
  obtain ⟨h1,h2,h3,h4,h5⟩:stWf ⟨size,minus,since,now,list,kind,nst,band,ww⟩ since.length∧szWf ⟨size,minus,since,now,list,kind,nst,band,ww⟩∧w * h = since.length∧0≤w∧0≤h:=hp
  obtain ⟨o1,o2,o3,o4,o5,o6,o7,o8,o9,o10,o11⟩:=id h1
  simp only at o1 o2 o4 o5 o8
  obtain ⟨n,hn⟩:∃ n,since.length = n:=⟨_,rfl⟩
  rw [hn] at o1 o2 o4 o5 h3
  have hpl:plL ⟨size,minus,since,now,list,kind,nst,band,ww⟩ = (List.range n).map (pixF ⟨size,minus,since,now,list,kind,nst,band,ww⟩):=by unfold plL; rw [o1]
  have hpf:∀ k:Nat,pixF ⟨size,minus,since,now,list,kind,nst,band,ww⟩ k = if rdB minus (k:Nat) = true then - rd size (k:Nat) else rd size (k:Nat):=fun k => rfl
  have hsz:∀ k:Nat,k < n→0≤rd size (k:Nat)∧rd size (k:Nat) < 1099511627776:=fun k hk => h2.at (i:=(k:Int)) (by omega) (by simp only; omega)
  obtain ⟨f,hf⟩:∃ f,pixF ⟨size,minus,since,now,list,kind,nst,band,ww⟩ = f:=⟨_,rfl⟩
  rw [hf] at hpl hpf
  change Tri Try.prog 31 [.ptr 0 p.L 0 0 0,.int .i64 w,.int .i64 h] (stM p ⟨size,minus,since,now,list,kind,nst,band,ww⟩) (postF fs31 ⟨p,⟨size,minus,since,now,list,kind,nst,band,ww⟩,w,h⟩)
  refine tri_evS (hyp (l:=[]) (lp:=[]) trivial trivial) Try.func31 comp31 (rs:=[.cell 6 (some 3)]) (by rfl) Try.ntmps31 13 ?_
  simp -implicitDefEqProofs only [push_cast,zz,BEq.rfl,ite_true,ite_false,List.append_nil,reduceCtorEq,Nat.reduceAdd,Nat.reduceSub,Nat.reduceMul,Nat.reduceLeDiff,Nat.reduceLT,Nat.reduceEqDiff,Nat.reduceBEq,Nat.reduceBNe,Int.reduceNeg,Int.reduceToNat,ir31,stM,stV,o1,o2,hn,o4,h3]
  intro X X1
  repeat (refine And.intro (by first | omega | trivial | (intros; omega)) ?_)
  refine evS_loopU (A:=Nat) kp31_1 kl31_1 (fun k => [(22,.int .i64 k)]) (fun k => [(11,.mine,X1 5 11,.ints .i64 (prt n k f))]) (fun k => k≤n) (fun k => n - k) 0 (Nat.zero_le _) (Sub.pt ?_) ?_
  · have e0:prt n 0 f = List.replicate (n:Int).toNat 0:=by rw [prt_zero,Int.toNat_natCast]
    simp -implicitDefEqProofs only [push_cast,zz,BEq.rfl,ite_true,ite_false,List.append_nil,reduceCtorEq,Nat.reduceAdd,Nat.reduceSub,Nat.reduceMul,Nat.reduceLeDiff,Nat.reduceLT,Nat.reduceEqDiff,Nat.reduceBEq,Nat.reduceBNe,Int.reduceNeg,Int.reduceToNat,e0]
  intro k hk K hK
  have hk:k≤n:=hk
  by_cases hk':k < n
  · have hki:(k:Int) < n:=by omega
    have hs:=hsz k hk'
    have hset:(prt n k f).set k (f k) = prt n (k + 1) f:=prt_set hk' f
    rw [hpf k] at hset
    have hlen:=prt_length (Nat.le_of_lt hk') f
    obtain ⟨P,hP⟩:∃ P,prt n k f = P:=⟨_,rfl⟩
    rw [hP] at hset hlen
    obtain ⟨v,hv⟩:∃ v,rd size (k:Nat) = v:=⟨_,rfl⟩
    rw [hv] at hset hs
    obtain ⟨m,hm⟩:∃ m,rdB minus (k:Nat) = m:=⟨_,rfl⟩
    rw [hm] at hset
    cases m with
    | true =>
      rw [if_pos rfl] at hset
      simp -implicitDefEqProofs only [push_cast,zz,BEq.rfl,ite_true,ite_false,List.append_nil,reduceCtorEq,Nat.reduceAdd,Nat.reduceSub,Nat.reduceMul,Nat.reduceLeDiff,Nat.reduceLT,Nat.reduceEqDiff,Nat.reduceBEq,Nat.reduceBNe,Int.reduceNeg,Int.reduceToNat,b31_1,hki,hv,hm,hP,hlen,o1,o2,Int.toNat_natCast,hset]
      repeat (refine And.intro (by first | omega | trivial | (intros; omega)) ?_)
      refine hK (k + 1) (show k + 1≤n by omega) (show n - (k + 1) < n - k by omega) _ _ (Sub.pt ?_)
      simp -implicitDefEqProofs only [push_cast,zz,BEq.rfl,ite_true,ite_false,List.append_nil,reduceCtorEq,Nat.reduceAdd,Nat.reduceSub,Nat.reduceMul,Nat.reduceLeDiff,Nat.reduceLT,Nat.reduceEqDiff,Nat.reduceBEq,Nat.reduceBNe,Int.reduceNeg,Int.reduceToNat]
    | false =>
      rw [if_neg (by decide)] at hset
      simp -implicitDefEqProofs only [push_cast,zz,BEq.rfl,ite_true,ite_false,List.append_nil,reduceCtorEq,Nat.reduceAdd,Nat.reduceSub,Nat.reduceMul,Nat.reduceLeDiff,Nat.reduceLT,Nat.reduceEqDiff,Nat.reduceBEq,Nat.reduceBNe,Int.reduceNeg,Int.reduceToNat,b31_1,hki,hv,hm,hP,hlen,o1,o2,Int.toNat_natCast,hset]
      repeat (refine And.intro (by first | omega | trivial | (intros; omega)) ?_)
      refine hK (k + 1) (show k + 1≤n by omega) (show n - (k + 1) < n - k by omega) _ _ (Sub.pt ?_)
      simp -implicitDefEqProofs only [push_cast,zz,BEq.rfl,ite_true,ite_false,List.append_nil,reduceCtorEq,Nat.reduceAdd,Nat.reduceSub,Nat.reduceMul,Nat.reduceLeDiff,Nat.reduceLT,Nat.reduceEqDiff,Nat.reduceBEq,Nat.reduceBNe,Int.reduceNeg,Int.reduceToNat]
  · have hkn:k = n:=by omega
    subst hkn
    clear hK
    have hfin:prt k k f = (List.range k).map f:=prt_all k f
    rw [hfin,← hpl]
    have hpll:(plL ⟨size,minus,since,now,list,kind,nst,band,ww⟩).length = k:=by rw [hpl,List.length_map,List.length_range]
    simp -implicitDefEqProofs only [push_cast,zz,BEq.rfl,ite_true,ite_false,List.append_nil,reduceCtorEq,Nat.reduceAdd,Nat.reduceSub,Nat.reduceMul,Nat.reduceLeDiff,Nat.reduceLT,Nat.reduceEqDiff,Nat.reduceBEq,Nat.reduceBNe,Int.reduceNeg,Int.reduceToNat,b31_1,r31_2,Int.lt_irrefl]
    refine postF.mk' (fun _ => X1 5 11) [some 0,some 1,some 2,some 3,some 4,none,some 6,some 11] ?_
    simp -implicitDefEqProofs only [push_cast,zz,BEq.rfl,ite_true,ite_false,List.append_nil,reduceCtorEq,Nat.reduceAdd,Nat.reduceSub,Nat.reduceMul,Nat.reduceLeDiff,Nat.reduceLT,Nat.reduceEqDiff,Nat.reduceBEq,Nat.reduceBNe,Int.reduceNeg,Int.reduceToNat,fs31,stM,stV,o1,o2,hn,o4,hpll]
def ent31:Entry:=spOf fs31 invPs
theorem e31:EntryOk Try.prog 31 ent31:=entry_of ok31 invPs
@[push_cast] theorem ent31_app (us:List SV) (look:Look) (x:Nat→Xf.Loc) (k:Nat):ent31 us look x k = spOf fs31 invPs us look x k:=rfl
def maxA (xs:List Int):Int:=xs.foldl (fun m c => max m (max c (-c))) 0
theorem maxA_take {xs:List Int} {k:Nat} (h:k < xs.length):maxA (xs.take (k + 1)) = max (maxA (xs.take k)) (max (rd xs (k:Nat)) (- rd xs (k:Nat))):=by
  unfold maxA
  rw [List.take_succ_eq_append_getElem h,List.foldl_append,rd_lt xs k h]; rfl
theorem maxA_bd {xs:List Int} {B:Int} (hB:0≤B) (h:AllIn (-B) B xs):∀ k,k≤xs.length→0≤maxA (xs.take k)∧maxA (xs.take k)≤B
  | 0,_ => by simp [maxA]; exact hB
  | k + 1,hk => by
    have ih:=maxA_bd hB h k (by omega)
    have:=allIn_rd.1 h k (by omega)
    rw [maxA_take (by omega)]
    omega
def planesP (xs:List Int):Int:=lenP (maxA xs)
def fs40:FS where
  A:=PlA
  args:=fun a => [plV a.p a.L 0]
  mem:=fun a => [some (.ro,a.L,.ints .i64 a.p.xs)]
  pre:=fun a => AllIn (-16777216) 16777216 a.p.xs∧a.p.xs.length≤1000000
  res:=fun a _ => .int .i64 (planesP a.p.xs)
  out:=fun _ _ => []
  new:=fun _ _ => []
theorem ok40:FSOk Try.prog 40 fs40:=by
  refine ⟨⟨_,Try.func40,by kernel_rfl,by kernel_rfl⟩,fun a => ⟨by simp [fs40,push_cast,noMine,argOwn,Chunk.frArg],by simp [fs40,push_cast,outOk,Chunk.ext],fun x => .inl (by simp [fs40,push_cast,frNew,frOut,Chunk.fr])⟩,fun a hp => ?_⟩
  obtain ⟨⟨w,h,xs⟩,L⟩:=a
  obtain ⟨h1,h2⟩:AllIn (-16777216) 16777216 xs∧xs.length≤1000000:=hp
  have hmx:=maxA_bd (B:=16777216) (by decide) h1
  change Tri Try.prog 40 [plV ⟨w,h,xs⟩ L 0] [some (.ro,L,.ints .i64 xs)] (postF fs40 ⟨⟨w,h,xs⟩,L⟩)
  have hfin:planesP xs = lenP (maxA xs):=rfl
  refine tri_evS (hyp (l:=[]) (lp:=[(51,absF),(80,lenF)]) trivial ⟨p51,p80,trivial⟩) Try.func40 comp40 (rs:=[.tmp 2]) (by rfl) Try.ntmps40 11 ?_
  simp -implicitDefEqProofs only [push_cast,zz,BEq.rfl,ite_true,ite_false,List.append_nil,reduceCtorEq,Nat.reduceAdd,Nat.reduceSub,Nat.reduceMul,Nat.reduceLeDiff,Nat.reduceLT,Nat.reduceEqDiff,Nat.reduceBEq,Nat.reduceBNe,Int.reduceNeg,Int.reduceToNat,ir40]
  intro X
  refine evS_loopU (A:=Nat) kp40_1 kl40_1 (fun k => [(3,.int .i64 (maxA (xs.take k))),(9,.int .i64 k)]) (fun k => []) (fun k => k≤xs.length) (fun k => xs.length - k) 0 (Nat.zero_le _) (Sub.pt ?_) ?_
  · have e0:maxA (xs.take 0) = 0:=rfl
    simp -implicitDefEqProofs only [push_cast,zz,BEq.rfl,ite_true,ite_false,List.append_nil,reduceCtorEq,Nat.reduceAdd,Nat.reduceSub,Nat.reduceMul,Nat.reduceLeDiff,Nat.reduceLT,Nat.reduceEqDiff,Nat.reduceBEq,Nat.reduceBNe,Int.reduceNeg,Int.reduceToNat,e0]
  intro k hk K hK
  have hk:k≤xs.length:=hk
  have hb:=hmx k hk
  by_cases hk':k < xs.length
  · have hki:(k:Int) < xs.length:=by omega
    have ht:=maxA_take hk'
    have hx:=allIn_rd.1 h1 k hk'
    obtain ⟨m,hm⟩:∃ m,maxA (xs.take k) = m:=⟨_,rfl⟩
    obtain ⟨x,hxx⟩:∃ m,rd xs (k:Nat) = m:=⟨_,rfl⟩
    rw [hm] at ht hb
    rw [hxx] at ht hx
    simp -implicitDefEqProofs only [push_cast,zz,BEq.rfl,ite_true,ite_false,List.append_nil,reduceCtorEq,Nat.reduceAdd,Nat.reduceSub,Nat.reduceMul,Nat.reduceLeDiff,Nat.reduceLT,Nat.reduceEqDiff,Nat.reduceBEq,Nat.reduceBNe,Int.reduceNeg,Int.reduceToNat,b40_1,hki,hm,hxx]
    repeat (refine And.intro (by first | omega | trivial | (intros; omega)) ?_)
    refine hK (k + 1) (show k + 1≤xs.length by omega) (show xs.length - (k + 1) < xs.length - k by omega) _ _ (Sub.pt ?_)
    simp -implicitDefEqProofs only [push_cast,zz,BEq.rfl,ite_true,ite_false,List.append_nil,reduceCtorEq,Nat.reduceAdd,Nat.reduceSub,Nat.reduceMul,Nat.reduceLeDiff,Nat.reduceLT,Nat.reduceEqDiff,Nat.reduceBEq,Nat.reduceBNe,Int.reduceNeg,Int.reduceToNat,ht]
  · obtain rfl:k = xs.length:=by omega
    clear hK
    rw [List.take_length] at hb
    obtain ⟨m,hm⟩:∃ m,maxA xs = m:=⟨_,rfl⟩
    rw [hm] at hb hfin
    simp -implicitDefEqProofs only [push_cast,zz,BEq.rfl,ite_true,ite_false,List.append_nil,reduceCtorEq,Nat.reduceAdd,Nat.reduceSub,Nat.reduceMul,Nat.reduceLeDiff,Nat.reduceLT,Nat.reduceEqDiff,Nat.reduceBEq,Nat.reduceBNe,Int.reduceNeg,Int.reduceToNat,b40_1,r40_2,Int.lt_irrefl,List.take_length,hm]
    repeat (refine And.intro (by first | omega | trivial | (intros; omega)) ?_)
    refine postF.mk' (fun _ => default) [some 0] ?_
    simp -implicitDefEqProofs only [push_cast,zz,BEq.rfl,ite_true,ite_false,List.append_nil,reduceCtorEq,Nat.reduceAdd,Nat.reduceSub,Nat.reduceMul,Nat.reduceLeDiff,Nat.reduceLT,Nat.reduceEqDiff,Nat.reduceBEq,Nat.reduceBNe,Int.reduceNeg,Int.reduceToNat,fs40,hfin]
def ent40:Entry:=spOf fs40 inv39
theorem e40:EntryOk Try.prog 40 ent40:=entry_of ok40 inv39
@[push_cast] theorem ent40_app (us:List SV) (look:Look) (x:Nat→Xf.Loc) (k:Nat):ent40 us look x k = spOf fs40 inv39 us look x k:=rfl
def fs15:FS where
  A:=PlA
  args:=fun a => [plV a.p a.L 0]
  mem:=fun a => [some (.ro,a.L,.ints .i64 a.p.xs)]
  pre:=fun a => a.p.xs.length≤140737488355328
  res:=fun a _ => .tup [.int .i64 (if a.p.Ok then planesP a.p.xs else 0),.int .i64 (if a.p.Ok then 0 else 70)]
  out:=fun _ _ => []
  new:=fun _ _ => []
theorem Pl.Ok.len {p:Pl} (h:p.Ok):p.xs.length≤8192:=by
  obtain ⟨⟨a1,a2,a3,a4,a5⟩,b,_⟩:=h
  omega
theorem ok15:FSOk Try.prog 15 fs15:=by
  refine ⟨⟨_,Try.func15,by kernel_rfl,by kernel_rfl⟩,fun a => ⟨by simp [fs15,push_cast,noMine,argOwn,Chunk.frArg],by simp [fs15,push_cast,outOk,Chunk.ext],fun x => .inl (by simp [fs15,push_cast,frNew,frOut,Chunk.fr])⟩,fun a hp => ?_⟩
  obtain ⟨⟨w,h,xs⟩,L⟩:=a
  have h1:xs.length≤140737488355328:=hp
  change Tri Try.prog 15 [plV ⟨w,h,xs⟩ L 0] [some (.ro,L,.ints .i64 xs)] (postF fs15 ⟨⟨w,h,xs⟩,L⟩)
  refine tri_evS (hyp (l:=[(39,ent39),(40,ent40)]) (lp:=[]) ⟨e39,e40,trivial⟩ trivial) Try.func15 comp15 (rs:=[.tmp 2,.tmp 3]) (by rfl) Try.ntmps15 19 ?_
  by_cases hok:(⟨w,h,xs⟩:Pl).Ok
  · have hl:=hok.len
    have hall:=hok.2.2
    simp only at hl hall
    simp -implicitDefEqProofs only [push_cast,zz,BEq.rfl,ite_true,ite_false,List.append_nil,reduceCtorEq,Nat.reduceAdd,Nat.reduceSub,Nat.reduceMul,Nat.reduceLeDiff,Nat.reduceLT,Nat.reduceEqDiff,Nat.reduceBEq,Nat.reduceBNe,Int.reduceNeg,Int.reduceToNat,ir15,fs39,fs40,hok,hall]
    intro X
    repeat (refine And.intro (by first | omega | trivial | (intros; omega)) ?_)
    refine postF.mk' (fun _ => default) [some 0] ?_
    simp -implicitDefEqProofs only [push_cast,zz,BEq.rfl,ite_true,ite_false,List.append_nil,reduceCtorEq,Nat.reduceAdd,Nat.reduceSub,Nat.reduceMul,Nat.reduceLeDiff,Nat.reduceLT,Nat.reduceEqDiff,Nat.reduceBEq,Nat.reduceBNe,Int.reduceNeg,Int.reduceToNat,fs15,hok]
  · simp -implicitDefEqProofs only [push_cast,zz,BEq.rfl,ite_true,ite_false,List.append_nil,reduceCtorEq,Nat.reduceAdd,Nat.reduceSub,Nat.reduceMul,Nat.reduceLeDiff,Nat.reduceLT,Nat.reduceEqDiff,Nat.reduceBEq,Nat.reduceBNe,Int.reduceNeg,Int.reduceToNat,ir15,fs39,fs40,hok]
    intro X
    repeat (refine And.intro (by first | omega | trivial | (intros; omega)) ?_)
    refine postF.mk' (fun _ => default) [some 0] ?_
    simp -implicitDefEqProofs only [push_cast,zz,BEq.rfl,ite_true,ite_false,List.append_nil,reduceCtorEq,Nat.reduceAdd,Nat.reduceSub,Nat.reduceMul,Nat.reduceLeDiff,Nat.reduceLT,Nat.reduceEqDiff,Nat.reduceBEq,Nat.reduceBNe,Int.reduceNeg,Int.reduceToNat,fs15,hok]
def ent15:Entry:=spOf fs15 inv39
theorem e15:EntryOk Try.prog 15 ent15:=entry_of ok15 inv39
@[push_cast] theorem ent15_app (us:List SV) (look:Look) (x:Nat→Xf.Loc) (k:Nat):ent15 us look x k = spOf fs15 inv39 us look x k:=rfl
def Bck.er (x:Bck):Bck:=⟨nilLoc,x.b,x.on⟩
def StS.er (s:StS):StS:=⟨s.size,s.minus,s.since,s.now,s.list.map Bck.er,s.kind,s.nst,s.band,s.w⟩
theorem numG_er {β:Type} (bit:β→Int→Bool→Bool × Int × β) (s:StS) (x:β) (i t:Int) (on dig neg:Bool):numG bit s.er x i t on dig neg = ((numG bit s x i t on dig neg).1.er,(numG bit s x i t on dig neg).2):=by
  have h1:oldP s.er i↔oldP s i:=Iff.rfl
  have h2:dctxP s.er i = dctxP s i:=rfl
  have h3:nctxP s.er i = nctxP s i:=rfl
  unfold numG
  rw [h2,h3]
  by_cases ho:oldP s i
  · rw [if_pos ho,if_pos (h1.2 ho)]
    split
    · split <;> rfl
    · rfl
  · rw [if_neg ho,if_neg (fun h => ho (h1.1 h))]
    split
    · split
      · split
        · split <;> rfl
        · rfl
      · rfl
    · rfl
theorem plsG_er {β:Type} (bit:β→Int→Bool→Bool × Int × β) (f:List Int) (t:Int) (on:Bool):∀ (l:List Int) (s:StS) (x:β),plsG bit f t on l s.er x = ((plsG bit f t on l s x).1.er,(plsG bit f t on l s x).2)
  | [],s,x => rfl
  | i :: l,s,x => by
    rw [plsG,plsG,numG_er]
    simp only
    split
    · exact plsG_er bit f t on l _ _
    · rfl
theorem rdBk_er {l:List Bck} {i:Nat} (h:i < l.length):rdBk (l.map Bck.er) i = (rdBk l i).er:=by
  rw [rdBk_nat (by simpa using h),rdBk_nat h,List.getElem_map]
theorem setOn_er {s:StS} {i:Nat} (h:i < s.list.length) (b:Bool):setOn s.er i b = (setOn s i b).er:=by
  unfold setOn StS.er onBk
  simp only [rdBk_er h,List.map_set]
  rfl
theorem abP_er (s:StS) {q:Int} (h:q < s.list.length):abP s.er q = abP s q:=by
  unfold abP
  split
  · have:rdBk s.er.list q.toNat = (rdBk s.list q.toNat).er:=rdBk_er (by omega)
    rw [this]; rfl
  · rfl
theorem bktG_er {β:Type} (bit:β→Int→Bool→Bool × Int × β) (f:List Int) (t:Int) {i:Nat} {s:StS} (x:β) (h:i < s.list.length) (hq:(rdBk s.list i).b.parent < s.list.length):bktG bit f t i s.er x = ((bktG bit f t i s x).1.er,(bktG bit f t i s x).2):=by
  have e1:rdBk s.er.list i = (rdBk s.list i).er:=rdBk_er h
  have e2:(rdBk s.list i).er.b = (rdBk s.list i).b:=rfl
  have e3:∀ pl,allP s.er pl = allP s pl:=fun _ => rfl
  have e4:∀ pl,onP s.er pl f t = onP s pl f t:=fun _ => rfl
  have e5:bctxP (setOn s.er i false) (rdBk s.list i).b = bctxP (setOn s i false) (rdBk s.list i).b:=by
    rw [setOn_er h]
    unfold bctxP
    rw [abP_er _ (by simp only [setOn,onBk_len]; exact hq)]
    rfl
  unfold bktG
  rw [e1,e2,e3,e4,e5]
  simp only [setOn_er h]
  split
  · exact plsG_er bit f t _ _ _ _
  · split
    · exact plsG_er bit f t _ _ _ _
    · rfl
def parOk (l:List Bck):Prop:=∀ i,i < l.length→(rdBk l i).b.parent < l.length
theorem sameK.at {l m:List Bck} (h:sameK l m) {i:Nat} (hi:i < l.length):(rdBk l i).b = (rdBk m i).b∧(rdBk l i).L = (rdBk m i).L:=by
  have hm:i < m.length:=by rw [← h.len]; exact hi
  have e:(l.map (fun x => (x.L,x.b)))[i]'(by simpa using hi) = (m.map (fun x => (x.L,x.b)))[i]'(by simpa using hm):=by
    have:=h
    unfold sameK at this
    simp only [this]
  simp only [List.getElem_map,Prod.mk.injEq] at e
  rw [rdBk_nat hi,rdBk_nat hm]
  exact ⟨e.2,e.1⟩
theorem parOk.same {l m:List Bck} (h:sameK l m) (hm:parOk m):parOk l:=fun i hi => by
  rw [(h.at hi).1,h.len]
  exact hm i (by rw [← h.len]; exact hi)
theorem slcG_er {β:Type} (bit:β→Int→Bool→Bool × Int × β) (f:List Int) (t:Int):∀ (k i:Nat) (s:StS) (x:β),i + k = s.list.length→parOk s.list→slcG bit f t k i s.er x = ((slcG bit f t k i s x).1.er,(slcG bit f t k i s x).2)
  | 0,i,s,x,_,_ => rfl
  | k + 1,i,s,x,hk,hp => by
    have hb:=bktG_k bit f t i s x
    rw [slcG,slcG,bktG_er bit f t x (by omega) (hp i (by omega))]
    simp only
    split
    · exact slcG_er bit f t k (i + 1) _ _ (by rw [hb.len]; omega) (hp.same hb)
    · rfl
def encStep (f:List Int) (t:Int) (s:StS) (st:List Int):StS × EnS × Int:=slcG putG f t s.list.length 0 s (newEn s.kind st)
def encG (f:List Int):Nat→StS→List Int→List (List Int)
  | 0,_,_ => []
  | k + 1,s,st => encEnd (encStep f k s st).2.1 :: encG f k (encStep f k s st).1 (encStep f k s st).2.1.st
theorem encStep_er (f:List Int) (t:Int) (s:StS) (st:List Int) (h:parOk s.list):encStep f t s.er st = ((encStep f t s st).1.er,(encStep f t s st).2):=by
  have:=slcG_er putG f t s.list.length 0 s (newEn s.kind st) (by omega) h
  unfold encStep
  rw [← this]
  have e:s.er.list.length = s.list.length:=by simp [StS.er]
  rw [e]; rfl
theorem encG_er (f:List Int):∀ (k:Nat) (s:StS) (st:List Int),parOk s.list→encG f k s.er st = encG f k s st
  | 0,s,st,_ => rfl
  | k + 1,s,st,h => by
    rw [encG,encG,encStep_er f k s st h]
    simp only
    rw [encG_er f k (encStep f k s st).1 _ (h.same (slcG_k putG f k s.list.length 0 s (newEn s.kind st)))]
def st00 (a:BgA):StS:=st0 a fun _ => nilLoc
theorem st0_er (a:BgA) (f:Nat→Xf.Loc):(st0 a f).er = st00 a:=by
  unfold st0 st00 StS.er st0 bkOf
  simp only [List.map_map]
  rfl
theorem plF_bd {w h:Int} {b:Bd} (hx:0≤b.x) (hy:0≤b.y) (hw:b.x + b.w≤w) (hh:b.y + b.h≤h) {r c:Int} {dy dx:Nat} (hr:0≤r) (hc:0≤c) (h1:r * 4 + dy < b.h) (h2:c * 4 + dx < b.w):0≤plF w b r c dy dx∧plF w b r c dy dx < w * h:=by
  unfold plF
  have a1:=Int.mul_nonneg (show 0≤b.y + (r * 4 + (dy:Int)) by omega) (show 0≤w by omega)
  have a2:=Int.mul_le_mul_of_nonneg_right (show b.y + (r * 4 + (dy:Int)) + 1≤h by omega) (show 0≤w by omega)
  rw [Int.add_mul,Int.one_mul,Int.mul_comm h w] at a2
  omega
theorem pls_bd {w h:Int} {b:Bd} (hx:0≤b.x) (hy:0≤b.y) (hw:b.x + b.w≤w) (hh:b.y + b.h≤h) {r c:Int} (hr:0≤r) (hc:0≤c):∀ x ∈ plAll w b r c (khB b r).toNat,0≤x∧x < w * h:=fun x hm => by
  unfold plAll plRow at hm
  rw [List.mem_flatMap] at hm
  obtain ⟨dy,hdy,hm⟩:=hm
  rw [List.mem_map] at hm
  obtain ⟨dx,hdx,rfl⟩:=hm
  rw [List.mem_range] at hdy hdx
  unfold khB at hdy
  unfold kwB at hdx
  exact plF_bd hx hy hw hh hr hc (by omega) (by omega)
def bkGood (w h:Int) (n:Nat) (x:Pb):Prop:=-1≤x.parent∧x.parent < n∧x.places.length≤16∧∀ p ∈ x.places,0≤p∧p < w * h
theorem bkGood.mono {w h:Int} {n m:Nat} {x:Pb} (H:bkGood w h n x) (hnm:n≤m):bkGood w h m x:=⟨H.1,by have:=H.2.1; omega,H.2.2⟩
def grGood (n:Nat) (g:Gr):Prop:=1≤colsB g.band∧1≤rowsB g.band∧g.frm + rowsB g.band * colsB g.band≤n
theorem par_lt {R C r c:Int} (h1:1≤R) (h2:1≤C) (hr:0≤r) (hc:0≤c):0≤min r (R - 1) * C + min c (C - 1)∧min r (R - 1) * C + min c (C - 1) < R * C:=by
  have a:=Int.mul_nonneg (show 0≤min r (R - 1) by omega) (show 0≤C by omega)
  have b:=Int.mul_le_mul_of_nonneg_right (show min r (R - 1)≤R - 1 by omega) (show 0≤C by omega)
  rw [Int.sub_mul,Int.one_mul] at b
  omega
theorem bkAt_good {w h:Int} {G:List Gr} {b:Bd} {n:Nat} (hG:∀ g ∈ G,grGood n g) (hx:0≤b.x) (hy:0≤b.y) (hw:b.x + b.w≤w) (hh:b.y + b.h≤h) {r c:Nat}:bkGood w h n (bkAt w G b r c):=by
  unfold bkAt bkGood
  simp only
  have hpar:-1≤parP G (findG G b) r c∧parP G (findG G b) r c < n:=by
    unfold parP
    cases hF:findG G b with
    | none => simp only; omega
    | some i =>
      have hi:=findG_lt hF
      obtain ⟨g1,g2,g3⟩:=hG _ (by rw [rdGr_nat hi]; exact List.getElem_mem hi:rdGr G i ∈ G)
      have:=par_lt (r:=(r:Int) / 2) (c:=(c:Int) / 2) g2 g1 (by omega) (by omega)
      simp only
      omega
  refine ⟨hpar.1,hpar.2,?_,pls_bd hx hy hw hh (by omega) (by omega)⟩
  rw [plAll_len]
  have h1:(kwB b c).toNat≤4:=by unfold kwB; omega
  have h2:(khB b r).toNat≤4:=by unfold khB; omega
  exact Nat.le_trans (Nat.mul_le_mul h2 h1) (by decide)
theorem bkFold_good {w h:Int} {l:List Bd} (hl:∀ b ∈ l,0≤b.x∧0≤b.y∧1≤b.w∧1≤b.h∧b.x + b.w≤w∧b.y + b.h≤h):∀ i,i≤l.length→(∀ b ∈ (bkFold w (l.take i)).1,bkGood w h (bkFold w (l.take i)).1.length b)∧(∀ g ∈ (bkFold w (l.take i)).2,grGood (bkFold w (l.take i)).1.length g)
  | 0,_ => by simp [bkFold]
  | i + 1,hi => by
    obtain ⟨h1,h2⟩:=bkFold_good hl i (by omega)
    obtain ⟨b1,b2,b3,b4,b5,b6⟩:=hl _ (rdBd_mem (show i < l.length by omega))
    rw [bkFold_succ w (by omega)]
    obtain ⟨⟨O,G⟩,hOG⟩:∃ s,bkFold w (l.take i) = s:=⟨_,rfl⟩
    rw [hOG] at h1 h2 ⊢
    unfold bkStep
    simp only at h1 h2 ⊢
    obtain ⟨b,hb⟩:∃ b,rdBd l i = b:=⟨_,rfl⟩
    rw [hb] at b1 b2 b3 b4 b5 b6 ⊢
    have hlen:(O++bkBand w G b (rowsB b).toNat).length = O.length + (rowsB b).toNat * (colsB b).toNat:=by rw [List.length_append,bkBand_len]
    have hle:O.length≤(O++bkBand w G b (rowsB b).toNat).length:=by rw [hlen]; exact Nat.le_add_right _ _
    have hrc:1≤colsB b∧1≤rowsB b:=by unfold colsB rowsB; omega
    refine ⟨fun x hx => ?_,fun g hg => ?_⟩
    · rcases List.mem_append.1 hx with hx | hx
      · exact (h1 x hx).mono hle
      · unfold bkBand bkRow at hx
        rw [List.mem_flatMap] at hx
        obtain ⟨r,hr,hx⟩:=hx
        rw [List.mem_map] at hx
        obtain ⟨c,hc,rfl⟩:=hx
        exact (bkAt_good h2 b1 b2 b5 b6).mono hle
    · rcases List.mem_append.1 hg with hg | hg
      · obtain ⟨g1,g2,g3⟩:=h2 g hg
        exact ⟨g1,g2,by omega⟩
      · rw [List.mem_singleton] at hg
        subst hg
        refine ⟨hrc.1,hrc.2,?_⟩
        simp only
        rw [hlen]
        obtain ⟨C,hC⟩:∃ C:Nat,colsB b = C:=⟨(colsB b).toNat,by omega⟩
        obtain ⟨R,hR⟩:∃ C:Nat,rowsB b = C:=⟨(rowsB b).toNat,by omega⟩
        rw [hC,hR]
        simp only [Int.toNat_natCast]
        push_cast
        omega
theorem bkts_good {w h n:Int} (hb:bnOk w h n):∀ b ∈ bkts w h n,bkGood w h (bkts w h n).length b:=by
  have:=(bkFold_good (w:=w) (h:=h) (l:=bnL w h n) (fun b hm => by have:=bnL_in hb hm; omega) (bnL w h n).length (Nat.le_refl _)).1
  rw [List.take_length] at this
  exact this
theorem bkts_len {w h n:Int} (hb:bnOk w h n):(bkts w h n).length≤50000:=by
  have hl19:=bnL_le w h n
  have:=(bkFold_len w (l:=bnL w h n) (fun b hm => by have:=bnL_in hb hm; obtain ⟨_,_,q1,q2,q3,q4⟩:=hb; unfold Bd.ok; omega) (bnL w h n).length (Nat.le_refl _)).1
  rw [List.take_length] at this
  unfold bkts
  omega
theorem bkOf_mem {f:Nat→Xf.Loc} {l:List Pb} {x:Bck} (h:x ∈ bkOf f l):x.b ∈ l∧x.on = false:=by
  unfold bkOf at h
  rw [List.mem_map] at h
  obtain ⟨i,hi,rfl⟩:=h
  rw [List.mem_range] at hi
  refine ⟨?_,rfl⟩
  simp only [List.getD_eq_getElem?_getD,List.getElem?_eq_getElem hi,Option.getD_some]
  exact List.getElem_mem hi
theorem st0_wf {a:BgA} (hb:bnOk a.w a.h a.n) (hwh:a.w * a.h≤8192) (f:Nat→Xf.Loc):stWf (st0 a f) (a.w * a.h).toNat∧szWf (st0 a f)∧parOk (st0 a f).list:=by
  have hg:=bkts_good hb
  have hl:=bkts_len hb
  have hp0:0≤a.w * a.h:=Int.mul_nonneg hb.2.2.1 hb.2.2.2.2.1
  refine ⟨⟨by simp [st0],by simp [st0],by simp [st0],by simp [st0,bandL_len],by omega,by simp [st0],by simp [st0],by simp only [st0,bkOf_len]; exact hl,fun h => ?_,hb.2.2.2.1,fun b hm => ?_⟩,fun x hx => ?_,fun i hi => ?_⟩
  · show 0 < a.w
    rcases Int.lt_or_le 0 a.w with h' | h'
    · exact h'
    · have:a.w = 0:=by have:=hb.2.2.1; omega
      rw [this,Int.zero_mul] at h
      simp at h
  · obtain ⟨g1,g2,g3,g4⟩:=hg _ (bkOf_mem hm).1
    refine ⟨g1,by simp only [st0,bkOf_len]; exact g2,g3,fun x hx => ?_⟩
    have:=g4 x hx
    omega
  · have:x = 0:=by have h:=hx; simp [st0] at h; exact h.2
    omega
  · simp only [st0,bkOf_len] at hi ⊢
    obtain ⟨g1,g2,g3,g4⟩:=hg _ (bkOf_mem (by rw [rdBk_nat (by rw [bkOf_len]; exact hi)]; exact List.getElem_mem _:rdBk (bkOf f (bkts a.w a.h a.n)) i ∈ bkOf f (bkts a.w a.h a.n))).1
    exact g2
def b14_1:IR :=
  .seq (.seq (.reg false [⟨some 32,none,⟨[],[]⟩,.mov (.t 10)⟩,
    ⟨some 33,none,⟨[],[]⟩,.bin 0 .geq (.t 32) (.k (.int .i64 0))⟩] [32] []) (.cond (.t 33) (.skip) (.exit 1))) (.seq (.block 2 (.seq (.reg false [⟨some 37,none,⟨[],[]⟩,.mov (.t 8)⟩,
    ⟨some 38,none,⟨[],[]⟩,.nilc (.t 37)⟩,
    ⟨some 39,none,⟨[],[]⟩,.fld (.t 38) 5⟩,
    ⟨some 40,none,⟨[],[]⟩,.ld false (some 2) 0 0 (.t 39)⟩,
    ⟨some 41,none,⟨[],[]⟩,.call (some 4) 27 41 [.t 40]⟩,
    ⟨some 36,none,⟨[],[]⟩,.mov (.t 41)⟩,
    ⟨some 42,none,⟨[],[]⟩,.ext (.t 36) 0⟩,
    ⟨some 43,none,⟨[],[]⟩,.ext (.t 36) 1⟩,
    ⟨some 11,none,⟨[],[]⟩,.alloc 31 [.val (.pointer none)]⟩,
    ⟨none,none,⟨[],[]⟩,.sto false 1 .i64 (.t 11) (.t 42)⟩,
    ⟨some 12,none,⟨[],[]⟩,.mov (.t 43)⟩] [12,33,36,37,38,39,40,41,42,43] []) (.seq (.reg false [⟨some 44,none,⟨[],[]⟩,.mov (.t 8)⟩,
    ⟨some 45,none,⟨[],[]⟩,.mov (.t 10)⟩,
    ⟨some 46,none,⟨[],[]⟩,.fld (.t 3) 2⟩,
    ⟨some 47,none,⟨[],[]⟩,.ld false none 0 0 (.t 46)⟩,
    ⟨some 48,none,⟨[],[]⟩,.mkf 42 [.t 11]⟩,
    ⟨some 49,none,⟨[],[]⟩,.call none 32 27 [.t 44,.t 45,.t 47,.t 48]⟩] [44,45,46,47,48,49] []) (.seq (.reg false [⟨some 50,none,⟨[],[]⟩,.mov (.t 8)⟩,
    ⟨some 51,none,⟨[],[]⟩,.ld false none 0 0 (.t 11)⟩,
    ⟨some 52,none,⟨[],[]⟩,.call (some 4) 36 44 [.t 51]⟩,
    ⟨some 53,none,⟨[],[]⟩,.nilc (.t 50)⟩,
    ⟨some 54,none,⟨[],[]⟩,.fld (.t 53) 5⟩,
    ⟨none,none,⟨[],[]⟩,.sto false 2 .i64 (.t 54) (.t 52)⟩] [50,51,52,53,54] []) (.reg false [⟨some 55,none,⟨[],[]⟩,.mov (.t 9)⟩,
    ⟨some 56,none,⟨[],[]⟩,.ld false none 0 0 (.t 11)⟩,
    ⟨some 57,none,⟨[],[]⟩,.call (some 4) 40 45 [.t 56]⟩,
    ⟨some 58,none,⟨[],[]⟩,.brecs 44 1 .u8 [.t 57]⟩,
    ⟨some 59,none,⟨[],[]⟩,.app 45 1 24 (.t 55) (.t 58)⟩,
    ⟨some 9,none,⟨[],[]⟩,.mov (.t 59)⟩] [11,55,56,57,58,59] []))))) (.reg false [⟨some 34,none,⟨[],[]⟩,.mov (.t 10)⟩,
    ⟨some 35,none,⟨[],[]⟩,.bin 0 .sub (.t 34) (.k (.int .i64 1))⟩,
    ⟨some 10,none,⟨[],[]⟩,.mov (.t 35)⟩] [34,35] []))
def r14_2:IR :=
  .seq (.reg false [⟨some 60,none,⟨[],[]⟩,.mov (.t 9)⟩,
    ⟨some 6,none,⟨[],[]⟩,.mov (.t 60)⟩,
    ⟨some 7,none,⟨[],[]⟩,.mov (.k (.int .i64 0))⟩] [3,8,9,10,60] []) (.ret)
def ir14:IR :=
  .seq (.reg false [⟨some 3,none,⟨[],[]⟩,.box 10 (.t 0)⟩,
    ⟨some 6,none,⟨[],[]⟩,.mov (.k nilSV)⟩,
    ⟨some 7,none,⟨[],[]⟩,.mov (.k (.int .i64 0))⟩] [0,6,7] []) (.seq (.block 0 (.seq (.reg false [⟨some 14,none,⟨[],[]⟩,.ld false (some 3) 0 0 (.t 3)⟩,
    ⟨some 15,none,⟨[],[]⟩,.call (some 4) 11 39 [.t 14]⟩,
    ⟨some 16,none,⟨[],[]⟩,.not (.t 15)⟩,
    ⟨some 13,none,⟨[],[]⟩,.mov (.t 16)⟩] [14,15,16] []) (.cond (.t 13) (.seq (.reg false [⟨some 6,none,⟨[],[]⟩,.mov (.k nilSV)⟩,
    ⟨some 7,none,⟨[],[]⟩,.mov (.k (.int .i64 70))⟩] [1,2,3,13] []) (.ret)) (.seq (.reg false [⟨some 18,none,⟨[],[]⟩,.mov (.t 1)⟩,
    ⟨some 19,none,⟨[],[]⟩,.mov (.t 2)⟩,
    ⟨some 20,none,⟨[],[]⟩,.callp 24 [.t 18,.t 19]⟩,
    ⟨some 21,none,⟨[],[]⟩,.not (.t 20)⟩,
    ⟨some 17,none,⟨[],[]⟩,.mov (.t 21)⟩] [13,18,19,20,21] []) (.cond (.t 17) (.seq (.reg false [⟨some 6,none,⟨[],[]⟩,.mov (.k nilSV)⟩,
    ⟨some 7,none,⟨[],[]⟩,.mov (.k (.int .i64 2))⟩] [1,2,3,17] []) (.ret)) (.skip)))))) (.seq (.reg false [⟨some 22,none,⟨[],[]⟩,.fld (.t 3) 0⟩,
    ⟨some 23,none,⟨[],[]⟩,.ld false none 0 0 (.t 22)⟩,
    ⟨some 24,none,⟨[],[]⟩,.fld (.t 3) 1⟩,
    ⟨some 25,none,⟨[],[]⟩,.ld false none 0 0 (.t 24)⟩,
    ⟨some 26,none,⟨[],[]⟩,.mov (.t 1)⟩,
    ⟨some 27,none,⟨[],[]⟩,.mov (.t 2)⟩,
    ⟨some 28,none,⟨[],[]⟩,.call (some 8) 15 25 [.t 23,.t 25,.t 26,.t 27]⟩,
    ⟨some 8,none,⟨[],[]⟩,.mov (.t 28)⟩] [1,2,6,7,17,22,23,24,25,26,27,28] []) (.seq (.reg false [⟨some 9,none,⟨[],[]⟩,.mov (.k nilSV)⟩] [] []) (.seq (.seq (.reg false [⟨some 29,none,⟨[],[]⟩,.ld false (some 3) 0 0 (.t 3)⟩,
    ⟨some 30,none,⟨[],[]⟩,.call (some 4) 23 40 [.t 29]⟩,
    ⟨some 31,none,⟨[],[]⟩,.bin 0 .sub (.t 30) (.k (.int .i64 1))⟩,
    ⟨some 10,none,⟨[],[]⟩,.mov (.t 31)⟩] [29,30,31] []) (.block 1 (.loop b14_1))) (r14_2)))))
def kp14_1:List Nat:=[3,8,9,10]
def kl14_1:List Nat:=[27,28,29,30,31,32,33,34,35,36,37,38,39,40,41,42,43,44,45]
attribute [push_cast] kp14_1 kl14_1
set_option maxRecDepth 4000 in
theorem comp14:(Try.f14.body.bind fun c => compC tab isP chkAll ir14 c) = some ir14:=by kernel_rfl
def byRc (x:Xf.Loc × List Int):List RC:=[.row x.1 .u8 x.2]
def byOf (f:Nat→Xf.Loc) (l:List (List Int)):List (List RC):=(List.range l.length).map fun i => byRc (f i,l.getD i [])
theorem byOf_eq {l:List (Xf.Loc × List Int)} {m:List (List Int)} (h:l.map (·.2) = m):byOf (fun i => (l.getD i (nilLoc,[])).1) m = l.map byRc:=by
  subst h
  unfold byOf
  refine List.ext_getElem (by simp) fun i h1 h2 => ?_
  have hi:i < l.length:=by simpa using h2
  simp [List.getD_eq_getElem?_getD,hi]
structure EcA where
  p:Pl
  L:Xf.Loc
  lv:Int
  kd:Int
def encP (p:Pl) (lv kd:Int):List (List Int):=if p.Ok∧argsOk lv kd then encG p.xs (planesP p.xs).toNat (st00 ⟨p.w,p.h,lv,kd⟩) (List.replicate 12 0) else []
def encE (p:Pl) (lv kd:Int):Int:=if p.Ok then (if argsOk lv kd then 0 else 2) else 70
def fs14:FS where
  A:=EcA
  args:=fun a => [plV a.p a.L 0,.int .i64 a.lv,.int .i64 a.kd]
  mem:=fun a => [some (.ro,a.L,.ints .i64 a.p.xs)]
  pre:=fun a => a.p.xs.length≤140737488355328
  res:=fun a x => .tup [.sl 1 (lx (a.p.Ok∧argsOk a.lv a.kd) x 0) 1 0 (encP a.p a.lv a.kd).length,.int .i64 (encE a.p a.lv a.kd)]
  out:=fun _ _ => []
  new:=fun a x => [(lx (a.p.Ok∧argsOk a.lv a.kd) x 0,.recs 1 true [] (byOf (fun i => x (i + 1)) (encP a.p a.lv a.kd)))]
def inv14:List SV→Look→Option (EcA × List Nat)
  | [v,.int .i64 lv,.int .i64 kd],look => match getP look v with
    | some (a,g) => some (⟨a.p,a.L,lv,kd⟩,g)
    | none => none
  | _,_ => none
attribute [push_cast] inv14
theorem newEn_ok {kind:Int} {st:List Int} (h:mdOk kind st):(newEn kind st).ok:=by
  obtain ⟨h1,h2⟩:=h
  have e1:(newEn kind st).low = 0:=rfl
  have e2:(newEn kind st).high = 4294967295:=rfl
  have e3:(newEn kind st).st = st:=rfl
  unfold EnS.ok ivOk2
  rw [e1,e2,e3]
  exact ⟨h1,by omega,by decide,by decide,by decide,by decide⟩
theorem zero12_ok {kind:Int} (h:kind = 0∨kind = 1):mdOk kind (List.replicate 12 0):=by
  refine ⟨⟨h,fun s hs => ?_⟩,by simp⟩
  rw [List.eq_of_mem_replicate hs]
  exact ⟨by decide,fun _ => by decide,fun _ => by decide⟩
theorem EnS.ok.md {e:EnS} (h:e.ok) (h12:e.st.length = 12):mdOk e.kind e.st:=⟨h.1,by omega⟩
theorem lenN_lt {k n:Nat} (h:n < 2 ^ k):lenN n≤k:=by
  rcases Nat.lt_or_ge k (lenN n) with hk | hk
  · have:=(lenN_bd n).2 (by
      rcases Nat.eq_zero_or_pos n with h0 | h0
      · subst h0; simp [lenN] at hk
      · exact h0)
    have h2:=Nat.pow_le_pow_right (n:=2) (by decide) (show k≤lenN n - 1 by omega)
    omega
  · exact hk
theorem planesP_bd {xs:List Int} (h:AllIn (-16777216) 16777216 xs):0≤planesP xs∧planesP xs≤25:=by
  have:=maxA_bd (B:=16777216) (by decide) h xs.length (Nat.le_refl _)
  rw [List.take_length] at this
  unfold planesP lenP
  have:lenN (maxA xs).toNat≤25:=lenN_lt (by omega)
  omega
set_option maxHeartbeats 1000000 in
theorem ok14:FSOk Try.prog 14 fs14:=by
  refine ⟨⟨_,Try.func14,by kernel_rfl,by kernel_rfl⟩,fun a => ⟨by simp [fs14,push_cast,noMine,argOwn,Chunk.frArg],by simp [fs14,push_cast,outOk,Chunk.ext],fun x => .inl (by simp [fs14,push_cast,frNew,frOut,Chunk.fr])⟩,fun a hp => ?_⟩
  obtain ⟨⟨w,h,xs⟩,L,lv,kd⟩:=a
  have h1:xs.length≤140737488355328:=hp
  change Tri Try.prog 14 [plV ⟨w,h,xs⟩ L 0,.int .i64 lv,.int .i64 kd] [some (.ro,L,.ints .i64 xs)] (postF fs14 ⟨⟨w,h,xs⟩,L,lv,kd⟩)
  refine tri_evS (hyp (l:=[(39,ent39),(25,ent25),(40,ent40),(41,ent41),(27,ent27E),(44,ent44),(45,ent45)]) (lp:=[(24,rightF)]) ⟨e39,e25,e40,e41,e27E,e44,e45,trivial⟩ ⟨p24,trivial⟩) Try.func14 comp14 (rs:=[.tmp 6,.tmp 7]) (by rfl) Try.ntmps14 46 ?_
  by_cases hok:(⟨w,h,xs⟩:Pl).Ok
  · by_cases hag:argsOk lv kd
    · have hE:encE ⟨w,h,xs⟩ lv kd = 0:=by unfold encE; rw [if_pos hok,if_pos hag]
      have hP:encP ⟨w,h,xs⟩ lv kd = encG xs (planesP xs).toNat (st00 ⟨w,h,lv,kd⟩) (List.replicate 12 0):=by unfold encP; rw [if_pos ⟨hok,hag⟩]
      obtain ⟨⟨a1,a2,a3,a4,a5⟩,b1,hall⟩:=id hok
      simp only at a1 a2 a3 a4 a5 b1 hall
      have hl:=hok.len
      simp only at hl
      have hbn:bnOk w h lv:=⟨hag.1,hag.2.1,by omega,by omega,by omega,by omega⟩
      have hwf:=fun f => st0_wf (a:=⟨w,h,lv,kd⟩) hbn (by simp only; omega) f
      have hkd:=hag.2.2
      have hpb:=planesP_bd hall
      have her:=fun f => st0_er ⟨w,h,lv,kd⟩ f
      rw [show st00 ⟨w,h,lv,kd⟩ = (st0 ⟨w,h,lv,kd⟩ fun _ => nilLoc).er from (her _).symm] at hP
      have hst:∀ f,st0 ⟨w,h,lv,kd⟩ f = ⟨List.replicate (w * h).toNat 0,List.replicate (w * h).toNat false,List.replicate (w * h).toNat 0,0,bkOf f (bkts w h lv),kd,12,bandL w h lv,w⟩:=fun f => rfl
      obtain ⟨P,hPP⟩:∃ P:Nat,planesP xs = P:=⟨(planesP xs).toNat,by omega⟩
      rw [hPP,Int.toNat_natCast] at hP
      rw [hPP] at hpb
      obtain ⟨N,hN⟩:∃ N:Nat,w * h = (N:Int):=⟨(w * h).toNat,by omega⟩
      simp only [hN,Int.toNat_natCast] at hst hwf
      simp -implicitDefEqProofs only [push_cast,zz,BEq.rfl,ite_true,ite_false,List.append_nil,reduceCtorEq,Nat.reduceAdd,Nat.reduceSub,Nat.reduceMul,Nat.reduceLeDiff,Nat.reduceLT,Nat.reduceEqDiff,Nat.reduceBEq,Nat.reduceBNe,Int.reduceNeg,Int.reduceToNat,ir14,fs39,fs40,fs25,hok,hall,hag,hkd,hPP,hbn,hst,stV,hN,Int.toNat_natCast]
      intro X
      repeat (refine And.intro (by first | omega | trivial | (intros; omega)) ?_)
      intro X1
      repeat (refine And.intro (by first | omega | trivial | (intros; omega)) ?_)
      have hNB:(N:Int)≤8192:=by omega
      obtain ⟨ff,hff⟩:∃ f:Nat→Xf.Loc,(fun i => X1 6 (15 + (i + 7))) = f:=⟨_,rfl⟩
      rw [hff]
      have hwf0:=hwf ff
      have hALL:encG xs P (st0 ⟨w,h,lv,kd⟩ ff) (List.replicate 12 0) = encP ⟨w,h,xs⟩ lv kd:=by
        rw [hP,her,← her ff,encG_er xs P _ _ hwf0.2.2]
      simp only [hst] at hwf0 hALL
      obtain ⟨BK,hBK⟩:∃ B,bkOf ff (bkts w h lv) = B:=⟨_,rfl⟩
      obtain ⟨BL,hBL⟩:∃ B,bandL w h lv = B:=⟨_,rfl⟩
      rw [hBK,hBL] at hwf0 hALL ⊢
      have hBKl:BK.length≤50000:=hwf0.1.2.2.2.2.2.2.2.1
      have hBLl:BL.length = N:=hwf0.1.2.2.2.1
      have hrep0:(List.replicate N (0:Int)).length = N:=List.length_replicate
      have hrepf:(List.replicate N false).length = N:=List.length_replicate
      have hz12:([0,0,0,0,0,0,0,0,0,0,0,0]:List Int) = List.replicate 12 0:=rfl
      have hz12l:(List.replicate 12 (0:Int)).length = 12:=List.length_replicate
      have hofw:ofWf xs N:=⟨by omega,fun x hx => by have:=hall x hx; omega⟩
      have hmd0:=zero12_ok hkd
      rw [hz12]
      obtain ⟨Z,hZ⟩:∃ Z,List.replicate 12 (0:Int) = Z:=⟨_,rfl⟩
      rw [hZ] at hALL hmd0 hz12l ⊢
      refine evS_loopU (A:=Nat × StS × List Int × Xf.Loc × List (Xf.Loc × List Int) × Xf.Loc) kp14_1 kl14_1 (fun y => [(10,.int .i64 (y.1 - 1)),(9,.sl 24 y.2.2.2.2.2 1 0 y.2.2.2.2.1.length)])
        (fun y => [(15,.mine,X1 6 15,.ints .i64 y.2.1.size),(16,.mine,X1 6 16,.bools y.2.1.minus),(17,.mine,X1 6 17,.ints .i64 y.2.1.since),(18,.mine,X1 6 18,.recs 4 false [] (y.2.1.list.map Bck.rc)),(19,.mine,y.2.2.2.1,.ints .i64 y.2.2.1),(21,.mine,X1 6 21,.cells (relabs (fun i => i + 14) (stV ⟨X1 6 21,X1 6 15,X1 6 16,X1 6 17,X1 6 18,y.2.2.2.1,X1 6 20⟩ y.2.1))),(24,.mine,y.2.2.2.2.2,.recs 1 true [] (y.2.2.2.2.1.map byRc))])
        (fun y => y.1≤P∧y.2.2.2.2.1.map (·.2)++encG xs y.1 y.2.1 y.2.2.1 = encP ⟨w,h,xs⟩ lv kd∧(stWf y.2.1 N∧szWf y.2.1∧y.2.1.now + y.1 = P∧y.2.1.kind = kd∧y.2.1.nst = 12∧y.2.1.band = BL∧y.2.1.w = w∧y.2.1.list.length = BK.length)∧mdOk kd y.2.2.1∧y.2.2.1.length = 12∧y.2.2.2.2.1.length + y.1 = P) (fun y => y.1)
        (P,⟨List.replicate N 0,List.replicate N false,List.replicate N 0,0,BK,kd,12,BL,w⟩,Z,X1 6 19,[],nilLoc) ⟨Nat.le_refl _,hALL,⟨hwf0.1,hwf0.2.1,by simp only; omega,rfl,rfl,rfl,rfl,rfl⟩,hmd0,hz12l,by simp⟩ (Sub.of (mkG 46 [(0,0),(10,10),(15,15),(16,16),(17,17),(18,18),(19,19),(20,20),(21,21)]) ?_) ?_
      · simp -implicitDefEqProofs only [push_cast,zz,BEq.rfl,ite_true,ite_false,List.append_nil,reduceCtorEq,Nat.reduceAdd,Nat.reduceSub,Nat.reduceMul,Nat.reduceLeDiff,Nat.reduceLT,Nat.reduceEqDiff,Nat.reduceBEq,Nat.reduceBNe,Int.reduceNeg,Int.reduceToNat,stV,hrep0,hrepf,hBLl]
      intro ⟨k,s,st,S,rows,M⟩ ⟨(hk:k≤P),(hrows:rows.map (·.2)++encG xs k s st = encP ⟨w,h,xs⟩ lv kd),⟨(hwfs:stWf s N),(hszs:szWf s),(hnow:s.now + k = P),(hkind:s.kind = kd),(hnst:s.nst = 12),(hband:s.band = BL),(hw:s.w = w),(hll:s.list.length = BK.length)⟩,(hmd:mdOk kd st),(hst12:st.length = 12),(hrl:rows.length + k = P)⟩ K hK
      obtain ⟨size,minus,since,now,list,kind',nst',band',w'⟩:=s
      simp only at hnow hkind hnst hband hw hll
      subst hkind hnst hband hw
      obtain ⟨p1,p2,p3,p4,p5,p6,p7,p8,p9,p10,p11⟩:=id hwfs
      simp only at p1 p2 p3 p8
      rcases Nat.eq_zero_or_pos k with hk0 | hk0
      · obtain ⟨t,ht⟩:∃ t,(k:Int) - 1 = t:=⟨_,rfl⟩
        have hc:¬ (0:Int)≤t:=by omega
        rw [hk0,encG,List.append_nil] at hrows
        have hby:=byOf_eq hrows
        have hlen:rows.length = (encP ⟨w',h,xs⟩ lv kind').length:=by rw [← hrows,List.length_map]
        have hoa:(⟨w',h,xs⟩:Pl).Ok∧argsOk lv kind':=⟨hok,hag⟩
        have h10:∀ i:Nat,¬ i + 1 = 0:=fun i => by omega
        clear hK
        simp -implicitDefEqProofs only [push_cast,zz,BEq.rfl,ite_true,ite_false,List.append_nil,reduceCtorEq,Nat.reduceAdd,Nat.reduceSub,Nat.reduceMul,Nat.reduceLeDiff,Nat.reduceLT,Nat.reduceEqDiff,Nat.reduceBEq,Nat.reduceBNe,Int.reduceNeg,Int.reduceToNat,b14_1,ht,hc,r14_2]
        refine postF.mk' (fun j => if j = 0 then M else (rows.getD (j - 1) (nilLoc,[])).1) [some 0,some 24] ?_
        simp -implicitDefEqProofs only [push_cast,zz,BEq.rfl,ite_true,ite_false,List.append_nil,reduceCtorEq,Nat.reduceAdd,Nat.reduceSub,Nat.reduceMul,Nat.reduceLeDiff,Nat.reduceLT,Nat.reduceEqDiff,Nat.reduceBEq,Nat.reduceBNe,Int.reduceNeg,Int.reduceToNat,fs14,hE,hoa,lx,h10,Nat.add_sub_cancel,hby,hlen,hok,hag]
      · obtain ⟨k,rfl⟩:∃ t,k = t + 1:=⟨k - 1,by omega⟩
        have hc:(0:Int)≤k:=by omega
        have hk1:(k:Int) + 1 - 1 = k:=by omega
        have hnew:=newEn_ok hmd
        have hslR:∀ p L LS LO LX F,slR ⟨p,⟨size,minus,since,now,list,kind',12,band',w'⟩,L,LS,LO,LX,⟨kind',st,0,4294967295,[]⟩,F,xs,(k:Int)⟩ = encStep xs k ⟨size,minus,since,now,list,kind',12,band',w'⟩ st:=fun _ _ _ _ _ _ => rfl
        have hslok:slOk ⟨size,minus,since,now,list,kind',12,band',w'⟩ ⟨kind',st,0,4294967295,[]⟩ xs (k:Int):=⟨by simp only [p3]; exact hwfs,hszs,hnew,hst12,by simp,by simp only [p3]; exact hofw,by omega,by omega⟩
        have hinv:=slcE_inv xs (k:Int) (by omega) (by omega) N list.length 0 ⟨size,minus,since,now,list,kind',12,band',w'⟩ (newEn kind' st) hwfs hszs hnew hst12 (by simp)
        have hcons:encG xs (k + 1) ⟨size,minus,since,now,list,kind',12,band',w'⟩ st = _:=encG.eq_2 xs ⟨size,minus,since,now,list,kind',12,band',w'⟩ st k
        obtain ⟨D,hD⟩:∃ D,encStep xs k ⟨size,minus,since,now,list,kind',12,band',w'⟩ st = D:=⟨_,rfl⟩
        rw [show slcG putG xs (k:Int) list.length 0 ⟨size,minus,since,now,list,kind',12,band',w'⟩ (newEn kind' st) = D from hD] at hinv
        rw [hD] at hcons
        simp only [hD] at hslR
        obtain ⟨i1,i2,i3,i4⟩:=hinv
        have hwfD:stWf D.1 N:=i1.wf ⟨p1,p2,p3,p4,p5,by simp only; omega,by simp only; omega,p8,p9,p10,p11⟩
        obtain ⟨⟨size2,minus2,since2,now2,list2,kind2,nst2,band2,w2⟩,e2,er2⟩:=D
        obtain ⟨j1,j2,j3,j4,j5,j6,j7,j8,j9⟩:=i1
        simp only at j1 j2 j3 j4 j6 j7 j8 j9 i4
        have j6:=j6.symm
        have j8:=j8.symm
        have j9:=j9.symm
        subst j4 j6 j7 j8 j9 i4
        have q1:size2.length = N:=j1.trans p1
        have q2:minus2.length = N:=j2.trans p2
        have q3:since2.length = N:=j3.trans p3
        have q4:list2.length = list.length:=j5.len
        obtain ⟨ek,est,elo,ehi,eout⟩:=e2
        obtain ⟨t1,t2,t3,t4⟩:=i3
        simp only [newEn] at t2 t3 t4
        obtain rfl:kind' = ek:=t4.symm
        have he12:est.length = 12:=t3.trans hst12
        have hmd2:mdOk kind' est:=t1.md he12
        have hout:eout.length≤200000000:=by simp only [List.length_nil] at t2; omega
        obtain ⟨code,hcode⟩:∃ c,encEnd ⟨kind',est,elo,ehi,eout⟩ = c:=⟨_,rfl⟩
        rw [hcode] at hcons
        rw [hcons] at hrows
        have hcl:code.length≤200000004:=by
          rw [← hcode]; unfold encEnd endP endN
          rw [List.length_append,List.length_map,List.length_range]
          have:∀ n,n≤4→eout.length + n≤200000004:=fun n hn => by omega
          simp only
          repeat' split
          all_goals exact this _ (by decide)
        have hst12I:(st.length:Int) = 12:=by omega
        have he12I:(est.length:Int) = 12:=by omega
        simp -implicitDefEqProofs only [push_cast,zz,BEq.rfl,ite_true,ite_false,List.append_nil,reduceCtorEq,Nat.reduceAdd,Nat.reduceSub,Nat.reduceMul,Nat.reduceLeDiff,Nat.reduceLT,Nat.reduceEqDiff,Nat.reduceBEq,Nat.reduceBNe,Int.reduceNeg,Int.reduceToNat,b14_1,hc,hk1,stV,p1,p2,p3,p4,hll,fs41,mdM,hmd,hst12I,enV,ivV,newEn,fs27E,slM,hslR,hslok,fs44,fs45,enM,q1,q2,q3,q4,t1,hout,hcode,he12I]
        intro X2 X3 X4
        repeat (refine And.intro (by first | omega | trivial | (intros; omega)) ?_)
        intro X5
        repeat (refine And.intro (by first | omega | trivial | (intros; omega)) ?_)
        refine ⟨by rw [List.length_map],by omega,by omega,by omega,?_⟩
        refine hK (k,⟨size2,minus2,since2,now + 1,list2,kind',12,band',w'⟩,est,X4 2 36,rows++[((X5 2 40).fr 0,code)],X5 4 45) ⟨by omega,by rw [List.map_append,List.append_assoc]; exact hrows,⟨hwfD,i2,by simp only; omega,rfl,rfl,rfl,rfl,by simp only; omega⟩,hmd2,he12,by simp only [List.length_append,List.length_singleton]; omega⟩ (Nat.lt_succ_self k) _ _ (Sub.of (mkG 46 [(0,0),(10,10),(15,15),(16,16),(17,17),(18,18),(19,36),(20,20),(21,21),(24,45)]) ?_)
        have hrc:(rows++[((X5 2 40).fr 0,code)]).map byRc = rows.map byRc++[[.row ((X5 2 40).fr 0) .u8 code]]:=by rw [List.map_append]; rfl
        simp -implicitDefEqProofs only [push_cast,zz,BEq.rfl,ite_true,ite_false,List.append_nil,reduceCtorEq,Nat.reduceAdd,Nat.reduceSub,Nat.reduceMul,Nat.reduceLeDiff,Nat.reduceLT,Nat.reduceEqDiff,Nat.reduceBEq,Nat.reduceBNe,Int.reduceNeg,Int.reduceToNat,stV,q1,q2,q3,q4,p4,hll,hrc,he12I,List.length_append,sub_all]
    · have hE:encE ⟨w,h,xs⟩ lv kd = 2:=by unfold encE; rw [if_pos hok,if_neg hag]
      have hP:encP ⟨w,h,xs⟩ lv kd = []:=by unfold encP; rw [if_neg (fun h => hag h.2)]
      simp -implicitDefEqProofs only [push_cast,zz,BEq.rfl,ite_true,ite_false,List.append_nil,reduceCtorEq,Nat.reduceAdd,Nat.reduceSub,Nat.reduceMul,Nat.reduceLeDiff,Nat.reduceLT,Nat.reduceEqDiff,Nat.reduceBEq,Nat.reduceBNe,Int.reduceNeg,Int.reduceToNat,ir14,fs39,hok,hag]
      intro X
      repeat (refine And.intro (by first | omega | trivial | (intros; omega)) ?_)
      refine postF.mk' (fun _ => default) [some 0,none] ?_
      have hb:byOf (fun _ => default) [] = []:=rfl
      simp -implicitDefEqProofs only [push_cast,zz,BEq.rfl,ite_true,ite_false,List.append_nil,reduceCtorEq,Nat.reduceAdd,Nat.reduceSub,Nat.reduceMul,Nat.reduceLeDiff,Nat.reduceLT,Nat.reduceEqDiff,Nat.reduceBEq,Nat.reduceBNe,Int.reduceNeg,Int.reduceToNat,fs14,hE,hP,hok,hag,and_false,lx,hb,List.length_nil]
  · have hE:encE ⟨w,h,xs⟩ lv kd = 70:=by unfold encE; rw [if_neg hok]
    have hP:encP ⟨w,h,xs⟩ lv kd = []:=by unfold encP; rw [if_neg (fun h => hok h.1)]
    simp -implicitDefEqProofs only [push_cast,zz,BEq.rfl,ite_true,ite_false,List.append_nil,reduceCtorEq,Nat.reduceAdd,Nat.reduceSub,Nat.reduceMul,Nat.reduceLeDiff,Nat.reduceLT,Nat.reduceEqDiff,Nat.reduceBEq,Nat.reduceBNe,Int.reduceNeg,Int.reduceToNat,ir14,fs39,hok]
    intro X
    repeat (refine And.intro (by first | omega | trivial | (intros; omega)) ?_)
    refine postF.mk' (fun _ => default) [some 0,none] ?_
    have hb:byOf (fun _ => default) [] = []:=rfl
    simp -implicitDefEqProofs only [push_cast,zz,BEq.rfl,ite_true,ite_false,List.append_nil,reduceCtorEq,Nat.reduceAdd,Nat.reduceSub,Nat.reduceMul,Nat.reduceLeDiff,Nat.reduceLT,Nat.reduceEqDiff,Nat.reduceBEq,Nat.reduceBNe,Int.reduceNeg,Int.reduceToNat,fs14,hE,hP,hok,false_and,lx,hb,List.length_nil]
def ent14:Entry:=spOf fs14 inv14
theorem e14:EntryOk Try.prog 14 ent14:=entry_of ok14 inv14
@[push_cast] theorem ent14_app (us:List SV) (look:Look) (x:Nat→Xf.Loc) (k:Nat):ent14 us look x k = spOf fs14 inv14 us look x k:=rfl
def decStep (f:List Int) (t:Int) (s:StS) (st c:List Int):StS × DeS × Int:=slcG getG f t s.list.length 0 s (newDe s.kind st c)
def decG (f:List Int):List (List Int)→Int→StS→List Int→StS × Int
  | [],_,s,_ => (s,0)
  | c :: l,t,s,st => if (decStep f t s st c).2.2 = 0 then decG f l (t - 1) (decStep f t s st c).1 (decStep f t s st c).2.1.st else ((decStep f t s st c).1,(decStep f t s st c).2.2)
theorem decStep_er (f:List Int) (t:Int) (s:StS) (st c:List Int) (h:parOk s.list):decStep f t s.er st c = ((decStep f t s st c).1.er,(decStep f t s st c).2):=by
  have:=slcG_er getG f t s.list.length 0 s (newDe s.kind st c) (by omega) h
  unfold decStep
  rw [← this]
  have e:s.er.list.length = s.list.length:=by simp [StS.er]
  rw [e]; rfl
theorem decG_er (f:List Int):∀ (l:List (List Int)) (t:Int) (s:StS) (st:List Int),parOk s.list→decG f l t s.er st = ((decG f l t s st).1.er,(decG f l t s st).2)
  | [],t,s,st,_ => rfl
  | c :: l,t,s,st,h => by
    rw [decG,decG,decStep_er f t s st c h]
    simp only
    split
    · rw [decG_er f l _ (decStep f t s st c).1 _ (h.same (slcG_k getG f t s.list.length 0 s (newDe s.kind st c)))]
    · rfl
structure DcA where
  w:Int
  h:Int
  lv:Int
  kd:Int
  P:Int
  L:Xf.Loc
  rows:List (Xf.Loc × List Int)
  n:Nat
def decOk (w h lv kd P:Int) (n:Nat):Prop:=(0≤w∧0≤h∧w≤200∧h≤200∧w * h≤8192)∧argsOk lv kd∧0≤P∧P≤25∧n≤P
instance decOk_dec (w h lv kd P:Int) (n:Nat):Decidable (decOk w h lv kd P n):=by unfold decOk; infer_instance
def decR (w h lv kd P:Int) (cs:List (List Int)):StS × Int:=decG (List.replicate (w * h).toNat 0) cs (P - 1) (st00 ⟨w,h,lv,kd⟩) (List.replicate 12 0)
def decE (w h lv kd P:Int) (cs:List (List Int)):Int:=if decOk w h lv kd P cs.length then (decR w h lv kd P cs).2 else 2
def decP (w h lv kd P:Int) (cs:List (List Int)):Pl:=if decE w h lv kd P cs = 0 then ⟨w,h,plL (decR w h lv kd P cs).1⟩ else pl0
def DcA.cs (a:DcA):List (List Int):=(a.rows.take a.n).map (·.2)
def getBy:List (List RC)→Option (List (Xf.Loc × List Int))
  | [] => some []
  | [.row L .u8 xs] :: l => match getBy l with | some r => some ((L,xs) :: r) | none => none
  | _ => none
theorem getBy_map:∀ l:List (Xf.Loc × List Int),getBy (l.map byRc) = some l
  | [] => rfl
  | g :: l => by
    simp only [List.map_cons,byRc,getBy]
    have:=getBy_map l
    rw [this]
@[push_cast] theorem getBy_map' (l:List (Xf.Loc × List Int)):getBy (l.map byRc) = some l:=getBy_map l
def rowBy (look:Look) (d:Nat):Option (Xf.Loc × List (Xf.Loc × List Int)) :=
  bif d == 4096 then some (nilLoc,[]) else match rowR (look d) with
    | some (L,1,_,r) => match getBy r with | some l => some (L,l) | none => none
    | _ => none
def invDc:List SV→Look→Option (DcA × List Nat)
  | [.int .i64 w,.int .i64 h,.int .i64 lv,.int .i64 kd,.int .i64 P,.sl d _ 1 0 n],look => match rowBy look d with
    | some (L,rows) => some (⟨w,h,lv,kd,P,L,rows,n.toNat⟩,[d])
    | none => none
  | _,_ => none
attribute [push_cast] rowBy invDc
def rowsWf (rows:List (Xf.Loc × List Int)):Prop:=rows.length≤1000000000∧∀ r ∈ rows,byAll r.2∧r.2.length≤1000000000
def fs11:FS where
  A:=DcA
  args:=fun a => [.int .i64 a.w,.int .i64 a.h,.int .i64 a.lv,.int .i64 a.kd,.int .i64 a.P,.sl 0 a.L 1 0 a.n]
  mem:=fun a => [some (.ro,a.L,.recs 1 false [] (a.rows.map byRc))]
  pre:=fun a => rowsWf a.rows∧a.n≤a.rows.length
  res:=fun a x => .tup [plV (decP a.w a.h a.lv a.kd a.P a.cs) (lx (decE a.w a.h a.lv a.kd a.P a.cs = 0) x 0) 1,.int .i64 (decE a.w a.h a.lv a.kd a.P a.cs)]
  out:=fun _ _ => []
  new:=fun a x => [(lx (decE a.w a.h a.lv a.kd a.P a.cs = 0) x 0,.ints .i64 (decP a.w a.h a.lv a.kd a.P a.cs).xs)]
theorem newDe_ok {kind:Int} {st c:List Int} (h:mdOk kind st) (hb:byAll c) (hl:c.length≤1000000000):(newDe kind st c).ok:=by
  obtain ⟨h1,h2⟩:=h
  have hv:=vN_bd hb 4
  exact ⟨⟨h1,show st.length≤1000000 by omega,show (0:Int)≤0 by decide,show (0:Int) < 4294967295 by decide,show (4294967295:Int) < 4294967296 by decide,show ¬ (0:Int) / 16777216 = 4294967295 / 16777216 by decide⟩,⟨hl,hb,show (0:Int)≤4 by decide,show (4:Int)≤_ by omega,hv.1,hv.2,rfl⟩,show (4:Int)≤c.length + 4 by omega⟩
def b11_1:IR :=
  .seq (.reg false [⟨some 74,none,⟨[],[]⟩,.bin 0 .lss (.t 73) (.t 72)⟩] [] []) (.seq (.cond (.t 74) (.skip) (.exit 0)) (.seq (.block 1 (.seq (.reg false [⟨some 75,none,⟨[],[]⟩,.mov (.t 73)⟩,
    ⟨some 76,none,⟨[],[]⟩,.idxS (.t 71) (.t 73) 1⟩,
    ⟨some 77,none,⟨[],[]⟩,.ld true none 20 1 (.t 76)⟩,
    ⟨some 16,none,⟨[],[]⟩,.mov (.t 75)⟩,
    ⟨some 17,none,⟨[],[]⟩,.mov (.t 77)⟩] [74,75,76,77] []) (.seq (.reg false [⟨some 79,none,⟨[],[]⟩,.mov (.t 14)⟩,
    ⟨some 80,none,⟨[],[]⟩,.nilc (.t 79)⟩,
    ⟨some 81,none,⟨[],[]⟩,.fld (.t 80) 5⟩,
    ⟨some 82,none,⟨[],[]⟩,.ld false (some 2) 0 0 (.t 81)⟩,
    ⟨some 83,none,⟨[],[]⟩,.mov (.t 17)⟩,
    ⟨some 84,none,⟨[],[]⟩,.call (some 4) 21 26 [.t 82,.t 83]⟩,
    ⟨some 78,none,⟨[],[]⟩,.mov (.t 84)⟩,
    ⟨some 85,none,⟨[],[]⟩,.ext (.t 78) 0⟩,
    ⟨some 86,none,⟨[],[]⟩,.ext (.t 78) 1⟩,
    ⟨some 18,none,⟨[],[]⟩,.alloc 25 [.val (.pointer none)]⟩,
    ⟨none,none,⟨[],[]⟩,.sto false 1 .i64 (.t 18) (.t 85)⟩,
    ⟨some 19,none,⟨[],[]⟩,.mov (.t 86)⟩] [17,19,78,79,80,81,82,83,84,85,86] []) (.seq (.reg false [⟨some 87,none,⟨[],[]⟩,.mov (.t 14)⟩,
    ⟨some 88,none,⟨[],[]⟩,.mov (.t 4)⟩,
    ⟨some 89,none,⟨[],[]⟩,.bin 0 .sub (.t 88) (.k (.int .i64 1))⟩,
    ⟨some 90,none,⟨[],[]⟩,.mov (.t 16)⟩,
    ⟨some 91,none,⟨[],[]⟩,.bin 0 .sub (.t 89) (.t 90)⟩,
    ⟨some 92,none,⟨[],[]⟩,.mov (.t 15)⟩,
    ⟨some 93,none,⟨[],[]⟩,.mkf 28 [.t 18]⟩,
    ⟨some 94,none,⟨[],[]⟩,.call none 26 27 [.t 87,.t 91,.t 92,.t 93]⟩,
    ⟨some 20,none,⟨[],[]⟩,.mov (.t 94)⟩] [16,87,88,89,90,91,92,93,94] []) (.seq (.seq (.reg false [⟨some 95,none,⟨[],[]⟩,.mov (.t 20)⟩,
    ⟨some 96,none,⟨[],[]⟩,.bin 0 .neq (.t 95) (.k (.int .i64 0))⟩] [95] []) (.cond (.t 96) (.seq (.reg false [⟨some 97,none,⟨[],[]⟩,.build [.int .i64 0,.int .i64 0,nilSV] []⟩,
    ⟨some 98,none,⟨[],[]⟩,.mov (.t 20)⟩,
    ⟨none,none,⟨[],[]⟩,.sto false 3 .i64 (.t 12) (.t 97)⟩,
    ⟨some 13,none,⟨[],[]⟩,.mov (.t 98)⟩] [0,1,4,14,15,18,20,71,72,73,96,97,98] []) (.ret)) (.skip))) (.reg false [⟨some 99,none,⟨[],[]⟩,.mov (.t 14)⟩,
    ⟨some 100,none,⟨[],[]⟩,.ld false none 0 0 (.t 18)⟩,
    ⟨some 101,none,⟨[],[]⟩,.call (some 4) 30 30 [.t 100]⟩,
    ⟨some 102,none,⟨[],[]⟩,.nilc (.t 99)⟩,
    ⟨some 103,none,⟨[],[]⟩,.fld (.t 102) 5⟩,
    ⟨none,none,⟨[],[]⟩,.sto false 2 .i64 (.t 103) (.t 101)⟩] [13,18,20,96,99,100,101,102,103] [])))))) (.reg false [⟨some 104,none,⟨[],[]⟩,.bin 0 .add (.t 73) (.k (.int .i64 1))⟩,
    ⟨some 73,none,⟨[],[]⟩,.mov (.t 104)⟩] [104] [])))
def r11_2:IR :=
  .seq (.reg false [⟨some 105,none,⟨[],[]⟩,.mov (.t 14)⟩,
    ⟨some 106,none,⟨[],[]⟩,.mov (.t 0)⟩,
    ⟨some 107,none,⟨[],[]⟩,.mov (.t 1)⟩,
    ⟨some 108,none,⟨[],[]⟩,.call (some 4) 34 31 [.t 105,.t 106,.t 107]⟩,
    ⟨none,none,⟨[],[]⟩,.sto false 3 .i64 (.t 12) (.t 108)⟩,
    ⟨some 13,none,⟨[],[]⟩,.mov (.k (.int .i64 0))⟩] [0,1,4,14,15,71,72,73,105,106,107,108] []) (.ret)
def ir11:IR :=
  .seq (.reg false [⟨some 12,none,⟨[],[]⟩,.alloc 10 [.int .i64 0,.int .i64 0,nilSV]⟩,
    ⟨some 13,none,⟨[],[]⟩,.mov (.k (.int .i64 0))⟩] [13] []) (.seq (.seq (.reg false [⟨some 21,none,⟨[],[]⟩,.mov (.t 0)⟩,
    ⟨some 22,none,⟨[],[]⟩,.bin 0 .lss (.t 21) (.k (.int .i64 0))⟩,
    ⟨some 23,none,⟨[],[]⟩,.mov (.t 22)⟩,
    ⟨some 24,some (23,false),⟨[],[]⟩,.mov (.t 1)⟩,
    ⟨some 25,some (23,false),⟨[],[]⟩,.bin 0 .lss (.t 24) (.k (.int .i64 0))⟩,
    ⟨some 26,none,⟨[],[]⟩,.pick (.t 23) (.k (.bool true)) (.t 25)⟩,
    ⟨some 27,none,⟨[],[]⟩,.mov (.t 26)⟩,
    ⟨some 28,some (27,false),⟨[],[]⟩,.mov (.t 0)⟩,
    ⟨some 29,some (27,false),⟨[],[]⟩,.bin 0 .gtr (.t 28) (.k (.int .i64 200))⟩,
    ⟨some 30,none,⟨[],[]⟩,.pick (.t 27) (.k (.bool true)) (.t 29)⟩,
    ⟨some 31,none,⟨[],[]⟩,.mov (.t 30)⟩,
    ⟨some 32,some (31,false),⟨[],[]⟩,.mov (.t 1)⟩,
    ⟨some 33,some (31,false),⟨[],[]⟩,.bin 0 .gtr (.t 32) (.k (.int .i64 200))⟩,
    ⟨some 34,none,⟨[],[]⟩,.pick (.t 31) (.k (.bool true)) (.t 33)⟩,
    ⟨some 35,none,⟨[],[]⟩,.mov (.t 34)⟩,
    ⟨some 36,some (35,false),⟨[],[]⟩,.mov (.t 0)⟩,
    ⟨some 37,some (35,false),⟨[],[]⟩,.mov (.t 1)⟩,
    ⟨some 38,some (35,false),⟨[],[]⟩,.bin 0 .mul (.t 36) (.t 37)⟩,
    ⟨some 39,some (35,false),⟨[],[]⟩,.bin 0 .gtr (.t 38) (.k (.int .i64 8192))⟩,
    ⟨some 40,none,⟨[],[]⟩,.pick (.t 35) (.k (.bool true)) (.t 39)⟩,
    ⟨some 41,none,⟨[],[]⟩,.mov (.t 40)⟩,
    ⟨some 42,some (41,false),⟨[],[]⟩,.mov (.t 2)⟩,
    ⟨some 43,some (41,false),⟨[],[]⟩,.mov (.t 3)⟩,
    ⟨some 44,some (41,false),⟨[],[]⟩,.callp 24 [.t 42,.t 43]⟩,
    ⟨some 45,some (41,false),⟨[],[]⟩,.not (.t 44)⟩,
    ⟨some 46,none,⟨[],[]⟩,.pick (.t 41) (.k (.bool true)) (.t 45)⟩,
    ⟨some 47,none,⟨[],[]⟩,.mov (.t 46)⟩,
    ⟨some 48,some (47,false),⟨[],[]⟩,.mov (.t 4)⟩,
    ⟨some 49,some (47,false),⟨[],[]⟩,.bin 0 .lss (.t 48) (.k (.int .i64 0))⟩,
    ⟨some 50,none,⟨[],[]⟩,.pick (.t 47) (.k (.bool true)) (.t 49)⟩,
    ⟨some 51,none,⟨[],[]⟩,.mov (.t 50)⟩,
    ⟨some 52,some (51,false),⟨[],[]⟩,.mov (.t 4)⟩,
    ⟨some 53,some (51,false),⟨[],[]⟩,.bin 0 .gtr (.t 52) (.k (.int .i64 25))⟩,
    ⟨some 54,none,⟨[],[]⟩,.pick (.t 51) (.k (.bool true)) (.t 53)⟩,
    ⟨some 55,none,⟨[],[]⟩,.mov (.t 54)⟩,
    ⟨some 56,some (55,false),⟨[],[]⟩,.mov (.t 5)⟩,
    ⟨some 57,some (55,false),⟨[],[]⟩,.len (.t 56)⟩,
    ⟨some 58,some (55,false),⟨[],[]⟩,.mov (.t 4)⟩,
    ⟨some 59,some (55,false),⟨[],[]⟩,.bin 0 .gtr (.t 57) (.t 58)⟩,
    ⟨some 60,none,⟨[],[]⟩,.pick (.t 55) (.k (.bool true)) (.t 59)⟩] [21,22,23,24,25,26,27,28,29,30,31,32,33,34,35,36,37,38,39,40,41,42,43,44,45,46,47,48,49,50,51,52,53,54,55,56,57,58,59] []) (.cond (.t 60) (.seq (.reg false [⟨some 61,none,⟨[],[]⟩,.build [.int .i64 0,.int .i64 0,nilSV] []⟩,
    ⟨none,none,⟨[],[]⟩,.sto false 3 .i64 (.t 12) (.t 61)⟩,
    ⟨some 13,none,⟨[],[]⟩,.mov (.k (.int .i64 2))⟩] [0,1,2,3,4,5,60,61] []) (.ret)) (.skip))) (.seq (.reg false [⟨some 62,none,⟨[],[]⟩,.mov (.t 0)⟩,
    ⟨some 63,none,⟨[],[]⟩,.mov (.t 1)⟩,
    ⟨some 64,none,⟨[],[]⟩,.mov (.t 2)⟩,
    ⟨some 65,none,⟨[],[]⟩,.mov (.t 3)⟩,
    ⟨some 66,none,⟨[],[]⟩,.call (some 8) 11 25 [.t 62,.t 63,.t 64,.t 65]⟩,
    ⟨some 14,none,⟨[],[]⟩,.mov (.t 66)⟩] [2,3,13,60,62,63,64,65,66] []) (.seq (.reg false [⟨some 67,none,⟨[],[]⟩,.mov (.t 0)⟩,
    ⟨some 68,none,⟨[],[]⟩,.mov (.t 1)⟩,
    ⟨some 69,none,⟨[],[]⟩,.bin 0 .mul (.t 67) (.t 68)⟩,
    ⟨some 70,none,⟨[],[]⟩,.mks 19 (.int .i64 0) 8 (.t 69) (.t 69)⟩,
    ⟨some 15,none,⟨[],[]⟩,.mov (.t 70)⟩] [67,68,69,70] []) (.seq (.seq (.reg false [⟨some 71,none,⟨[],[]⟩,.mov (.t 5)⟩,
    ⟨some 72,none,⟨[],[]⟩,.len (.t 71)⟩,
    ⟨some 73,none,⟨[],[]⟩,.mov (.k (.int .i64 0))⟩] [5] []) (.block 0 (.loop b11_1))) (r11_2)))))
def kp11_1:List Nat:=[0,1,4,12,14,15,71,72,73]
def kl11_1:List Nat:=[20,21,22,23,24,25,26,27,28,29,30,31,32,33]
attribute [push_cast] kp11_1 kl11_1
set_option maxRecDepth 4000 in
theorem comp11:(Try.f11.body.bind fun c => compC tab isP chkAll ir11 c) = some ir11:=by kernel_rfl
theorem recAt_By {l:List (Xf.Loc × List Int)} {i:Nat} (h:i < l.length) (z:List RC):recAt (i:Int) z (l.map byRc) = [.row (l[i]).1 .u8 (l[i]).2]:=by
  simp [recAt,h,byRc]
theorem decG_cons (f:List Int) {cs:List (List Int)} {i:Nat} (h:i < cs.length) (t:Int) (s:StS) (st:List Int):decG f (cs.drop i) t s st = if (decStep f t s st cs[i]).2.2 = 0 then decG f (cs.drop (i + 1)) (t - 1) (decStep f t s st cs[i]).1 (decStep f t s st cs[i]).2.1.st else ((decStep f t s st cs[i]).1,(decStep f t s st cs[i]).2.2):=by
  rw [List.drop_eq_getElem_cons h,decG]
set_option maxHeartbeats 4000000 in
theorem ok11:FSOk Try.prog 11 fs11:=by
  refine ⟨⟨_,Try.func11,by kernel_rfl,by kernel_rfl⟩,fun a => ⟨by simp [fs11,push_cast,noMine,argOwn,Chunk.frArg],by simp [fs11,push_cast,outOk,Chunk.ext],fun x => .inl (by simp [fs11,push_cast,frNew,frOut,Chunk.fr])⟩,fun a hp => ?_⟩
  obtain ⟨w,h,lv,kd,P,L,rows,n⟩:=a
  obtain ⟨⟨h1,h2⟩,h3⟩:rowsWf rows∧n≤rows.length:=hp
  have hcs:(⟨w,h,lv,kd,P,L,rows,n⟩:DcA).cs = (rows.take n).map (·.2):=rfl
  have hcsl:((rows.take n).map (·.2)).length = n:=by rw [List.length_map,List.length_take]; omega
  have hmapl:(rows.map byRc).length = rows.length:=List.length_map _
  change Tri Try.prog 11 [.int .i64 w,.int .i64 h,.int .i64 lv,.int .i64 kd,.int .i64 P,.sl 0 L 1 0 n] [some (.ro,L,.recs 1 false [] (rows.map byRc))] (postF fs11 ⟨w,h,lv,kd,P,L,rows,n⟩)
  obtain ⟨CS,hCS⟩:∃ c,(rows.take n).map (·.2) = c:=⟨_,rfl⟩
  rw [hCS] at hcs hcsl
  obtain ⟨E,hE⟩:∃ E,decE w h lv kd P CS = E:=⟨_,rfl⟩
  obtain ⟨Q,hQeq⟩:∃ Q,decP w h lv kd P CS = Q:=⟨_,rfl⟩
  have hQ0:¬ E = 0→Q = pl0:=fun h => by rw [← hQeq]; unfold decP; rw [hE,if_neg h]
  have hQ1:E = 0→Q = ⟨w,h,plL (decR w h lv kd P CS).1⟩:=fun h => by rw [← hQeq]; unfold decP; rw [hE,if_pos h]
  refine tri_evS (hyp (l:=[(25,ent25),(26,ent26),(27,ent27D),(30,ent30),(31,ent31)]) (lp:=[(24,rightF)]) ⟨e25,e26,e27D,e30,e31,trivial⟩ ⟨p24,trivial⟩) Try.func11 comp11 (rs:=[.cell 12 (some 3),.tmp 13]) (by rfl) Try.ntmps11 38 ?_
  have hmulb:0≤w→w≤200→0≤h→h≤200→0≤w * h∧w * h≤40000:=fun a b c d => by have:=mul_bd a b c d; omega
  by_cases hok:decOk w h lv kd P n
  · obtain ⟨⟨a1,a2,a3,a4,a5⟩,hag,a6,a7,a8⟩:=id hok
    have hEE:E = (decR w h lv kd P CS).2:=by rw [← hE]; unfold decE; rw [hcsl,if_pos hok]
    have hbn:bnOk w h lv:=⟨hag.1,hag.2.1,by omega,by omega,by omega,by omega⟩
    have hwf:=fun f => st0_wf (a:=⟨w,h,lv,kd⟩) hbn (by simp only; omega) f
    have hkd:=hag.2.2
    have her:=fun f => st0_er ⟨w,h,lv,kd⟩ f
    have hst:∀ f,st0 ⟨w,h,lv,kd⟩ f = ⟨List.replicate (w * h).toNat 0,List.replicate (w * h).toNat false,List.replicate (w * h).toNat 0,0,bkOf f (bkts w h lv),kd,12,bandL w h lv,w⟩:=fun f => rfl
    have hR:decR w h lv kd P CS = decG (List.replicate (w * h).toNat 0) CS (P - 1) (st00 ⟨w,h,lv,kd⟩) (List.replicate 12 0):=rfl
    have hwh0:=(hmulb a1 a3 a2 a4).1
    obtain ⟨N,hN⟩:∃ N:Nat,w * h = (N:Int):=⟨(w * h).toNat,by omega⟩
    simp only [hN,Int.toNat_natCast] at hst hwf hR
    have c1:¬ w < 0:=by omega
    have c2:¬ h < 0:=by omega
    have c3:¬ 200 < w:=by omega
    have c4:¬ 200 < h:=by omega
    have c5:¬ (8192:Int) < N:=by omega
    have c6:¬ P < 0:=by omega
    have c7:¬ 25 < P:=by omega
    have c8:¬ P < n:=by omega
    have c9:(N:Int)≤8192:=by omega
    simp -implicitDefEqProofs only [push_cast,zz,BEq.rfl,ite_true,ite_false,List.append_nil,reduceCtorEq,Nat.reduceAdd,Nat.reduceSub,Nat.reduceMul,Nat.reduceLeDiff,Nat.reduceLT,Nat.reduceEqDiff,Nat.reduceBEq,Nat.reduceBNe,Int.reduceNeg,Int.reduceToNat,ir11,fs25,c1,c2,c3,c4,c5,c6,c7,c8,hag,hkd,hbn,hst,stV,hN,c9,Int.toNat_natCast]
    intro X
    repeat (refine And.intro (by first | omega | trivial | (intros; omega)) ?_)
    intro X1 X2
    repeat (refine And.intro (by first | omega | trivial | (intros; omega)) ?_)
    obtain ⟨ff,hff⟩:∃ f:Nat→Xf.Loc,(fun i => X1 4 (11 + (i + 7))) = f:=⟨_,rfl⟩
    rw [hff]
    have hwf0:=hwf ff
    obtain ⟨FZ,hFZ⟩:∃ Z,List.replicate N (0:Int) = Z:=⟨_,rfl⟩
    have hALL:plL (decG FZ CS (P - 1) (st0 ⟨w,h,lv,kd⟩ ff) (List.replicate 12 0)).1 = plL (decR w h lv kd P CS).1∧(decG FZ CS (P - 1) (st0 ⟨w,h,lv,kd⟩ ff) (List.replicate 12 0)).2 = E:=by
      rw [hEE,hR,← her ff,decG_er _ CS _ _ _ hwf0.2.2,hFZ]
      exact ⟨rfl,rfl⟩
    obtain ⟨RR,hRR⟩:∃ R,decG FZ CS (P - 1) (st0 ⟨w,h,lv,kd⟩ ff) (List.replicate 12 0) = R:=⟨_,rfl⟩
    rw [hRR] at hALL
    simp only [hst] at hwf0 hRR
    rw [hFZ] at hwf0 hRR ⊢
    obtain ⟨BK,hBK⟩:∃ B,bkOf ff (bkts w h lv) = B:=⟨_,rfl⟩
    obtain ⟨BL,hBL⟩:∃ B,bandL w h lv = B:=⟨_,rfl⟩
    rw [hBK,hBL] at hwf0 hRR ⊢
    have hBKl:BK.length≤50000:=hwf0.1.2.2.2.2.2.2.2.1
    have hBLl:BL.length = N:=hwf0.1.2.2.2.1
    have hrep0:FZ.length = N:=by rw [← hFZ]; exact List.length_replicate
    have hrepf:(List.replicate N false).length = N:=List.length_replicate
    have hz12:([0,0,0,0,0,0,0,0,0,0,0,0]:List Int) = List.replicate 12 0:=rfl
    have hz12l:(List.replicate 12 (0:Int)).length = 12:=List.length_replicate
    have hofw:ofWf FZ N:=⟨hrep0,fun x hx => by rw [← hFZ] at hx; have:=List.eq_of_mem_replicate hx; omega⟩
    have hmd0:=zero12_ok hkd
    rw [hz12]
    obtain ⟨Z,hZ⟩:∃ Z,List.replicate 12 (0:Int) = Z:=⟨_,rfl⟩
    rw [hZ] at hRR hmd0 hz12l ⊢
    refine evS_loopU (A:=Nat × StS × List Int × Xf.Loc) kp11_1 kl11_1 (fun y => [(73,.int .i64 y.1)])
      (fun y => [(11,.mine,X1 4 11,.ints .i64 y.2.1.size),(12,.mine,X1 4 12,.bools y.2.1.minus),(13,.mine,X1 4 13,.ints .i64 y.2.1.since),(14,.mine,X1 4 14,.recs 4 false [] (y.2.1.list.map Bck.rc)),(15,.mine,y.2.2.2,.ints .i64 y.2.2.1),(17,.mine,X1 4 17,.cells (relabs (fun i => i + 10) (stV ⟨X1 4 17,X1 4 11,X1 4 12,X1 4 13,X1 4 14,y.2.2.2,X1 4 16⟩ y.2.1)))])
      (fun y => y.1≤n∧decG FZ (CS.drop y.1) (P - 1 - y.1) y.2.1 y.2.2.1 = RR∧(stWf y.2.1 N∧szWf y.2.1∧y.2.1.now = y.1∧y.2.1.kind = kd∧y.2.1.nst = 12∧y.2.1.band = BL∧y.2.1.w = w∧y.2.1.list.length = BK.length)∧mdOk kd y.2.2.1∧y.2.2.1.length = 12) (fun y => n - y.1)
      (0,⟨FZ,List.replicate N false,FZ,0,BK,kd,12,BL,w⟩,Z,X1 4 15) ⟨Nat.zero_le _,by simp only [List.drop_zero]; rw [show P - 1 - ((0:Nat):Int) = P - 1 by omega]; exact hRR,⟨hwf0.1,hwf0.2.1,rfl,rfl,rfl,rfl,rfl,rfl⟩,hmd0,hz12l⟩ (Sub.of (mkG 38 [(0,0),(10,10),(11,11),(12,12),(13,13),(14,14),(15,15),(16,16),(17,17),(19,19)]) ?_) ?_
    · simp -implicitDefEqProofs only [push_cast,zz,BEq.rfl,ite_true,ite_false,List.append_nil,reduceCtorEq,Nat.reduceAdd,Nat.reduceSub,Nat.reduceMul,Nat.reduceLeDiff,Nat.reduceLT,Nat.reduceEqDiff,Nat.reduceBEq,Nat.reduceBNe,Int.reduceNeg,Int.reduceToNat,stV,hrep0,hrepf,hBLl]
    intro ⟨i,s,st,S⟩ ⟨(hi:i≤n),(hrows:decG FZ (CS.drop i) (P - 1 - i) s st = RR),⟨(hwfs:stWf s N),(hszs:szWf s),(hnow:s.now = i),(hkind:s.kind = kd),(hnst:s.nst = 12),(hband:s.band = BL),(hw:s.w = w),(hll:s.list.length = BK.length)⟩,(hmd:mdOk kd st),(hst12:st.length = 12)⟩ K hK
    obtain ⟨size,minus,since,now,list,kind',nst',band',w'⟩:=s
    simp only at hnow hkind hnst hband hw hll
    subst hkind hnst hband hw
    obtain ⟨p1,p2,p3,p4,p5,p6,p7,p8,p9,p10,p11⟩:=id hwfs
    simp only at p1 p2 p3 p8
    by_cases hi':i < n
    · have hii:(i:Int) < n:=by omega
      have hk1:P - 1 - (i:Int) = P - 1 - i:=rfl
      have hir:i < rows.length:=by omega
      have rr:=recAt_By hir []
      have hci:i < CS.length:=by omega
      have hrow:CS[i] = rows[i].2:=by
        simp only [← hCS,List.getElem_map,List.getElem_take]
      have hcons:=decG_cons FZ hci (P - 1 - i) ⟨size,minus,since,now,list,kind',12,band',w'⟩ st
      rw [hrow,hrows] at hcons
      obtain ⟨hby,hcl⟩:=h2 _ (List.getElem_mem hir)
      obtain ⟨⟨LR,code⟩,hrc⟩:∃ r,rows[i] = r:=⟨_,rfl⟩
      rw [hrc] at rr hcons hby hcl
      simp only at rr hcons hby hcl
      obtain ⟨t,ht⟩:∃ t:Int,P - 1 - (i:Int) = t:=⟨_,rfl⟩
      have ht2:P - 1 - ((i + 1:Nat):Int) = t - 1:=by omega
      rw [ht] at hcons
      have hnew:=newDe_ok hmd hby hcl
      have hslR:∀ p L LS LO LX F,sqR ⟨p,⟨size,minus,since,now,list,kind',12,band',w'⟩,L,LS,LO,LX,⟨kind',st,0,4294967295,code,4,vN code 4,beyP code 4,false⟩,F,FZ,t⟩ = decStep FZ t ⟨size,minus,since,now,list,kind',12,band',w'⟩ st code:=fun _ _ _ _ _ _ => rfl
      have hslok:sqOk ⟨size,minus,since,now,list,kind',12,band',w'⟩ ⟨kind',st,0,4294967295,code,4,vN code 4,beyP code 4,false⟩ FZ t:=⟨by simp only [p3]; exact hwfs,hszs,hnew,hst12,by simp only [p3]; exact hofw,by omega,by omega⟩
      have hinv:=slcD_inv FZ t (by omega) (by omega) N list.length 0 ⟨size,minus,since,now,list,kind',12,band',w'⟩ (newDe kind' st code) hwfs hszs hnew hst12 (by simp)
      have hlenD:=slcG_k getG FZ t list.length 0 ⟨size,minus,since,now,list,kind',12,band',w'⟩ (newDe kind' st code)
      obtain ⟨D,hD⟩:∃ D,decStep FZ t ⟨size,minus,since,now,list,kind',12,band',w'⟩ st code = D:=⟨_,rfl⟩
      rw [show slcG getG FZ t list.length 0 ⟨size,minus,since,now,list,kind',12,band',w'⟩ (newDe kind' st code) = D from hD] at hinv hlenD
      rw [hD] at hcons
      simp only [hD] at hslR
      obtain ⟨i1,i2,i3⟩:=hinv
      obtain ⟨⟨size2,minus2,since2,now2,list2,kind2,nst2,band2,w2⟩,⟨ek,est,elo,ehi,ecode,eat,ev,ebe,een⟩,er2⟩:=D
      obtain ⟨t1,t2,t3,t4⟩:=i3
      simp only [newDe] at t2 t3 t4
      obtain rfl:kind' = ek:=t3.symm
      obtain rfl:code = ecode:=t4.symm
      have he12:est.length = 12:=t2.trans hst12
      have hst12I:(st.length:Int) = 12:=by omega
      have he12I:(est.length:Int) = 12:=by omega
      by_cases her2:er2 = 0
      · subst her2
        have i1:=i1 rfl
        rw [if_pos rfl] at hcons
        have hwfD:=i1.wf (n:=N) ⟨p1,p2,p3,p4,p5,by simp only; omega,by simp only; omega,p8,p9,p10,p11⟩
        obtain ⟨j1,j2,j3,j4,j5,j6,j7,j8,j9⟩:=i1
        simp only at j1 j2 j3 j4 j6 j7 j8 j9
        have j6:=j6.symm
        have j8:=j8.symm
        have j9:=j9.symm
        subst j4 j6 j7 j8 j9
        have q1:size2.length = N:=j1.trans p1
        have q2:minus2.length = N:=j2.trans p2
        have q3:since2.length = N:=j3.trans p3
        have q4:list2.length = list.length:=j5.len
        have hmd2:mdOk kind' est:=⟨t1.1.1,by omega⟩
        simp -implicitDefEqProofs only [push_cast,zz,BEq.rfl,ite_true,ite_false,List.append_nil,reduceCtorEq,Nat.reduceAdd,Nat.reduceSub,Nat.reduceMul,Nat.reduceLeDiff,Nat.reduceLT,Nat.reduceEqDiff,Nat.reduceBEq,Nat.reduceBNe,Int.reduceNeg,Int.reduceToNat,b11_1,hii,rr,hmapl,ht,stV,p1,p2,p3,p4,hll,fs26,mdM,hmd,hby,hcl,hst12I,deV,deT,ivV,newDe,fs27D,sqM,hslR,hslok,fs30,deM,q1,q2,q3,q4,t1,he12I]
        refine ⟨by omega,by omega,by omega,fun X3 => ?_⟩
        refine ⟨by omega,by omega,by omega,by omega,by omega,fun X4 => ?_⟩
        repeat (refine And.intro (by first | omega | trivial | (intros; omega)) ?_)
        refine hK (i + 1,⟨size2,minus2,since2,now + 1,list2,kind',12,band',w'⟩,est,X4 2 30) ⟨by omega,by rw [ht2]; exact hcons.symm,⟨hwfD,i2,by simp only; omega,rfl,rfl,rfl,rfl,by simp only; omega⟩,hmd2,he12⟩ (show n - (i + 1) < n - i by omega) _ _ (Sub.of (mkG 38 [(0,0),(10,10),(11,11),(12,12),(13,13),(14,14),(15,30),(16,16),(17,17),(19,19)]) ?_)
        simp -implicitDefEqProofs only [push_cast,zz,BEq.rfl,ite_true,ite_false,List.append_nil,reduceCtorEq,Nat.reduceAdd,Nat.reduceSub,Nat.reduceMul,Nat.reduceLeDiff,Nat.reduceLT,Nat.reduceEqDiff,Nat.reduceBEq,Nat.reduceBNe,Int.reduceNeg,Int.reduceToNat,stV,q1,q2,q3,q4,p4,hll,he12I]
      · rw [if_neg her2] at hcons
        subst hcons
        have hEr:E = er2:=hALL.2.symm
        have hQ:=hQ0 (by rw [hEr]; exact her2)
        have hE2:¬ E = 0:=by rw [hEr]; exact her2
        have hrn:∀ n:Nat,n = n:=fun _ => rfl
        clear hK
        simp -implicitDefEqProofs only [push_cast,zz,BEq.rfl,ite_true,ite_false,List.append_nil,reduceCtorEq,Nat.reduceAdd,Nat.reduceSub,Nat.reduceMul,Nat.reduceLeDiff,Nat.reduceLT,Nat.reduceEqDiff,Nat.reduceBEq,Nat.reduceBNe,Int.reduceNeg,Int.reduceToNat,b11_1,hii,rr,hmapl,ht,stV,p1,p2,p3,p4,hll,fs26,mdM,hmd,hby,hcl,hst12I,deV,deT,ivV,newDe,fs27D,sqM,hslR,hslok,her2]
        refine ⟨by omega,by omega,by omega,fun X3 => ?_⟩
        refine ⟨by omega,by omega,by omega,by omega,by omega,?_⟩
        refine postF.mk' (fun _ => default) [some 0,none] ?_
        simp -implicitDefEqProofs only [push_cast,zz,BEq.rfl,ite_true,ite_false,List.append_nil,reduceCtorEq,Nat.reduceAdd,Nat.reduceSub,Nat.reduceMul,Nat.reduceLeDiff,Nat.reduceLT,Nat.reduceEqDiff,Nat.reduceBEq,Nat.reduceBNe,Int.reduceNeg,Int.reduceToNat,fs11,hcs,hE,hQeq,hQ,pl0,lx,hEr,her2,List.length_nil]
    · have hin:i = n:=by omega
      subst hin
      have hdn:CS.drop i = []:=by rw [← hcsl,List.drop_length]
      rw [hdn,decG] at hrows
      subst hrows
      have hE0:E = 0:=hALL.2.symm
      have hQ:=hQ1 hE0
      rw [← hALL.1] at hQ
      clear hK
      have hwf2:stWf ⟨size,minus,since,now,list,kind',12,band',w'⟩ since.length:=by rw [p3]; exact hwfs
      have hsz2:szWf ⟨size,minus,since,now,list,kind',12,band',w'⟩:=hszs
      have hpll:(plL ⟨size,minus,since,now,list,kind',12,band',w'⟩).length = (plL ⟨size,minus,since,now,list,kind',12,band',w'⟩).length:=rfl
      obtain ⟨PL,hPL⟩:∃ p,plL ⟨size,minus,since,now,list,kind',12,band',w'⟩ = p:=⟨_,rfl⟩
      rw [hPL] at hQ
      simp -implicitDefEqProofs only [push_cast,zz,BEq.rfl,ite_true,ite_false,List.append_nil,reduceCtorEq,Nat.reduceAdd,Nat.reduceSub,Nat.reduceMul,Nat.reduceLeDiff,Nat.reduceLT,Nat.reduceEqDiff,Nat.reduceBEq,Nat.reduceBNe,Int.reduceNeg,Int.reduceToNat,b11_1,Int.lt_irrefl,r11_2,stV,p1,p2,p3,p4,hll,fs31,stM,hwfs,hsz2,hPL,hN]
      repeat (refine And.intro (by first | omega | trivial | (intros; omega)) ?_)
      intro X3
      repeat (refine And.intro (by first | omega | trivial | (intros; omega)) ?_)
      refine postF.mk' (fun _ => X3 3 34) [some 0,some 34] ?_
      simp -implicitDefEqProofs only [push_cast,zz,BEq.rfl,ite_true,ite_false,List.append_nil,reduceCtorEq,Nat.reduceAdd,Nat.reduceSub,Nat.reduceMul,Nat.reduceLeDiff,Nat.reduceLT,Nat.reduceEqDiff,Nat.reduceBEq,Nat.reduceBNe,Int.reduceNeg,Int.reduceToNat,fs11,hcs,hE,hQeq,hQ,lx,hE0]
  · have hEE:E = 2:=by rw [← hE]; unfold decE; rw [hcsl,if_neg hok]
    have hE2:¬ E = 0:=by omega
    have h20:¬ (2:Int) = 0:=by decide
    have hQ:=hQ0 hE2
    by_cases c0:w < 0
    · simp -implicitDefEqProofs only [push_cast,zz,BEq.rfl,ite_true,ite_false,List.append_nil,reduceCtorEq,Nat.reduceAdd,Nat.reduceSub,Nat.reduceMul,Nat.reduceLeDiff,Nat.reduceLT,Nat.reduceEqDiff,Nat.reduceBEq,Nat.reduceBNe,Int.reduceNeg,Int.reduceToNat,ir11,c0]
      intro X
      repeat (refine And.intro (by first | omega | trivial | (intros; omega)) ?_)
      refine postF.mk' (fun _ => default) [some 0,none] ?_
      simp -implicitDefEqProofs only [push_cast,zz,BEq.rfl,ite_true,ite_false,List.append_nil,reduceCtorEq,Nat.reduceAdd,Nat.reduceSub,Nat.reduceMul,Nat.reduceLeDiff,Nat.reduceLT,Nat.reduceEqDiff,Nat.reduceBEq,Nat.reduceBNe,Int.reduceNeg,Int.reduceToNat,fs11,hcs,hE,hQeq,hQ,pl0,lx,hEE,h20,List.length_nil]
    by_cases c1:h < 0
    · simp -implicitDefEqProofs only [push_cast,zz,BEq.rfl,ite_true,ite_false,List.append_nil,reduceCtorEq,Nat.reduceAdd,Nat.reduceSub,Nat.reduceMul,Nat.reduceLeDiff,Nat.reduceLT,Nat.reduceEqDiff,Nat.reduceBEq,Nat.reduceBNe,Int.reduceNeg,Int.reduceToNat,ir11,c0,c1]
      intro X
      repeat (refine And.intro (by first | omega | trivial | (intros; omega)) ?_)
      refine postF.mk' (fun _ => default) [some 0,none] ?_
      simp -implicitDefEqProofs only [push_cast,zz,BEq.rfl,ite_true,ite_false,List.append_nil,reduceCtorEq,Nat.reduceAdd,Nat.reduceSub,Nat.reduceMul,Nat.reduceLeDiff,Nat.reduceLT,Nat.reduceEqDiff,Nat.reduceBEq,Nat.reduceBNe,Int.reduceNeg,Int.reduceToNat,fs11,hcs,hE,hQeq,hQ,pl0,lx,hEE,h20,List.length_nil]
    by_cases c2:200 < w
    · simp -implicitDefEqProofs only [push_cast,zz,BEq.rfl,ite_true,ite_false,List.append_nil,reduceCtorEq,Nat.reduceAdd,Nat.reduceSub,Nat.reduceMul,Nat.reduceLeDiff,Nat.reduceLT,Nat.reduceEqDiff,Nat.reduceBEq,Nat.reduceBNe,Int.reduceNeg,Int.reduceToNat,ir11,c0,c1,c2]
      intro X
      repeat (refine And.intro (by first | omega | trivial | (intros; omega)) ?_)
      refine postF.mk' (fun _ => default) [some 0,none] ?_
      simp -implicitDefEqProofs only [push_cast,zz,BEq.rfl,ite_true,ite_false,List.append_nil,reduceCtorEq,Nat.reduceAdd,Nat.reduceSub,Nat.reduceMul,Nat.reduceLeDiff,Nat.reduceLT,Nat.reduceEqDiff,Nat.reduceBEq,Nat.reduceBNe,Int.reduceNeg,Int.reduceToNat,fs11,hcs,hE,hQeq,hQ,pl0,lx,hEE,h20,List.length_nil]
    by_cases c3:200 < h
    · simp -implicitDefEqProofs only [push_cast,zz,BEq.rfl,ite_true,ite_false,List.append_nil,reduceCtorEq,Nat.reduceAdd,Nat.reduceSub,Nat.reduceMul,Nat.reduceLeDiff,Nat.reduceLT,Nat.reduceEqDiff,Nat.reduceBEq,Nat.reduceBNe,Int.reduceNeg,Int.reduceToNat,ir11,c0,c1,c2,c3]
      intro X
      repeat (refine And.intro (by first | omega | trivial | (intros; omega)) ?_)
      refine postF.mk' (fun _ => default) [some 0,none] ?_
      simp -implicitDefEqProofs only [push_cast,zz,BEq.rfl,ite_true,ite_false,List.append_nil,reduceCtorEq,Nat.reduceAdd,Nat.reduceSub,Nat.reduceMul,Nat.reduceLeDiff,Nat.reduceLT,Nat.reduceEqDiff,Nat.reduceBEq,Nat.reduceBNe,Int.reduceNeg,Int.reduceToNat,fs11,hcs,hE,hQeq,hQ,pl0,lx,hEE,h20,List.length_nil]
    have hm:=hmulb (by omega) (by omega) (by omega) (by omega)
    by_cases c4:8192 < w * h
    · simp -implicitDefEqProofs only [push_cast,zz,BEq.rfl,ite_true,ite_false,List.append_nil,reduceCtorEq,Nat.reduceAdd,Nat.reduceSub,Nat.reduceMul,Nat.reduceLeDiff,Nat.reduceLT,Nat.reduceEqDiff,Nat.reduceBEq,Nat.reduceBNe,Int.reduceNeg,Int.reduceToNat,ir11,c0,c1,c2,c3,c4]
      intro X
      repeat (refine And.intro (by first | omega | trivial | (intros; omega)) ?_)
      refine postF.mk' (fun _ => default) [some 0,none] ?_
      simp -implicitDefEqProofs only [push_cast,zz,BEq.rfl,ite_true,ite_false,List.append_nil,reduceCtorEq,Nat.reduceAdd,Nat.reduceSub,Nat.reduceMul,Nat.reduceLeDiff,Nat.reduceLT,Nat.reduceEqDiff,Nat.reduceBEq,Nat.reduceBNe,Int.reduceNeg,Int.reduceToNat,fs11,hcs,hE,hQeq,hQ,pl0,lx,hEE,h20,List.length_nil]
    by_cases c5:argsOk lv kd
    rotate_left
    · simp -implicitDefEqProofs only [push_cast,zz,BEq.rfl,ite_true,ite_false,List.append_nil,reduceCtorEq,Nat.reduceAdd,Nat.reduceSub,Nat.reduceMul,Nat.reduceLeDiff,Nat.reduceLT,Nat.reduceEqDiff,Nat.reduceBEq,Nat.reduceBNe,Int.reduceNeg,Int.reduceToNat,ir11,c0,c1,c2,c3,c4,c5]
      intro X
      repeat (refine And.intro (by first | omega | trivial | (intros; omega)) ?_)
      refine postF.mk' (fun _ => default) [some 0,none] ?_
      simp -implicitDefEqProofs only [push_cast,zz,BEq.rfl,ite_true,ite_false,List.append_nil,reduceCtorEq,Nat.reduceAdd,Nat.reduceSub,Nat.reduceMul,Nat.reduceLeDiff,Nat.reduceLT,Nat.reduceEqDiff,Nat.reduceBEq,Nat.reduceBNe,Int.reduceNeg,Int.reduceToNat,fs11,hcs,hE,hQeq,hQ,pl0,lx,hEE,h20,List.length_nil]
    by_cases c6:P < 0
    · simp -implicitDefEqProofs only [push_cast,zz,BEq.rfl,ite_true,ite_false,List.append_nil,reduceCtorEq,Nat.reduceAdd,Nat.reduceSub,Nat.reduceMul,Nat.reduceLeDiff,Nat.reduceLT,Nat.reduceEqDiff,Nat.reduceBEq,Nat.reduceBNe,Int.reduceNeg,Int.reduceToNat,ir11,c0,c1,c2,c3,c4,c5,c6]
      intro X
      repeat (refine And.intro (by first | omega | trivial | (intros; omega)) ?_)
      refine postF.mk' (fun _ => default) [some 0,none] ?_
      simp -implicitDefEqProofs only [push_cast,zz,BEq.rfl,ite_true,ite_false,List.append_nil,reduceCtorEq,Nat.reduceAdd,Nat.reduceSub,Nat.reduceMul,Nat.reduceLeDiff,Nat.reduceLT,Nat.reduceEqDiff,Nat.reduceBEq,Nat.reduceBNe,Int.reduceNeg,Int.reduceToNat,fs11,hcs,hE,hQeq,hQ,pl0,lx,hEE,h20,List.length_nil]
    by_cases c7:25 < P
    · simp -implicitDefEqProofs only [push_cast,zz,BEq.rfl,ite_true,ite_false,List.append_nil,reduceCtorEq,Nat.reduceAdd,Nat.reduceSub,Nat.reduceMul,Nat.reduceLeDiff,Nat.reduceLT,Nat.reduceEqDiff,Nat.reduceBEq,Nat.reduceBNe,Int.reduceNeg,Int.reduceToNat,ir11,c0,c1,c2,c3,c4,c5,c6,c7]
      intro X
      repeat (refine And.intro (by first | omega | trivial | (intros; omega)) ?_)
      refine postF.mk' (fun _ => default) [some 0,none] ?_
      simp -implicitDefEqProofs only [push_cast,zz,BEq.rfl,ite_true,ite_false,List.append_nil,reduceCtorEq,Nat.reduceAdd,Nat.reduceSub,Nat.reduceMul,Nat.reduceLeDiff,Nat.reduceLT,Nat.reduceEqDiff,Nat.reduceBEq,Nat.reduceBNe,Int.reduceNeg,Int.reduceToNat,fs11,hcs,hE,hQeq,hQ,pl0,lx,hEE,h20,List.length_nil]
    by_cases c8:P < n
    · simp -implicitDefEqProofs only [push_cast,zz,BEq.rfl,ite_true,ite_false,List.append_nil,reduceCtorEq,Nat.reduceAdd,Nat.reduceSub,Nat.reduceMul,Nat.reduceLeDiff,Nat.reduceLT,Nat.reduceEqDiff,Nat.reduceBEq,Nat.reduceBNe,Int.reduceNeg,Int.reduceToNat,ir11,c0,c1,c2,c3,c4,c5,c6,c7,c8]
      intro X
      repeat (refine And.intro (by first | omega | trivial | (intros; omega)) ?_)
      refine postF.mk' (fun _ => default) [some 0,none] ?_
      simp -implicitDefEqProofs only [push_cast,zz,BEq.rfl,ite_true,ite_false,List.append_nil,reduceCtorEq,Nat.reduceAdd,Nat.reduceSub,Nat.reduceMul,Nat.reduceLeDiff,Nat.reduceLT,Nat.reduceEqDiff,Nat.reduceBEq,Nat.reduceBNe,Int.reduceNeg,Int.reduceToNat,fs11,hcs,hE,hQeq,hQ,pl0,lx,hEE,h20,List.length_nil]
    exact absurd ⟨⟨by omega,by omega,by omega,by omega,by omega⟩,c5,by omega,by omega,by omega⟩ hok
def ent11:Entry:=spOf fs11 invDc
theorem e11:EntryOk Try.prog 11 ent11:=entry_of ok11 invDc
@[push_cast] theorem ent11_app (us:List SV) (look:Look) (x:Nat→Xf.Loc) (k:Nat):ent11 us look x k = spOf fs11 invDc us look x k:=rfl
def ir10:IR :=
  .seq (.reg false [⟨some 0,none,⟨[],[]⟩,.mov (.k (.bool false))⟩] [0] []) (.seq (.reg false [⟨some 8,none,⟨[],[]⟩,.bslice 10 [.k (.int .i64 (-5))]⟩,
    ⟨some 9,none,⟨[],[]⟩,.build [.int .i64 0,.int .i64 0,nilSV] [(0,1,.k (.int .i64 1)),(1,1,.k (.int .i64 1)),(2,1,.t 8)]⟩,
    ⟨some 1,none,⟨[],[]⟩,.alloc 11 [.int .i64 0,.int .i64 0,nilSV]⟩,
    ⟨none,none,⟨[],[]⟩,.sto false 3 .i64 (.t 1) (.t 9)⟩] [8,9] []) (.seq (.reg false [⟨some 11,none,⟨[],[]⟩,.ld false (some 3) 0 0 (.t 1)⟩,
    ⟨some 12,none,⟨[],[]⟩,.call (some 4) 12 15 [.t 11]⟩,
    ⟨some 10,none,⟨[],[]⟩,.mov (.t 12)⟩,
    ⟨some 13,none,⟨[],[]⟩,.ext (.t 10) 0⟩,
    ⟨some 14,none,⟨[],[]⟩,.ext (.t 10) 1⟩,
    ⟨some 2,none,⟨[],[]⟩,.mov (.t 13)⟩,
    ⟨some 3,none,⟨[],[]⟩,.mov (.t 14)⟩] [10,11,12,13,14] []) (.seq (.reg false [⟨some 16,none,⟨[],[]⟩,.ld false (some 3) 0 0 (.t 1)⟩,
    ⟨some 17,none,⟨[],[]⟩,.call (some 4) 16 14 [.t 16,.k (.int .i64 1),.k (.int .i64 0)]⟩,
    ⟨some 15,none,⟨[],[]⟩,.mov (.t 17)⟩,
    ⟨some 18,none,⟨[],[]⟩,.ext (.t 15) 0⟩,
    ⟨some 19,none,⟨[],[]⟩,.ext (.t 15) 1⟩,
    ⟨some 4,none,⟨[],[]⟩,.mov (.t 18)⟩,
    ⟨some 5,none,⟨[],[]⟩,.mov (.t 19)⟩] [15,16,17,18,19] []) (.seq (.reg false [⟨some 21,none,⟨[],[]⟩,.mov (.t 4)⟩,
    ⟨some 22,none,⟨[],[]⟩,.call (some 4) 20 11 [.k (.int .i64 1),.k (.int .i64 1),.k (.int .i64 1),.k (.int .i64 0),.k (.int .i64 3),.t 21]⟩,
    ⟨some 20,none,⟨[],[]⟩,.mov (.t 22)⟩,
    ⟨some 23,none,⟨[],[]⟩,.ext (.t 20) 0⟩,
    ⟨some 24,none,⟨[],[]⟩,.ext (.t 20) 1⟩,
    ⟨some 6,none,⟨[],[]⟩,.alloc 24 [.int .i64 0,.int .i64 0,nilSV]⟩,
    ⟨none,none,⟨[],[]⟩,.sto false 3 .i64 (.t 6) (.t 23)⟩,
    ⟨some 7,none,⟨[],[]⟩,.mov (.t 24)⟩] [4,20,21,22,23,24] []) (.seq (.reg false [⟨some 25,none,⟨[],[]⟩,.mov (.t 2)⟩,
    ⟨some 26,none,⟨[],[]⟩,.bin 0 .eql (.t 25) (.k (.int .i64 3))⟩,
    ⟨some 27,none,⟨[],[]⟩,.mov (.t 26)⟩,
    ⟨some 28,some (27,true),⟨[],[]⟩,.mov (.t 3)⟩,
    ⟨some 29,some (27,true),⟨[],[]⟩,.bin 0 .eql (.t 28) (.k (.int .i64 0))⟩,
    ⟨some 30,none,⟨[],[]⟩,.pick (.t 27) (.t 29) (.k (.bool false))⟩,
    ⟨some 31,none,⟨[],[]⟩,.mov (.t 30)⟩,
    ⟨some 32,some (31,true),⟨[],[]⟩,.mov (.t 5)⟩,
    ⟨some 33,some (31,true),⟨[],[]⟩,.bin 0 .eql (.t 32) (.k (.int .i64 0))⟩,
    ⟨some 34,none,⟨[],[]⟩,.pick (.t 31) (.t 33) (.k (.bool false))⟩,
    ⟨some 35,none,⟨[],[]⟩,.mov (.t 34)⟩,
    ⟨some 36,some (35,true),⟨[],[]⟩,.mov (.t 7)⟩,
    ⟨some 37,some (35,true),⟨[],[]⟩,.bin 0 .eql (.t 36) (.k (.int .i64 0))⟩,
    ⟨some 38,none,⟨[],[]⟩,.pick (.t 35) (.t 37) (.k (.bool false))⟩,
    ⟨some 39,none,⟨[],[]⟩,.mov (.t 38)⟩,
    ⟨some 40,some (39,true),⟨[],[]⟩,.ld false (some 3) 0 0 (.t 1)⟩,
    ⟨some 41,some (39,true),⟨[],[]⟩,.ld false (some 3) 0 0 (.t 6)⟩,
    ⟨some 42,some (39,true),⟨[],[]⟩,.call (some 4) 25 13 [.t 40,.t 41]⟩,
    ⟨some 43,none,⟨[],[]⟩,.pick (.t 39) (.t 42) (.k (.bool false))⟩,
    ⟨some 0,none,⟨[],[]⟩,.mov (.t 43)⟩] [1,2,3,5,6,7,25,26,27,28,29,30,31,32,33,34,35,36,37,38,39,40,41,42,43] []) (.ret))))))
set_option maxRecDepth 4000 in
theorem comp10:(Try.f10.body.bind fun c => compC tab isP chkAll ir10 c) = some ir10:=by kernel_rfl
def five:Pl:=⟨1,1,[-5]⟩
theorem five_ok:five.Ok:=by decide +kernel
theorem five_planes:planesP [-5] = 3:=by decide +kernel
theorem five_enc:encE five 1 0 = 0:=by decide +kernel
theorem five_dec:decE 1 1 1 0 3 (encP five 1 0) = 0:=by decide +kernel
theorem five_back:decP 1 1 1 0 3 (encP five 1 0) = five:=by
  have h:(decP 1 1 1 0 3 (encP five 1 0)).w = 1∧(decP 1 1 1 0 3 (encP five 1 0)).h = 1∧(decP 1 1 1 0 3 (encP five 1 0)).xs = [-5]:=by decide +kernel
  obtain ⟨⟨a,b,c⟩,hp⟩:∃ p,decP 1 1 1 0 3 (encP five 1 0) = p:=⟨_,rfl⟩
  rw [hp] at h ⊢
  obtain ⟨rfl,rfl,rfl⟩:=h
  rfl
theorem five_len:(encP five 1 0).length = 3:=by decide +kernel
theorem five_by:∀ c ∈ encP five 1 0,(∀ b ∈ c,0≤b∧b≤255)∧c.length≤1000:=by decide +kernel
def byL (f:Nat→Xf.Loc) (l:List (List Int)):List (Xf.Loc × List Int):=(List.range l.length).map fun i => (f i,l.getD i [])
theorem byOf_map (f:Nat→Xf.Loc) (l:List (List Int)):byOf f l = (byL f l).map byRc:=by unfold byOf byL; rw [List.map_map]; rfl
theorem byL_snd (f:Nat→Xf.Loc) (l:List (List Int)):(byL f l).map (·.2) = l:=by
  unfold byL
  refine List.ext_getElem (by simp) fun i h1 h2 => ?_
  simp [List.getD_eq_getElem?_getD,h2]
theorem byL_len (f:Nat→Xf.Loc) (l:List (List Int)):(byL f l).length = l.length:=by unfold byL; simp
theorem byL_mem {f:Nat→Xf.Loc} {l:List (List Int)} {r:Xf.Loc × List Int} (h:r ∈ byL f l):r.2 ∈ l:=by
  have:=byL_snd f l
  rw [← this]
  exact List.mem_map.2 ⟨r,h,rfl⟩
def fs10:FS where
  A:=Unit
  args:=fun _ => []
  mem:=fun _ => []
  pre:=fun _ => True
  res:=fun _ _ => .bool true
  out:=fun _ _ => []
  new:=fun _ _ => []
theorem ok10:FSOk Try.prog 10 fs10:=by
  refine ⟨⟨_,Try.func10,by kernel_rfl,by kernel_rfl⟩,fun a => ⟨by simp [fs10,push_cast,noMine,argOwn,Chunk.frArg],by simp [fs10,push_cast,outOk,Chunk.ext],fun x => .inl (by simp [fs10,push_cast,frNew,frOut,Chunk.fr])⟩,fun a hp => ?_⟩
  change Tri Try.prog 10 [] [] (postF fs10 a)
  have o1:(⟨1,1,[-5]⟩:Pl).Ok:=five_ok
  have o2:=five_planes
  have o3:encE ⟨1,1,[-5]⟩ 1 0 = 0:=five_enc
  have o4:=five_dec
  have o5:=five_back
  have o6:=five_len
  have o7:=five_by
  have o8:argsOk 1 0:=by decide
  have e0:five = ⟨1,1,[-5]⟩:=rfl
  rw [e0] at o4 o5 o6 o7
  obtain ⟨CS,hCS⟩:∃ c,encP ⟨1,1,[-5]⟩ 1 0 = c:=⟨_,rfl⟩
  rw [hCS] at o4 o5 o6 o7
  have hm:=fun f => byOf_map f CS
  have hw:∀ f,rowsWf (byL f CS):=fun f => ⟨by rw [byL_len,o6]; decide,fun r hr => by
    have:=o7 _ (byL_mem hr)
    exact ⟨fun i hi => by have:=this.1 _ hi; omega,by have:=this.2; omega⟩⟩
  have hc:∀ f L,(⟨1,1,1,0,3,L,byL f CS,3⟩:DcA).cs = CS:=fun f L => by
    unfold DcA.cs
    simp only
    rw [List.take_of_length_le (by rw [byL_len,o6]; decide),byL_snd]
  have hl3:∀ f,3≤(byL f CS).length:=fun f => by rw [byL_len,o6]; decide
  have o6':(CS.length:Int) = 3:=by omega
  refine tri_evS (hyp (l:=[(15,ent15),(14,ent14),(11,ent11),(13,ent13)]) (lp:=[]) ⟨e15,e14,e11,e13,trivial⟩ trivial) Try.func10 comp10 (rs:=[.tmp 0]) (by rfl) Try.ntmps10 29 ?_
  simp -implicitDefEqProofs only [push_cast,zz,BEq.rfl,ite_true,ite_false,List.append_nil,reduceCtorEq,Nat.reduceAdd,Nat.reduceSub,Nat.reduceMul,Nat.reduceLeDiff,Nat.reduceLT,Nat.reduceEqDiff,Nat.reduceBEq,Nat.reduceBNe,Int.reduceNeg,Int.reduceToNat,ir10,fs15,fs14,fs11,fs13,o1,o2,o3,o4,o5,o6',o8,hCS,hm,hw,hc,hl3,lx]
  intro X X1 X2
  have hq:decide ((⟨1,1,[-5]⟩:Pl).Eq ⟨1,1,[-5]⟩) = true:=by decide
  rw [hq]
  refine ⟨by decide,?_⟩
  refine postF.mk' (fun _ => default) [] ?_
  simp -implicitDefEqProofs only [push_cast,zz,BEq.rfl,ite_true,ite_false,List.append_nil,reduceCtorEq,Nat.reduceAdd,Nat.reduceSub,Nat.reduceMul,Nat.reduceLeDiff,Nat.reduceLT,Nat.reduceEqDiff,Nat.reduceBEq,Nat.reduceBNe,Int.reduceNeg,Int.reduceToNat,fs10]
end Go.Proofs.Ythicgkilfjjifaa
