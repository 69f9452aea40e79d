import Derived.Test.YthicgkilfjjifaaGreatPEncodes0
set_option linter.unusedVariables false
set_option linter.unusedSimpArgs false
set_option maxRecDepth 1000
namespace Go.Proofs.YthicgkilfjjifaaGreat
open Xf
set_option maxHeartbeats 4000000 in
set_option maxRecDepth 4000 in
theorem ok30:FSOk Tryz.prog 30 fs30:=by
 refine⟨⟨_,Tryz.func30,by kernel_rfl,by kernel_rfl⟩,fun a=>⟨by simp[fs30,push_cast,noMine,argOwn,Chunk.frArg],by simp[fs30,push_cast,outOk,Chunk.ext],fun x=>.inl (by simp[fs30,push_cast,frNew,frOut,Chunk.fr])⟩,fun a hp=>?_⟩
 obtain⟨w,h,n⟩:=a
 have hb:bnOk w h n:=hp
 obtain⟨q1,q2,q3,q4,q5,q6⟩:=id hb
 change Tri Tryz.prog 30 [.int .i64 w,.int .i64 h,.int .i64 n] [] (postF fs30 ⟨w,h,n⟩)
 have hbk:bkts w h n=(bkFold w (bnL w h n)).1:=rfl
 have hin:∀ i:Nat,i<(bnL w h n).length->0<=(rdBd (bnL w h n) i).x/\0<=(rdBd (bnL w h n) i).y/\1<=(rdBd (bnL w h n) i).w/\1<=(rdBd (bnL w h n) i).h/\(rdBd (bnL w h n) i).x+(rdBd (bnL w h n) i).w<=w/\(rdBd (bnL w h n) i).y+(rdBd (bnL w h n) i).h<=h/\-1000<=(rdBd (bnL w h n) i).lv/\(rdBd (bnL w h n) i).lv<=1000:=fun i hi=>bnL_in hb (rdBd_mem hi)
 have hmemok:∀ b∈bnL w h n,b.ok:=fun b hb=>by
  obtain⟨i,hi,rfl⟩:=List.mem_iff_getElem.1 hb
  have:=hin i hi
  rw[rdBd_nat hi]at this
  unfold Bd.ok
  omega
 have hl19:=bnL_le w h n
 have r1:∀ i:Nat,i<(bnL w h n).length->recAt (i:Int) [] (bnZ w h n)=(rdBd (bnL w h n) i).rc:=fun i hi=>recAt_Bd (by omega) (by omega) [] _
 have hzl:(bnL w h n).length<=(bnZ w h n).length:=by unfold bnZ;rw[List.length_append,List.length_map];omega
 obtain⟨B,hB⟩:∃ B,bnL w h n=B:=⟨_,rfl⟩
 obtain⟨Z,hZ⟩:∃ Z,bnZ w h n=Z:=⟨_,rfl⟩
 rw[hB]at hbk hin hmemok hl19 r1 hzl
 rw[hZ]at r1 hzl
 have hfl:=@bkFold_len w B hmemok
 refine tri_evS (hyp (l:=[(32,ent32),(72,ent72)]) (lp:=[]) ⟨e32,e72,trivial⟩ trivial) Tryz.func30 comp30 (rs:=[.tmp 6]) (by rfl) Tryz.ntmps30 27 ?_
 simp -implicitDefEqProofs only[push_cast,zz,seval,ir30,fs32,hb,hB,hZ,lx]
 intro X
 refine evS_loopU (A:=Nat×List Bck×Xf.Loc×Xf.Loc) kp30_1 kl30_1 (fun y=>[(29,.int .i64 y.1),(9,slB 24 y.2.2.1 y.2.1.length),(10,.sl 26 y.2.2.2 (esz 9 y.1) 0 y.1)])
  (fun y=>[(24,.mine,y.2.2.1,.recs 4 true [] (y.2.1.map Bck.rc)),(26,.mine,y.2.2.2,.recs 9 true [] ((bkFold w (B.take y.1)).2.map Gr.rc))])
  (fun y=>y.1<=B.length/\y.2.1.map Bck.b=(bkFold w (B.take y.1)).1/\∀ x∈y.2.1,x.on=false) (fun y=>B.length-y.1) (0,[],nilLoc,nilLoc) ⟨Nat.zero_le _,by simp[bkFold],by simp⟩ (Sub.of (mkG 30 [(10,10)]) ?_) ?_
 ·have e0:((bkFold w (B.take 0)).2.map Gr.rc)=[]:=by simp[bkFold]
  simp -implicitDefEqProofs only[push_cast,zz,seval,esz,e0]
 intro ⟨i,l,M,N⟩ ⟨(hi:i<=B.length),(hl:l.map Bck.b=(bkFold w (B.take i)).1),(hon:∀ x∈l,x.on=false)⟩ K hK
 by_cases hi':i<B.length
 ·obtain⟨b1,b2,b3,b4,b5,b6,b7,b8⟩:=hin i hi'
  have rr:=r1 i hi'
  have hii:(i:Int)<B.length:=by omega
  obtain⟨f1,f2,f3⟩:=hfl i hi
  have hstep:=bkFold_succ w hi'
  obtain⟨⟨lv,kd,x,y,bw,bh⟩,hb'⟩:∃ b,rdBd B i=b:=⟨_,rfl⟩
  rw[hb']at b1 b2 b3 b4 b5 b6 b7 b8 rr hstep
  simp only at b1 b2 b3 b4 b5 b6 b7 b8
  obtain⟨⟨O,G⟩,hOG⟩:∃ s,bkFold w (B.take i)=s:=⟨_,rfl⟩
  rw[hOG]at hl f1 f2 f3 hstep
  simp only at hl f1 f2 f3
  have hll:l.length=O.length:=by rw[<-hl,List.length_map]
  have hgl:(G.map Gr.rc).length=i:=by rw[List.length_map,f2]
  have hgg:=getGr_map G
  obtain⟨F,hF⟩:∃ F,findG G ⟨lv,kd,x,y,bw,bh⟩=F:=⟨_,rfl⟩
  have hFr:=relab_ptrG N F
  have hbd:(⟨lv,kd,x,y,bw,bh⟩:Bd).ok:=by unfold Bd.ok;simp only;omega
  have hcr:=bd_cr hbd
  have hcols:colsB ⟨lv,kd,x,y,bw,bh⟩=(bw+4-1) / 4:=rfl
  have hrows:rowsB ⟨lv,kd,x,y,bw,bh⟩=(bh+4-1) / 4:=rfl
  obtain⟨C,hC⟩:∃ C:Nat,(bw+4-1) / 4=(C:Int):=⟨((bw+4-1) / 4).toNat,by omega⟩
  obtain⟨R,hR⟩:∃ C:Nat,(bh+4-1) / 4=(C:Int):=⟨((bh+4-1) / 4).toNat,by omega⟩
  rw[hC]at hcols
  rw[hR]at hrows
  simp -implicitDefEqProofs only[push_cast,zz,seval,b30_1,rr,Bd.rc,hii,hOG,fs72,hgg,f2,hF,hFr,hC,hR]
  intro X1
  repeat refine om_ ?_
  intro X2
  repeat refine om_ ?_
  refine⟨fun h0=>by(cases i with | zero=>omega | succ i=>rfl),by omega,by omega,?_⟩
  refine evS_loopU (A:=Nat×List Bck×Xf.Loc) kp30_2 kl30_2 (fun y=>[(52,.int .i64 y.1),(9,slB 24 y.2.2 y.2.1.length)])
   (fun y=>[(24,.mine,y.2.2,.recs 4 true [] (y.2.1.map Bck.rc))])
   (fun z=>z.1<=R/\z.2.1.map Bck.b=O++bkBand w G ⟨lv,kd,x,y,bw,bh⟩ z.1/\∀ x∈z.2.1,x.on=false) (fun y=>R-y.1) (0,l,M) ⟨Nat.zero_le _,by simp only[bkBand,List.range_zero,List.flatMap_nil,List.append_nil];exact hl,hon⟩ (Sub.pt ?_) ?_
  ·simp -implicitDefEqProofs only[push_cast,zz,seval]
  intro ⟨r,l2,M2⟩ ⟨(hr:r<=R),(hl2:l2.map Bck.b=O++bkBand w G ⟨lv,kd,x,y,bw,bh⟩ r),(hon2:∀ x∈l2,x.on=false)⟩ K2 hK2
  by_cases hr':r<R
  ·have hri:(r:Int)<R:=by omega
   clear hK
   simp -implicitDefEqProofs only[push_cast,zz,seval,b30_2,hri]
   refine evS_loopU (A:=Nat×List Bck×Xf.Loc) kp30_3 kl30_3 (fun y=>[(57,.int .i64 y.1),(9,slB 24 y.2.2 y.2.1.length)])
    (fun y=>[(24,.mine,y.2.2,.recs 4 true [] (y.2.1.map Bck.rc))])
    (fun z=>z.1<=C/\z.2.1.map Bck.b=(O++bkBand w G ⟨lv,kd,x,y,bw,bh⟩ r)++bkRow w G ⟨lv,kd,x,y,bw,bh⟩ r z.1/\∀ x∈z.2.1,x.on=false) (fun y=>C-y.1) (0,l2,M2) ⟨Nat.zero_le _,by simp only[bkRow,List.range_zero,List.map_nil,List.append_nil];exact hl2,hon2⟩ (Sub.pt ?_) ?_
   ·simp -implicitDefEqProofs only[push_cast,zz,seval]
   intro ⟨c,l3,M3⟩ ⟨(hc:c<=C),(hl3:l3.map Bck.b=(O++bkBand w G ⟨lv,kd,x,y,bw,bh⟩ r)++bkRow w G ⟨lv,kd,x,y,bw,bh⟩ r c),(hon3:∀ x∈l3,x.on=false)⟩ K3 hK3
   by_cases hc':c<C
   ·have hci:(c:Int)<C:=by omega
    clear hK2
    obtain⟨kw,hkw⟩:∃ k,min 4 (bw-(c:Int)*4)=k:=⟨_,rfl⟩
    simp -implicitDefEqProofs only[push_cast,zz,seval,b30_3,hci,hkw]
    intro X3
    repeat refine om_ ?_
    have hkwv:kwB ⟨lv,kd,x,y,bw,bh⟩ c=kw:=hkw
    have hkhv:khB ⟨lv,kd,x,y,bw,bh⟩ r=min ((r:Int)*4+4) bh-(r:Int)*4:=rfl
    obtain⟨KW,hKW⟩:∃ k:Nat,kw=(k:Int):=⟨kw.toNat,by omega⟩
    obtain⟨KH,hKH⟩:∃ k:Nat,min ((r:Int)*4+4) bh-(r:Int)*4=(k:Int):=⟨(min ((r:Int)*4+4) bh-(r:Int)*4).toNat,by omega⟩
    rw[hKW]at hkwv
    rw[hKH]at hkhv
    obtain⟨b,hbb⟩:∃ b:Bd,b=⟨lv,kd,x,y,bw,bh⟩:=⟨_,rfl⟩
    refine evS_loopU (A:=Nat×Xf.Loc) kp30_4 kl30_4 (fun z=>[(18,.int .i64 (r*4+z.1))])
     (fun z=>[(20,.mine,X3 7 20,.cells [.sl 22 z.2 1 0 (plAll w b r c z.1).length,.int .i64 kw,.int .i64 (-1),.bool false]),(22,.mine,z.2,.ints .i64 (plAll w b r c z.1))])
     (fun z=>z.1<=KH) (fun z=>KH-z.1) (0,nilLoc) (Nat.zero_le _) (Sub.of (mkG 30 [(10,10),(14,14),(15,15),(20,20),(24,24),(26,26)]) ?_) ?_
    ·have e0:plAll w b r c 0=[]:=rfl
     simp -implicitDefEqProofs only[push_cast,zz,seval,e0]
    intro ⟨dy,P⟩ hdy K4 hK4
    have hdy:dy<=KH:=hdy
    by_cases hdy':dy<KH
    ·have hcond:(r:Int)*4+dy<min ((r:Int)*4+4) bh:=by omega
     clear hK3
     simp -implicitDefEqProofs only[push_cast,zz,seval,b30_4,hcond]
     repeat refine om_ ?_
     refine evS_loopU (A:=Nat×Xf.Loc) kp30_5 kl30_5 (fun z=>[(19,.int .i64 (c*4+z.1))])
      (fun z=>[(20,.mine,X3 7 20,.cells [.sl 22 z.2 1 0 (plAll w b r c dy++plRow w b r c dy z.1).length,.int .i64 kw,.int .i64 (-1),.bool false]),(22,.mine,z.2,.ints .i64 (plAll w b r c dy++plRow w b r c dy z.1))])
      (fun z=>z.1<=KW) (fun z=>KW-z.1) (0,P) (Nat.zero_le _) (Sub.pt ?_) ?_
     ·have e0:plAll w b r c dy++plRow w b r c dy 0=plAll w b r c dy:=by simp[plRow]
      simp only[e0]
      simp -implicitDefEqProofs only[push_cast,zz,seval]
     intro ⟨dx,Q⟩ hdx K5 hK5
     have hdx:dx<=KW:=hdx
     by_cases hdx':dx<KW
     ·have hcond2:(c:Int)*4+dx<(c:Int)*4+kw:=by omega
      clear hK4
      have hm:=mul_bd (a:=y+((r:Int)*4+dy)) (b:=w) (A:=200) (B:=200) (by omega) (by omega) (by omega) (by omega)
      have hv:(y+((r:Int)*4+dy))*w+x+((c:Int)*4+dx)=plF w b r c dy dx:=by rw[hbb];rfl
      have hpl:((plAll w b r c dy++plRow w b r c dy dx).length:Int)<=1000:=by
       rw[List.length_append,plAll_len,plRow_len]
       have h1:(kwB b c).toNat<=4:=by rw[hbb,hkwv];omega
       have h2:dy*(kwB b c).toNat<=4*4:=Nat.mul_le_mul (by omega) h1
       omega
      have hnx:plAll w b r c dy++plRow w b r c dy (dx+1)=(plAll w b r c dy++plRow w b r c dy dx)++[plF w b r c dy dx]:=by rw[plRow_succ,List.append_assoc]
      obtain⟨pl,hpl'⟩:∃ pl,plAll w b r c dy++plRow w b r c dy dx=pl:=⟨_,rfl⟩
      rw[hpl']at hpl hnx
      have hpf:0<=plF w b r c dy dx/\plF w b r c dy dx<=50000:=by rw[<-hv];omega
      simp -implicitDefEqProofs only[push_cast,zz,seval,b30_5,hcond2,hpl',hv]
      repeat refine om_ ?_
      intro X4
      repeat refine om_ ?_
      refine hK5 (dx+1,X4 14 22) (show dx+1<=KW by omega) (show KW-(dx+1)<KW-dx by omega) _ _ (Sub.pt ?_)
      have e19:(c:Int)*4+((dx:Int)+1)=(c:Int)*4+dx+1:=by omega
      simp -implicitDefEqProofs only[push_cast,zz,seval,hnx,List.length_append,e19]
     ·have hcond2:¬ (c:Int)*4+dx<(c:Int)*4+kw:=by omega
      clear hK5
      have hnx:plAll w b r c dy++plRow w b r c dy dx=plAll w b r c (dy+1):=by
       rw[plAll_succ,hbb,hkwv]
       have:dx=KW:=by omega
       rw[this,Int.toNat_natCast]
      simp -implicitDefEqProofs only[push_cast,zz,seval,b30_5,hcond2,hnx,r30_6]
      repeat refine om_ ?_
      refine hK4 (dy+1,Q) (show dy+1<=KH by omega) (show KH-(dy+1)<KH-dy by omega) _ _ (Sub.pt ?_)
      have e18:(r:Int)*4+((dy:Int)+1)=(r:Int)*4+dy+1:=by omega
      simp -implicitDefEqProofs only[push_cast,zz,seval,e18]
    ·have hcond:¬ (r:Int)*4+dy<min ((r:Int)*4+4) bh:=by omega
     clear hK4
     have hdk:dy=KH:=by omega
     have hpar:∀ q:Int,q=parP G F r c->(⟨plAll w b r c dy,kw,q⟩:Pb)=bkAt w G b r c:=fun q hq=>by
      unfold bkAt
      rw[hbb,hF,hkwv,hkhv,hdk,hq,hKW,Int.toNat_natCast]
     have hlen3:l3.length<=50000:=by
      have:=congrArg List.length hl3
      rw[List.length_map,List.length_append,List.length_append,bkBand_len,bkRow_len]at this
      have h1:r*(colsB ⟨lv,kd,x,y,bw,bh⟩).toNat<=50*50:=Nat.mul_le_mul (by omega) (by omega)
      omega
     have hlm:=bkMap_len l3
     have hsub:=sub_all (plAll w b r c dy)
     have hnx:∀ (q:Int) (T:Xf.Loc),q=parP G F r c->(l3++[(⟨T,⟨plAll w b r c dy,kw,q⟩,false⟩:Bck)]).map Bck.b=(O++bkBand w G ⟨lv,kd,x,y,bw,bh⟩ r)++bkRow w G ⟨lv,kd,x,y,bw,bh⟩ r (c+1):=fun q T hq=>by
      rw[bkRow_succ,<-List.append_assoc,<-hl3,List.map_append,<-hbb,<-hpar q hq]
      rfl
     have hon4:∀ (q:Int) (T:Xf.Loc),∀ x∈l3++[(⟨T,⟨plAll w b r c dy,kw,q⟩,false⟩:Bck)],x.on=false:=fun q T x hx=>by
      rcases List.mem_append.1 hx with h | h
      ·exact hon3 x h
      ·rw[List.mem_singleton]at h;rw[h]
     have hplb:((plAll w b r c dy).length:Int)<=1000:=by
      rw[plAll_len]
      have h1:(kwB b c).toNat<=4:=by rw[hbb,hkwv];omega
      have h2:dy*(kwB b c).toNat<=4*4:=Nat.mul_le_mul (by omega) h1
      omega
     obtain⟨pl,hpl'⟩:∃ pl,plAll w b r c dy=pl:=⟨_,rfl⟩
     rw[hpl']at hplb hsub hnx hon4
     cases hFF:F with
     | none=>
      have hq:(-1:Int)=parP G F r c:=by rw[hFF];rfl
      have hnx1:=fun T=>hnx _ T hq
      have hrc:∀ T:Xf.Loc,(l3++[(⟨T,⟨pl,kw,-1⟩,false⟩:Bck)]).map Bck.rc=l3.map Bck.rc++[[.row T .i64 pl,.int .i64 kw,.int .i64 (-1),.bool false]]:=fun T=>by rw[List.map_append];rfl
      simp -implicitDefEqProofs only[push_cast,zz,seval,b30_4,hcond,hpl',r30_7,r30_8,hFF,ptrG,hsub,hlm]
      repeat refine om_ ?_
      intro X4
      repeat refine om_ ?_
      refine hK3 (c+1,l3++[⟨P.fr 0,⟨pl,kw,-1⟩,false⟩],X4 3 24) ⟨show c+1<=C by omega,hnx1 _,hon4 _ _⟩ (show C-(c+1)<C-c by omega) _ _ (Sub.pt ?_)
      simp -implicitDefEqProofs only[push_cast,zz,seval,hrc,hFF,ptrG,List.length_append,esz]
     | some j=>
      rw[hFF]at hF
      have hjl:=findG_lt hF
      have rj:=recAt_Gr hjl []
      obtain⟨gok,gfr⟩:=f3 _ (by rw[rdGr_nat hjl];exact List.getElem_mem hjl:rdGr G j∈G)
      have hq0:parP G F r c=(rdGr G j).frm+min ((r:Int) / 2) (rowsB (rdGr G j).band-1)*colsB (rdGr G j).band+min ((c:Int) / 2) (colsB (rdGr G j).band-1):=by rw[hFF];rfl
      obtain⟨g,hg⟩:∃ g,rdGr G j=g:=⟨_,rfl⟩
      rw[hg]at rj gok gfr hq0
      have hgcr:=bd_cr gok
      obtain⟨gc,hgc⟩:∃ k,colsB g.band=k:=⟨_,rfl⟩
      obtain⟨gr,hgr⟩:∃ k,rowsB g.band=k:=⟨_,rfl⟩
      rw[hgc,hgr]at hgcr hq0
      have hpb:=par_bd (a:=min ((r:Int) / 2) (gr-1)) (c:=gc) (by omega) (by omega) (by omega) (by omega)
      obtain⟨q,hq⟩:∃ q,parP G F r c=q:=⟨_,rfl⟩
      rw[hq]at hq0
      have hq0':=hq0.symm
      have hnx1:=fun T=>hnx _ T hq.symm
      have hrc:∀ T:Xf.Loc,(l3++[(⟨T,⟨pl,kw,q⟩,false⟩:Bck)]).map Bck.rc=l3.map Bck.rc++[[.row T .i64 pl,.int .i64 kw,.int .i64 q,.bool false]]:=fun T=>by rw[List.map_append];rfl
      have hjn:j<i:=by omega
      simp -implicitDefEqProofs only[push_cast,zz,seval,b30_4,hcond,hpl',r30_7,r30_8,hFF,ptrG,hsub,hlm,rj,Gr.rc,hgl,hgc,hgr,hq0']
      repeat refine om_ ?_
      intro X4
      repeat refine om_ ?_
      refine hK3 (c+1,l3++[⟨P.fr 0,⟨pl,kw,q⟩,false⟩],X4 3 24) ⟨show c+1<=C by omega,hnx1 _,hon4 _ _⟩ (show C-(c+1)<C-c by omega) _ _ (Sub.pt ?_)
      simp -implicitDefEqProofs only[push_cast,zz,seval,hrc,hFF,ptrG,List.length_append,esz]
   ·have hcc:c=C:=by omega
    have hci:¬ (c:Int)<C:=by omega
    clear hK3
    rw[hcc,<-show(colsB ⟨lv,kd,x,y,bw,bh⟩).toNat=C by rw[hcols,Int.toNat_natCast],List.append_assoc,<-bkBand_succ]at hl3
    simp -implicitDefEqProofs only[push_cast,zz,seval,b30_3,hci,r30_9]
    repeat refine om_ ?_
    refine hK2 (r+1,l3,M3) ⟨show r+1<=R by omega,hl3,hon3⟩ (show R-(r+1)<R-r by omega) _ _ (Sub.pt ?_)
    simp -implicitDefEqProofs only[push_cast,zz,seval]
  ·have hrr:r=R:=by omega
   have hri:¬ (r:Int)<R:=by omega
   clear hK2
   have hfin:bkFold w (B.take (i+1))=(l2.map Bck.b,G++[⟨⟨lv,kd,x,y,bw,bh⟩,O.length⟩]):=by
    rw[hstep,bkStep,hl2,hrr]
    simp only[hrows,Int.toNat_natCast]
   have hgm:(G++[(⟨⟨lv,kd,x,y,bw,bh⟩,O.length⟩:Gr)]).map Gr.rc=G.map Gr.rc++[[.int .i64 lv,.int .i64 kd,.int .i64 x,.int .i64 y,.int .i64 bw,.int .i64 bh,.int .i64 O.length,.int .i64 C,.int .i64 R]]:=by
    rw[List.map_append]
    simp only[List.map_cons,List.map_nil,Gr.rc,hcols,hrows]
   have hfin2:(bkFold w (B.take (i+1))).2.map Gr.rc=G.map Gr.rc++[[.int .i64 lv,.int .i64 kd,.int .i64 x,.int .i64 y,.int .i64 bw,.int .i64 bh,.int .i64 O.length,.int .i64 C,.int .i64 R]]:=by rw[hfin,hgm]
   simp -implicitDefEqProofs only[push_cast,zz,seval,b30_2,hri,r30_10,r30_11,hgl,hll]
   intro X3
   repeat refine om_ ?_
   refine hK (i+1,l2,M2,X3 3 26) ⟨show i+1<=B.length by omega,by rw[hfin],hon2⟩ (show B.length-(i+1)<B.length-i by omega) _ _ (Sub.pt ?_)
   simp -implicitDefEqProofs only[push_cast,zz,seval,hfin2,esz]
 ·have hii:i=B.length:=by omega
  have hic:¬ (i:Int)<B.length:=by omega
  clear hK
  rw[hii,List.take_length]at hl
  have hll:l.length=(bkts w h n).length:=by rw[hbk,<-hl,List.length_map]
  have hbo:=bkOf_eq hl hon
  rw[<-hbk]at hbo
  have h10:∀ i:Nat,¬ i+1=0:=fun i=>by omega
  simp -implicitDefEqProofs only[push_cast,zz,seval,b30_1,hic,r30_12]
  refine postF.mk' (fun j=>if j=0 then M else (l.getD (j-1) default).L) [some 24] ?_
  simp -implicitDefEqProofs only[push_cast,zz,seval,fs30,h10,Nat.add_sub_cancel,hbo,hll]
def ent30:Entry:=spOf fs30 inv32
theorem e30:EntryOk Tryz.prog 30 ent30:=entry_of ok30 inv32
@[push_cast] theorem ent30_app (us:List SV) (look:Look) (x:Nat->Xf.Loc) (k:Nat):ent30 us look x k=spOf fs30 inv32 us look x k:=rfl
def ir79:IR:=
 .seq (r_ [o_ 4 (.mov (.k (.bool false)))] [4]) (.seq (R_ [m_ 5 0,n_ 6 5,f_ 7 6 2,l_ 8 7,m_ 9 1,i_ 10 8 9 1,L_ 11 10,c_ 12 .gtr 11 0,m_ 13 12,p_ 13 (m_ 14 0),p_ 13 (n_ 15 14),p_ 13 (f_ 16 15 2),p_ 13 (l_ 17 16),p_ 13 (m_ 18 1),p_ 13 (i_ 19 17 18 1),p_ 13 (L_ 20 19),p_ 13 (m_ 21 0),p_ 13 (n_ 22 21),p_ 13 (f_ 23 22 3),p_ 13 (l_ 24 23),p_ 13 (b_ 25 .leq 20 24),K_ 26 13 25,m_ 4 26] [0,1,5,6,7,8,9,10,11,12,13,14,15,16,17,18,19,20,21,22,23,24,25,26]) (.ret))
set_option maxRecDepth 4000 in
theorem comp79:(Tryz.f79.body.bind fun c=>compC tab isP chkAll ir79 c)=some ir79:=by kernel_rfl
def ir80:IR:=
 .seq (r_ [z_ 4 0] [4]) (.seq (.seq (R_ [m_ 5 0,n_ 6 5,f_ 7 6 2,l_ 8 7,m_ 9 1,i_ 10 8 9 1,L_ 11 10,m_ 12 0,n_ 13 12,f_ 14 13 3,l_ 15 14,b_ 16 .eql 11 15] [0,1,5,6,7,8,9,10,11,12,13,14,15]) (.cond (.t 16) (.seq (r_ [z_ 4 6] [16]) (.ret)) (.skip))) (.seq (r_ [z_ 4 7] [16]) (.ret)))
set_option maxRecDepth 4000 in
theorem comp80:(Tryz.f80.body.bind fun c=>compC tab isP chkAll ir80 c)=some ir80:=by kernel_rfl
def ir81:IR:=
 .seq (r_ [z_ 4 0] [4]) (.seq (r_ [z_ 5 8] []) (.seq (.seq (R_ [m_ 6 1,m_ 7 0,n_ 8 7,f_ 9 8 8,l_ 10 9,b_ 11 .rem 6 10,c_ 12 .gtr 11 0,m_ 13 12,p_ 13 (m_ 14 0),p_ 13 (n_ 15 14),p_ 13 (f_ 16 15 7),p_ 13 (l_ 17 16),p_ 13 (m_ 18 1),p_ 13 (c_ 19 .sub 18 1),p_ 13 (i_ 20 17 19 1),p_ 13 (L_ 21 20),p_ 13 (m_ 22 0),p_ 13 (n_ 23 22),p_ 13 (f_ 24 23 7),p_ 13 (l_ 25 24),p_ 13 (m_ 26 1),p_ 13 (i_ 27 25 26 1),p_ 13 (L_ 28 27),p_ 13 (b_ 29 .eql 21 28),K_ 30 13 29,m_ 31 30,p_ 31 (m_ 32 0),p_ 31 (n_ 33 32),p_ 31 (f_ 34 33 2),p_ 31 (l_ 35 34),p_ 31 (m_ 36 1),p_ 31 (c_ 37 .sub 36 1),p_ 31 (i_ 38 35 37 1),p_ 31 (L_ 39 38),p_ 31 (c_ 40 .gtr 39 0),K_ 41 31 40] [6,7,8,9,10,11,12,13,14,15,16,17,18,19,20,21,22,23,24,25,26,27,28,29,30,31,32,33,34,35,36,37,38,39,40]) (.cond (.t 41) (r_ [m_ 42 5,a_ 43 42 1,m_ 5 43] [41,42,43]) (.skip))) (.seq (.seq (R_ [m_ 44 1,m_ 45 0,n_ 46 45,f_ 47 46 8,l_ 48 47,b_ 49 .geq 44 48,m_ 50 49,p_ 50 (m_ 51 0),p_ 50 (n_ 52 51),p_ 50 (f_ 53 52 7),p_ 50 (l_ 54 53),p_ 50 (m_ 55 1),p_ 50 (m_ 56 0),p_ 50 (n_ 57 56),p_ 50 (f_ 58 57 8),p_ 50 (l_ 59 58),p_ 50 (b_ 60 .sub 55 59),p_ 50 (i_ 61 54 60 1),p_ 50 (L_ 62 61),p_ 50 (m_ 63 0),p_ 50 (n_ 64 63),p_ 50 (f_ 65 64 7),p_ 50 (l_ 66 65),p_ 50 (m_ 67 1),p_ 50 (i_ 68 66 67 1),p_ 50 (L_ 69 68),p_ 50 (b_ 70 .eql 62 69),K_ 71 50 70,m_ 72 71,p_ 72 (m_ 73 0),p_ 72 (n_ 74 73),p_ 72 (f_ 75 74 2),p_ 72 (l_ 76 75),p_ 72 (m_ 77 1),p_ 72 (m_ 78 0),p_ 72 (n_ 79 78),p_ 72 (f_ 80 79 8),p_ 72 (l_ 81 80),p_ 72 (b_ 82 .sub 77 81),p_ 72 (i_ 83 76 82 1),p_ 72 (L_ 84 83),p_ 72 (c_ 85 .gtr 84 0),K_ 86 72 85] [0,1,41,44,45,46,47,48,49,50,51,52,53,54,55,56,57,58,59,60,61,62,63,64,65,66,67,68,69,70,71,72,73,74,75,76,77,78,79,80,81,82,83,84,85]) (.cond (.t 86) (r_ [m_ 87 5,a_ 88 87 1,m_ 5 88] [86,87,88]) (.skip))) (.seq (r_ [m_ 89 5,m_ 4 89] [5,86,89]) (.ret)))))
set_option maxRecDepth 4000 in
theorem comp81:(Tryz.f81.body.bind fun c=>compC tab isP chkAll ir81 c)=some ir81:=by kernel_rfl
structure StL where
 L:Xf.Loc
 Z:Xf.Loc
 M:Xf.Loc
 I:Xf.Loc
 K:Xf.Loc
 S:Xf.Loc
 B:Xf.Loc
structure StS where
 size:List Int
 minus:List Bool
 since:List Int
 now:Int
 list:List Bck
 kind:Int
 nst:Int
 band:List Int
 w:Int
def stV (p:StL) (s:StS):List SV:=[.sl 1 p.Z 1 0 s.size.length,.sl 2 p.M 1 0 s.minus.length,.sl 3 p.I 1 0 s.since.length,.int .i64 s.now,slB 4 p.K s.list.length,.int .i64 s.kind,.sl 5 p.S 1 0 s.nst,.sl 6 p.B 1 0 s.band.length,.int .i64 s.w]
def stM (p:StL) (s:StS):Mem:=[some (.ro,p.L,.cells (stV p s)),some (.ro,p.Z,.ints .i64 s.size),some (.ro,p.M,.bools s.minus),some (.ro,p.I,.ints .i64 s.since),some (.ro,p.K,.recs 4 false [] (s.list.map Bck.rc)),none,some (.ro,p.B,.ints .i64 s.band)]
def getBk:List (List RC)->Option (List Bck)
 | []=>some []
 | [.row L .i64 xs,.int .i64 w,.int .i64 q,.bool on]::l=>match getBk l with | some r=>some (⟨L,⟨xs,w,q⟩,on⟩::r) | none=>none
 | _=>none
theorem getBk_map:∀ l:List Bck,getBk (l.map Bck.rc)=some l
 | []=>rfl
 | g::l=>by
  simp only[List.map_cons,Bck.rc,getBk]
  have:=getBk_map l
  rw[this]
@[push_cast] theorem getBk_map' (l:List Bck):getBk (l.map Bck.rc)=some l:=getBk_map l
def rowK (look:Look) (d:Nat):Option (Xf.Loc×List Bck):=
 match rowR (look d)with
  | some (L,4,_,r)=>match getBk r with | some l=>some (L,l) | none=>none
  | _=>none
def rowBl:Option ME->Option (Xf.Loc×List Bool)
 | some (_,L,.bools xs)=>some (L,xs)
 | _=>none
def invSt (look:Look) (c:Nat):Option (StL×StS×List Nat):=
 match rowC (look c)with
 | some (L,[.sl a _ 1 0 _,.sl b _ 1 0 _,.sl d _ 1 0 _,.int .i64 now,.sl e _ _ 0 _,.int .i64 kind,.sl f S 1 0 nst,.sl g _ 1 0 _,.int .i64 w])=>
  match rowI (look a),rowBl (look b),rowI (look d),rowK look e,rowI (look g)with
  | some (Z,.i64,size),some (M,minus),some (I,.i64,since),some (K,list),some (B,.i64,band)=>some (⟨L,Z,M,I,K,S,B⟩,⟨size,minus,since,now,list,kind,nst,band,w⟩,[c,a,b,d,e,f,g])
  | _,_,_,_,_=>none
 | _=>none
attribute [push_cast] rowK rowBl invSt
def stWf (s:StS) (n:Nat):Prop:=s.size.length=n/\s.minus.length=n/\s.since.length=n/\s.band.length=n/\n<=8192/\0<=s.now/\s.now<=1000/\s.list.length<=50000/\(0<n->0<s.w)/\s.w<=200 /\
 ∀ b∈s.list,-1<=b.b.parent/\b.b.parent<s.list.length/\b.b.places.length<=16/\∀ x∈b.b.places,0<=x/\x<n
structure SAtA where
 p:StL
 s:StS
 at_:Int
def sAtOk (a:SAtA):Prop:=stWf a.s a.s.since.length/\0<=a.at_/\a.at_<a.s.since.length
def invAt:List SV->Look->Option (SAtA×List Nat)
 | [.ptr c _ 0 0 0,.int .i64 i],look=>match invSt look c with
  | some (p,s,g)=>some (⟨p,s,i⟩,g)
  | none=>none
 | _,_=>none
attribute [push_cast] invAt
def oldP (s:StS) (i:Int):Prop:=0<rd s.since i/\rd s.since i<=s.now
instance oldP_dec (s:StS) (i:Int):Decidable (oldP s i):=by unfold oldP;infer_instance
def fs79:FS where
 A:=SAtA
 args:=fun a=>[.ptr 0 a.p.L 0 0 0,.int .i64 a.at_]
 mem:=fun a=>stM a.p a.s
 pre:=sAtOk
 res:=fun a _=>.bool (decide (oldP a.s a.at_))
 out:=fun _ _=>[]
 new:=fun _ _=>[]
theorem ok79:FSOk Tryz.prog 79 fs79:=by
 refine⟨⟨_,Tryz.func79,by kernel_rfl,by kernel_rfl⟩,fun a=>⟨by simp[fs79,stM,push_cast,noMine,argOwn,Chunk.frArg],by simp[fs79,stM,push_cast,outOk,Chunk.ext],fun x=>.inl (by simp[fs79,stM,push_cast,frNew,frOut,Chunk.fr])⟩,fun a hp=>?_⟩
 obtain⟨p,s,i⟩:=a
 obtain⟨h1,h2,h3⟩:stWf s s.since.length/\0<=i/\i<s.since.length:=hp
 change Tri Tryz.prog 79 [.ptr 0 p.L 0 0 0,.int .i64 i] (stM p s) (postF fs79 ⟨p,s,i⟩)
 have hd:decide (oldP s i)=(if 0<rd s.since i then decide (rd s.since i<=s.now)else false):=by
  by_cases h:0<rd s.since i<;>simp[oldP,h]
 refine tri_evS (hyp (l:=[]) (lp:=[]) trivial trivial) Tryz.func79 comp79 (rs:=[.tmp 4]) (by rfl) Tryz.ntmps79 10 ?_
 by_cases h:0<rd s.since i
 ·rw[if_pos h]at hd
  simp -implicitDefEqProofs only[push_cast,zz,seval,ir79,stM,stV,h]
  repeat refine om_ ?_
  refine postF.mk' (fun _=>default) [some 0,some 1,some 2,some 3,some 4,none,some 6] ?_
  simp -implicitDefEqProofs only[push_cast,zz,seval,fs79,stM,stV,hd]
 ·rw[if_neg h]at hd
  simp -implicitDefEqProofs only[push_cast,zz,seval,ir79,stM,stV,h]
  repeat refine om_ ?_
  refine postF.mk' (fun _=>default) [some 0,some 1,some 2,some 3,some 4,none,some 6] ?_
  simp -implicitDefEqProofs only[push_cast,zz,seval,fs79,stM,stV,hd]
def ent79:Entry:=spOf fs79 invAt
theorem e79:EntryOk Tryz.prog 79 ent79:=entry_of ok79 invAt
@[push_cast] theorem ent79_app (us:List SV) (look:Look) (x:Nat->Xf.Loc) (k:Nat):ent79 us look x k=spOf fs79 invAt us look x k:=rfl
def dctxP (s:StS) (i:Int):Int:=if rd s.since i=s.now then 6 else 7
def fs80:FS where
 A:=SAtA
 args:=fun a=>[.ptr 0 a.p.L 0 0 0,.int .i64 a.at_]
 mem:=fun a=>stM a.p a.s
 pre:=sAtOk
 res:=fun a _=>.int .i64 (dctxP a.s a.at_)
 out:=fun _ _=>[]
 new:=fun _ _=>[]
theorem ok80:FSOk Tryz.prog 80 fs80:=by
 refine⟨⟨_,Tryz.func80,by kernel_rfl,by kernel_rfl⟩,fun a=>⟨by simp[fs80,stM,push_cast,noMine,argOwn,Chunk.frArg],by simp[fs80,stM,push_cast,outOk,Chunk.ext],fun x=>.inl (by simp[fs80,stM,push_cast,frNew,frOut,Chunk.fr])⟩,fun a hp=>?_⟩
 obtain⟨p,s,i⟩:=a
 obtain⟨h1,h2,h3⟩:stWf s s.since.length/\0<=i/\i<s.since.length:=hp
 change Tri Tryz.prog 80 [.ptr 0 p.L 0 0 0,.int .i64 i] (stM p s) (postF fs80 ⟨p,s,i⟩)
 refine tri_evS (hyp (l:=[]) (lp:=[]) trivial trivial) Tryz.func80 comp80 (rs:=[.tmp 4]) (by rfl) Tryz.ntmps80 10 ?_
 by_cases h:rd s.since i=s.now
 ·have hd:dctxP s i=6:=if_pos h
  simp -implicitDefEqProofs only[push_cast,zz,seval,ir80,stM,stV,h]
  repeat refine om_ ?_
  refine postF.mk' (fun _=>default) [some 0,some 1,some 2,some 3,some 4,none,some 6] ?_
  simp -implicitDefEqProofs only[push_cast,zz,seval,fs80,stM,stV,hd]
 ·have hd:dctxP s i=7:=if_neg h
  simp -implicitDefEqProofs only[push_cast,zz,seval,ir80,stM,stV,h]
  repeat refine om_ ?_
  refine postF.mk' (fun _=>default) [some 0,some 1,some 2,some 3,some 4,none,some 6] ?_
  simp -implicitDefEqProofs only[push_cast,zz,seval,fs80,stM,stV,hd]
def ent80:Entry:=spOf fs80 invAt
theorem e80:EntryOk Tryz.prog 80 ent80:=entry_of ok80 invAt
@[push_cast] theorem ent80_app (us:List SV) (look:Look) (x:Nat->Xf.Loc) (k:Nat):ent80 us look x k=spOf fs80 invAt us look x k:=rfl
def leftP (s:StS) (i:Int):Prop:=0<i % s.w/\rd s.band (i-1)=rd s.band i/\0<rd s.since (i-1)
def upP (s:StS) (i:Int):Prop:=s.w<=i/\rd s.band (i-s.w)=rd s.band i/\0<rd s.since (i-s.w)
instance leftP_dec (s:StS) (i:Int):Decidable (leftP s i):=by unfold leftP;infer_instance
instance upP_dec (s:StS) (i:Int):Decidable (upP s i):=by unfold upP;infer_instance
def nctxP (s:StS) (i:Int):Int:=8+(if leftP s i then 1 else 0)+(if upP s i then 1 else 0)
def fs81:FS where
 A:=SAtA
 args:=fun a=>[.ptr 0 a.p.L 0 0 0,.int .i64 a.at_]
 mem:=fun a=>stM a.p a.s
 pre:=sAtOk
 res:=fun a _=>.int .i64 (nctxP a.s a.at_)
 out:=fun _ _=>[]
 new:=fun _ _=>[]
set_option maxHeartbeats 1000000 in
theorem ok81:FSOk Tryz.prog 81 fs81:=by
 refine⟨⟨_,Tryz.func81,by kernel_rfl,by kernel_rfl⟩,fun a=>⟨by simp[fs81,stM,push_cast,noMine,argOwn,Chunk.frArg],by simp[fs81,stM,push_cast,outOk,Chunk.ext],fun x=>.inl (by simp[fs81,stM,push_cast,frNew,frOut,Chunk.fr])⟩,fun a hp=>?_⟩
 obtain⟨p,s,i⟩:=a
 obtain⟨h1,h2,h3⟩:stWf s s.since.length/\0<=i/\i<s.since.length:=hp
 obtain⟨o1,o2,o3,o4,o5,o6,o7,o8,o9,o10,o11⟩:=h1
 have o9:=o9 (by omega)
 change Tri Tryz.prog 81 [.ptr 0 p.L 0 0 0,.int .i64 i] (stM p s) (postF fs81 ⟨p,s,i⟩)
 have hm:i % s.w<=i:=by
  have:=Int.emod_add_mul_ediv i s.w
  have:=Int.mul_nonneg (Int.le_of_lt o9) (Int.ediv_nonneg h2 (Int.le_of_lt o9))
  omega
 have hm0:0<=i % s.w:=Int.emod_nonneg _ (by omega)
 have hn:nctxP s i=8+(if leftP s i then 1 else 0)+(if upP s i then 1 else 0):=rfl
 refine tri_evS (hyp (l:=[]) (lp:=[]) trivial trivial) Tryz.func81 comp81 (rs:=[.tmp 4]) (by rfl) Tryz.ntmps81 10 ?_
 by_cases hL:leftP s i
 ·obtain⟨l1,l2,l3⟩:=id hL
  rw[if_pos hL]at hn
  by_cases hU:upP s i
  ·obtain⟨u1,u2,u3⟩:=id hU
   rw[if_pos hU]at hn
   simp -implicitDefEqProofs only[push_cast,zz,seval,ir81,stM,stV,l1,l2,l3,u1,u2,u3]
   repeat refine om_ ?_
   refine postF.mk' (fun _=>default) [some 0,some 1,some 2,some 3,some 4,none,some 6] ?_
   simp -implicitDefEqProofs only[push_cast,zz,seval,fs81,stM,stV,hn]
  ·have hU':¬ (s.w<=i/\rd s.band (i-s.w)=rd s.band i/\0<rd s.since (i-s.w)):=hU
   rw[if_neg hU]at hn
   simp -implicitDefEqProofs only[push_cast,zz,seval,ir81,stM,stV,l1,l2,l3,hU']
   repeat refine om_ ?_
   refine postF.mk' (fun _=>default) [some 0,some 1,some 2,some 3,some 4,none,some 6] ?_
   simp -implicitDefEqProofs only[push_cast,zz,seval,fs81,stM,stV,hn]
 ·have hL':¬ (0<i % s.w/\rd s.band (i-1)=rd s.band i/\0<rd s.since (i-1)):=hL
  rw[if_neg hL]at hn
  by_cases hU:upP s i
  ·obtain⟨u1,u2,u3⟩:=id hU
   rw[if_pos hU]at hn
   simp -implicitDefEqProofs only[push_cast,zz,seval,ir81,stM,stV,hL',u1,u2,u3]
   repeat refine om_ ?_
   refine postF.mk' (fun _=>default) [some 0,some 1,some 2,some 3,some 4,none,some 6] ?_
   simp -implicitDefEqProofs only[push_cast,zz,seval,fs81,stM,stV,hn]
  ·have hU':¬ (s.w<=i/\rd s.band (i-s.w)=rd s.band i/\0<rd s.since (i-s.w)):=hU
   rw[if_neg hU]at hn
   simp -implicitDefEqProofs only[push_cast,zz,seval,ir81,stM,stV,hL',hU']
   repeat refine om_ ?_
   refine postF.mk' (fun _=>default) [some 0,some 1,some 2,some 3,some 4,none,some 6] ?_
   simp -implicitDefEqProofs only[push_cast,zz,seval,fs81,stM,stV,hn]
def ent81:Entry:=spOf fs81 invAt
theorem e81:EntryOk Tryz.prog 81 ent81:=entry_of ok81 invAt
@[push_cast] theorem ent81_app (us:List SV) (look:Look) (x:Nat->Xf.Loc) (k:Nat):ent81 us look x k=spOf fs81 invAt us look x k:=rfl
def b39_1:IR:=
 .seq (r_ [b_ 15 .lss 14 13] []) (.seq (.cond (.t 15) (.skip) (.exit 0)) (.seq (.block 1 (.seq (r_ [i_ 16 12 14 1,L_ 17 16,m_ 9 17] [15,16,17]) (.seq (r_ [m_ 18 0,m_ 19 9,o_ 20 (.call (some 4) 11 79 [.t 18,.t 19])] [9,18,19]) (.cond (.t 20) (r_ [z_ 6 1] [20]) (r_ [o_ 7 (.mov (.k (.bool false)))] [20]))))) (r_ [a_ 21 14 1,m_ 14 21] [21])))
def r39_2:IR:=
 .seq (r_ [z_ 10 0] [12,13,14]) (.seq (.seq (r_ [f_ 22 3 2,l_ 23 22,c_ 24 .geq 23 0] [22,23]) (.cond (.t 24) (.seq (r_ [z_ 10 1] [24]) (.seq (R_ [m_ 25 0,n_ 26 25,f_ 27 26 4,l_ 28 27,f_ 29 3 2,l_ 30 29,i_ 31 28 30 4,f_ 32 31 3,L_ 33 32] [0,3,25,26,27,28,29,30,31,32]) (.cond (.t 33) (r_ [z_ 10 2] [33]) (.skip)))) (.skip))) (.seq (r_ [m_ 34 10,o_ 35 (.bin 0 .mul (Z_ 2) (.t 34)),m_ 36 6,b_ 37 .add 35 36,m_ 38 7,o_ 39 (.not (.t 38)),m_ 4 37,m_ 5 39] [0,3,6,7,10,24,33,34,35,36,37,38,39]) (.ret)))
def ir39:IR:=
 .seq (r_ [o_ 3 (.box 10 (.t 1)),z_ 4 0,o_ 5 (.mov (.k (.bool false)))] [1,4,5]) (.seq (r_ [z_ 6 0,o_ 7 (.mov (.k (.bool true)))] []) (.seq (.seq (r_ [f_ 11 3 0,l_ 12 11,h_ 13 12,z_ 14 0] [11]) (.block 0 (.loop b39_1))) (r39_2)))
def kp39_1:List Nat:=[0,3,6,7,12,13,14]
def kl39_1:List Nat:=[11,12,13,14]
attribute [push_cast] kp39_1 kl39_1
set_option maxRecDepth 4000 in
theorem comp39:(Tryz.f39.body.bind fun c=>compC tab isP chkAll ir39 c)=some ir39:=by kernel_rfl
def ir82:IR:=
 R_ [m_ 6 0,n_ 7 6,f_ 8 7 2,l_ 9 8,m_ 10 1,m_ 11 0,n_ 12 11,f_ 13 12 1,l_ 14 13,m_ 15 1,m_ 16 0,n_ 17 16,f_ 18 17 3,l_ 19 18,a_ 20 19 1,m_ 21 2,i_ 22 9 10 1,S_ 1 .i64 22 20,i_ 23 14 15 1,S_ 1 .i64 23 21] [0,1,2,6,7,8,9,10,11,12,13,14,15,16,17,18,19,20,21,22,23]
set_option maxRecDepth 4000 in
theorem comp82:(Tryz.f82.body.bind fun c=>compC tab isP chkAll ir82 c)=some ir82:=by kernel_rfl
def ir38:IR:=
 .seq (r_ [o_ 3 (.mov (.k (.bool false)))] [3]) (.seq (R_ [l_ 4 0,l_ 5 1,i_ 6 4 5 1,L_ 7 6,o_ 8 (.callp 33 [.t 7]),l_ 9 2,b_ 10 .shr 8 9,c_ 11 .and 10 1,c_ 12 .eql 11 1,m_ 3 12] [0,1,2,4,5,6,7,8,9,10,11,12]) (.ret))
set_option maxRecDepth 4000 in
theorem comp38:(Tryz.f38.body.bind fun c=>compC tab isP chkAll ir38 c)=some ir38:=by kernel_rfl
def ir43:IR:=
 .seq (r_ [o_ 2 (.mov (.k (.bool false)))] [2]) (.seq (r_ [l_ 3 0,l_ 4 1,i_ 5 3 4 1,L_ 6 5,c_ 7 .lss 6 0,m_ 2 7] [0,1,3,4,5,6,7]) (.ret))
set_option maxRecDepth 4000 in
theorem comp43:(Tryz.f43.body.bind fun c=>compC tab isP chkAll ir43 c)=some ir43:=by kernel_rfl
def ir37:IR:=
 .seq (r_ [o_ 3 (.box 20 (.t 0)),o_ 4 (.mov (.k (.val .nilFunc)))] [0,4]) (.seq (r_ [o_ 5 (.mkf 38 [.t 1,.t 3,.t 2]),m_ 4 5] [1,2,3,5]) (.ret))
set_option maxRecDepth 4000 in
theorem comp37:(Tryz.f37.body.bind fun c=>compC tab isP chkAll ir37 c)=some ir37:=by kernel_rfl
def rdBk (l:List Bck) (i:Nat):Bck:=l.getD i default
theorem recAt_Bk {l:List Bck} {i:Nat} (h:i<l.length) (z:List RC):recAt (i:Int) z (l.map Bck.rc)=(rdBk l i).rc:=by
 simp[recAt,rdBk,h]
theorem rdBk_nat {l:List Bck} {i:Nat} (h:i<l.length):rdBk l i=l[i]:=by simp[rdBk,h]
def Bck.sv (x:Bck) (c:Nat):SV:=.agg [.sl c x.L 1 0 x.b.places.length,.int .i64 x.b.w,.int .i64 x.b.parent,.bool x.on]
structure BkA where
 p:StL
 s:StS
 b:Bck
def bkWf (s:StS) (b:Pb):Prop:=-1<=b.parent/\b.parent<s.list.length/\b.places.length<=16/\∀ x∈b.places,0<=x/\x<s.since.length
def someP (s:StS) (pl:List Int):Bool:=pl.any fun x=>decide (oldP s x)
def allP (s:StS) (pl:List Int):Bool:=pl.all fun x=>decide (oldP s x)
def abP (s:StS) (q:Int):Int:=if 0<=q then (if (rdBk s.list q.toNat).on=true then 2 else 1)else 0
def bctxP (s:StS) (b:Pb):Int:=2*abP s b.parent+(if someP s b.places=true then 1 else 0)
def invBk:List SV->Look->Option (BkA×List Nat)
 | [.ptr c _ 0 0 0,.agg [.sl d _ 1 0 _,.int .i64 w,.int .i64 q,.bool on]],look=>match invSt look c,rowI (look d)with
  | some (p,s,g),some (L,.i64,xs)=>some (⟨p,s,⟨L,⟨xs,w,q⟩,on⟩⟩,g++[d])
  | _,_=>none
 | _,_=>none
attribute [push_cast] invBk
theorem any_take {pl:List Int} {f:Int->Bool} {i:Nat} (h:i<pl.length):(pl.take (i+1)).any f=((pl.take i).any f||f (rd pl (i:Nat))):=by
 rw[List.take_succ_eq_append_getElem h,List.any_append,rd_lt pl i h];simp
theorem all_take {pl:List Int} {f:Int->Bool} {i:Nat} (h:i<pl.length):(pl.take (i+1)).all f=((pl.take i).all f&&f (rd pl (i:Nat))):=by
 rw[List.take_succ_eq_append_getElem h,List.all_append,rd_lt pl i h];simp
theorem rd_mem {pl:List Int} {i:Nat} (h:i<pl.length):rd pl (i:Nat)∈pl:=by rw[rd_lt pl i h];exact List.getElem_mem h
def fs39:FS where
 A:=BkA
 args:=fun a=>[.ptr 0 a.p.L 0 0 0,a.b.sv 7]
 mem:=fun a=>stM a.p a.s++[some (.ro,a.b.L,.ints .i64 a.b.b.places)]
 pre:=fun a=>stWf a.s a.s.since.length/\bkWf a.s a.b.b
 res:=fun a _=>.tup [.int .i64 (bctxP a.s a.b.b),.bool (!allP a.s a.b.b.places)]
 out:=fun _ _=>[]
 new:=fun _ _=>[]
set_option maxHeartbeats 1000000 in
theorem ok39:FSOk Tryz.prog 39 fs39:=by
 refine⟨⟨_,Tryz.func39,by kernel_rfl,by kernel_rfl⟩,fun a=>⟨by simp[fs39,stM,push_cast,noMine,argOwn,Chunk.frArg],by simp[fs39,stM,push_cast,outOk,Chunk.ext],fun x=>.inl (by simp[fs39,stM,push_cast,frNew,frOut,Chunk.fr])⟩,fun a hp=>?_⟩
 obtain⟨p,s,⟨L,⟨pl,w,q⟩,on⟩⟩:=a
 obtain⟨h1,h2,h3,h4,h5⟩:stWf s s.since.length/\-1<=q/\q<s.list.length/\pl.length<=16/\∀ x∈pl,0<=x/\x<s.since.length:=hp
 have hst:=h1
 obtain⟨o1,o2,o3,o4,o5,o6,o7,o8,o9,o10,o11⟩:=h1
 change Tri Tryz.prog 39 [.ptr 0 p.L 0 0 0,.agg [.sl 7 L 1 0 pl.length,.int .i64 w,.int .i64 q,.bool on]] (stM p s++[some (.ro,L,.ints .i64 pl)]) (postF fs39 ⟨p,s,⟨L,⟨pl,w,q⟩,on⟩⟩)
 have hfin:bctxP s ⟨pl,w,q⟩=2*abP s q+(if someP s pl=true then 1 else 0):=rfl
 refine tri_evS (hyp (l:=[(79,ent79)]) (lp:=[]) ⟨e79,trivial⟩ trivial) Tryz.func39 comp39 (rs:=[.tmp 4,.tmp 5]) (by rfl) Tryz.ntmps39 15 ?_
 simp -implicitDefEqProofs only[push_cast,zz,seval,ir39,stM,stV]
 intro X
 refine evS_loopU (A:=Nat) kp39_1 kl39_1 (fun i=>[(6,.int .i64 (if someP s (pl.take i)=true then 1 else 0)),(7,.bool (allP s (pl.take i))),(14,.int .i64 i)]) (fun i=>[]) (fun i=>i<=pl.length) (fun i=>pl.length-i) 0 (Nat.zero_le _) (Sub.pt ?_) ?_
 ·have e0:someP s (pl.take 0)=false:=rfl
  have e1:allP s (pl.take 0)=true:=rfl
  simp -implicitDefEqProofs only[push_cast,zz,seval,e0,e1]
 intro i hi K hK
 have hi:i<=pl.length:=hi
 by_cases hi':i<pl.length
 ·have hii:(i:Int)<pl.length:=by omega
  have hx:=h5 _ (rd_mem hi')
  have ha:someP s (pl.take (i+1))=(someP s (pl.take i)||decide (oldP s (rd pl (i:Nat)))):=any_take hi'
  have hb:allP s (pl.take (i+1))=(allP s (pl.take i)&&decide (oldP s (rd pl (i:Nat)))):=all_take hi'
  obtain⟨x,hxx⟩:∃ x,rd pl (i:Int)=x:=⟨_,rfl⟩
  rw[hxx]at hx ha hb
  by_cases hold:oldP s x
  ·have e1:decide (oldP s x)=true:=decide_eq_true hold
   rw[e1,Bool.or_true]at ha
   rw[e1,Bool.and_true]at hb
   simp -implicitDefEqProofs only[push_cast,zz,seval,b39_1,stM,stV,fs79,sAtOk,hst,hx,hxx,hii,hold]
   repeat refine om_ ?_
   refine hK (i+1) (show i+1<=pl.length by omega) (show pl.length-(i+1)<pl.length-i by omega) _ _ (Sub.pt ?_)
   simp -implicitDefEqProofs only[push_cast,zz,seval,stM,stV,ha,hb]
  ·have e1:decide (oldP s x)=false:=decide_eq_false hold
   rw[e1,Bool.or_false]at ha
   rw[e1,Bool.and_false]at hb
   simp -implicitDefEqProofs only[push_cast,zz,seval,b39_1,stM,stV,fs79,sAtOk,hst,hx,hxx,hii,hold]
   repeat refine om_ ?_
   refine hK (i+1) (show i+1<=pl.length by omega) (show pl.length-(i+1)<pl.length-i by omega) _ _ (Sub.pt ?_)
   simp -implicitDefEqProofs only[push_cast,zz,seval,stM,stV,ha,hb]
 ·obtain rfl:i=pl.length:=by omega
  clear hK
  obtain⟨u,hu⟩:∃ u,(if someP s pl=true then (1:Int)else 0)=u:=⟨_,rfl⟩
  have hub:0<=u/\u<=1:=by rw[<-hu];split<;>omega
  rw[hu]at hfin
  have hlm:=bkMap_len s.list
  by_cases hq:0<=q
  ·obtain⟨k,rfl⟩:∃ k:Nat,q=k:=⟨q.toNat,by omega⟩
   have he4:esz 4 s.list.length=4:=esz_pos (by omega)
   have rk:=recAt_Bk (l:=s.list) (i:=k) (by omega) []
   have hab:abP s (k:Int)=if (rdBk s.list k).on=true then 2 else 1:=by unfold abP;rw[if_pos hq,Int.toNat_natCast]
   obtain⟨⟨L',b',on'⟩,hbk⟩:∃ b,rdBk s.list k=b:=⟨_,rfl⟩
   rw[hbk]at rk hab
   simp only at hab
   cases on' with
   | true=>
    rw[if_pos rfl]at hab
    rw[hab]at hfin
    simp -implicitDefEqProofs only[push_cast,zz,seval,b39_1,r39_2,stM,stV,Int.lt_irrefl,List.take_length,hu,hq,rk,Bck.rc,hlm,he4]
    repeat refine om_ ?_
    refine postF.mk' (fun _=>default) [some 0,some 1,some 2,some 3,some 4,none,some 6,some 7] ?_
    simp -implicitDefEqProofs only[push_cast,zz,seval,fs39,stM,stV,hfin,he4]
   | false=>
    rw[if_neg (by decide)]at hab
    rw[hab]at hfin
    simp -implicitDefEqProofs only[push_cast,zz,seval,b39_1,r39_2,stM,stV,Int.lt_irrefl,List.take_length,hu,hq,rk,Bck.rc,hlm,he4]
    repeat refine om_ ?_
    refine postF.mk' (fun _=>default) [some 0,some 1,some 2,some 3,some 4,none,some 6,some 7] ?_
    simp -implicitDefEqProofs only[push_cast,zz,seval,fs39,stM,stV,hfin,he4]
  ·have hab:abP s q=0:=if_neg hq
   rw[hab]at hfin
   simp -implicitDefEqProofs only[push_cast,zz,seval,b39_1,r39_2,stM,stV,Int.lt_irrefl,List.take_length,hu,hq]
   repeat refine om_ ?_
   refine postF.mk' (fun _=>default) [some 0,some 1,some 2,some 3,some 4,none,some 6,some 7] ?_
   simp -implicitDefEqProofs only[push_cast,zz,seval,fs39,stM,stV,hfin]
def ent39:Entry:=spOf fs39 invBk
theorem e39:EntryOk Tryz.prog 39 ent39:=entry_of ok39 invBk
@[push_cast] theorem ent39_app (us:List SV) (look:Look) (x:Nat->Xf.Loc) (k:Nat):ent39 us look x k=spOf fs39 invBk us look x k:=rfl
structure BcA where
 p:StL
 s:StS
 at_:Int
 b:Bool
def invBc:List SV->Look->Option (BcA×List Nat)
 | [.ptr c _ 0 0 0,.int .i64 i,.bool b],look=>match invSt look c with
  | some (p,s,g)=>some (⟨p,s,i,b⟩,g)
  | none=>none
 | _,_=>none
attribute [push_cast] invBc
def fs82:FS where
 A:=BcA
 args:=fun a=>[.ptr 0 a.p.L 0 0 0,.int .i64 a.at_,.bool a.b]
 mem:=fun a=>[some (.ro,a.p.L,.cells (stV a.p a.s)),none,some (.lent,a.p.M,.bools a.s.minus),some (.lent,a.p.I,.ints .i64 a.s.since),none,none,none]
 pre:=fun a=>stWf a.s a.s.since.length/\0<=a.at_/\a.at_<a.s.since.length
 res:=fun a _=>.tup []
 out:=fun a _=>[none,none,some (some (.bools (a.s.minus.set a.at_.toNat a.b))),some (some (.ints .i64 (a.s.since.set a.at_.toNat (a.s.now+1))))]
 new:=fun _ _=>[]
theorem ok82:FSOk Tryz.prog 82 fs82:=by
 refine⟨⟨_,Tryz.func82,by kernel_rfl,by kernel_rfl⟩,fun a=>⟨by simp[fs82,stM,push_cast,noMine,argOwn,Chunk.frArg],by simp[fs82,stM,push_cast,outOk,Chunk.ext],fun x=>.inl (by simp[fs82,stM,push_cast,frNew,frOut,Chunk.fr])⟩,fun a hp=>?_⟩
 obtain⟨p,s,i,b⟩:=a
 obtain⟨h1,h2,h3⟩:stWf s s.since.length/\0<=i/\i<s.since.length:=hp
 obtain⟨o1,o2,o3,o4,o5,o6,o7,o8,o9,o10,o11⟩:=h1
 change Tri Tryz.prog 82 [.ptr 0 p.L 0 0 0,.int .i64 i,.bool b] [some (.ro,p.L,.cells (stV p s)),none,some (.lent,p.M,.bools s.minus),some (.lent,p.I,.ints .i64 s.since),none,none,none] (postF fs82 ⟨p,s,i,b⟩)
 refine tri_evS (hyp (l:=[]) (lp:=[]) trivial trivial) Tryz.func82 comp82 (rs:=[]) (by rfl) Tryz.ntmps82 10 ?_
 simp -implicitDefEqProofs only[push_cast,zz,seval,ir82,stV]
 repeat refine om_ ?_
 refine postF.mk' (fun _=>default) [some 0,none,some 2,some 3,none,none,none] ?_
 simp -implicitDefEqProofs only[push_cast,zz,seval,fs82,stV]
def ent82:Entry:=spOf fs82 invBc
theorem e82:EntryOk Tryz.prog 82 ent82:=entry_of ok82 invBc
@[push_cast] theorem ent82_app (us:List SV) (look:Look) (x:Nat->Xf.Loc) (k:Nat):ent82 us look x k=spOf fs82 invBc us look x k:=rfl
theorem and_1 {x:Int} (h0:0<=x) (h1:x<9223372036854775808):bitop .and .i64 x 1=x % 2:=by
 obtain⟨k,rfl⟩:∃ k:Nat,x=k:=⟨x.toNat,by omega⟩
 have e:((BitVec.ofInt 64 (k:Int)) &&& (BitVec.ofInt 64 1)).toNat=k % 2:=by
  rw[BitVec.toNat_and,BitVec.toNat_ofInt,BitVec.toNat_ofInt]
  rw[show(((1:Int) % ((2^64:Nat):Int)).toNat)=2^1-1 by decide,Nat.and_two_pow_sub_one_eq_mod]
  omega
 show IntKind.i64.wrap _=_
 have e':(BitVec.toNat ((BitVec.ofInt IntKind.i64.bits (k:Int)) &&& (BitVec.ofInt IntKind.i64.bits 1)))=k % 2:=e
 simp only[e']
 rw[inR_wrap (k:=.i64) (by simp only[inR,push_cast];omega)]
 omega
def absI (n:Int):Int:=max n (-n)
def digP (f:List Int) (x t:Int):Bool:=decide (absI (rd f x) / 2^t.toNat % 2=1)
def ofWf (f:List Int) (n:Nat):Prop:=f.length=n/\∀ x∈f,-1000000000<=x/\x<=1000000000
theorem ofWf.at {f:List Int} {n:Nat} (h:ofWf f n) {i:Int} (h0:0<=i) (h1:i<n):-1000000000<=rd f i/\rd f i<=1000000000:=by
 obtain⟨k,rfl⟩:∃ k:Nat,i=k:=⟨i.toNat,by omega⟩
 obtain⟨a,b⟩:=h
 rw[rd_lt f k (by omega)]
 exact b _ (List.getElem_mem _)
theorem dig_bd {v:Int} (h0:-1000000000<=v) (h1:v<=1000000000) (t:Nat):0<=max v (-v) / 2^t/\max v (-v) / 2^t<9223372036854775808:=by
 have a:=Int.ediv_nonneg (a:=max v (-v)) (b:=2^t) (by omega) (Int.le_of_lt (pow_pos' t))
 have b:max v (-v) / 2^t<=max v (-v):=Int.ediv_le_self _ (by omega)
 exact⟨a,by omega⟩
theorem bits_i64:((IntKind.i64.bits:Nat):Int)=64:=rfl
structure WdA where
 L1:Xf.Loc
 L2:Xf.Loc
 L3:Xf.Loc
 F:Xf.Loc
 f:List Int
 at_:Int
 t:Int
def wdM (a:WdA):Mem:=[some (.ro,a.L1,.cells [.sl 3 a.F 1 0 a.f.length]),some (.ro,a.L2,.cells [.int .i64 a.at_]),some (.ro,a.L3,.cells [.int .i64 a.t]),some (.ro,a.F,.ints .i64 a.f)]
def invWd:List SV->Look->Option (WdA×List Nat)
 | [.ptr a _ 0 0 0,.ptr b _ 0 0 0,.ptr c _ 0 0 0],look=>match rowC (look a),rowC (look b),rowC (look c)with
  | some (L1,[.sl d _ 1 0 _]),some (L2,[.int .i64 i]),some (L3,[.int .i64 t])=>match rowI (look d)with
   | some (F,.i64,f)=>some (⟨L1,L2,L3,F,f,i,t⟩,[a,b,c,d])
   | _=>none
  | _,_,_=>none
 | _,_=>none
attribute [push_cast] invWd
def fs38:FS where
 A:=WdA
 args:=fun a=>[.ptr 0 a.L1 0 0 0,.ptr 1 a.L2 0 0 0,.ptr 2 a.L3 0 0 0]
 mem:=wdM
 pre:=fun a=>ofWf a.f a.f.length/\0<=a.at_/\a.at_<a.f.length/\0<=a.t/\a.t<=60
 res:=fun a _=>.bool (digP a.f a.at_ a.t)
 out:=fun _ _=>[]
 new:=fun _ _=>[]
theorem ok38:FSOk Tryz.prog 38 fs38:=by
 refine⟨⟨_,Tryz.func38,by kernel_rfl,by kernel_rfl⟩,fun a=>⟨by simp[fs38,wdM,push_cast,noMine,argOwn,Chunk.frArg],by simp[fs38,wdM,push_cast,outOk,Chunk.ext],fun x=>.inl (by simp[fs38,wdM,push_cast,frNew,frOut,Chunk.fr])⟩,fun a hp=>?_⟩
 obtain⟨L1,L2,L3,F,f,i,t⟩:=a
 obtain⟨h1,h2,h3,h4,h5⟩:ofWf f f.length/\0<=i/\i<f.length/\0<=t/\t<=60:=hp
 have hv:=h1.at h2 h3
 have hb64:=bits_i64
 change Tri Tryz.prog 38 [.ptr 0 L1 0 0 0,.ptr 1 L2 0 0 0,.ptr 2 L3 0 0 0] (wdM ⟨L1,L2,L3,F,f,i,t⟩) (postF fs38 ⟨L1,L2,L3,F,f,i,t⟩)
 have hd:digP f i t=decide (max (rd f i) (-rd f i) / 2^t.toNat % 2=1):=rfl
 obtain⟨v,hvv⟩:∃ v,rd f i=v:=⟨_,rfl⟩
 rw[hvv]at hv hd
 have hdb:=dig_bd hv.1 hv.2 t.toNat
 have ha:=and_1 hdb.1 hdb.2
 refine tri_evS (hyp (l:=[]) (lp:=[(33,absF)]) trivial ⟨p33,trivial⟩) Tryz.func38 comp38 (rs:=[.tmp 3]) (by rfl) Tryz.ntmps38 10 ?_
 simp -implicitDefEqProofs only[push_cast,zz,seval,ir38,wdM,hvv,ha]
 repeat refine om_ ?_
 refine postF.mk' (fun _=>default) [some 0,some 1,some 2,some 3] ?_
 simp -implicitDefEqProofs only[push_cast,zz,seval,fs38,wdM,hd]
def ent38:Entry:=spOf fs38 invWd
theorem e38:EntryOk Tryz.prog 38 ent38:=entry_of ok38 invWd
@[push_cast] theorem ent38_app (us:List SV) (look:Look) (x:Nat->Xf.Loc) (k:Nat):ent38 us look x k=spOf fs38 invWd us look x k:=rfl
structure NgA where
 L1:Xf.Loc
 L2:Xf.Loc
 F:Xf.Loc
 f:List Int
 at_:Int
def ngM (a:NgA):Mem:=[some (.ro,a.L1,.cells [.sl 2 a.F 1 0 a.f.length]),some (.ro,a.L2,.cells [.int .i64 a.at_]),some (.ro,a.F,.ints .i64 a.f)]
def invNg:List SV->Look->Option (NgA×List Nat)
 | [.ptr a _ 0 0 0,.ptr b _ 0 0 0],look=>match rowC (look a),rowC (look b)with
  | some (L1,[.sl d _ 1 0 _]),some (L2,[.int .i64 i])=>match rowI (look d)with
   | some (F,.i64,f)=>some (⟨L1,L2,F,f,i⟩,[a,b,d])
   | _=>none
  | _,_=>none
 | _,_=>none
attribute [push_cast] invNg
def fs43:FS where
 A:=NgA
 args:=fun a=>[.ptr 0 a.L1 0 0 0,.ptr 1 a.L2 0 0 0]
 mem:=ngM
 pre:=fun a=>0<=a.at_/\a.at_<a.f.length
 res:=fun a _=>.bool (decide (rd a.f a.at_<0))
 out:=fun _ _=>[]
 new:=fun _ _=>[]
theorem ok43:FSOk Tryz.prog 43 fs43:=by
 refine⟨⟨_,Tryz.func43,by kernel_rfl,by kernel_rfl⟩,fun a=>⟨by simp[fs43,ngM,push_cast,noMine,argOwn,Chunk.frArg],by simp[fs43,ngM,push_cast,outOk,Chunk.ext],fun x=>.inl (by simp[fs43,ngM,push_cast,frNew,frOut,Chunk.fr])⟩,fun a hp=>?_⟩
 obtain⟨L1,L2,F,f,i⟩:=a
 obtain⟨h2,h3⟩:0<=i/\i<f.length:=hp
 change Tri Tryz.prog 43 [.ptr 0 L1 0 0 0,.ptr 1 L2 0 0 0] (ngM ⟨L1,L2,F,f,i⟩) (postF fs43 ⟨L1,L2,F,f,i⟩)
 refine tri_evS (hyp (l:=[]) (lp:=[]) trivial trivial) Tryz.func43 comp43 (rs:=[.tmp 2]) (by rfl) Tryz.ntmps43 10 ?_
 simp -implicitDefEqProofs only[push_cast,zz,seval,ir43,ngM]
 repeat refine om_ ?_
 refine postF.mk' (fun _=>default) [some 0,some 1,some 2] ?_
 simp -implicitDefEqProofs only[push_cast,zz,seval,fs43,ngM]
def ent43:Entry:=spOf fs43 invNg
theorem e43:EntryOk Tryz.prog 43 ent43:=entry_of ok43 invNg
@[push_cast] theorem ent43_app (us:List SV) (look:Look) (x:Nat->Xf.Loc) (k:Nat):ent43 us look x k=spOf fs43 invNg us look x k:=rfl
structure DgA where
 L1:Xf.Loc
 L2:Xf.Loc
 at_:Int
def invDg:List SV->Look->Option (DgA×List Nat)
 | [.int .i64 i,.ptr a L1 0 0 0,.ptr b L2 0 0 0],look=>some (⟨L1,L2,i⟩,[a,b])
 | _,_=>none
attribute [push_cast] invDg
def fs37:FS where
 A:=DgA
 args:=fun a=>[.int .i64 a.at_,.ptr 0 a.L1 0 0 0,.ptr 1 a.L2 0 0 0]
 mem:=fun _=>[none,none]
 pre:=fun _=>True
 res:=fun a x=>.fn 38 [.ptr 0 a.L1 0 0 0,.ptr 2 (x 0) 0 0 0,.ptr 1 a.L2 0 0 0]
 out:=fun _ _=>[]
 new:=fun a x=>[(x 0,.cells [.int .i64 a.at_])]
theorem ok37:FSOk Tryz.prog 37 fs37:=by
 refine⟨⟨_,Tryz.func37,by kernel_rfl,by kernel_rfl⟩,fun a=>⟨by simp[fs37,push_cast,noMine,argOwn,Chunk.frArg],by simp[fs37,push_cast,outOk,Chunk.ext],fun x=>.inl (by simp[fs37,push_cast,frNew,frOut,Chunk.fr])⟩,fun a hp=>?_⟩
 obtain⟨L1,L2,i⟩:=a
 change Tri Tryz.prog 37 [.int .i64 i,.ptr 0 L1 0 0 0,.ptr 1 L2 0 0 0] [none,none] (postF fs37 ⟨L1,L2,i⟩)
 refine tri_evS (hyp (l:=[]) (lp:=[]) trivial trivial) Tryz.func37 comp37 (rs:=[.tmp 4]) (by rfl) Tryz.ntmps37 21 ?_
 simp -implicitDefEqProofs only[push_cast,zz,seval,ir37]
 intro X
 refine postF.mk' (fun _=>X 0 20) [none,none,some 20] ?_
 simp -implicitDefEqProofs only[push_cast,zz,seval,fs37]
def ent37:Entry:=spOf fs37 invDg
theorem e37:EntryOk Tryz.prog 37 ent37:=entry_of ok37 invDg
@[push_cast] theorem ent37_app (us:List SV) (look:Look) (x:Nat->Xf.Loc) (k:Nat):ent37 us look x k=spOf fs37 invDg us look x k:=rfl
def b41_1:IR:=
 .seq (r_ [b_ 15 .lss 14 13] []) (.seq (.cond (.t 15) (.skip) (.exit 0)) (.seq (.block 1 (.seq (r_ [i_ 16 12 14 1,L_ 17 16,m_ 10 17] [15,16,17]) (.seq (r_ [m_ 18 0,m_ 19 10,o_ 20 (.call (some 4) 11 79 [.t 18,.t 19]),o_ 21 (.not (.t 20)),m_ 22 21,p_ 22 (m_ 23 3),p_ 22 (m_ 24 10),p_ 22 (i_ 25 23 24 1),p_ 22 (L_ 26 25),p_ 22 (o_ 27 (.callp 33 [.t 26])),p_ 22 (m_ 28 2),p_ 22 (b_ 29 .shr 27 28),p_ 22 (c_ 30 .and 29 1),p_ 22 (c_ 31 .eql 30 1),K_ 32 22 31] [10,18,19,20,21,22,23,24,25,26,27,28,29,30,31]) (.cond (.t 32) (.seq (r_ [o_ 8 (.mov (.k (.bool true)))] [0,2,3,12,13,14,32]) (.ret)) (.skip))))) (r_ [a_ 33 14 1,m_ 14 33] [8,32,33])))
def r41_2:IR:=
 .seq (r_ [o_ 8 (.mov (.k (.bool false)))] [0,2,3,12,13,14]) (.ret)
def ir41:IR:=
 .seq (r_ [o_ 5 (.box 10 (.t 1)),o_ 8 (.mov (.k (.bool false)))] [1,8]) (.seq (.seq (r_ [f_ 11 5 0,l_ 12 11,h_ 13 12,z_ 14 0] [5,11]) (.block 0 (.loop b41_1))) (r41_2))
def kp41_1:List Nat:=[0,2,3,12,13,14]
def kl41_1:List Nat:=[11,12,13,14]
attribute [push_cast] kp41_1 kl41_1
set_option maxRecDepth 4000 in
theorem comp41:(Tryz.f41.body.bind fun c=>compC tab isP chkAll ir41 c)=some ir41:=by kernel_rfl
def ir40:IR:=
 .seq (r_ [o_ 4 (.mov (.k (.bool false)))] [4]) (.seq (R_ [⟨some 5,none,⟨[20],[]⟩,.ld false none 0 0 (.t 0)⟩,l_ 6 1,n_ 7 6,o_ 8 (.ld true (some 4) 20 1 (.t 7)),⟨some 9,none,⟨[20],[]⟩,.ld false none 0 0 (.t 2)⟩,⟨some 10,none,⟨[20],[]⟩,.ld false none 0 0 (.t 3)⟩,o_ 11 (.call (some 4) 21 41 [.t 5,.t 8,.t 9,.t 10]),m_ 4 11] [0,1,2,3,5,6,7,8,9,10,11]) (.ret))
set_option maxRecDepth 4000 in
theorem comp40:(Tryz.f40.body.bind fun c=>compC tab isP chkAll ir40 c)=some ir40:=by kernel_rfl
def onP (s:StS) (pl f:List Int) (t:Int):Bool:=pl.any fun x=>!decide (oldP s x)&&digP f x t
structure BoA where
 p:StL
 s:StS
 b:Bck
 F:Xf.Loc
 f:List Int
 t:Int
def invBo:List SV->Look->Option (BoA×List Nat)
 | [.ptr c _ 0 0 0,.agg [.sl d _ 1 0 _,.int .i64 w,.int .i64 q,.bool on],.int .i64 t,.sl e _ 1 0 _],look=>match invSt look c,rowI (look d),rowI (look e)with
  | some (p,s,g),some (L,.i64,xs),some (F,.i64,f)=>some (⟨p,s,⟨L,⟨xs,w,q⟩,on⟩,F,f,t⟩,g++[d,e])
  | _,_,_=>none
 | _,_=>none
attribute [push_cast] invBo
def onWf (s:StS) (pl f:List Int) (t:Int):Prop:=stWf s s.since.length/\ofWf f s.since.length/\pl.length<=16/\(∀ x∈pl,0<=x/\x<s.since.length)/\0<=t/\t<=60
def fs41:FS where
 A:=BoA
 args:=fun a=>[.ptr 0 a.p.L 0 0 0,a.b.sv 7,.int .i64 a.t,.sl 8 a.F 1 0 a.f.length]
 mem:=fun a=>stM a.p a.s++[some (.ro,a.b.L,.ints .i64 a.b.b.places),some (.ro,a.F,.ints .i64 a.f)]
 pre:=fun a=>onWf a.s a.b.b.places a.f a.t
 res:=fun a _=>.bool (onP a.s a.b.b.places a.f a.t)
 out:=fun _ _=>[]
 new:=fun _ _=>[]
set_option maxHeartbeats 1000000 in
theorem ok41:FSOk Tryz.prog 41 fs41:=by
 refine⟨⟨_,Tryz.func41,by kernel_rfl,by kernel_rfl⟩,fun a=>⟨by simp[fs41,stM,push_cast,noMine,argOwn,Chunk.frArg],by simp[fs41,stM,push_cast,outOk,Chunk.ext],fun x=>.inl (by simp[fs41,stM,push_cast,frNew,frOut,Chunk.fr])⟩,fun a hp=>?_⟩
 obtain⟨p,s,⟨L,⟨pl,w,q⟩,on⟩,F,f,t⟩:=a
 obtain⟨h1,h2,h3,h4,h5,h6⟩:stWf s s.since.length/\ofWf f s.since.length/\pl.length<=16/\(∀ x∈pl,0<=x/\x<s.since.length)/\0<=t/\t<=60:=hp
 have hst:=h1
 have hb64:=bits_i64
 have hfl:=h2.1
 obtain⟨o1,o2,o3,o4,o5,o6,o7,o8,o9,o10,o11⟩:=h1
 change Tri Tryz.prog 41 [.ptr 0 p.L 0 0 0,.agg [.sl 7 L 1 0 pl.length,.int .i64 w,.int .i64 q,.bool on],.int .i64 t,.sl 8 F 1 0 f.length] (stM p s++[some (.ro,L,.ints .i64 pl),some (.ro,F,.ints .i64 f)]) (postF fs41 ⟨p,s,⟨L,⟨pl,w,q⟩,on⟩,F,f,t⟩)
 refine tri_evS (hyp (l:=[(79,ent79)]) (lp:=[(33,absF)]) ⟨e79,trivial⟩ ⟨p33,trivial⟩) Tryz.func41 comp41 (rs:=[.tmp 8]) (by rfl) Tryz.ntmps41 15 ?_
 simp -implicitDefEqProofs only[push_cast,zz,seval,ir41,stM,stV]
 intro X
 refine evS_loopU (A:=Nat) kp41_1 kl41_1 (fun i=>[(14,.int .i64 i)]) (fun i=>[]) (fun i=>i<=pl.length/\onP s (pl.take i) f t=false) (fun i=>pl.length-i) 0 ⟨Nat.zero_le _,rfl⟩ (Sub.pt ?_) ?_
 ·simp -implicitDefEqProofs only[push_cast,zz,seval]
 intro i ⟨(hi:i<=pl.length),(hno:onP s (pl.take i) f t=false)⟩ K hK
 by_cases hi':i<pl.length
 ·have hii:(i:Int)<pl.length:=by omega
  have hx:=h4 _ (rd_mem hi')
  have hst1:onP s (pl.take (i+1)) f t=(onP s (pl.take i) f t||(!decide (oldP s (rd pl (i:Nat)))&&digP f (rd pl (i:Nat)) t)):=any_take hi'
  have hyes:(!decide (oldP s (rd pl (i:Nat)))&&digP f (rd pl (i:Nat)) t)=true->onP s pl f t=true:=fun h=>List.any_eq_true.2 ⟨_,rd_mem hi',h⟩
  obtain⟨x,hxx⟩:∃ x,rd pl (i:Int)=x:=⟨_,rfl⟩
  rw[hxx]at hx hst1 hyes
  have hv:=h2.at hx.1 hx.2
  have hd:digP f x t=decide (max (rd f x) (-rd f x) / 2^t.toNat % 2=1):=rfl
  obtain⟨v,hvv⟩:∃ v,rd f x=v:=⟨_,rfl⟩
  rw[hvv]at hv hd
  have hdb:=dig_bd hv.1 hv.2 t.toNat
  have ha:=and_1 hdb.1 hdb.2
  by_cases hold:oldP s x
  ·have e1:decide (oldP s x)=true:=decide_eq_true hold
   rw[e1,hno]at hst1
   clear hyes
   simp -implicitDefEqProofs only[push_cast,zz,seval,b41_1,stM,stV,fs79,sAtOk,hst,hx,hxx,hii,hold]
   repeat refine om_ ?_
   refine hK (i+1) ⟨show i+1<=pl.length by omega,hst1⟩ (show pl.length-(i+1)<pl.length-i by omega) _ _ (Sub.pt ?_)
   simp -implicitDefEqProofs only[push_cast,zz,seval,stM,stV]
  ·have e1:decide (oldP s x)=false:=decide_eq_false hold
   rw[e1,hno]at hst1
   rw[e1]at hyes
   by_cases hdg:max v (-v) / 2^t.toNat % 2=1
   ·have hyes:=hyes (by rw[hd,decide_eq_true hdg];rfl)
    clear hK
    simp -implicitDefEqProofs only[push_cast,zz,seval,b41_1,stM,stV,fs79,sAtOk,hst,hx,hxx,hii,hold,hvv,ha,hdg]
    repeat refine om_ ?_
    refine postF.mk' (fun _=>default) [some 0,some 1,some 2,some 3,some 4,none,some 6,some 7,some 8] ?_
    simp -implicitDefEqProofs only[push_cast,zz,seval,fs41,stM,stV,hyes]
   ·rw[hd,decide_eq_false hdg]at hst1
    simp -implicitDefEqProofs only[push_cast,zz,seval,b41_1,stM,stV,fs79,sAtOk,hst,hx,hxx,hii,hold,hvv,ha,hdg]
    repeat refine om_ ?_
    refine hK (i+1) ⟨show i+1<=pl.length by omega,hst1⟩ (show pl.length-(i+1)<pl.length-i by omega) _ _ (Sub.pt ?_)
    simp -implicitDefEqProofs only[push_cast,zz,seval,stM,stV]
 ·obtain rfl:i=pl.length:=by omega
  clear hK
  rw[List.take_length]at hno
  simp -implicitDefEqProofs only[push_cast,zz,seval,b41_1,r41_2,stM,stV,Int.lt_irrefl]
  refine postF.mk' (fun _=>default) [some 0,some 1,some 2,some 3,some 4,none,some 6,some 7,some 8] ?_
  simp -implicitDefEqProofs only[push_cast,zz,seval,fs41,stM,stV,hno]
def ent41:Entry:=spOf fs41 invBo
theorem e41:EntryOk Tryz.prog 41 ent41:=entry_of ok41 invBo
@[push_cast] theorem ent41_app (us:List SV) (look:Look) (x:Nat->Xf.Loc) (k:Nat):ent41 us look x k=spOf fs41 invBo us look x k:=rfl
structure WoA where
 p:StL
 s:StS
 i:Nat
 Ls:Xf.Loc
 Lb:Xf.Loc
 Lt:Xf.Loc
 Lf:Xf.Loc
 F:Xf.Loc
 f:List Int
 t:Int
def woM (a:WoA):Mem:=stM a.p a.s++[some (.ro,a.Ls,.cells [.ptr 0 a.p.L 0 0 0]),some (.ro,a.Lb,.cells [.ptr 4 a.p.K (a.i:Nat) 4 0]),some (.ro,a.Lt,.cells [.int .i64 a.t]),some (.ro,a.Lf,.cells [.sl 11 a.F 1 0 a.f.length]),some (.ro,a.F,.ints .i64 a.f)]
def invWo:List SV->Look->Option (WoA×List Nat)
 | [.ptr a _ 0 0 0,.ptr b _ 0 0 0,.ptr c _ 0 0 0,.ptr d _ 0 0 0],look=>match rowC (look a),rowC (look b),rowC (look c),rowC (look d)with
  | some (Ls,[.ptr m _ 0 0 0]),some (Lb,[.ptr _ _ i 4 0]),some (Lt,[.int .i64 t]),some (Lf,[.sl e _ 1 0 _])=>match invSt look m,rowI (look e)with
   | some (p,s,g),some (F,.i64,f)=>some (⟨p,s,i.toNat,Ls,Lb,Lt,Lf,F,f,t⟩,g++[a,b,c,d,e])
   | _,_=>none
  | _,_,_,_=>none
 | _,_=>none
attribute [push_cast] invWo
def fs40:FS where
 A:=WoA
 args:=fun a=>[.ptr 7 a.Ls 0 0 0,.ptr 8 a.Lb 0 0 0,.ptr 9 a.Lt 0 0 0,.ptr 10 a.Lf 0 0 0]
 mem:=woM
 pre:=fun a=>a.i<a.s.list.length/\onWf a.s (rdBk a.s.list a.i).b.places a.f a.t
 res:=fun a _=>.bool (onP a.s (rdBk a.s.list a.i).b.places a.f a.t)
 out:=fun _ _=>[]
 new:=fun _ _=>[]
set_option maxHeartbeats 1000000 in
theorem ok40:FSOk Tryz.prog 40 fs40:=by
 refine⟨⟨_,Tryz.func40,by kernel_rfl,by kernel_rfl⟩,fun a=>⟨by simp[fs40,woM,stM,push_cast,noMine,argOwn,Chunk.frArg],by simp[fs40,woM,stM,push_cast,outOk,Chunk.ext],fun x=>.inl (by simp[fs40,woM,stM,push_cast,frNew,frOut,Chunk.fr])⟩,fun a hp=>?_⟩
 obtain⟨p,s,i,Ls,Lb,Lt,Lf,F,f,t⟩:=a
 obtain⟨h1,h2⟩:i<s.list.length/\onWf s (rdBk s.list i).b.places f t:=hp
 change Tri Tryz.prog 40 [.ptr 7 Ls 0 0 0,.ptr 8 Lb 0 0 0,.ptr 9 Lt 0 0 0,.ptr 10 Lf 0 0 0] (woM ⟨p,s,i,Ls,Lb,Lt,Lf,F,f,t⟩) (postF fs40 ⟨p,s,i,Ls,Lb,Lt,Lf,F,f,t⟩)
 have rk:=recAt_Bk h1 []
 have hlm:=bkMap_len s.list
 obtain⟨⟨L',⟨pl,w,q⟩,on'⟩,hbk⟩:∃ b,rdBk s.list i=b:=⟨_,rfl⟩
 rw[hbk]at rk h2
 simp only at h2
 refine tri_evS (hyp (l:=[(41,ent41)]) (lp:=[]) ⟨e41,trivial⟩ trivial) Tryz.func40 comp40 (rs:=[.tmp 4]) (by rfl) Tryz.ntmps40 25 ?_
 simp -implicitDefEqProofs only[push_cast,zz,seval,ir40,woM,stM,stV,rk,Bck.rc,hlm,fs41,Bck.sv,h2]
 repeat refine om_ ?_
 refine postF.mk' (fun _=>default) [some 0,some 1,some 2,some 3,some 4,none,some 6,some 7,some 8,some 9,some 10,some 11] ?_
 simp -implicitDefEqProofs only[push_cast,zz,seval,fs40,woM,stM,stV,hbk]
def ent40:Entry:=spOf fs40 invWo
theorem e40:EntryOk Tryz.prog 40 ent40:=entry_of ok40 invWo
@[push_cast] theorem ent40_app (us:List SV) (look:Look) (x:Nat->Xf.Loc) (k:Nat):ent40 us look x k=spOf fs40 invWo us look x k:=rfl
def ir14:IR:=
 .seq (r_ [o_ 5 (.mov (.k (.bool false))),z_ 6 0] [5,6]) (.seq (r_ [m_ 9 1,o_ 10 (.callv (some 4) 20 (.t 9) []),m_ 7 10] [1,9,10]) (.seq (r_ [z_ 8 0] []) (.seq (.seq (r_ [m_ 11 7] []) (.cond (.t 11) (r_ [z_ 8 1] [11]) (.skip))) (.seq (r_ [m_ 12 7,l_ 13 2,m_ 14 0,m_ 15 8,o_ 16 (.call none 24 15 [.t 13,.t 14,.t 15]),m_ 5 12,m_ 6 16] [0,2,7,8,11,12,13,14,15,16]) (.ret)))))
set_option maxRecDepth 4000 in
theorem comp14:(Tryz.f14.body.bind fun c=>compC tab isP chkAll ir14 c)=some ir14:=by kernel_rfl
def ir64:IR:=
 .seq (r_ [o_ 5 (.mov (.k (.bool false))),z_ 6 0] [1,5,6]) (.seq (r_ [l_ 10 2,m_ 11 0,o_ 12 (.call none 20 65 [.t 10,.t 11]),m_ 9 12,e_ 13 9 0,e_ 14 9 1,m_ 7 13,m_ 8 14] [0,2,9,10,11,12,13,14]) (.seq (r_ [m_ 15 7,c_ 16 .eql 15 1,m_ 17 8,m_ 5 16,m_ 6 17] [7,8,15,16,17]) (.ret)))
set_option maxRecDepth 4000 in
theorem comp64:(Tryz.f64.body.bind fun c=>compC tab isP chkAll ir64 c)=some ir64:=by kernel_rfl
inductive WE where
 | dig (L1 L2 L3 F:Xf.Loc) (f:List Int) (at_ t:Int)
 | neg (L1 L2 F:Xf.Loc) (f:List Int) (at_:Int)
 | on (p:StL) (s:StS) (i:Nat) (Ls Lb Lt Lf F:Xf.Loc) (f:List Int) (t:Int)
def WE.val:WE->Bool
 | .dig _ _ _ _ f i t=>digP f i t
 | .neg _ _ _ f i=>decide (rd f i<0)
 | .on _ s i _ _ _ _ _ f t=>onP s (rdBk s.list i).b.places f t
def WE.wf:WE->Prop
 | .dig _ _ _ _ f i t=>ofWf f f.length/\0<=i/\i<f.length/\0<=t/\t<=60
 | .neg _ _ _ f i=>0<=i/\i<f.length
 | .on _ s i _ _ _ _ _ f t=>i<s.list.length/\onWf s (rdBk s.list i).b.places f t
def WE.fn:WE->SV
 | .dig L1 L2 L3 _ _ _ _=>.fn 38 [.ptr 4 L1 0 0 0,.ptr 5 L2 0 0 0,.ptr 6 L3 0 0 0]
 | .neg L1 L2 _ _ _=>.fn 43 [.ptr 4 L1 0 0 0,.ptr 5 L2 0 0 0]
 | .on _ _ _ Ls Lb Lt Lf _ _ _=>.fn 40 [.ptr 11 Ls 0 0 0,.ptr 12 Lb 0 0 0,.ptr 13 Lt 0 0 0,.ptr 14 Lf 0 0 0]
def WE.mem:WE->Mem
 | .dig L1 L2 L3 F f i t=>[some (.ro,L1,.cells [.sl 7 F 1 0 f.length]),some (.ro,L2,.cells [.int .i64 i]),some (.ro,L3,.cells [.int .i64 t]),some (.ro,F,.ints .i64 f)]
 | .neg L1 L2 F f i=>[some (.ro,L1,.cells [.sl 6 F 1 0 f.length]),some (.ro,L2,.cells [.int .i64 i]),some (.ro,F,.ints .i64 f)]
 | .on p s i Ls Lb Lt Lf F f t=>[some (.ro,p.L,.cells (relabs (fun i=>i+4) (stV p s))),some (.ro,p.Z,.ints .i64 s.size),some (.ro,p.M,.bools s.minus),some (.ro,p.I,.ints .i64 s.since),some (.ro,p.K,.recs 4 false [] (s.list.map Bck.rc)),none,some (.ro,p.B,.ints .i64 s.band),
   some (.ro,Ls,.cells [.ptr 4 p.L 0 0 0]),some (.ro,Lb,.cells [.ptr 8 p.K (i:Nat) 4 0]),some (.ro,Lt,.cells [.int .i64 t]),some (.ro,Lf,.cells [.sl 15 F 1 0 f.length]),some (.ro,F,.ints .i64 f)]
def WE.top:WE->Nat
 | .dig ..=>8
 | .neg ..=>7
 | .on ..=>16
def b2i (b:Bool):Int:=if b=true then 1 else 0
structure PeA where
 L:Xf.Loc
 LS:Xf.Loc
 LO:Xf.Loc
 LX:Xf.Loc
 e:EnS
 ctx:Int
 w:WE
def invPe:List SV->Look->Option (PeA×List Nat)
 | [.int .i64 ctx,.fn g cs,.ptr x _ 0 0 0],look=>match rowC (look x)with
  | some (LX,[.ptr c _ 0 0 0])=>match invEn [.ptr c nilLoc 0 0 0] look with
   | some (⟨L,LS,LO,e,_,_⟩,h)=>bif g==38 then (match invWd cs look with
     | some (⟨L1,L2,L3,F,f,i,t⟩,k)=>some (⟨L,LS,LO,LX,e,ctx,.dig L1 L2 L3 F f i t⟩,h++(x::k))
     | none=>none)
    else bif g==43 then (match invNg cs look with
     | some (⟨L1,L2,F,f,i⟩,k)=>some (⟨L,LS,LO,LX,e,ctx,.neg L1 L2 F f i⟩,h++(x::k))
     | none=>none)
    else bif g==40 then (match invWo cs look with
     | some (⟨p,s,i,Ls,Lb,Lt,Lf,F,f,t⟩,k)=>some (⟨L,LS,LO,LX,e,ctx,.on p s i Ls Lb Lt Lf F f t⟩,h++(x::k))
     | none=>none)
    else none
   | none=>none
  | _=>none
 | _,_=>none
attribute [push_cast] invPe
def fs14:FS where
 A:=PeA
 args:=fun a=>[.int .i64 a.ctx,a.w.fn,.ptr 3 a.LX 0 0 0]
 mem:=fun a=>[some (.lent,a.L,.cells (enV a.LS a.e 2 a.LO)),some (.lent,a.LS,.ints .i64 a.e.st),some (.lent,a.LO,.ints .u8 a.e.out),some (.ro,a.LX,.cells [.ptr 0 a.L 0 0 0])]++a.w.mem
 pre:=fun a=>a.e.ok/\0<=a.ctx/\a.ctx<a.e.st.length/\a.e.out.length<=100000000/\a.w.wf
 res:=fun a _=>.tup [.bool a.w.val,.int .i64 0]
 out:=fun a x=>[some (some (.cells (enV a.LS (putP a.e a.ctx (b2i a.w.val)) a.w.top (x 0)))),some (some (.ints .i64 (putP a.e a.ctx (b2i a.w.val)).st)),some none]
 new:=fun a x=>[(x 0,.ints .u8 (putP a.e a.ctx (b2i a.w.val)).out)]
 newGot:=true
theorem b2i_01 (b:Bool):b2i b=0∨b2i b=1:=by cases b<;>simp[b2i]
set_option maxHeartbeats 4000000 in
theorem ok14:FSOk Tryz.prog 14 fs14:=by
 refine⟨⟨_,Tryz.func14,by kernel_rfl,by kernel_rfl⟩,fun a=>?_,fun a hp=>?_⟩
 ·obtain⟨L,LS,LO,LX,e,ctx,w⟩:=a
  cases w<;>exact⟨by simp[fs14,WE.mem,push_cast,noMine,argOwn,Chunk.frArg],by simp[fs14,WE.mem,enV,ivV,putP,push_cast,outOk,Chunk.ext],fun x=>.inl (by simp[fs14,push_cast,frNew,frOut,Chunk.fr])⟩
 obtain⟨L,LS,LO,LX,⟨kind,st,low,high,out⟩,ctx,w⟩:=a
 obtain⟨h1,h2,h3,h4,h5⟩:ivOk2 kind st low high/\0<=ctx/\ctx<st.length/\out.length<=100000000/\w.wf:=hp
 have h1':(⟨kind,st,low,high,out⟩:EnS).ok:=h1
 obtain⟨v,hv⟩:∃ v,w.val=v:=⟨_,rfl⟩
 have hbi:b2i v=0∨b2i v=1:=b2i_01 v
 obtain⟨E,hE⟩:∃ E,putP ⟨kind,st,low,high,out⟩ ctx (b2i v)=E:=⟨_,rfl⟩
 have hst:(E.st.length:Int)=st.length:=by rw[<-hE];simp[putP]
 cases w with
 | dig L1 L2 L3 F f i t=>
  change Tri Tryz.prog 14 [.int .i64 ctx,.fn 38 [.ptr 4 L1 0 0 0,.ptr 5 L2 0 0 0,.ptr 6 L3 0 0 0],.ptr 3 LX 0 0 0]
   [some (.lent,L,.cells (enV LS ⟨kind,st,low,high,out⟩ 2 LO)),some (.lent,LS,.ints .i64 st),some (.lent,LO,.ints .u8 out),some (.ro,LX,.cells [.ptr 0 L 0 0 0]),some (.ro,L1,.cells [.sl 7 F 1 0 f.length]),some (.ro,L2,.cells [.int .i64 i]),some (.ro,L3,.cells [.int .i64 t]),some (.ro,F,.ints .i64 f)] (postF fs14 _)
  have hv':digP f i t=v:=hv
  obtain⟨g1,g2,g3,g4,g5⟩:ofWf f f.length/\0<=i/\i<f.length/\0<=t/\t<=60:=h5
  refine tri_evS (hyp (l:=[(38,ent38),(40,ent40),(43,ent43),(15,ent15)]) (lp:=[]) ⟨e38,e40,e43,e15,trivial⟩ trivial) Tryz.func14 comp14 (rs:=[.tmp 5,.tmp 6]) (by rfl) Tryz.ntmps14 28 ?_
  cases v with
  | true=>
   have e1:b2i true=1:=rfl
   rw[e1]at hE
   simp -implicitDefEqProofs only[push_cast,zz,seval,ir14,enV,ivV,fs38,wdM,g1,g2,g3,g4,g5,hv',fs15,h1',hE]
   intro X
   repeat refine om_ ?_
   refine postF.mk' (fun _=>X 4 24) [some 0,some 1,none,some 3,some 4,some 5,some 6,some 7,some 24] ?_
   simp -implicitDefEqProofs only[push_cast,zz,seval,fs14,enV,ivV,WE.mem,WE.top,hv,e1,hE,hst]
  | false=>
   have e1:b2i false=0:=rfl
   rw[e1]at hE
   simp -implicitDefEqProofs only[push_cast,zz,seval,ir14,enV,ivV,fs38,wdM,g1,g2,g3,g4,g5,hv',fs15,h1',hE]
   intro X
   repeat refine om_ ?_
   refine postF.mk' (fun _=>X 4 24) [some 0,some 1,none,some 3,some 4,some 5,some 6,some 7,some 24] ?_
   simp -implicitDefEqProofs only[push_cast,zz,seval,fs14,enV,ivV,WE.mem,WE.top,hv,e1,hE,hst]
 | neg L1 L2 F f i=>
  change Tri Tryz.prog 14 [.int .i64 ctx,.fn 43 [.ptr 4 L1 0 0 0,.ptr 5 L2 0 0 0],.ptr 3 LX 0 0 0]
   [some (.lent,L,.cells (enV LS ⟨kind,st,low,high,out⟩ 2 LO)),some (.lent,LS,.ints .i64 st),some (.lent,LO,.ints .u8 out),some (.ro,LX,.cells [.ptr 0 L 0 0 0]),some (.ro,L1,.cells [.sl 6 F 1 0 f.length]),some (.ro,L2,.cells [.int .i64 i]),some (.ro,F,.ints .i64 f)] (postF fs14 _)
  have hv':decide (rd f i<0)=v:=hv
  obtain⟨g1,g2⟩:0<=i/\i<f.length:=h5
  refine tri_evS (hyp (l:=[(38,ent38),(40,ent40),(43,ent43),(15,ent15)]) (lp:=[]) ⟨e38,e40,e43,e15,trivial⟩ trivial) Tryz.func14 comp14 (rs:=[.tmp 5,.tmp 6]) (by rfl) Tryz.ntmps14 28 ?_
  cases v with
  | true=>
   have e1:b2i true=1:=rfl
   rw[e1]at hE
   simp -implicitDefEqProofs only[push_cast,zz,seval,ir14,enV,ivV,fs43,ngM,g1,g2,hv',fs15,h1',hE]
   intro X
   repeat refine om_ ?_
   refine postF.mk' (fun _=>X 4 24) [some 0,some 1,none,some 3,some 4,some 5,some 6,some 24] ?_
   simp -implicitDefEqProofs only[push_cast,zz,seval,fs14,enV,ivV,WE.mem,WE.top,hv,e1,hE,hst]
  | false=>
   have e1:b2i false=0:=rfl
   rw[e1]at hE
   simp -implicitDefEqProofs only[push_cast,zz,seval,ir14,enV,ivV,fs43,ngM,g1,g2,hv',fs15,h1',hE]
   intro X
   repeat refine om_ ?_
   refine postF.mk' (fun _=>X 4 24) [some 0,some 1,none,some 3,some 4,some 5,some 6,some 24] ?_
   simp -implicitDefEqProofs only[push_cast,zz,seval,fs14,enV,ivV,WE.mem,WE.top,hv,e1,hE,hst]
 | on p s i Ls Lb Lt Lf F f t=>
  change Tri Tryz.prog 14 [.int .i64 ctx,.fn 40 [.ptr 11 Ls 0 0 0,.ptr 12 Lb 0 0 0,.ptr 13 Lt 0 0 0,.ptr 14 Lf 0 0 0],.ptr 3 LX 0 0 0]
   [some (.lent,L,.cells (enV LS ⟨kind,st,low,high,out⟩ 2 LO)),some (.lent,LS,.ints .i64 st),some (.lent,LO,.ints .u8 out),some (.ro,LX,.cells [.ptr 0 L 0 0 0]),some (.ro,p.L,.cells (relabs (fun i=>i+4) (stV p s))),some (.ro,p.Z,.ints .i64 s.size),some (.ro,p.M,.bools s.minus),some (.ro,p.I,.ints .i64 s.since),some (.ro,p.K,.recs 4 false [] (s.list.map Bck.rc)),none,some (.ro,p.B,.ints .i64 s.band),some (.ro,Ls,.cells [.ptr 4 p.L 0 0 0]),some (.ro,Lb,.cells [.ptr 8 p.K (i:Nat) 4 0]),some (.ro,Lt,.cells [.int .i64 t]),some (.ro,Lf,.cells [.sl 15 F 1 0 f.length]),some (.ro,F,.ints .i64 f)] (postF fs14 _)
  have hv':onP s (rdBk s.list i).b.places f t=v:=hv
  obtain⟨g1,g2⟩:i<s.list.length/\onWf s (rdBk s.list i).b.places f t:=h5
  refine tri_evS (hyp (l:=[(38,ent38),(40,ent40),(43,ent43),(15,ent15)]) (lp:=[]) ⟨e38,e40,e43,e15,trivial⟩ trivial) Tryz.func14 comp14 (rs:=[.tmp 5,.tmp 6]) (by rfl) Tryz.ntmps14 28 ?_
  cases v with
  | true=>
   have e1:b2i true=1:=rfl
   rw[e1]at hE
   simp -implicitDefEqProofs only[push_cast,zz,seval,ir14,enV,ivV,fs40,woM,stM,stV,Int.toNat_natCast,g1,g2,hv',fs15,h1',hE]
   intro X
   repeat refine om_ ?_
   refine postF.mk' (fun _=>X 4 24) [some 0,some 1,none,some 3,some 4,some 5,some 6,some 7,some 8,none,some 10,some 11,some 12,some 13,some 14,some 15,some 24] ?_
   simp -implicitDefEqProofs only[push_cast,zz,seval,fs14,enV,ivV,WE.mem,WE.top,hv,e1,hE,hst,stV,stM]
  | false=>
   have e1:b2i false=0:=rfl
   rw[e1]at hE
   simp -implicitDefEqProofs only[push_cast,zz,seval,ir14,enV,ivV,fs40,woM,stM,stV,Int.toNat_natCast,g1,g2,hv',fs15,h1',hE]
   intro X
   repeat refine om_ ?_
   refine postF.mk' (fun _=>X 4 24) [some 0,some 1,none,some 3,some 4,some 5,some 6,some 7,some 8,none,some 10,some 11,some 12,some 13,some 14,some 15,some 24] ?_
   simp -implicitDefEqProofs only[push_cast,zz,seval,fs14,enV,ivV,WE.mem,WE.top,hv,e1,hE,hst,stV,stM]
def ent14:Entry:=spOf fs14 invPe
theorem e14:EntryOk Tryz.prog 14 ent14:=entry_of ok14 invPe
@[push_cast] theorem ent14_app (us:List SV) (look:Look) (x:Nat->Xf.Loc) (k:Nat):ent14 us look x k=spOf fs14 invPe us look x k:=rfl
structure GeA where
 L:Xf.Loc
 LS:Xf.Loc
 LC:Xf.Loc
 LX:Xf.Loc
 d:DeS
 ctx:Int
 w:SV
def invGe:List SV->Look->Option (GeA×List Nat)
 | [.int .i64 ctx,w,.ptr x _ 0 0 0],look=>match rowC (look x)with
  | some (LX,[.ptr c _ 0 0 0])=>match invDe [.ptr c nilLoc 0 0 0] look with
   | some (⟨L,LS,LC,d,_⟩,h)=>some (⟨L,LS,LC,LX,d,ctx,w⟩,h++[x])
   | none=>none
  | _=>none
 | _,_=>none
attribute [push_cast] invGe
def fs64:FS where
 A:=GeA
 args:=fun a=>[.int .i64 a.ctx,a.w,.ptr 3 a.LX 0 0 0]
 mem:=fun a=>[some (.lent,a.L,.cells (deV a.LS a.d a.LC)),some (.lent,a.LS,.ints .i64 a.d.st),some (.ro,a.LC,.ints .u8 a.d.code),some (.ro,a.LX,.cells [.ptr 0 a.L 0 0 0])]
 pre:=fun a=>a.d.ok/\0<=a.ctx/\a.ctx<a.d.st.length
 res:=fun a _=>.tup [.bool (decide (gotB a.d a.ctx=1)),.int .i64 (gotE a.d a.ctx)]
 out:=fun a x=>[some (some (.cells (deV a.LS (gotS a.d a.ctx) a.LC))),some (some (.ints .i64 (gotS a.d a.ctx).st))]
 new:=fun a x=>[]
set_option maxHeartbeats 1000000 in
theorem ok64:FSOk Tryz.prog 64 fs64:=by
 refine⟨⟨_,Tryz.func64,by kernel_rfl,by kernel_rfl⟩,fun a=>⟨by simp[fs64,deV,deT,ivV,gotS_len,push_cast,noMine,argOwn,Chunk.frArg],by simp[fs64,deV,deT,ivV,gotS_len,push_cast,outOk,Chunk.ext],fun x=>.inl (by simp[fs64,deV,deT,ivV,gotS_len,push_cast,frNew,frOut,Chunk.fr])⟩,fun a hp=>?_⟩
 obtain⟨L,LS,LC,LX,d,ctx,w⟩:=a
 obtain⟨h1,h2,h3⟩:d.ok/\0<=ctx/\ctx<d.st.length:=hp
 have hl:=(gotS_len d ctx).1
 have hl2:=(gotS_len d ctx).2.1
 obtain⟨D,hD⟩:∃ D,gotS d ctx=D:=⟨_,rfl⟩
 rw[hD]at hl hl2
 have hl':(D.st.length:Int)=d.st.length:=by rw[hl]
 change Tri Tryz.prog 64 [.int .i64 ctx,w,.ptr 3 LX 0 0 0] [some (.lent,L,.cells (deV LS d LC)),some (.lent,LS,.ints .i64 d.st),some (.ro,LC,.ints .u8 d.code),some (.ro,LX,.cells [.ptr 0 L 0 0 0])] (postF fs64 ⟨L,LS,LC,LX,d,ctx,w⟩)
 refine tri_evS (hyp (l:=[(65,ent65)]) (lp:=[]) ⟨e65,trivial⟩ trivial) Tryz.func64 comp64 (rs:=[.tmp 5,.tmp 6]) (by rfl) Tryz.ntmps64 24 ?_
 simp -implicitDefEqProofs only[push_cast,zz,seval,ir64,deV,deT,ivV,fs65,h1,h2,h3]
 repeat refine om_ ?_
 refine postF.mk' (fun _=>default) [some 0,some 1,some 2,some 3] ?_
 simp -implicitDefEqProofs only[push_cast,zz,seval,fs64,deV,deT,ivV,hD,hl',hl2]
def ent64:Entry:=spOf fs64 invGe
theorem e64:EntryOk Tryz.prog 64 ent64:=entry_of ok64 invGe
@[push_cast] theorem ent64_app (us:List SV) (look:Look) (x:Nat->Xf.Loc) (k:Nat):ent64 us look x k=spOf fs64 invGe us look x k:=rfl
def orP (x t:Int):Int:=((x.toNat ||| 2^t.toNat:Nat):Int)
theorem pw_lt {t:Int} (h0:0<=t) (h1:t<=30):2^t.toNat<=1073741824/\0<2^t.toNat:=by
 have:=Nat.pow_le_pow_right (n:=2) (by decide) (show t.toNat<=30 by omega)
 exact⟨this,Nat.pow_pos (by decide)⟩
theorem orP_bd {x t:Int} (h0:0<=x) (h1:x<1099511627776) (h2:0<=t) (h3:t<=30):0<=orP x t/\orP x t<1099511627776:=by
 have hp:=pw_lt h2 h3
 have:x.toNat ||| 2^t.toNat<2^40:=Nat.or_lt_two_pow (by omega) (by omega)
 unfold orP
 omega
theorem or_i64 {x t:Int} (h0:0<=x) (h1:x<1099511627776) (h2:0<=t) (h3:t<=30):bitop .or .i64 x (2^t.toNat)=orP x t:=by
 have hb:=orP_bd h0 h1 h2 h3
 have hp:=pw_lt h2 h3
 obtain⟨m,hm⟩:∃ m:Nat,2^t.toNat=m:=⟨_,rfl⟩
 have hm':(2:Int)^t.toNat=(m:Int):=by rw[<-hm];simp
 rw[hm']
 unfold orP at hb ⊢
 rw[hm]at hp hb ⊢
 obtain⟨k,rfl⟩:∃ k:Nat,x=k:=⟨x.toNat,by omega⟩
 rw[Int.toNat_natCast]at hb ⊢
 have e:((BitVec.ofInt 64 (k:Int)) ||| (BitVec.ofInt 64 (m:Int))).toNat=k ||| m:=by
  rw[BitVec.toNat_or,BitVec.toNat_ofInt,BitVec.toNat_ofInt]
  rw[show(((k:Int) % ((2^64:Nat):Int)).toNat)=k by omega,show(((m:Int) % ((2^64:Nat):Int)).toNat)=m by omega]
 show IntKind.i64.wrap _=_
 have e':(BitVec.toNat ((BitVec.ofInt IntKind.i64.bits (k:Int)) ||| (BitVec.ofInt IntKind.i64.bits (m:Int))))=k ||| m:=e
 simp only[e']
 rw[inR_wrap (k:=.i64) (by simp only[inR,push_cast];omega)]
def numG {β:Type} (bit:β->Int->Bool->Bool×Int×β) (s:StS) (x:β) (i t:Int) (on dig neg:Bool):StS×β×Int:=
 if oldP s i then
  (if (bit x (dctxP s i) dig).2.1=0 then
   (if (bit x (dctxP s i) dig).1=true then { s with size:=s.size.set i.toNat (orP (rd s.size i) t) }else s,(bit x (dctxP s i) dig).2.2,0)
  else (s,(bit x (dctxP s i) dig).2.2,(bit x (dctxP s i) dig).2.1))
 else if on=true then
  (if (bit x (nctxP s i) dig).2.1=0 then
   (if (bit x (nctxP s i) dig).1=true then
    (if (bit (bit x (nctxP s i) dig).2.2 11 neg).2.1=0 then
     ({ s with size:=s.size.set i.toNat (orP (rd s.size i) t),minus:=s.minus.set i.toNat (bit (bit x (nctxP s i) dig).2.2 11 neg).1,since:=s.since.set i.toNat (s.now+1) },(bit (bit x (nctxP s i) dig).2.2 11 neg).2.2,0)
    else (s,(bit (bit x (nctxP s i) dig).2.2 11 neg).2.2,(bit (bit x (nctxP s i) dig).2.2 11 neg).2.1))
   else (s,(bit x (nctxP s i) dig).2.2,0))
  else (s,(bit x (nctxP s i) dig).2.2,(bit x (nctxP s i) dig).2.1))
 else (s,x,0)
def putG (e:EnS) (ctx:Int) (w:Bool):Bool×Int×EnS:=(w,0,putP e ctx (b2i w))
def getG (d:DeS) (ctx:Int) (_:Bool):Bool×Int×DeS:=(decide (gotB d ctx=1),gotE d ctx,gotS d ctx)
def szWf (s:StS):Prop:=∀ x∈s.size,0<=x/\x<1099511627776
theorem szWf.at {s:StS} (h:szWf s) {i:Int} (h0:0<=i) (h1:i<s.size.length):0<=rd s.size i/\rd s.size i<1099511627776:=by
 obtain⟨k,rfl⟩:∃ k:Nat,i=k:=⟨i.toNat,by omega⟩
 rw[rd_lt _ k (by omega)]
 exact h _ (List.getElem_mem _)
theorem numG_enc_old {s:StS} {e:EnS} {i t:Int} {on dig neg:Bool} (h:oldP s i):numG putG s e i t on dig neg=(if dig=true then { s with size:=s.size.set i.toNat (orP (rd s.size i) t) }else s,putP e (dctxP s i) (b2i dig),0):=by
 unfold numG;rw[if_pos h];simp only[putG,if_true];rfl
theorem numG_enc_new {s:StS} {e:EnS} {i t:Int} {dig neg:Bool} (h:¬ oldP s i):numG putG s e i t true dig neg=if dig=true then ({ s with size:=s.size.set i.toNat (orP (rd s.size i) t),minus:=s.minus.set i.toNat neg,since:=s.since.set i.toNat (s.now+1) },putP (putP e (nctxP s i) (b2i dig)) 11 (b2i neg),0)else (s,putP e (nctxP s i) (b2i dig),0):=by
 unfold numG;rw[if_neg h];simp only[putG,if_true]
theorem numG_off {β:Type} {bit:β->Int->Bool->Bool×Int×β} {s:StS} {x:β} {i t:Int} {dig neg:Bool} (h:¬ oldP s i):numG bit s x i t false dig neg=(s,x,0):=by
 unfold numG;rw[if_neg h,if_neg (by decide)]
def ir42:IR:=
 .seq (r_ [z_ 14 0] [14]) (.seq (.block 0 (.seq (r_ [m_ 21 0,m_ 22 1,o_ 23 (.call (some 4) 20 79 [.t 21,.t 22]),m_ 20 23] [21,22,23]) (.cond (.t 20) (.seq (r_ [m_ 25 6,m_ 26 0,m_ 27 1,o_ 28 (.call (some 4) 24 80 [.t 26,.t 27]),m_ 29 4,o_ 30 (.callv none 28 (.t 25) [.t 28,.t 29]),m_ 24 30,e_ 31 24 0,e_ 32 24 1,m_ 15 31,m_ 16 32] [3,4,5,6,20,24,25,26,27,28,29,30,31,32]) (.seq (.seq (r_ [m_ 33 16,c_ 34 .neq 33 0] [33]) (.cond (.t 34) (.seq (r_ [m_ 35 16,m_ 14 35] [0,1,2,15,16,34,35]) (.ret)) (.skip))) (.seq (r_ [m_ 36 15] [14,15,16,34]) (.cond (.t 36) (R_ [m_ 37 0,n_ 38 37,f_ 39 38 0,l_ 40 39,m_ 41 1,i_ 42 40 41 1,L_ 43 42,m_ 44 2,o_ 45 (.bin 0 .shl (Z_ 1) (.t 44)),b_ 46 .or 43 45,i_ 47 40 41 1,S_ 1 .i64 47 46] [0,1,2,36,37,38,39,40,41,42,43,44,45,46,47]) (.skip))))) (.seq (r_ [m_ 49 3,m_ 48 49] [3,20,49]) (.cond (.t 48) (.seq (r_ [m_ 51 6,m_ 52 0,m_ 53 1,o_ 54 (.call (some 4) 32 81 [.t 52,.t 53]),m_ 55 4,o_ 56 (.callv none 36 (.t 51) [.t 54,.t 55]),m_ 50 56,e_ 57 50 0,e_ 58 50 1,m_ 17 57,m_ 18 58] [4,48,50,51,52,53,54,55,56,57,58]) (.seq (.seq (r_ [m_ 59 18,c_ 60 .neq 59 0,m_ 61 60,q_ 61 (m_ 62 17),q_ 61 (o_ 63 (.not (.t 62))),k_ 64 61 63] [17,59,60,61,62,63]) (.cond (.t 64) (.seq (r_ [m_ 65 18,m_ 14 65] [0,1,2,5,6,18,64,65]) (.ret)) (.skip))) (.seq (r_ [m_ 67 6,m_ 68 5,o_ 69 (.callv none 40 (.t 67) [Z_ 11,.t 68]),m_ 66 69,e_ 70 66 0,e_ 71 66 1,m_ 19 70,m_ 18 71] [5,6,14,64,66,67,68,69,70,71]) (.seq (.seq (r_ [m_ 72 18,c_ 73 .neq 72 0] [72]) (.cond (.t 73) (.seq (r_ [m_ 74 18,m_ 14 74] [0,1,2,18,19,73,74]) (.ret)) (.skip))) (.seq (R_ [m_ 75 0,n_ 76 75,f_ 77 76 0,l_ 78 77,m_ 79 1,i_ 80 78 79 1,L_ 81 80,m_ 82 2,o_ 83 (.bin 0 .shl (Z_ 1) (.t 82)),b_ 84 .or 81 83,i_ 85 78 79 1,S_ 1 .i64 85 84] [2,14,18,73,75,76,77,78,79,80,81,82,83,84,85]) (r_ [m_ 86 0,m_ 87 1,m_ 88 19,o_ 89 (.call none 44 82 [.t 86,.t 87,.t 88])] [0,1,19,86,87,88,89])))))) (.skip)))))) (.seq (r_ [z_ 14 0] [0,1,2,4,5,6,36,48]) (.ret)))
set_option maxRecDepth 4000 in
theorem comp42:(Tryz.f42.body.bind fun c=>compC tab isP chkAll ir42 c)=some ir42:=by kernel_rfl
structure NuA where
 p:StL
 s:StS
 L:Xf.Loc
 LS:Xf.Loc
 LO:Xf.Loc
 LX:Xf.Loc
 e:EnS
 L1:Xf.Loc
 L2:Xf.Loc
 L3:Xf.Loc
 L4:Xf.Loc
 F:Xf.Loc
 f:List Int
 at_:Int
 t:Int
 on:Bool
def nuM (a:NuA):Mem:=[some (.ro,a.p.L,.cells (stV a.p a.s)),some (.lent,a.p.Z,.ints .i64 a.s.size),some (.lent,a.p.M,.bools a.s.minus),some (.lent,a.p.I,.ints .i64 a.s.since),some (.ro,a.p.K,.recs 4 false [] (a.s.list.map Bck.rc)),none,some (.ro,a.p.B,.ints .i64 a.s.band),
 some (.lent,a.L,.cells (relabs (fun i=>i+7) (enV a.LS a.e 2 a.LO))),some (.lent,a.LS,.ints .i64 a.e.st),some (.lent,a.LO,.ints .u8 a.e.out),some (.ro,a.LX,.cells [.ptr 7 a.L 0 0 0]),
 some (.ro,a.L1,.cells [.sl 15 a.F 1 0 a.f.length]),some (.ro,a.L2,.cells [.int .i64 a.at_]),some (.ro,a.L3,.cells [.int .i64 a.t]),some (.ro,a.L4,.cells [.int .i64 a.at_]),some (.ro,a.F,.ints .i64 a.f)]
def nuR (a:NuA):StS×EnS×Int:=numG putG a.s a.e a.at_ a.t a.on (digP a.f a.at_ a.t) (decide (rd a.f a.at_<0))
def invNu:List SV->Look->Option (NuA×List Nat)
 | [.ptr c _ 0 0 0,.int .i64 i,.int .i64 t,.bool on,.fn _ [.ptr a _ 0 0 0,.ptr b _ 0 0 0,.ptr d _ 0 0 0],.fn _ [_,.ptr e _ 0 0 0],.fn _ [.ptr x _ 0 0 0]],look=>match invSt look c,rowC (look x),rowC (look a),rowC (look b),rowC (look d),rowC (look e)with
  | some (p,s,g),some (LX,[.ptr k _ 0 0 0]),some (L1,[.sl y _ 1 0 _]),some (L2,_),some (L3,_),some (L4,_)=>match invEn [.ptr k nilLoc 0 0 0] look,rowI (look y)with
   | some (⟨L,LS,LO,en,_,_⟩,h),some (F,.i64,f)=>some (⟨p,s,L,LS,LO,LX,en,L1,L2,L3,L4,F,f,i,t,on⟩,g++(h++[x,a,b,d,e,y]))
   | _,_=>none
  | _,_,_,_,_,_=>none
 | _,_=>none
attribute [push_cast] invNu
def nuOk (s:StS) (e:EnS) (f:List Int) (i t:Int):Prop:=stWf s s.since.length/\szWf s/\e.ok/\e.st.length=12/\e.out.length<=90000000/\ofWf f s.since.length/\0<=i/\i<s.since.length/\0<=t/\t<=30
def fs42E:FS where
 A:=NuA
 args:=fun a=>[.ptr 0 a.p.L 0 0 0,.int .i64 a.at_,.int .i64 a.t,.bool a.on,.fn 38 [.ptr 11 a.L1 0 0 0,.ptr 12 a.L2 0 0 0,.ptr 13 a.L3 0 0 0],.fn 43 [.ptr 11 a.L1 0 0 0,.ptr 14 a.L4 0 0 0],.fn 14 [.ptr 10 a.LX 0 0 0]]
 mem:=nuM
 pre:=fun a=>nuOk a.s a.e a.f a.at_ a.t
 res:=fun a _=>.int .i64 0
 out:=fun a x=>[none,some (some (.ints .i64 (nuR a).1.size)),some (some (.bools (nuR a).1.minus)),some (some (.ints .i64 (nuR a).1.since)),none,none,none,some (some (.cells (relabs (fun i=>i+7) (enV a.LS (nuR a).2.1 9 (x 0))))),some (some (.ints .i64 (nuR a).2.1.st)),some none]
 new:=fun a x=>[(x 0,.ints .u8 (nuR a).2.1.out)]
 newGot:=true
theorem numG_len {β:Type} (bit:β->Int->Bool->Bool×Int×β) (s:StS) (x:β) (i t:Int) (on dig neg:Bool) :
  (numG bit s x i t on dig neg).1.size.length=s.size.length/\(numG bit s x i t on dig neg).1.minus.length=s.minus.length/\(numG bit s x i t on dig neg).1.since.length=s.since.length:=by
 unfold numG
 split
 ·split
  ·split<;>simp
  ·simp
 ·split
  ·split
   ·split
    ·split<;>simp
    ·simp
   ·simp
  ·simp
theorem numE_st (s:StS) (e:EnS) (i t:Int) (on dig neg:Bool):(numG putG s e i t on dig neg).2.1.st.length=e.st.length:=by
 by_cases h:oldP s i
 ·rw[numG_enc_old h];simp[putP]
 ·cases on with
  | true=>rw[numG_enc_new h];split<;>simp[putP]
  | false=>rw[numG_off h]
set_option maxHeartbeats 4000000 in
theorem ok42E:FSOk Tryz.prog 42 fs42E:=by
 refine⟨⟨_,Tryz.func42,by kernel_rfl,by kernel_rfl⟩,fun a=>?_,fun a hp=>?_⟩
 ·have hl:=numG_len putG a.s a.e a.at_ a.t a.on (digP a.f a.at_ a.t) (decide (rd a.f a.at_<0))
  have h2:=numE_st a.s a.e a.at_ a.t a.on (digP a.f a.at_ a.t) (decide (rd a.f a.at_<0))
  exact⟨by simp[fs42E,nuM,push_cast,noMine,argOwn,Chunk.frArg],by simp[fs42E,nuM,nuR,hl,h2,enV,ivV,push_cast,outOk,Chunk.ext],fun x=>.inl (by simp[fs42E,push_cast,frNew,frOut,Chunk.fr])⟩
 obtain⟨p,s,L,LS,LO,LX,e,L1,L2,L3,L4,F,f,i,t,on⟩:=a
 obtain⟨h1,h2,h3,h4,h5,h6,h7,h8,h9,h10⟩:nuOk s e f i t:=hp
 have hst:=h1
 obtain⟨o1,o2,o3,o4,o5,o6,o7,o8,o9,o10,o11⟩:=h1
 have hfl:=h6.1
 have hofl:ofWf f f.length:=by rw[hfl];exact h6
 have hsz:=h2.at (i:=i) (by omega) (by omega)
 have hor:=or_i64 hsz.1 hsz.2 h9 h10
 have horb:=orP_bd hsz.1 hsz.2 h9 h10
 have hpw:=pw_lt h9 h10
 have hpI:(2:Int)^t.toNat<=1073741824/\0<(2:Int)^t.toNat:=by
  have e:(2:Int)^t.toNat=((2^t.toNat:Nat):Int):=by simp
  omega
 obtain⟨T,hT⟩:∃ T,(2:Int)^t.toNat=T:=⟨_,rfl⟩
 rw[hT]at hpI hor
 have hb64:=bits_i64
 obtain⟨dg,hdg⟩:∃ v,digP f i t=v:=⟨_,rfl⟩
 obtain⟨ng,hng⟩:∃ v,decide (rd f i<0)=v:=⟨_,rfl⟩
 have hr:nuR ⟨p,s,L,LS,LO,LX,e,L1,L2,L3,L4,F,f,i,t,on⟩=numG putG s e i t on dg ng:=by rw[<-hdg,<-hng];rfl
 obtain⟨sz,hszz⟩:∃ v,rd s.size i=v:=⟨_,rfl⟩
 obtain⟨oz,hoz⟩:∃ v,orP sz t=v:=⟨_,rfl⟩
 rw[hszz,hoz]at hor horb
 change Tri Tryz.prog 42 [.ptr 0 p.L 0 0 0,.int .i64 i,.int .i64 t,.bool on,.fn 38 [.ptr 11 L1 0 0 0,.ptr 12 L2 0 0 0,.ptr 13 L3 0 0 0],.fn 43 [.ptr 11 L1 0 0 0,.ptr 14 L4 0 0 0],.fn 14 [.ptr 10 LX 0 0 0]] (nuM ⟨p,s,L,LS,LO,LX,e,L1,L2,L3,L4,F,f,i,t,on⟩) (postF fs42E ⟨p,s,L,LS,LO,LX,e,L1,L2,L3,L4,F,f,i,t,on⟩)
 refine tri_evS (hyp (l:=[(79,ent79),(80,ent80),(81,ent81),(14,ent14),(82,ent82)]) (lp:=[]) ⟨e79,e80,e81,e14,e82,trivial⟩ trivial) Tryz.func42 comp42 (rs:=[.tmp 14]) (by rfl) Tryz.ntmps42 48 ?_
 by_cases hold:oldP s i
 ·have hc:0<=dctxP s i/\dctxP s i<12:=by unfold dctxP;split<;>omega
  rw[numG_enc_old hold]at hr
  have hput:=putP_ok (e:=e) (ctx:=dctxP s i) (bit:=b2i dg) h3 hc.1 (by omega) (b2i_01 _)
  obtain⟨e1,he1⟩:∃ e1,putP e (dctxP s i) (b2i dg)=e1:=⟨_,rfl⟩
  rw[he1]at hr hput
  obtain⟨c,hcc⟩:∃ c,dctxP s i=c:=⟨_,rfl⟩
  rw[hcc]at hc he1
  have hput3:(e1.st.length:Int)=e.st.length:=by omega
  cases dg with
  | true=>
   rw[if_pos rfl]at hr
   have hr1:(nuR ⟨p,s,L,LS,LO,LX,e,L1,L2,L3,L4,F,f,i,t,on⟩).2.1=e1:=by rw[hr]
   have hr2:(nuR ⟨p,s,L,LS,LO,LX,e,L1,L2,L3,L4,F,f,i,t,on⟩).1={ s with size:=s.size.set i.toNat (orP (rd s.size i) t) }:=by rw[hr]
   simp -implicitDefEqProofs only[push_cast,zz,seval,ir42,nuM,stM,stV,enV,ivV,fs79,fs80,fs81,fs82,fs14,WE.mem,WE.fn,WE.val,WE.wf,WE.top,sAtOk,hst,hold,hofl,h3,hdg,hng,hszz,Int.one_mul,hT,hor,hcc,he1]
   repeat refine om_ ?_
   intro X
   repeat refine om_ ?_
   refine postF.mk' (fun _=>X 5 28) [some 0,some 1,some 2,some 3,some 4,none,some 6,some 7,some 8,none,some 10,some 11,some 12,some 13,some 14,some 15,some 28] ?_
   simp -implicitDefEqProofs only[push_cast,zz,seval,fs42E,nuM,stV,enV,ivV,hr1,hr2,hszz,hoz,hput3,List.length_set]
  | false=>
   rw[if_neg (by decide)]at hr
   have hr1:(nuR ⟨p,s,L,LS,LO,LX,e,L1,L2,L3,L4,F,f,i,t,on⟩).2.1=e1:=by rw[hr]
   have hr2:(nuR ⟨p,s,L,LS,LO,LX,e,L1,L2,L3,L4,F,f,i,t,on⟩).1=s:=by rw[hr]
   simp -implicitDefEqProofs only[push_cast,zz,seval,ir42,nuM,stM,stV,enV,ivV,fs79,fs80,fs81,fs82,fs14,WE.mem,WE.fn,WE.val,WE.wf,WE.top,sAtOk,hst,hold,hofl,h3,hdg,hng,hszz,Int.one_mul,hT,hor,hcc,he1]
   repeat refine om_ ?_
   intro X
   repeat refine om_ ?_
   refine postF.mk' (fun _=>X 5 28) [some 0,some 1,some 2,some 3,some 4,none,some 6,some 7,some 8,none,some 10,some 11,some 12,some 13,some 14,some 15,some 28] ?_
   simp -implicitDefEqProofs only[push_cast,zz,seval,fs42E,nuM,stV,enV,ivV,hr1,hr2,hput3]
 ·cases on with
  | false=>
   rw[numG_off hold]at hr
   have hr1:(nuR ⟨p,s,L,LS,LO,LX,e,L1,L2,L3,L4,F,f,i,t,false⟩).2.1=e:=by rw[hr]
   have hr2:(nuR ⟨p,s,L,LS,LO,LX,e,L1,L2,L3,L4,F,f,i,t,false⟩).1=s:=by rw[hr]
   simp -implicitDefEqProofs only[push_cast,zz,seval,ir42,nuM,stM,stV,enV,ivV,fs79,fs80,fs81,fs82,fs14,WE.mem,WE.fn,WE.val,WE.wf,WE.top,sAtOk,hst,hold,hofl,h3,hdg,hng,hszz,Int.one_mul,hT,hor]
   repeat refine om_ ?_
   refine postF.mk' (fun _=>LO) [some 0,some 1,some 2,some 3,some 4,none,some 6,some 7,some 8,none,some 10,some 11,some 12,some 13,some 14,some 15,some 9] ?_
   simp -implicitDefEqProofs only[push_cast,zz,seval,fs42E,nuM,stV,enV,ivV,hr1,hr2]
  | true=>
   have hc:0<=nctxP s i/\nctxP s i<12:=by unfold nctxP;split<;>split<;>omega
   rw[numG_enc_new hold]at hr
   have hput:=putP_ok (e:=e) (ctx:=nctxP s i) (bit:=b2i dg) h3 hc.1 (by omega) (b2i_01 _)
   obtain⟨e1,he1⟩:∃ e1,putP e (nctxP s i) (b2i dg)=e1:=⟨_,rfl⟩
   rw[he1]at hr hput
   obtain⟨c,hcc⟩:∃ c,nctxP s i=c:=⟨_,rfl⟩
   rw[hcc]at hc he1
   have hput3:(e1.st.length:Int)=e.st.length:=by omega
   cases dg with
   | true=>
    rw[if_pos rfl]at hr
    have hput':=putP_ok (e:=e1) (ctx:=11) (bit:=b2i ng) hput.1 (by omega) (by omega) (b2i_01 _)
    obtain⟨e2,he2⟩:∃ e2,putP e1 11 (b2i ng)=e2:=⟨_,rfl⟩
    rw[he2]at hr hput'
    have hput4:(e2.st.length:Int)=e.st.length:=by omega
    have hok1:=hput.1
    have hst':stWf { s with size:=s.size.set i.toNat oz } s.since.length:=⟨by simp only[List.length_set];exact o1,o2,o3,o4,o5,o6,o7,o8,o9,o10,o11⟩
    have hr1:(nuR ⟨p,s,L,LS,LO,LX,e,L1,L2,L3,L4,F,f,i,t,true⟩).2.1=e2:=by rw[hr]
    have hr2:(nuR ⟨p,s,L,LS,LO,LX,e,L1,L2,L3,L4,F,f,i,t,true⟩).1={ s with size:=s.size.set i.toNat (orP (rd s.size i) t),minus:=s.minus.set i.toNat ng,since:=s.since.set i.toNat (s.now+1) }:=by rw[hr]
    simp -implicitDefEqProofs only[push_cast,zz,seval,ir42,nuM,stM,stV,enV,ivV,fs79,fs80,fs81,fs82,fs14,WE.mem,WE.fn,WE.val,WE.wf,WE.top,sAtOk,hst,hold,hofl,h3,hdg,hng,hszz,Int.one_mul,hT,hor,hcc,he1,he2,hok1,List.length_set,hst']
    repeat refine om_ ?_
    intro X
    repeat refine om_ ?_
    refine postF.mk' (fun _=>X 2 40) [some 0,some 1,some 2,some 3,some 4,none,some 6,some 7,some 8,none,some 10,some 11,some 12,some 13,some 14,some 15,some 40] ?_
    simp -implicitDefEqProofs only[push_cast,zz,seval,fs42E,nuM,stV,enV,ivV,hr1,hr2,hszz,hoz,hput3,hput4,List.length_set]
   | false=>
    rw[if_neg (by decide)]at hr
    have hr1:(nuR ⟨p,s,L,LS,LO,LX,e,L1,L2,L3,L4,F,f,i,t,true⟩).2.1=e1:=by rw[hr]
    have hr2:(nuR ⟨p,s,L,LS,LO,LX,e,L1,L2,L3,L4,F,f,i,t,true⟩).1=s:=by rw[hr]
    simp -implicitDefEqProofs only[push_cast,zz,seval,ir42,nuM,stM,stV,enV,ivV,fs79,fs80,fs81,fs82,fs14,WE.mem,WE.fn,WE.val,WE.wf,WE.top,sAtOk,hst,hold,hofl,h3,hdg,hng,hszz,Int.one_mul,hT,hor,hcc,he1]
    repeat refine om_ ?_
    intro X
    repeat refine om_ ?_
    refine postF.mk' (fun _=>X 5 36) [some 0,some 1,some 2,some 3,some 4,none,some 6,some 7,some 8,none,some 10,some 11,some 12,some 13,some 14,some 15,some 36] ?_
    simp -implicitDefEqProofs only[push_cast,zz,seval,fs42E,nuM,stV,enV,ivV,hr1,hr2,hput3]
def ent42E:Entry:=spOf fs42E invNu
theorem e42E:EntryOk Tryz.prog 42 ent42E:=entry_of ok42E invNu
@[push_cast] theorem ent42E_app (us:List SV) (look:Look) (x:Nat->Xf.Loc) (k:Nat):ent42E us look x k=spOf fs42E invNu us look x k:=rfl
structure NdA2 where
 p:StL
 s:StS
 L:Xf.Loc
 LS:Xf.Loc
 LC:Xf.Loc
 LX:Xf.Loc
 d:DeS
 w1:SV
 w2:SV
 at_:Int
 t:Int
 on:Bool
def ndM (a:NdA2):Mem:=[some (.ro,a.p.L,.cells (stV a.p a.s)),some (.lent,a.p.Z,.ints .i64 a.s.size),some (.lent,a.p.M,.bools a.s.minus),some (.lent,a.p.I,.ints .i64 a.s.since),some (.ro,a.p.K,.recs 4 false [] (a.s.list.map Bck.rc)),none,some (.ro,a.p.B,.ints .i64 a.s.band),
 some (.lent,a.L,.cells (relabs (fun i=>i+7) (deV a.LS a.d a.LC))),some (.lent,a.LS,.ints .i64 a.d.st),some (.ro,a.LC,.ints .u8 a.d.code),some (.ro,a.LX,.cells [.ptr 7 a.L 0 0 0])]
def ndR (a:NdA2):StS×DeS×Int:=numG getG a.s a.d a.at_ a.t a.on false false
def invNd2:List SV->Look->Option (NdA2×List Nat)
 | [.ptr c _ 0 0 0,.int .i64 i,.int .i64 t,.bool on,w1,w2,.fn _ [.ptr x _ 0 0 0]],look=>match invSt look c,rowC (look x)with
  | some (p,s,g),some (LX,[.ptr k _ 0 0 0])=>match invDe [.ptr k nilLoc 0 0 0] look with
   | some (⟨L,LS,LC,d,_⟩,h)=>some (⟨p,s,L,LS,LC,LX,d,w1,w2,i,t,on⟩,g++(h++[x]))
   | _=>none
  | _,_=>none
 | _,_=>none
attribute [push_cast] invNd2
def ndOk (s:StS) (d:DeS) (i t:Int):Prop:=stWf s s.since.length/\szWf s/\d.ok/\d.st.length=12/\0<=i/\i<s.since.length/\0<=t/\t<=30
def fs42D:FS where
 A:=NdA2
 args:=fun a=>[.ptr 0 a.p.L 0 0 0,.int .i64 a.at_,.int .i64 a.t,.bool a.on,a.w1,a.w2,.fn 64 [.ptr 10 a.LX 0 0 0]]
 mem:=ndM
 pre:=fun a=>ndOk a.s a.d a.at_ a.t
 res:=fun a _=>.int .i64 (ndR a).2.2
 out:=fun a x=>[none,some (some (.ints .i64 (ndR a).1.size)),some (some (.bools (ndR a).1.minus)),some (some (.ints .i64 (ndR a).1.since)),none,none,none,some (some (.cells (relabs (fun i=>i+7) (deV a.LS (ndR a).2.1 a.LC)))),some (some (.ints .i64 (ndR a).2.1.st))]
 new:=fun _ _=>[]
theorem numD_len (s:StS) (d:DeS) (i t:Int) (on dig neg:Bool):(numG getG s d i t on dig neg).2.1.st.length=d.st.length/\(numG getG s d i t on dig neg).2.1.code=d.code:=by
 unfold numG getG
 split
 ·split
  ·exact⟨(gotS_len _ _).1,(gotS_len _ _).2.1⟩
  ·exact⟨(gotS_len _ _).1,(gotS_len _ _).2.1⟩
 ·split
  ·split
   ·split
    ·split
     ·simp only[(gotS_len _ _).1,(gotS_len _ _).2.1,and_self]
     ·simp only[(gotS_len _ _).1,(gotS_len _ _).2.1,and_self]
    ·exact⟨(gotS_len _ _).1,(gotS_len _ _).2.1⟩
   ·exact⟨(gotS_len _ _).1,(gotS_len _ _).2.1⟩
  ·exact⟨rfl,rfl⟩
theorem numG_dec_old {s:StS} {d:DeS} {i t:Int} {on dig neg:Bool} (h:oldP s i):numG getG s d i t on dig neg=if gotE d (dctxP s i)=0 then (if gotB d (dctxP s i)=1 then { s with size:=s.size.set i.toNat (orP (rd s.size i) t) }else s,gotS d (dctxP s i),0)else (s,gotS d (dctxP s i),gotE d (dctxP s i)):=by
 unfold numG getG;rw[if_pos h];simp only[decide_eq_true_eq]
theorem numG_dec_new {s:StS} {d:DeS} {i t:Int} {dig neg:Bool} (h:¬ oldP s i):numG getG s d i t true dig neg =
  if gotE d (nctxP s i)=0 then (if gotB d (nctxP s i)=1 then (if gotE (gotS d (nctxP s i)) 11=0 then ({ s with size:=s.size.set i.toNat (orP (rd s.size i) t),minus:=s.minus.set i.toNat (decide (gotB (gotS d (nctxP s i)) 11=1)),since:=s.since.set i.toNat (s.now+1) },gotS (gotS d (nctxP s i)) 11,0)
   else (s,gotS (gotS d (nctxP s i)) 11,gotE (gotS d (nctxP s i)) 11))else (s,gotS d (nctxP s i),0))else (s,gotS d (nctxP s i),gotE d (nctxP s i)):=by
 unfold numG getG;rw[if_neg h];simp only[decide_eq_true_eq,if_true]
set_option maxHeartbeats 4000000 in
theorem ok42D:FSOk Tryz.prog 42 fs42D:=by
 refine⟨⟨_,Tryz.func42,by kernel_rfl,by kernel_rfl⟩,fun a=>?_,fun a hp=>?_⟩
 ·have hl:=numG_len getG a.s a.d a.at_ a.t a.on false false
  have h2:=numD_len a.s a.d a.at_ a.t a.on false false
  exact⟨by simp[fs42D,ndM,push_cast,noMine,argOwn,Chunk.frArg],by simp[fs42D,ndM,ndR,hl,h2,deV,deT,ivV,push_cast,outOk,Chunk.ext],fun x=>.inl (by simp[fs42D,push_cast,frNew,frOut,Chunk.fr])⟩
 obtain⟨p,s,L,LS,LC,LX,d,w1,w2,i,t,on⟩:=a
 obtain⟨h1,h2,h3,h4,h7,h8,h9,h10⟩:ndOk s d i t:=hp
 have hst:=h1
 obtain⟨o1,o2,o3,o4,o5,o6,o7,o8,o9,o10,o11⟩:=h1
 have hsz:=h2.at (i:=i) (by omega) (by omega)
 have hor:=or_i64 hsz.1 hsz.2 h9 h10
 have horb:=orP_bd hsz.1 hsz.2 h9 h10
 have hpw:=pw_lt h9 h10
 have hpI:(2:Int)^t.toNat<=1073741824/\0<(2:Int)^t.toNat:=by
  have e:(2:Int)^t.toNat=((2^t.toNat:Nat):Int):=by simp
  omega
 obtain⟨T,hT⟩:∃ T,(2:Int)^t.toNat=T:=⟨_,rfl⟩
 rw[hT]at hpI hor
 have hb64:=bits_i64
 have hr:ndR ⟨p,s,L,LS,LC,LX,d,w1,w2,i,t,on⟩=numG getG s d i t on false false:=rfl
 obtain⟨sz,hszz⟩:∃ v,rd s.size i=v:=⟨_,rfl⟩
 obtain⟨oz,hoz⟩:∃ v,orP sz t=v:=⟨_,rfl⟩
 rw[hszz,hoz]at hor horb
 change Tri Tryz.prog 42 [.ptr 0 p.L 0 0 0,.int .i64 i,.int .i64 t,.bool on,w1,w2,.fn 64 [.ptr 10 LX 0 0 0]] (ndM ⟨p,s,L,LS,LC,LX,d,w1,w2,i,t,on⟩) (postF fs42D ⟨p,s,L,LS,LC,LX,d,w1,w2,i,t,on⟩)
 refine tri_evS (hyp (l:=[(79,ent79),(80,ent80),(81,ent81),(64,ent64),(82,ent82)]) (lp:=[]) ⟨e79,e80,e81,e64,e82,trivial⟩ trivial) Tryz.func42 comp42 (rs:=[.tmp 14]) (by rfl) Tryz.ntmps42 48 ?_
 by_cases hold:oldP s i
 ·have hc:0<=dctxP s i/\dctxP s i<12:=by unfold dctxP;split<;>omega
  rw[numG_dec_old hold]at hr
  obtain⟨c,hcc⟩:∃ c,dctxP s i=c:=⟨_,rfl⟩
  rw[hcc]at hc hr
  have hD:=gotS_len d c
  obtain⟨d1,hd1⟩:∃ d1,gotS d c=d1:=⟨_,rfl⟩
  rw[hd1]at hr hD
  have hD3:(d1.st.length:Int)=d.st.length:=by rw[hD.1]
  have hD4:d1.code=d.code:=hD.2.1
  by_cases he:gotE d c=0
  ·rw[if_pos he]at hr
   by_cases hb:gotB d c=1
   ·rw[if_pos hb]at hr
    have hr1:(ndR ⟨p,s,L,LS,LC,LX,d,w1,w2,i,t,on⟩).2.1=d1:=by rw[hr]
    have hr2:(ndR ⟨p,s,L,LS,LC,LX,d,w1,w2,i,t,on⟩).1={ s with size:=s.size.set i.toNat (orP (rd s.size i) t) }:=by rw[hr]
    have hr3:(ndR ⟨p,s,L,LS,LC,LX,d,w1,w2,i,t,on⟩).2.2=0:=by rw[hr]
    simp -implicitDefEqProofs only[push_cast,zz,seval,ir42,ndM,stM,stV,deV,deT,ivV,fs79,fs80,fs81,fs82,fs64,sAtOk,hst,hold,h3,hszz,Int.one_mul,hT,hor,hcc,hd1,he,hb]
    repeat refine om_ ?_
    refine postF.mk' (fun _=>default) [some 0,some 1,some 2,some 3,some 4,none,some 6,some 7,some 8,some 9,some 10] ?_
    simp -implicitDefEqProofs only[push_cast,zz,seval,fs42D,ndM,stV,deV,deT,ivV,hr1,hr2,hr3,hszz,hoz,List.length_set,hD3,hD4]
   ·rw[if_neg hb]at hr
    have hr1:(ndR ⟨p,s,L,LS,LC,LX,d,w1,w2,i,t,on⟩).2.1=d1:=by rw[hr]
    have hr2:(ndR ⟨p,s,L,LS,LC,LX,d,w1,w2,i,t,on⟩).1=s:=by rw[hr]
    have hr3:(ndR ⟨p,s,L,LS,LC,LX,d,w1,w2,i,t,on⟩).2.2=0:=by rw[hr]
    simp -implicitDefEqProofs only[push_cast,zz,seval,ir42,ndM,stM,stV,deV,deT,ivV,fs79,fs80,fs81,fs82,fs64,sAtOk,hst,hold,h3,hszz,Int.one_mul,hT,hor,hcc,hd1,he,hb]
    repeat refine om_ ?_
    refine postF.mk' (fun _=>default) [some 0,some 1,some 2,some 3,some 4,none,some 6,some 7,some 8,some 9,some 10] ?_
    simp -implicitDefEqProofs only[push_cast,zz,seval,fs42D,ndM,stV,deV,deT,ivV,hr1,hr2,hr3,hszz,hoz,List.length_set,hD3,hD4]
  ·rw[if_neg he]at hr
   have hr1:(ndR ⟨p,s,L,LS,LC,LX,d,w1,w2,i,t,on⟩).2.1=d1:=by rw[hr]
   have hr2:(ndR ⟨p,s,L,LS,LC,LX,d,w1,w2,i,t,on⟩).1=s:=by rw[hr]
   have hr3:(ndR ⟨p,s,L,LS,LC,LX,d,w1,w2,i,t,on⟩).2.2=gotE d c:=by rw[hr]
   simp -implicitDefEqProofs only[push_cast,zz,seval,ir42,ndM,stM,stV,deV,deT,ivV,fs79,fs80,fs81,fs82,fs64,sAtOk,hst,hold,h3,hszz,Int.one_mul,hT,hor,hcc,hd1,he]
   repeat refine om_ ?_
   refine postF.mk' (fun _=>default) [some 0,some 1,some 2,some 3,some 4,none,some 6,some 7,some 8,some 9,some 10] ?_
   simp -implicitDefEqProofs only[push_cast,zz,seval,fs42D,ndM,stV,deV,deT,ivV,hr1,hr2,hr3,hszz,hoz,List.length_set,hD3,hD4]
 ·cases on with
  | false=>
   rw[numG_off hold]at hr
   have hr1:(ndR ⟨p,s,L,LS,LC,LX,d,w1,w2,i,t,false⟩).2.1=d:=by rw[hr]
   have hr2:(ndR ⟨p,s,L,LS,LC,LX,d,w1,w2,i,t,false⟩).1=s:=by rw[hr]
   have hr3:(ndR ⟨p,s,L,LS,LC,LX,d,w1,w2,i,t,false⟩).2.2=0:=by rw[hr]
   simp -implicitDefEqProofs only[push_cast,zz,seval,ir42,ndM,stM,stV,deV,deT,ivV,fs79,fs80,fs81,fs82,fs64,sAtOk,hst,hold,h3,hszz,Int.one_mul,hT,hor]
   repeat refine om_ ?_
   refine postF.mk' (fun _=>default) [some 0,some 1,some 2,some 3,some 4,none,some 6,some 7,some 8,some 9,some 10] ?_
   simp -implicitDefEqProofs only[push_cast,zz,seval,fs42D,ndM,stV,deV,deT,ivV,hr1,hr2,hr3,hszz,hoz,List.length_set]
  | true=>
   have hc:0<=nctxP s i/\nctxP s i<12:=by unfold nctxP;split<;>split<;>omega
   rw[numG_dec_new hold]at hr
   obtain⟨c,hcc⟩:∃ c,nctxP s i=c:=⟨_,rfl⟩
   rw[hcc]at hc hr
   have hD:=gotS_len d c
   have hDok:=(gotS_ok (ctx:=c) h3 hc.1 (by omega)).1
   obtain⟨d1,hd1⟩:∃ d1,gotS d c=d1:=⟨_,rfl⟩
   rw[hd1]at hr hD hDok
   have hD3:(d1.st.length:Int)=d.st.length:=by rw[hD.1]
   have hD4:d1.code=d.code:=hD.2.1
   by_cases he:gotE d c=0
   ·rw[if_pos he]at hr
    by_cases hb:gotB d c=1
    ·rw[if_pos hb]at hr
     have hE1:(⟨d1.kind,d1.st,d1.low,d1.high,d.code,d1.at_,d1.value,d1.beyond,d1.ended⟩:DeS)=d1:=by rw[<-hD4]
     have hF:=gotS_len d1 11
     obtain⟨d2,hd2⟩:∃ d2,gotS d1 11=d2:=⟨_,rfl⟩
     rw[hd2]at hr hF
     have hF3:(d2.st.length:Int)=d.st.length:=by rw[hF.1,hD3]
     have hF4:d2.code=d.code:=by rw[hF.2.1,hD4]
     by_cases he2:gotE d1 11=0
     ·rw[if_pos he2]at hr
      have hst':stWf { s with size:=s.size.set i.toNat oz } s.since.length:=⟨by simp only[List.length_set];exact o1,o2,o3,o4,o5,o6,o7,o8,o9,o10,o11⟩
      obtain⟨bb,hbb⟩:∃ bb,decide (gotB d1 11=1)=bb:=⟨_,rfl⟩
      rw[hbb]at hr
      have hr1:(ndR ⟨p,s,L,LS,LC,LX,d,w1,w2,i,t,true⟩).2.1=d2:=by rw[hr]
      have hr2:(ndR ⟨p,s,L,LS,LC,LX,d,w1,w2,i,t,true⟩).1={ s with size:=s.size.set i.toNat (orP (rd s.size i) t),minus:=s.minus.set i.toNat bb,since:=s.since.set i.toNat (s.now+1) }:=by rw[hr]
      have hr3:(ndR ⟨p,s,L,LS,LC,LX,d,w1,w2,i,t,true⟩).2.2=0:=by rw[hr]
      simp -implicitDefEqProofs only[push_cast,zz,seval,ir42,ndM,stM,stV,deV,deT,ivV,fs79,fs80,fs81,fs82,fs64,sAtOk,hst,hold,h3,hszz,Int.one_mul,hT,hor,hcc,hd1,he,hb,hE1,hd2,he2,hbb,hDok,hst',List.length_set,hD3,hD4]
      repeat refine om_ ?_
      refine postF.mk' (fun _=>default) [some 0,some 1,some 2,some 3,some 4,none,some 6,some 7,some 8,some 9,some 10] ?_
      simp -implicitDefEqProofs only[push_cast,zz,seval,fs42D,ndM,stV,deV,deT,ivV,hr1,hr2,hr3,hszz,hoz,List.length_set,hF3,hF4]
     ·rw[if_neg he2]at hr
      have hr1:(ndR ⟨p,s,L,LS,LC,LX,d,w1,w2,i,t,true⟩).2.1=d2:=by rw[hr]
      have hr2:(ndR ⟨p,s,L,LS,LC,LX,d,w1,w2,i,t,true⟩).1=s:=by rw[hr]
      have hr3:(ndR ⟨p,s,L,LS,LC,LX,d,w1,w2,i,t,true⟩).2.2=gotE d1 11:=by rw[hr]
      simp -implicitDefEqProofs only[push_cast,zz,seval,ir42,ndM,stM,stV,deV,deT,ivV,fs79,fs80,fs81,fs82,fs64,sAtOk,hst,hold,h3,hszz,Int.one_mul,hT,hor,hcc,hd1,he,hb,hE1,hd2,he2,hDok,hD3,hD4]
      repeat refine om_ ?_
      refine postF.mk' (fun _=>default) [some 0,some 1,some 2,some 3,some 4,none,some 6,some 7,some 8,some 9,some 10] ?_
      simp -implicitDefEqProofs only[push_cast,zz,seval,fs42D,ndM,stV,deV,deT,ivV,hr1,hr2,hr3,hszz,hoz,List.length_set,hF3,hF4]
    ·rw[if_neg hb]at hr
     have hr1:(ndR ⟨p,s,L,LS,LC,LX,d,w1,w2,i,t,true⟩).2.1=d1:=by rw[hr]
     have hr2:(ndR ⟨p,s,L,LS,LC,LX,d,w1,w2,i,t,true⟩).1=s:=by rw[hr]
     have hr3:(ndR ⟨p,s,L,LS,LC,LX,d,w1,w2,i,t,true⟩).2.2=0:=by rw[hr]
     simp -implicitDefEqProofs only[push_cast,zz,seval,ir42,ndM,stM,stV,deV,deT,ivV,fs79,fs80,fs81,fs82,fs64,sAtOk,hst,hold,h3,hszz,Int.one_mul,hT,hor,hcc,hd1,he,hb]
     repeat refine om_ ?_
     refine postF.mk' (fun _=>default) [some 0,some 1,some 2,some 3,some 4,none,some 6,some 7,some 8,some 9,some 10] ?_
     simp -implicitDefEqProofs only[push_cast,zz,seval,fs42D,ndM,stV,deV,deT,ivV,hr1,hr2,hr3,hszz,hoz,List.length_set,hD3,hD4]
   ·rw[if_neg he]at hr
    have hr1:(ndR ⟨p,s,L,LS,LC,LX,d,w1,w2,i,t,true⟩).2.1=d1:=by rw[hr]
    have hr2:(ndR ⟨p,s,L,LS,LC,LX,d,w1,w2,i,t,true⟩).1=s:=by rw[hr]
    have hr3:(ndR ⟨p,s,L,LS,LC,LX,d,w1,w2,i,t,true⟩).2.2=gotE d c:=by rw[hr]
    simp -implicitDefEqProofs only[push_cast,zz,seval,ir42,ndM,stM,stV,deV,deT,ivV,fs79,fs80,fs81,fs82,fs64,sAtOk,hst,hold,h3,hszz,Int.one_mul,hT,hor,hcc,hd1,he]
    repeat refine om_ ?_
    refine postF.mk' (fun _=>default) [some 0,some 1,some 2,some 3,some 4,none,some 6,some 7,some 8,some 9,some 10] ?_
    simp -implicitDefEqProofs only[push_cast,zz,seval,fs42D,ndM,stV,deV,deT,ivV,hr1,hr2,hr3,hszz,hoz,List.length_set,hD3,hD4]
def ent42D:Entry:=spOf fs42D invNd2
theorem e42D:EntryOk Tryz.prog 42 ent42D:=entry_of ok42D invNd2
@[push_cast] theorem ent42D_app (us:List SV) (look:Look) (x:Nat->Xf.Loc) (k:Nat):ent42D us look x k=spOf fs42D invNd2 us look x k:=rfl
def plsG {β:Type} (bit:β->Int->Bool->Bool×Int×β) (f:List Int) (t:Int) (on:Bool):List Int->StS->β->StS×β×Int
 | [],s,x=>(s,x,0)
 | i::l,s,x=>
  if (numG bit s x i t on (digP f i t) (decide (rd f i<0))).2.2=0 then plsG bit f t on l (numG bit s x i t on (digP f i t) (decide (rd f i<0))).1 (numG bit s x i t on (digP f i t) (decide (rd f i<0))).2.1
  else numG bit s x i t on (digP f i t) (decide (rd f i<0))
def onBk (l:List Bck) (i:Nat) (b:Bool):List Bck:=l.set i ⟨(rdBk l i).L,(rdBk l i).b,b⟩
def setOn (s:StS) (i:Nat) (b:Bool):StS:=⟨s.size,s.minus,s.since,s.now,onBk s.list i b,s.kind,s.nst,s.band,s.w⟩
def bktG {β:Type} (bit:β->Int->Bool->Bool×Int×β) (f:List Int) (t:Int) (i:Nat) (s:StS) (x:β):StS×β×Int:=
 if allP s (rdBk s.list i).b.places=true then plsG bit f t false (rdBk s.list i).b.places (setOn s i false) x
 else if (bit x (bctxP (setOn s i false) (rdBk s.list i).b) (onP s (rdBk s.list i).b.places f t)).2.1=0 then
  plsG bit f t (bit x (bctxP (setOn s i false) (rdBk s.list i).b) (onP s (rdBk s.list i).b.places f t)).1 (rdBk s.list i).b.places (setOn s i (bit x (bctxP (setOn s i false) (rdBk s.list i).b) (onP s (rdBk s.list i).b.places f t)).1) (bit x (bctxP (setOn s i false) (rdBk s.list i).b) (onP s (rdBk s.list i).b.places f t)).2.2
 else (setOn s i false,(bit x (bctxP (setOn s i false) (rdBk s.list i).b) (onP s (rdBk s.list i).b.places f t)).2.2,(bit x (bctxP (setOn s i false) (rdBk s.list i).b) (onP s (rdBk s.list i).b.places f t)).2.1)
def slcG {β:Type} (bit:β->Int->Bool->Bool×Int×β) (f:List Int) (t:Int):Nat->Nat->StS->β->StS×β×Int
 | 0,_,s,x=>(⟨s.size,s.minus,s.since,s.now+1,s.list,s.kind,s.nst,s.band,s.w⟩,x,0)
 | k+1,i,s,x=>if (bktG bit f t i s x).2.2=0 then slcG bit f t k (i+1) (bktG bit f t i s x).1 (bktG bit f t i s x).2.1 else bktG bit f t i s x
def sameS (a s:StS):Prop:=a.size.length=s.size.length/\a.minus.length=s.minus.length/\a.since.length=s.since.length/\a.now=s.now/\a.list=s.list/\a.kind=s.kind/\a.nst=s.nst/\a.band=s.band/\a.w=s.w
theorem sameS.refl (s:StS):sameS s s:=⟨rfl,rfl,rfl,rfl,rfl,rfl,rfl,rfl,rfl⟩
theorem sameS.trans {a b c:StS} (h:sameS a b) (g:sameS b c):sameS a c:=by
 obtain⟨h1,h2,h3,h4,h5,h6,h7,h8,h9⟩:=h
 obtain⟨g1,g2,g3,g4,g5,g6,g7,g8,g9⟩:=g
 exact⟨h1.trans g1,h2.trans g2,h3.trans g3,h4.trans g4,h5.trans g5,h6.trans g6,h7.trans g7,h8.trans g8,h9.trans g9⟩
theorem sameS.wf {a s:StS} (h:sameS a s) {n:Nat} (hs:stWf s n):stWf a n:=by
 obtain⟨h1,h2,h3,h4,h5,h6,h7,h8,h9⟩:=h
 unfold stWf at hs ⊢
 rw[h1,h2,h3,h4,h5,h8,h9]
 exact hs
theorem numG_same {β:Type} (bit:β->Int->Bool->Bool×Int×β) (s:StS) (x:β) (i t:Int) (on dig neg:Bool):sameS (numG bit s x i t on dig neg).1 s:=by
 obtain⟨h1,h2,h3⟩:=numG_len bit s x i t on dig neg
 refine⟨h1,h2,h3,?_⟩
 clear h1 h2 h3
 unfold numG
 split
 ·split
  ·split<;>simp
  ·simp
 ·split
  ·split
   ·split
    ·split<;>simp
    ·simp
   ·simp
  ·simp
theorem szWf_set {s:StS} (h:szWf s) {i:Int} (h0:0<=i) (h1:i<s.size.length) {t:Int} (t0:0<=t) (t1:t<=30):∀ x∈s.size.set i.toNat (orP (rd s.size i) t),0<=x/\x<1099511627776:=fun x hx=>by
 rcases List.mem_or_eq_of_mem_set hx with h' | rfl
 ·exact h x h'
 ·have:=h.at h0 h1
  exact orP_bd this.1 this.2 t0 t1
theorem numG_sz {β:Type} (bit:β->Int->Bool->Bool×Int×β) {s:StS} (x:β) {i t:Int} (on dig neg:Bool) (h:szWf s) (h0:0<=i) (h1:i<s.size.length) (t0:0<=t) (t1:t<=30):szWf (numG bit s x i t on dig neg).1:=by
 have hs:=szWf_set h h0 h1 t0 t1
 unfold numG
 split
 ·split
  ·split
   ·exact hs
   ·exact h
  ·exact h
 ·split
  ·split
   ·split
    ·split
     ·exact hs
     ·exact h
    ·exact h
   ·exact h
  ·exact h
theorem dctxP_bd (s:StS) (i:Int):0<=dctxP s i/\dctxP s i<12:=by unfold dctxP;split<;>omega
theorem nctxP_bd (s:StS) (i:Int):0<=nctxP s i/\nctxP s i<12:=by unfold nctxP;split<;>split<;>omega
theorem bctxP_bd (s:StS) (b:Pb):0<=bctxP s b/\bctxP s b<12:=by
 unfold bctxP abP
 split
 ·split<;>split<;>omega
 ·split<;>omega
def enAft (e e':EnS) (k:Nat):Prop:=e'.ok/\e'.out.length<=e.out.length+k/\e'.st.length=e.st.length/\e'.kind=e.kind
theorem enAft.trans {a b c:EnS} {j k:Nat} (h:enAft a b j) (g:enAft b c k):enAft a c (j+k):=by
 obtain⟨h1,h2,h3,h4⟩:=h
 obtain⟨g1,g2,g3,g4⟩:=g
 exact⟨g1,by omega,g3.trans h3,g4.trans h4⟩
theorem enAft.mono {a b:EnS} {j k:Nat} (h:enAft a b j) (hk:j<=k):enAft a b k:=⟨h.1,by have:=h.2.1;omega,h.2.2⟩
theorem putAft {e:EnS} {c:Int} (h:e.ok) (hs:e.st.length=12) (hc:0<=c/\c<12) (b:Bool):enAft e (putP e c (b2i b)) 4:=
 putP_ok h hc.1 (by omega) (b2i_01 b)
theorem numE_aft (s:StS) {e:EnS} (i t:Int) (on dig neg:Bool) (h:e.ok) (hs:e.st.length=12):enAft e (numG putG s e i t on dig neg).2.1 8/\(numG putG s e i t on dig neg).2.2=0:=by
 by_cases ho:oldP s i
 ·rw[numG_enc_old ho]
  have:=putAft h hs (dctxP_bd s i) dig
  exact⟨this.mono (by decide),rfl⟩
 ·cases on with
  | true=>
   rw[numG_enc_new ho]
   have h1:=putAft h hs (nctxP_bd s i) dig
   have h2:=putAft (c:=11) h1.1 (by rw[h1.2.2.1,hs]) (by omega) neg
   split
   ·exact⟨h1.trans h2,rfl⟩
   ·exact⟨h1.mono (by decide),rfl⟩
  | false=>
   rw[numG_off ho]
   exact⟨⟨h,by simp,rfl,rfl⟩,rfl⟩
def deAft (d d':DeS):Prop:=d'.ok/\d'.st.length=d.st.length/\d'.kind=d.kind/\d'.code=d.code
theorem deAft.trans {a b c:DeS} (h:deAft a b) (g:deAft b c):deAft a c:=by
 obtain⟨h1,h2,h3,h4⟩:=h
 obtain⟨g1,g2,g3,g4⟩:=g
 exact⟨g1,g2.trans h2,g3.trans h3,g4.trans h4⟩
theorem gotAft {d:DeS} {c:Int} (h:d.ok) (hs:d.st.length=12) (hc:0<=c/\c<12):deAft d (gotS d c):=
 gotS_ok h hc.1 (by omega)
theorem numD_aft (s:StS) {d:DeS} (i t:Int) (on dig neg:Bool) (h:d.ok) (hs:d.st.length=12):deAft d (numG getG s d i t on dig neg).2.1:=by
 by_cases ho:oldP s i
 ·rw[numG_dec_old ho]
  have:=gotAft h hs (dctxP_bd s i)
  split
  ·exact this
  ·exact this
 ·cases on with
  | true=>
   rw[numG_dec_new ho]
   have h1:=gotAft h hs (nctxP_bd s i)
   have h2:=gotAft (c:=11) h1.1 (by rw[h1.2.1,hs]) (by omega)
   split
   ·split
    ·split
     ·exact h1.trans h2
     ·exact h1.trans h2
    ·exact h1
   ·exact h1
  | false=>
   rw[numG_off ho]
   exact⟨h,rfl,rfl,rfl⟩
theorem onBk_rc {l:List Bck} {i:Nat} (b:Bool):(onBk l i b).map Bck.rc=(l.map Bck.rc).set i [.row (rdBk l i).L .i64 (rdBk l i).b.places,.int .i64 (rdBk l i).b.w,.int .i64 (rdBk l i).b.parent,.bool b]:=by
 unfold onBk;rw[List.map_set];rfl
theorem onBk_at {l:List Bck} {i:Nat} (h:i<l.length) (b:Bool):rdBk (onBk l i b) i=⟨(rdBk l i).L,(rdBk l i).b,b⟩:=by
 unfold onBk rdBk;simp[h]
theorem onBk_on {l:List Bck} {i:Nat} (h:i<l.length) (a b:Bool):onBk (onBk l i a) i b=onBk l i b:=by
 have:=onBk_at h a
 unfold onBk at this ⊢
 rw[this];simp
theorem onBk_ne {l:List Bck} {i j:Nat} (h:i≠j) (b:Bool):rdBk (onBk l i b) j=rdBk l j:=by
 unfold onBk rdBk;simp[List.getElem?_set_ne h]
theorem onBk_len (l:List Bck) (i:Nat) (b:Bool):(onBk l i b).length=l.length:=by unfold onBk;simp
theorem onBk_mem {l:List Bck} {i:Nat} (hi:i<l.length) {b:Bool} {x:Bck} (h:x∈onBk l i b):∃ y∈l,x.L=y.L/\x.b=y.b:=by
 rcases List.mem_or_eq_of_mem_set h with h | rfl
 ·exact⟨x,h,rfl,rfl⟩
 ·exact⟨rdBk l i,by rw[rdBk_nat hi];exact List.getElem_mem hi,rfl,rfl⟩
theorem setOn_wf {s:StS} {n i:Nat} {b:Bool} (hi:i<s.list.length) (h:stWf s n):stWf (setOn s i b) n:=by
 obtain⟨o1,o2,o3,o4,o5,o6,o7,o8,o9,o10,o11⟩:=h
 refine⟨o1,o2,o3,o4,o5,o6,o7,by simp only[setOn,onBk_len];exact o8,o9,o10,fun x hx=>?_⟩
 obtain⟨y,hy,_,e⟩:=onBk_mem hi hx
 rw[e]
 simp only[setOn,onBk_len]
 exact o11 y hy
def sameK (l m:List Bck):Prop:=l.map (fun x=>(x.L,x.b))=m.map (fun x=>(x.L,x.b))
theorem sameK.refl (l:List Bck):sameK l l:=rfl
theorem sameK.on {l m:List Bck} (h:sameK l m) (i:Nat) (hi:i<l.length) (b:Bool):sameK (onBk l i b) m:=by
 unfold sameK at h ⊢
 rw[<-h]
 unfold onBk
 rw[List.map_set]
 rw[show((rdBk l i).L,(rdBk l i).b)=(l.map (fun x=>(x.L,x.b)))[i]'(by simpa using hi) by simp[rdBk_nat hi]]
 rw[List.set_getElem_self]
theorem sameK.len {l m:List Bck} (h:sameK l m):l.length=m.length:=by
 have:=congrArg List.length h
 simpa using this
theorem rows_sameK {l m:List Bck} (h:sameK l m) {y:Addr} (hr:rows (.recs 4 false [] (l.map Bck.rc)) y):rows (.recs 4 false [] (m.map Bck.rc)) y:=by
 obtain⟨L,k,xs,⟨r,hr,hm⟩,ho⟩:=hr
 refine⟨L,k,xs,?_,ho⟩
 obtain⟨b,hb,rfl⟩:=List.mem_map.1 hr
 have hb':(b.L,b.b)∈m.map (fun x=>(x.L,x.b)):=by rw[<-h];exact List.mem_map.2 ⟨b,hb,rfl⟩
 obtain⟨c,hc,e⟩:=List.mem_map.1 hb'
 simp only[Prod.mk.injEq]at e
 refine⟨c.rc,List.mem_map.2 ⟨c,hc,rfl⟩,?_⟩
 unfold Bck.rc at hm ⊢
 rw[e.1,e.2]
 simp only[List.mem_cons,List.not_mem_nil,or_false,reduceCtorEq]at hm ⊢
 exact hm
def simS (a s:StS):Prop:=a.size.length=s.size.length/\a.minus.length=s.minus.length/\a.since.length=s.since.length/\a.now=s.now/\sameK a.list s.list/\a.kind=s.kind/\a.nst=s.nst/\a.band=s.band/\a.w=s.w
theorem simS.refl (s:StS):simS s s:=⟨rfl,rfl,rfl,rfl,rfl,rfl,rfl,rfl,rfl⟩
theorem simS.same {a b s:StS} (g:sameS a b) (h:simS b s):simS a s:=by
 obtain⟨h1,h2,h3,h4,h5,h6,h7,h8,h9⟩:=h
 obtain⟨g1,g2,g3,g4,g5,g6,g7,g8,g9⟩:=g
 exact⟨g1.trans h1,g2.trans h2,g3.trans h3,g4.trans h4,by rw[g5];exact h5,g6.trans h6,g7.trans h7,g8.trans h8,g9.trans h9⟩
theorem simS.on {b s:StS} {i:Nat} (hi:i<b.list.length) (h:simS b s) (v:Bool):simS (setOn b i v) s:=by
 obtain⟨h1,h2,h3,h4,h5,h6,h7,h8,h9⟩:=h
 exact⟨h1,h2,h3,h4,h5.on i hi v,h6,h7,h8,h9⟩
theorem plsG_cons {β:Type} (bit:β->Int->Bool->Bool×Int×β) (f:List Int) (t:Int) (on:Bool) {pl:List Int} {j:Nat} (hj:j<pl.length) (s:StS) (x:β) :
  plsG bit f t on (pl.drop j) s x=if (numG bit s x (rd pl (j:Nat)) t on (digP f (rd pl (j:Nat)) t) (decide (rd f (rd pl (j:Nat))<0))).2.2=0 then plsG bit f t on (pl.drop (j+1)) (numG bit s x (rd pl (j:Nat)) t on (digP f (rd pl (j:Nat)) t) (decide (rd f (rd pl (j:Nat))<0))).1 (numG bit s x (rd pl (j:Nat)) t on (digP f (rd pl (j:Nat)) t) (decide (rd f (rd pl (j:Nat))<0))).2.1
  else numG bit s x (rd pl (j:Nat)) t on (digP f (rd pl (j:Nat)) t) (decide (rd f (rd pl (j:Nat))<0)):=by
 rw[rd_lt pl j hj,List.drop_eq_getElem_cons hj,plsG]
theorem sameK.on' {l m:List Bck} (h:sameK l m) (i:Nat) (b:Bool):sameK (onBk l i b) m:=by
 by_cases hi:i<l.length
 ·exact h.on i hi b
 ·unfold onBk
  rw[List.set_eq_of_length_le (by omega)]
  exact h
theorem plsG_list {β:Type} (bit:β->Int->Bool->Bool×Int×β) (f:List Int) (t:Int) (on:Bool):∀ (l:List Int) (s:StS) (x:β),(plsG bit f t on l s x).1.list=s.list
 | [],s,x=>rfl
 | i::l,s,x=>by
  have h:=(numG_same bit s x i t on (digP f i t) (decide (rd f i<0))).2.2.2.2.1
  rw[plsG]
  split
  ·rw[plsG_list bit f t on l];exact h
  ·exact h
theorem bktG_k {β:Type} (bit:β->Int->Bool->Bool×Int×β) (f:List Int) (t:Int) (i:Nat) (s:StS) (x:β):sameK (bktG bit f t i s x).1.list s.list:=by
 unfold bktG
 split
 ·rw[plsG_list];exact(sameK.refl _).on' i false
 ·split
  ·rw[plsG_list];exact(sameK.refl _).on' i _
  ·exact(sameK.refl _).on' i false
theorem slcG_k {β:Type} (bit:β->Int->Bool->Bool×Int×β) (f:List Int) (t:Int):∀ (k i:Nat) (s:StS) (x:β),sameK (slcG bit f t k i s x).1.list s.list
 | 0,i,s,x=>sameK.refl _
 | k+1,i,s,x=>by
  rw[slcG]
  split
  ·exact Eq.trans (slcG_k bit f t k (i+1) _ _) (bktG_k bit f t i s x)
  ·exact bktG_k bit f t i s x
structure SlA where
 p:StL
 s:StS
 L:Xf.Loc
 LS:Xf.Loc
 LO:Xf.Loc
 LX:Xf.Loc
 e:EnS
 F:Xf.Loc
 f:List Int
 t:Int
def slM (a:SlA):Mem:=[some (.lent,a.p.L,.cells (stV a.p a.s)),some (.lent,a.p.Z,.ints .i64 a.s.size),some (.lent,a.p.M,.bools a.s.minus),some (.lent,a.p.I,.ints .i64 a.s.since),some (.lent,a.p.K,.recs 4 false [] (a.s.list.map Bck.rc)),none,some (.ro,a.p.B,.ints .i64 a.s.band),
 some (.lent,a.L,.cells (relabs (fun i=>i+7) (enV a.LS a.e 2 a.LO))),some (.lent,a.LS,.ints .i64 a.e.st),some (.lent,a.LO,.ints .u8 a.e.out),some (.ro,a.LX,.cells [.ptr 7 a.L 0 0 0]),some (.ro,a.F,.ints .i64 a.f)]
def slR (a:SlA):StS×EnS×Int:=slcG putG a.f a.t a.s.list.length 0 a.s a.e
def invSl:List SV->Look->Option (SlA×List Nat)
 | [.ptr c _ 0 0 0,.int .i64 t,.sl y _ 1 0 _,.fn _ [.ptr x _ 0 0 0]],look=>match invSt look c,rowC (look x),rowI (look y)with
  | some (p,s,g),some (LX,[.ptr k _ 0 0 0]),some (F,.i64,f)=>match invEn [.ptr k nilLoc 0 0 0] look with
   | some (⟨L,LS,LO,e,_,_⟩,h)=>some (⟨p,s,L,LS,LO,LX,e,F,f,t⟩,g++(h++[x,y]))
   | _=>none
  | _,_,_=>none
 | _,_=>none
attribute [push_cast] invSl
def slOk (s:StS) (e:EnS) (f:List Int) (t:Int):Prop:=stWf s s.since.length/\szWf s/\e.ok/\e.st.length=12/\e.out.length<=1000000/\ofWf f s.since.length/\0<=t/\t<=30
def fs13E:FS where
 A:=SlA
 args:=fun a=>[.ptr 0 a.p.L 0 0 0,.int .i64 a.t,.sl 11 a.F 1 0 a.f.length,.fn 14 [.ptr 10 a.LX 0 0 0]]
 mem:=slM
 pre:=fun a=>slOk a.s a.e a.f a.t
 res:=fun a _=>.int .i64 0
 out:=fun a x=>[some (some (.cells (stV a.p (slR a).1))),some (some (.ints .i64 (slR a).1.size)),some (some (.bools (slR a).1.minus)),some (some (.ints .i64 (slR a).1.since)),some (some (.recs 4 false [] ((slR a).1.list.map Bck.rc))),none,none,some (some (.cells (relabs (fun i=>i+7) (enV a.LS (slR a).2.1 5 (x 0))))),some (some (.ints .i64 (slR a).2.1.st)),some none]
 new:=fun a x=>[(x 0,.ints .u8 (slR a).2.1.out)]
 newGot:=true
theorem plsE_inv (f:List Int) (t:Int) (t0:0<=t) (t1:t<=30) (on:Bool):∀ (l:List Int) (s:StS) (e:EnS) (n:Nat),stWf s n->szWf s->e.ok->e.st.length=12->(∀ x∈l,0<=x/\x<n) ->
  sameS (plsG putG f t on l s e).1 s/\szWf (plsG putG f t on l s e).1/\enAft e (plsG putG f t on l s e).2.1 (8*l.length)/\(plsG putG f t on l s e).2.2=0
 | [],s,e,n,hs,hz,he,h12,hl=>⟨sameS.refl s,hz,⟨he,by simp[plsG],rfl,rfl⟩,rfl⟩
 | i::l,s,e,n,hs,hz,he,h12,hl=>by
  have hi:=hl i List.mem_cons_self
  have h1:=numG_same putG s e i t on (digP f i t) (decide (rd f i<0))
  have h2:=numG_sz putG e on (digP f i t) (decide (rd f i<0)) hz hi.1 (by have:=hs.1;omega) t0 t1
  obtain⟨h3,h4⟩:=numE_aft s i t on (digP f i t) (decide (rd f i<0)) he h12
  rw[plsG,if_pos h4]
  obtain⟨k1,k2,k3,k4⟩:=plsE_inv f t t0 t1 on l _ _ n (h1.wf hs) h2 h3.1 (by rw[h3.2.2.1,h12]) (fun x hx=>hl x (List.mem_cons_of_mem _ hx))
  exact⟨k1.trans h1,k2,(h3.trans k3).mono (by simp only[List.length_cons];omega),k4⟩
theorem bktE_inv (f:List Int) (t:Int) (t0:0<=t) (t1:t<=30) (i:Nat) (s:StS) (e:EnS) (n:Nat) (hs:stWf s n) (hz:szWf s) (he:e.ok) (h12:e.st.length=12) (hi:i<s.list.length) :
  simS (bktG putG f t i s e).1 s/\szWf (bktG putG f t i s e).1/\enAft e (bktG putG f t i s e).2.1 132/\(bktG putG f t i s e).2.2=0:=by
 obtain⟨b1,b2,b3,b4⟩:=hs.2.2.2.2.2.2.2.2.2.2 _ (by rw[rdBk_nat hi];exact List.getElem_mem hi:rdBk s.list i∈s.list)
 unfold bktG
 split
 ·obtain⟨k1,k2,k3,k4⟩:=plsE_inv f t t0 t1 false (rdBk s.list i).b.places (setOn s i false) e n (setOn_wf hi hs) hz he h12 b4
  exact⟨simS.same k1 ((simS.refl s).on hi false),k2,k3.mono (by omega),k4⟩
 ·simp only[putG,if_true]
  have hp:=putAft he h12 (bctxP_bd (setOn s i false) (rdBk s.list i).b) (onP s (rdBk s.list i).b.places f t)
  obtain⟨k1,k2,k3,k4⟩:=plsE_inv f t t0 t1 (onP s (rdBk s.list i).b.places f t) (rdBk s.list i).b.places (setOn s i (onP s (rdBk s.list i).b.places f t)) _ n (setOn_wf hi hs) hz hp.1 (by rw[hp.2.2.1,h12]) b4
  exact⟨simS.same k1 ((simS.refl s).on hi _),k2,(hp.trans k3).mono (by omega),k4⟩
theorem simS.wf {a s:StS} (h:simS a s) {n:Nat} (hs:stWf s n):stWf a n:=by
 obtain⟨h1,h2,h3,h4,h5,h6,h7,h8,h9⟩:=h
 obtain⟨o1,o2,o3,o4,o5,o6,o7,o8,o9,o10,o11⟩:=hs
 refine⟨h1.trans o1,h2.trans o2,h3.trans o3,by rw[h8];exact o4,o5,by rw[h4];exact o6,by rw[h4];exact o7,by rw[h5.len];exact o8,by rw[h9];exact o9,by rw[h9];exact o10,fun b hb=>?_⟩
 have hb':(b.L,b.b)∈s.list.map (fun x=>(x.L,x.b)):=by rw[<-h5];exact List.mem_map.2 ⟨b,hb,rfl⟩
 obtain⟨c,hc,e⟩:=List.mem_map.1 hb'
 simp only[Prod.mk.injEq]at e
 rw[<-e.2,h5.len]
 exact o11 c hc
theorem simS.trans {a b c:StS} (h:simS a b) (g:simS b c):simS a c:=by
 obtain⟨h1,h2,h3,h4,h5,h6,h7,h8,h9⟩:=h
 obtain⟨g1,g2,g3,g4,g5,g6,g7,g8,g9⟩:=g
 exact⟨h1.trans g1,h2.trans g2,h3.trans g3,h4.trans g4,Eq.trans h5 g5,h6.trans g6,h7.trans g7,h8.trans g8,h9.trans g9⟩
theorem slcE_inv (f:List Int) (t:Int) (t0:0<=t) (t1:t<=30) (n:Nat):∀ (k i:Nat) (s:StS) (e:EnS),stWf s n->szWf s->e.ok->e.st.length=12->i+k=s.list.length ->
  simS (slcG putG f t k i s e).1 { s with now:=s.now+1 }/\szWf (slcG putG f t k i s e).1/\enAft e (slcG putG f t k i s e).2.1 (132*k)/\(slcG putG f t k i s e).2.2=0
 | 0,i,s,e,hs,hz,he,h12,hik=>⟨simS.refl _,hz,⟨he,by simp[slcG],rfl,rfl⟩,rfl⟩
 | k+1,i,s,e,hs,hz,he,h12,hik=>by
  obtain⟨k1,k2,k3,k4⟩:=bktE_inv f t t0 t1 i s e n hs hz he h12 (by omega)
  rw[slcG,if_pos k4]
  obtain⟨j1,j2,j3,j4⟩:=slcE_inv f t t0 t1 n k (i+1) _ _ (k1.wf hs) k2 k3.1 (by rw[k3.2.2.1,h12]) (by rw[k1.2.2.2.2.1.len];omega)
  refine⟨j1.trans ?_,j2,(k3.trans j3).mono (by omega),j4⟩
  obtain⟨h1,h2,h3,h4,h5,h6,h7,h8,h9⟩:=k1
  exact⟨h1,h2,h3,by simp only;rw[h4],h5,h6,h7,h8,h9⟩
def b13_2:IR:=
 .seq (r_ [b_ 66 .lss 65 64] []) (.seq (.cond (.t 66) (.skip) (.exit 2)) (.seq (.block 3 (.seq (r_ [i_ 67 63 65 1,L_ 68 67,o_ 17 (.alloc 34 [y_]),s_ 1 .i64 17 68] [66,67,68]) (.seq (R_ [⟨some 69,none,⟨[35,36,37,38],[]⟩,.ld false none 0 0 (.t 4)⟩,⟨some 70,none,⟨[35,36,37,38],[]⟩,.ld false none 0 0 (.t 17)⟩,⟨some 71,none,⟨[35,36,37,38],[]⟩,.ld false none 0 0 (.t 5)⟩,⟨some 72,none,⟨[35,36,37,38],[]⟩,.ld false none 0 0 (.t 11)⟩,n_ 73 72,f_ 74 73 3,⟨some 75,none,⟨[35,36,37,38],[]⟩,.ld true none 0 0 (.t 74)⟩,m_ 76 9,l_ 77 17,o_ 78 (.callv (some 4) 35 (.t 76) [.t 77]),o_ 79 (.mkf 43 [.t 6,.t 17]),m_ 80 3,o_ 81 (.call none 39 42 [.t 69,.t 70,.t 71,.t 75,.t 78,.t 79,.t 80]),m_ 18 81] [17,69,70,71,72,73,74,75,76,77,78,79,80,81]) (.seq (r_ [m_ 82 18,c_ 83 .neq 82 0] [82]) (.cond (.t 83) (.seq (r_ [m_ 84 18,m_ 8 84] [3,4,5,6,9,11,18,24,25,63,64,65,83,84]) (.ret)) (.skip)))))) (r_ [a_ 85 65 1,m_ 65 85] [8,18,83,85])))
def r13_3:IR:=
 r_ [a_ 86 25 1,m_ 25 86] [11,63,64,65,86]
def b13_1:IR:=
 .seq (r_ [b_ 26 .lss 25 24] []) (.seq (.cond (.t 26) (.skip) (.exit 0)) (.seq (.block 1 (.seq (r_ [m_ 27 25,m_ 10 27] [26,27]) (.seq (r_ [l_ 28 4,n_ 29 28,f_ 30 29 4,l_ 31 30,m_ 32 10,i_ 33 31 32 4,o_ 11 (.alloc 23 [.val (.pointer none)]),s_ 1 .i64 11 33] [10,28,29,30,31,32,33]) (.seq (r_ [l_ 34 11,n_ 35 34,f_ 36 35 3,O_ (.sto true 1 .i64 (.t 36) (.k (.bool false)))] [34,35,36]) (.seq (.seq (R_ [⟨some 38,none,⟨[24],[]⟩,.ld false none 0 0 (.t 4)⟩,l_ 39 11,n_ 40 39,o_ 41 (.ld true (some 4) 24 1 (.t 40)),o_ 42 (.call (some 4) 25 39 [.t 38,.t 41]),m_ 37 42,e_ 43 37 0,e_ 44 37 1,m_ 12 43,m_ 13 44] [37,38,39,40,41,42,43,44]) (.seq (r_ [m_ 45 13] [13]) (.cond (.t 45) (.seq (r_ [m_ 47 3,m_ 48 12,o_ 49 (.mkf 40 [.t 4,.t 11,.t 5,.t 6]),o_ 50 (.callv none 29 (.t 47) [.t 48,.t 49]),m_ 46 50,e_ 51 46 0,e_ 52 46 1,m_ 14 51,m_ 15 52] [12,45,46,47,48,49,50,51,52]) (.seq (.seq (r_ [m_ 53 15,c_ 54 .neq 53 0] [53]) (.cond (.t 54) (.seq (r_ [m_ 55 15,m_ 8 55] [3,4,5,6,9,11,14,15,24,25,54,55]) (.ret)) (.skip))) (r_ [l_ 56 11,m_ 57 14,n_ 58 56,f_ 59 58 3,S_ 1 .i64 59 57] [8,14,15,54,56,57,58,59]))) (.skip)))) (.seq (r_ [l_ 60 11,n_ 61 60,f_ 62 61 0,o_ 63 (.ld true none 33 1 (.t 62)),h_ 64 63,z_ 65 0] [12,45,60,61,62]) (.block 2 (.loop b13_2)))))))) (r13_3)))
def r13_4:IR:=
 .seq (r_ [l_ 87 4,n_ 88 87,f_ 89 88 3,l_ 90 89,a_ 91 90 1,n_ 92 87,f_ 93 92 3,s_ 1 .i64 93 91] [3,4,5,6,9,24,25,87,88,89,90,91,92,93]) (.seq (r_ [z_ 8 0] []) (.ret))
def ir13:IR:=
 .seq (r_ [o_ 4 (.box 20 (.t 0)),o_ 5 (.box 21 (.t 1)),o_ 6 (.box 22 (.t 2)),z_ 8 0] [0,1,2,8]) (.seq (r_ [o_ 19 (.mkf 37 [.t 6,.t 5]),m_ 9 19] [19]) (.seq (.seq (r_ [l_ 20 4,n_ 21 20,f_ 22 21 4,l_ 23 22,h_ 24 23,z_ 25 0] [20,21,22,23]) (.block 0 (.loop b13_1))) (r13_4)))
def kp13_2:List Nat:=[3,4,5,6,9,11,24,25,63,64,65]
def kl13_2:List Nat:=[34,35,36,37,38,39,40,41,42]
attribute [push_cast] kp13_2 kl13_2
def kp13_1:List Nat:=[3,4,5,6,9,24,25]
def kl13_1:List Nat:=[23,24,25,26,27,28,29,30,31,32,33,34,35,36,37,38,39,40,41,42]
attribute [push_cast] kp13_1 kl13_1
set_option maxRecDepth 4000 in
theorem comp13:(Tryz.f13.body.bind fun c=>compC tab isP chkAll ir13 c)=some ir13:=by kernel_rfl
theorem slE_rows (a:SlA) (x:Nat->Xf.Loc):rowsOk fs13E a x:=by
 have k1:=slcG_k putG a.f a.t a.s.list.length 0 a.s a.e
 refine .inr ⟨fun j L ch h=>.inl ?_,fun c ch h=>?_⟩
 ·cases j with
  | zero=>simp[fs13E]at h;rw[<-h.2];rfl
  | succ j=>simp[fs13E]at h
 ·rcases c with _ | _ | _ | _ | _ | _ | _ | _ | _ | _ | c
  all_goals simp[fs13E,lk]at h
  all_goals subst h
  ·exact .inl rfl
  ·exact .inl rfl
  ·exact .inl rfl
  ·exact .inl rfl
  ·exact .inr fun y hy=>.inr ⟨_,rfl,rows_sameK k1 hy⟩
  ·exact .inl rfl
  ·exact .inl rfl
set_option maxHeartbeats 4000000 in
theorem ok13E:FSOk Tryz.prog 13 fs13E:=by
 refine⟨⟨_,Tryz.func13,by kernel_rfl,by kernel_rfl⟩,fun a=>⟨by simp[fs13E,slM,push_cast,noMine,argOwn,Chunk.frArg],by simp[fs13E,slM,stV,enV,ivV,push_cast,outOk,Chunk.ext],fun x=>slE_rows a x⟩,fun a hp=>?_⟩
 obtain⟨p,s0,L,LS,LO,LX,e0,F,f,t⟩:=a
 obtain⟨h1,h2,h3,h4,h5,h6,h7,h8⟩:slOk s0 e0 f t:=hp
 obtain⟨n,hn⟩:∃ n,s0.since.length=n:=⟨_,rfl⟩
 rw[hn]at h1 h6
 have hfl:=h6.1
 have hofl:ofWf f f.length:=by rw[hfl];exact h6
 have hR0:slR ⟨p,s0,L,LS,LO,LX,e0,F,f,t⟩=slcG putG f t s0.list.length 0 s0 e0:=rfl
 obtain⟨R,hR⟩:∃ R,slR ⟨p,s0,L,LS,LO,LX,e0,F,f,t⟩=R:=⟨_,rfl⟩
 rw[hR]at hR0
 obtain⟨size0,minus0,since0,now,list0,kind,nst,band,w⟩:=s0
 obtain⟨o1,o2,o3,o4,o5,o6,o7,o8,o9,o10,o11⟩:=id h1
 simp only at o1 o2 o3 o4 o5 o6 o7 o8 o9 o10 o11 hR0
 obtain⟨m,hm⟩:∃ m,list0.length=m:=⟨_,rfl⟩
 rw[hm]at hR0
 have hb64:=bits_i64
 change Tri Tryz.prog 13 [.ptr 0 p.L 0 0 0,.int .i64 t,.sl 11 F 1 0 f.length,.fn 14 [.ptr 10 LX 0 0 0]] (slM ⟨p,⟨size0,minus0,since0,now,list0,kind,nst,band,w⟩,L,LS,LO,LX,e0,F,f,t⟩) (postF fs13E ⟨p,⟨size0,minus0,since0,now,list0,kind,nst,band,w⟩,L,LS,LO,LX,e0,F,f,t⟩)
 refine tri_evS (hyp (l:=[(37,ent37),(39,ent39),(14,ent14),(42,ent42E)]) (lp:=[]) ⟨e37,e39,e14,e42E,trivial⟩ trivial) Tryz.func13 comp13 (rs:=[.tmp 8]) (by rfl) Tryz.ntmps13 43 ?_
 have he4:(k:Nat)->k<m->esz 4 m=4:=fun k hk=>esz_pos (by omega)
 simp -implicitDefEqProofs only[push_cast,zz,seval,ir13,slM,stV,enV,ivV,o1,o2,o3,o4,hm]
 intro X
 refine evS_loopU (A:=Nat×StS×EnS×Xf.Loc) kp13_1 kl13_1 (fun y=>[(25,.int .i64 y.1)])
  (fun y=>[(1,.lent,p.Z,.ints .i64 y.2.1.size),(2,.lent,p.M,.bools y.2.1.minus),(3,.lent,p.I,.ints .i64 y.2.1.since),(4,.lent,p.K,.recs 4 false [] (y.2.1.list.map Bck.rc)),(7,.lent,L,.cells (relabs (fun i=>i+7) (enV LS y.2.2.1 2 y.2.2.2))),(8,.lent,LS,.ints .i64 y.2.2.1.st),(9,.got,y.2.2.2,.ints .u8 y.2.2.1.out)])
  (fun y=>y.1<=m/\slcG putG f t (m-y.1) y.1 y.2.1 y.2.2.1=R/\simS y.2.1 ⟨size0,minus0,since0,now,list0,kind,nst,band,w⟩/\szWf y.2.1/\enAft e0 y.2.2.1 (132*y.1)) (fun y=>m-y.1) (0,⟨size0,minus0,since0,now,list0,kind,nst,band,w⟩,e0,LO) ⟨Nat.zero_le _,hR0.symm,simS.refl _,h2,h3,Nat.le_refl _,rfl,rfl⟩ (Sub.pt ?_) ?_
 ·simp -implicitDefEqProofs only[push_cast,zz,seval,enV,ivV,o1,o2,o3,o4,hm]
 intro ⟨i,s,e,M⟩ ⟨(hi:i<=m),(hs:slcG putG f t (m-i) i s e=R),(hsim:simS s _),(hz:szWf s),(haft:enAft e0 e (132*i))⟩ K hK
 have hwf:=hsim.wf h1
 obtain⟨size,minus,since,now',list,kind',nst',band',w'⟩:=s
 obtain⟨rfl,rfl,rfl,rfl,rfl⟩:now'=now/\kind'=kind/\nst'=nst/\band'=band/\w'=w:=⟨hsim.2.2.2.1,hsim.2.2.2.2.2⟩
 have hlm:list.length=m:=by rw[<-hm];exact hsim.2.2.2.2.1.len
 obtain⟨p1,p2,p3,p4,p5,p6,p7,p8,p9,p10,p11⟩:=id hwf
 simp only at p1 p2 p3 p8 p9 p11
 have ho8:m<=50000:=by omega
 by_cases hi':i<m
 ·have hii:(i:Int)<m:=by omega
  have he4':=he4 i hi'
  have rk:=recAt_Bk (l:=list) (i:=i) (by omega) []
  have hmapl:(list.map Bck.rc).length=m:=by rw[List.length_map,hlm]
  have hset0:=(onBk_rc (l:=list) (i:=i) false).symm
  have hsetl:(onBk list i false).length=m:=by rw[onBk_len,hlm]
  have hkat:=onBk_at (l:=list) (i:=i) (by omega) false
  have rk1:=recAt_Bk (l:=onBk list i false) (i:=i) (by omega) []
  have hset1:=fun v=>(onBk_rc (l:=onBk list i false) (i:=i) v).symm.trans (by rw[onBk_on (by omega)])
  have hwf1:=setOn_wf (s:=⟨size,minus,since,now',list,kind',nst',band',w'⟩) (b:=false) (show i<list.length by omega) hwf
  have hbki:=p11 _ (by rw[rdBk_nat (show i<list.length by omega)];exact List.getElem_mem _:rdBk list i∈list)
  simp only[setOn]at hwf1
  obtain⟨⟨L',⟨pl,bw,q⟩,on'⟩,hbk⟩:∃ b,rdBk list i=b:=⟨_,rfl⟩
  rw[hbk]at rk hset0 hkat hbki
  rw[hkat]at rk1 hset1
  simp only at hbki
  obtain⟨V,hV⟩:∃ V,onP ⟨size,minus,since,now',list,kind',nst',band',w'⟩ pl f t=V:=⟨_,rfl⟩
  obtain⟨l1,hl1⟩:∃ l,onBk list i false=l:=⟨_,rfl⟩
  obtain⟨B,hB⟩:∃ B,bktG putG f t i ⟨size,minus,since,now',list,kind',nst',band',w'⟩ e=B:=⟨_,rfl⟩
  have hbA:allP ⟨size,minus,since,now',list,kind',nst',band',w'⟩ pl=true->B=plsG putG f t false pl ⟨size,minus,since,now',l1,kind',nst',band',w'⟩ e:=fun h=>by
   rw[<-hB,<-hl1];unfold bktG;simp only[hbk,h,if_true];rfl
  have hbN:¬ allP ⟨size,minus,since,now',list,kind',nst',band',w'⟩ pl=true->B=plsG putG f t V pl ⟨size,minus,since,now',onBk list i V,kind',nst',band',w'⟩ (putP e (bctxP ⟨size,minus,since,now',l1,kind',nst',band',w'⟩ ⟨pl,bw,q⟩) (b2i V)):=fun h=>by
   rw[<-hB,<-hl1,<-hV];unfold bktG;simp only[hbk,h,if_false];rfl
  rw[hl1]at hset0 hsetl rk1 hset1 hwf1
  have hbi:=bktE_inv f t h7 h8 i ⟨size,minus,since,now',list,kind',nst',band',w'⟩ e n hwf hz haft.1 (by have:=haft.2.2.1;omega) (by simp only;omega)
  have hsl:slcG putG f t (m-(i+1)) (i+1) B.1 B.2.1=R:=by
   rw[show m-i=(m-(i+1))+1 by omega,slcG,if_pos hbi.2.2.2,hB]at hs
   exact hs
  rw[hB]at hbi
  have he12:e.st.length=12:=by have:=haft.2.2.1;omega
  have hoe:e.out.length<=8000000:=by have:=haft.2.1;omega
  have b4:=hbki.2.2.2
  have hml1:(l1.map Bck.rc).length=m:=by rw[List.length_map,hsetl]
  by_cases hall:allP ⟨size,minus,since,now',list,kind',nst',band',w'⟩ pl=true
  ·have hall':allP ⟨size,minus,since,now',l1,kind',nst',band',w'⟩ pl=true:=hall
   have hbA:=hbA hall
   have haftA:enAft e e (4+8*0):=⟨haft.1,by omega,rfl,rfl⟩
   simp -implicitDefEqProofs only[push_cast,zz,seval,b13_1,stM,stV,enV,ivV,hii,rk,rk1,Bck.rc,hset0,hmapl,hml1,he4',Int.toNat_natCast,fs39,Bck.sv,p1,p2,p3,o4,hsetl,hwf1,bkWf,hbki,hall']
   intro X1
   repeat refine om_ ?_
   refine evS_loopU (A:=Nat×StS×EnS×Xf.Loc) kp13_2 kl13_2 (fun y=>[(65,.int .i64 y.1)])
    (fun y=>[(1,.lent,p.Z,.ints .i64 y.2.1.size),(2,.lent,p.M,.bools y.2.1.minus),(3,.lent,p.I,.ints .i64 y.2.1.since),(7,.lent,L,.cells (relabs (fun i=>i+7) (enV LS y.2.2.1 2 y.2.2.2))),(8,.lent,LS,.ints .i64 y.2.2.1.st),(9,.got,y.2.2.2,.ints .u8 y.2.2.1.out)])
    (fun y=>y.1<=pl.length/\plsG putG f t false (pl.drop y.1) y.2.1 y.2.2.1=B/\sameS y.2.1 ⟨size,minus,since,now',l1,kind',nst',band',w'⟩/\szWf y.2.1/\enAft e y.2.2.1 (4+8*y.1)) (fun y=>pl.length-y.1) (0,⟨size,minus,since,now',l1,kind',nst',band',w'⟩,e,M) ⟨Nat.zero_le _,hbA.symm,sameS.refl _,hz,haftA⟩ (Sub.pt ?_) ?_
   ·simp -implicitDefEqProofs only[push_cast,zz,seval,enV,ivV,p1,p2,p3,he4']
   intro ⟨j,s2,e2,M2⟩ ⟨(hj:j<=pl.length),(hp2:plsG putG f t false (pl.drop j) s2 e2=B),(hsame:sameS s2 _),(hz2:szWf s2),(haft2:enAft e e2 (4+8*j))⟩ K2 hK2
   have hwf2:stWf s2 n:=hsame.wf (by first | exact hwf1 | exact hwf2)
   obtain⟨size2,minus2,since2,now2,list2,kind2,nst2,band2,w2⟩:=s2
   obtain⟨rfl,rfl,rfl,rfl,rfl,rfl⟩:now'=now2/\l1=list2/\kind'=kind2/\nst'=nst2/\band'=band2/\w'=w2:=⟨hsame.2.2.2.1.symm,hsame.2.2.2.2.1.symm,hsame.2.2.2.2.2.1.symm,hsame.2.2.2.2.2.2.1.symm,hsame.2.2.2.2.2.2.2.1.symm,hsame.2.2.2.2.2.2.2.2.symm⟩
   have q1:size2.length=n:=hwf2.1
   have q2:minus2.length=n:=hwf2.2.1
   have q3:since2.length=n:=hwf2.2.2.1
   by_cases hj':j<pl.length
   ·have hji:(j:Int)<pl.length:=by omega
    have hx:=b4 _ (rd_mem hj')
    have hcons:=plsG_cons putG f t false hj' ⟨size2,minus2,since2,now',l1,kind',nst',band',w'⟩ e2
    rw[hp2]at hcons
    obtain⟨x,hxx⟩:∃ x,rd pl (j:Int)=x:=⟨_,rfl⟩
    rw[hxx]at hx hcons
    have a1:=numG_same putG ⟨size2,minus2,since2,now',l1,kind',nst',band',w'⟩ e2 x t false (digP f x t) (decide (rd f x<0))
    have a2:=numG_sz putG e2 false (digP f x t) (decide (rd f x<0)) hz2 hx.1 (by simp only;omega) h7 h8
    obtain⟨a3,a4⟩:=numE_aft ⟨size2,minus2,since2,now',l1,kind',nst',band',w'⟩ x t false (digP f x t) (decide (rd f x<0)) haft2.1 (by have:=haft2.2.2.1;omega)
    rw[if_pos a4]at hcons
    have hnuR:∀ L1 L2 L3 L4,nuR ⟨p,⟨size2,minus2,since2,now',l1,kind',nst',band',w'⟩,L,LS,M2,LX,e2,L1,L2,L3,L4,F,f,x,t,false⟩=numG putG ⟨size2,minus2,since2,now',l1,kind',nst',band',w'⟩ e2 x t false (digP f x t) (decide (rd f x<0)):=fun _ _ _ _=>rfl
    have hnu:nuOk ⟨size2,minus2,since2,now',l1,kind',nst',band',w'⟩ e2 f x t:=⟨by rw[q3];exact hwf2,hz2,haft2.1,by have:=haft2.2.2.1;omega,by have:=haft2.2.1;omega,by rw[q3];exact h6,hx.1,by rw[q3];exact hx.2,h7,h8⟩
    obtain⟨N,hN⟩:∃ N,numG putG ⟨size2,minus2,since2,now',l1,kind',nst',band',w'⟩ e2 x t false (digP f x t) (decide (rd f x<0))=N:=⟨_,rfl⟩
    rw[hN]at hcons a1 a2 a3
    simp only[hN]at hnuR
    obtain⟨⟨size3,minus3,since3,now3,list3,kind3,nst3,band3,w3⟩,e3,er3⟩:=N
    obtain⟨rfl,rfl,rfl,rfl,rfl,rfl⟩:now'=now3/\l1=list3/\kind'=kind3/\nst'=nst3/\band'=band3/\w'=w3:=⟨a1.2.2.2.1.symm,a1.2.2.2.2.1.symm,a1.2.2.2.2.2.1.symm,a1.2.2.2.2.2.2.1.symm,a1.2.2.2.2.2.2.2.1.symm,a1.2.2.2.2.2.2.2.2.symm⟩
    have q5:size3.length=n:=a1.1.trans q1
    have q6:minus3.length=n:=a1.2.1.trans q2
    have q7:since3.length=n:=a1.2.2.1.trans q3
    have q8:(e3.st.length:Int)=e2.st.length:=by rw[a3.2.2.1]
    clear hK
    simp -implicitDefEqProofs only[push_cast,zz,seval,b13_2,stM,stV,enV,ivV,hji,hxx,fs37,fs42E,nuM,rk1,Bck.rc,hml1,q1,q2,q3,q5,q6,q7,q8,p1,p2,p3,o4,hsetl,he4',Int.toNat_natCast,hnu,hnuR]
    repeat refine om_ ?_
    intro X2
    repeat refine om_ ?_
    intro X3
    repeat refine om_ ?_
    refine hK2 (j+1,⟨size3,minus3,since3,now',l1,kind',nst',band',w'⟩,e3,X3 12 39) ⟨show j+1<=pl.length by omega,hcons.symm,a1.trans hsame,a2,(haft2.trans a3).mono (by omega)⟩ (show pl.length-(j+1)<pl.length-j by omega) _ _ (Sub.of (mkG 43 [(0,0),(1,1),(2,2),(3,3),(4,4),(6,6),(7,7),(8,8),(9,39),(10,10),(11,11),(20,20),(21,21),(22,22),(23,23),(24,24),(33,33)]) ?_)
    simp -implicitDefEqProofs only[push_cast,zz,seval,enV,ivV,q1,q2,q3,q5,q6,q7,q8,he4']
   ·obtain rfl:j=pl.length:=by omega
    rw[List.drop_length,plsG]at hp2
    subst hp2
    simp only at hsl hbi
    clear hK2
    simp -implicitDefEqProofs only[push_cast,zz,seval,b13_2,r13_3,Int.lt_irrefl]
    repeat refine om_ ?_
    refine hK (i+1,⟨size2,minus2,since2,now',l1,kind',nst',band',w'⟩,e2,M2) ⟨show i+1<=m by omega,hsl,hbi.1.trans hsim,hbi.2.1,(haft.trans hbi.2.2.1).mono (by omega)⟩ (show m-(i+1)<m-i by omega) _ _ (Sub.pt ?_)
    simp -implicitDefEqProofs only[push_cast,zz,seval,enV,ivV,q1,q2,q3,p1,p2,p3,he4']
  ·have hall':¬ allP ⟨size,minus,since,now',l1,kind',nst',band',w'⟩ pl=true:=hall
   have hbN:=hbN hall
   have hcb:=bctxP_bd ⟨size,minus,since,now',l1,kind',nst',band',w'⟩ ⟨pl,bw,q⟩
   have hputA:=putAft haft.1 he12 hcb V
   have hV':onP ⟨size,minus,since,now',l1,kind',nst',band',w'⟩ pl f t=V:=hV
   obtain⟨c,hcc⟩:∃ c,bctxP ⟨size,minus,since,now',l1,kind',nst',band',w'⟩ ⟨pl,bw,q⟩=c:=⟨_,rfl⟩
   rw[hcc]at hbN hcb hputA
   obtain⟨e1,he1⟩:∃ e1,putP e c (b2i V)=e1:=⟨_,rfl⟩
   rw[he1]at hbN hputA
   have haftN:enAft e e1 (4+8*0):=hputA
   have hok:e.ok:=haft.1
   have he1l:(e1.st.length:Int)=e.st.length:=by rw[hputA.2.2.1]
   have hkat1:rdBk l1 i=⟨L',⟨pl,bw,q⟩,false⟩:=by rw[<-hl1];exact hkat
   have honwf:onWf ⟨size,minus,since,now',l1,kind',nst',band',w'⟩ pl f t:=⟨by simp only[p3];exact hwf1,by simp only[p3];exact h6,hbki.2.2.1,by simp only[p3];exact hbki.2.2.2,h7,by omega⟩
   obtain⟨l2,hl2⟩:∃ l,onBk list i V=l:=⟨_,rfl⟩
   have hset1:=hset1 V
   rw[hl2]at hset1 hbN
   have hsetl2:l2.length=m:=by rw[<-hl2,onBk_len,hlm]
   have hml2:(l2.map Bck.rc).length=m:=by rw[List.length_map,hsetl2]
   have hkat2:rdBk l2 i=⟨L',⟨pl,bw,q⟩,V⟩:=by
    rw[<-hl2,onBk_at (by omega),hbk]
   have rk2:=recAt_Bk (l:=l2) (i:=i) (by omega) []
   rw[hkat2]at rk2
   have hwf2:=setOn_wf (s:=⟨size,minus,since,now',list,kind',nst',band',w'⟩) (b:=V) (show i<list.length by omega) hwf
   simp only[setOn,hl2]at hwf2
   simp -implicitDefEqProofs only[push_cast,zz,seval,b13_1,stM,stV,enV,ivV,hii,rk,rk1,Bck.rc,hset0,hmapl,hml1,he4',Int.toNat_natCast,fs39,Bck.sv,p1,p2,p3,o4,hsetl,hwf1,bkWf,hbki,hall',fs14,WE.mem,WE.fn,WE.val,WE.wf,WE.top,hkat1,hV',hcc,he1,honwf,hok,hset1,he1l,rk2,hml2]
   intro X1
   repeat refine om_ ?_
   intro X4
   repeat refine om_ ?_
   refine evS_loopU (A:=Nat×StS×EnS×Xf.Loc) kp13_2 kl13_2 (fun y=>[(65,.int .i64 y.1)])
    (fun y=>[(1,.lent,p.Z,.ints .i64 y.2.1.size),(2,.lent,p.M,.bools y.2.1.minus),(3,.lent,p.I,.ints .i64 y.2.1.since),(7,.lent,L,.cells (relabs (fun i=>i+7) (enV LS y.2.2.1 22 y.2.2.2))),(8,.lent,LS,.ints .i64 y.2.2.1.st),(29,.got,y.2.2.2,.ints .u8 y.2.2.1.out)])
    (fun y=>y.1<=pl.length/\plsG putG f t V (pl.drop y.1) y.2.1 y.2.2.1=B/\sameS y.2.1 ⟨size,minus,since,now',l2,kind',nst',band',w'⟩/\szWf y.2.1/\enAft e y.2.2.1 (4+8*y.1)) (fun y=>pl.length-y.1) (0,⟨size,minus,since,now',l2,kind',nst',band',w'⟩,e1,(X4 3 29)) ⟨Nat.zero_le _,hbN.symm,sameS.refl _,hz,haftN⟩ (Sub.pt ?_) ?_
   ·simp -implicitDefEqProofs only[push_cast,zz,seval,enV,ivV,p1,p2,p3,he4',he1l]
   intro ⟨j,s2,e2,M2⟩ ⟨(hj:j<=pl.length),(hp2:plsG putG f t V (pl.drop j) s2 e2=B),(hsame:sameS s2 _),(hz2:szWf s2),(haft2:enAft e e2 (4+8*j))⟩ K2 hK2
   have hwf2:stWf s2 n:=hsame.wf (by first | exact hwf1 | exact hwf2)
   obtain⟨size2,minus2,since2,now2,list2,kind2,nst2,band2,w2⟩:=s2
   obtain⟨rfl,rfl,rfl,rfl,rfl,rfl⟩:now'=now2/\l2=list2/\kind'=kind2/\nst'=nst2/\band'=band2/\w'=w2:=⟨hsame.2.2.2.1.symm,hsame.2.2.2.2.1.symm,hsame.2.2.2.2.2.1.symm,hsame.2.2.2.2.2.2.1.symm,hsame.2.2.2.2.2.2.2.1.symm,hsame.2.2.2.2.2.2.2.2.symm⟩
   have q1:size2.length=n:=hwf2.1
   have q2:minus2.length=n:=hwf2.2.1
   have q3:since2.length=n:=hwf2.2.2.1
   by_cases hj':j<pl.length
   ·have hji:(j:Int)<pl.length:=by omega
    have hx:=b4 _ (rd_mem hj')
    have hcons:=plsG_cons putG f t V hj' ⟨size2,minus2,since2,now',l2,kind',nst',band',w'⟩ e2
    rw[hp2]at hcons
    obtain⟨x,hxx⟩:∃ x,rd pl (j:Int)=x:=⟨_,rfl⟩
    rw[hxx]at hx hcons
    have a1:=numG_same putG ⟨size2,minus2,since2,now',l2,kind',nst',band',w'⟩ e2 x t V (digP f x t) (decide (rd f x<0))
    have a2:=numG_sz putG e2 V (digP f x t) (decide (rd f x<0)) hz2 hx.1 (by simp only;omega) h7 h8
    obtain⟨a3,a4⟩:=numE_aft ⟨size2,minus2,since2,now',l2,kind',nst',band',w'⟩ x t V (digP f x t) (decide (rd f x<0)) haft2.1 (by have:=haft2.2.2.1;omega)
    rw[if_pos a4]at hcons
    have hnuR:∀ L1 L2 L3 L4,nuR ⟨p,⟨size2,minus2,since2,now',l2,kind',nst',band',w'⟩,L,LS,M2,LX,e2,L1,L2,L3,L4,F,f,x,t,V⟩=numG putG ⟨size2,minus2,since2,now',l2,kind',nst',band',w'⟩ e2 x t V (digP f x t) (decide (rd f x<0)):=fun _ _ _ _=>rfl
    have hnu:nuOk ⟨size2,minus2,since2,now',l2,kind',nst',band',w'⟩ e2 f x t:=⟨by rw[q3];exact hwf2,hz2,haft2.1,by have:=haft2.2.2.1;omega,by have:=haft2.2.1;omega,by rw[q3];exact h6,hx.1,by rw[q3];exact hx.2,h7,h8⟩
    obtain⟨N,hN⟩:∃ N,numG putG ⟨size2,minus2,since2,now',l2,kind',nst',band',w'⟩ e2 x t V (digP f x t) (decide (rd f x<0))=N:=⟨_,rfl⟩
    rw[hN]at hcons a1 a2 a3
    simp only[hN]at hnuR
    obtain⟨⟨size3,minus3,since3,now3,list3,kind3,nst3,band3,w3⟩,e3,er3⟩:=N
    obtain⟨rfl,rfl,rfl,rfl,rfl,rfl⟩:now'=now3/\l2=list3/\kind'=kind3/\nst'=nst3/\band'=band3/\w'=w3:=⟨a1.2.2.2.1.symm,a1.2.2.2.2.1.symm,a1.2.2.2.2.2.1.symm,a1.2.2.2.2.2.2.1.symm,a1.2.2.2.2.2.2.2.1.symm,a1.2.2.2.2.2.2.2.2.symm⟩
    have q5:size3.length=n:=a1.1.trans q1
    have q6:minus3.length=n:=a1.2.1.trans q2
    have q7:since3.length=n:=a1.2.2.1.trans q3
    have q8:(e3.st.length:Int)=e2.st.length:=by rw[a3.2.2.1]
    clear hK
    simp -implicitDefEqProofs only[push_cast,zz,seval,b13_2,stM,stV,enV,ivV,hji,hxx,fs37,fs42E,nuM,rk2,Bck.rc,hml2,q1,q2,q3,q5,q6,q7,q8,p1,p2,p3,o4,hsetl2,he4',Int.toNat_natCast,hnu,hnuR]
    repeat refine om_ ?_
    intro X2
    repeat refine om_ ?_
    intro X3
    repeat refine om_ ?_
    refine hK2 (j+1,⟨size3,minus3,since3,now',l2,kind',nst',band',w'⟩,e3,X3 12 39) ⟨show j+1<=pl.length by omega,hcons.symm,a1.trans hsame,a2,(haft2.trans a3).mono (by omega)⟩ (show pl.length-(j+1)<pl.length-j by omega) _ _ (Sub.of (mkG 43 [(0,0),(1,1),(2,2),(3,3),(4,4),(6,6),(7,7),(8,8),(29,39),(10,10),(11,11),(20,20),(21,21),(22,22),(23,23),(24,24),(33,33)]) ?_)
    simp -implicitDefEqProofs only[push_cast,zz,seval,enV,ivV,q1,q2,q3,q5,q6,q7,q8,he4']
   ·obtain rfl:j=pl.length:=by omega
    rw[List.drop_length,plsG]at hp2
    subst hp2
    simp only at hsl hbi
    clear hK2
    simp -implicitDefEqProofs only[push_cast,zz,seval,b13_2,r13_3,Int.lt_irrefl]
    repeat refine om_ ?_
    refine hK (i+1,⟨size2,minus2,since2,now',l2,kind',nst',band',w'⟩,e2,M2) ⟨show i+1<=m by omega,hsl,hbi.1.trans hsim,hbi.2.1,(haft.trans hbi.2.2.1).mono (by omega)⟩ (show m-(i+1)<m-i by omega) _ _ (Sub.of (mkG 43 [(0,0),(1,1),(2,2),(3,3),(4,4),(6,6),(7,7),(8,8),(9,29),(10,10),(11,11),(20,20),(21,21),(22,22)]) ?_)
    simp -implicitDefEqProofs only[push_cast,zz,seval,enV,ivV,q1,q2,q3,p1,p2,p3,he4']
 ·obtain rfl:i=m:=by omega
  have hii:¬ (i:Int)<i:=by omega
  rw[Nat.sub_self,slcG]at hs
  subst hs
  have ho6:now'<=1000:=o7
  clear hK
  simp -implicitDefEqProofs only[push_cast,zz,seval,b13_1,r13_4,Int.lt_irrefl,enV,ivV]
  repeat refine om_ ?_
  refine postF.mk' (fun _=>M) [some 0,some 1,some 2,some 3,some 4,none,some 6,some 7,some 8,none,some 10,some 11,some 9] ?_
  simp -implicitDefEqProofs only[push_cast,zz,seval,fs13E,slM,stV,enV,ivV,hR,p1,p2,p3,o1,o2,o3,o4,hm,hlm]
def ent13E:Entry:=spOf fs13E invSl
theorem e13E:EntryOk Tryz.prog 13 ent13E:=entry_of ok13E invSl
@[push_cast] theorem ent13E_app (us:List SV) (look:Look) (x:Nat->Xf.Loc) (k:Nat):ent13E us look x k=spOf fs13E invSl us look x k:=rfl
theorem numG_get (s:StS) (d:DeS) (i t:Int) (on dig neg:Bool):numG getG s d i t on dig neg=numG getG s d i t on false false:=rfl
structure SqA where
 p:StL
 s:StS
 L:Xf.Loc
 LS:Xf.Loc
 LC:Xf.Loc
 LX:Xf.Loc
 d:DeS
 F:Xf.Loc
 f:List Int
 t:Int
def sqM (a:SqA):Mem:=[some (.lent,a.p.L,.cells (stV a.p a.s)),some (.lent,a.p.Z,.ints .i64 a.s.size),some (.lent,a.p.M,.bools a.s.minus),some (.lent,a.p.I,.ints .i64 a.s.since),some (.lent,a.p.K,.recs 4 false [] (a.s.list.map Bck.rc)),none,some (.ro,a.p.B,.ints .i64 a.s.band),
 some (.lent,a.L,.cells (relabs (fun i=>i+7) (deV a.LS a.d a.LC))),some (.lent,a.LS,.ints .i64 a.d.st),some (.ro,a.LC,.ints .u8 a.d.code),some (.ro,a.LX,.cells [.ptr 7 a.L 0 0 0]),some (.ro,a.F,.ints .i64 a.f)]
def sqR (a:SqA):StS×DeS×Int:=slcG getG a.f a.t a.s.list.length 0 a.s a.d
def invSq:List SV->Look->Option (SqA×List Nat)
 | [.ptr c _ 0 0 0,.int .i64 t,.sl y _ 1 0 _,.fn _ [.ptr x _ 0 0 0]],look=>match invSt look c,rowC (look x),rowI (look y)with
  | some (p,s,g),some (LX,[.ptr k _ 0 0 0]),some (F,.i64,f)=>match invDe [.ptr k nilLoc 0 0 0] look with
   | some (⟨L,LS,LC,d,_⟩,h)=>some (⟨p,s,L,LS,LC,LX,d,F,f,t⟩,g++(h++[x,y]))
   | _=>none
  | _,_,_=>none
 | _,_=>none
attribute [push_cast] invSq
def sqOk (s:StS) (d:DeS) (f:List Int) (t:Int):Prop:=stWf s s.since.length/\szWf s/\d.ok/\d.st.length=12/\ofWf f s.since.length/\0<=t/\t<=30
def fs13D:FS where
 A:=SqA
 args:=fun a=>[.ptr 0 a.p.L 0 0 0,.int .i64 a.t,.sl 11 a.F 1 0 a.f.length,.fn 64 [.ptr 10 a.LX 0 0 0]]
 mem:=sqM
 pre:=fun a=>sqOk a.s a.d a.f a.t
 res:=fun a _=>.int .i64 (sqR a).2.2
 out:=fun a x=>[some (some (.cells (stV a.p (sqR a).1))),some (some (.ints .i64 (sqR a).1.size)),some (some (.bools (sqR a).1.minus)),some (some (.ints .i64 (sqR a).1.since)),some (some (.recs 4 false [] ((sqR a).1.list.map Bck.rc))),none,none,some (some (.cells (relabs (fun i=>i+7) (deV a.LS (sqR a).2.1 a.LC)))),some (some (.ints .i64 (sqR a).2.1.st))]
 new:=fun _ _=>[]
theorem plsD_inv (f:List Int) (t:Int) (t0:0<=t) (t1:t<=30) (on:Bool):∀ (l:List Int) (s:StS) (d:DeS) (n:Nat),stWf s n->szWf s->d.ok->d.st.length=12->(∀ x∈l,0<=x/\x<n) ->
  sameS (plsG getG f t on l s d).1 s/\szWf (plsG getG f t on l s d).1/\deAft d (plsG getG f t on l s d).2.1
 | [],s,e,n,hs,hz,he,h12,hl=>⟨sameS.refl s,hz,he,rfl,rfl,rfl⟩
 | i::l,s,e,n,hs,hz,he,h12,hl=>by
  have hi:=hl i List.mem_cons_self
  have h1:=numG_same getG s e i t on (digP f i t) (decide (rd f i<0))
  have h2:=numG_sz getG e on (digP f i t) (decide (rd f i<0)) hz hi.1 (by have:=hs.1;omega) t0 t1
  have h3:=numD_aft s i t on (digP f i t) (decide (rd f i<0)) he h12
  rw[plsG]
  split
  ·obtain⟨k1,k2,k3⟩:=plsD_inv f t t0 t1 on l _ _ n (h1.wf hs) h2 h3.1 (by rw[h3.2.1,h12]) (fun x hx=>hl x (List.mem_cons_of_mem _ hx))
   exact⟨k1.trans h1,k2,h3.trans k3⟩
  ·exact⟨h1,h2,h3⟩
theorem bktG_get (f:List Int) (t:Int) (i:Nat) (s:StS) (d:DeS):bktG getG f t i s d=if allP s (rdBk s.list i).b.places=true then plsG getG f t false (rdBk s.list i).b.places (setOn s i false) d
 else if gotE d (bctxP (setOn s i false) (rdBk s.list i).b)=0 then
  plsG getG f t (decide (gotB d (bctxP (setOn s i false) (rdBk s.list i).b)=1)) (rdBk s.list i).b.places (setOn s i (decide (gotB d (bctxP (setOn s i false) (rdBk s.list i).b)=1))) (gotS d (bctxP (setOn s i false) (rdBk s.list i).b))
 else (setOn s i false,gotS d (bctxP (setOn s i false) (rdBk s.list i).b),gotE d (bctxP (setOn s i false) (rdBk s.list i).b)):=rfl
theorem bktD_inv (f:List Int) (t:Int) (t0:0<=t) (t1:t<=30) (i:Nat) (s:StS) (d:DeS) (n:Nat) (hs:stWf s n) (hz:szWf s) (he:d.ok) (h12:d.st.length=12) (hi:i<s.list.length) :
  simS (bktG getG f t i s d).1 s/\szWf (bktG getG f t i s d).1/\deAft d (bktG getG f t i s d).2.1:=by
 obtain⟨b1,b2,b3,b4⟩:=hs.2.2.2.2.2.2.2.2.2.2 _ (by rw[rdBk_nat hi];exact List.getElem_mem hi:rdBk s.list i∈s.list)
 rw[bktG_get]
 split
 ·obtain⟨k1,k2,k3⟩:=plsD_inv f t t0 t1 false (rdBk s.list i).b.places (setOn s i false) d n (setOn_wf hi hs) hz he h12 b4
  exact⟨simS.same k1 ((simS.refl s).on hi false),k2,k3⟩
 ·have hp:=gotAft he h12 (bctxP_bd (setOn s i false) (rdBk s.list i).b)
  split
  ·obtain⟨k1,k2,k3⟩:=plsD_inv f t t0 t1 (decide (gotB d (bctxP (setOn s i false) (rdBk s.list i).b)=1)) (rdBk s.list i).b.places (setOn s i (decide (gotB d (bctxP (setOn s i false) (rdBk s.list i).b)=1))) _ n (setOn_wf hi hs) hz hp.1 (by rw[hp.2.1,h12]) b4
   exact⟨simS.same k1 ((simS.refl s).on hi _),k2,hp.trans k3⟩
  ·exact⟨(simS.refl s).on hi _,hz,hp⟩
theorem slcD_inv (f:List Int) (t:Int) (t0:0<=t) (t1:t<=30) (n:Nat):∀ (k i:Nat) (s:StS) (d:DeS),stWf s n->szWf s->d.ok->d.st.length=12->i+k=s.list.length ->
  ((slcG getG f t k i s d).2.2=0->simS (slcG getG f t k i s d).1 { s with now:=s.now+1 })/\szWf (slcG getG f t k i s d).1/\deAft d (slcG getG f t k i s d).2.1
 | 0,i,s,d,hs,hz,he,h12,hik=>⟨fun _=>simS.refl _,hz,he,rfl,rfl,rfl⟩
 | k+1,i,s,d,hs,hz,he,h12,hik=>by
  obtain⟨k1,k2,k3⟩:=bktD_inv f t t0 t1 i s d n hs hz he h12 (by omega)
  rw[slcG]
  split
  ·obtain⟨j1,j2,j3⟩:=slcD_inv f t t0 t1 n k (i+1) _ _ (k1.wf hs) k2 k3.1 (by rw[k3.2.1,h12]) (by rw[k1.2.2.2.2.1.len];omega)
   refine⟨fun h=>(j1 h).trans ?_,j2,k3.trans j3⟩
   obtain⟨h1,h2,h3,h4,h5,h6,h7,h8,h9⟩:=k1
   exact⟨h1,h2,h3,by simp only;rw[h4],h5,h6,h7,h8,h9⟩
  ·rename_i hne
   exact⟨fun h=>absurd h hne,k2,k3⟩
theorem slD_len (f:List Int) (t:Int):∀ (k i:Nat) (s:StS) (d:DeS),(slcG getG f t k i s d).2.1.code=d.code:=by
 have hp:∀ on l s d,(plsG getG f t on l s d).2.1.code=d.code:=fun on l=>by
  induction l with
  | nil=>intro s d;rfl
  | cons i l ih=>
   intro s d
   have:=(numD_len s d i t on (digP f i t) (decide (rd f i<0))).2
   rw[plsG]
   split
   ·rw[ih,this]
   ·exact this
 intro k
 induction k with
 | zero=>intro i s d;rfl
 | succ k ih=>
  intro i s d
  have hb:(bktG getG f t i s d).2.1.code=d.code:=by
   rw[bktG_get]
   split
   ·rw[hp]
   ·split
    ·rw[hp,(gotS_len _ _).2.1]
    ·exact(gotS_len _ _).2.1
  rw[slcG]
  split
  ·rw[ih,hb]
  ·exact hb
theorem slD_rows (a:SqA) (x:Nat->Xf.Loc):rowsOk fs13D a x:=by
 have k1:=slcG_k getG a.f a.t a.s.list.length 0 a.s a.d
 refine .inr ⟨fun j L ch h=>.inl ?_,fun c ch h=>?_⟩
 ·simp[fs13D]at h
 ·rcases c with _ | _ | _ | _ | _ | _ | _ | _ | _ | c
  all_goals simp[fs13D,lk]at h
  all_goals subst h
  ·exact .inl rfl
  ·exact .inl rfl
  ·exact .inl rfl
  ·exact .inl rfl
  ·exact .inr fun y hy=>.inr ⟨_,rfl,rows_sameK k1 hy⟩
  ·exact .inl rfl
  ·exact .inl rfl
set_option maxHeartbeats 4000000 in
theorem ok13D:FSOk Tryz.prog 13 fs13D:=by
 refine⟨⟨_,Tryz.func13,by kernel_rfl,by kernel_rfl⟩,fun a=>⟨by simp[fs13D,sqM,push_cast,noMine,argOwn,Chunk.frArg],by simp[fs13D,sqM,sqR,slD_len,stV,deV,deT,ivV,push_cast,outOk,Chunk.ext],fun x=>slD_rows a x⟩,fun a hp=>?_⟩
 obtain⟨p,s0,L,LS,LC,LX,d0,F,f,t⟩:=a
 obtain⟨h1,h2,h3,h4,h6,h7,h8⟩:sqOk s0 d0 f t:=hp
 obtain⟨n,hn⟩:∃ n,s0.since.length=n:=⟨_,rfl⟩
 rw[hn]at h1 h6
 have hfl:=h6.1
 have hR0:sqR ⟨p,s0,L,LS,LC,LX,d0,F,f,t⟩=slcG getG f t s0.list.length 0 s0 d0:=rfl
 obtain⟨R,hR⟩:∃ R,sqR ⟨p,s0,L,LS,LC,LX,d0,F,f,t⟩=R:=⟨_,rfl⟩
 rw[hR]at hR0
 obtain⟨size0,minus0,since0,now,list0,kind,nst,band,w⟩:=s0
 obtain⟨dk0,dst0,dlo0,dhi0,code,dat0,dvv0,dbe0,den0⟩:=d0
 obtain⟨o1,o2,o3,o4,o5,o6,o7,o8,o9,o10,o11⟩:=id h1
 simp only at o1 o2 o3 o4 o5 o6 o7 o8 o9 o10 o11 hR0 h4
 obtain⟨m,hm⟩:∃ m,list0.length=m:=⟨_,rfl⟩
 rw[hm]at hR0
 have hb64:=bits_i64
 change Tri Tryz.prog 13 [.ptr 0 p.L 0 0 0,.int .i64 t,.sl 11 F 1 0 f.length,.fn 64 [.ptr 10 LX 0 0 0]] (sqM ⟨p,⟨size0,minus0,since0,now,list0,kind,nst,band,w⟩,L,LS,LC,LX,⟨dk0,dst0,dlo0,dhi0,code,dat0,dvv0,dbe0,den0⟩,F,f,t⟩) (postF fs13D ⟨p,⟨size0,minus0,since0,now,list0,kind,nst,band,w⟩,L,LS,LC,LX,⟨dk0,dst0,dlo0,dhi0,code,dat0,dvv0,dbe0,den0⟩,F,f,t⟩)
 refine tri_evS (hyp (l:=[(37,ent37),(39,ent39),(64,ent64),(42,ent42D)]) (lp:=[]) ⟨e37,e39,e64,e42D,trivial⟩ trivial) Tryz.func13 comp13 (rs:=[.tmp 8]) (by rfl) Tryz.ntmps13 43 ?_
 have he4:(k:Nat)->k<m->esz 4 m=4:=fun k hk=>esz_pos (by omega)
 simp -implicitDefEqProofs only[push_cast,zz,seval,ir13,sqM,stV,deV,deT,ivV,o1,o2,o3,o4,h4,hm]
 intro X
 refine evS_loopU (A:=Nat×StS×DeS) kp13_1 kl13_1 (fun y=>[(25,.int .i64 y.1)])
  (fun y=>[(1,.lent,p.Z,.ints .i64 y.2.1.size),(2,.lent,p.M,.bools y.2.1.minus),(3,.lent,p.I,.ints .i64 y.2.1.since),(4,.lent,p.K,.recs 4 false [] (y.2.1.list.map Bck.rc)),(7,.lent,L,.cells (relabs (fun i=>i+7) (deV LS y.2.2 LC))),(8,.lent,LS,.ints .i64 y.2.2.st)])
  (fun y=>y.1<=m/\slcG getG f t (m-y.1) y.1 y.2.1 y.2.2=R/\simS y.2.1 ⟨size0,minus0,since0,now,list0,kind,nst,band,w⟩/\szWf y.2.1/\deAft ⟨dk0,dst0,dlo0,dhi0,code,dat0,dvv0,dbe0,den0⟩ y.2.2) (fun y=>m-y.1) (0,⟨size0,minus0,since0,now,list0,kind,nst,band,w⟩,⟨dk0,dst0,dlo0,dhi0,code,dat0,dvv0,dbe0,den0⟩) ⟨Nat.zero_le _,hR0.symm,simS.refl _,h2,h3,rfl,rfl,rfl⟩ (Sub.pt ?_) ?_
 ·simp -implicitDefEqProofs only[push_cast,zz,seval,deV,deT,ivV,o1,o2,o3,o4,hm,h4]
 intro ⟨i,s,d⟩ ⟨(hi:i<=m),(hs:slcG getG f t (m-i) i s d=R),(hsim:simS s _),(hz:szWf s),(haft:deAft _ d)⟩ K hK
 have hwf:=hsim.wf h1
 obtain⟨size,minus,since,now',list,kind',nst',band',w'⟩:=s
 obtain⟨rfl,rfl,rfl,rfl,rfl⟩:now'=now/\kind'=kind/\nst'=nst/\band'=band/\w'=w:=⟨hsim.2.2.2.1,hsim.2.2.2.2.2⟩
 have hlm:list.length=m:=by rw[<-hm];exact hsim.2.2.2.2.1.len
 obtain⟨dk,dst,dlo,dhi,code',dat,dvv,dbe,den⟩:=d
 obtain rfl:code=code':=haft.2.2.2.symm
 have hdst:dst.length=12:=haft.2.1.trans h4
 obtain⟨p1,p2,p3,p4,p5,p6,p7,p8,p9,p10,p11⟩:=id hwf
 simp only at p1 p2 p3 p8 p9 p11
 have ho8:m<=50000:=by omega
 by_cases hi':i<m
 ·have hii:(i:Int)<m:=by omega
  have he4':=he4 i hi'
  have rk:=recAt_Bk (l:=list) (i:=i) (by omega) []
  have hmapl:(list.map Bck.rc).length=m:=by rw[List.length_map,hlm]
  have hset0:=(onBk_rc (l:=list) (i:=i) false).symm
  have hsetl:(onBk list i false).length=m:=by rw[onBk_len,hlm]
  have hkat:=onBk_at (l:=list) (i:=i) (by omega) false
  have rk1:=recAt_Bk (l:=onBk list i false) (i:=i) (by omega) []
  have hset1:=fun v=>(onBk_rc (l:=onBk list i false) (i:=i) v).symm.trans (by rw[onBk_on (by omega)])
  have hwf1:=setOn_wf (s:=⟨size,minus,since,now',list,kind',nst',band',w'⟩) (b:=false) (show i<list.length by omega) hwf
  have hbki:=p11 _ (by rw[rdBk_nat (show i<list.length by omega)];exact List.getElem_mem _:rdBk list i∈list)
  simp only[setOn]at hwf1
  obtain⟨⟨L',⟨pl,bw,q⟩,on'⟩,hbk⟩:∃ b,rdBk list i=b:=⟨_,rfl⟩
  rw[hbk]at rk hset0 hkat hbki
  rw[hkat]at rk1 hset1
  simp only at hbki
  obtain⟨l1,hl1⟩:∃ l,onBk list i false=l:=⟨_,rfl⟩
  obtain⟨B,hB⟩:∃ B,bktG getG f t i ⟨size,minus,since,now',list,kind',nst',band',w'⟩ ⟨dk,dst,dlo,dhi,code,dat,dvv,dbe,den⟩=B:=⟨_,rfl⟩
  have hbg:=bktG_get f t i ⟨size,minus,since,now',list,kind',nst',band',w'⟩ ⟨dk,dst,dlo,dhi,code,dat,dvv,dbe,den⟩
  simp only[hbk,hB,setOn,hl1]at hbg
  rw[hl1]at hset0 hsetl rk1 hset1 hwf1
  have hbi:=bktD_inv f t h7 h8 i ⟨size,minus,since,now',list,kind',nst',band',w'⟩ ⟨dk,dst,dlo,dhi,code,dat,dvv,dbe,den⟩ n hwf hz haft.1 hdst (by simp only;omega)
  rw[show m-i=(m-(i+1))+1 by omega,slcG,hB]at hs
  rw[hB]at hbi
  have b4:=hbki.2.2.2
  have hml1:(l1.map Bck.rc).length=m:=by rw[List.length_map,hsetl]
  by_cases hall:allP ⟨size,minus,since,now',list,kind',nst',band',w'⟩ pl=true
  ·have hall':allP ⟨size,minus,since,now',l1,kind',nst',band',w'⟩ pl=true:=hall
   rw[if_pos hall]at hbg
   simp -implicitDefEqProofs only[push_cast,zz,seval,b13_1,stM,stV,deV,deT,ivV,hii,rk,rk1,Bck.rc,hset0,hmapl,hml1,he4',Int.toNat_natCast,fs39,Bck.sv,p1,p2,p3,o4,hsetl,hdst,hwf1,bkWf,hbki,hall']
   intro X1
   repeat refine om_ ?_
   refine evS_loopU (A:=Nat×StS×DeS) kp13_2 kl13_2 (fun y=>[(65,.int .i64 y.1)])
    (fun y=>[(1,.lent,p.Z,.ints .i64 y.2.1.size),(2,.lent,p.M,.bools y.2.1.minus),(3,.lent,p.I,.ints .i64 y.2.1.since),(7,.lent,L,.cells (relabs (fun i=>i+7) (deV LS y.2.2 LC))),(8,.lent,LS,.ints .i64 y.2.2.st)])
    (fun y=>y.1<=pl.length/\plsG getG f t false (pl.drop y.1) y.2.1 y.2.2=B/\sameS y.2.1 ⟨size,minus,since,now',l1,kind',nst',band',w'⟩/\szWf y.2.1/\deAft ⟨dk,dst,dlo,dhi,code,dat,dvv,dbe,den⟩ y.2.2) (fun y=>pl.length-y.1) (0,⟨size,minus,since,now',l1,kind',nst',band',w'⟩,⟨dk,dst,dlo,dhi,code,dat,dvv,dbe,den⟩) ⟨Nat.zero_le _,hbg.symm,sameS.refl _,hz,⟨haft.1,rfl,rfl,rfl⟩⟩ (Sub.pt ?_) ?_
   ·simp -implicitDefEqProofs only[push_cast,zz,seval,deV,deT,ivV,p1,p2,p3,he4',hdst]
   intro ⟨j,s2,d2⟩ ⟨(hj:j<=pl.length),(hp2:plsG getG f t false (pl.drop j) s2 d2=B),(hsame:sameS s2 _),(hz2:szWf s2),(haft2:deAft ⟨dk,dst,dlo,dhi,code,dat,dvv,dbe,den⟩ d2)⟩ K2 hK2
   have hwf2:stWf s2 n:=hsame.wf (by first | exact hwf1 | exact hwf2)
   obtain⟨size2,minus2,since2,now2,list2,kind2,nst2,band2,w2⟩:=s2
   obtain⟨rfl,rfl,rfl,rfl,rfl,rfl⟩:now'=now2/\l1=list2/\kind'=kind2/\nst'=nst2/\band'=band2/\w'=w2:=⟨hsame.2.2.2.1.symm,hsame.2.2.2.2.1.symm,hsame.2.2.2.2.2.1.symm,hsame.2.2.2.2.2.2.1.symm,hsame.2.2.2.2.2.2.2.1.symm,hsame.2.2.2.2.2.2.2.2.symm⟩
   obtain⟨dk2,dst2,dlo2,dhi2,code2,dat2,dvv2,dbe2,den2⟩:=d2
   obtain rfl:code=code2:=haft2.2.2.2.symm
   have hdst2:dst2.length=12:=haft2.2.1.trans hdst
   have q1:size2.length=n:=hwf2.1
   have q2:minus2.length=n:=hwf2.2.1
   have q3:since2.length=n:=hwf2.2.2.1
   by_cases hj':j<pl.length
   ·have hji:(j:Int)<pl.length:=by omega
    have hx:=b4 _ (rd_mem hj')
    have hcons:=plsG_cons getG f t false hj' ⟨size2,minus2,since2,now',l1,kind',nst',band',w'⟩ ⟨dk2,dst2,dlo2,dhi2,code,dat2,dvv2,dbe2,den2⟩
    rw[hp2]at hcons
    obtain⟨x,hxx⟩:∃ x,rd pl (j:Int)=x:=⟨_,rfl⟩
    rw[hxx]at hx hcons
    rw[numG_get]at hcons
    have a1:=numG_same getG ⟨size2,minus2,since2,now',l1,kind',nst',band',w'⟩ ⟨dk2,dst2,dlo2,dhi2,code,dat2,dvv2,dbe2,den2⟩ x t false false false
    have a2:=numG_sz getG ⟨dk2,dst2,dlo2,dhi2,code,dat2,dvv2,dbe2,den2⟩ false false false hz2 hx.1 (by simp only;omega) h7 h8
    have a3:=numD_aft ⟨size2,minus2,since2,now',l1,kind',nst',band',w'⟩ x t false false false haft2.1 hdst2
    have hnuR:∀ w1 w2,ndR ⟨p,⟨size2,minus2,since2,now',l1,kind',nst',band',w'⟩,L,LS,LC,LX,⟨dk2,dst2,dlo2,dhi2,code,dat2,dvv2,dbe2,den2⟩,w1,w2,x,t,false⟩=numG getG ⟨size2,minus2,since2,now',l1,kind',nst',band',w'⟩ ⟨dk2,dst2,dlo2,dhi2,code,dat2,dvv2,dbe2,den2⟩ x t false false false:=fun _ _=>rfl
    have hnu:ndOk ⟨size2,minus2,since2,now',l1,kind',nst',band',w'⟩ ⟨dk2,dst2,dlo2,dhi2,code,dat2,dvv2,dbe2,den2⟩ x t:=⟨by rw[q3];exact hwf2,hz2,haft2.1,hdst2,hx.1,by rw[q3];exact hx.2,h7,h8⟩
    obtain⟨N,hN⟩:∃ N,numG getG ⟨size2,minus2,since2,now',l1,kind',nst',band',w'⟩ ⟨dk2,dst2,dlo2,dhi2,code,dat2,dvv2,dbe2,den2⟩ x t false false false=N:=⟨_,rfl⟩
    rw[hN]at hcons a1 a2 a3
    simp only[hN]at hnuR
    obtain⟨⟨size3,minus3,since3,now3,list3,kind3,nst3,band3,w3⟩,⟨dk3,dst3,dlo3,dhi3,code3,dat3,dvv3,dbe3,den3⟩,er3⟩:=N
    obtain⟨rfl,rfl,rfl,rfl,rfl,rfl⟩:now'=now3/\l1=list3/\kind'=kind3/\nst'=nst3/\band'=band3/\w'=w3:=⟨a1.2.2.2.1.symm,a1.2.2.2.2.1.symm,a1.2.2.2.2.2.1.symm,a1.2.2.2.2.2.2.1.symm,a1.2.2.2.2.2.2.2.1.symm,a1.2.2.2.2.2.2.2.2.symm⟩
    obtain rfl:code=code3:=a3.2.2.2.symm
    have q5:size3.length=n:=a1.1.trans q1
    have q6:minus3.length=n:=a1.2.1.trans q2
    have q7:since3.length=n:=a1.2.2.1.trans q3
    have q8:dst3.length=12:=a3.2.1.trans hdst2
    clear hK
    by_cases her:er3=0
    ·subst her
     rw[if_pos rfl]at hcons
     simp -implicitDefEqProofs only[push_cast,zz,seval,b13_2,stM,stV,deV,deT,ivV,hji,hxx,fs37,fs42D,ndM,rk1,Bck.rc,hml1,q1,q2,q3,q5,q6,q7,q8,p1,p2,p3,o4,hsetl,he4',hdst,hdst2,Int.toNat_natCast,hnu,hnuR]
     repeat refine om_ ?_
     intro X2
     repeat refine om_ ?_
     intro X3
     repeat refine om_ ?_
     refine hK2 (j+1,⟨size3,minus3,since3,now',l1,kind',nst',band',w'⟩,⟨dk3,dst3,dlo3,dhi3,code,dat3,dvv3,dbe3,den3⟩) ⟨show j+1<=pl.length by omega,hcons.symm,a1.trans hsame,a2,haft2.trans a3⟩ (show pl.length-(j+1)<pl.length-j by omega) _ _ (Sub.pt ?_)
     simp -implicitDefEqProofs only[push_cast,zz,seval,deV,deT,ivV,q1,q2,q3,q5,q6,q7,q8,he4',hdst]
    ·rw[if_neg her]at hcons
     subst hcons
     rw[if_neg her]at hs
     subst hs
     clear hK2
     simp -implicitDefEqProofs only[push_cast,zz,seval,b13_2,stM,stV,deV,deT,ivV,hji,hxx,fs37,fs42D,ndM,rk1,Bck.rc,hml1,q1,q2,q3,q5,q6,q7,q8,p1,p2,p3,o4,hsetl,he4',hdst,hdst2,Int.toNat_natCast,hnu,hnuR,her]
     repeat refine om_ ?_
     intro X2
     repeat refine om_ ?_
     intro X3
     repeat refine om_ ?_
     refine postF.mk' (fun _=>default) [some 0,some 1,some 2,some 3,some 4,none,some 6,some 7,some 8,some 9,some 10,some 11] ?_
     simp -implicitDefEqProofs only[push_cast,zz,seval,fs13D,sqM,stV,deV,deT,ivV,hR,q1,q2,q3,q5,q6,q7,q8,o1,o2,o3,o4,hm,hlm,hsetl,he4',h4]
   ·obtain rfl:j=pl.length:=by omega
    rw[List.drop_length,plsG]at hp2
    subst hp2
    simp only at hbi
    rw[if_pos rfl]at hs
    clear hK2
    simp -implicitDefEqProofs only[push_cast,zz,seval,b13_2,r13_3,Int.lt_irrefl]
    repeat refine om_ ?_
    refine hK (i+1,⟨size2,minus2,since2,now',l1,kind',nst',band',w'⟩,⟨dk2,dst2,dlo2,dhi2,code,dat2,dvv2,dbe2,den2⟩) ⟨show i+1<=m by omega,hs,hbi.1.trans hsim,hbi.2.1,haft.trans hbi.2.2⟩ (show m-(i+1)<m-i by omega) _ _ (Sub.pt ?_)
    simp -implicitDefEqProofs only[push_cast,zz,seval,deV,deT,ivV,q1,q2,q3,p1,p2,p3,he4',hdst,hdst2]
  ·have hall':¬ allP ⟨size,minus,since,now',l1,kind',nst',band',w'⟩ pl=true:=hall
   rw[if_neg hall]at hbg
   have hcb:=bctxP_bd ⟨size,minus,since,now',l1,kind',nst',band',w'⟩ ⟨pl,bw,q⟩
   obtain⟨c,hcc⟩:∃ c,bctxP ⟨size,minus,since,now',l1,kind',nst',band',w'⟩ ⟨pl,bw,q⟩=c:=⟨_,rfl⟩
   rw[hcc]at hbg hcb
   have hgot:=gotAft haft.1 hdst hcb
   obtain⟨d1,hd1⟩:∃ d1,gotS ⟨dk,dst,dlo,dhi,code,dat,dvv,dbe,den⟩ c=d1:=⟨_,rfl⟩
   rw[hd1]at hbg hgot
   have hok:DeS.ok ⟨dk,dst,dlo,dhi,code,dat,dvv,dbe,den⟩:=haft.1
   obtain⟨dk1,dst1,dlo1,dhi1,code1,dat1,dvv1,dbe1,den1⟩:=d1
   obtain rfl:code=code1:=hgot.2.2.2.symm
   have hdst1:dst1.length=12:=hgot.2.1.trans hdst
   by_cases hge:gotE ⟨dk,dst,dlo,dhi,code,dat,dvv,dbe,den⟩ c=0
   ·rw[if_pos hge]at hbg
    obtain⟨V,hV⟩:∃ V,decide (gotB ⟨dk,dst,dlo,dhi,code,dat,dvv,dbe,den⟩ c=1)=V:=⟨_,rfl⟩
    rw[hV]at hbg
    obtain⟨l2,hl2⟩:∃ l,onBk list i V=l:=⟨_,rfl⟩
    have hset1:=hset1 V
    rw[hl2]at hset1 hbg
    have hsetl2:l2.length=m:=by rw[<-hl2,onBk_len,hlm]
    have hml2:(l2.map Bck.rc).length=m:=by rw[List.length_map,hsetl2]
    have hkat2:rdBk l2 i=⟨L',⟨pl,bw,q⟩,V⟩:=by
     rw[<-hl2,onBk_at (by omega),hbk]
    have rk2:=recAt_Bk (l:=l2) (i:=i) (by omega) []
    rw[hkat2]at rk2
    have hwf2:=setOn_wf (s:=⟨size,minus,since,now',list,kind',nst',band',w'⟩) (b:=V) (show i<list.length by omega) hwf
    simp only[setOn,hl2]at hwf2
    simp -implicitDefEqProofs only[push_cast,zz,seval,b13_1,stM,stV,deV,deT,ivV,hii,rk,rk1,Bck.rc,hset0,hmapl,hml1,he4',Int.toNat_natCast,fs39,Bck.sv,p1,p2,p3,o4,hsetl,hdst,hwf1,bkWf,hbki,hall',fs64,hcc,hd1,hge,hV,hok,hset1,hdst1,rk2,hml2]
    intro X1
    repeat refine om_ ?_
    refine evS_loopU (A:=Nat×StS×DeS) kp13_2 kl13_2 (fun y=>[(65,.int .i64 y.1)])
     (fun y=>[(1,.lent,p.Z,.ints .i64 y.2.1.size),(2,.lent,p.M,.bools y.2.1.minus),(3,.lent,p.I,.ints .i64 y.2.1.since),(7,.lent,L,.cells (relabs (fun i=>i+7) (deV LS y.2.2 LC))),(8,.lent,LS,.ints .i64 y.2.2.st)])
     (fun y=>y.1<=pl.length/\plsG getG f t V (pl.drop y.1) y.2.1 y.2.2=B/\sameS y.2.1 ⟨size,minus,since,now',l2,kind',nst',band',w'⟩/\szWf y.2.1/\deAft ⟨dk,dst,dlo,dhi,code,dat,dvv,dbe,den⟩ y.2.2) (fun y=>pl.length-y.1) (0,⟨size,minus,since,now',l2,kind',nst',band',w'⟩,⟨dk1,dst1,dlo1,dhi1,code,dat1,dvv1,dbe1,den1⟩) ⟨Nat.zero_le _,hbg.symm,sameS.refl _,hz,hgot⟩ (Sub.pt ?_) ?_
    ·simp -implicitDefEqProofs only[push_cast,zz,seval,deV,deT,ivV,p1,p2,p3,he4',hdst,hdst1]
    intro ⟨j,s2,d2⟩ ⟨(hj:j<=pl.length),(hp2:plsG getG f t V (pl.drop j) s2 d2=B),(hsame:sameS s2 _),(hz2:szWf s2),(haft2:deAft ⟨dk,dst,dlo,dhi,code,dat,dvv,dbe,den⟩ d2)⟩ K2 hK2
    have hwf2:stWf s2 n:=hsame.wf (by first | exact hwf1 | exact hwf2)
    obtain⟨size2,minus2,since2,now2,list2,kind2,nst2,band2,w2⟩:=s2
    obtain⟨rfl,rfl,rfl,rfl,rfl,rfl⟩:now'=now2/\l2=list2/\kind'=kind2/\nst'=nst2/\band'=band2/\w'=w2:=⟨hsame.2.2.2.1.symm,hsame.2.2.2.2.1.symm,hsame.2.2.2.2.2.1.symm,hsame.2.2.2.2.2.2.1.symm,hsame.2.2.2.2.2.2.2.1.symm,hsame.2.2.2.2.2.2.2.2.symm⟩
    obtain⟨dk2,dst2,dlo2,dhi2,code2,dat2,dvv2,dbe2,den2⟩:=d2
    obtain rfl:code=code2:=haft2.2.2.2.symm
    have hdst2:dst2.length=12:=haft2.2.1.trans hdst
    have q1:size2.length=n:=hwf2.1
    have q2:minus2.length=n:=hwf2.2.1
    have q3:since2.length=n:=hwf2.2.2.1
    by_cases hj':j<pl.length
    ·have hji:(j:Int)<pl.length:=by omega
     have hx:=b4 _ (rd_mem hj')
     have hcons:=plsG_cons getG f t V hj' ⟨size2,minus2,since2,now',l2,kind',nst',band',w'⟩ ⟨dk2,dst2,dlo2,dhi2,code,dat2,dvv2,dbe2,den2⟩
     rw[hp2]at hcons
     obtain⟨x,hxx⟩:∃ x,rd pl (j:Int)=x:=⟨_,rfl⟩
     rw[hxx]at hx hcons
     rw[numG_get]at hcons
     have a1:=numG_same getG ⟨size2,minus2,since2,now',l2,kind',nst',band',w'⟩ ⟨dk2,dst2,dlo2,dhi2,code,dat2,dvv2,dbe2,den2⟩ x t V false false
     have a2:=numG_sz getG ⟨dk2,dst2,dlo2,dhi2,code,dat2,dvv2,dbe2,den2⟩ V false false hz2 hx.1 (by simp only;omega) h7 h8
     have a3:=numD_aft ⟨size2,minus2,since2,now',l2,kind',nst',band',w'⟩ x t V false false haft2.1 hdst2
     have hnuR:∀ w1 w2,ndR ⟨p,⟨size2,minus2,since2,now',l2,kind',nst',band',w'⟩,L,LS,LC,LX,⟨dk2,dst2,dlo2,dhi2,code,dat2,dvv2,dbe2,den2⟩,w1,w2,x,t,V⟩=numG getG ⟨size2,minus2,since2,now',l2,kind',nst',band',w'⟩ ⟨dk2,dst2,dlo2,dhi2,code,dat2,dvv2,dbe2,den2⟩ x t V false false:=fun _ _=>rfl
     have hnu:ndOk ⟨size2,minus2,since2,now',l2,kind',nst',band',w'⟩ ⟨dk2,dst2,dlo2,dhi2,code,dat2,dvv2,dbe2,den2⟩ x t:=⟨by rw[q3];exact hwf2,hz2,haft2.1,hdst2,hx.1,by rw[q3];exact hx.2,h7,h8⟩
     obtain⟨N,hN⟩:∃ N,numG getG ⟨size2,minus2,since2,now',l2,kind',nst',band',w'⟩ ⟨dk2,dst2,dlo2,dhi2,code,dat2,dvv2,dbe2,den2⟩ x t V false false=N:=⟨_,rfl⟩
     rw[hN]at hcons a1 a2 a3
     simp only[hN]at hnuR
     obtain⟨⟨size3,minus3,since3,now3,list3,kind3,nst3,band3,w3⟩,⟨dk3,dst3,dlo3,dhi3,code3,dat3,dvv3,dbe3,den3⟩,er3⟩:=N
     obtain⟨rfl,rfl,rfl,rfl,rfl,rfl⟩:now'=now3/\l2=list3/\kind'=kind3/\nst'=nst3/\band'=band3/\w'=w3:=⟨a1.2.2.2.1.symm,a1.2.2.2.2.1.symm,a1.2.2.2.2.2.1.symm,a1.2.2.2.2.2.2.1.symm,a1.2.2.2.2.2.2.2.1.symm,a1.2.2.2.2.2.2.2.2.symm⟩
     obtain rfl:code=code3:=a3.2.2.2.symm
     have q5:size3.length=n:=a1.1.trans q1
     have q6:minus3.length=n:=a1.2.1.trans q2
     have q7:since3.length=n:=a1.2.2.1.trans q3
     have q8:dst3.length=12:=a3.2.1.trans hdst2
     clear hK
     by_cases her:er3=0
     ·subst her
      rw[if_pos rfl]at hcons
      simp -implicitDefEqProofs only[push_cast,zz,seval,b13_2,stM,stV,deV,deT,ivV,hji,hxx,fs37,fs42D,ndM,rk2,Bck.rc,hml2,q1,q2,q3,q5,q6,q7,q8,p1,p2,p3,o4,hsetl2,he4',hdst,hdst2,Int.toNat_natCast,hnu,hnuR]
      repeat refine om_ ?_
      intro X2
      repeat refine om_ ?_
      intro X3
      repeat refine om_ ?_
      refine hK2 (j+1,⟨size3,minus3,since3,now',l2,kind',nst',band',w'⟩,⟨dk3,dst3,dlo3,dhi3,code,dat3,dvv3,dbe3,den3⟩) ⟨show j+1<=pl.length by omega,hcons.symm,a1.trans hsame,a2,haft2.trans a3⟩ (show pl.length-(j+1)<pl.length-j by omega) _ _ (Sub.pt ?_)
      simp -implicitDefEqProofs only[push_cast,zz,seval,deV,deT,ivV,q1,q2,q3,q5,q6,q7,q8,he4',hdst]
     ·rw[if_neg her]at hcons
      subst hcons
      rw[if_neg her]at hs
      subst hs
      clear hK2
      simp -implicitDefEqProofs only[push_cast,zz,seval,b13_2,stM,stV,deV,deT,ivV,hji,hxx,fs37,fs42D,ndM,rk2,Bck.rc,hml2,q1,q2,q3,q5,q6,q7,q8,p1,p2,p3,o4,hsetl2,he4',hdst,hdst2,Int.toNat_natCast,hnu,hnuR,her]
      repeat refine om_ ?_
      intro X2
      repeat refine om_ ?_
      intro X3
      repeat refine om_ ?_
      refine postF.mk' (fun _=>default) [some 0,some 1,some 2,some 3,some 4,none,some 6,some 7,some 8,some 9,some 10,some 11] ?_
      simp -implicitDefEqProofs only[push_cast,zz,seval,fs13D,sqM,stV,deV,deT,ivV,hR,q1,q2,q3,q5,q6,q7,q8,o1,o2,o3,o4,hm,hlm,hsetl2,he4',h4]
    ·obtain rfl:j=pl.length:=by omega
     rw[List.drop_length,plsG]at hp2
     subst hp2
     simp only at hbi
     rw[if_pos rfl]at hs
     clear hK2
     simp -implicitDefEqProofs only[push_cast,zz,seval,b13_2,r13_3,Int.lt_irrefl]
     repeat refine om_ ?_
     refine hK (i+1,⟨size2,minus2,since2,now',l2,kind',nst',band',w'⟩,⟨dk2,dst2,dlo2,dhi2,code,dat2,dvv2,dbe2,den2⟩) ⟨show i+1<=m by omega,hs,hbi.1.trans hsim,hbi.2.1,haft.trans hbi.2.2⟩ (show m-(i+1)<m-i by omega) _ _ (Sub.pt ?_)
     simp -implicitDefEqProofs only[push_cast,zz,seval,deV,deT,ivV,q1,q2,q3,p1,p2,p3,he4',hdst,hdst2]
   ·rw[if_neg hge]at hbg
    subst hbg
    rw[if_neg hge]at hs
    subst hs
    clear hK
    simp -implicitDefEqProofs only[push_cast,zz,seval,b13_1,stM,stV,deV,deT,ivV,hii,rk,rk1,Bck.rc,hset0,hmapl,hml1,he4',Int.toNat_natCast,fs39,Bck.sv,p1,p2,p3,o4,hsetl,hdst,hwf1,bkWf,hbki,hall',fs64,hcc,hd1,hge,hok,hdst1]
    intro X1
    repeat refine om_ ?_
    refine postF.mk' (fun _=>default) [some 0,some 1,some 2,some 3,some 4,none,some 6,some 7,some 8,some 9,some 10,some 11] ?_
    simp -implicitDefEqProofs only[push_cast,zz,seval,fs13D,sqM,stV,deV,deT,ivV,hR,p1,p2,p3,o1,o2,o3,o4,hm,hlm,hsetl,he4',h4,hdst1]
 ·obtain rfl:i=m:=by omega
  have hii:¬ (i:Int)<i:=by omega
  rw[Nat.sub_self,slcG]at hs
  subst hs
  have ho6:now'<=1000:=o7
  clear hK
  simp -implicitDefEqProofs only[push_cast,zz,seval,b13_1,r13_4,Int.lt_irrefl,deV,deT,ivV]
  repeat refine om_ ?_
  refine postF.mk' (fun _=>default) [some 0,some 1,some 2,some 3,some 4,none,some 6,some 7,some 8,some 9,some 10,some 11] ?_
  simp -implicitDefEqProofs only[push_cast,zz,seval,fs13D,sqM,stV,deV,deT,ivV,hR,p1,p2,p3,o1,o2,o3,o4,hm,hlm,h4,hdst]
def ent13D:Entry:=spOf fs13D invSq
theorem e13D:EntryOk Tryz.prog 13 ent13D:=entry_of ok13D invSq
@[push_cast] theorem ent13D_app (us:List SV) (look:Look) (x:Nat->Xf.Loc) (k:Nat):ent13D us look x k=spOf fs13D invSq us look x k:=rfl
def b10_3:IR:=
 .seq (r_ [b_ 65 .lss 64 63] []) (.seq (.cond (.t 65) (.skip) (.exit 4)) (.seq (.block 5 (.seq (r_ [m_ 66 64,m_ 16 66] [65,66]) (R_ [m_ 67 10,n_ 68 67,f_ 69 68 7,l_ 70 69,f_ 71 14 3,l_ 72 71,m_ 73 15,b_ 74 .add 72 73,m_ 75 0,b_ 76 .mul 74 75,f_ 77 14 2,l_ 78 77,b_ 79 .add 76 78,m_ 80 16,b_ 81 .add 79 80,m_ 82 13,i_ 83 70 81 1,S_ 1 .i64 83 82] [16,67,68,69,70,71,72,73,74,75,76,77,78,79,80,81,82,83]))) (r_ [a_ 84 64 1,m_ 64 84] [84])))
def r10_4:IR:=
 r_ [a_ 85 59 1,m_ 59 85] [15,63,64,85]
def b10_2:IR:=
 .seq (r_ [b_ 60 .lss 59 58] []) (.seq (.cond (.t 60) (.skip) (.exit 2)) (.seq (.block 3 (.seq (r_ [m_ 61 59,m_ 15 61] [60,61]) (.seq (r_ [f_ 62 14 4,l_ 63 62,z_ 64 0] [62]) (.block 4 (.loop b10_3))))) (r10_4)))
def r10_5:IR:=
 r_ [a_ 86 52 1,m_ 52 86] [13,14,58,59,86]
def b10_1:IR:=
 .seq (r_ [b_ 53 .lss 52 51] []) (.seq (.cond (.t 53) (.skip) (.exit 0)) (.seq (.block 1 (.seq (r_ [m_ 54 52,i_ 55 50 52 6,o_ 56 (.ld true (some 6) 0 0 (.t 55)),o_ 14 (.alloc 27 [y_,y_,y_,y_,y_,y_]),m_ 13 54,s_ 6 .i64 14 56] [53,54,55,56]) (.seq (r_ [f_ 57 14 5,l_ 58 57,z_ 59 0] [57]) (.block 2 (.loop b10_2))))) (r10_5)))
def r10_6:IR:=
 .seq (r_ [m_ 87 10,m_ 8 87] [0,10,50,51,52,87]) (.ret)
def ir10:IR:=
 .seq (r_ [o_ 8 (.mov (.k nilP))] [8]) (.seq (r_ [m_ 17 0,m_ 18 1,b_ 19 .mul 17 18,m_ 9 19] [17,18,19]) (.seq (R_ [m_ 20 9,o_ 21 (.mks 10 (.int .i64 0) 8 (.t 20) (.t 20)),m_ 22 9,o_ 23 (.mks 11 (.bool false) 1 (.t 22) (.t 22)),m_ 24 9,o_ 25 (.mks 12 (.int .i64 0) 8 (.t 24) (.t 24)),m_ 26 0,m_ 27 1,m_ 28 2,⟨some 29,none,⟨[10,11,12,17],[]⟩,.call (some 4) 13 30 [.t 26,.t 27,.t 28]⟩,m_ 30 9,o_ 31 (.mks 17 (.int .i64 0) 8 (.t 30) (.t 30)),m_ 32 0,o_ 33 (.build [nilSV,nilSV,nilSV,y_,nilSV,y_,nilSV,nilSV,y_] [(0,1,.t 21),(1,1,.t 23),(2,1,.t 25),(4,1,.t 29),(7,1,.t 31),(8,1,.t 32)]),o_ 34 (.box 18 (.t 33)),m_ 10 34] [9,20,21,22,23,24,25,26,27,28,29,30,31,32,33,34]) (.seq (r_ [m_ 36 10,m_ 37 3,o_ 38 (.call (some 4) 19 31 [.t 37,Z_ 12]),m_ 35 38,e_ 39 35 0,e_ 40 35 1,n_ 41 36,f_ 42 41 5,s_ 2 .i64 42 39] [3,35,36,37,38,39,40,41,42]) (.seq (r_ [m_ 44 0,m_ 45 1,m_ 46 2,o_ 47 (.call (some 4) 23 32 [.t 44,.t 45,.t 46]),m_ 43 47,e_ 48 43 0,e_ 49 43 1,m_ 11 48,m_ 12 49] [1,2,12,43,44,45,46,47,48,49]) (.seq (.seq (r_ [m_ 50 11,h_ 51 50,z_ 52 0] [11]) (.block 0 (.loop b10_1))) (r10_6))))))
def kp10_3:List Nat:=[0,10,13,14,15,50,51,52,58,59,63,64]
def kl10_3:List Nat:=[]
attribute [push_cast] kp10_3 kl10_3
def kp10_2:List Nat:=[0,10,13,14,50,51,52,58,59]
def kl10_2:List Nat:=[]
attribute [push_cast] kp10_2 kl10_2
def kp10_1:List Nat:=[0,10,50,51,52]
def kl10_1:List Nat:=[27]
attribute [push_cast] kp10_1 kl10_1
set_option maxRecDepth 4000 in
theorem comp10:(Tryz.f10.body.bind fun c=>compC tab isP chkAll ir10 c)=some ir10:=by kernel_rfl
def bset (W:Int) (b:Bd) (i:Int) (y:Nat) (B:List Int) (x:Nat):List Int:=B.set ((b.y+y)*W+b.x+x).toNat i
def brow (W:Int) (b:Bd) (i:Int) (B:List Int) (y:Nat) (k:Nat):List Int:=(List.range k).foldl (bset W b i y) B
def ball (W:Int) (b:Bd) (i:Int) (B:List Int) (m:Nat):List Int:=(List.range m).foldl (fun B y=>brow W b i B y b.w.toNat) B
def bfold (W:Int) (l:List Bd) (n:Nat):Nat->List Int
 | 0=>List.replicate n 0
 | i+1=>ball W (rdBd l i) i (bfold W l n i) (rdBd l i).h.toNat
theorem brow_succ (W:Int) (b:Bd) (i:Int) (B:List Int) (y k:Nat):brow W b i B y (k+1)=(brow W b i B y k).set ((b.y+y)*W+b.x+k).toNat i:=by
 unfold brow;rw[List.range_succ,List.foldl_append];rfl
theorem ball_succ (W:Int) (b:Bd) (i:Int) (B:List Int) (m:Nat):ball W b i B (m+1)=brow W b i (ball W b i B m) m b.w.toNat:=by
 unfold ball;rw[List.range_succ,List.foldl_append];rfl
theorem brow_len (W:Int) (b:Bd) (i:Int) (B:List Int) (y:Nat):∀ k,(brow W b i B y k).length=B.length
 | 0=>rfl
 | k+1=>by rw[brow_succ,List.length_set,brow_len W b i B y k]
theorem ball_len (W:Int) (b:Bd) (i:Int) (B:List Int):∀ m,(ball W b i B m).length=B.length
 | 0=>rfl
 | m+1=>by rw[ball_succ,brow_len,ball_len W b i B m]
theorem bfold_len (W:Int) (l:List Bd) (n:Nat):∀ i,(bfold W l n i).length=n
 | 0=>by simp[bfold]
 | i+1=>by rw[bfold,ball_len,bfold_len W l n i]
def bandL (w h n:Int):List Int:=bfold w (bnL w h n) (w*h).toNat (bnL w h n).length
structure BgA where
 w:Int
 h:Int
 n:Int
 kind:Int
def st0 (a:BgA) (f:Nat->Xf.Loc):StS:=⟨List.replicate (a.w*a.h).toNat 0,List.replicate (a.w*a.h).toNat false,List.replicate (a.w*a.h).toNat 0,0,bkOf f (bkts a.w a.h a.n),a.kind,12,bandL a.w a.h a.n,a.w⟩
theorem bandL_len (w h n:Int):(bandL w h n).length=(w*h).toNat:=bfold_len _ _ _ _
def fs10:FS where
 A:=BgA
 args:=fun a=>[.int .i64 a.w,.int .i64 a.h,.int .i64 a.n,.int .i64 a.kind]
 mem:=fun _=>[]
 pre:=fun a=>bnOk a.w a.h a.n/\a.w*a.h<=8192/\(a.kind=0∨a.kind=1)
 res:=fun a x=>.ptr 6 (x 6) 0 0 0
 out:=fun _ _=>[]
 new:=fun a x=>[(x 0,.ints .i64 (List.replicate (a.w*a.h).toNat 0)),(x 1,.bools (List.replicate (a.w*a.h).toNat false)),(x 2,.ints .i64 (List.replicate (a.w*a.h).toNat 0)),(x 3,.recs 4 true [] ((bkOf (fun i=>x (i+7)) (bkts a.w a.h a.n)).map Bck.rc)),(x 4,.ints .i64 (List.replicate 12 0)),(x 5,.ints .i64 (bandL a.w a.h a.n)),
  (x 6,.cells (relabs (fun i=>i-1) (stV ⟨x 6,x 0,x 1,x 2,x 3,x 4,x 5⟩ (st0 a fun i=>x (i+7)))))]
def inv10:List SV->Look->Option (BgA×List Nat)
 | [.int .i64 w,.int .i64 h,.int .i64 n,.int .i64 k],look=>some (⟨w,h,n,k⟩,[])
 | _,_=>none
attribute [push_cast] inv10
theorem bkOf_len (f:Nat->Xf.Loc) (l:List Pb):(bkOf f l).length=l.length:=by unfold bkOf;simp
set_option maxHeartbeats 1000000 in
theorem ok10:FSOk Tryz.prog 10 fs10:=by
 refine⟨⟨_,Tryz.func10,by kernel_rfl,by kernel_rfl⟩,fun a=>⟨by simp[fs10,push_cast,noMine,argOwn,Chunk.frArg],by simp[fs10,push_cast,outOk,Chunk.ext],fun x=>.inl (by simp[fs10,push_cast,frNew,frOut,Chunk.fr])⟩,fun a hp=>?_⟩
 obtain⟨w,h,n,kind⟩:=a
 obtain⟨hb,hwh,hk⟩:bnOk w h n/\w*h<=8192/\(kind=0∨kind=1):=hp
 obtain⟨q1,q2,q3,q4,q5,q6⟩:=id hb
 have hwh0:0<=w*h:=Int.mul_nonneg q3 q5
 change Tri Tryz.prog 10 [.int .i64 w,.int .i64 h,.int .i64 n,.int .i64 kind] [] (postF fs10 ⟨w,h,n,kind⟩)
 have hin:∀ i:Nat,i<(bnL w h n).length->0<=(rdBd (bnL w h n) i).x/\0<=(rdBd (bnL w h n) i).y/\1<=(rdBd (bnL w h n) i).w/\1<=(rdBd (bnL w h n) i).h/\(rdBd (bnL w h n) i).x+(rdBd (bnL w h n) i).w<=w/\(rdBd (bnL w h n) i).y+(rdBd (bnL w h n) i).h<=h/\-1000<=(rdBd (bnL w h n) i).lv/\(rdBd (bnL w h n) i).lv<=1000:=fun i hi=>bnL_in hb (rdBd_mem hi)
 have hl19:=bnL_le w h n
 have r1:∀ i:Nat,i<(bnL w h n).length->recAt (i:Int) [] (bnZ w h n)=(rdBd (bnL w h n) i).rc:=fun i hi=>recAt_Bd (by omega) (by omega) [] _
 have hzl:(bnL w h n).length<=(bnZ w h n).length:=by unfold bnZ;rw[List.length_append,List.length_map];omega
 have hbl:bandL w h n=bfold w (bnL w h n) (w*h).toNat (bnL w h n).length:=rfl
 have hst:∀ f,st0 ⟨w,h,n,kind⟩ f=⟨List.replicate (w*h).toNat 0,List.replicate (w*h).toNat false,List.replicate (w*h).toNat 0,0,bkOf f (bkts w h n),kind,12,bandL w h n,w⟩:=fun f=>rfl
 obtain⟨N,hN⟩:∃ N:Nat,w*h=(N:Int):=⟨(w*h).toNat,by omega⟩
 rw[hN,Int.toNat_natCast]at hbl hst
 obtain⟨BK,hBK⟩:∃ B,bkts w h n=B:=⟨_,rfl⟩
 obtain⟨BL,hBL⟩:∃ B,bandL w h n=B:=⟨_,rfl⟩
 rw[hBK]at hst
 rw[hBL]at hbl
 simp only[hBL]at hst
 have hBLl:BL.length=N:=by rw[hbl,bfold_len]
 have hBKl:=fun f=>bkOf_len f BK
 have hBK5:BK.length<=50000:=by
  rw[<-hBK]
  have:=(bkFold_len w (l:=bnL w h n) (fun b hb'=>by
   obtain⟨i,hi,rfl⟩:=List.mem_iff_getElem.1 hb'
   have:=hin i hi
   rw[rdBd_nat hi]at this
   unfold Bd.ok
   omega) (bnL w h n).length (Nat.le_refl _)).1
  rw[List.take_length]at this
  unfold bkts
  omega
 obtain⟨B,hB⟩:∃ B,bnL w h n=B:=⟨_,rfl⟩
 obtain⟨Z,hZ⟩:∃ Z,bnZ w h n=Z:=⟨_,rfl⟩
 rw[hB]at hin hl19 r1 hzl hbl
 rw[hZ]at r1 hzl
 have h12:(12:Int).toNat=12:=rfl
 refine tri_evS (hyp (l:=[(30,ent30),(31,ent31),(32,ent32)]) (lp:=[]) ⟨e30,e31,e32,trivial⟩ trivial) Tryz.func10 comp10 (rs:=[.tmp 8]) (by rfl) Tryz.ntmps10 28 ?_
 simp -implicitDefEqProofs only[push_cast,zz,seval,ir10,fs32,fs30,fs31,hb,hB,hZ,lx,hN,hBK,hk,h12]
 repeat refine om_ ?_
 intro X
 repeat refine om_ ?_
 intro X1
 repeat refine om_ ?_
 intro X2
 rw[hN]at hwh
 have hrep:(List.replicate N (0:Int)).length=N:=List.length_replicate
 refine evS_loopU (A:=Nat) kp10_1 kl10_1 (fun i=>[(52,.int .i64 i)]) (fun i=>[(17,.mine,X 11 17,.ints .i64 (bfold w B N i))]) (fun i=>i<=B.length) (fun i=>B.length-i) 0 (Nat.zero_le _) (Sub.pt ?_) ?_
 ·simp -implicitDefEqProofs only[push_cast,zz,seval,bfold,Int.toNat_natCast]
 intro i hi K hK
 have hi:i<=B.length:=hi
 by_cases hi':i<B.length
 ·obtain⟨b1,b2,b3,b4,b5,b6,b7,b8⟩:=hin i hi'
  have rr:=r1 i hi'
  have hii:(i:Int)<B.length:=by omega
  have hstep:bfold w B N (i+1)=ball w (rdBd B i) i (bfold w B N i) (rdBd B i).h.toNat:=rfl
  have hfl:=bfold_len w B N i
  obtain⟨b,hb'⟩:∃ b,rdBd B i=b:=⟨_,rfl⟩
  rw[hb']at b1 b2 b3 b4 b5 b6 rr hstep
  obtain⟨FF,hFF⟩:∃ F,bfold w B N i=F:=⟨_,rfl⟩
  rw[hFF]at hfl hstep
  obtain⟨lv,kd,bx,by',bw,bh⟩:=b
  simp only at b1 b2 b3 b4 b5 b6 hstep
  obtain⟨C,hC⟩:∃ C:Nat,bw=(C:Int):=⟨bw.toNat,by omega⟩
  obtain⟨R,hR⟩:∃ C:Nat,bh=(C:Int):=⟨bh.toNat,by omega⟩
  subst hC hR
  simp only[Int.toNat_natCast]at hstep
  simp -implicitDefEqProofs only[push_cast,zz,seval,b10_1,rr,Bd.rc,hii,hFF]
  intro X3
  repeat refine om_ ?_
  obtain⟨b,hbb⟩:∃ b:Bd,b=⟨lv,kd,bx,by',C,R⟩:=⟨_,rfl⟩
  rw[<-hbb]at hstep
  have hbl':=fun m=>ball_len w b i FF m
  rw[hfl]at hbl'
  refine evS_loopU (A:=Nat) kp10_2 kl10_2 (fun y=>[(59,.int .i64 y)]) (fun y=>[(17,.mine,X 11 17,.ints .i64 (ball w b i FF y))]) (fun y=>y<=R) (fun y=>R-y) 0 (Nat.zero_le _) (Sub.pt ?_) ?_
  ·have e0:ball w b i FF 0=FF:=rfl
   simp -implicitDefEqProofs only[push_cast,zz,seval,e0]
  intro y hy K2 hK2
  have hy:y<=R:=hy
  by_cases hy':y<R
  ·have hyi:(y:Int)<R:=by omega
   have hs2:=ball_succ w b i FF y
   rw[show b.w.toNat=C by rw[hbb];rfl]at hs2
   have hl2:=hbl' y
   obtain⟨GG,hGG⟩:∃ F,ball w b i FF y=F:=⟨_,rfl⟩
   rw[hGG]at hs2 hl2
   have hrl:=fun k=>brow_len w b i GG y k
   rw[hl2]at hrl
   clear hK
   simp -implicitDefEqProofs only[push_cast,zz,seval,b10_2,hyi,hGG]
   refine evS_loopU (A:=Nat) kp10_3 kl10_3 (fun x=>[(64,.int .i64 x)]) (fun x=>[(17,.mine,X 11 17,.ints .i64 (brow w b i GG y x))]) (fun x=>x<=C) (fun x=>C-x) 0 (Nat.zero_le _) (Sub.pt ?_) ?_
   ·have e0:brow w b i GG y 0=GG:=rfl
    simp -implicitDefEqProofs only[push_cast,zz,seval,e0]
   intro x hx K3 hK3
   have hx:x<=C:=hx
   by_cases hx':x<C
   ·have hxi:(x:Int)<C:=by omega
    have hs3:=brow_succ w b i GG y x
    have hl3:=hrl x
    have hby:b.y=by':=by rw[hbb]
    have hbx:b.x=bx:=by rw[hbb]
    rw[hby,hbx]at hs3
    clear hK2
    have hmul:0<=(by'+y)*w/\(by'+(y:Int))*w+w<=N:=by
     have h1:=Int.mul_nonneg (show 0<=by'+(y:Int) by omega) q3
     have h2:=Int.mul_le_mul_of_nonneg_right (show by'+(y:Int)+1<=h by omega) q3
     rw[Int.add_mul,Int.one_mul,Int.mul_comm h w,hN]at h2
     exact⟨h1,h2⟩
    obtain⟨M,hM⟩:∃ M,(by'+(y:Int))*w=M:=⟨_,rfl⟩
    rw[hM]at hmul hs3
    obtain⟨HH,hHH⟩:∃ F,brow w b i GG y x=F:=⟨_,rfl⟩
    rw[hHH]at hs3 hl3
    simp -implicitDefEqProofs only[push_cast,zz,seval,b10_3,hxi,hM,hHH]
    repeat refine om_ ?_
    refine hK3 (x+1) (show x+1<=C by omega) (show C-(x+1)<C-x by omega) _ _ (Sub.pt ?_)
    simp -implicitDefEqProofs only[push_cast,zz,seval,hs3]
   ·have hxi:¬ (x:Int)<C:=by omega
    have hxC:x=C:=by omega
    rw[hxC,<-hs2]at *
    clear hK3
    simp -implicitDefEqProofs only[push_cast,zz,seval,b10_3,Int.lt_irrefl,r10_4]
    repeat refine om_ ?_
    refine hK2 (y+1) (show y+1<=R by omega) (show R-(y+1)<R-y by omega) _ _ (Sub.pt ?_)
    simp -implicitDefEqProofs only[push_cast,zz,seval]
  ·have hyR:y=R:=by omega
   subst hyR
   rw[<-hstep]at *
   clear hK2
   simp -implicitDefEqProofs only[push_cast,zz,seval,b10_2,Int.lt_irrefl,r10_5]
   repeat refine om_ ?_
   refine hK (i+1) (show i+1<=B.length by omega) (show B.length-(i+1)<B.length-i by omega) _ _ (Sub.pt ?_)
   simp -implicitDefEqProofs only[push_cast,zz,seval]
 ·have hiB:i=B.length:=by omega
  subst hiB
  clear hK
  rw[<-hbl]
  simp -implicitDefEqProofs only[push_cast,zz,seval,b10_1,Int.lt_irrefl,r10_6]
  have g:∀ i:Nat,¬ i+7=0/\¬ i+7=1/\¬ i+7=2/\¬ i+7=3/\¬ i+7=4/\¬ i+7=5/\¬ i+7=6:=fun i=>by omega
  refine postF.mk' (fun j=>if j=0 then X 1 10 else if j=1 then X 3 11 else if j=2 then X 5 12 else if j=3 then X 9 13 else if j=4 then X1 2 19 else if j=5 then X 11 17 else if j=6 then X 14 18 else X 9 (13+(j-7+1))) [some 10,some 11,some 12,some 13,some 19,some 17,some 18] ?_
  simp -implicitDefEqProofs only[push_cast,zz,seval,fs10,hN,Int.toNat_natCast,hBK,hBL,stV,st0,g,Nat.add_sub_cancel,hBKl,hBLl,hrep,List.length_replicate]
def ent10:Entry:=spOf fs10 inv10
theorem e10:EntryOk Tryz.prog 10 ent10:=entry_of ok10 inv10
@[push_cast] theorem ent10_app (us:List SV) (look:Look) (x:Nat->Xf.Loc) (k:Nat):ent10 us look x k=spOf fs10 inv10 us look x k:=rfl
def b67_1:IR:=
 .seq (r_ [b_ 23 .lss 22 21] []) (.seq (.cond (.t 23) (.skip) (.exit 0)) (.seq (.block 1 (.seq (r_ [m_ 24 22,i_ 25 20 22 1,L_ 26 25,m_ 8 24,m_ 9 26] [23,24,25,26]) (.seq (.seq (r_ [m_ 27 0,n_ 28 27,f_ 29 28 1,l_ 30 29,m_ 31 8,i_ 32 30 31 1,L_ 33 32] [27,28,29,30,31,32]) (.cond (.t 33) (r_ [m_ 34 9,o_ 35 (.neg 0 (.t 34)),m_ 9 35] [33,34,35]) (.skip))) (r_ [f_ 36 7 2,l_ 37 36,m_ 38 8,m_ 39 9,i_ 40 37 38 1,S_ 1 .i64 40 39] [8,9,33,36,37,38,39,40])))) (r_ [a_ 41 22 1,m_ 22 41] [41])))
def r67_2:IR:=
 .seq (r_ [o_ 42 (.ld false (some 3) 0 0 (.t 7)),s_ 3 .i64 6 42] [0,7,20,21,22,42]) (.ret)
def ir67:IR:=
 .seq (r_ [o_ 6 (.alloc 10 [y_,y_,nilSV])] []) (.seq (r_ [m_ 10 1,m_ 11 2,m_ 12 1,m_ 13 2,b_ 14 .mul 12 13,o_ 15 (.mks 11 (.int .i64 0) 8 (.t 14) (.t 14)),o_ 16 (.build [y_,y_,nilSV] [(0,1,.t 10),(1,1,.t 11),(2,1,.t 15)]),o_ 7 (.alloc 12 [y_,y_,nilSV]),s_ 3 .i64 7 16] [1,2,10,11,12,13,14,15,16]) (.seq (.seq (r_ [m_ 17 0,n_ 18 17,f_ 19 18 0,l_ 20 19,h_ 21 20,z_ 22 0] [17,18,19]) (.block 0 (.loop b67_1))) (r67_2)))
def kp67_1:List Nat:=[0,6,7,20,21,22]
def kl67_1:List Nat:=[]
attribute [push_cast] kp67_1 kl67_1
set_option maxRecDepth 4000 in
theorem comp67:(Tryz.f67.body.bind fun c=>compC tab isP chkAll ir67 c)=some ir67:=by kernel_rfl
def b11_1:IR:=
 .seq (r_ [b_ 10 .lss 9 8] []) (.seq (.cond (.t 10) (.skip) (.exit 0)) (.seq (.block 1 (.seq (r_ [i_ 11 7 9 1,L_ 12 11,m_ 5 12] [10,11,12]) (r_ [m_ 13 3,m_ 14 5,o_ 15 (.callp 33 [.t 14]),o_ 16 (.mx (.t 13) (.t 15)),m_ 3 16] [5,13,14,15,16]))) (r_ [a_ 17 9 1,m_ 9 17] [17])))
def r11_2:IR:=
 .seq (r_ [m_ 18 3,o_ 19 (.cvt 0 .u64 (.t 18)),o_ 20 (.callp 34 [.t 19]),m_ 2 20] [3,7,8,9,18,19,20]) (.ret)
def ir11:IR:=
 .seq (r_ [o_ 1 (.box 10 (.t 0)),z_ 2 0] [0,2]) (.seq (r_ [z_ 3 0] []) (.seq (.seq (r_ [f_ 6 1 2,l_ 7 6,h_ 8 7,z_ 9 0] [1,6]) (.block 0 (.loop b11_1))) (r11_2)))
def kp11_1:List Nat:=[3,7,8,9]
def kl11_1:List Nat:=[]
attribute [push_cast] kp11_1 kl11_1
set_option maxRecDepth 4000 in
theorem comp11:(Tryz.f11.body.bind fun c=>compC tab isP chkAll ir11 c)=some ir11:=by kernel_rfl
def ir26:IR:=
 .seq (r_ [o_ 1 (.box 10 (.t 0)),z_ 2 0,z_ 3 0] [0,2,3]) (.seq (.seq (r_ [o_ 4 (.ld false (some 3) 0 0 (.t 1)),o_ 5 (.call (some 4) 11 8 [.t 4]),o_ 6 (.not (.t 5))] [4,5]) (.cond (.t 6) (.seq (r_ [z_ 2 0,z_ 3 70] [1,6]) (.ret)) (.skip))) (.seq (r_ [o_ 7 (.ld false (some 3) 0 0 (.t 1)),o_ 8 (.call (some 4) 15 11 [.t 7]),m_ 2 8,z_ 3 0] [1,6,7,8]) (.ret)))
set_option maxRecDepth 4000 in
theorem comp26:(Tryz.f26.body.bind fun c=>compC tab isP chkAll ir26 c)=some ir26:=by kernel_rfl
def pixF (s:StS) (i:Nat):Int:=if rdB s.minus (i:Nat)=true then-rd s.size (i:Nat)else rd s.size (i:Nat)
def plL (s:StS):List Int:=(List.range s.size.length).map (pixF s)
structure PsA where
 p:StL
 s:StS
 w:Int
 h:Int
def invPs:List SV->Look->Option (PsA×List Nat)
 | [.ptr c _ 0 0 0,.int .i64 w,.int .i64 h],look=>match invSt look c with
  | some (p,s,g)=>some (⟨p,s,w,h⟩,g)
  | none=>none
 | _,_=>none
attribute [push_cast] invPs
def fs67:FS where
 A:=PsA
 args:=fun a=>[.ptr 0 a.p.L 0 0 0,.int .i64 a.w,.int .i64 a.h]
 mem:=fun a=>stM a.p a.s
 pre:=fun a=>stWf a.s a.s.since.length/\szWf a.s/\a.w*a.h=a.s.since.length/\0<=a.w/\0<=a.h
 res:=fun a x=>.agg [.int .i64 a.w,.int .i64 a.h,.sl 7 (x 0) 1 0 (plL a.s).length]
 out:=fun _ _=>[]
 new:=fun a x=>[(x 0,.ints .i64 (plL a.s))]
theorem rdB_lt (xs:List Bool) (k:Nat) (h:k<xs.length):rdB xs (k:Nat)=xs[k]:=by simp[rdB,h]
set_option maxHeartbeats 1000000 in
theorem ok67:FSOk Tryz.prog 67 fs67:=by
 refine⟨⟨_,Tryz.func67,by kernel_rfl,by kernel_rfl⟩,fun a=>⟨by simp[fs67,stM,push_cast,noMine,argOwn,Chunk.frArg],by simp[fs67,stM,push_cast,outOk,Chunk.ext],fun x=>.inl (by simp[fs67,stM,push_cast,frNew,frOut,Chunk.fr])⟩,fun a hp=>?_⟩
 obtain⟨p,⟨size,minus,since,now,list,kind,nst,band,ww⟩,w,h⟩:=a
 obtain⟨h1,h2,h3,h4,h5⟩:stWf ⟨size,minus,since,now,list,kind,nst,band,ww⟩ since.length/\szWf ⟨size,minus,since,now,list,kind,nst,band,ww⟩/\w*h=since.length/\0<=w/\0<=h:=hp
 obtain⟨o1,o2,o3,o4,o5,o6,o7,o8,o9,o10,o11⟩:=id h1
 simp only at o1 o2 o4 o5 o8
 obtain⟨n,hn⟩:∃ n,since.length=n:=⟨_,rfl⟩
 rw[hn]at o1 o2 o4 o5 h3
 have hpl:plL ⟨size,minus,since,now,list,kind,nst,band,ww⟩=(List.range n).map (pixF ⟨size,minus,since,now,list,kind,nst,band,ww⟩):=by unfold plL;rw[o1]
 have hpf:∀ k:Nat,pixF ⟨size,minus,since,now,list,kind,nst,band,ww⟩ k=if rdB minus (k:Nat)=true then-rd size (k:Nat)else rd size (k:Nat):=fun k=>rfl
 have hsz:∀ k:Nat,k<n->0<=rd size (k:Nat)/\rd size (k:Nat)<1099511627776:=fun k hk=>h2.at (i:=(k:Int)) (by omega) (by simp only;omega)
 obtain⟨f,hf⟩:∃ f,pixF ⟨size,minus,since,now,list,kind,nst,band,ww⟩=f:=⟨_,rfl⟩
 rw[hf]at hpl hpf
 change Tri Tryz.prog 67 [.ptr 0 p.L 0 0 0,.int .i64 w,.int .i64 h] (stM p ⟨size,minus,since,now,list,kind,nst,band,ww⟩) (postF fs67 ⟨p,⟨size,minus,since,now,list,kind,nst,band,ww⟩,w,h⟩)
 refine tri_evS (hyp (l:=[]) (lp:=[]) trivial trivial) Tryz.func67 comp67 (rs:=[.cell 6 (some 3)]) (by rfl) Tryz.ntmps67 13 ?_
 simp -implicitDefEqProofs only[push_cast,zz,seval,ir67,stM,stV,o1,o2,hn,o4,h3]
 intro X X1
 repeat refine om_ ?_
 refine evS_loopU (A:=Nat) kp67_1 kl67_1 (fun k=>[(22,.int .i64 k)]) (fun k=>[(11,.mine,X1 5 11,.ints .i64 (prt n k f))]) (fun k=>k<=n) (fun k=>n-k) 0 (Nat.zero_le _) (Sub.pt ?_) ?_
 ·have e0:prt n 0 f=List.replicate (n:Int).toNat 0:=by rw[prt_zero,Int.toNat_natCast]
  simp -implicitDefEqProofs only[push_cast,zz,seval,e0]
 intro k hk K hK
 have hk:k<=n:=hk
 by_cases hk':k<n
 ·have hki:(k:Int)<n:=by omega
  have hs:=hsz k hk'
  have hset:(prt n k f).set k (f k)=prt n (k+1) f:=prt_set hk' f
  rw[hpf k]at hset
  have hlen:=prt_length (Nat.le_of_lt hk') f
  obtain⟨P,hP⟩:∃ P,prt n k f=P:=⟨_,rfl⟩
  rw[hP]at hset hlen
  obtain⟨v,hv⟩:∃ v,rd size (k:Nat)=v:=⟨_,rfl⟩
  rw[hv]at hset hs
  obtain⟨m,hm⟩:∃ m,rdB minus (k:Nat)=m:=⟨_,rfl⟩
  rw[hm]at hset
  cases m with
  | true=>
   rw[if_pos rfl]at hset
   simp -implicitDefEqProofs only[push_cast,zz,seval,b67_1,hki,hv,hm,hP,hlen,o1,o2,Int.toNat_natCast,hset]
   repeat refine om_ ?_
   refine hK (k+1) (show k+1<=n by omega) (show n-(k+1)<n-k by omega) _ _ (Sub.pt ?_)
   simp -implicitDefEqProofs only[push_cast,zz,seval]
  | false=>
   rw[if_neg (by decide)]at hset
   simp -implicitDefEqProofs only[push_cast,zz,seval,b67_1,hki,hv,hm,hP,hlen,o1,o2,Int.toNat_natCast,hset]
   repeat refine om_ ?_
   refine hK (k+1) (show k+1<=n by omega) (show n-(k+1)<n-k by omega) _ _ (Sub.pt ?_)
   simp -implicitDefEqProofs only[push_cast,zz,seval]
 ·have hkn:k=n:=by omega
  subst hkn
  clear hK
  have hfin:prt k k f=(List.range k).map f:=prt_all k f
  rw[hfin,<-hpl]
  have hpll:(plL ⟨size,minus,since,now,list,kind,nst,band,ww⟩).length=k:=by rw[hpl,List.length_map,List.length_range]
  simp -implicitDefEqProofs only[push_cast,zz,seval,b67_1,r67_2,Int.lt_irrefl]
  refine postF.mk' (fun _=>X1 5 11) [some 0,some 1,some 2,some 3,some 4,none,some 6,some 11] ?_
  simp -implicitDefEqProofs only[push_cast,zz,seval,fs67,stM,stV,o1,o2,hn,o4,hpll]
def ent67:Entry:=spOf fs67 invPs
theorem e67:EntryOk Tryz.prog 67 ent67:=entry_of ok67 invPs
@[push_cast] theorem ent67_app (us:List SV) (look:Look) (x:Nat->Xf.Loc) (k:Nat):ent67 us look x k=spOf fs67 invPs us look x k:=rfl
def maxA (xs:List Int):Int:=xs.foldl (fun m c=>max m (max c (-c))) 0
theorem maxA_take {xs:List Int} {k:Nat} (h:k<xs.length):maxA (xs.take (k+1))=max (maxA (xs.take k)) (max (rd xs (k:Nat)) (- rd xs (k:Nat))):=by
 unfold maxA
 rw[List.take_succ_eq_append_getElem h,List.foldl_append,rd_lt xs k h];rfl
theorem maxA_bd {xs:List Int} {B:Int} (hB:0<=B) (h:AllIn (-B) B xs):∀ k,k<=xs.length->0<=maxA (xs.take k)/\maxA (xs.take k)<=B
 | 0,_=>by simp[maxA];exact hB
 | k+1,hk=>by
  have ih:=maxA_bd hB h k (by omega)
  have:=allIn_rd.1 h k (by omega)
  rw[maxA_take (by omega)]
  omega
def planesP (xs:List Int):Int:=lenP (maxA xs)
def fs11:FS where
 A:=PlA
 args:=fun a=>[plV a.p a.L 0]
 mem:=fun a=>[some (.ro,a.L,.ints .i64 a.p.xs)]
 pre:=fun a=>AllIn (-16777216) 16777216 a.p.xs/\a.p.xs.length<=1000000
 res:=fun a _=>.int .i64 (planesP a.p.xs)
 out:=fun _ _=>[]
 new:=fun _ _=>[]
theorem ok11:FSOk Tryz.prog 11 fs11:=by
 refine⟨⟨_,Tryz.func11,by kernel_rfl,by kernel_rfl⟩,fun a=>⟨by simp[fs11,push_cast,noMine,argOwn,Chunk.frArg],by simp[fs11,push_cast,outOk,Chunk.ext],fun x=>.inl (by simp[fs11,push_cast,frNew,frOut,Chunk.fr])⟩,fun a hp=>?_⟩
 obtain⟨⟨w,h,xs⟩,L⟩:=a
 obtain⟨h1,h2⟩:AllIn (-16777216) 16777216 xs/\xs.length<=1000000:=hp
 have hmx:=maxA_bd (B:=16777216) (by decide) h1
 change Tri Tryz.prog 11 [plV ⟨w,h,xs⟩ L 0] [some (.ro,L,.ints .i64 xs)] (postF fs11 ⟨⟨w,h,xs⟩,L⟩)
 have hfin:planesP xs=lenP (maxA xs):=rfl
 refine tri_evS (hyp (l:=[]) (lp:=[(33,absF),(34,lenF)]) trivial ⟨p33,p34,trivial⟩) Tryz.func11 comp11 (rs:=[.tmp 2]) (by rfl) Tryz.ntmps11 11 ?_
 simp -implicitDefEqProofs only[push_cast,zz,seval,ir11]
 intro X
 refine evS_loopU (A:=Nat) kp11_1 kl11_1 (fun k=>[(3,.int .i64 (maxA (xs.take k))),(9,.int .i64 k)]) (fun k=>[]) (fun k=>k<=xs.length) (fun k=>xs.length-k) 0 (Nat.zero_le _) (Sub.pt ?_) ?_
 ·have e0:maxA (xs.take 0)=0:=rfl
  simp -implicitDefEqProofs only[push_cast,zz,seval,e0]
 intro k hk K hK
 have hk:k<=xs.length:=hk
 have hb:=hmx k hk
 by_cases hk':k<xs.length
 ·have hki:(k:Int)<xs.length:=by omega
  have ht:=maxA_take hk'
  have hx:=allIn_rd.1 h1 k hk'
  obtain⟨m,hm⟩:∃ m,maxA (xs.take k)=m:=⟨_,rfl⟩
  obtain⟨x,hxx⟩:∃ m,rd xs (k:Nat)=m:=⟨_,rfl⟩
  rw[hm]at ht hb
  rw[hxx]at ht hx
  simp -implicitDefEqProofs only[push_cast,zz,seval,b11_1,hki,hm,hxx]
  repeat refine om_ ?_
  refine hK (k+1) (show k+1<=xs.length by omega) (show xs.length-(k+1)<xs.length-k by omega) _ _ (Sub.pt ?_)
  simp -implicitDefEqProofs only[push_cast,zz,seval,ht]
 ·obtain rfl:k=xs.length:=by omega
  clear hK
  rw[List.take_length]at hb
  obtain⟨m,hm⟩:∃ m,maxA xs=m:=⟨_,rfl⟩
  rw[hm]at hb hfin
  simp -implicitDefEqProofs only[push_cast,zz,seval,b11_1,r11_2,Int.lt_irrefl,List.take_length,hm]
  repeat refine om_ ?_
  refine postF.mk' (fun _=>default) [some 0] ?_
  simp -implicitDefEqProofs only[push_cast,zz,seval,fs11,hfin]
def ent11:Entry:=spOf fs11 inv8
theorem e11:EntryOk Tryz.prog 11 ent11:=entry_of ok11 inv8
@[push_cast] theorem ent11_app (us:List SV) (look:Look) (x:Nat->Xf.Loc) (k:Nat):ent11 us look x k=spOf fs11 inv8 us look x k:=rfl
def fs26:FS where
 A:=PlA
 args:=fun a=>[plV a.p a.L 0]
 mem:=fun a=>[some (.ro,a.L,.ints .i64 a.p.xs)]
 pre:=fun a=>a.p.xs.length<=140737488355328
 res:=fun a _=>.tup [.int .i64 (if a.p.Ok then planesP a.p.xs else 0),.int .i64 (if a.p.Ok then 0 else 70)]
 out:=fun _ _=>[]
 new:=fun _ _=>[]
theorem Pl.Ok.len {p:Pl} (h:p.Ok):p.xs.length<=8192:=by
 obtain⟨⟨a1,a2,a3,a4,a5⟩,b,_⟩:=h
 omega
theorem ok26:FSOk Tryz.prog 26 fs26:=by
 refine⟨⟨_,Tryz.func26,by kernel_rfl,by kernel_rfl⟩,fun a=>⟨by simp[fs26,push_cast,noMine,argOwn,Chunk.frArg],by simp[fs26,push_cast,outOk,Chunk.ext],fun x=>.inl (by simp[fs26,push_cast,frNew,frOut,Chunk.fr])⟩,fun a hp=>?_⟩
 obtain⟨⟨w,h,xs⟩,L⟩:=a
 have h1:xs.length<=140737488355328:=hp
 change Tri Tryz.prog 26 [plV ⟨w,h,xs⟩ L 0] [some (.ro,L,.ints .i64 xs)] (postF fs26 ⟨⟨w,h,xs⟩,L⟩)
 refine tri_evS (hyp (l:=[(8,ent8),(11,ent11)]) (lp:=[]) ⟨e8,e11,trivial⟩ trivial) Tryz.func26 comp26 (rs:=[.tmp 2,.tmp 3]) (by rfl) Tryz.ntmps26 19 ?_
 by_cases hok:(⟨w,h,xs⟩:Pl).Ok
 ·have hl:=hok.len
  have hall:=hok.2.2
  simp only at hl hall
  simp -implicitDefEqProofs only[push_cast,zz,seval,ir26,fs8,fs11,hok,hall]
  intro X
  repeat refine om_ ?_
  refine postF.mk' (fun _=>default) [some 0] ?_
  simp -implicitDefEqProofs only[push_cast,zz,seval,fs26,hok]
 ·simp -implicitDefEqProofs only[push_cast,zz,seval,ir26,fs8,fs11,hok]
  intro X
  repeat refine om_ ?_
  refine postF.mk' (fun _=>default) [some 0] ?_
  simp -implicitDefEqProofs only[push_cast,zz,seval,fs26,hok]
def ent26:Entry:=spOf fs26 inv8
theorem e26:EntryOk Tryz.prog 26 ent26:=entry_of ok26 inv8
@[push_cast] theorem ent26_app (us:List SV) (look:Look) (x:Nat->Xf.Loc) (k:Nat):ent26 us look x k=spOf fs26 inv8 us look x k:=rfl
def Bck.er (x:Bck):Bck:=⟨nilLoc,x.b,x.on⟩
def StS.er (s:StS):StS:=⟨s.size,s.minus,s.since,s.now,s.list.map Bck.er,s.kind,s.nst,s.band,s.w⟩
theorem numG_er {β:Type} (bit:β->Int->Bool->Bool×Int×β) (s:StS) (x:β) (i t:Int) (on dig neg:Bool):numG bit s.er x i t on dig neg=((numG bit s x i t on dig neg).1.er,(numG bit s x i t on dig neg).2):=by
 have h1:oldP s.er i↔oldP s i:=Iff.rfl
 have h2:dctxP s.er i=dctxP s i:=rfl
 have h3:nctxP s.er i=nctxP s i:=rfl
 unfold numG
 rw[h2,h3]
 by_cases ho:oldP s i
 ·rw[if_pos ho,if_pos (h1.2 ho)]
  split
  ·split<;>rfl
  ·rfl
 ·rw[if_neg ho,if_neg (fun h=>ho (h1.1 h))]
  split
  ·split
   ·split
    ·split<;>rfl
    ·rfl
   ·rfl
  ·rfl
theorem plsG_er {β:Type} (bit:β->Int->Bool->Bool×Int×β) (f:List Int) (t:Int) (on:Bool):∀ (l:List Int) (s:StS) (x:β),plsG bit f t on l s.er x=((plsG bit f t on l s x).1.er,(plsG bit f t on l s x).2)
 | [],s,x=>rfl
 | i::l,s,x=>by
  rw[plsG,plsG,numG_er]
  simp only
  split
  ·exact plsG_er bit f t on l _ _
  ·rfl
theorem rdBk_er {l:List Bck} {i:Nat} (h:i<l.length):rdBk (l.map Bck.er) i=(rdBk l i).er:=by
 rw[rdBk_nat (by simpa using h),rdBk_nat h,List.getElem_map]
theorem setOn_er {s:StS} {i:Nat} (h:i<s.list.length) (b:Bool):setOn s.er i b=(setOn s i b).er:=by
 unfold setOn StS.er onBk
 simp only[rdBk_er h,List.map_set]
 rfl
theorem abP_er (s:StS) {q:Int} (h:q<s.list.length):abP s.er q=abP s q:=by
 unfold abP
 split
 ·have:rdBk s.er.list q.toNat=(rdBk s.list q.toNat).er:=rdBk_er (by omega)
  rw[this];rfl
 ·rfl
theorem bktG_er {β:Type} (bit:β->Int->Bool->Bool×Int×β) (f:List Int) (t:Int) {i:Nat} {s:StS} (x:β) (h:i<s.list.length) (hq:(rdBk s.list i).b.parent<s.list.length):bktG bit f t i s.er x=((bktG bit f t i s x).1.er,(bktG bit f t i s x).2):=by
 have e1:rdBk s.er.list i=(rdBk s.list i).er:=rdBk_er h
 have e2:(rdBk s.list i).er.b=(rdBk s.list i).b:=rfl
 have e3:∀ pl,allP s.er pl=allP s pl:=fun _=>rfl
 have e4:∀ pl,onP s.er pl f t=onP s pl f t:=fun _=>rfl
 have e5:bctxP (setOn s.er i false) (rdBk s.list i).b=bctxP (setOn s i false) (rdBk s.list i).b:=by
  rw[setOn_er h]
  unfold bctxP
  rw[abP_er _ (by simp only[setOn,onBk_len];exact hq)]
  rfl
 unfold bktG
 rw[e1,e2,e3,e4,e5]
 simp only[setOn_er h]
 split
 ·exact plsG_er bit f t _ _ _ _
 ·split
  ·exact plsG_er bit f t _ _ _ _
  ·rfl
def parOk (l:List Bck):Prop:=∀ i,i<l.length->(rdBk l i).b.parent<l.length
theorem sameK.at {l m:List Bck} (h:sameK l m) {i:Nat} (hi:i<l.length):(rdBk l i).b=(rdBk m i).b/\(rdBk l i).L=(rdBk m i).L:=by
 have hm:i<m.length:=by rw[<-h.len];exact hi
 have e:(l.map (fun x=>(x.L,x.b)))[i]'(by simpa using hi)=(m.map (fun x=>(x.L,x.b)))[i]'(by simpa using hm):=by
  have:=h
  unfold sameK at this
  simp only[this]
 simp only[List.getElem_map,Prod.mk.injEq]at e
 rw[rdBk_nat hi,rdBk_nat hm]
 exact⟨e.2,e.1⟩
theorem parOk.same {l m:List Bck} (h:sameK l m) (hm:parOk m):parOk l:=fun i hi=>by
 rw[(h.at hi).1,h.len]
 exact hm i (by rw[<-h.len];exact hi)
theorem slcG_er {β:Type} (bit:β->Int->Bool->Bool×Int×β) (f:List Int) (t:Int):∀ (k i:Nat) (s:StS) (x:β),i+k=s.list.length->parOk s.list->slcG bit f t k i s.er x=((slcG bit f t k i s x).1.er,(slcG bit f t k i s x).2)
 | 0,i,s,x,_,_=>rfl
 | k+1,i,s,x,hk,hp=>by
  have hb:=bktG_k bit f t i s x
  rw[slcG,slcG,bktG_er bit f t x (by omega) (hp i (by omega))]
  simp only
  split
  ·exact slcG_er bit f t k (i+1) _ _ (by rw[hb.len];omega) (hp.same hb)
  ·rfl
def encStep (f:List Int) (t:Int) (s:StS) (st:List Int):StS×EnS×Int:=slcG putG f t s.list.length 0 s (newEn s.kind st)
def encG (f:List Int):Nat->StS->List Int->List (List Int)
 | 0,_,_=>[]
 | k+1,s,st=>encEnd (encStep f k s st).2.1::encG f k (encStep f k s st).1 (encStep f k s st).2.1.st
theorem encStep_er (f:List Int) (t:Int) (s:StS) (st:List Int) (h:parOk s.list):encStep f t s.er st=((encStep f t s st).1.er,(encStep f t s st).2):=by
 have:=slcG_er putG f t s.list.length 0 s (newEn s.kind st) (by omega) h
 unfold encStep
 rw[<-this]
 have e:s.er.list.length=s.list.length:=by simp[StS.er]
 rw[e];rfl
theorem encG_er (f:List Int):∀ (k:Nat) (s:StS) (st:List Int),parOk s.list->encG f k s.er st=encG f k s st
 | 0,s,st,_=>rfl
 | k+1,s,st,h=>by
  rw[encG,encG,encStep_er f k s st h]
  simp only
  rw[encG_er f k (encStep f k s st).1 _ (h.same (slcG_k putG f k s.list.length 0 s (newEn s.kind st)))]
def st00 (a:BgA):StS:=st0 a fun _=>nilLoc
theorem st0_er (a:BgA) (f:Nat->Xf.Loc):(st0 a f).er=st00 a:=by
 unfold st0 st00 StS.er st0 bkOf
 simp only[List.map_map]
 rfl
theorem bkOf_at (f:Nat->Xf.Loc) {l:List Pb} {i:Nat} (h:i<l.length):rdBk (bkOf f l) i=⟨f i,l.getD i default,false⟩:=by
 rw[rdBk_nat (by rw[bkOf_len];exact h)]
 unfold bkOf
 simp
theorem plF_bd {w h:Int} {b:Bd} (hx:0<=b.x) (hy:0<=b.y) (hw:b.x+b.w<=w) (hh:b.y+b.h<=h) {r c:Int} {dy dx:Nat} (hr:0<=r) (hc:0<=c) (h1:r*4+dy<b.h) (h2:c*4+dx<b.w):0<=plF w b r c dy dx/\plF w b r c dy dx<w*h:=by
 unfold plF
 have a1:=Int.mul_nonneg (show 0<=b.y+(r*4+(dy:Int)) by omega) (show 0<=w by omega)
 have a2:=Int.mul_le_mul_of_nonneg_right (show b.y+(r*4+(dy:Int))+1<=h by omega) (show 0<=w by omega)
 rw[Int.add_mul,Int.one_mul,Int.mul_comm h w]at a2
 omega
theorem pls_bd {w h:Int} {b:Bd} (hx:0<=b.x) (hy:0<=b.y) (hw:b.x+b.w<=w) (hh:b.y+b.h<=h) {r c:Int} (hr:0<=r) (hc:0<=c):∀ x∈plAll w b r c (khB b r).toNat,0<=x/\x<w*h:=fun x hm=>by
 unfold plAll plRow at hm
 rw[List.mem_flatMap]at hm
 obtain⟨dy,hdy,hm⟩:=hm
 rw[List.mem_map]at hm
 obtain⟨dx,hdx,rfl⟩:=hm
 rw[List.mem_range]at hdy hdx
 unfold khB at hdy
 unfold kwB at hdx
 exact plF_bd hx hy hw hh hr hc (by omega) (by omega)
def bkGood (w h:Int) (n:Nat) (x:Pb):Prop:=-1<=x.parent/\x.parent<n/\x.places.length<=16/\∀ p∈x.places,0<=p/\p<w*h
theorem bkGood.mono {w h:Int} {n m:Nat} {x:Pb} (H:bkGood w h n x) (hnm:n<=m):bkGood w h m x:=⟨H.1,by have:=H.2.1;omega,H.2.2⟩
def grGood (n:Nat) (g:Gr):Prop:=1<=colsB g.band/\1<=rowsB g.band/\g.frm+rowsB g.band*colsB g.band<=n
theorem par_lt {R C r c:Int} (h1:1<=R) (h2:1<=C) (hr:0<=r) (hc:0<=c):0<=min r (R-1)*C+min c (C-1)/\min r (R-1)*C+min c (C-1)<R*C:=by
 have a:=Int.mul_nonneg (show 0<=min r (R-1) by omega) (show 0<=C by omega)
 have b:=Int.mul_le_mul_of_nonneg_right (show min r (R-1)<=R-1 by omega) (show 0<=C by omega)
 rw[Int.sub_mul,Int.one_mul]at b
 omega
theorem bkAt_good {w h:Int} {G:List Gr} {b:Bd} {n:Nat} (hG:∀ g∈G,grGood n g) (hx:0<=b.x) (hy:0<=b.y) (hw:b.x+b.w<=w) (hh:b.y+b.h<=h) {r c:Nat}:bkGood w h n (bkAt w G b r c):=by
 unfold bkAt bkGood
 simp only
 have hpar:-1<=parP G (findG G b) r c/\parP G (findG G b) r c<n:=by
  unfold parP
  cases hF:findG G b with
  | none=>simp only;omega
  | some i=>
   have hi:=findG_lt hF
   obtain⟨g1,g2,g3⟩:=hG _ (by rw[rdGr_nat hi];exact List.getElem_mem hi:rdGr G i∈G)
   have:=par_lt (r:=(r:Int) / 2) (c:=(c:Int) / 2) g2 g1 (by omega) (by omega)
   simp only
   omega
 refine⟨hpar.1,hpar.2,?_,pls_bd hx hy hw hh (by omega) (by omega)⟩
 rw[plAll_len]
 have h1:(kwB b c).toNat<=4:=by unfold kwB;omega
 have h2:(khB b r).toNat<=4:=by unfold khB;omega
 exact Nat.le_trans (Nat.mul_le_mul h2 h1) (by decide)
theorem bkFold_good {w h:Int} {l:List Bd} (hl:∀ b∈l,0<=b.x/\0<=b.y/\1<=b.w/\1<=b.h/\b.x+b.w<=w/\b.y+b.h<=h):∀ i,i<=l.length->(∀ b∈(bkFold w (l.take i)).1,bkGood w h (bkFold w (l.take i)).1.length b)/\(∀ g∈(bkFold w (l.take i)).2,grGood (bkFold w (l.take i)).1.length g)
 | 0,_=>by simp[bkFold]
 | i+1,hi=>by
  obtain⟨h1,h2⟩:=bkFold_good hl i (by omega)
  obtain⟨b1,b2,b3,b4,b5,b6⟩:=hl _ (rdBd_mem (show i<l.length by omega))
  rw[bkFold_succ w (by omega)]
  obtain⟨⟨O,G⟩,hOG⟩:∃ s,bkFold w (l.take i)=s:=⟨_,rfl⟩
  rw[hOG]at h1 h2 ⊢
  unfold bkStep
  simp only at h1 h2 ⊢
  obtain⟨b,hb⟩:∃ b,rdBd l i=b:=⟨_,rfl⟩
  rw[hb]at b1 b2 b3 b4 b5 b6 ⊢
  have hlen:(O++bkBand w G b (rowsB b).toNat).length=O.length+(rowsB b).toNat*(colsB b).toNat:=by rw[List.length_append,bkBand_len]
  have hle:O.length<=(O++bkBand w G b (rowsB b).toNat).length:=by rw[hlen];exact Nat.le_add_right _ _
  have hrc:1<=colsB b/\1<=rowsB b:=by unfold colsB rowsB;omega
  refine⟨fun x hx=>?_,fun g hg=>?_⟩
  ·rcases List.mem_append.1 hx with hx | hx
   ·exact(h1 x hx).mono hle
   ·unfold bkBand bkRow at hx
    rw[List.mem_flatMap]at hx
    obtain⟨r,hr,hx⟩:=hx
    rw[List.mem_map]at hx
    obtain⟨c,hc,rfl⟩:=hx
    exact(bkAt_good h2 b1 b2 b5 b6).mono hle
  ·rcases List.mem_append.1 hg with hg | hg
   ·obtain⟨g1,g2,g3⟩:=h2 g hg
    exact⟨g1,g2,by omega⟩
   ·rw[List.mem_singleton]at hg
    subst hg
    refine⟨hrc.1,hrc.2,?_⟩
    simp only
    rw[hlen]
    obtain⟨C,hC⟩:∃ C:Nat,colsB b=C:=⟨(colsB b).toNat,by omega⟩
    obtain⟨R,hR⟩:∃ C:Nat,rowsB b=C:=⟨(rowsB b).toNat,by omega⟩
    rw[hC,hR]
    simp only[Int.toNat_natCast]
    push_cast
    omega
theorem bkts_good {w h n:Int} (hb:bnOk w h n):∀ b∈bkts w h n,bkGood w h (bkts w h n).length b:=by
 have:=(bkFold_good (w:=w) (h:=h) (l:=bnL w h n) (fun b hm=>by have:=bnL_in hb hm;omega) (bnL w h n).length (Nat.le_refl _)).1
 rw[List.take_length]at this
 exact this
theorem bkts_len {w h n:Int} (hb:bnOk w h n):(bkts w h n).length<=50000:=by
 have hl19:=bnL_le w h n
 have:=(bkFold_len w (l:=bnL w h n) (fun b hm=>by have:=bnL_in hb hm;obtain⟨_,_,q1,q2,q3,q4⟩:=hb;unfold Bd.ok;omega) (bnL w h n).length (Nat.le_refl _)).1
 rw[List.take_length]at this
 unfold bkts
 omega
theorem bkOf_mem {f:Nat->Xf.Loc} {l:List Pb} {x:Bck} (h:x∈bkOf f l):x.b∈l/\x.on=false:=by
 unfold bkOf at h
 rw[List.mem_map]at h
 obtain⟨i,hi,rfl⟩:=h
 rw[List.mem_range]at hi
 refine⟨?_,rfl⟩
 simp only[List.getD_eq_getElem?_getD,List.getElem?_eq_getElem hi,Option.getD_some]
 exact List.getElem_mem hi
theorem st0_wf {a:BgA} (hb:bnOk a.w a.h a.n) (hwh:a.w*a.h<=8192) (f:Nat->Xf.Loc):stWf (st0 a f) (a.w*a.h).toNat/\szWf (st0 a f)/\parOk (st0 a f).list:=by
 have hg:=bkts_good hb
 have hl:=bkts_len hb
 have hp0:0<=a.w*a.h:=Int.mul_nonneg hb.2.2.1 hb.2.2.2.2.1
 refine⟨⟨by simp[st0],by simp[st0],by simp[st0],by simp[st0,bandL_len],by omega,by simp[st0],by simp[st0],by simp only[st0,bkOf_len];exact hl,fun h=>?_,hb.2.2.2.1,fun b hm=>?_⟩,fun x hx=>?_,fun i hi=>?_⟩
 ·show 0<a.w
  rcases Int.lt_or_le 0 a.w with h' | h'
  ·exact h'
  ·have:a.w=0:=by have:=hb.2.2.1;omega
   rw[this,Int.zero_mul]at h
   simp at h
 ·obtain⟨g1,g2,g3,g4⟩:=hg _ (bkOf_mem hm).1
  refine⟨g1,by simp only[st0,bkOf_len];exact g2,g3,fun x hx=>?_⟩
  have:=g4 x hx
  omega
 ·have:x=0:=by have h:=hx;simp[st0]at h;exact h.2
  omega
 ·simp only[st0,bkOf_len]at hi ⊢
  obtain⟨g1,g2,g3,g4⟩:=hg _ (bkOf_mem (by rw[rdBk_nat (by rw[bkOf_len];exact hi)];exact List.getElem_mem _:rdBk (bkOf f (bkts a.w a.h a.n)) i∈bkOf f (bkts a.w a.h a.n))).1
  exact g2
def b4_1:IR:=
 .seq (.seq (r_ [m_ 32 10,c_ 33 .geq 32 0] [32]) (.cond (.t 33) (.skip) (.exit 1))) (.seq (.block 2 (.seq (r_ [m_ 37 8,n_ 38 37,f_ 39 38 5,o_ 40 (.ld false (some 2) 0 0 (.t 39)),o_ 41 (.call (some 4) 27 12 [.t 40]),m_ 36 41,e_ 42 36 0,e_ 43 36 1,o_ 11 (.alloc 31 [.val (.pointer none)]),s_ 1 .i64 11 42,m_ 12 43] [12,33,36,37,38,39,40,41,42,43]) (.seq (r_ [m_ 44 8,m_ 45 10,f_ 46 3 2,l_ 47 46,o_ 48 (.mkf 14 [.t 11]),o_ 49 (.call none 32 13 [.t 44,.t 45,.t 47,.t 48])] [44,45,46,47,48,49]) (.seq (r_ [m_ 50 8,l_ 51 11,o_ 52 (.call (some 4) 36 16 [.t 51]),n_ 53 50,f_ 54 53 5,s_ 2 .i64 54 52] [50,51,52,53,54]) (r_ [m_ 55 9,l_ 56 11,o_ 57 (.call (some 4) 40 17 [.t 56]),o_ 58 (.brecs 44 1 .u8 [.t 57]),o_ 59 (.app 45 1 24 (.t 55) (.t 58)),m_ 9 59] [11,55,56,57,58,59]))))) (r_ [m_ 34 10,c_ 35 .sub 34 1,m_ 10 35] [34,35]))
def r4_2:IR:=
 .seq (r_ [m_ 60 9,m_ 6 60,z_ 7 0] [3,8,9,10,60]) (.ret)
def ir4:IR:=
 .seq (r_ [o_ 3 (.box 10 (.t 0)),o_ 6 (.mov (.k nilSV)),z_ 7 0] [0,6,7]) (.seq (.block 0 (.seq (r_ [o_ 14 (.ld false (some 3) 0 0 (.t 3)),o_ 15 (.call (some 4) 11 8 [.t 14]),o_ 16 (.not (.t 15)),m_ 13 16] [14,15,16]) (.cond (.t 13) (.seq (r_ [o_ 6 (.mov (.k nilSV)),z_ 7 70] [1,2,3,13]) (.ret)) (.seq (r_ [m_ 18 1,m_ 19 2,o_ 20 (.callp 9 [.t 18,.t 19]),o_ 21 (.not (.t 20)),m_ 17 21] [13,18,19,20,21]) (.cond (.t 17) (.seq (r_ [o_ 6 (.mov (.k nilSV)),z_ 7 2] [1,2,3,17]) (.ret)) (.skip)))))) (.seq (r_ [f_ 22 3 0,l_ 23 22,f_ 24 3 1,l_ 25 24,m_ 26 1,m_ 27 2,o_ 28 (.call (some 8) 15 10 [.t 23,.t 25,.t 26,.t 27]),m_ 8 28] [1,2,6,7,17,22,23,24,25,26,27,28]) (.seq (r_ [o_ 9 (.mov (.k nilSV))] []) (.seq (.seq (r_ [o_ 29 (.ld false (some 3) 0 0 (.t 3)),o_ 30 (.call (some 4) 23 11 [.t 29]),c_ 31 .sub 30 1,m_ 10 31] [29,30,31]) (.block 1 (.loop b4_1))) (r4_2)))))
def kp4_1:List Nat:=[3,8,9,10]
def kl4_1:List Nat:=[27,28,29,30,31,32,33,34,35,36,37,38,39,40,41,42,43,44,45]
attribute [push_cast] kp4_1 kl4_1
set_option maxRecDepth 4000 in
theorem comp4:(Tryz.f4.body.bind fun c=>compC tab isP chkAll ir4 c)=some ir4:=by kernel_rfl
def byRc (x:Xf.Loc×List Int):List RC:=[.row x.1 .u8 x.2]
def byOf (f:Nat->Xf.Loc) (l:List (List Int)):List (List RC):=(List.range l.length).map fun i=>byRc (f i,l.getD i [])
theorem byOf_eq {l:List (Xf.Loc×List Int)} {m:List (List Int)} (h:l.map (·.2)=m):byOf (fun i=>(l.getD i (nilLoc,[])).1) m=l.map byRc:=by
 subst h
 unfold byOf
 refine List.ext_getElem (by simp) fun i h1 h2=>?_
 have hi:i<l.length:=by simpa using h2
 simp[List.getD_eq_getElem?_getD,hi]
structure EcA where
 p:Pl
 L:Xf.Loc
 lv:Int
 kd:Int
def encP (p:Pl) (lv kd:Int):List (List Int):=if p.Ok/\argsOk lv kd then encG p.xs (planesP p.xs).toNat (st00 ⟨p.w,p.h,lv,kd⟩) (List.replicate 12 0)else []
def encE (p:Pl) (lv kd:Int):Int:=if p.Ok then (if argsOk lv kd then 0 else 2)else 70
def fs4:FS where
 A:=EcA
 args:=fun a=>[plV a.p a.L 0,.int .i64 a.lv,.int .i64 a.kd]
 mem:=fun a=>[some (.ro,a.L,.ints .i64 a.p.xs)]
 pre:=fun a=>a.p.xs.length<=140737488355328
 res:=fun a x=>.tup [.sl 1 (lx (a.p.Ok/\argsOk a.lv a.kd) x 0) 1 0 (encP a.p a.lv a.kd).length,.int .i64 (encE a.p a.lv a.kd)]
 out:=fun _ _=>[]
 new:=fun a x=>[(lx (a.p.Ok/\argsOk a.lv a.kd) x 0,.recs 1 true [] (byOf (fun i=>x (i+1)) (encP a.p a.lv a.kd)))]
def inv4:List SV->Look->Option (EcA×List Nat)
 | [v,.int .i64 lv,.int .i64 kd],look=>match getP look v with
  | some (a,g)=>some (⟨a.p,a.L,lv,kd⟩,g)
  | none=>none
 | _,_=>none
attribute [push_cast] inv4
theorem newEn_ok {kind:Int} {st:List Int} (h:mdOk kind st):(newEn kind st).ok:=by
 obtain⟨h1,h2⟩:=h
 have e1:(newEn kind st).low=0:=rfl
 have e2:(newEn kind st).high=4294967295:=rfl
 have e3:(newEn kind st).st=st:=rfl
 unfold EnS.ok ivOk2
 rw[e1,e2,e3]
 exact⟨h1,by omega,by decide,by decide,by decide,by decide⟩
theorem zero12_ok {kind:Int} (h:kind=0∨kind=1):mdOk kind (List.replicate 12 0):=by
 refine⟨⟨h,fun s hs=>?_⟩,by simp⟩
 rw[List.eq_of_mem_replicate hs]
 exact⟨by decide,fun _=>by decide,fun _=>by decide⟩
theorem EnS.ok.md {e:EnS} (h:e.ok) (h12:e.st.length=12):mdOk e.kind e.st:=⟨h.1,by omega⟩
theorem lenN_lt {k n:Nat} (h:n<2^k):lenN n<=k:=by
 rcases Nat.lt_or_ge k (lenN n)with hk | hk
 ·have:=(lenN_bd n).2 (by
   rcases Nat.eq_zero_or_pos n with h0 | h0
   ·subst h0;simp[lenN]at hk
   ·exact h0)
  have h2:=Nat.pow_le_pow_right (n:=2) (by decide) (show k<=lenN n-1 by omega)
  omega
 ·exact hk
theorem planesP_bd {xs:List Int} (h:AllIn (-16777216) 16777216 xs):0<=planesP xs/\planesP xs<=25:=by
 have:=maxA_bd (B:=16777216) (by decide) h xs.length (Nat.le_refl _)
 rw[List.take_length]at this
 unfold planesP lenP
 have:lenN (maxA xs).toNat<=25:=lenN_lt (by omega)
 omega
set_option maxHeartbeats 1000000 in
theorem ok4:FSOk Tryz.prog 4 fs4:=by
 refine⟨⟨_,Tryz.func4,by kernel_rfl,by kernel_rfl⟩,fun a=>⟨by simp[fs4,push_cast,noMine,argOwn,Chunk.frArg],by simp[fs4,push_cast,outOk,Chunk.ext],fun x=>.inl (by simp[fs4,push_cast,frNew,frOut,Chunk.fr])⟩,fun a hp=>?_⟩
 obtain⟨⟨w,h,xs⟩,L,lv,kd⟩:=a
 have h1:xs.length<=140737488355328:=hp
 change Tri Tryz.prog 4 [plV ⟨w,h,xs⟩ L 0,.int .i64 lv,.int .i64 kd] [some (.ro,L,.ints .i64 xs)] (postF fs4 ⟨⟨w,h,xs⟩,L,lv,kd⟩)
 refine tri_evS (hyp (l:=[(8,ent8),(10,ent10),(11,ent11),(12,ent12),(13,ent13E),(16,ent16),(17,ent17)]) (lp:=[(9,rightF)]) ⟨e8,e10,e11,e12,e13E,e16,e17,trivial⟩ ⟨p9,trivial⟩) Tryz.func4 comp4 (rs:=[.tmp 6,.tmp 7]) (by rfl) Tryz.ntmps4 46 ?_
 by_cases hok:(⟨w,h,xs⟩:Pl).Ok
 ·by_cases hag:argsOk lv kd
  ·have hE:encE ⟨w,h,xs⟩ lv kd=0:=by unfold encE;rw[if_pos hok,if_pos hag]
   have hP:encP ⟨w,h,xs⟩ lv kd=encG xs (planesP xs).toNat (st00 ⟨w,h,lv,kd⟩) (List.replicate 12 0):=by unfold encP;rw[if_pos ⟨hok,hag⟩]
   obtain⟨⟨a1,a2,a3,a4,a5⟩,b1,hall⟩:=id hok
   simp only at a1 a2 a3 a4 a5 b1 hall
   have hl:=hok.len
   simp only at hl
   have hbn:bnOk w h lv:=⟨hag.1,hag.2.1,by omega,by omega,by omega,by omega⟩
   have hwf:=fun f=>st0_wf (a:=⟨w,h,lv,kd⟩) hbn (by simp only;omega) f
   have hkd:=hag.2.2
   have hpb:=planesP_bd hall
   have her:=fun f=>st0_er ⟨w,h,lv,kd⟩ f
   rw[show st00 ⟨w,h,lv,kd⟩=(st0 ⟨w,h,lv,kd⟩ fun _=>nilLoc).er from (her _).symm]at hP
   have hst:∀ f,st0 ⟨w,h,lv,kd⟩ f=⟨List.replicate (w*h).toNat 0,List.replicate (w*h).toNat false,List.replicate (w*h).toNat 0,0,bkOf f (bkts w h lv),kd,12,bandL w h lv,w⟩:=fun f=>rfl
   obtain⟨P,hPP⟩:∃ P:Nat,planesP xs=P:=⟨(planesP xs).toNat,by omega⟩
   rw[hPP,Int.toNat_natCast]at hP
   rw[hPP]at hpb
   obtain⟨N,hN⟩:∃ N:Nat,w*h=(N:Int):=⟨(w*h).toNat,by omega⟩
   simp only[hN,Int.toNat_natCast]at hst hwf
   simp -implicitDefEqProofs only[push_cast,zz,seval,ir4,fs8,fs11,fs10,hok,hall,hag,hkd,hPP,hbn,hst,stV,hN,Int.toNat_natCast]
   intro X
   repeat refine om_ ?_
   intro X1
   repeat refine om_ ?_
   have hNB:(N:Int)<=8192:=by omega
   obtain⟨ff,hff⟩:∃ f:Nat->Xf.Loc,(fun i=>X1 6 (15+(i+7)))=f:=⟨_,rfl⟩
   rw[hff]
   have hwf0:=hwf ff
   have hALL:encG xs P (st0 ⟨w,h,lv,kd⟩ ff) (List.replicate 12 0)=encP ⟨w,h,xs⟩ lv kd:=by
    rw[hP,her,<-her ff,encG_er xs P _ _ hwf0.2.2]
   simp only[hst]at hwf0 hALL
   obtain⟨BK,hBK⟩:∃ B,bkOf ff (bkts w h lv)=B:=⟨_,rfl⟩
   obtain⟨BL,hBL⟩:∃ B,bandL w h lv=B:=⟨_,rfl⟩
   rw[hBK,hBL]at hwf0 hALL ⊢
   have hBKl:BK.length<=50000:=hwf0.1.2.2.2.2.2.2.2.1
   have hBLl:BL.length=N:=hwf0.1.2.2.2.1
   have hrep0:(List.replicate N (0:Int)).length=N:=List.length_replicate
   have hrepf:(List.replicate N false).length=N:=List.length_replicate
   have hz12:([0,0,0,0,0,0,0,0,0,0,0,0]:List Int)=List.replicate 12 0:=rfl
   have hz12l:(List.replicate 12 (0:Int)).length=12:=List.length_replicate
   have hofw:ofWf xs N:=⟨by omega,fun x hx=>by have:=hall x hx;omega⟩
   have hmd0:=zero12_ok hkd
   rw[hz12]
   obtain⟨Z,hZ⟩:∃ Z,List.replicate 12 (0:Int)=Z:=⟨_,rfl⟩
   rw[hZ]at hALL hmd0 hz12l ⊢
   refine evS_loopU (A:=Nat×StS×List Int×Xf.Loc×List (Xf.Loc×List Int)×Xf.Loc) kp4_1 kl4_1 (fun y=>[(10,.int .i64 (y.1-1)),(9,.sl 24 y.2.2.2.2.2 1 0 y.2.2.2.2.1.length)])
    (fun y=>[(15,.mine,X1 6 15,.ints .i64 y.2.1.size),(16,.mine,X1 6 16,.bools y.2.1.minus),(17,.mine,X1 6 17,.ints .i64 y.2.1.since),(18,.mine,X1 6 18,.recs 4 false [] (y.2.1.list.map Bck.rc)),(19,.mine,y.2.2.2.1,.ints .i64 y.2.2.1),(21,.mine,X1 6 21,.cells (relabs (fun i=>i+14) (stV ⟨X1 6 21,X1 6 15,X1 6 16,X1 6 17,X1 6 18,y.2.2.2.1,X1 6 20⟩ y.2.1))),(24,.mine,y.2.2.2.2.2,.recs 1 true [] (y.2.2.2.2.1.map byRc))])
    (fun y=>y.1<=P/\y.2.2.2.2.1.map (·.2)++encG xs y.1 y.2.1 y.2.2.1=encP ⟨w,h,xs⟩ lv kd/\(stWf y.2.1 N/\szWf y.2.1/\y.2.1.now+y.1=P/\y.2.1.kind=kd/\y.2.1.nst=12/\y.2.1.band=BL/\y.2.1.w=w/\y.2.1.list.length=BK.length)/\mdOk kd y.2.2.1/\y.2.2.1.length=12/\y.2.2.2.2.1.length+y.1=P) (fun y=>y.1)
    (P,⟨List.replicate N 0,List.replicate N false,List.replicate N 0,0,BK,kd,12,BL,w⟩,Z,X1 6 19,[],nilLoc) ⟨Nat.le_refl _,hALL,⟨hwf0.1,hwf0.2.1,by simp only;omega,rfl,rfl,rfl,rfl,rfl⟩,hmd0,hz12l,by simp⟩ (Sub.of (mkG 46 [(0,0),(10,10),(15,15),(16,16),(17,17),(18,18),(19,19),(20,20),(21,21)]) ?_) ?_
   ·simp -implicitDefEqProofs only[push_cast,zz,seval,stV,hrep0,hrepf,hBLl]
   intro ⟨k,s,st,S,rows,M⟩ ⟨(hk:k<=P),(hrows:rows.map (·.2)++encG xs k s st=encP ⟨w,h,xs⟩ lv kd),⟨(hwfs:stWf s N),(hszs:szWf s),(hnow:s.now+k=P),(hkind:s.kind=kd),(hnst:s.nst=12),(hband:s.band=BL),(hw:s.w=w),(hll:s.list.length=BK.length)⟩,(hmd:mdOk kd st),(hst12:st.length=12),(hrl:rows.length+k=P)⟩ K hK
   obtain⟨size,minus,since,now,list,kind',nst',band',w'⟩:=s
   simp only at hnow hkind hnst hband hw hll
   subst hkind hnst hband hw
   obtain⟨p1,p2,p3,p4,p5,p6,p7,p8,p9,p10,p11⟩:=id hwfs
   simp only at p1 p2 p3 p8
   rcases Nat.eq_zero_or_pos k with hk0 | hk0
   ·obtain⟨t,ht⟩:∃ t,(k:Int)-1=t:=⟨_,rfl⟩
    have hc:¬ (0:Int)<=t:=by omega
    rw[hk0,encG,List.append_nil]at hrows
    have hby:=byOf_eq hrows
    have hlen:rows.length=(encP ⟨w',h,xs⟩ lv kind').length:=by rw[<-hrows,List.length_map]
    have hoa:(⟨w',h,xs⟩:Pl).Ok/\argsOk lv kind':=⟨hok,hag⟩
    have h10:∀ i:Nat,¬ i+1=0:=fun i=>by omega
    clear hK
    simp -implicitDefEqProofs only[push_cast,zz,seval,b4_1,ht,hc,r4_2]
    refine postF.mk' (fun j=>if j=0 then M else (rows.getD (j-1) (nilLoc,[])).1) [some 0,some 24] ?_
    simp -implicitDefEqProofs only[push_cast,zz,seval,fs4,hE,hoa,lx,h10,Nat.add_sub_cancel,hby,hlen,hok,hag]
   ·obtain⟨k,rfl⟩:∃ t,k=t+1:=⟨k-1,by omega⟩
    have hc:(0:Int)<=k:=by omega
    have hk1:(k:Int)+1-1=k:=by omega
    have hnew:=newEn_ok hmd
    have hslR:∀ p L LS LO LX F,slR ⟨p,⟨size,minus,since,now,list,kind',12,band',w'⟩,L,LS,LO,LX,⟨kind',st,0,4294967295,[]⟩,F,xs,(k:Int)⟩=encStep xs k ⟨size,minus,since,now,list,kind',12,band',w'⟩ st:=fun _ _ _ _ _ _=>rfl
    have hslok:slOk ⟨size,minus,since,now,list,kind',12,band',w'⟩ ⟨kind',st,0,4294967295,[]⟩ xs (k:Int):=⟨by simp only[p3];exact hwfs,hszs,hnew,hst12,by simp,by simp only[p3];exact hofw,by omega,by omega⟩
    have hinv:=slcE_inv xs (k:Int) (by omega) (by omega) N list.length 0 ⟨size,minus,since,now,list,kind',12,band',w'⟩ (newEn kind' st) hwfs hszs hnew hst12 (by simp)
    have hcons:encG xs (k+1) ⟨size,minus,since,now,list,kind',12,band',w'⟩ st=_:=encG.eq_2 xs ⟨size,minus,since,now,list,kind',12,band',w'⟩ st k
    obtain⟨D,hD⟩:∃ D,encStep xs k ⟨size,minus,since,now,list,kind',12,band',w'⟩ st=D:=⟨_,rfl⟩
    rw[show slcG putG xs (k:Int) list.length 0 ⟨size,minus,since,now,list,kind',12,band',w'⟩ (newEn kind' st)=D from hD]at hinv
    rw[hD]at hcons
    simp only[hD]at hslR
    obtain⟨i1,i2,i3,i4⟩:=hinv
    have hwfD:stWf D.1 N:=i1.wf ⟨p1,p2,p3,p4,p5,by simp only;omega,by simp only;omega,p8,p9,p10,p11⟩
    obtain⟨⟨size2,minus2,since2,now2,list2,kind2,nst2,band2,w2⟩,e2,er2⟩:=D
    obtain⟨j1,j2,j3,j4,j5,j6,j7,j8,j9⟩:=i1
    simp only at j1 j2 j3 j4 j6 j7 j8 j9 i4
    have j6:=j6.symm
    have j8:=j8.symm
    have j9:=j9.symm
    subst j4 j6 j7 j8 j9 i4
    have q1:size2.length=N:=j1.trans p1
    have q2:minus2.length=N:=j2.trans p2
    have q3:since2.length=N:=j3.trans p3
    have q4:list2.length=list.length:=j5.len
    obtain⟨ek,est,elo,ehi,eout⟩:=e2
    obtain⟨t1,t2,t3,t4⟩:=i3
    simp only[newEn]at t2 t3 t4
    obtain rfl:kind'=ek:=t4.symm
    have he12:est.length=12:=t3.trans hst12
    have hmd2:mdOk kind' est:=t1.md he12
    have hout:eout.length<=200000000:=by simp only[List.length_nil]at t2;omega
    obtain⟨code,hcode⟩:∃ c,encEnd ⟨kind',est,elo,ehi,eout⟩=c:=⟨_,rfl⟩
    rw[hcode]at hcons
    rw[hcons]at hrows
    have hcl:code.length<=200000004:=by
     rw[<-hcode];unfold encEnd endP endN
     rw[List.length_append,List.length_map,List.length_range]
     have:∀ n,n<=4->eout.length+n<=200000004:=fun n hn=>by omega
     simp only
     repeat' split
     all_goals exact this _ (by decide)
    have hst12I:(st.length:Int)=12:=by omega
    have he12I:(est.length:Int)=12:=by omega
    simp -implicitDefEqProofs only[push_cast,zz,seval,b4_1,hc,hk1,stV,p1,p2,p3,p4,hll,fs12,mdM,hmd,hst12I,enV,ivV,newEn,fs13E,slM,hslR,hslok,fs16,fs17,enM,q1,q2,q3,q4,t1,hout,hcode,he12I]
    intro X2 X3 X4
    repeat refine om_ ?_
    intro X5
    repeat refine om_ ?_
    refine⟨by rw[List.length_map],by omega,by omega,by omega,?_⟩
    refine hK (k,⟨size2,minus2,since2,now+1,list2,kind',12,band',w'⟩,est,X4 2 36,rows++[((X5 2 40).fr 0,code)],X5 4 45) ⟨by omega,by rw[List.map_append,List.append_assoc];exact hrows,⟨hwfD,i2,by simp only;omega,rfl,rfl,rfl,rfl,by simp only;omega⟩,hmd2,he12,by simp only[List.length_append,List.length_singleton];omega⟩ (Nat.lt_succ_self k) _ _ (Sub.of (mkG 46 [(0,0),(10,10),(15,15),(16,16),(17,17),(18,18),(19,36),(20,20),(21,21),(24,45)]) ?_)
    have hrc:(rows++[((X5 2 40).fr 0,code)]).map byRc=rows.map byRc++[[.row ((X5 2 40).fr 0) .u8 code]]:=by rw[List.map_append];rfl
    simp -implicitDefEqProofs only[push_cast,zz,seval,stV,q1,q2,q3,q4,p4,hll,hrc,he12I,List.length_append,sub_all]
  ·have hE:encE ⟨w,h,xs⟩ lv kd=2:=by unfold encE;rw[if_pos hok,if_neg hag]
   have hP:encP ⟨w,h,xs⟩ lv kd=[]:=by unfold encP;rw[if_neg (fun h=>hag h.2)]
   simp -implicitDefEqProofs only[push_cast,zz,seval,ir4,fs8,hok,hag]
   intro X
   repeat refine om_ ?_
   refine postF.mk' (fun _=>default) [some 0,none] ?_
   have hb:byOf (fun _=>default) []=[]:=rfl
   simp -implicitDefEqProofs only[push_cast,zz,seval,fs4,hE,hP,hok,hag,and_false,lx,hb,List.length_nil]
 ·have hE:encE ⟨w,h,xs⟩ lv kd=70:=by unfold encE;rw[if_neg hok]
  have hP:encP ⟨w,h,xs⟩ lv kd=[]:=by unfold encP;rw[if_neg (fun h=>hok h.1)]
  simp -implicitDefEqProofs only[push_cast,zz,seval,ir4,fs8,hok]
  intro X
  repeat refine om_ ?_
  refine postF.mk' (fun _=>default) [some 0,none] ?_
  have hb:byOf (fun _=>default) []=[]:=rfl
  simp -implicitDefEqProofs only[push_cast,zz,seval,fs4,hE,hP,hok,false_and,lx,hb,List.length_nil]
def ent4:Entry:=spOf fs4 inv4
theorem e4:EntryOk Tryz.prog 4 ent4:=entry_of ok4 inv4
@[push_cast] theorem ent4_app (us:List SV) (look:Look) (x:Nat->Xf.Loc) (k:Nat):ent4 us look x k=spOf fs4 inv4 us look x k:=rfl
def decStep (f:List Int) (t:Int) (s:StS) (st c:List Int):StS×DeS×Int:=slcG getG f t s.list.length 0 s (newDe s.kind st c)
def decG (f:List Int):List (List Int)->Int->StS->List Int->StS×Int
 | [],_,s,_=>(s,0)
 | c::l,t,s,st=>if (decStep f t s st c).2.2=0 then decG f l (t-1) (decStep f t s st c).1 (decStep f t s st c).2.1.st else ((decStep f t s st c).1,(decStep f t s st c).2.2)
theorem decStep_er (f:List Int) (t:Int) (s:StS) (st c:List Int) (h:parOk s.list):decStep f t s.er st c=((decStep f t s st c).1.er,(decStep f t s st c).2):=by
 have:=slcG_er getG f t s.list.length 0 s (newDe s.kind st c) (by omega) h
 unfold decStep
 rw[<-this]
 have e:s.er.list.length=s.list.length:=by simp[StS.er]
 rw[e];rfl
theorem decG_er (f:List Int):∀ (l:List (List Int)) (t:Int) (s:StS) (st:List Int),parOk s.list->decG f l t s.er st=((decG f l t s st).1.er,(decG f l t s st).2)
 | [],t,s,st,_=>rfl
 | c::l,t,s,st,h=>by
  rw[decG,decG,decStep_er f t s st c h]
  simp only
  split
  ·rw[decG_er f l _ (decStep f t s st c).1 _ (h.same (slcG_k getG f t s.list.length 0 s (newDe s.kind st c)))]
  ·rfl
structure DcA where
 w:Int
 h:Int
 lv:Int
 kd:Int
 P:Int
 L:Xf.Loc
 rows:List (Xf.Loc×List Int)
 n:Nat
def decOk (w h lv kd P:Int) (n:Nat):Prop:=(0<=w/\0<=h/\w<=200/\h<=200/\w*h<=8192)/\argsOk lv kd/\0<=P/\P<=25/\n<=P
instance decOk_dec (w h lv kd P:Int) (n:Nat):Decidable (decOk w h lv kd P n):=by unfold decOk;infer_instance
def decR (w h lv kd P:Int) (cs:List (List Int)):StS×Int:=decG (List.replicate (w*h).toNat 0) cs (P-1) (st00 ⟨w,h,lv,kd⟩) (List.replicate 12 0)
def decE (w h lv kd P:Int) (cs:List (List Int)):Int:=if decOk w h lv kd P cs.length then (decR w h lv kd P cs).2 else 2
def decP (w h lv kd P:Int) (cs:List (List Int)):Pl:=if decE w h lv kd P cs=0 then ⟨w,h,plL (decR w h lv kd P cs).1⟩else pl0
def DcA.cs (a:DcA):List (List Int):=(a.rows.take a.n).map (·.2)
def getBy:List (List RC)->Option (List (Xf.Loc×List Int))
 | []=>some []
 | [.row L .u8 xs]::l=>match getBy l with | some r=>some ((L,xs)::r) | none=>none
 | _=>none
theorem getBy_map:∀ l:List (Xf.Loc×List Int),getBy (l.map byRc)=some l
 | []=>rfl
 | g::l=>by
  simp only[List.map_cons,byRc,getBy]
  have:=getBy_map l
  rw[this]
@[push_cast] theorem getBy_map' (l:List (Xf.Loc×List Int)):getBy (l.map byRc)=some l:=getBy_map l
def rowBy (look:Look) (d:Nat):Option (Xf.Loc×List (Xf.Loc×List Int)):=
 bif d==4096 then some (nilLoc,[])else match rowR (look d)with
  | some (L,1,_,r)=>match getBy r with | some l=>some (L,l) | none=>none
  | _=>none
def invDc:List SV->Look->Option (DcA×List Nat)
 | [.int .i64 w,.int .i64 h,.int .i64 lv,.int .i64 kd,.int .i64 P,.sl d _ 1 0 n],look=>match rowBy look d with
  | some (L,rows)=>some (⟨w,h,lv,kd,P,L,rows,n.toNat⟩,[d])
  | none=>none
 | _,_=>none
attribute [push_cast] rowBy invDc
def rowsWf (rows:List (Xf.Loc×List Int)):Prop:=rows.length<=1000000000/\∀ r∈rows,byAll r.2/\r.2.length<=140737488355328
def fs27:FS where
 A:=DcA
 args:=fun a=>[.int .i64 a.w,.int .i64 a.h,.int .i64 a.lv,.int .i64 a.kd,.int .i64 a.P,.sl 0 a.L 1 0 a.n]
 mem:=fun a=>[some (.ro,a.L,.recs 1 false [] (a.rows.map byRc))]
 pre:=fun a=>rowsWf a.rows/\a.n<=a.rows.length
 res:=fun a x=>.tup [plV (decP a.w a.h a.lv a.kd a.P a.cs) (lx (decE a.w a.h a.lv a.kd a.P a.cs=0) x 0) 1,.int .i64 (decE a.w a.h a.lv a.kd a.P a.cs)]
 out:=fun _ _=>[]
 new:=fun a x=>[(lx (decE a.w a.h a.lv a.kd a.P a.cs=0) x 0,.ints .i64 (decP a.w a.h a.lv a.kd a.P a.cs).xs)]
theorem newDe_ok {kind:Int} {st c:List Int} (h:mdOk kind st) (hb:byAll c) (hl:c.length<=140737488355328):(newDe kind st c).ok:=by
 obtain⟨h1,h2⟩:=h
 have hv:=vN_bd hb 4
 exact⟨⟨h1,show st.length<=1000000 by omega,show(0:Int)<=0 by decide,show(0:Int)<4294967295 by decide,show(4294967295:Int)<4294967296 by decide,show ¬ (0:Int) / 16777216=4294967295 / 16777216 by decide⟩,⟨hl,hb,show(0:Int)<=4 by decide,show(4:Int)<=_ by omega,hv.1,hv.2,rfl⟩,show(4:Int)<=c.length+4 by omega⟩
def b27_1:IR:=
 .seq (r_ [b_ 74 .lss 73 72] []) (.seq (.cond (.t 74) (.skip) (.exit 0)) (.seq (.block 1 (.seq (r_ [m_ 75 73,i_ 76 71 73 1,o_ 77 (.ld true none 20 1 (.t 76)),m_ 16 75,m_ 17 77] [74,75,76,77]) (.seq (r_ [m_ 79 14,n_ 80 79,f_ 81 80 5,o_ 82 (.ld false (some 2) 0 0 (.t 81)),m_ 83 17,o_ 84 (.call (some 4) 21 63 [.t 82,.t 83]),m_ 78 84,e_ 85 78 0,e_ 86 78 1,o_ 18 (.alloc 25 [.val (.pointer none)]),s_ 1 .i64 18 85,m_ 19 86] [17,19,78,79,80,81,82,83,84,85,86]) (.seq (r_ [m_ 87 14,m_ 88 4,c_ 89 .sub 88 1,m_ 90 16,b_ 91 .sub 89 90,m_ 92 15,o_ 93 (.mkf 64 [.t 18]),o_ 94 (.call none 26 13 [.t 87,.t 91,.t 92,.t 93]),m_ 20 94] [16,87,88,89,90,91,92,93,94]) (.seq (.seq (r_ [m_ 95 20,c_ 96 .neq 95 0] [95]) (.cond (.t 96) (.seq (r_ [o_ 97 (.build [y_,y_,nilSV] []),m_ 98 20,s_ 3 .i64 12 97,m_ 13 98] [0,1,4,14,15,18,20,71,72,73,96,97,98]) (.ret)) (.skip))) (r_ [m_ 99 14,l_ 100 18,o_ 101 (.call (some 4) 30 66 [.t 100]),n_ 102 99,f_ 103 102 5,s_ 2 .i64 103 101] [13,18,20,96,99,100,101,102,103])))))) (r_ [a_ 104 73 1,m_ 73 104] [104])))
def r27_2:IR:=
 .seq (r_ [m_ 105 14,m_ 106 0,m_ 107 1,o_ 108 (.call (some 4) 34 67 [.t 105,.t 106,.t 107]),s_ 3 .i64 12 108,z_ 13 0] [0,1,4,14,15,71,72,73,105,106,107,108]) (.ret)
def ir27:IR:=
 .seq (r_ [o_ 12 (.alloc 10 [y_,y_,nilSV]),z_ 13 0] [13]) (.seq (.seq (r_ [m_ 21 0,c_ 22 .lss 21 0,m_ 23 22,q_ 23 (m_ 24 1),q_ 23 (c_ 25 .lss 24 0),k_ 26 23 25,m_ 27 26,q_ 27 (m_ 28 0),q_ 27 (c_ 29 .gtr 28 200),k_ 30 27 29,m_ 31 30,q_ 31 (m_ 32 1),q_ 31 (c_ 33 .gtr 32 200),k_ 34 31 33,m_ 35 34,q_ 35 (m_ 36 0),q_ 35 (m_ 37 1),q_ 35 (b_ 38 .mul 36 37),q_ 35 (c_ 39 .gtr 38 8192),k_ 40 35 39,m_ 41 40,q_ 41 (m_ 42 2),q_ 41 (m_ 43 3),q_ 41 (o_ 44 (.callp 9 [.t 42,.t 43])),q_ 41 (o_ 45 (.not (.t 44))),k_ 46 41 45,m_ 47 46,q_ 47 (m_ 48 4),q_ 47 (c_ 49 .lss 48 0),k_ 50 47 49,m_ 51 50,q_ 51 (m_ 52 4),q_ 51 (c_ 53 .gtr 52 25),k_ 54 51 53,m_ 55 54,q_ 55 (m_ 56 5),q_ 55 (h_ 57 56),q_ 55 (m_ 58 4),q_ 55 (b_ 59 .gtr 57 58),k_ 60 55 59] [21,22,23,24,25,26,27,28,29,30,31,32,33,34,35,36,37,38,39,40,41,42,43,44,45,46,47,48,49,50,51,52,53,54,55,56,57,58,59]) (.cond (.t 60) (.seq (r_ [o_ 61 (.build [y_,y_,nilSV] []),s_ 3 .i64 12 61,z_ 13 2] [0,1,2,3,4,5,60,61]) (.ret)) (.skip))) (.seq (r_ [m_ 62 0,m_ 63 1,m_ 64 2,m_ 65 3,o_ 66 (.call (some 8) 11 10 [.t 62,.t 63,.t 64,.t 65]),m_ 14 66] [2,3,13,60,62,63,64,65,66]) (.seq (r_ [m_ 67 0,m_ 68 1,b_ 69 .mul 67 68,o_ 70 (.mks 19 (.int .i64 0) 8 (.t 69) (.t 69)),m_ 15 70] [67,68,69,70]) (.seq (.seq (r_ [m_ 71 5,h_ 72 71,z_ 73 0] [5]) (.block 0 (.loop b27_1))) (r27_2)))))
def kp27_1:List Nat:=[0,1,4,12,14,15,71,72,73]
def kl27_1:List Nat:=[20,21,22,23,24,25,26,27,28,29,30,31,32,33]
attribute [push_cast] kp27_1 kl27_1
set_option maxRecDepth 4000 in
theorem comp27:(Tryz.f27.body.bind fun c=>compC tab isP chkAll ir27 c)=some ir27:=by kernel_rfl
theorem recAt_By {l:List (Xf.Loc×List Int)} {i:Nat} (h:i<l.length) (z:List RC):recAt (i:Int) z (l.map byRc)=[.row (l[i]).1 .u8 (l[i]).2]:=by
 simp[recAt,h,byRc]
theorem decG_cons (f:List Int) {cs:List (List Int)} {i:Nat} (h:i<cs.length) (t:Int) (s:StS) (st:List Int):decG f (cs.drop i) t s st=if (decStep f t s st cs[i]).2.2=0 then decG f (cs.drop (i+1)) (t-1) (decStep f t s st cs[i]).1 (decStep f t s st cs[i]).2.1.st else ((decStep f t s st cs[i]).1,(decStep f t s st cs[i]).2.2):=by
 rw[List.drop_eq_getElem_cons h,decG]
set_option maxHeartbeats 4000000 in
theorem ok27:FSOk Tryz.prog 27 fs27:=by
 refine⟨⟨_,Tryz.func27,by kernel_rfl,by kernel_rfl⟩,fun a=>⟨by simp[fs27,push_cast,noMine,argOwn,Chunk.frArg],by simp[fs27,push_cast,outOk,Chunk.ext],fun x=>.inl (by simp[fs27,push_cast,frNew,frOut,Chunk.fr])⟩,fun a hp=>?_⟩
 obtain⟨w,h,lv,kd,P,L,rows,n⟩:=a
 obtain⟨⟨h1,h2⟩,h3⟩:rowsWf rows/\n<=rows.length:=hp
 have hcs:(⟨w,h,lv,kd,P,L,rows,n⟩:DcA).cs=(rows.take n).map (·.2):=rfl
 have hcsl:((rows.take n).map (·.2)).length=n:=by rw[List.length_map,List.length_take];omega
 have hmapl:(rows.map byRc).length=rows.length:=List.length_map _
 change Tri Tryz.prog 27 [.int .i64 w,.int .i64 h,.int .i64 lv,.int .i64 kd,.int .i64 P,.sl 0 L 1 0 n] [some (.ro,L,.recs 1 false [] (rows.map byRc))] (postF fs27 ⟨w,h,lv,kd,P,L,rows,n⟩)
 obtain⟨CS,hCS⟩:∃ c,(rows.take n).map (·.2)=c:=⟨_,rfl⟩
 rw[hCS]at hcs hcsl
 obtain⟨E,hE⟩:∃ E,decE w h lv kd P CS=E:=⟨_,rfl⟩
 obtain⟨Q,hQeq⟩:∃ Q,decP w h lv kd P CS=Q:=⟨_,rfl⟩
 have hQ0:¬ E=0->Q=pl0:=fun h=>by rw[<-hQeq];unfold decP;rw[hE,if_neg h]
 have hQ1:E=0->Q=⟨w,h,plL (decR w h lv kd P CS).1⟩:=fun h=>by rw[<-hQeq];unfold decP;rw[hE,if_pos h]
 refine tri_evS (hyp (l:=[(10,ent10),(63,ent63),(13,ent13D),(66,ent66),(67,ent67)]) (lp:=[(9,rightF)]) ⟨e10,e63,e13D,e66,e67,trivial⟩ ⟨p9,trivial⟩) Tryz.func27 comp27 (rs:=[.cell 12 (some 3),.tmp 13]) (by rfl) Tryz.ntmps27 38 ?_
 have hmulb:0<=w->w<=200->0<=h->h<=200->0<=w*h/\w*h<=40000:=fun a b c d=>by have:=mul_bd a b c d;omega
 by_cases hok:decOk w h lv kd P n
 ·obtain⟨⟨a1,a2,a3,a4,a5⟩,hag,a6,a7,a8⟩:=id hok
  have hEE:E=(decR w h lv kd P CS).2:=by rw[<-hE];unfold decE;rw[hcsl,if_pos hok]
  have hbn:bnOk w h lv:=⟨hag.1,hag.2.1,by omega,by omega,by omega,by omega⟩
  have hwf:=fun f=>st0_wf (a:=⟨w,h,lv,kd⟩) hbn (by simp only;omega) f
  have hkd:=hag.2.2
  have her:=fun f=>st0_er ⟨w,h,lv,kd⟩ f
  have hst:∀ f,st0 ⟨w,h,lv,kd⟩ f=⟨List.replicate (w*h).toNat 0,List.replicate (w*h).toNat false,List.replicate (w*h).toNat 0,0,bkOf f (bkts w h lv),kd,12,bandL w h lv,w⟩:=fun f=>rfl
  have hR:decR w h lv kd P CS=decG (List.replicate (w*h).toNat 0) CS (P-1) (st00 ⟨w,h,lv,kd⟩) (List.replicate 12 0):=rfl
  have hwh0:=(hmulb a1 a3 a2 a4).1
  obtain⟨N,hN⟩:∃ N:Nat,w*h=(N:Int):=⟨(w*h).toNat,by omega⟩
  simp only[hN,Int.toNat_natCast]at hst hwf hR
  have c1:¬ w<0:=by omega
  have c2:¬ h<0:=by omega
  have c3:¬ 200<w:=by omega
  have c4:¬ 200<h:=by omega
  have c5:¬ (8192:Int)<N:=by omega
  have c6:¬ P<0:=by omega
  have c7:¬ 25<P:=by omega
  have c8:¬ P<n:=by omega
  have c9:(N:Int)<=8192:=by omega
  simp -implicitDefEqProofs only[push_cast,zz,seval,ir27,fs10,c1,c2,c3,c4,c5,c6,c7,c8,hag,hkd,hbn,hst,stV,hN,c9,Int.toNat_natCast]
  intro X
  repeat refine om_ ?_
  intro X1 X2
  repeat refine om_ ?_
  obtain⟨ff,hff⟩:∃ f:Nat->Xf.Loc,(fun i=>X1 4 (11+(i+7)))=f:=⟨_,rfl⟩
  rw[hff]
  have hwf0:=hwf ff
  obtain⟨FZ,hFZ⟩:∃ Z,List.replicate N (0:Int)=Z:=⟨_,rfl⟩
  have hALL:plL (decG FZ CS (P-1) (st0 ⟨w,h,lv,kd⟩ ff) (List.replicate 12 0)).1=plL (decR w h lv kd P CS).1/\(decG FZ CS (P-1) (st0 ⟨w,h,lv,kd⟩ ff) (List.replicate 12 0)).2=E:=by
   rw[hEE,hR,<-her ff,decG_er _ CS _ _ _ hwf0.2.2,hFZ]
   exact⟨rfl,rfl⟩
  obtain⟨RR,hRR⟩:∃ R,decG FZ CS (P-1) (st0 ⟨w,h,lv,kd⟩ ff) (List.replicate 12 0)=R:=⟨_,rfl⟩
  rw[hRR]at hALL
  simp only[hst]at hwf0 hRR
  rw[hFZ]at hwf0 hRR ⊢
  obtain⟨BK,hBK⟩:∃ B,bkOf ff (bkts w h lv)=B:=⟨_,rfl⟩
  obtain⟨BL,hBL⟩:∃ B,bandL w h lv=B:=⟨_,rfl⟩
  rw[hBK,hBL]at hwf0 hRR ⊢
  have hBKl:BK.length<=50000:=hwf0.1.2.2.2.2.2.2.2.1
  have hBLl:BL.length=N:=hwf0.1.2.2.2.1
  have hrep0:FZ.length=N:=by rw[<-hFZ];exact List.length_replicate
  have hrepf:(List.replicate N false).length=N:=List.length_replicate
  have hz12:([0,0,0,0,0,0,0,0,0,0,0,0]:List Int)=List.replicate 12 0:=rfl
  have hz12l:(List.replicate 12 (0:Int)).length=12:=List.length_replicate
  have hofw:ofWf FZ N:=⟨hrep0,fun x hx=>by rw[<-hFZ]at hx;have:=List.eq_of_mem_replicate hx;omega⟩
  have hmd0:=zero12_ok hkd
  rw[hz12]
  obtain⟨Z,hZ⟩:∃ Z,List.replicate 12 (0:Int)=Z:=⟨_,rfl⟩
  rw[hZ]at hRR hmd0 hz12l ⊢
  refine evS_loopU (A:=Nat×StS×List Int×Xf.Loc) kp27_1 kl27_1 (fun y=>[(73,.int .i64 y.1)])
   (fun y=>[(11,.mine,X1 4 11,.ints .i64 y.2.1.size),(12,.mine,X1 4 12,.bools y.2.1.minus),(13,.mine,X1 4 13,.ints .i64 y.2.1.since),(14,.mine,X1 4 14,.recs 4 false [] (y.2.1.list.map Bck.rc)),(15,.mine,y.2.2.2,.ints .i64 y.2.2.1),(17,.mine,X1 4 17,.cells (relabs (fun i=>i+10) (stV ⟨X1 4 17,X1 4 11,X1 4 12,X1 4 13,X1 4 14,y.2.2.2,X1 4 16⟩ y.2.1)))])
   (fun y=>y.1<=n/\decG FZ (CS.drop y.1) (P-1-y.1) y.2.1 y.2.2.1=RR/\(stWf y.2.1 N/\szWf y.2.1/\y.2.1.now=y.1/\y.2.1.kind=kd/\y.2.1.nst=12/\y.2.1.band=BL/\y.2.1.w=w/\y.2.1.list.length=BK.length)/\mdOk kd y.2.2.1/\y.2.2.1.length=12) (fun y=>n-y.1)
   (0,⟨FZ,List.replicate N false,FZ,0,BK,kd,12,BL,w⟩,Z,X1 4 15) ⟨Nat.zero_le _,by simp only[List.drop_zero];rw[show P-1-((0:Nat):Int)=P-1 by omega];exact hRR,⟨hwf0.1,hwf0.2.1,rfl,rfl,rfl,rfl,rfl,rfl⟩,hmd0,hz12l⟩ (Sub.of (mkG 38 [(0,0),(10,10),(11,11),(12,12),(13,13),(14,14),(15,15),(16,16),(17,17),(19,19)]) ?_) ?_
  ·simp -implicitDefEqProofs only[push_cast,zz,seval,stV,hrep0,hrepf,hBLl]
  intro ⟨i,s,st,S⟩ ⟨(hi:i<=n),(hrows:decG FZ (CS.drop i) (P-1-i) s st=RR),⟨(hwfs:stWf s N),(hszs:szWf s),(hnow:s.now=i),(hkind:s.kind=kd),(hnst:s.nst=12),(hband:s.band=BL),(hw:s.w=w),(hll:s.list.length=BK.length)⟩,(hmd:mdOk kd st),(hst12:st.length=12)⟩ K hK
  obtain⟨size,minus,since,now,list,kind',nst',band',w'⟩:=s
  simp only at hnow hkind hnst hband hw hll
  subst hkind hnst hband hw
  obtain⟨p1,p2,p3,p4,p5,p6,p7,p8,p9,p10,p11⟩:=id hwfs
  simp only at p1 p2 p3 p8
  by_cases hi':i<n
  ·have hii:(i:Int)<n:=by omega
   have hk1:P-1-(i:Int)=P-1-i:=rfl
   have hir:i<rows.length:=by omega
   have rr:=recAt_By hir []
   have hci:i<CS.length:=by omega
   have hrow:CS[i]=rows[i].2:=by
    simp only[<-hCS,List.getElem_map,List.getElem_take]
   have hcons:=decG_cons FZ hci (P-1-i) ⟨size,minus,since,now,list,kind',12,band',w'⟩ st
   rw[hrow,hrows]at hcons
   obtain⟨hby,hcl⟩:=h2 _ (List.getElem_mem hir)
   obtain⟨⟨LR,code⟩,hrc⟩:∃ r,rows[i]=r:=⟨_,rfl⟩
   rw[hrc]at rr hcons hby hcl
   simp only at rr hcons hby hcl
   obtain⟨t,ht⟩:∃ t:Int,P-1-(i:Int)=t:=⟨_,rfl⟩
   have ht2:P-1-((i+1:Nat):Int)=t-1:=by omega
   rw[ht]at hcons
   have hnew:=newDe_ok hmd hby hcl
   have hslR:∀ p L LS LO LX F,sqR ⟨p,⟨size,minus,since,now,list,kind',12,band',w'⟩,L,LS,LO,LX,⟨kind',st,0,4294967295,code,4,vN code 4,beyP code 4,false⟩,F,FZ,t⟩=decStep FZ t ⟨size,minus,since,now,list,kind',12,band',w'⟩ st code:=fun _ _ _ _ _ _=>rfl
   have hslok:sqOk ⟨size,minus,since,now,list,kind',12,band',w'⟩ ⟨kind',st,0,4294967295,code,4,vN code 4,beyP code 4,false⟩ FZ t:=⟨by simp only[p3];exact hwfs,hszs,hnew,hst12,by simp only[p3];exact hofw,by omega,by omega⟩
   have hinv:=slcD_inv FZ t (by omega) (by omega) N list.length 0 ⟨size,minus,since,now,list,kind',12,band',w'⟩ (newDe kind' st code) hwfs hszs hnew hst12 (by simp)
   have hlenD:=slcG_k getG FZ t list.length 0 ⟨size,minus,since,now,list,kind',12,band',w'⟩ (newDe kind' st code)
   obtain⟨D,hD⟩:∃ D,decStep FZ t ⟨size,minus,since,now,list,kind',12,band',w'⟩ st code=D:=⟨_,rfl⟩
   rw[show slcG getG FZ t list.length 0 ⟨size,minus,since,now,list,kind',12,band',w'⟩ (newDe kind' st code)=D from hD]at hinv hlenD
   rw[hD]at hcons
   simp only[hD]at hslR
   obtain⟨i1,i2,i3⟩:=hinv
   obtain⟨⟨size2,minus2,since2,now2,list2,kind2,nst2,band2,w2⟩,⟨ek,est,elo,ehi,ecode,eat,ev,ebe,een⟩,er2⟩:=D
   obtain⟨t1,t2,t3,t4⟩:=i3
   simp only[newDe]at t2 t3 t4
   obtain rfl:kind'=ek:=t3.symm
   obtain rfl:code=ecode:=t4.symm
   have he12:est.length=12:=t2.trans hst12
   have hst12I:(st.length:Int)=12:=by omega
   have he12I:(est.length:Int)=12:=by omega
   by_cases her2:er2=0
   ·subst her2
    have i1:=i1 rfl
    rw[if_pos rfl]at hcons
    have hwfD:=i1.wf (n:=N) ⟨p1,p2,p3,p4,p5,by simp only;omega,by simp only;omega,p8,p9,p10,p11⟩
    obtain⟨j1,j2,j3,j4,j5,j6,j7,j8,j9⟩:=i1
    simp only at j1 j2 j3 j4 j6 j7 j8 j9
    have j6:=j6.symm
    have j8:=j8.symm
    have j9:=j9.symm
    subst j4 j6 j7 j8 j9
    have q1:size2.length=N:=j1.trans p1
    have q2:minus2.length=N:=j2.trans p2
    have q3:since2.length=N:=j3.trans p3
    have q4:list2.length=list.length:=j5.len
    have hmd2:mdOk kind' est:=⟨t1.1.1,by omega⟩
    simp -implicitDefEqProofs only[push_cast,zz,seval,b27_1,hii,rr,hmapl,ht,stV,p1,p2,p3,p4,hll,fs63,mdM,hmd,hby,hcl,hst12I,deV,deT,ivV,newDe,fs13D,sqM,hslR,hslok,fs66,deM,q1,q2,q3,q4,t1,he12I]
    repeat refine om_ ?_
    intro X3
    repeat refine om_ ?_
    intro X4
    repeat refine om_ ?_
    refine hK (i+1,⟨size2,minus2,since2,now+1,list2,kind',12,band',w'⟩,est,X4 2 30) ⟨by omega,by rw[ht2];exact hcons.symm,⟨hwfD,i2,by simp only;omega,rfl,rfl,rfl,rfl,by simp only;omega⟩,hmd2,he12⟩ (show n-(i+1)<n-i by omega) _ _ (Sub.of (mkG 38 [(0,0),(10,10),(11,11),(12,12),(13,13),(14,14),(15,30),(16,16),(17,17),(19,19)]) ?_)
    simp -implicitDefEqProofs only[push_cast,zz,seval,stV,q1,q2,q3,q4,p4,hll,he12I]
   ·rw[if_neg her2]at hcons
    subst hcons
    have hEr:E=er2:=hALL.2.symm
    have hQ:=hQ0 (by rw[hEr];exact her2)
    have hE2:¬ E=0:=by rw[hEr];exact her2
    have hrn:∀ n:Nat,n=n:=fun _=>rfl
    clear hK
    simp -implicitDefEqProofs only[push_cast,zz,seval,b27_1,hii,rr,hmapl,ht,stV,p1,p2,p3,p4,hll,fs63,mdM,hmd,hby,hcl,hst12I,deV,deT,ivV,newDe,fs13D,sqM,hslR,hslok,her2]
    repeat refine om_ ?_
    intro X3
    repeat refine om_ ?_
    refine postF.mk' (fun _=>default) [some 0,none] ?_
    simp -implicitDefEqProofs only[push_cast,zz,seval,fs27,hcs,hE,hQeq,hQ,pl0,lx,hEr,her2,List.length_nil]
  ·have hin:i=n:=by omega
   subst hin
   have hdn:CS.drop i=[]:=by rw[<-hcsl,List.drop_length]
   rw[hdn,decG]at hrows
   subst hrows
   have hE0:E=0:=hALL.2.symm
   have hQ:=hQ1 hE0
   rw[<-hALL.1]at hQ
   clear hK
   have hwf2:stWf ⟨size,minus,since,now,list,kind',12,band',w'⟩ since.length:=by rw[p3];exact hwfs
   have hsz2:szWf ⟨size,minus,since,now,list,kind',12,band',w'⟩:=hszs
   have hpll:(plL ⟨size,minus,since,now,list,kind',12,band',w'⟩).length=(plL ⟨size,minus,since,now,list,kind',12,band',w'⟩).length:=rfl
   obtain⟨PL,hPL⟩:∃ p,plL ⟨size,minus,since,now,list,kind',12,band',w'⟩=p:=⟨_,rfl⟩
   rw[hPL]at hQ
   simp -implicitDefEqProofs only[push_cast,zz,seval,b27_1,Int.lt_irrefl,r27_2,stV,p1,p2,p3,p4,hll,fs67,stM,hwfs,hsz2,hPL,hN]
   repeat refine om_ ?_
   intro X3
   repeat refine om_ ?_
   refine postF.mk' (fun _=>X3 3 34) [some 0,some 34] ?_
   simp -implicitDefEqProofs only[push_cast,zz,seval,fs27,hcs,hE,hQeq,hQ,lx,hE0]
 ·have hEE:E=2:=by rw[<-hE];unfold decE;rw[hcsl,if_neg hok]
  have hE2:¬ E=0:=by omega
  have h20:¬ (2:Int)=0:=by decide
  have hQ:=hQ0 hE2
  by_cases c0:w<0
  ·simp -implicitDefEqProofs only[push_cast,zz,seval,ir27,c0]
   intro X
   repeat refine om_ ?_
   refine postF.mk' (fun _=>default) [some 0,none] ?_
   simp -implicitDefEqProofs only[push_cast,zz,seval,fs27,hcs,hE,hQeq,hQ,pl0,lx,hEE,h20,List.length_nil]
  by_cases c1:h<0
  ·simp -implicitDefEqProofs only[push_cast,zz,seval,ir27,c0,c1]
   intro X
   repeat refine om_ ?_
   refine postF.mk' (fun _=>default) [some 0,none] ?_
   simp -implicitDefEqProofs only[push_cast,zz,seval,fs27,hcs,hE,hQeq,hQ,pl0,lx,hEE,h20,List.length_nil]
  by_cases c2:200<w
  ·simp -implicitDefEqProofs only[push_cast,zz,seval,ir27,c0,c1,c2]
   intro X
   repeat refine om_ ?_
   refine postF.mk' (fun _=>default) [some 0,none] ?_
   simp -implicitDefEqProofs only[push_cast,zz,seval,fs27,hcs,hE,hQeq,hQ,pl0,lx,hEE,h20,List.length_nil]
  by_cases c3:200<h
  ·simp -implicitDefEqProofs only[push_cast,zz,seval,ir27,c0,c1,c2,c3]
   intro X
   repeat refine om_ ?_
   refine postF.mk' (fun _=>default) [some 0,none] ?_
   simp -implicitDefEqProofs only[push_cast,zz,seval,fs27,hcs,hE,hQeq,hQ,pl0,lx,hEE,h20,List.length_nil]
  have hm:=hmulb (by omega) (by omega) (by omega) (by omega)
  by_cases c4:8192<w*h
  ·simp -implicitDefEqProofs only[push_cast,zz,seval,ir27,c0,c1,c2,c3,c4]
   intro X
   repeat refine om_ ?_
   refine postF.mk' (fun _=>default) [some 0,none] ?_
   simp -implicitDefEqProofs only[push_cast,zz,seval,fs27,hcs,hE,hQeq,hQ,pl0,lx,hEE,h20,List.length_nil]
  by_cases c5:argsOk lv kd
  rotate_left
  ·simp -implicitDefEqProofs only[push_cast,zz,seval,ir27,c0,c1,c2,c3,c4,c5]
   intro X
   repeat refine om_ ?_
   refine postF.mk' (fun _=>default) [some 0,none] ?_
   simp -implicitDefEqProofs only[push_cast,zz,seval,fs27,hcs,hE,hQeq,hQ,pl0,lx,hEE,h20,List.length_nil]
  by_cases c6:P<0
  ·simp -implicitDefEqProofs only[push_cast,zz,seval,ir27,c0,c1,c2,c3,c4,c5,c6]
   intro X
   repeat refine om_ ?_
   refine postF.mk' (fun _=>default) [some 0,none] ?_
   simp -implicitDefEqProofs only[push_cast,zz,seval,fs27,hcs,hE,hQeq,hQ,pl0,lx,hEE,h20,List.length_nil]
  by_cases c7:25<P
  ·simp -implicitDefEqProofs only[push_cast,zz,seval,ir27,c0,c1,c2,c3,c4,c5,c6,c7]
   intro X
   repeat refine om_ ?_
   refine postF.mk' (fun _=>default) [some 0,none] ?_
   simp -implicitDefEqProofs only[push_cast,zz,seval,fs27,hcs,hE,hQeq,hQ,pl0,lx,hEE,h20,List.length_nil]
  by_cases c8:P<n
  ·simp -implicitDefEqProofs only[push_cast,zz,seval,ir27,c0,c1,c2,c3,c4,c5,c6,c7,c8]
   intro X
   repeat refine om_ ?_
   refine postF.mk' (fun _=>default) [some 0,none] ?_
   simp -implicitDefEqProofs only[push_cast,zz,seval,fs27,hcs,hE,hQeq,hQ,pl0,lx,hEE,h20,List.length_nil]
  exact absurd ⟨⟨by omega,by omega,by omega,by omega,by omega⟩,c5,by omega,by omega,by omega⟩ hok
def ent27:Entry:=spOf fs27 invDc
theorem e27:EntryOk Tryz.prog 27 ent27:=entry_of ok27 invDc
@[push_cast] theorem ent27_app (us:List SV) (look:Look) (x:Nat->Xf.Loc) (k:Nat):ent27 us look x k=spOf fs27 invDc us look x k:=rfl
def ir7:IR:=
 .seq (r_ [o_ 0 (.mov (.k (.bool false)))] [0]) (.seq (r_ [o_ 8 (.bslice 10 [Z_ (-5)]),o_ 9 (.build [y_,y_,nilSV] [(0,1,Z_ 1),(1,1,Z_ 1),(2,1,.t 8)]),o_ 1 (.alloc 11 [y_,y_,nilSV]),s_ 3 .i64 1 9] [8,9]) (.seq (r_ [o_ 11 (.ld false (some 3) 0 0 (.t 1)),o_ 12 (.call (some 4) 12 26 [.t 11]),m_ 10 12,e_ 13 10 0,e_ 14 10 1,m_ 2 13,m_ 3 14] [10,11,12,13,14]) (.seq (r_ [o_ 16 (.ld false (some 3) 0 0 (.t 1)),o_ 17 (.call (some 4) 16 4 [.t 16,Z_ 1,Z_ 0]),m_ 15 17,e_ 18 15 0,e_ 19 15 1,m_ 4 18,m_ 5 19] [15,16,17,18,19]) (.seq (r_ [m_ 21 4,o_ 22 (.call (some 4) 20 27 [Z_ 1,Z_ 1,Z_ 1,Z_ 0,Z_ 3,.t 21]),m_ 20 22,e_ 23 20 0,e_ 24 20 1,o_ 6 (.alloc 24 [y_,y_,nilSV]),s_ 3 .i64 6 23,m_ 7 24] [4,20,21,22,23,24]) (.seq (r_ [m_ 25 2,c_ 26 .eql 25 3,m_ 27 26,p_ 27 (m_ 28 3),p_ 27 (c_ 29 .eql 28 0),K_ 30 27 29,m_ 31 30,p_ 31 (m_ 32 5),p_ 31 (c_ 33 .eql 32 0),K_ 34 31 33,m_ 35 34,p_ 35 (m_ 36 7),p_ 35 (c_ 37 .eql 36 0),K_ 38 35 37,m_ 39 38,p_ 39 (o_ 40 (.ld false (some 3) 0 0 (.t 1))),p_ 39 (o_ 41 (.ld false (some 3) 0 0 (.t 6))),p_ 39 (o_ 42 (.call (some 4) 25 28 [.t 40,.t 41])),K_ 43 39 42,m_ 0 43] [1,2,3,5,6,7,25,26,27,28,29,30,31,32,33,34,35,36,37,38,39,40,41,42,43]) (.ret))))))
set_option maxRecDepth 4000 in
theorem comp7:(Tryz.f7.body.bind fun c=>compC tab isP chkAll ir7 c)=some ir7:=by kernel_rfl
def five:Pl:=⟨1,1,[-5]⟩
theorem five_ok:five.Ok:=by decide +kernel
theorem five_planes:planesP [-5]=3:=by decide +kernel
theorem five_enc:encE five 1 0=0:=by decide +kernel
theorem five_dec:decE 1 1 1 0 3 (encP five 1 0)=0:=by decide +kernel
theorem five_back:decP 1 1 1 0 3 (encP five 1 0)=five:=by
 have h:(decP 1 1 1 0 3 (encP five 1 0)).w=1/\(decP 1 1 1 0 3 (encP five 1 0)).h=1/\(decP 1 1 1 0 3 (encP five 1 0)).xs=[-5]:=by decide +kernel
 obtain⟨⟨a,b,c⟩,hp⟩:∃ p,decP 1 1 1 0 3 (encP five 1 0)=p:=⟨_,rfl⟩
 rw[hp]at h ⊢
 obtain⟨rfl,rfl,rfl⟩:=h
 rfl
theorem five_len:(encP five 1 0).length=3:=by decide +kernel
theorem five_by:∀ c∈encP five 1 0,(∀ b∈c,0<=b/\b<=255)/\c.length<=1000:=by decide +kernel
def byL (f:Nat->Xf.Loc) (l:List (List Int)):List (Xf.Loc×List Int):=(List.range l.length).map fun i=>(f i,l.getD i [])
theorem byOf_map (f:Nat->Xf.Loc) (l:List (List Int)):byOf f l=(byL f l).map byRc:=by unfold byOf byL;rw[List.map_map];rfl
theorem byL_snd (f:Nat->Xf.Loc) (l:List (List Int)):(byL f l).map (·.2)=l:=by
 unfold byL
 refine List.ext_getElem (by simp) fun i h1 h2=>?_
 simp[List.getD_eq_getElem?_getD,h2]
theorem byL_len (f:Nat->Xf.Loc) (l:List (List Int)):(byL f l).length=l.length:=by unfold byL;simp
theorem byL_mem {f:Nat->Xf.Loc} {l:List (List Int)} {r:Xf.Loc×List Int} (h:r∈byL f l):r.2∈l:=by
 have:=byL_snd f l
 rw[<-this]
 exact List.mem_map.2 ⟨r,h,rfl⟩
def fs7:FS where
 A:=Unit
 args:=fun _=>[]
 mem:=fun _=>[]
 pre:=fun _=>True
 res:=fun _ _=>.bool true
 out:=fun _ _=>[]
 new:=fun _ _=>[]
def inv7:List SV->Look->Option (Unit×List Nat)
 | [],_=>some ((),[])
 | _,_=>none
attribute [push_cast] inv7
theorem ok7:FSOk Tryz.prog 7 fs7:=by
 refine⟨⟨_,Tryz.func7,by kernel_rfl,by kernel_rfl⟩,fun a=>⟨by simp[fs7,push_cast,noMine,argOwn,Chunk.frArg],by simp[fs7,push_cast,outOk,Chunk.ext],fun x=>.inl (by simp[fs7,push_cast,frNew,frOut,Chunk.fr])⟩,fun a hp=>?_⟩
 change Tri Tryz.prog 7 [] [] (postF fs7 a)
 have o1:(⟨1,1,[-5]⟩:Pl).Ok:=five_ok
 have o2:=five_planes
 have o3:encE ⟨1,1,[-5]⟩ 1 0=0:=five_enc
 have o4:=five_dec
 have o5:=five_back
 have o6:=five_len
 have o7:=five_by
 have o8:argsOk 1 0:=by decide
 have e0:five=⟨1,1,[-5]⟩:=rfl
 rw[e0]at o4 o5 o6 o7
 obtain⟨CS,hCS⟩:∃ c,encP ⟨1,1,[-5]⟩ 1 0=c:=⟨_,rfl⟩
 rw[hCS]at o4 o5 o6 o7
 have hm:=fun f=>byOf_map f CS
 have hw:∀ f,rowsWf (byL f CS):=fun f=>⟨by rw[byL_len,o6];decide,fun r hr=>by
  have:=o7 _ (byL_mem hr)
  exact⟨fun i hi=>by have:=this.1 _ hi;omega,by have:=this.2;omega⟩⟩
 have hc:∀ f L,(⟨1,1,1,0,3,L,byL f CS,3⟩:DcA).cs=CS:=fun f L=>by
  unfold DcA.cs
  simp only
  rw[List.take_of_length_le (by rw[byL_len,o6];decide),byL_snd]
 have hl3:∀ f,3<=(byL f CS).length:=fun f=>by rw[byL_len,o6];decide
 have o6':(CS.length:Int)=3:=by omega
 refine tri_evS (hyp (l:=[(26,ent26),(4,ent4),(27,ent27),(28,ent28)]) (lp:=[]) ⟨e26,e4,e27,e28,trivial⟩ trivial) Tryz.func7 comp7 (rs:=[.tmp 0]) (by rfl) Tryz.ntmps7 29 ?_
 simp -implicitDefEqProofs only[push_cast,zz,seval,ir7,fs26,fs4,fs27,fs28,o1,o2,o3,o4,o5,o6',o8,hCS,hm,hw,hc,hl3,lx]
 intro X X1 X2
 have hq:decide ((⟨1,1,[-5]⟩:Pl).Eq ⟨1,1,[-5]⟩)=true:=by decide
 rw[hq]
 repeat refine om_ ?_
 refine postF.mk' (fun _=>default) [] ?_
 simp -implicitDefEqProofs only[push_cast,zz,seval,fs7]
def ent7:Entry:=spOf fs7 inv7
theorem e7:EntryOk Tryz.prog 7 ent7:=entry_of ok7 inv7
@[push_cast] theorem ent7_app (us:List SV) (look:Look) (x:Nat->Xf.Loc) (k:Nat):ent7 us look x k=spOf fs7 inv7 us look x k:=rfl
def ir53:IR:=
 .seq (r_ [z_ 2 0] [2]) (.seq (r_ [m_ 3 0,m_ 4 0,o_ 5 (.neg 0 (.t 4)),o_ 6 (.mx (.t 3) (.t 5)),m_ 2 6] [0,3,4,5,6]) (.ret))
set_option maxRecDepth 4000 in
theorem comp53:(Tryz.f53.body.bind fun c=>compC tab isP chkAll ir53 c)=some ir53:=by kernel_rfl
def ir58:IR:=
 .seq (r_ [z_ 2 0] [2]) (.seq (.seq (r_ [m_ 3 0] [0]) (.cond (.t 3) (.seq (r_ [z_ 2 1] [3]) (.ret)) (.skip))) (.seq (r_ [z_ 2 0] [3]) (.ret)))
set_option maxRecDepth 4000 in
theorem comp58:(Tryz.f58.body.bind fun c=>compC tab isP chkAll ir58 c)=some ir58:=by kernel_rfl
def b52_1:IR:=
 .seq (.seq (r_ [m_ 4 0,c_ 5 .gtr 4 0] [4]) (.cond (.t 5) (.skip) (.exit 0))) (.seq (.block 1 (r_ [m_ 8 3,a_ 9 8 1,m_ 3 9] [5,8,9])) (r_ [m_ 6 0,c_ 7 .quo 6 2,m_ 0 7] [6,7]))
def r52_2:IR:=
 .seq (r_ [m_ 10 3,m_ 2 10] [0,3,10]) (.ret)
def ir52:IR:=
 .seq (r_ [z_ 2 0] [2]) (.seq (r_ [z_ 3 0] []) (.seq (.block 0 (.loop b52_1)) (r52_2)))
def kp52_1:List Nat:=[0,3]
def kl52_1:List Nat:=[]
attribute [push_cast] kp52_1 kl52_1
set_option maxRecDepth 4000 in
theorem comp52:(Tryz.f52.body.bind fun c=>compC tab isP chkAll ir52 c)=some ir52:=by kernel_rfl
def b22_1:IR:=
 .seq (r_ [b_ 10 .lss 9 8] []) (.seq (.cond (.t 10) (.skip) (.exit 0)) (.seq (.block 1 (.seq (r_ [i_ 11 7 9 1,L_ 12 11,m_ 5 12] [10,11,12]) (r_ [m_ 13 3,m_ 14 5,o_ 15 (.callp 53 [.t 14]),o_ 16 (.callp 52 [.t 15]),o_ 17 (.mx (.t 13) (.t 16)),m_ 3 17] [5,13,14,15,16,17]))) (r_ [a_ 18 9 1,m_ 9 18] [18])))
def r22_2:IR:=
 .seq (r_ [m_ 19 3,m_ 2 19] [3,7,8,9,19]) (.ret)
def ir22:IR:=
 .seq (r_ [o_ 1 (.box 10 (.t 0)),z_ 2 0] [0,2]) (.seq (r_ [z_ 3 0] []) (.seq (.seq (r_ [f_ 6 1 2,l_ 7 6,h_ 8 7,z_ 9 0] [1,6]) (.block 0 (.loop b22_1))) (r22_2)))
def kp22_1:List Nat:=[3,7,8,9]
def kl22_1:List Nat:=[]
attribute [push_cast] kp22_1 kl22_1
set_option maxRecDepth 4000 in
theorem comp22:(Tryz.f22.body.bind fun c=>compC tab isP chkAll ir22 c)=some ir22:=by kernel_rfl
theorem p53:EntryPOk Tryz.prog 53 absF:=by
 refine⟨⟨_,Tryz.func53,by kernel_rfl,by kernel_rfl⟩,fun us p v h hp=>?_⟩
 unfold absF at h
 split at h<;>cases h
 obtain⟨h0,h1⟩:=hp
 refine tri_evS (hyp (l:=[]) (lp:=[]) trivial trivial) Tryz.func53 comp53 (rs:=[.tmp 2]) (by rfl) Tryz.ntmps53 10 ?_
 simp -implicitDefEqProofs only[push_cast,zz,seval,ir53]
 try omega
def oneF:EntryP
 | [.bool b]=>some (True,.int .i64 (if b=true then 1 else 0))
 | _=>none
attribute [push_cast] oneF
theorem p58:EntryPOk Tryz.prog 58 oneF:=by
 refine⟨⟨_,Tryz.func58,by kernel_rfl,by kernel_rfl⟩,fun us p v h hp=>?_⟩
 unfold oneF at h
 split at h<;>cases h
 rename_i b
 refine tri_evS (hyp (l:=[]) (lp:=[]) trivial trivial) Tryz.func58 comp58 (rs:=[.tmp 2]) (by rfl) Tryz.ntmps58 10 ?_
 cases b
 ·simp -implicitDefEqProofs only[push_cast,zz,seval,ir58]
  try rfl
 ·simp -implicitDefEqProofs only[push_cast,zz,seval,ir58]
def dgI (n:Nat) (y:Nat×Nat):Prop:=y.2+lenN y.1=lenN n/\y.1<=n
theorem dgI_0 (n:Nat):dgI n (n,0):=⟨Nat.zero_add _,Nat.le_refl n⟩
theorem dgI_s {n m k:Nat} (h:0<m) (H:dgI n (m,k)):dgI n (m / 2,k+1):=by
 have hh:=lenN_half (n:=m) h
 obtain⟨H,H2⟩:=H
 simp only at H H2
 refine⟨?_,show m / 2<=n by omega⟩
 simp only
 rw[<-H,hh,Nat.add_comm (lenN (m / 2)) 1,Nat.add_assoc]
theorem dgI_e {n k:Nat} (H:dgI n (0,k)):k=lenN n:=by
 obtain⟨H,_⟩:=H
 rw[<-H];simp[lenN]
theorem dgI_b {n m k:Nat} (hn:n<4294967296) (H:dgI n (m,k)):k<=32/\m<4294967296:=by
 obtain⟨H,H2⟩:=H
 have hl:lenN n<=32:=lenN_lt (by omega)
 simp only at H H2
 omega
theorem half_lt {m:Nat} (h:0<m):m / 2<m:=by omega
def digF:EntryP
 | [.int .i64 x]=>some (0<=x/\x<4294967296,.int .i64 (lenP x))
 | _=>none
attribute [push_cast] digF
theorem p52:EntryPOk Tryz.prog 52 digF:=by
 refine⟨⟨_,Tryz.func52,by kernel_rfl,by kernel_rfl⟩,fun us p v h hp=>?_⟩
 unfold digF at h
 split at h<;>cases h
 rename_i x
 obtain⟨h0,h1⟩:=hp
 obtain⟨n,rfl⟩:∃ n:Nat,x=n:=⟨x.toNat,by omega⟩
 have hl:lenN n<=32:=lenN_lt (by omega)
 have hlp:lenP (n:Int)=lenN n:=by unfold lenP;rw[Int.toNat_natCast]
 refine tri_evS (hyp (l:=[]) (lp:=[]) trivial trivial) Tryz.func52 comp52 (rs:=[.tmp 2]) (by rfl) Tryz.ntmps52 10 ?_
 simp -implicitDefEqProofs only[push_cast,zz,seval,ir52]
 refine evS_loopU (A:=Nat×Nat) kp52_1 kl52_1 (fun y=>[(0,.int .i64 y.1),(3,.int .i64 y.2)]) (fun y=>[]) (dgI n) (fun y=>y.1) (n,0) (dgI_0 n) (Sub.pt ?_) ?_
 ·simp -implicitDefEqProofs only[push_cast,zz,seval]
 intro ⟨m,k⟩ hm K hK
 by_cases h0:0<m
 ·have hmi:(0:Int)<m:=by omega
  have hm2:=dgI_s h0 hm
  obtain⟨g1,g2⟩:=dgI_b (by omega) hm
  have hlt:=half_lt h0
  obtain⟨q,hq⟩:∃ q,m / 2=q:=⟨_,rfl⟩
  have hqI:(m:Int) / 2=q:=by omega
  rw[hq]at hm2 hlt
  clear hm
  simp -implicitDefEqProofs only[push_cast,zz,seval,b52_1,hmi,hqI]
  repeat refine om_ ?_
  refine hK (q,k+1) hm2 hlt _ _ (Sub.pt ?_)
  simp -implicitDefEqProofs only[push_cast,zz,seval]
 ·have hm0:m=0:=by omega
  subst hm0
  have hk:=dgI_e hm
  clear hK
  simp -implicitDefEqProofs only[push_cast,zz,seval,b52_1,r52_2,Int.lt_irrefl,hlp,hk]
  try rfl
def maxD (xs:List Int):Int:=xs.foldl (fun m c=>max m (lenP (max c (-c)))) 0
theorem maxD_take {xs:List Int} {k:Nat} (h:k<xs.length):maxD (xs.take (k+1))=max (maxD (xs.take k)) (lenP (max (rd xs (k:Nat)) (- rd xs (k:Nat)))):=by
 unfold maxD
 rw[List.take_succ_eq_append_getElem h,List.foldl_append,rd_lt xs k h];rfl
theorem lenN_mono {a b:Nat} (h:a<=b):lenN a<=lenN b:=lenN_lt (Nat.lt_of_le_of_lt h (lenN_bd b).1)
theorem lenP_max {a b:Int}:lenP (max a b)=max (lenP a) (lenP b):=by
 unfold lenP
 rcases Int.le_total a b with h | h
 ·rw[Int.max_eq_right h,Int.max_eq_right]
  have:=lenN_mono (a:=a.toNat) (b:=b.toNat) (by omega)
  omega
 ·rw[Int.max_eq_left h,Int.max_eq_left]
  have:=lenN_mono (a:=b.toNat) (b:=a.toNat) (by omega)
  omega
theorem maxD_eq {xs:List Int}:∀ k,k<=xs.length->maxD (xs.take k)=lenP (maxA (xs.take k))
 | 0,_=>rfl
 | k+1,h=>by rw[maxD_take (by omega),maxA_take (by omega),lenP_max (a:=maxA (xs.take k)),maxD_eq k (by omega)]
theorem maxD_all (xs:List Int):maxD xs=planesP xs:=by
 have:=maxD_eq (xs:=xs) xs.length (Nat.le_refl _)
 rw[List.take_length]at this
 exact this
theorem lenP_32 {x:Int} (h:x<4294967296):0<=lenP x/\lenP x<=32:=by
 have:lenN x.toNat<=32:=lenN_lt (by omega)
 unfold lenP
 omega
theorem ok22:FSOk Tryz.prog 22 fs11:=by
 refine⟨⟨_,Tryz.func22,by kernel_rfl,by kernel_rfl⟩,fun a=>⟨by simp[fs11,push_cast,noMine,argOwn,Chunk.frArg],by simp[fs11,push_cast,outOk,Chunk.ext],fun x=>.inl (by simp[fs11,push_cast,frNew,frOut,Chunk.fr])⟩,fun a hp=>?_⟩
 obtain⟨⟨w,h,xs⟩,L⟩:=a
 obtain⟨h1,h2⟩:AllIn (-16777216) 16777216 xs/\xs.length<=1000000:=hp
 have hmx:=maxA_bd (B:=16777216) (by decide) h1
 change Tri Tryz.prog 22 [plV ⟨w,h,xs⟩ L 0] [some (.ro,L,.ints .i64 xs)] (postF fs11 ⟨⟨w,h,xs⟩,L⟩)
 have hfin:=maxD_all xs
 refine tri_evS (hyp (l:=[]) (lp:=[(53,absF),(52,digF)]) trivial ⟨p53,p52,trivial⟩) Tryz.func22 comp22 (rs:=[.tmp 2]) (by rfl) Tryz.ntmps22 11 ?_
 simp -implicitDefEqProofs only[push_cast,zz,seval,ir22]
 intro X
 refine evS_loopU (A:=Nat) kp22_1 kl22_1 (fun k=>[(3,.int .i64 (maxD (xs.take k))),(9,.int .i64 k)]) (fun k=>[]) (fun k=>k<=xs.length) (fun k=>xs.length-k) 0 (Nat.zero_le _) (Sub.pt ?_) ?_
 ·have e0:maxD (xs.take 0)=0:=rfl
  simp -implicitDefEqProofs only[push_cast,zz,seval,e0]
 intro k hk K hK
 have hk:k<=xs.length:=hk
 by_cases hk':k<xs.length
 ·have hki:(k:Int)<xs.length:=by omega
  have ht:=maxD_take hk'
  have hx:=allIn_rd.1 h1 k hk'
  have hbd:=lenP_32 (x:=maxA (xs.take k)) (by have:=hmx k hk;omega)
  rw[<-maxD_eq k hk]at hbd
  obtain⟨m,hm⟩:∃ m,maxD (xs.take k)=m:=⟨_,rfl⟩
  obtain⟨x,hxx⟩:∃ m,rd xs (k:Nat)=m:=⟨_,rfl⟩
  rw[hm]at ht hbd
  rw[hxx]at ht hx
  simp -implicitDefEqProofs only[push_cast,zz,seval,b22_1,hki,hm,hxx]
  repeat refine om_ ?_
  refine hK (k+1) (show k+1<=xs.length by omega) (show xs.length-(k+1)<xs.length-k by omega) _ _ (Sub.pt ?_)
  simp -implicitDefEqProofs only[push_cast,zz,seval,ht]
 ·obtain rfl:k=xs.length:=by omega
  clear hK
  simp -implicitDefEqProofs only[push_cast,zz,seval,b22_1,r22_2,Int.lt_irrefl,List.take_length,hfin]
  refine postF.mk' (fun _=>default) [some 0] ?_
  simp -implicitDefEqProofs only[push_cast,zz,seval,fs11]
def ent22:Entry:=spOf fs11 inv8
theorem e22:EntryOk Tryz.prog 22 ent22:=entry_of ok22 inv8
@[push_cast] theorem ent22_app (us:List SV) (look:Look) (x:Nat->Xf.Loc) (k:Nat):ent22 us look x k=spOf fs11 inv8 us look x k:=rfl
structure SgA where
 p:Pl
 L:Xf.Loc
 t:Int
def b103_1:IR:=
 .seq (.seq (r_ [m_ 5 4,m_ 6 0,b_ 7 .lss 5 6] [5,6]) (.cond (.t 7) (.skip) (.exit 0))) (.seq (.block 1 (r_ [m_ 10 3,m_ 11 3,c_ 12 .quo 11 8,b_ 13 .sub 10 12,m_ 3 13] [7,10,11,12,13])) (r_ [m_ 8 4,a_ 9 8 1,m_ 4 9] [8,9]))
def r103_2:IR:=
 .seq (r_ [m_ 14 3,m_ 2 14] [0,3,4,14]) (.ret)
def ir103:IR:=
 .seq (r_ [z_ 2 0] [2]) (.seq (r_ [z_ 3 2048] []) (.seq (.seq (r_ [z_ 4 0] []) (.block 0 (.loop b103_1))) (r103_2)))
def kp103_1:List Nat:=[0,3,4]
def kl103_1:List Nat:=[]
attribute [push_cast] kp103_1 kl103_1
set_option maxRecDepth 4000 in
theorem comp103:(Tryz.f103.body.bind fun c=>compC tab isP chkAll ir103 c)=some ir103:=by kernel_rfl
def ir96:IR:=
 .seq (r_ [z_ 4 0] [4]) (.seq (.seq (r_ [m_ 8 0,c_ 9 .eql 8 0] [0,8]) (.cond (.t 9) (.seq (.seq (r_ [m_ 10 1,c_ 11 .rem 10 32,o_ 12 (.callp 103 [.t 11]),m_ 5 12] [9,10,11,12]) (.seq (r_ [m_ 13 1,c_ 14 .lss 13 32] [13]) (.cond (.t 14) (.seq (r_ [m_ 15 5,m_ 4 15] [1,5,14,15]) (.ret)) (.skip)))) (.seq (r_ [m_ 16 1,c_ 17 .rem 16 32,o_ 18 (.callp 103 [.t 17]),o_ 19 (.bin 0 .sub (Z_ 4096) (.t 18)),m_ 4 19] [1,5,14,16,17,18,19]) (.ret))) (.skip))) (.seq (r_ [m_ 20 1,c_ 21 .quo 20 256,m_ 22 1,c_ 23 .rem 22 256,m_ 6 21,m_ 7 23] [1,4,9,20,21,22,23]) (.seq (r_ [m_ 24 7,o_ 25 (.bin 0 .mul (Z_ 2) (.t 24)),a_ 26 25 1,c_ 27 .mul 26 4096,m_ 28 6,o_ 29 (.bin 0 .mul (Z_ 2) (.t 28)),m_ 30 7,o_ 31 (.bin 0 .mul (Z_ 2) (.t 30)),b_ 32 .add 29 31,a_ 33 32 2,b_ 34 .quo 27 33,o_ 35 (.mx (.t 34) (Z_ 1)),o_ 36 (.mn (.t 35) (Z_ 4095)),m_ 4 36] [6,7,24,25,26,27,28,29,30,31,32,33,34,35,36]) (.ret))))
set_option maxRecDepth 4000 in
theorem comp96:(Tryz.f96.body.bind fun c=>compC tab isP chkAll ir96 c)=some ir96:=by kernel_rfl
def ir98:IR:=
 .seq (r_ [z_ 6 0] [6]) (.seq (.seq (r_ [m_ 10 0,c_ 11 .eql 10 0] [0,10]) (.cond (.t 11) (.seq (r_ [m_ 12 1,c_ 13 .quo 12 32,m_ 14 1,c_ 15 .rem 14 32,m_ 7 13,m_ 8 15] [1,11,12,13,14,15]) (.seq (.block 0 (.seq (r_ [m_ 17 2,m_ 18 7,b_ 19 .eql 17 18,m_ 16 19] [17,18,19]) (.cond (.t 16) (.seq (r_ [m_ 20 7,o_ 21 (.bin 0 .mul (Z_ 32) (.t 20)),m_ 22 8,a_ 23 22 1,o_ 24 (.mn (.t 23) (Z_ 31)),b_ 25 .add 21 24,m_ 6 25] [2,7,8,16,20,21,22,23,24,25]) (.ret)) (.seq (r_ [m_ 27 8,c_ 28 .eql 27 0,m_ 26 28] [16,27,28]) (.cond (.t 26) (.seq (r_ [m_ 29 2,o_ 30 (.bin 0 .mul (Z_ 32) (.t 29)),m_ 6 30] [2,7,8,26,29,30]) (.ret)) (.skip)))))) (.seq (r_ [m_ 31 7,o_ 32 (.bin 0 .mul (Z_ 32) (.t 31)),m_ 33 8,b_ 34 .add 32 33,c_ 35 .sub 34 1,m_ 36 8,c_ 37 .quo 36 4,b_ 38 .sub 35 37,m_ 6 38] [2,7,8,26,31,32,33,34,35,36,37,38]) (.ret)))) (.skip))) (.seq (r_ [m_ 39 1,c_ 40 .quo 39 256,m_ 41 1,c_ 42 .rem 41 256,o_ 43 (.build [y_,y_] [(0,1,.t 40),(1,1,.t 42)]),o_ 9 (.allocI 10 .i64 2),S_ 2 .i64 9 43] [1,6,11,39,40,41,42,43]) (.seq (.seq (r_ [m_ 44 2,o_ 45 (.idxP (.t 9) (.t 44) 2 1),L_ 46 45,c_ 47 .eql 46 255] [44,45,46]) (.cond (.t 47) (r_ [o_ 48 (.idxP (.t 9) (Z_ 0) 2 1),L_ 49 48,c_ 50 .quo 49 2,o_ 51 (.idxP (.t 9) (Z_ 1) 2 1),L_ 52 51,c_ 53 .quo 52 2,o_ 54 (.idxP (.t 9) (Z_ 0) 2 1),S_ 1 .i64 54 50,o_ 55 (.idxP (.t 9) (Z_ 1) 2 1),S_ 1 .i64 55 53] [47,48,49,50,51,52,53,54,55]) (.skip))) (.seq (r_ [m_ 56 2,o_ 57 (.idxP (.t 9) (.t 56) 2 1),L_ 58 57,a_ 59 58 1,o_ 60 (.idxP (.t 9) (.t 56) 2 1),S_ 1 .i64 60 59] [2,47,56,57,58,59,60]) (.seq (r_ [o_ 61 (.idxP (.t 9) (Z_ 0) 2 1),L_ 62 61,o_ 63 (.bin 0 .mul (Z_ 256) (.t 62)),o_ 64 (.idxP (.t 9) (Z_ 1) 2 1),L_ 65 64,b_ 66 .add 63 65,m_ 6 66] [9,61,62,63,64,65,66]) (.ret))))))
set_option maxRecDepth 4000 in
theorem comp98:(Tryz.f98.body.bind fun c=>compC tab isP chkAll ir98 c)=some ir98:=by kernel_rfl
def ir101:IR:=
 .seq (r_ [o_ 2 (.box 10 (.t 0)),o_ 4 (.mov (.k (.int .u64 0)))] [0,4]) (.seq (r_ [f_ 6 2 1,l_ 7 6,f_ 8 2 0,l_ 9 8,b_ 10 .sub 7 9,m_ 5 10] [6,7,8,9,10]) (.seq (r_ [f_ 11 2 0,l_ 12 11,m_ 13 5,o_ 14 (.bin 0 .quo (.t 13) (.k (.int .u64 4096))),m_ 15 1,o_ 16 (.cvt 0 .u64 (.t 15)),b_ 17 .mul 14 16,b_ 18 .add 12 17,m_ 19 5,o_ 20 (.bin 0 .rem (.t 19) (.k (.int .u64 4096))),m_ 21 1,o_ 22 (.cvt 0 .u64 (.t 21)),b_ 23 .mul 20 22,o_ 24 (.bin 0 .quo (.t 23) (.k (.int .u64 4096))),b_ 25 .add 18 24,m_ 4 25] [1,2,5,11,12,13,14,15,16,17,18,19,20,21,22,23,24,25]) (.ret)))
set_option maxRecDepth 4000 in
theorem comp101:(Tryz.f101.body.bind fun c=>compC tab isP chkAll ir101 c)=some ir101:=by kernel_rfl
def ir97:IR:=
 .seq (r_ [o_ 3 (.box 10 (.t 0)),o_ 6 (.alloc 11 [.int .u64 0,.int .u64 0])] [0]) (.seq (.seq (r_ [m_ 7 2,c_ 8 .eql 7 1] [2,7]) (.cond (.t 8) (.seq (R_ [f_ 9 3 0,l_ 10 9,o_ 11 (.ld false (some 2) 0 0 (.t 3)),m_ 12 1,o_ 13 (.callp 101 [.t 11,.t 12]),o_ 14 (.build [.int .u64 0,.int .u64 0] [(0,1,.t 10),(1,1,.t 13)]),s_ 2 .i64 6 14] [1,3,8,9,10,11,12,13,14]) (.ret)) (.skip))) (.seq (R_ [o_ 15 (.ld false (some 2) 0 0 (.t 3)),m_ 16 1,o_ 17 (.callp 101 [.t 15,.t 16]),o_ 18 (.bin 0 .add (.t 17) (.k (.int .u64 1))),f_ 19 3 1,l_ 20 19,o_ 21 (.build [.int .u64 0,.int .u64 0] [(0,1,.t 18),(1,1,.t 20)]),s_ 2 .i64 6 21] [1,3,8,15,16,17,18,19,20,21]) (.ret)))
set_option maxRecDepth 4000 in
theorem comp97:(Tryz.f97.body.bind fun c=>compC tab isP chkAll ir97 c)=some ir97:=by kernel_rfl
def ir100:IR:=
 .seq (r_ [o_ 1 (.box 10 (.t 0)),o_ 2 (.alloc 11 [.int .u64 0,.int .u64 0])] [0]) (.seq (r_ [f_ 3 1 0,l_ 4 3,o_ 5 (.bin 0 .rem (.t 4) (.k (.int .u64 16777216))),o_ 6 (.bin 0 .mul (.t 5) (.k (.int .u64 256))),f_ 7 1 1,l_ 8 7,o_ 9 (.bin 0 .rem (.t 8) (.k (.int .u64 16777216))),o_ 10 (.bin 0 .mul (.t 9) (.k (.int .u64 256))),o_ 11 (.bin 0 .add (.t 10) (.k (.int .u64 255))),o_ 12 (.build [.int .u64 0,.int .u64 0] [(0,1,.t 6),(1,1,.t 11)]),s_ 2 .i64 2 12] [1,3,4,5,6,7,8,9,10,11,12]) (.ret))
set_option maxRecDepth 4000 in
theorem comp100:(Tryz.f100.body.bind fun c=>compC tab isP chkAll ir100 c)=some ir100:=by kernel_rfl
def ir99:IR:=
 .seq (r_ [o_ 1 (.box 10 (.t 0)),o_ 2 (.mov (.k (.bool false)))] [0,2]) (.seq (r_ [f_ 3 1 0,l_ 4 3,o_ 5 (.bin 0 .shr (.t 4) (.k (.int .u64 24))),f_ 6 1 1,l_ 7 6,o_ 8 (.bin 0 .shr (.t 7) (.k (.int .u64 24))),b_ 9 .eql 5 8,m_ 2 9] [1,3,4,5,6,7,8,9]) (.ret))
set_option maxRecDepth 4000 in
theorem comp99:(Tryz.f99.body.bind fun c=>compC tab isP chkAll ir99 c)=some ir99:=by kernel_rfl
def ir56:IR:=
 .seq (r_ [o_ 0 (.alloc 10 [.int .u64 0,.int .u64 0])] []) (.seq (r_ [o_ 1 (.build [.int .u64 0,.int .u64 0] [(0,1,.k (.int .u64 0)),(1,1,.k (.int .u64 4294967295))]),s_ 2 .i64 0 1] [1]) (.ret))
set_option maxRecDepth 4000 in
theorem comp56:(Tryz.f56.body.bind fun c=>compC tab isP chkAll ir56 c)=some ir56:=by kernel_rfl
theorem qst_qs:∀ k,k<32->(qst k).2=rd qs (k:Nat):=by decide +kernel
def unlF:EntryP
 | [.int .i64 k]=>some (0<=k/\k<32,.int .i64 (rd qs k))
 | _=>none
attribute [push_cast] unlF
theorem p103:EntryPOk Tryz.prog 103 unlF:=by
 refine⟨⟨_,Tryz.func103,by kernel_rfl,by kernel_rfl⟩,fun us p v h hp=>?_⟩
 unfold unlF at h
 split at h<;>cases h
 rename_i k
 obtain⟨h0,h1⟩:=hp
 obtain⟨n,rfl⟩:∃ n:Nat,k=n:=⟨k.toNat,by omega⟩
 refine tri_evS (hyp (l:=[]) (lp:=[]) trivial trivial) Tryz.func103 comp103 (rs:=[.tmp 2]) (by rfl) Tryz.ntmps103 10 ?_
 simp -implicitDefEqProofs only[push_cast,zz,seval,ir103]
 refine evS_loopU (A:=Nat) kp103_1 kl103_1 (fun i=>[(4,.int .i64 i),(3,.int .i64 (qst i).2)]) (fun _=>[]) (fun i=>i<=n) (fun i=>n-i) 0 (Nat.zero_le _) (Sub.pt ?_) ?_
 ·have e0:(qst 0).2=2048:=rfl
  simp -implicitDefEqProofs only[push_cast,zz,seval,e0]
 intro i hi K hK
 have hi:i<=n:=hi
 have hb:=qst_bd i
 by_cases hi':i<n
 ·have hii:(i:Int)<n:=by omega
  have e1:(qst (i+1)).2=(qst i).2-(qst i).2 / 8:=rfl
  obtain⟨q,hq⟩:∃ q,(qst i).2=q:=⟨_,rfl⟩
  rw[hq]at e1 hb
  simp -implicitDefEqProofs only[push_cast,zz,seval,b103_1,hii,hq]
  repeat refine om_ ?_
  refine hK (i+1) (show i+1<=n by omega) (show n-(i+1)<n-i by omega) _ _ (Sub.pt ?_)
  simp -implicitDefEqProofs only[push_cast,zz,seval,e1]
 ·have hin:i=n:=by omega
  subst hin
  clear hK
  have hq:=qst_qs i (by omega)
  simp -implicitDefEqProofs only[push_cast,zz,seval,b103_1,r103_2,Int.lt_irrefl,hq]
  try rfl
def likF:EntryP
 | [.int .i64 kind,.int .i64 s]=>some ((kind=0∨kind=1)/\sttOk kind s,.int .i64 (chP kind s))
 | _=>none
def aftF:EntryP
 | [.int .i64 kind,.int .i64 s,.int .i64 bit]=>some ((kind=0∨kind=1)/\sttOk kind s/\(bit=0∨bit=1),.int .i64 (nxP kind s bit))
 | _=>none
attribute [push_cast] likF aftF
theorem p96:EntryPOk Tryz.prog 96 likF:=by
 refine⟨⟨_,Tryz.func96,by kernel_rfl,by kernel_rfl⟩,fun us p v h hp=>?_⟩
 unfold likF at h
 split at h<;>cases h
 rename_i kind s
 obtain⟨hkd,h0,h1,h2⟩:=hp
 refine tri_evS (hyp (l:=[]) (lp:=[(103,unlF)]) trivial ⟨p103,trivial⟩) Tryz.func96 comp96 (rs:=[.tmp 4]) (by rfl) Tryz.ntmps96 10 ?_
 rcases hkd with rfl | rfl
 ·have h2:=h2 (by decide)
  by_cases h32:32<=s
  ·have e:chP 0 s=4096-rd qs (s-32):=by unfold chP;rw[if_neg (by decide),if_pos h32]
   have hm:s % 32=s-32:=by omega
   have hlt:¬ s<32:=by omega
   have hb:0<=rd qs (s-32)/\rd qs (s-32)<=2048:=by
    obtain⟨k,hk⟩:∃ k:Nat,s-32=k:=⟨(s-32).toNat,by omega⟩
    rw[hk]
    have:=qs_bd k (by omega)
    omega
   simp -implicitDefEqProofs only[push_cast,zz,seval,ir96,e,hm,hlt]
   all_goals omega
  ·have e:chP 0 s=rd qs s:=by unfold chP;rw[if_neg (by decide),if_neg h32]
   have hm:s % 32=s:=by omega
   have hlt:s<32:=by omega
   simp -implicitDefEqProofs only[push_cast,zz,seval,ir96,e,hm,hlt]
   all_goals omega
 ·have h1:=h1 rfl
  have e:chP 1 s=min (max ((2*(s % 256)+1)*4096 / (2*(s / 256)+2*(s % 256)+2)) 1) 4095:=by unfold chP;rw[if_pos rfl]
  have hd1:0<=(2*(s % 256)+1)*4096 / (2*(s / 256)+2*(s % 256)+2):=Int.ediv_nonneg (by omega) (by omega)
  have hd2:(2*(s % 256)+1)*4096 / (2*(s / 256)+2*(s % 256)+2)<=(2*(s % 256)+1)*4096:=Int.ediv_le_self _ (by omega)
  have h10:¬ (1:Int)=0:=by decide
  simp -implicitDefEqProofs only[push_cast,zz,seval,ir96,e,h10]
  all_goals omega
theorem p98:EntryPOk Tryz.prog 98 aftF:=by
 refine⟨⟨_,Tryz.func98,by kernel_rfl,by kernel_rfl⟩,fun us p v h hp=>?_⟩
 unfold aftF at h
 split at h<;>cases h
 rename_i kind s bit
 obtain⟨hkd,⟨h0,h1,h2⟩,hb⟩:=hp
 refine tri_evS (hyp (l:=[]) (lp:=[]) trivial trivial) Tryz.func98 comp98 (rs:=[.tmp 6]) (by rfl) Tryz.ntmps98 11 ?_
 have h10:¬ (1:Int)=0:=by decide
 rcases hkd with rfl | rfl
 ·have h2:=h2 (by decide)
  have e:nxP 0 s bit=if bit=s / 32 then 32*(s / 32)+min (s % 32+1) 31 else if s % 32=0 then 32*bit+s % 32 else 32*(s / 32)+(s % 32-(1+s % 32 / 4)):=by unfold nxP;rw[if_neg (by decide)]
  by_cases hm:bit=s / 32
  ·rw[if_pos hm]at e
   subst hm
   simp -implicitDefEqProofs only[push_cast,zz,seval,ir98,e]
   all_goals omega
  rw[if_neg hm]at e
  by_cases hz:s % 32=0
  ·rw[if_pos hz]at e
   have e2:32*bit+s % 32=32*bit:=by omega
   rw[e2]at e
   simp -implicitDefEqProofs only[push_cast,zz,seval,ir98,e,hm,hz]
   all_goals omega
  ·rw[if_neg hz]at e
   have e2:32*(s / 32)+(s % 32-(1+s % 32 / 4))=32*(s / 32)+s % 32-1-s % 32 / 4:=by omega
   rw[e2]at e
   simp -implicitDefEqProofs only[push_cast,zz,seval,ir98,e,hm,hz]
   all_goals omega
 ·have h1:=h1 rfl
  rcases hb with rfl | rfl
  ·have e:nxP 1 s 0=if s / 256=255 then 256*(s / 256 / 2+1)+s % 256 / 2 else 256*(s / 256+1)+s % 256:=by unfold nxP;rw[if_pos rfl,if_pos rfl]
   by_cases hn:s / 256=255
   ·rw[if_pos hn]at e
    simp -implicitDefEqProofs only[push_cast,zz,seval,ir98,e,rd2_0,rd2_1,set2_0,set2_1,i0,i1,hn,h10]
    all_goals omega
   ·rw[if_neg hn]at e
    simp -implicitDefEqProofs only[push_cast,zz,seval,ir98,e,rd2_0,rd2_1,set2_0,set2_1,i0,i1,hn,h10]
    all_goals omega
  ·have e:nxP 1 s 1=if s % 256=255 then 256*(s / 256 / 2)+(s % 256 / 2+1)else 256*(s / 256)+(s % 256+1):=by unfold nxP;rw[if_pos rfl,if_neg (by decide)]
   by_cases hn:s % 256=255
   ·rw[if_pos hn]at e
    simp -implicitDefEqProofs only[push_cast,zz,seval,ir98,e,rd2_0,rd2_1,set2_0,set2_1,i0,i1,hn,h10]
    all_goals omega
   ·rw[if_neg hn]at e
    simp -implicitDefEqProofs only[push_cast,zz,seval,ir98,e,rd2_0,rd2_1,set2_0,set2_1,i0,i1,hn,h10]
    all_goals omega
def rmidF:EntryP
 | [.agg [.int .u64 l,.int .u64 h],.int .i64 p]=>some (0<=l/\l<=h/\h<4294967296/\1<=p/\p<=4095,.int .u64 (midP l h p))
 | _=>none
def rpartF:EntryP
 | [.agg [.int .u64 l,.int .u64 h],.int .i64 p,.int .i64 bit]=>some (0<=l/\l<=h/\h<4294967296/\1<=p/\p<=4095,.agg [.int .u64 (if bit=1 then l else midP l h p+1),.int .u64 (if bit=1 then midP l h p else h)])
 | _=>none
def rshF:EntryP
 | [.agg [.int .u64 l,.int .u64 h]]=>some (0<=l/\l<4294967296/\0<=h/\h<4294967296,.agg [.int .u64 (l % 16777216*256),.int .u64 (h % 16777216*256+255)])
 | _=>none
def rfixF:EntryP
 | [.agg [.int .u64 l,.int .u64 h]]=>some (True,.bool (decide (l / 16777216=h / 16777216)))
 | _=>none
def rwholeF:EntryP
 | []=>some (True,.agg [.int .u64 0,.int .u64 4294967295])
 | _=>none
attribute [push_cast] rmidF rpartF rshF rfixF rwholeF
theorem p101:EntryPOk Tryz.prog 101 rmidF:=by
 refine⟨⟨_,Tryz.func101,by kernel_rfl,by kernel_rfl⟩,fun us p v h hp=>?_⟩
 unfold rmidF at h
 split at h<;>cases h
 rename_i l g p
 obtain⟨h0,h1,h2,h3,h4⟩:=hp
 have hb:=midP_bd h0 h1 h2 h3 h4
 have e:midP l g p=l+(g-l) / 4096*p+(g-l) % 4096*p / 4096:=rfl
 refine tri_evS (hyp (l:=[]) (lp:=[]) trivial trivial) Tryz.func101 comp101 (rs:=[.tmp 4]) (by rfl) Tryz.ntmps101 11 ?_
 rw[e]at hb ⊢
 obtain⟨A,hA⟩:∃ A,(g-l) / 4096*p=A:=⟨_,rfl⟩
 obtain⟨B,hB⟩:∃ A,(g-l) % 4096*p=A:=⟨_,rfl⟩
 rw[hA,hB]at hb ⊢
 simp -implicitDefEqProofs only[push_cast,zz,seval,ir101,hA,hB]
 all_goals omega
theorem p97:EntryPOk Tryz.prog 97 rpartF:=by
 refine⟨⟨_,Tryz.func97,by kernel_rfl,by kernel_rfl⟩,fun us p v h hp=>?_⟩
 unfold rpartF at h
 split at h<;>cases h
 rename_i l g p bit
 obtain⟨h0,h1,h2,h3,h4⟩:=hp
 have hb:=midP_bd h0 h1 h2 h3 h4
 obtain⟨m,hm⟩:∃ m,midP l g p=m:=⟨_,rfl⟩
 rw[hm]at hb ⊢
 refine tri_evS (hyp (l:=[]) (lp:=[(101,rmidF)]) trivial ⟨p101,trivial⟩) Tryz.func97 comp97 (rs:=[.cell 6 (some 2)]) (by rfl) Tryz.ntmps97 12 ?_
 by_cases hbit:bit=1
 ·rw[if_pos hbit,if_pos hbit]
  simp -implicitDefEqProofs only[push_cast,zz,seval,ir97,hm,hbit]
  all_goals omega
 ·rw[if_neg hbit,if_neg hbit]
  simp -implicitDefEqProofs only[push_cast,zz,seval,ir97,hm,hbit]
  all_goals omega
theorem p100:EntryPOk Tryz.prog 100 rshF:=by
 refine⟨⟨_,Tryz.func100,by kernel_rfl,by kernel_rfl⟩,fun us p v h hp=>?_⟩
 unfold rshF at h
 split at h<;>cases h
 rename_i l g
 obtain⟨h0,h1,h2,h3⟩:=hp
 refine tri_evS (hyp (l:=[]) (lp:=[]) trivial trivial) Tryz.func100 comp100 (rs:=[.cell 2 (some 2)]) (by rfl) Tryz.ntmps100 12 ?_
 simp -implicitDefEqProofs only[push_cast,zz,seval,ir100]
 all_goals omega
theorem p99:EntryPOk Tryz.prog 99 rfixF:=by
 refine⟨⟨_,Tryz.func99,by kernel_rfl,by kernel_rfl⟩,fun us p v h hp=>?_⟩
 unfold rfixF at h
 split at h<;>cases h
 rename_i l g
 refine tri_evS (hyp (l:=[]) (lp:=[]) trivial trivial) Tryz.func99 comp99 (rs:=[.tmp 2]) (by rfl) Tryz.ntmps99 11 ?_
 have i24:Int.toNat 24=24:=rfl
 have hb64:=bits64
 simp -implicitDefEqProofs only[push_cast,zz,seval,ir99,i24,pw24,hb64]
 all_goals omega
theorem p56:EntryPOk Tryz.prog 56 rwholeF:=by
 refine⟨⟨_,Tryz.func56,by kernel_rfl,by kernel_rfl⟩,fun us p v h hp=>?_⟩
 unfold rwholeF at h
 split at h<;>cases h
 refine tri_evS (hyp (l:=[]) (lp:=[]) trivial trivial) Tryz.func56 comp56 (rs:=[.cell 0 (some 2)]) (by rfl) Tryz.ntmps56 11 ?_
 simp -implicitDefEqProofs only[push_cast,zz,seval,ir56]
 try rfl
def v4 (code:List Int) (o:Int):Int:=bytA code o*16777216+bytA code (o+1)*65536+bytA code (o+2)*256+bytA code (o+3)
theorem bktG_put (f:List Int) (t:Int) (i:Nat) (s:StS) (e:EnS):bktG putG f t i s e=if allP s (rdBk s.list i).b.places=true then plsG putG f t false (rdBk s.list i).b.places (setOn s i false) e
 else plsG putG f t (onP s (rdBk s.list i).b.places f t) (rdBk s.list i).b.places (setOn s i (onP s (rdBk s.list i).b.places f t)) (putP e (bctxP (setOn s i false) (rdBk s.list i).b) (b2i (onP s (rdBk s.list i).b.places f t))):=by
 unfold bktG putG
 simp only[if_true]
theorem endP_len (l g:Int):(endP l g).length=endN l g:=by simp[endP]
theorem or_even {y:Nat}:2*y ||| 1=2*y+1:=by
 have:=Nat.two_pow_add_eq_or_of_lt (i:=1) (b:=1) (by decide) y
 simpa using this.symm
theorem or_mul (y k:Nat):y*2^k ||| 2^k=(y ||| 1)*2^k:=by
 have h1:y*2^k=y <<< k:=(Nat.shiftLeft_eq y k).symm
 have h2:2^k=1 <<< k:=by rw[Nat.shiftLeft_eq,Nat.one_mul]
 have h3:(y ||| 1)*2^k=(y ||| 1) <<< k:=(Nat.shiftLeft_eq _ k).symm
 rw[h3,h1]
 conv=>lhs;rhs;rw[h2]
 rw[Nat.shiftLeft_or_distrib]
theorem orP_nat (x k:Nat):orP (x:Int) (k:Int)=((x ||| 2^k:Nat):Int):=by unfold orP;rw[Int.toNat_natCast,Int.toNat_natCast]
theorem rd_st_same {xs:List Int} {i:Nat} (h:i<xs.length) (v:Int):rd (xs.set i v) i=v:=by simp[rd,h]
theorem rd_st_ne {xs:List Int} {i j:Nat} (h:i≠j) (v:Int):rd (xs.set i v) j=rd xs j:=by simp[rd,List.getElem?_set_ne h]
theorem rdB_st_same {xs:List Bool} {i:Nat} (h:i<xs.length) (v:Bool):rdB (xs.set i v) i=v:=by simp[rdB,h]
theorem rdB_st_ne {xs:List Bool} {i j:Nat} (h:i≠j) (v:Bool):rdB (xs.set i v) j=rdB xs j:=by simp[rdB,List.getElem?_set_ne h]
theorem encG_len (f:List Int):∀ (k:Nat) (s:StS) (st:List Int),(encG f k s st).length=k
 | 0,_,_=>rfl
 | k+1,s,st=>by rw[encG,List.length_cons,encG_len f k]
theorem encP_len {p:Pl} {lv kd:Int} (hok:p.Ok) (hag:argsOk lv kd):((encP p lv kd).length:Int)=planesP p.xs:=by
 have hpb:=planesP_bd hok.2.2
 unfold encP
 rw[if_pos ⟨hok,hag⟩,encG_len]
 omega
def ir55:IR:=
 .seq (r_ [o_ 1 (.box 10 (.t 0)),o_ 2 (.alloc 11 [y_,nilSV])] [0]) (.seq (R_ [f_ 3 1 0,⟨some 4,none,⟨[12,13],[]⟩,.ld false none 0 0 (.t 3)⟩,o_ 5 (.bslice 12 []),f_ 6 1 1,⟨some 7,none,⟨[12],[]⟩,.ld false none 0 0 (.t 6)⟩,o_ 8 (.app 13 1 8 (.t 5) (.t 7)),o_ 9 (.build [y_,nilSV] [(0,1,.t 4),(1,1,.t 8)]),s_ 2 .i64 2 9] [1,3,4,5,6,7,8,9]) (.ret))
set_option maxRecDepth 4000 in
theorem comp55:(Tryz.f55.body.bind fun c=>compC tab isP chkAll ir55 c)=some ir55:=by kernel_rfl
def b54_1:IR:=
 .seq (r_ [b_ 27 .lss 26 25] []) (.seq (.cond (.t 27) (.skip) (.exit 0)) (.seq (.block 1 (.seq (r_ [i_ 28 24 26 1,L_ 29 28,m_ 5 29] [27,28,29]) (.seq (r_ [m_ 30 5,c_ 31 .lss 30 0,m_ 32 31,q_ 32 (m_ 33 5),q_ 32 (m_ 34 3),q_ 32 (b_ 35 .gtr 33 34),k_ 36 32 35] [5,30,31,32,33,34,35]) (.cond (.t 36) (.seq (r_ [o_ 2 (.mov (.k (.bool false)))] [3,24,25,26,36]) (.ret)) (.skip))))) (r_ [a_ 37 26 1,m_ 26 37] [2,36,37])))
def r54_2:IR:=
 .seq (r_ [o_ 2 (.mov (.k (.bool true)))] [3,24,25,26]) (.ret)
def ir54:IR:=
 .seq (r_ [o_ 1 (.box 10 (.t 0)),o_ 2 (.mov (.k (.bool false)))] [0,2]) (.seq (r_ [z_ 3 63] []) (.seq (.seq (r_ [f_ 6 1 0,l_ 7 6,c_ 8 .eql 7 1] [6,7]) (.cond (.t 8) (r_ [z_ 3 65535] [8]) (.skip))) (.seq (.seq (r_ [f_ 9 1 0,l_ 10 9,c_ 11 .neq 10 0,m_ 12 11,p_ 12 (f_ 13 1 0),p_ 12 (l_ 14 13),p_ 12 (c_ 15 .neq 14 1),K_ 16 12 15,m_ 17 16,q_ 17 (f_ 18 1 1),q_ 17 (l_ 19 18),q_ 17 (h_ 20 19),q_ 17 (c_ 21 .gtr 20 8192),k_ 22 17 21] [8,9,10,11,12,13,14,15,16,17,18,19,20,21]) (.cond (.t 22) (.seq (r_ [o_ 2 (.mov (.k (.bool false)))] [1,3,22]) (.ret)) (.skip))) (.seq (.seq (r_ [f_ 23 1 1,l_ 24 23,h_ 25 24,z_ 26 0] [1,2,22,23]) (.block 0 (.loop b54_1))) (r54_2)))))
def kp54_1:List Nat:=[3,24,25,26]
def kl54_1:List Nat:=[]
attribute [push_cast] kp54_1 kl54_1
set_option maxRecDepth 4000 in
theorem comp54:(Tryz.f54.body.bind fun c=>compC tab isP chkAll ir54 c)=some ir54:=by kernel_rfl
def ir102:IR:=
 .seq (r_ [o_ 4 (.mov (.k (.int .u64 0)))] [4]) (.seq (.seq (r_ [m_ 5 1,m_ 6 0,h_ 7 6,b_ 8 .lss 5 7] [5,6,7]) (.cond (.t 8) (.seq (r_ [m_ 9 0,m_ 10 1,i_ 11 9 10 1,L_ 12 11,o_ 13 (.cvt 0 .u64 (.t 12)),m_ 4 13] [0,1,8,9,10,11,12,13]) (.ret)) (.skip))) (.seq (r_ [o_ 4 (.mov (.k (.int .u64 0)))] [0,1,8]) (.ret)))
set_option maxRecDepth 4000 in
theorem comp102:(Tryz.f102.body.bind fun c=>compC tab isP chkAll ir102 c)=some ir102:=by kernel_rfl
def fs55:FS where
 A:=MdA
 args:=fun a=>[.agg [.int .i64 a.kind,.sl 0 a.L 1 0 a.st.length]]
 mem:=mdM
 pre:=fun a=>a.st.length<=1000000
 res:=fun a x=>.agg [.int .i64 a.kind,.sl 1 (x 0) 1 0 a.st.length]
 out:=fun _ _=>[]
 new:=fun a x=>[(x 0,.ints .i64 a.st)]
theorem ok55:FSOk Tryz.prog 55 fs55:=by
 refine⟨⟨_,Tryz.func55,by kernel_rfl,by kernel_rfl⟩,fun a=>⟨by simp[fs55,mdM,push_cast,noMine,argOwn,Chunk.frArg],by simp[fs55,mdM,push_cast,outOk,Chunk.ext],fun x=>.inl (by simp[fs55,mdM,push_cast,frNew,frOut,Chunk.fr])⟩,fun a hp=>?_⟩
 obtain⟨L,kind,st⟩:=a
 have hp:st.length<=1000000:=hp
 change Tri Tryz.prog 55 [.agg [.int .i64 kind,.sl 0 L 1 0 st.length]] [some (.ro,L,.ints .i64 st)] (postF fs55 ⟨L,kind,st⟩)
 refine tri_evS (hyp (l:=[]) (lp:=[]) trivial trivial) Tryz.func55 comp55 (rs:=[.cell 2 (some 2)]) (by rfl) Tryz.ntmps55 14 ?_
 simp -implicitDefEqProofs only[push_cast,zz,seval,ir55]
 intro X X1
 repeat refine om_ ?_
 refine postF.mk' (fun _=>X1 5 13) [some 0,some 13] ?_
 simp -implicitDefEqProofs only[push_cast,zz,seval,fs55,mdM]
def ent55:Entry:=spOf fs55 invMd
theorem e55:EntryOk Tryz.prog 55 ent55:=entry_of ok55 invMd
@[push_cast] theorem ent55_app (us:List SV) (look:Look) (x:Nat->Xf.Loc) (k:Nat):ent55 us look x k=spOf fs55 invMd us look x k:=rfl
def fs54:FS where
 A:=MdA
 args:=fun a=>[.agg [.int .i64 a.kind,.sl 0 a.L 1 0 a.st.length]]
 mem:=mdM
 pre:=fun a=>mdOk a.kind a.st
 res:=fun a _=>.bool true
 out:=fun _ _=>[]
 new:=fun _ _=>[]
end Go.Proofs.YthicgkilfjjifaaGreat
