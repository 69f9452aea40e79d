import Derived.Test.YtaofjnkpkocgjaaGreatKa
import Derived.Laws.StructEq
import Derived.ChangeKeysEq
import Derived.LoopN
set_option linter.unusedVariables false
set_option linter.unusedSimpArgs false
section 
namespace Go.Proofs.YtaofjnkpkocgjaaGreat.Xf
variable {P:Program} {sp:Sp} {spP:SpP} {no:Lim} {sl:List Ent} {m:Mem} {b1 w0 w:World} {W:Addr->Prop} {a:Act} {tab:Tab} {isP:FuncId->Bool}
theorem growBy_le (n:Nat):∀ (r c:Nat),c<=2*n+200->Builtin.growBy n r c<=2*n+200
 | 0,c,h=>h
 | r+1,c,h=>by
  simp only[Builtin.growBy]
  split
  ·exact h
  ·exact growBy_le n r _ (by omega)
theorem nextslicecap_le (need old:Nat) (h:old<need):Builtin.nextslicecap need old<=2*need+512:=by
 unfold Builtin.nextslicecap
 split
 ·omega
 ·split
  ·omega
  ·have:=growBy_le need 4 old (by omega);omega
theorem growBy_le4 (n:Nat):∀ (r c:Nat),c<=n+n / 4+200->Builtin.growBy n r c<=n+n / 4+200
 | 0,c,h=>h
 | r+1,c,h=>by
  simp only[Builtin.growBy]
  split
  ·exact h
  ·exact growBy_le4 n r _ (by omega)
theorem nextslicecap_le4 (need old:Nat) (h:old<need):Builtin.nextslicecap need old<=need+need / 4+1000:=by
 unfold Builtin.nextslicecap
 split
 ·omega
 ·split
  ·omega
  ·have:=growBy_le4 need 4 old (by omega);omega
theorem zsize (hT:∀ t tt,tab t=some tt->TtOk P t tt) {e:TypeId} {te:TT} (hte:tab e=some te) {i0:TypeInfo} (hi0:P.info? e=some i0) {zv:Value} (hzv:i0.zero=some zv):zv.cells.size=te.size:=by
 obtain⟨i1,hi1,_,_,z1,hz1,hds,_⟩:=(hT e te hte).info
 rw[hi0]at hi1;cases hi1
 rw[hzv]at hz1;cases hz1
 have h1:=hds.length
 have h2:=(hT e te hte).len
 simp at h1;omega
theorem app_grow (hT:∀ t tt,tab t=some tt->TtOk P t tt) {t t' e e' ty:TypeId} {tt tt' te:TT} (htt:tab t=some tt) (hkind:tt.kind=.slice e) (htt':tab t'=some tt') (hkind':tt'.kind=.slice e')
  (hte:tab e=some te) (h1:0<te.size) (hby:te.bytes<=100) (A:Option Addr) (N C:Nat) (B:Option Addr) (M D:Nat) (olds us:List Value)
  (hf:(Builtin.firstCells te.size M (.slice B M D)).run P w.drew=.ok us.toArray w.drew) (hfo:(Builtin.firstCells te.size N (.slice A N C)).run P w.drew=.ok olds.toArray w.drew)
  (hN:olds.length=N*te.size) (hM:us.length=M*te.size) (hroom:C<N+M) (hsmall:((N+M:Nat):Int)<=appB te.bytes) :
  ∃ cap rest,N+M<=cap/\rest.length=(cap-(N+M))*te.size/\(Builtin.append_ #[t,t'] ty #[.slice A N C,.slice B M D]).run P w =
   .ok (.slice (some ⟨w.heap.size,0,none⟩) (N+M) cap) (w.drew.alloc (.cells (olds++us++rest).toArray e)):=by
 obtain⟨i0,hi0,hsz,hbytes,zv,hzv,hds,hagg⟩:=(hT e te hte).info
 have hn:¬ (N+M<=C):=by omega
 have hsm1:te.bytes=1/\N+M<=140737488355328∨N+M<=1000000000000:=by
  unfold appB at hsmall
  by_cases e:te.bytes=1
  ·simp only[e,decide_true,cond_true]at hsmall;exact .inl ⟨e,by omega⟩
  ·simp only[e,decide_false,cond_false]at hsmall;exact .inr (by omega)
 have h63':¬ (9223372036854775807<((N:Int)+(M:Int))):=by omega
 have h48':¬ (281474976710656<Builtin.nextslicecap (N+M) C*i0.bytes):=by
  rcases hsm1 with ⟨e,hs⟩ | hs
  ·have:=nextslicecap_le4 (N+M) C hroom
   rw[hbytes,e,Nat.mul_one]
   omega
  ·have:=nextslicecap_le (N+M) C hroom
   have:Builtin.nextslicecap (N+M) C*i0.bytes<=(2*(N+M)+512)*100:=Nat.mul_le_mul this (by omega)
   omega
 refine⟨grownCap w (N+M) C e,(Builtin.zeroCells zv.cells (grownCap w (N+M) C e-(N+M))).toList,grownCap_ge w _ _ _,?_,?_⟩
 ·simp[size_zeroCells,zsize hT hte hi0 hzv]
 ·simp[Builtin.append_,run_underlying (desc_slice hT htt hkind),run_underlying (desc_slice hT htt' hkind'),sizeOf,typeInfo,zeroValue,hi0,hzv,Builtin.lenOf,hn,h63',h48',Question.forced,hsz,hf,hfo,newRow,grownCap,Result.andThen]
  unfold World.alloc World.drew
  congr 2
  congr 1
  apply Array.ext'
  simp
theorem app_room (hT:∀ t tt,tab t=some tt->TtOk P t tt) {t t' e e' ty:TypeId} {tt tt' te:TT} (htt:tab t=some tt) (hkind:tt.kind=.slice e) (htt':tab t'=some tt') (hkind':tt'.kind=.slice e')
  (hte:tab e=some te) (A:Option Addr) (N C:Nat) (B:Option Addr) (M D:Nat) (us:List Value)
  (hf:(Builtin.firstCells te.size M (.slice B M D)).run P w=.ok us.toArray w) (hroom:N+M<=C) {w':World} (hst:∀ b,A=some b->(storeCells (b.add (N*te.size)) us).run P w=.ok () w') (hnone:A=none->w'=w) :
  (Builtin.append_ #[t,t'] ty #[.slice A N C,.slice B M D]).run P w=.ok (.slice A (N+M) C) w':=by
 obtain⟨i0,hi0,hsz,hbytes,zv,hzv,hds,hagg⟩:=(hT e te hte).info
 cases A with
 | none=>
  rw[hnone rfl]
  simp[Builtin.append_,run_underlying (desc_slice hT htt hkind),run_underlying (desc_slice hT htt' hkind'),sizeOf,typeInfo,hi0,Builtin.lenOf,hroom,hsz,hf,Result.andThen]
 | some b=>
  have:=hst b rfl
  simp[Builtin.append_,run_underlying (desc_slice hT htt hkind),run_underlying (desc_slice hT htt' hkind'),sizeOf,typeInfo,hi0,Builtin.lenOf,hroom,hsz,hf,this,Result.andThen]
theorem cells_at (hm:MemSat w0 W m w) {d:Nat} {own:Own} {M:Loc} {ch:Chunk} (hd:lk m d=some (own,M,ch)) (b n:Nat) (hn:b+n<=ch.len) :
  ∃ us:List Value,us.length=n/\(∀ o,o<n->∃ v,us[o]?=some v/\Den (ch.cell (b+o)) v)/\(∀ j v,us[j]?=some v->w.cell? ((M.ad b).add j)=some v):=by
 have hk:=hm.chunk d _ hd
 obtain⟨us,h1,h2,h3⟩:=cells_from (w:=w) (L:=M) ((List.range n).map fun o=>ch.cell (b+o)) b n (fun j hj=>by
  obtain⟨v,hv,hdv⟩:=hk.cell (b+j) (by simp only;omega)
  exact⟨v,hv,fun d hd=>by simp[hj]at hd;rw[<-hd];exact hdv⟩) (by simp)
 refine⟨us,h1,fun o ho=>?_,h2⟩
 obtain⟨v,hv,hdv⟩:=h3.get (i:=o) (c:=ch.cell (b+o)) (by simp[ho])
 exact⟨v,hv,hdv⟩
theorem first_ok (hm:MemSat w0 W m w) {d:Nat} {own:Own} {M:Loc} {ch:Chunk} (hd:lk m d=some (own,M,ch)) {lo n S:Nat} (hn:(lo+n)*S<=ch.len) {B:Option Addr} {N D:Nat} (hB:n≠0->B=some (M.ad (lo*S))) :
  ∃ us:List Value,us.length=n*S/\(∀ o,o<n*S->∃ v,us[o]?=some v/\Den (ch.cell (lo*S+o)) v)/\(Builtin.firstCells S n (.slice B N D)).run P w=.ok us.toArray w/\(Builtin.firstCells S n (.slice B N D)).run P w.drew=.ok us.toArray w.drew:=by
 obtain⟨us,h1,h2,h3⟩:=cells_at hm hd (lo*S) (n*S) (by rw[<-Nat.add_mul];exact hn)
 refine⟨us,h1,h2,?_⟩
 by_cases hz:n=0
 ·subst hz
  have:us=[]:=by simpa using h1
  subst this
  cases B<;>simp[Builtin.firstCells,loadCells,loadCellsFrom]
 ·rw[hB hz]
  exact⟨run_firstCells_some w S n _ N D us h1 h3,run_firstCells_some w.drew S n _ N D us h1 (by simpa using h3)⟩
theorem cell_one {ch:Chunk} (hch:∃ n,chLen ch=some n) {o:Nat}:size1 (ch.cell o)=true:=by
 obtain⟨n,hn⟩:=hch
 cases ch<;>simp[chLen]at hn<;>first | rfl | exact RC.size1 _
theorem storeBeyond {L:Loc} {E base:Nat}:∀ (us:List Value) (i:Nat) (w:World),MemSat w0 W m w->Kept b1 w0 W w->(∀ o,o<E->(w.cell? (L.ad o)).isSome=true/\w.frozen? (L.ad o)=false) ->
  (∀ o,o<E->w0.heap.size<=(L.ad o).block∨W (L.ad o))->(∀ d f,lk m d=some f->∀ o,o<E->¬ rf f (L.ad o))->base+i+us.length<=E->(∀ v∈us,v.oneCell'=true) ->
  ∃ w',(storeCells (L.ad base) us i).run P w=.ok () w'/\MemSat w0 W m w'/\Kept b1 w0 W w'/\(∀ x,w'.frozen? x=w.frozen? x) /\
   (∀ o,o<E->w'.cell? (L.ad o)=if base+i<=o/\o<base+i+us.length then us[o-(base+i)]? else w.cell? (L.ad o))/\∀ x,(∀ o,o<E->x≠L.ad o)->w'.cell? x=w.cell? x
 | [],i,w,hm,hk,_,_,_,_,_=>⟨w,by simp[storeCells],hm,hk,fun _=>rfl,fun o _=>by simp;omega,fun _ _=>rfl⟩
 | v::us,i,w,hm,hk,hc,hfr,hsep,hle,h1=>by
  simp only[List.length_cons]at hle
  have hlt:base+i<E:=by omega
  obtain⟨hs,hf⟩:=hc (base+i) hlt
  obtain⟨u,hu⟩:=Option.isSome_iff_exists.1 hs
  have hst:(store (L.ad (base+i)) v).run P w=.ok () (w.setCell (L.ad (base+i)) v):=by
   rw[run_store P w _ _ _ (h1 v (by simp)),hu];simp[hf]
  have hm1:MemSat w0 W m (w.setCell (L.ad (base+i)) v):=by
   refine⟨fun d f hd=>(hm.chunk d f hd).keep (fun x hx=>?_) (fun x _=>by simp),hm.sep⟩
   exact World.cell?_setCell_other _ _ _ _ (fun e=>hsep d f hd (base+i) hlt (e▸hx))
  have hk1:Kept b1 w0 W (w.setCell (L.ad (base+i)) v):=hk.trans (Kept.setCell w _ v rfl) (fun x hx hlt'=>by
   subst hx
   rcases hfr _ hlt with h | h
   ·simp[Loc.ad]at hlt' h;omega
   ·exact h)
  have hcell1:∀ o,o≠base+i->(w.setCell (L.ad (base+i)) v).cell? (L.ad o)=w.cell? (L.ad o):=fun o ho=>
   World.cell?_setCell_other w (L.ad (base+i)) (L.ad o) v (fun e=>ho (by have:=congrArg Addr.off e;simp[Loc.ad]at this;omega))
  have hself:(w.setCell (L.ad (base+i)) v).cell? (L.ad (base+i))=some v:=World.cell?_setCell_same _ _ _ hu
  obtain⟨w',g1,g2,g3,g4,g5,g6⟩:=storeBeyond (base:=base) us (i+1) _ hm1 hk1 (fun o ho=>by
   by_cases e:o=base+i
   ·subst e;rw[hself];simpa using hf
   ·rw[hcell1 o e];simpa using hc o ho) hfr hsep (by omega) (fun x hx=>h1 x (by simp[hx]))
  refine⟨w',?_,g2,g3,fun x=>by rw[g4];simp,fun o ho=>?_,fun x hx=>?_⟩
  ·simp only[storeCells,Sem.run_bind]
   rw[ad_add,hst]
   exact g1
  ·rw[g5 o ho]
   by_cases e:o=base+i
   ·subst e
    rw[if_neg (by omega),if_pos ⟨by omega,by simp⟩,hself]
    simp
   ·by_cases h:base+i<=o/\o<base+i+(us.length+1)
    ·rw[if_pos ⟨by omega,by omega⟩,if_pos (by simpa using h)]
     obtain⟨q,hq⟩:∃ q,o-(base+i)=q+1:=⟨o-(base+i)-1,by omega⟩
     rw[hq]
     rw[show o-(base+(i+1))=q by omega]
     simp
    ·rw[if_neg (by omega),if_neg (by simpa using h),hcell1 o e]
  ·rw[g6 x hx,World.cell?_setCell_other _ _ _ _ (fun e=>hx _ hlt e.symm)]
theorem chLen_eq {ch:Chunk} {n:Int} (h:chLen ch=some n):0<=n/\ch.len=n.toNat*chS ch/\(∀ o,size1 (ch.cell o)=true)/\(∀ L,ch.ext L=L.cap*chS ch):=by
 cases ch<;>simp only[chLen]at h<;>cases h
 ·exact⟨by omega,by simp[Chunk.len,chS],fun _=>rfl,fun L=>by simp[Chunk.ext,chS]⟩
 ·exact⟨by omega,by simp[Chunk.len,chS],fun _=>rfl,fun L=>by simp[Chunk.ext,chS]⟩
 ·exact⟨by omega,by simp[Chunk.len,chS],fun _=>RC.size1 _,fun L=>rfl⟩
theorem rcAt_app {l l':List (List RC)} {s o:Nat} (hs:0<s):(o<l.length*s->rcAt (l++l') s o=rcAt l s o)/\rcAt (l++l') s (l.length*s+o)=rcAt l' s o:=by
 refine⟨fun ho=>?_,?_⟩
 ·have:o / s<l.length:=Nat.div_lt_of_lt_mul (by rw[Nat.mul_comm];exact ho)
  simp[rcAt,List.getD_eq_getElem?_getD,List.getElem?_append_left this]
 ·have e1:(l.length*s+o) / s=l.length+o / s:=by rw[Nat.mul_comm,Nat.mul_add_div hs]
  have e2:(l.length*s+o) % s=o % s:=by rw[Nat.mul_comm,Nat.mul_add_mod]
  simp[rcAt,e1,e2,List.getD_eq_getElem?_getD,List.getElem?_append_right]
theorem appCh_spec {ch ch' r:Chunk} {L0 L0':Loc} (f1:ch.fits L0) (f2:ch'.fits L0') {n n':Int} (hn:chLen ch=some n) (hn':chLen ch'=some n') (hs:chS ch=chS ch') (h:appCh ch ch'=some r) :
  r.len=ch.len+ch'.len/\(∀ o,o<ch.len->r.cell o=ch.cell o)/\(∀ o,o<ch'.len->r.cell (ch.len+o)=ch'.cell o)/\(∀ L,r.ext L=L.cap*chS ch) /\
  (∀ L:Loc,n+n'<=L.cap->(L.nil=true->L.cap=0)->r.fits L)/\(∀ L k xs,r.rows L k xs->ch.rows L k xs∨ch'.rows L k xs)/\(r.fr=true->ch.fr=true/\ch'.fr=true):=by
 have gI:∀ (xs ys:List Int) (o:Nat),o<xs.length->(xs++ys).getD o 0=xs.getD o 0:=fun xs ys o ho=>by simp[List.getD_eq_getElem?_getD,List.getElem?_append_left ho]
 have gI2:∀ (xs ys:List Int) (o:Nat),(xs++ys).getD (xs.length+o) 0=ys.getD o 0:=fun xs ys o=>by simp[List.getD_eq_getElem?_getD,List.getElem?_append_right]
 have gB:∀ (xs ys:List Bool) (o:Nat),o<xs.length->(xs++ys).getD o false=xs.getD o false:=fun xs ys o ho=>by simp[List.getD_eq_getElem?_getD,List.getElem?_append_left ho]
 have gB2:∀ (xs ys:List Bool) (o:Nat),(xs++ys).getD (xs.length+o) false=ys.getD o false:=fun xs ys o=>by simp[List.getD_eq_getElem?_getD,List.getElem?_append_right]
 unfold appCh at h
 split at h
 ·rename_i k xs k' ys
  simp only[chLen]at hn hn'
  cases hn;cases hn'
  by_cases e:k=k'
  ·subst e
   simp only[decide_true,cond_true]at h
   cases h
   exact⟨by simp[Chunk.len],fun o ho=>by simp only[Chunk.cell,gI xs ys o ho],fun o _=>by simp only[Chunk.cell,Chunk.len,gI2],fun _=>by simp[Chunk.ext,chS],fun L h1 h2=>⟨by simp;omega,h2⟩,fun _ _ _ h=>h.elim,fun _=>⟨rfl,rfl⟩⟩
  ·simp only[e,decide_false,cond_false]at h
   split at h
   ·cases h
    exact⟨by simp[Chunk.len],fun o ho=>by simp[Chunk.len]at ho,fun o _=>by simp[Chunk.cell,Chunk.len],fun _=>by simp[Chunk.ext,chS],fun L h1 h2=>⟨by simp at h1;omega,h2⟩,fun _ _ _ h=>h.elim,fun _=>⟨rfl,rfl⟩⟩
   ·cases h
 ·simp only[chLen]at hn hn'
  cases hn;cases hn'
  cases h
  exact⟨by simp[Chunk.len],fun o ho=>by simp[Chunk.len]at ho,fun o _=>by simp[Chunk.cell,Chunk.len],fun _=>by simp[Chunk.ext,chS],fun L h1 h2=>⟨by simp at h1;omega,h2⟩,fun _ _ _ h=>h.elim,fun _=>⟨rfl,rfl⟩⟩
 ·rename_i xs ys
  simp only[chLen]at hn hn'
  cases hn;cases hn'
  cases h
  exact⟨by simp[Chunk.len],fun o ho=>by simp only[Chunk.cell,gB xs ys o ho],fun o _=>by simp only[Chunk.cell,Chunk.len,gB2],fun _=>by simp[Chunk.ext,chS],fun L h1 h2=>⟨by simp;omega,h2⟩,fun _ _ _ h=>h.elim,fun _=>⟨rfl,rfl⟩⟩
 ·rename_i s fr z l s' fr' z' l'
  simp only[chLen]at hn hn'
  cases hn;cases hn'
  simp only[chS]at hs
  subst hs
  simp only[decide_true,cond_true]at h
  cases h
  obtain⟨g1,g2,g3,g4⟩:=f1
  obtain⟨k1,k2,k3,k4⟩:=f2
  refine⟨by simp[Chunk.len,Nat.add_mul],fun o ho=>?_,fun o _=>?_,fun _=>rfl,fun L h1 h2=>⟨by simp;omega,h2,g3,fun r hr=>?_⟩,fun L k xs ⟨r,hr,hx⟩=>?_,fun hh=>by simpa [Chunk.fr]using hh⟩
  ·simp only[Chunk.cell];rw[(rcAt_app g3).1 ho]
  ·simp only[Chunk.cell,Chunk.len];rw[(rcAt_app g3).2]
  ·rcases List.mem_append.1 hr with hr | hr
   ·exact g4 r hr
   ·exact k4 r hr
  ·rcases List.mem_append.1 hr with hr | hr
   ·exact .inl ⟨r,hr,hx⟩
   ·exact .inr ⟨r,hr,hx⟩
 ·cases h
end Go.Proofs.YtaofjnkpkocgjaaGreat.Xf
end
section 
namespace Go.Proofs.YtaofjnkpkocgjaaGreat.Xf
variable {P:Program} {sp:Sp} {spP:SpP} {no:Lim} {sl:List Ent} {m:Mem} {b1 w0 w:World} {W:Addr->Prop} {a:Act} {tab:Tab} {isP:FuncId->Bool}
theorem appF_some {es eb:Nat} {no:Lim} {look:Look} {u v:SV} {p:Prop} {n:Int} {f:Option (Nat×Own)} {r:Chunk} (h:appF es eb no look u v=some (p,n,f,r)) (hp:p) :
  ∃ (c:Nat) (L:Loc) (s:Nat) (n0:Int) (d:Nat) (M:Loc) (s':Nat) (q:Int) (own':Own) (ch':Chunk),u=.sl c L s 0 n0/\v=.sl d M s' 0 q/\look d=some (own',M,ch')/\(0<=q/\ch'.len=q.toNat*es/\∀ o,o<ch'.len->size1 (ch'.cell o)=true)/\n=n0+q /\
   n0+q<=appB eb/\((L.nil=true/\n0=0/\f=none/\r=ch'/\((chLen ch'=some q/\chS ch'=es)∨(0<q/\∃ cs,ch'=.cells cs)))∨∃ own ch,(chLen ch'=some q/\chS ch'=es)/\own.wr=true/\look c=some (own,L,ch)/\chLen ch=some n0/\chS ch=es/\appCh ch ch'=some r/\c≠d/\f=some (c,appO own)):=by
 have hel:∀ {ch':Chunk} {q:Int},chLen ch'=some q->chS ch'=es->0<=q/\ch'.len=q.toNat*es/\∀ o,o<ch'.len->size1 (ch'.cell o)=true:=fun h1 h2=>by
  obtain⟨g1,g2,g3,_⟩:=chLen_eq h1
  exact⟨g1,by rw[g2,h2],fun o _=>g3 o⟩
 unfold appF at h
 split at h
 case h_2=>cases h
 rename_i _ c L s lo n0
 split at h
 case h_2=>cases h
 rename_i _ d M s' lo' q
 split at h
 case h_2=>cases h
 rename_i own' M' ch' hl
 split at h
 case h_2=>
  unfold appC at h
  split at h
  case h_2=>cases h
  rename_i cs _
  cases hb:(c==4096&&(!(decide (es=1))&&(decide (cs.length=es)&&cs.all size1)))with
  | false=>rw[hb]at h;cases h
  | true=>
   rw[hb]at h
   cases h
   simp only[Bool.and_eq_true,decide_eq_true_eq,List.all_eq_true]at hb
   obtain⟨_,_,hb1,hb2⟩:=hb
   obtain⟨g1,rfl,rfl,rfl,rfl,rfl⟩:=hp
   refine⟨c,L,s,0,d,M',s',1,own',.cells cs,rfl,rfl,lkN_some hl,⟨by decide,by simp[Chunk.len,hb1],fun o ho=>?_⟩,rfl,?_,.inl ⟨g1,rfl,rfl,rfl,.inr ⟨by decide,cs,rfl⟩⟩⟩
   ·simp only[Chunk.len]at ho
    have:=hb2 cs[o] (List.getElem_mem ho)
    simpa [Chunk.cell,List.getD_eq_getElem?_getD,ho]using this
   ·unfold appB
    cases decide (eb=1)<;>decide
 rename_i q' hq'
 by_cases hes:chS ch'=es
 case neg=>simp[hes]at h
 simp only[hes,decide_true,cond_true]at h
 cases hc:(c==4096)with
 | true=>
  rw[hc]at h
  simp only[cond_true]at h
  cases h
  obtain⟨g1,rfl,rfl,rfl,rfl,rfl,g2⟩:=hp
  exact⟨c,L,s,0,d,M',s',_,own',r,rfl,rfl,lkN_some hl,hel hq' hes,by omega,by omega,.inl ⟨g1,rfl,rfl,rfl,.inl ⟨hq',hes⟩⟩⟩
 | false=>
  rw[hc]at h
  simp only[cond_false]at h
  split at h
  case h_2=>cases h
  rename_i own L' ch hl1
  cases hn':chLen ch with
  | none=>rw[hn']at h;cases h
  | some n'=>
   cases hr:appCh ch ch' with
   | none=>rw[hn',hr]at h;cases h
   | some r'=>
    cases hro:own.wr with
    | false=>rw[hn',hr,hro]at h;cases h
    | true=>
     rw[hn',hr,hro]at h
     simp only at h
     by_cases hes1:chS ch=es
     case neg=>simp[hes1]at h
     cases hcd:(c==d)with
     | true=>rw[hcd]at h;simp at h
     | false=>
      rw[hcd]at h
      simp only[hes1,decide_true,Bool.not_true,Bool.or_self,cond_false]at h
      cases h
      obtain⟨rfl,rfl,rfl,rfl,rfl,rfl,g2⟩:=hp
      exact⟨c,L',s,n0,d,M',s',_,own',ch',rfl,rfl,lkN_some hl,hel hq' hes,rfl,g2,.inr ⟨own,ch,⟨hq',hes⟩,hro,lkN_some hl1,hn',hes1,hr,by simpa using hcd,rfl⟩⟩
def appU (k:Nat) (L:Loc) (ch:Chunk):Option (Nat×Own)->Upd
 | none=>[(k,some (.mine,L,ch))]
 | some (c,own)=>[(c,none),(k,some (own,L,ch))]
theorem done_app (hT:∀ t tt,tab t=some tt->TtOk P t tt) (hs:SlotsOk sl a) (hm:MemSat w0 W m w) (hk:Kept b1 w0 W w)
  {t t' e e' ty:TypeId} {tt tt' te:TT} (htt:tab t=some tt) (hkind:tt.kind=.slice e) (htt':tab t'=some tt') (hkind':tt'.kind=.slice e')
  (hte:tab e=some te) (h1:0<te.size) (hby:te.bytes<=100)
  {k:Nat} {X Y:Operand} {ax ay:Opd} (hax:opd X=some ax) (hay:opd Y=some ay)
  (hx:∀ x,∃ p v u,stepF sp spP no x sl (lk m) (.app k te.size te.bytes ax ay)=some (p,v,u)/\p) :
  Done P sp spP no sl m b1 w0 W (.app k te.size te.bytes ax ay) ((do pure (Next.value (<-Builtin.append_ #[t,t'] ty #[a.eval X,a.eval Y])):Sem Next).run P w):=by
 obtain⟨p,v,u,h,hp⟩:=hx (fun _=>default)
 simp only[stepF]at h
 obtain⟨c0,s0,p0,e0,f0,rfl⟩:=o1_some h
 obtain⟨c1,s1,p1,e1,f1,rfl⟩:=o1_some f0
 obtain⟨hc0,hc1,hp1⟩:=hp
 subst hc0 hc1
 have hd0:=opd_den hax hs e0 rfl
 have hd1:=opd_den hay hs e1 rfl
 obtain⟨p2,n,f,r,hF,hp2⟩:∃ p2 n f r,appF te.size te.bytes no (lk m) s0 s1=some (p2,n,f,r)/\p2:=by
  split at f1
  ·cases f1
  ·rename_i hF;cases f1;exact⟨_,_,_,_,hF,hp1⟩
  ·rename_i hF;cases f1;exact⟨_,_,_,_,hF,hp1⟩
 have fin:∀ (L:Loc) (rv:Value) (w':World),(Builtin.append_ #[t,t'] ty #[a.eval X,a.eval Y]).run P w=.ok rv w'->Den (.sl k L te.size 0 n) rv ->
   MemSat w0 W (apU m (appU k L r f)) w'->Kept b1 w0 W w' ->
   Done P sp spP no sl m b1 w0 W (.app k te.size te.bytes ax ay) ((do pure (Next.value (<-Builtin.append_ #[t,t'] ty #[a.eval X,a.eval Y])):Sem Next).run P w):=by
  intro L rv w' hr hd hm' hk'
  refine⟨fun _=>L,(true=true/\true=true/\p2),_,_,rv,w',?_,⟨rfl,rfl,hp2⟩,.inl ?_,hd,hm',hk'⟩
  ·simp only[stepF,o1,e0,e1,hF]
   cases f with
   | none=>rfl
   | some f=>rfl
  ·simp[hr,Result.andThen]
 obtain⟨c,L,sc,n0,d,M,sd,q,own',ch',rfl,rfl,hld,⟨qn,q1,q2⟩,rfl,hsm,hcase⟩:=appF_some hF hp2
 simp only[Den]at hd0 hd1
 obtain⟨_,n0n,nc,nz,A,hA,hAn,hA'⟩:=hd0
 obtain⟨_,q0,qc,qz,B,hB,hBn,hB'⟩:=hd1
 simp only[Int.toNat_zero,Nat.sub_zero,Nat.zero_mul]at hA hA' hB hB'
 have hfit':ch'.fits M:=(hm.chunk d _ hld).fits
 obtain⟨N,rfl⟩:∃ N:Nat,n0=(N:Int):=⟨n0.toNat,by omega⟩
 obtain⟨Q,rfl⟩:∃ Q:Nat,q=(Q:Int):=⟨q.toNat,by omega⟩
 simp only[Int.toNat_natCast]at hA hB q1
 obtain⟨us,u1,u2,u3,u4⟩:=first_ok (P:=P) hm hld (lo:=0) (n:=Q) (S:=te.size) (by simp[q1]) (B:=B) (N:=Q) (D:=M.cap) (fun hne=>by
  have hb:=hB' (by omega)
  rw[hb]
  cases hn:M.nil
  ·simp
  ·have:=qz hn;omega)
 simp only[Nat.zero_mul,Nat.zero_add]at u2
 have hus1:∀ v∈us,v.oneCell'=true:=by
  intro v hv
  obtain⟨i,hi⟩:=List.getElem?_of_mem hv
  have hlt:i<Q*te.size:=by rw[<-u1];exact(List.getElem?_eq_some_iff.1 hi).1
  obtain⟨v',hv',hd⟩:=u2 i hlt
  rw[hi]at hv';cases hv'
  exact(hd.one (q2 i (by rw[q1];exact hlt))).1
 rw[hA,hB]at fin ⊢
 have grow:∀ (olds:List Value) (hroom:L.cap<N+Q),olds.length=N*te.size ->
   (Builtin.firstCells te.size N (.slice A N L.cap)).run P w.drew=.ok olds.toArray w.drew ->
   r.len=(N+Q)*te.size->(∀ L':Loc,N+Q<=L'.cap->r.ext L'<=L'.cap*te.size)->(∀ L':Loc,N+Q<=L'.cap->L'.nil=false->r.fits L') ->
   (∀ o,o<(N+Q)*te.size->∃ v,(olds++us)[o]?=some v/\Den (r.cell o) v)->(∀ L' k xs,r.rows L' k xs->Shown w0 r.fr m w L' k xs) ->
   Done P sp spP no sl m b1 w0 W (.app k te.size te.bytes ax ay) ((do pure (Next.value (<-Builtin.append_ #[t,t'] ty #[.slice A N L.cap,.slice B Q M.cap])):Sem Next).run P w):=by
  intro olds hroom ho hfo hrl hre hrf hrc hrr
  obtain⟨cap,rest,g1,g2,g3⟩:=app_grow (ty:=ty) hT htt hkind htt' hkind' hte h1 hby A N L.cap B Q M.cap olds us u4 hfo ho u1 hroom (by omega)
  obtain⟨m1,hm1,hsh,hend⟩:∃ m1,MemSat w0 W m1 w.drew/\(∀ L' k xs,r.rows L' k xs->Shown w0 r.fr m1 w.drew L' k xs)/\∀ (L:Loc) (w':World),MemSat w0 W (st m1 k (some (.mine,L,r))) w'->MemSat w0 W (apU m (appU k L r f)) w':=by
   cases f with
   | none=>
    refine⟨m,hm.drew,fun L' kk xs hx=>?_,fun L w' h=>h⟩
    have s1:=hrr L' kk xs hx
    exact⟨s1.cap,s1.nil,fun o ho=>by simpa using s1.cell o ho,s1.far,s1.fresh⟩
   | some f=>
    obtain⟨c,own⟩:=f
    refine⟨st m c none,(hm.forget c).drew,fun L' kk xs hx=>?_,fun L w' h=>?_⟩
    ·have s1:=hrr L' kk xs hx
     refine⟨s1.cap,s1.nil,fun o ho=>by simpa using s1.cell o ho,fun d f' hf o ho=>?_,s1.fresh⟩
     rw[lk_st]at hf
     split at hf
     ·cases hf
     ·exact s1.far d f' hf o ho
    ·have hown:own=.mine∨own=.got:=by
      rcases hcase with ⟨_,_,h,_⟩ | ⟨own0,_,_,hw,_,_,_,_,_,h⟩
      ·cases h
      ·cases h
       cases own0<;>simp[appO]at hw ⊢<;>first | (cases hw;done) | skip
     rcases hown with rfl | rfl
     ·exact h
     ·simp only[appU,apU]
      by_cases hk':k<(st m c none).length
      ·have hl:lk (st (st m c none) k (some (.mine,L,r))) k=some (.mine,L,r):=by rw[lk_st,if_pos ⟨rfl,hk'⟩]
       have hck:=h.chunk k _ hl
       have:=h.turn hl (e':=(.got,L,r)) ⟨hck.cell,hck.row,hck.self,hck.mineW,hck.fits,fun o ho=>.inl (hck.home o ho)⟩ (fun _ h=>h) (fun _ h=>h)
       rwa [st_st]at this
      ·have e:∀ x,st (st m c none) k x=st m c none:=fun x=>by
        have:∀ (l:Mem) (n:Nat),l.length<=n->st l n x=l:=by
         intro l
         induction l with
         | nil=>intro n _;simp[st]
         | cons a l ih=>intro n hn;cases n with
          | zero=>simp at hn
          | succ n=>simp[st];exact ih n (by simpa using hn)
        exact this _ _ (by omega)
       rw[e]at h ⊢;exact h
  have hlen:(olds++us).length=(N+Q)*te.size:=by simp[ho,u1,Nat.add_mul]
  have hcap:(N+Q)*te.size+(cap-(N+Q))*te.size=cap*te.size:=by rw[<-Nat.add_mul];congr 1;omega
  obtain⟨hm',hk'⟩:=made_ok hm1 (hk.trans (Kept.drew w W) (fun _ h _=>h)) k (olds++us++rest).toArray e ⟨w.heap.size,0,false,cap⟩ r rfl rfl
   (fun o ho'=>by
    obtain⟨v,hv,hd⟩:=hrc o (by omega)
    refine⟨v,?_,hd⟩
    have hlt:o<(olds++us).length:=by omega
    rw[List.getElem?_toArray,List.getElem?_append_left hlt];exact hv)
   (by
    have e1:(olds++us++rest).toArray.size=(olds++us).length+rest.length:=by simp[Nat.add_assoc]
    have hre2:r.ext ⟨w.heap.size,0,false,cap⟩<=cap*te.size:=hre ⟨w.heap.size,0,false,cap⟩ (by simpa using g1)
    rw[e1,hlen,g2];omega) (hrf _ (by simpa using g1) rfl) hsh
  refine fin ⟨w.heap.size,0,false,cap⟩ _ _ g3 ?_ ?_ hk'
  ·simp only[Den]
   refine⟨by omega,by omega,by simp;omega,by simp,some ⟨w.heap.size,0,none⟩,?_,by simp,fun _=>by simp[Loc.ad]⟩
   congr 1<;>omega
  ·exact hend _ _ hm'
 rcases hcase with ⟨hnil,hN0,rfl,rfl,hqc⟩ | ⟨own,ch,⟨hq,hes⟩,hown,hlc,hn,hes0,hr,hcd,rfl⟩
 ·
  obtain rfl:N=0:=by omega
  have hcap:=nz hnil
  have hAnone:A=none:=by rw[hnil]at hAn;cases A<;>simp at hAn ⊢
  subst hAnone
  have hfits:chLen r=some (Q:Int)->∀ L':Loc,Q<=L'.cap->(L'.nil=true->L'.cap=0)->r.fits L':=by
   intro hq L' h2 h3
   cases r with
   | ints k xs=>simp only[chLen]at hq;cases hq;exact⟨by omega,h3⟩
   | bools xs=>simp only[chLen]at hq;cases hq;exact⟨by omega,h3⟩
   | cells cs=>simp[chLen]at hq
   | recs s fr z l=>simp only[chLen]at hq;cases hq;exact⟨by omega,h3,hfit'.2.2⟩
  rcases Nat.eq_zero_or_pos Q with hz | hz
  ·
   obtain⟨hq,hes⟩:chLen r=some (Q:Int)/\chS r=te.size:=by
    rcases hqc with h | ⟨h,_⟩
    ·exact h
    ·omega
   replace hfits:=hfits hq
   have q3:∀ L,r.ext L=L.cap*te.size:=fun L=>by rw[<-hes];exact(chLen_eq hq).2.2.2 L
   have hus:us=[]:=by rw[hz]at u1;simpa using u1
   have hrun:=app_room (ty:=ty) (w':=w) hT htt hkind htt' hkind' hte none 0 0 B Q M.cap us u3 (by omega) (by simp) (fun _=>rfl)
   rw[hcap]at fin ⊢
   refine fin nilLoc _ _ hrun ?_ ?_ hk
   ·simp only[Den]
    refine⟨by omega,by omega,by simp[nilLoc0];omega,by simp[nilLoc0],none,?_,by simp[nilLoc0],by simp[nilLoc0]⟩
    simp[nilLoc0]
    try omega
   ·simp only[appU,apU]
    have e0:r.ext nilLoc=0:=by rw[q3];simp[nilLoc0]
    have nrow:∀ L' k xs,¬ r.rows L' k xs:=by
     intro L' kk xs hx
     cases r<;>try exact hx
     rename_i s fr z l
     simp only[chLen]at hq;cases hq
     obtain⟨rr,hr,_⟩:=hx
     have:l=[]:=by cases l<;>simp at hz ⊢
     subst this;simp at hr
    refine hm.put k _ ⟨fun o ho=>?_,fun _ _ _ hx=>(nrow _ _ _ hx).elim,fun a ⟨_,o,ho,_⟩=>?_,fun _ o ho=>?_,hfits _ (by simp[nilLoc0];omega) (by simp[nilLoc0]),fun o ho=>?_⟩ (fun d f _ _ a=>⟨fun⟨_,o,ho,_⟩=>?_,fun _ hra=>?_⟩)
    ·simp only[q1,hz]at ho;omega
    ·simp only[e0]at ho;omega
    ·simp only[e0]at ho;omega
    ·simp only[reg,Own.wr,cond_true,e0]at ho;omega
    ·simp only[e0]at ho;omega
    ·rcases hra with ⟨o,ho,_⟩ | ⟨_,_,_,hx,_⟩
     ·simp only[reg,Own.wr,cond_true,e0]at ho;omega
     ·exact nrow _ _ _ hx
  ·refine grow [] (by simp;omega) (by simp) ?_ (by simpa using q1) (fun L' h2=>?_) (fun L' h2 h3=>?_) (fun o ho=>?_) (fun L' kk xs hx=>shown_row hm hld hx)
   ·simp[Builtin.firstCells]
   ·rcases hqc with ⟨hq,hes⟩ | ⟨_,cs,rfl⟩
    ·exact Nat.le_of_eq (by rw[<-hes];exact(chLen_eq hq).2.2.2 L')
    ·have q1:cs.length=Q*te.size:=q1
     simp only[Chunk.ext]
     rw[q1]
     exact Nat.mul_le_mul_right _ (by omega)
   ·rcases hqc with ⟨hq,hes⟩ | ⟨_,cs,rfl⟩
    ·exact hfits hq L' (by simpa using h2) (by simp[h3])
    ·exact h3
   ·simpa using u2 o (by simpa using ho)
 ·obtain⟨p0,p1,p2,p3⟩:=chLen_eq hn
  have q2:=(chLen_eq hq).2.2.1
  rw[hes0]at p1 p3
  simp only[Int.toNat_natCast]at p1
  have hck:=hm.chunk c _ hlc
  obtain⟨r1,r2,r3,r4,r6,r7,r8⟩:=appCh_spec (show ch.fits L from hck.fits) hfit' hn hq (by rw[hes0,hes]) hr
  rw[hes0]at r4
  have hrl:r.len=(N+Q)*te.size:=by rw[r1,p1,q1,Nat.add_mul]
  have hshown:∀ L' kk xs,r.rows L' kk xs->Shown w0 r.fr m w L' kk xs:=fun L' kk xs hx=>by
   rcases r7 _ _ _ hx with h | h
   ·exact(shown_row hm hlc h).le fun hh=>(r8 hh).1
   ·exact(shown_row hm hld h).le fun hh=>(r8 hh).2
  rcases Nat.lt_or_ge L.cap (N+Q)with hroom | hroom
  ·obtain⟨olds,o1',o2',o3',o4'⟩:=first_ok (P:=P) hm hlc (lo:=0) (n:=N) (S:=te.size) (by simp[p1]) (B:=A) (N:=N) (D:=L.cap) (fun hne=>by
    have hb:=hA' (by omega)
    rw[hb]
    cases hn:L.nil
    ·simp
    ·have:=nz hn;omega)
   simp only[Nat.zero_mul,Nat.zero_add]at o2'
   refine grow olds hroom o1' o4' hrl (fun L' _=>Nat.le_of_eq (r4 L')) (fun L' h2 h3=>r6 L' (by omega) (by simp[h3])) (fun o ho=>?_) hshown
   rcases Nat.lt_or_ge o (N*te.size)with h | h
   ·obtain⟨v,hv,hd⟩:=o2' o h
    exact⟨v,by rw[List.getElem?_append_left (by omega)];exact hv,by rw[r2 o (by omega)];exact hd⟩
   ·rw[Nat.add_mul]at ho
    obtain⟨v,hv,hd⟩:=u2 (o-N*te.size) (by omega)
    refine⟨v,by rw[List.getElem?_append_right (by omega),o1'];exact hv,?_⟩
    have:=r3 (o-N*te.size) (by omega)
    rw[p1,show N*te.size+(o-N*te.size)=o by omega]at this
    rw[this];exact hd
  ·
   have hext:ch.ext L=L.cap*te.size:=p3 L
   have hrest:MemSat w0 W (st m c none) w:=hm.forget c
   have hcapE:(N+Q)*te.size<=L.cap*te.size:=Nat.mul_le_mul_right _ hroom
   rw[Nat.add_mul]at hcapE
   have hsep:∀ d f,lk (st m c none) d=some f->∀ o,o<L.cap*te.size->¬ rf f (L.ad o):=fun d f hd o ho=>by
    have hdc:c≠d:=by
     rintro rfl
     rw[lk_st,if_pos ⟨rfl,lk_lt hlc⟩]at hd
     cases hd
    rw[lk_st_ne hdc]at hd
    exact hm.sep c d _ f hdc hlc hd _ ⟨hown,o,by rw[hext];exact ho,rfl⟩
   have hfr:∀ o,o<L.cap*te.size->w0.heap.size<=(L.ad o).block∨W (L.ad o):=fun o ho=>(hck.home o (by rw[reg_eq hown,hext];exact ho)).got hown
   obtain⟨w',g1,g2,g3,g4,g5,g6⟩:=storeBeyond (P:=P) (L:=L) (E:=L.cap*te.size) (base:=N*te.size) us 0 w hrest hk (fun o ho=>hck.mineW hown o (by rw[hext];exact ho)) hfr hsep (by omega) hus1
   have hbase:L.cap≠0->A=some (L.ad 0):=fun hne=>by
    have hb:=hA' hne
    rw[hb]
    cases hn:L.nil
    ·simp
    ·have:=nz hn;omega
   have hsh':∀ L' kk xs,r.rows L' kk xs->Shown w0 r.fr (st m c none) w' L' kk xs:=fun L' kk xs hx=>by
    have s1:=hshown L' kk xs hx
    refine⟨s1.cap,s1.nil,fun o ho=>?_,fun d f hf o ho=>?_,s1.fresh⟩
    ·rw[g6 _ (fun o' ho' e=>s1.far c _ hlc o ho ⟨hown,o',by rw[hext];exact ho',e⟩)]
     exact s1.cell o ho
    ·rw[lk_st]at hf
     split at hf
     ·cases hf
     ·exact s1.far d f hf o ho
   have hwr:(appO own).wr=true:=by cases own<;>first | rfl | cases hown
   have hput:MemSat w0 W (st (st m c none) k (some (appO own,L,r))) w':=by
    refine g2.put k _ ⟨fun o ho=>?_,fun L' kk xs hx=>⟨(hsh' _ _ _ hx).cap,(hsh' _ _ _ hx).nil,(hsh' _ _ _ hx).cell,(hsh' _ _ _ hx).fresh⟩,fun a ⟨_,o,ho,e⟩ ⟨L',kk,xs,hx,i,hi,e'⟩=>?_,fun _ o ho=>?_,r6 L (by omega) nz,fun o ho=>?_⟩ (fun d f hdk hd a=>⟨fun⟨_,o,ho,e⟩ hra=>?_,fun ha hra=>?_⟩)
    ·simp only[hrl]at ho
     rw[Nat.add_mul]at ho
     have hlt:o<L.cap*te.size:=by omega
     simp only
     rw[g5 o hlt]
     by_cases h:o<N*te.size
     ·rw[if_neg (by omega),r2 o (by omega)]
      exact hck.cell o (by simp only;omega)
     ·obtain⟨v,hv,hd⟩:=u2 (o-N*te.size) (by omega)
      rw[if_pos (by omega)]
      refine⟨v,by simpa using hv,?_⟩
      have:=r3 (o-N*te.size) (by omega)
      rw[p1,show N*te.size+(o-N*te.size)=o by omega]at this
      rw[this];exact hd
    ·simp only[r4]at ho
     exact(hshown _ _ _ hx).far c _ hlc i hi ⟨hown,o,by rw[hext];exact ho,by rw[<-e',e]⟩
    ·simp only[r4]at ho
     have:=hck.mineW hown o (by simpa [hext]using ho)
     simp only at this ⊢
     rw[g5 o ho,g4]
     refine⟨?_,this.2⟩
     by_cases h:N*te.size+0<=o/\o<N*te.size+0+us.length
     ·rw[if_pos h]
      have hlt:o-(N*te.size+0)<us.length:=by omega
      rw[List.getElem?_eq_getElem hlt];rfl
     ·rw[if_neg h];exact this.1
    ·rw[reg_eq hwr,r4]at ho
     have h1:=hck.home o (by rw[reg_eq hown,hext];exact ho)
     simp only at h1
     cases own<;>first | exact h1 | exact .inl h1 | exact .inr h1 | cases hown
    ·simp only[r4]at ho
     exact hsep d f hd o ho (e▸hra)
    ·rcases hra with ⟨o,ho,e⟩ | ⟨L',kk,xs,hx,i,hi,e⟩
     ·rw[reg_eq hwr,r4]at ho
      exact hsep d f hd o ho (wf_rf (e▸ha))
     ·exact(hsh' _ _ _ hx).far d f hd i hi (e▸ha)
   by_cases hz:L.cap=0
   ·
    have hus:us=[]:=by
     have:us.length=0:=by
      have:Q=0:=by omega
      rw[u1]
      simp[this]
     simpa using this
    subst hus
    have hw:w'=w:=by simp[storeCells]at g1;exact g1.symm
    subst hw
    have hrun:=app_room (ty:=ty) (w':=w') hT htt hkind htt' hkind' hte A N L.cap B Q M.cap [] u3 hroom (by simp[storeCells]) (fun _=>rfl)
    refine fin L _ _ hrun ?_ (by simpa only[appU,apU]using hput) hk
    simp only[Den]
    refine⟨by omega,by omega,by omega,nz,A,?_,hAn,by simpa using hA'⟩
    congr 1<;>omega
   ·have hA2:=hbase hz
    have hrun:=app_room (ty:=ty) (w':=w') hT htt hkind htt' hkind' hte A N L.cap B Q M.cap us u3 hroom (fun b hb=>by
     rw[hA2]at hb;cases hb
     rw[ad_add,Nat.zero_add];exact g1) (fun h=>by rw[hA2]at h;cases h)
    refine fin L _ _ hrun ?_ (by simpa only[appU,apU]using hput) g3
    simp only[Den]
    refine⟨by omega,by omega,by omega,nz,A,?_,hAn,by simpa using hA'⟩
    congr 1<;>omega
end Go.Proofs.YtaofjnkpkocgjaaGreat.Xf
end
section 
namespace Go.Proofs.YtaofjnkpkocgjaaGreat.Xf
variable {P:Program} {sp:Sp} {spP:SpP} {no:Lim} {sl:List Ent} {m:Mem} {b1 w0 w:World} {W:Addr->Prop} {a:Act} {tab:Tab} {isP:FuncId->Bool}
def FnOk (P : Program) (f : FuncId) : Prop := ∃ fn, P.funcs[f]? = some fn ∧ (fn.name == "runtime.NumGoroutine") = false ∧ fn.body.isNone = false
structure SpPOk (P:Program) (spP:SpP):Prop where
 fn:∀ f as r,spP f as=some r->FnOk P f
 calls:∀ f as vs p v w,Dens as vs->spP f as=some (p,v)->p->Calls P f vs.toArray w fun e w'=>∃ rv,e=.returned rv/\Den v rv/\RowKit.Below w.heap.size w w'
abbrev rF (r:Option Nat):Fence:={ Fence.wide with round:=r }
def IterOk (P:Program) (f:FuncId) (cs:List SV) (mi:Mem) (n:Nat) (xs:Nat->List SV):Prop:=
 ∀ (l:Nat) (J:Nat->World->Prop) (w:World) (vs:List Value),Dens cs vs ->
  (∀ k w w',J k w->RowKit.Below w.heap.size w w'->J k w')->(∀ k w,J k w->MemSat w (fun _=>False) mi w) ->
  (∀ k us w,k<n->Dens (xs k) us->J k w->YieldAt (rF none) 0 P l us.toArray w fun e w'=>e=.returned (.bool true)/\J (k+1) w') ->
  J 0 w->CallsIn (rF none) 0 P f (#[.func (.yield l) #[] #[]]++vs.toArray) w fun e w'=>(∃ v,e=.returned v)/\J n w'
def ItOk (P:Program) (f:FuncId) (I:ITS):Prop:=FnOk P f/\∀ a,I.pre a->IterOk P f (I.cs a) (I.mem a) (I.n a) (I.xs a)
structure SpOk (P:Program) (sp:Sp):Prop where
 iter:∀ f I,sp.it f=some I->ItOk P f I
 fn:∀ f as look x k r,sp f as look x k=some r->FnOk P f
 calls:∀ {b1:World} f as vs k w0 W m look w,Dens as vs->MemSat w0 W m w->Kept b1 w0 W w->(∀ c e,look c=some e->lk m c=some e)->(∀ x,∃ p v u,sp f as look x k=some (p,v,u)/\p) ->
  Calls P f vs.toArray w fun e w'=>∃ x p v u rv,sp f as look x k=some (p,v,u)/\p/\e=.returned rv/\Den v rv/\MemSat w0 W (apU m u) w'/\Kept b1 w0 W w'
theorem spN_fn {f:FuncId} {as:List SV} {look:Look} {x:Nat->Loc} {k:Nat} {n:Option Nat} {r:Prop×SV×Upd} (hS:SpOk P sp) (h:spN sp no x look n k f as=some r):FnOk P f:=by
 unfold spN at h
 split at h
 ·exact hS.fn _ _ _ _ _ _ h
 ·split at h
  ·rename_i hh;exact hS.fn _ _ _ _ _ _ hh
  ·cases h
theorem spN_calls (hS:SpOk P sp) {f:FuncId} {as:List SV} {vs:List Value} {n:Option Nat} {k:Nat} (hd:Dens as vs) (hm:MemSat w0 W m w) (hk:Kept b1 w0 W w) (hx:∀ x,∃ p v u,spN sp no x (lk m) n k f as=some (p,v,u)/\p) :
  Calls P f vs.toArray w fun e w'=>∃ x p v u rv,spN sp no x (lk m) n k f as=some (p,v,u)/\p/\e=.returned rv/\Den v rv/\MemSat w0 W (apU m u) w'/\Kept b1 w0 W w':=by
 cases n with
 | none=>exact hS.calls f as vs k w0 W m (lk m) w hd hm hk (fun _ _ h=>h) hx
 | some n=>
  have inv:∀ x,∃ p v u,sp f as (lkN no (lk m)) x k=some (p,v,u)/\p/\updIn k n u=true/\spN sp no x (lk m) (some n) k f as=some (p,v,u):=fun x=>by
   obtain⟨p,v,u,h,hp⟩:=hx x
   have h':=h
   simp only[spN]at h
   split at h
   ·rename_i p' v' u' hh
    cases hu:updIn k n u' with
    | false=>simp[hu]at h
    | true=>simp only[hu,cond_true]at h;cases h;exact⟨p,v,u,hh,hp,hu,h'⟩
   ·cases h
  refine(hS.calls f as vs k w0 W m (lkN no (lk m)) w hd hm hk (fun c e h=>?_) (fun x=>?_)).mono fun e w' hh=>?_
  ·unfold lkN at h
   cases hb:refuses no c<;>simp[hb]at h
   exact h
  ·obtain⟨p,v,u,h,hp,_⟩:=inv x;exact⟨p,v,u,h,hp⟩
  ·obtain⟨x,p,v,u,rv,h1,h2⟩:=hh
   obtain⟨p',v',u',g1,g2,g3,g4⟩:=inv x
   rw[h1]at g1;cases g1
   exact⟨x,p,v,u,rv,g4,h2⟩
theorem callFunc_run {f:FuncId} (h:FnOk P f) (args:Array Value) (w:World):(callFunc f args).run P w=.ok (.enter f args) w:=by
 obtain⟨fn,h1,h2,h3⟩:=h
 simp only[callFunc,Sem.run_bind,Result.andThen,run_program]
 simp[h1,h2,h3]
theorem MemSat.below {w':World} (hm:MemSat w0 W m w) (h:RowKit.Below w.heap.size w w'):MemSat w0 W m w':=
 hm.keep (fun x v hx=>by rw[h.cell (World.block_lt_of_cell? _ _ hx)];exact hx) (fun x hx=>h.frozen hx)
theorem Kept.below' {w':World} (hk:Kept b1 w0 W w) (h:RowKit.Below w.heap.size w w'):Kept b1 w0 W w':=
 hk.trans (Kept.of_below h (fun _=>False)) (fun _ h _=>h.elim)
theorem call_enter {c:Call} {t:TypeId} {y:Operand} {f:FuncId} {cap:List Value} (hc:c.callee=.value y) (hy:a.eval y=.func (.func f) #[] cap.toArray) (hf:FnOk P f) (w:World) :
  ((do let d <-resolve a.eval c t;invoke d.target d.args):Sem Next).run P w=.ok (.enter f (c.args.toList.map a.eval++cap).toArray) w:=by
 simp only[resolve,hc,Deferred.ofValue,hy,invoke]
 have h1:=callFunc_run hf ((#[]++Array.map a.eval c.args)++cap.toArray) w
 have:((#[]++Array.map a.eval c.args)++cap.toArray)=(c.args.toList.map a.eval++cap).toArray:=by
  apply Array.ext';simp
 rw[this]at h1
 simp only[Sem.run_bind,Sem.run_pure,Result.andThen]
 rw[this]
 exact h1
theorem run_mn {k k':IntKind} {x y:Int} (ts:Array TypeId) (t:TypeId) (w:World):(Builtin.min_ ts t #[.int k x,.int k' y]).run P w=.ok (.int k (min x y)) w:=by
 have:(if y<x then y else x)=min x y:=by omega
 simp[Builtin.min_,Builtin.min2,List.foldlM,this]
theorem run_mx {k k':IntKind} {x y:Int} (ts:Array TypeId) (t:TypeId) (w:World):(Builtin.max_ ts t #[.int k x,.int k' y]).run P w=.ok (.int k (max x y)) w:=by
 have:(if y>x then y else x)=max x y:=by omega
 have h2:(if x<y then y else x)=max x y:=by omega
 simp[Builtin.max_,Builtin.max2,List.foldlM,h2]
theorem run_mn3 {k k' k'':IntKind} {x y z:Int} (ts:Array TypeId) (t:TypeId) (w:World):(Builtin.min_ ts t #[.int k x,.int k' y,.int k'' z]).run P w=.ok (.int k (min (min x y) z)) w:=by
 have h1:(if y<x then y else x)=min x y:=by omega
 have h2:(if z<min x y then z else min x y)=min (min x y) z:=by omega
 simp[Builtin.min_,Builtin.min2,List.foldlM,h1,h2,Result.andThen]
theorem run_mx3 {k k' k'':IntKind} {x y z:Int} (ts:Array TypeId) (t:TypeId) (w:World):(Builtin.max_ ts t #[.int k x,.int k' y,.int k'' z]).run P w=.ok (.int k (max (max x y) z)) w:=by
 have h1:(if x<y then y else x)=max x y:=by omega
 have h2:(if max x y<z then z else max x y)=max (max x y) z:=by omega
 simp[Builtin.max_,Builtin.max2,List.foldlM,h1,h2,Result.andThen]
theorem cmp1_int {e:TypeId} (h:cmpB.cmp1 P true e=true) (d:Nat) (k:IntKind) (x y:Int) (w:World):P.cellsOf e=1/\P.plainKey e=true/\(Op.equalIn (d+1) e (.int k x) (.int k y)).run P w=.ok (decide (x=y)) w:=by
 unfold cmpB.cmp1 at h
 simp only[Bool.and_eq_true,decide_eq_true_eq]at h
 refine⟨h.1.1,h.1.2,?_⟩
 obtain⟨_,h2⟩:=h
 split at h2
 ·cases h2
 ·rename_i k0 hu;rw[run_equalIn_int w d e k k0 x y hu];congr 1
 ·cases h2
theorem cmp1_bool {e:TypeId} (h:cmpB.cmp1 P false e=true) (d:Nat) (x y:Bool) (w:World):P.cellsOf e=1/\P.plainKey e=true/\(Op.equalIn (d+1) e (.bool x) (.bool y)).run P w=.ok (x==y) w:=by
 unfold cmpB.cmp1 at h
 simp only[Bool.and_eq_true,decide_eq_true_eq]at h
 refine⟨h.1.1,h.1.2,?_⟩
 obtain⟨_,h2⟩:=h
 split at h2
 ·rename_i hu;exact run_equalIn_bool w d e x y hu
 ·cases h2
 ·cases h2
theorem eq_step {k:Bool} {ks:List Bool} {us vs:List SV} {r:Bool} (h:eqL (k::ks) us vs=some r) {xs ys:List Value} (hx:Dens us xs) (hy:Dens vs ys) {e:TypeId} (he:cmpB.cmp1 P k e=true) (d:Nat) (w:World) :
  ∃ r1 r2 x y xs' ys' us' vs',xs=x::xs'/\ys=y::ys'/\Dens us' xs'/\Dens vs' ys'/\eqL ks us' vs'=some r2/\r=(r1&&r2)/\P.cellsOf e=1/\P.plainKey e=true/\(Op.equalIn (d+1) e x y).run P w=.ok r1 w:=by
 unfold eqL at h
 split at h
 ·rename_i h1;cases h1
 ·rename_i ks k a us k' b vs h1
  cases h1
  by_cases hk:k=k'
  case neg=>simp[hk]at h
  subst hk
  simp only[decide_true,cond_true]at h
  split at h
  case h_2=>cases h
  rename_i r2 hr2
  cases h
  simp only[Dens]at hx hy
  obtain⟨x,xs',rfl,hx1,hx2⟩:=hx
  obtain⟨y,ys',rfl,hy1,hy2⟩:=hy
  simp only[Den]at hx1 hy1
  subst hx1 hy1
  obtain⟨c1,c2,c3⟩:=cmp1_int (P:=P) he d k a b w
  exact⟨_,r2,_,_,_,_,_,_,rfl,rfl,hx2,hy2,hr2,rfl,c1,c2,c3⟩
 ·rename_i ks a us b vs h1
  cases h1
  split at h
  case h_2=>cases h
  rename_i r2 hr2
  cases h
  simp only[Dens]at hx hy
  obtain⟨x,xs',rfl,hx1,hx2⟩:=hx
  obtain⟨y,ys',rfl,hy1,hy2⟩:=hy
  simp only[Den]at hx1 hy1
  subst hx1 hy1
  obtain⟨c1,c2,c3⟩:=cmp1_bool (P:=P) he d a b w
  exact⟨_,r2,_,_,_,_,_,_,rfl,rfl,hx2,hy2,hr2,rfl,c1,c2,c3⟩
 ·cases h
theorem eq_end {us vs:List SV} {r:Bool} (h:eqL [] us vs=some r):r=true:=by
 unfold eqL at h
 split at h<;>first | (cases h;rfl) | (rename_i h1;cases h1) | (rename_i h1 _;cases h1) | (rename_i h1 _ _;cases h1) | cases h
theorem eq_fields (d:Nat) (w:World):∀ (fs:List Field) (ks:List Bool) (n:Nat) (us vs:List SV) (r:Bool) (xs ys px py:List Value),cmpB.cmpF P n ks fs=true->eqL ks us vs=some r->Dens us xs->Dens vs ys->px.length=n->py.length=n ->
  (Op.eqFields (d+1) (px++xs).toArray (py++ys).toArray fs).run P w=.ok r w
 | [],ks,n,us,vs,r,xs,ys,px,py,h,hr,hx,hy,h1,h2=>by
  cases ks with
  | nil=>rw[eq_end hr];simp[Op.eqFields]
  | cons k ks=>simp[cmpB.cmpF]at h
 | f::fs,ks,n,us,vs,r,xs,ys,px,py,h,hr,hx,hy,h1,h2=>by
  cases ks with
  | nil=>simp[cmpB.cmpF]at h
  | cons k ks=>
   simp only[cmpB.cmpF,Bool.and_eq_true,decide_eq_true_eq,bne_iff_ne,ne_eq]at h
   obtain⟨⟨⟨ho,hn⟩,hc⟩,hrest⟩:=h
   obtain⟨r1,r2,x,y,xs',ys',us',vs',rfl,rfl,hx2,hy2,hr2,rfl,c1,c2,c3⟩:=eq_step (P:=P) hr hx hy hc d w
   have p1:(part f.type (px++x::xs').toArray f.offset).run P w=.ok x w:=run_part_plain w c2 (by rw[ho];simp[<-h1])
   have p2:(part f.type (py++y::ys').toArray f.offset).run P w=.ok y w:=run_part_plain w c2 (by rw[ho];simp[<-h2])
   simp only[Op.eqFields,hn,ne_eq,not_false_eq_true,if_true,Sem.run_bind,p1,p2,c3,Result.andThen_ok]
   cases r1 with
   | false=>simp
   | true=>
    have:=eq_fields d w fs ks (n+1) us' vs' r2 xs' ys' (px++[x]) (py++[y]) hrest hr2 hx2 hy2 (by simp[h1]) (by simp[h2])
    simpa using this
theorem eq_items (d:Nat) (w:World) {e:TypeId}:∀ (ks:List Bool) (n:Nat) (us vs:List SV) (r:Bool) (xs ys px py:List Value),(ks.all fun k=>cmpB.cmp1 P k e)=true->eqL ks us vs=some r->Dens us xs->Dens vs ys->px.length=n->py.length=n ->
  (Op.eqItems (d+1) e (P.cellsOf e) (px++xs).toArray (py++ys).toArray (List.range' n ks.length)).run P w=.ok r w
 | [],n,us,vs,r,xs,ys,px,py,h,hr,hx,hy,h1,h2=>by rw[eq_end hr];simp[Op.eqItems]
 | k::ks,n,us,vs,r,xs,ys,px,py,h,hr,hx,hy,h1,h2=>by
  simp only[List.all_cons,Bool.and_eq_true]at h
  obtain⟨r1,r2,x,y,xs',ys',us',vs',rfl,rfl,hx2,hy2,hr2,rfl,c1,c2,c3⟩:=eq_step (P:=P) hr hx hy h.1 d w
  have p1:(part e (px++x::xs').toArray (n*P.cellsOf e)).run P w=.ok x w:=run_part_plain w c2 (by rw[c1];simp[<-h1])
  have p2:(part e (py++y::ys').toArray (n*P.cellsOf e)).run P w=.ok y w:=run_part_plain w c2 (by rw[c1];simp[<-h2])
  simp only[List.length_cons,List.range'_succ,Op.eqItems,Sem.run_bind,p1,p2,c3,Result.andThen_ok]
  cases r1 with
  | false=>simp
  | true=>
   have:=eq_items d w ks (n+1) us' vs' r2 xs' ys' (px++[x]) (py++[y]) h.2 hr2 hx2 hy2 (by simp[h1]) (by simp[h2])
   simpa using this
theorem done_binA (hT:∀ t tt,tab t=some tt->TtOk P t tt) (hs:SlotsOk sl a) (hm:MemSat w0 W m w) (hk:Kept b1 w0 W w) {t:TypeId} {tt:TT} (htt:tab t=some tt) {ks:List Bool} (hcmp:tt.cmp=some ks) {op:BinOp} {X Y:Operand} {ax ay:Opd} (hax:opd X=some ax) (hay:opd Y=some ay)
  (hx:∀ x,∃ p v u,stepF sp spP no x sl (lk m) (.binA op ks ax ay)=some (p,v,u)/\p) :
  Done P sp spP no sl m b1 w0 W (.binA op ks ax ay) ((do let v <-(do eqGuard op t X Y (a.eval X) (a.eval Y);binOp op t (a.eval X) (a.eval Y));pure (Next.value v):Sem Next).run P w):=by
 refine done_of hm hk (fun x p v u h hp=>?_) hx
 simp only[stepF]at h
 obtain⟨v0,p',hd,hf,hp'⟩:=o1_den h hp hax hs
 obtain⟨v1,p'',hd1,hf1,hp''⟩:=o1_den hf hp' hay hs
 obtain⟨hb,rfl⟩:=upTo_some hf1
 refine⟨rfl,?_⟩
 unfold binASV at hb
 split at hb
 case h_2=>cases hb
 rename_i us vs
 simp only[Den]at hd hd1
 obtain⟨xs,hX,hxs⟩:=hd
 obtain⟨ys,hY,hys⟩:=hd1
 cases hr:eqL ks us vs with
 | none=>rw[hr]at hb;cases hb
 | some r=>
  rw[hr]at hb
  have hc:=(hT t tt htt).cmp ks hcmp
  unfold cmpB at hc
  simp only[Bool.and_eq_true,Bool.not_eq_true']at hc
  obtain⟨hg,hc⟩:=hc
  have heq:(Op.equalIn 10000 t (.agg xs.toArray) (.agg ys.toArray)).run P w=.ok r w:=by
   split at hc
   ·rename_i F hu
    simp only[Bool.and_eq_true,Bool.not_eq_true']at hc
    have hF:P.fieldsOf t=F:=by simp[Program.fieldsOf,hu]
    rw[run_equalIn_struct w 9999 t _ _ (by rw[hF];exact hu) hc.1,hF]
    exact eq_fields 9998 w F.toList ks 0 us vs r xs ys [] [] hc.2 hr hxs hys rfl rfl
   ·rename_i m0 e hu
    simp only[Bool.and_eq_true,decide_eq_true_eq]at hc
    obtain⟨⟨rfl,hne⟩,hc⟩:=hc
    obtain⟨i,hi⟩:∃ i,P.info? e=some i:=by
     cases ks with
     | nil=>simp at hne
     | cons k ks=>
      simp only[List.all_cons,Bool.and_eq_true]at hc
      have:=hc.1
      unfold cmpB.cmp1 at this
      simp only[Bool.and_eq_true]at this
      cases hi:P.info? e with
      | some i=>exact⟨i,rfl⟩
      | none=>
       have hu0:P.underlying e=none:=by simp[Program.underlying,hi]
       rw[hu0]at this
       exact absurd this.2 (by simp)
    rw[run_equalIn_array w 9999 _ _ hu hi,List.range_eq_range']
    exact eq_items 9998 w ks 0 us vs r xs ys [] [] hc hr hxs hys rfl rfl
   ·cases hc
  have hgr:=run_eqGuard_agg (P:=P) w op t X Y xs.toArray ys.toArray hg
  unfold eqA at hb
  split at hb
  ·cases hb
  ·rename_i r' hrr
   cases hrr
   split at hb<;>cases hb
   ·refine⟨.bool r,?_,by simp only[Den]⟩
    simp only[Sem.run_bind,hX,hY,hgr,Result.andThen,Sem.run_pure,run_eql_struct,heq]
   ·refine⟨.bool (!r),?_,by simp only[Den]⟩
    simp only[Sem.run_bind,hX,hY,hgr,Result.andThen,Sem.run_pure,run_neq_struct,heq]
theorem equalIn_ptr (d:Nat) {t e:TypeId} (A:Option Addr) (h:P.underlying t=some (.pointer e)) (w:World):(Op.equalIn (d+1) t (.pointer A) (.pointer none)).run P w=.ok A.isNone w:=by
 cases A<;>simp[Op.equalIn,run_underlying h,Result.andThen]
theorem done_binN (hT:∀ t tt,tab t=some tt->TtOk P t tt) (hs:SlotsOk sl a) (hm:MemSat w0 W m w) (hk:Kept b1 w0 W w) {t:TypeId} {tt:TT} (htt:tab t=some tt) (hkind:tt.kind=.pointer) {op:BinOp} {X Y:Operand} {ax ay:Opd} (hax:opd X=some ax) (hay:opd Y=some ay)
  (hx:∀ x,∃ p v u,stepF sp spP no x sl (lk m) (.binN op ax ay)=some (p,v,u)/\p) :
  Done P sp spP no sl m b1 w0 W (.binN op ax ay) ((do let v <-(do eqGuard op t X Y (a.eval X) (a.eval Y);binOp op t (a.eval X) (a.eval Y));pure (Next.value v):Sem Next).run P w):=by
 refine done_of hm hk (fun x p v u h hp=>?_) hx
 simp only[stepF]at h
 obtain⟨v0,p',hd,hf,hp'⟩:=o1_den h hp hax hs
 obtain⟨v1,p'',hd1,hf1,hp''⟩:=o1_den hf hp' hay hs
 obtain⟨hb,rfl⟩:=upTo_some hf1
 refine⟨rfl,?_⟩
 obtain⟨d,hdesc,hkd⟩:=(hT t tt htt).desc
 rw[hkind]at hkd
 obtain⟨e,rfl⟩:=hkd
 have key:∀ (A:Option Addr) (r:Bool),a.eval X=.pointer A->a.eval Y=.pointer none->r=A.isNone->(∃ rv,(do let v <-(do eqGuard op t X Y (a.eval X) (a.eval Y);binOp op t (a.eval X) (a.eval Y));pure (Next.value v):Sem Next).run P w=.ok (.value rv) w/\(op=.eql->rv=.bool r)/\(op=.neq->rv=.bool (!r)))∨(op≠.eql/\op≠.neq):=by
  intro A r hX hY hr
  by_cases ho:op=.eql∨op=.neq
  case neg=>exact .inr ⟨fun e=>ho (.inl e),fun e=>ho (.inr e)⟩
  have hg:=eqGuard_run (P:=P) op t X Y (u:=a.eval X) (v:=a.eval Y) (by rw[hX];rfl) (by rw[hX];simp) w
  have he:(Op.equal t (a.eval X) (a.eval Y)).run P w=.ok r w:=by
   rw[hX,hY,hr]
   exact equalIn_ptr 9999 A hdesc w
  rcases ho with rfl | rfl
  ·refine .inl ⟨.bool r,?_,fun _=>rfl,fun h=>(by cases h)⟩
   simp only[Sem.run_bind,hg,Result.andThen,Sem.run_pure]
   have:binOp .eql t (a.eval X) (a.eval Y)=(do pure (.bool (<-Op.equal t (a.eval X) (a.eval Y)))):=by rw[hX,hY];rfl
   rw[this]
   simp[he,Result.andThen]
  ·refine .inl ⟨.bool (!r),?_,fun h=>(by cases h),fun _=>rfl⟩
   simp only[Sem.run_bind,hg,Result.andThen,Sem.run_pure]
   have:binOp .neq t (a.eval X) (a.eval Y)=(do pure (.bool (!(<-Op.equal t (a.eval X) (a.eval Y))))):=by rw[hX,hY];rfl
   rw[this]
   simp[he,Result.andThen]
 unfold binNSV at hb
 split at hb
 ·simp only[Den]at hd hd1
  split at hb<;>cases hb
  ·rcases key _ false hd hd1 rfl with ⟨rv,h1,h2,_⟩ | h
   ·exact⟨rv,h1,by rw[h2 rfl];simp only[Den]⟩
   ·exact absurd rfl h.1
  ·rcases key _ false hd hd1 rfl with ⟨rv,h1,_,h2⟩ | h
   ·exact⟨rv,h1,by rw[h2 rfl];simp[Den]⟩
   ·exact absurd rfl h.2
 ·simp only[Den]at hd hd1
  split at hb<;>cases hb
  ·rcases key _ true hd hd1 rfl with ⟨rv,h1,h2,_⟩ | h
   ·exact⟨rv,h1,by rw[h2 rfl];simp only[Den]⟩
   ·exact absurd rfl h.1
  ·rcases key _ true hd hd1 rfl with ⟨rv,h1,_,h2⟩ | h
   ·exact⟨rv,h1,by rw[h2 rfl];simp[Den]⟩
   ·exact absurd rfl h.2
 ·cases hb
theorem done_binT (hT:∀ t tt,tab t=some tt->TtOk P t tt) (hs:SlotsOk sl a) (hm:MemSat w0 W m w) (hk:Kept b1 w0 W w) {t:TypeId} {tt:TT} (htt:tab t=some tt) (hkind:tt.kind=.string) {op:BinOp} {X Y:Operand} {ax ay:Opd} (hax:opd X=some ax) (hay:opd Y=some ay)
  (hx:∀ x,∃ p v u,stepF sp spP no x sl (lk m) (.binT op ax ay)=some (p,v,u)/\p) :
  Done P sp spP no sl m b1 w0 W (.binT op ax ay) ((do let v <-(do eqGuard op t X Y (a.eval X) (a.eval Y);binOp op t (a.eval X) (a.eval Y));pure (Next.value v):Sem Next).run P w):=by
 refine done_of hm hk (fun x p v u h hp=>?_) hx
 simp only[stepF]at h
 obtain⟨v0,p',hd,hf,hp'⟩:=o1_den h hp hax hs
 obtain⟨v1,p'',hd1,hf1,hp''⟩:=o1_den hf hp' hay hs
 obtain⟨hb,rfl⟩:=upTo_some hf1
 refine⟨rfl,?_⟩
 obtain⟨d,hdesc,hkd⟩:=(hT t tt htt).desc
 rw[hkind]at hkd
 simp only[TKOk]at hkd
 subst hkd
 unfold binTSV at hb
 split at hb
 case h_2=>cases hb
 rename_i s1 s2
 simp only[Den]at hd hd1
 have hg:=eqGuard_run (P:=P) op t X Y (u:=a.eval X) (v:=a.eval Y) (by rw[hd];rfl) (by rw[hd];simp) w
 split at hb<;>cases hb
 ·refine⟨.bool (s1.toList==s2.toList),?_,by simp only[Den]⟩
  simp only[Sem.run_bind,hg,Result.andThen,Sem.run_pure]
  have:binOp .eql t (a.eval X) (a.eval Y)=pure (.bool (s1.toList==s2.toList)):=by rw[hd,hd1];rfl
  rw[this]
  simp[Result.andThen]
 ·refine⟨.bool (!(s1.toList==s2.toList)),?_,by simp only[Den]⟩
  simp only[Sem.run_bind,hg,Result.andThen,Sem.run_pure]
  have:binOp .neq t (a.eval X) (a.eval Y)=pure (.bool (!(s1.toList==s2.toList))):=by rw[hd,hd1];rfl
  rw[this]
  simp[Result.andThen]
theorem wrO_ok {c:Nat} {own:Own} {L:Loc} {k:IntKind} {b:Nat} (ho:own.wr=true):∀ (ys:List Int) (us:List Value) (m:Mem) (w:World) (xs:List Int) (i:Nat),MemSat w0 W m w->Kept b1 w0 W w ->
  lk m c=some (own,L,.ints k xs)->b+i+ys.length<=xs.length->Dens (ys.map fun n=>.int k n) us ->
  ∃ w',(storeCells (L.ad b) us i).run P w=.ok () w'/\MemSat w0 W (st m c (some (own,L,.ints k (xs.take (b+i)++(ys++xs.drop (b+i+ys.length)))))) w'/\Kept b1 w0 W w'
 | [],us,m,w,xs,i,hm,hk,hc,hl,hd=>by
  simp only[List.map_nil,Dens]at hd;subst hd
  refine⟨w,by simp[storeCells],?_,hk⟩
  simp only[List.length_nil,Nat.add_zero,List.nil_append,List.take_append_drop,st_same _ _ _ hc]
  exact hm
 | y::ys,us,m,w,xs,i,hm,hk,hc,hl,hd=>by
  simp only[List.map_cons,Dens]at hd
  obtain⟨u,us',rfl,hv,hd⟩:=hd
  simp only[List.length_cons]at hl
  have hlt:b+i<xs.length:=by omega
  obtain⟨w1,hr,hm1,hk1,_⟩:=store_ok (P:=P) hm hk hc ho (o:=b+i) (ch':=.ints k (xs.set (b+i) y)) (by simpa [Chunk.len]using hlt) hv (hv.one rfl).1 (by simp[Chunk.len]) (by simp[Chunk.ext]) (by have:=(hm.chunk c _ hc).fits;simpa [Chunk.fits]using this)
   (fun j hj=>by
    simp only[Chunk.len]at hj
    simp only[Chunk.cell,List.getD_eq_getElem?_getD,List.getElem?_set]
    by_cases e:j=b+i
    ·subst e;simp[hj]
    ·simp[e,Ne.symm e]) (fun _ _ _ h=>h.elim)
  obtain⟨w2,hr2,hm2,hk2⟩:=wrO_ok (b:=b) ho ys us' _ w1 (xs.set (b+i) y) (i+1) hm1 hk1 (by rw[lk_st,if_pos ⟨rfl,lk_lt hc⟩]) (by simp;omega) hd
  refine⟨w2,?_,?_,hk2⟩
  ·rw[<-hr2]
   simp only[storeCells,Sem.run_bind]
   rw[ad_add,hr]
   rfl
  ·rw[st_st]at hm2
   have e1:(xs.set (b+i) y).take (b+(i+1))=xs.take (b+i)++[y]:=by
    rw[<-Nat.add_assoc,List.take_succ_eq_append_getElem (by simpa using hlt)]
    simp[List.take_set_of_le]
   have e2:(xs.set (b+i) y).drop (b+(i+1)+ys.length)=xs.drop (b+i+(ys.length+1)):=by
    rw[List.drop_set_of_lt (by omega)]
    congr 1;omega
   rw[e1,e2]at hm2
   simpa using hm2
theorem done_copy (hT:∀ t tt,tab t=some tt->TtOk P t tt) (hs:SlotsOk sl a) (hm:MemSat w0 W m w) (hk:Kept b1 w0 W w)
  {t t' e e' ty:TypeId} {tt tt' te:TT} (htt:tab t=some tt) (hkind:tt.kind=.slice e) (hte:tab e=some te) (h1:te.size=1)
  {X Y:Operand} {ax ay:Opd} (hax:opd X=some ax) (hay:opd Y=some ay)
  (hx:∀ x,∃ p v u,stepF sp spP no x sl (lk m) (.copy ax ay)=some (p,v,u)/\p) :
  Done P sp spP no sl m b1 w0 W (.copy ax ay) ((do pure (Next.value (<-Builtin.copy_ #[t,t'] ty #[a.eval X,a.eval Y])):Sem Next).run P w):=by
 obtain⟨p,v,u,h,hp⟩:=hx (fun _=>default)
 have h0:=h
 have hp0:=hp
 simp only[stepF]at h
 obtain⟨s0,q0,hd0,hf0,hq0⟩:=o1_den h hp hax hs
 obtain⟨s1,q1,hd1,hf1,hq1⟩:=o1_den hf0 hq0 hay hs
 split at hf1
 case h_2=>cases hf1
 rename_i c L s lo n d M s' lo' mm
 cases hss:(decide (s=1)&&decide (s'=1))with
 | false=>rw[hss]at hf1;cases hf1
 | true=>
 rw[hss]at hf1
 simp only[Bool.and_eq_true,decide_eq_true_eq]at hss
 obtain⟨rfl,rfl⟩:=hss
 simp only[cond_true]at hf1
 unfold copyF at hf1
 split at hf1
 case h_2=>cases hf1
 rename_i own L' k xs own2 M' k' ys hl0 hl1
 cases hok:(own.wr&&decide (k=k'))with
 | false=>rw[hok]at hf1;cases hf1
 | true=>
 rw[hok]at hf1
 simp only[Bool.and_eq_true,decide_eq_true_eq]at hok
 obtain⟨hown,rfl⟩:=hok
 simp only[cond_true]at hf1
 cases hf1
 obtain⟨rfl,rfl,g0,g1,g2,g3,g4,g5⟩:=hq1
 have hl0:=lkN_some hl0
 have hl1:=lkN_some hl1
 simp only[Den]at hd0 hd1
 obtain⟨_,_,nc,nz,A,hA,hAn,hA'⟩:=hd0
 obtain⟨_,_,mc,mz,B,hB,hBn,hB'⟩:=hd1
 obtain⟨f1,f2⟩:xs.length<=L'.cap/\(L'.nil=true->L'.cap=0):=(hm.chunk c _ hl0).fits
 obtain⟨us,u1,u2,u3,_⟩:=first_ok (P:=P) hm hl1 (lo:=lo'.toNat) (n:=(min mm n).toNat) (S:=1) (by simp only[Chunk.len];omega) (B:=B) (N:=mm.toNat) (D:=M'.cap-lo'.toNat) (fun hne=>by
  have hb:=hB' (by omega)
  rw[hb]
  cases hn:M'.nil
  ·simp
  ·have:=mz hn;omega)
 have hlen:(sub ys lo' (min mm n)).length=(min mm n).toNat:=by simp[sub];omega
 have hds:Dens ((sub ys lo' (min mm n)).map fun n=>.int k n) us:=by
  refine Dens.of_get (by simp[hlen,u1]) fun i s v hi hv=>?_
  have hlt:i<(min mm n).toNat:=by have:=(List.getElem?_eq_some_iff.1 hv).1;omega
  obtain⟨v',hv',hd⟩:=u2 i (by omega)
  rw[hv]at hv';cases hv'
  simp only[Chunk.cell]at hd
  have hb:lo'.toNat+i<ys.length:=by omega
  simp[sub,List.getElem?_take,hlt,hb]at hi
  rw[<-hi]
  simpa [List.getD_eq_getElem?_getD,hb]using hd
 obtain⟨w',r1,r2,r3⟩:=wrO_ok (P:=P) (b:=lo.toNat) hown (sub ys lo' (min mm n)) us m w xs 0 hm hk hl0 (by omega) hds
 simp only[Nat.add_zero]at r2
 refine⟨fun _=>default,_,_,_,.int .i64 (min mm n),w',h0,hp0,.inl ?_,by simp only[Den],by simpa only[apU,over]using r2,r3⟩
 have hgo:(goInt (Nat.min mm.toNat n.toNat):Value)=.int .i64 (min mm n):=by
  simp only[goInt]
  rw[show Nat.min mm.toNat n.toNat=min mm.toNat n.toNat from rfl]
  congr 1
  omega
 have hmin:(min mm n).toNat=Nat.min mm.toNat n.toNat:=by
  rw[show Nat.min mm.toNat n.toNat=min mm.toNat n.toNat from rfl];omega
 have hus0:A=none->us=[]:=fun hz=>by
  have:(min mm n).toNat=0:=by
   rw[hz]at hAn
   have:=nz (by simpa using hAn.symm)
   omega
  have:us.length=0:=by omega
  simpa using this
 have hpos0:us≠[]->L'.cap-lo.toNat≠0:=fun hus=>by
  have hpos:us.length≠0:=by simpa using hus
  omega
 rw[hmin]at u3
 have hu:P.underlying t=some (.slice e):=desc_slice hT htt hkind
 by_cases hz:A=none
 ·have hus:us=[]:=hus0 hz
  subst hus
  have hw:w'=w:=by simp[storeCells]at r1;exact r1.symm
  rw[hA,hB,hz,hw]
  simp[Builtin.copy_,run_underlying hu,Builtin.lenOf,sizeOf_run hT hte,h1,u3,Result.andThen,hgo]
 ·obtain⟨b,rfl⟩:=Option.ne_none_iff_exists'.1 hz
  have hst:(storeCells b us).run P w=.ok () w':=by
   by_cases hus:us=[]
   ·subst hus
    have hw:w'=w:=by simp[storeCells]at r1;exact r1.symm
    rw[hw];simp[storeCells]
   ·have hc0:=hpos0 hus
    have:=hA' hc0
    cases hn:L'.nil with
    | true=>have:=nz hn;omega
    | false=>
     rw[hn]at this
     simp at this
     rw[this];exact r1
  rw[hA,hB]
  simp[Builtin.copy_,run_underlying hu,Builtin.lenOf,sizeOf_run hT hte,h1,u3,Result.andThen,hgo,hst]
theorem storeCells_app (b:Addr):∀ (us vs:List Value) (i:Nat) (w w':World),(storeCells b us i).run P w=.ok () w'->(storeCells b (us++vs) i).run P w=(storeCells b vs (i+us.length)).run P w'
 | [],vs,i,w,w',h=>by simp[storeCells]at h;simp[h]
 | u::us,vs,i,w,w',h=>by
  simp only[storeCells,Sem.run_bind,List.cons_append,List.length_cons]at h ⊢
  cases hr:(store (b.add i) u).run P w with
  | ok x w1=>
   rw[hr]at h
   simp only[Result.andThen]at h ⊢
   rw[storeCells_app b us vs (i+1) w1 w' h]
   congr 2;omega
  | halt x w1=>rw[hr]at h;simp[Result.andThen]at h
theorem zl_succ (z:Array Value) (n:Nat):(Builtin.zeroCells z (n+1)).toList=z.toList++(Builtin.zeroCells z n).toList:=by
 apply List.ext_getElem
 ·simp[Builtin.zeroCells,Nat.add_mul];omega
 ·intro i h1 h2
  simp[Builtin.zeroCells]at h1 ⊢
  have hz:0<z.size:=by
   rcases Nat.eq_zero_or_pos z.size with h | h
   ·rw[h]at h1;simp at h1
   ·exact h
  by_cases h:i<z.size
  ·rw[List.getElem_append_left (by simpa using h)]
   simp[Nat.mod_eq_of_lt h,h]
  ·rw[List.getElem_append_right (by simpa using h)]
   simp
   congr 1
   have:i=(i-z.size)+z.size:=by omega
   conv=>lhs;rw[this]
   exact Nat.add_mod_right _ _
theorem wrN_ok {c:Nat} {own:Own} {L:Loc} {s:Nat} {fr:Bool} {z' z:List RC} {zv:Array Value} (ho:own.wr=true) (hzl:z.length=s) (hz:Dens (z.map RC.sv) zv.toList) (hnr:∀ M k xs,RC.row M k xs∉z):∀ (n:Nat) (m:Mem) (w:World) (l:List (List RC)) (b i:Nat),MemSat w0 W m w->Kept b1 w0 W w ->
  lk m c=some (own,L,.recs s fr z' l)->b+i+n<=l.length ->
  ∃ w',(storeCells (L.ad (b*s)) (Builtin.zeroCells zv n).toList (i*s)).run P w=.ok () w'/\MemSat w0 W (st m c (some (own,L,.recs s fr z' (l.take (b+i)++(List.replicate n z++l.drop (b+i+n)))))) w'/\Kept b1 w0 W w'
 | 0,m,w,l,b,i,hm,hk,hc,hl=>by
  refine⟨w,by simp[storeCells,Builtin.zeroCells],?_,hk⟩
  simp only[List.replicate_zero,List.nil_append,Nat.add_zero,List.take_append_drop,st_same _ _ _ hc]
  exact hm
 | n+1,m,w,l,b,i,hm,hk,hc,hl=>by
  have hlt:b+i<l.length:=by omega
  obtain⟨w1,hr,hm1,hk1⟩:=wrR_ok (P:=P) (fr':=fr) (i:=b+i) ho id z zv.toList m w l 0 0 hm hk hc hlt (by omega) hz (fun M k xs h=>absurd h (hnr M k xs))
  simp only[Nat.add_zero]at hr hm1
  have hlen:(l.getD (b+i) []).length=s:=(hm.chunk c _ hc).fits.2.2.2 _ (by simp[List.getD_eq_getElem?_getD,hlt])
  rw[setsR_eq _ _ _ (by omega)]at hm1
  simp only[List.take_zero,List.nil_append]at hm1
  obtain⟨w2,hr2,hm2,hk2⟩:=wrN_ok ho hzl hz hnr n _ w1 (l.set (b+i) z) b (i+1) hm1 hk1 (by rw[lk_st,if_pos ⟨rfl,lk_lt hc⟩]) (by simp;omega)
  have hzs:zv.size=s:=by have:=hz.length;simp at this;omega
  refine⟨w2,?_,?_,hk2⟩
  ·rw[zl_succ]
   have hr':(storeCells (L.ad (b*s)) zv.toList (i*s)).run P w=.ok () w1:=by
    have e:∀ (us:List Value) (j x y:Nat),storeCells (L.ad (x+y)) us j=storeCells (L.ad x) us (y+j):=by
     intro us
     induction us with
     | nil=>intro j x y;simp[storeCells]
     | cons u us ih=>intro j x y;simp only[storeCells,ad_add,ih,Nat.add_assoc]
    rw[Nat.add_mul,e]at hr
    simpa using hr
   rw[storeCells_app _ _ _ _ _ _ hr']
   rw[<-hr2]
   congr 2
   simp[hzs,Nat.add_mul]
  ·rw[st_st]at hm2
   have e1:(l.set (b+i) z).take (b+(i+1))=l.take (b+i)++[z]:=by
    rw[<-Nat.add_assoc,List.take_succ_eq_append_getElem (by simpa using hlt)]
    simp[List.take_set_of_le]
   have e2:(l.set (b+i) z).drop (b+(i+1)+n)=l.drop (b+i+(n+1)):=by
    rw[List.drop_set_of_lt (by omega)]
    congr 1;omega
   rw[e1,e2]at hm2
   simpa [List.replicate_succ]using hm2
theorem noRows_ok:∀ {z:List RC},noRows z=true->∀ M k xs,RC.row M k xs∉z
 | [],_,M,k,xs=>by simp
 | .int _ _::z,h,M,k,xs=>by simpa using noRows_ok (z:=z) h M k xs
 | .bool _::z,h,M,k,xs=>by simpa using noRows_ok (z:=z) h M k xs
 | .row _ _ _::z,h,_,_,_=>by simp[noRows]at h
theorem done_clear (hT:∀ t tt,tab t=some tt->TtOk P t tt) (hs:SlotsOk sl a) (hm:MemSat w0 W m w) (hk:Kept b1 w0 W w)
  {t e ty:TypeId} {tt te:TT} (htt:tab t=some tt) (hkind:tt.kind=.slice e) (hte:tab e=some te) {nk:IntKind} {z:List RC} (hz:zeroR nk te.zero=some z)
  {X:Operand} {ax:Opd} (hax:opd X=some ax)
  (hx:∀ x,∃ p v u,stepF sp spP no x sl (lk m) (.clear z ax)=some (p,v,u)/\p) :
  Done P sp spP no sl m b1 w0 W (.clear z ax) ((do pure (Next.value (<-Builtin.clear_ #[t] ty #[a.eval X])):Sem Next).run P w):=by
 obtain⟨p,v,u,h,hp⟩:=hx (fun _=>default)
 have h0:=h
 have hp0:=hp
 simp only[stepF]at h
 obtain⟨s0,q0,hd0,hf0,hq0⟩:=o1_den h hp hax hs
 split at hf0
 case h_2=>cases hf0
 rename_i c L s lo n
 split at hf0
 case h_2=>cases hf0
 rename_i own L' s' fr z' l hl0
 have hown:own.wr=true:=by cases hw:own.wr<;>simp[hw]at hf0 ⊢
 have hf2:(bif decide (s=s')&&noRows z&&decide (z.length=s)then (some (L'=L/\0<=lo/\0<=n/\lo+n=l.length,.tup [],[(c,some (own,L',.recs s' fr z' (l.take lo.toNat++List.replicate n.toNat z)))]):R)else none)=some (q0,v,u):=by
  rw[hown]at hf0;exact hf0
 cases hc:(decide (s=s')&&noRows z&&decide (z.length=s))with
 | false=>rw[hc]at hf2;cases hf2
 | true=>
  rw[hc]at hf2
  simp only[Bool.and_eq_true,decide_eq_true_eq]at hc
  obtain⟨⟨rfl,hnr⟩,hzl⟩:=hc
  simp only[cond_true]at hf2
  cases hf2
  obtain⟨rfl,g0,g1,g2⟩:=hq0
  have hl0:=lkN_some hl0
  simp only[Den]at hd0
  obtain⟨_,_,nc,nz,A,hA,hAn,hA'⟩:=hd0
  obtain⟨i0,hi0,hsz,hbytes,zv,hzv,hds,_⟩:=(hT e te hte).info
  obtain⟨z1,z2,z3⟩:=zeroR_ok hz
  have hu:P.underlying t=some (.slice e):=desc_slice hT htt hkind
  obtain⟨w',r1,r2,r3⟩:=wrN_ok (P:=P) hown hzl (z2 _ hds) (noRows_ok hnr) n.toNat m w l lo.toNat 0 hm hk hl0 (by omega)
  simp only[Nat.add_zero,Nat.zero_mul]at r1 r2
  rw[List.drop_eq_nil_of_le (by omega),List.append_nil]at r2
  refine⟨fun _=>default,_,_,_,.tuple #[],w',h0,hp0,.inl ?_,by simp[Den,Dens],by simpa only[apU]using r2,r3⟩
  by_cases hn:n.toNat=0
  ·have hw:w'=w:=by rw[hn]at r1;simp[storeCells,Builtin.zeroCells]at r1;exact r1.symm
   rw[hA,hw,hn]
   cases A<;>simp[Builtin.clear_,run_underlying hu,Result.andThen]
  ·have hcap:L'.cap-lo.toNat≠0:=by omega
   have:=hA' hcap
   cases hnil:L'.nil with
   | true=>have:=nz hnil;omega
   | false=>
    rw[hnil]at this
    simp at this
    rw[hA,this]
    cases hnn:n.toNat with
    | zero=>exact absurd hnn hn
    | succ k=>
     rw[hnn]at r1
     simp[Builtin.clear_,run_underlying hu,Result.andThen,zero_run hi0 hzv,r1]
end Go.Proofs.YtaofjnkpkocgjaaGreat.Xf
end
section 
namespace Go.Proofs.YtaofjnkpkocgjaaGreat.Xf
variable {P:Program} {sp:Sp} {spP:SpP} {no:Lim} {sl:List Ent} {m:Mem} {b1 w0 w:World} {W:Addr->Prop} {a:Act} {tab:Tab} {isP:FuncId->Bool}
theorem of_done {o:Oper} {io:IROp} {K:Act->World->Prop} {Q:Exit->Act->World->Prop} {r:Result Next}
  (h:Done P sp spP no sl m b1 w0 W io r) (hr:(execOp a.eval o).run P w=r)
  (hK:∀ x p v u rv w',stepF sp spP no x sl (lk m) io=some (p,v,u)->p->Den v rv->MemSat w0 W (apU m u) w'->Kept b1 w0 W w'->K (a.put o.dst rv) w'):o.wp P a w K Q:=by
 obtain⟨x,p,v,u,rv,w',h1,h2,h3,h4,h5,h6⟩:=h
 unfold Oper.wp
 rw[hr]
 rcases h3 with rfl | ⟨rfl,rfl⟩
 ·exact hK x p v u rv w' h1 h2 h4 h5 h6
 ·exact hK x p v u undef w' h1 h2 h4 h5 h6
theorem opt_den (hs:SlotsOk sl a) {X:Option Operand} {ao:Option Opd} (h:opt X=some ao) {f:Option SV->R} {p:Prop} {r:SV} {u:Upd} (hf:o0 sl ao f=some (p,r,u)) (hp:p) :
  ∃ s p',DenO s (X.map a.eval)/\f s=some (p',r,u)/\p':=by
 cases X with
 | none=>
  simp only[opt]at h;cases h
  simp only[o0]at hf
  exact⟨none,p,trivial,hf,hp⟩
 | some X=>
  simp only[opt]at h
  split at h
  ·rename_i b hb
   cases h
   simp only[o0]at hf
   obtain⟨v,p',hd,hf',hp'⟩:=o1_den hf hp hb hs
   exact⟨some v,p',hd,hf',hp'⟩
  ·cases h
theorem two_ops {xs:List Operand} {ax ay:Opd} (h:opds xs=some [ax,ay]):∃ X Y,xs=[X,Y]/\opd X=some ax/\opd Y=some ay:=by
 match xs,h with
 | [],h=>simp[opds]at h
 | [X],h=>simp only[opds]at h;split at h<;>simp_all
 | [X,Y],h=>
  simp only[opds]at h
  cases hx:opd X<;>cases hy:opd Y<;>simp[hx,hy]at h
  exact⟨X,Y,rfl,by rw[hx,h.1],by rw[hy,h.2]⟩
 | X::Y::Z::r,h=>
  simp only[opds]at h
  cases hx:opd X<;>cases hy:opd Y<;>cases hz:opd Z<;>cases hr:opds r<;>simp[hx,hy,hz,hr]at h
theorem three_ops {xs:List Operand} {ax ay az:Opd} (h:opds xs=some [ax,ay,az]):∃ X Y Z,xs=[X,Y,Z]/\opd X=some ax/\opd Y=some ay/\opd Z=some az:=by
 match xs,h with
 | [],h=>simp[opds]at h
 | X::r,h=>
  simp only[opds]at h
  cases hx:opd X<;>cases hr:opds r<;>simp[hx,hr]at h
  rename_i b bs
  obtain⟨rfl,rfl⟩:=h
  obtain⟨Y,Z,rfl,h1,h2⟩:=two_ops hr
  exact⟨X,Y,Z,rfl,hx,h1,h2⟩
theorem ons_val (hs:SlotsOk sl a):∀ {xs:List Operand} {as:List Opd} {F:(Nat->Loc)->R} (f:List SV->(Nat->Loc)->R),opds xs=some as->(∀ x,F x=ons sl as fun vs=>f vs x) ->
  (∃ p v u,F (fun _=>default)=some (p,v,u)/\p)->∃ vs c',Dens vs (xs.map a.eval)/\c'/\∀ x,F x=match f vs x with | none=>none | some (p,v,u)=>some (c'/\p,v,u)
 | [],as,F,f,hx,hF,hp=>by
  simp only[opds]at hx;cases hx
  refine⟨[],True,by simp[Dens],trivial,fun x=>?_⟩
  rw[hF x]
  simp only[ons]
  cases f [] x with
  | none=>rfl
  | some r=>simp
 | X::xs,as,F,f,hx,hF,hp=>by
  simp only[opds]at hx
  split at hx
  case h_2=>cases hx
  rename_i b bs hb hbs
  cases hx
  obtain⟨p,v,u,h,hpp⟩:=hp
  rw[hF]at h
  simp only[ons]at h
  obtain⟨c0,s0,p0,e0,f0,rfl⟩:=o1_some h
  obtain⟨hc0,hp0⟩:=hpp
  subst hc0
  obtain⟨vs,c',h1,h2,h3⟩:=ons_val hs (F:=fun x=>ons sl bs fun vs=>f (s0::vs) x) (fun vs x=>f (s0::vs) x) hbs (fun x=>rfl) ⟨_,_,_,f0,hp0⟩
  refine⟨s0::vs,true=true/\c',?_,⟨rfl,h2⟩,fun x=>?_⟩
  ·simp only[List.map_cons,Dens]
   exact⟨_,_,rfl,opd_den hb hs e0 rfl,h1⟩
  ·rw[hF x]
   simp only[ons,o1,e0]
   have:=h3 x
   rw[this]
   cases f (s0::vs) x with
   | none=>rfl
   | some r=>simp[and_assoc]
theorem ons_none {sl:List Ent}:∀ {as:List Opd} {p:Prop} {v:SV} {u:Upd},ons sl as (fun _=>(none:R))=some (p,v,u)->False
 | [],p,v,u,h=>by simp[ons]at h
 | b::as,p,v,u,h=>by
  simp only[ons]at h
  obtain⟨_,_,_,_,f0,_⟩:=o1_some h
  exact ons_none f0
theorem opOK (hT:∀ t tt,tab t=some tt->TtOk P t tt) (hP:SpPOk P spP) (hS:SpOk P sp) {g io:IROp} {o:Oper} (hc:compO tab isP g o.op=some io)
  (hs:SlotsOk sl a) (hm:MemSat w0 W m w) (hk:Kept b1 w0 W w)
  (hx:∀ x,∃ p v u,stepF sp spP no x sl (lk m) io=some (p,v,u)/\p) {K:Act->World->Prop} {Q:Exit->Act->World->Prop}
  (hK:∀ x p v u rv w',stepF sp spP no x sl (lk m) io=some (p,v,u)->p->Den v rv->MemSat w0 W (apU m u) w'->Kept b1 w0 W w'->K (a.put o.dst rv) w'):o.wp P a w K Q:=by
 cases hop:o.op with
 | move X=>
  simp only[hop,compO,Option.map_eq_some_iff]at hc
  obtain⟨ax,hax,rfl⟩:=hc
  exact of_done (done_mov hs hm hk hax hx) (by simp[execOp,hop]) hK
 | assign X=>
  simp only[hop,compO,Option.map_eq_some_iff]at hc
  obtain⟨ax,hax,rfl⟩:=hc
  exact of_done (done_mov hs hm hk hax hx) (by simp[execOp,hop]) hK
 | pick C X Y=>
  simp only[hop,compO]at hc
  split at hc
  case h_2=>cases hc
  rename_i c ax ay h1 h2 h3
  cases hc
  exact of_done (done_pick hs hm hk h1 h2 h3 hx) (by rw[execOp,hop]) hK
 | box t X=>
  simp only[hop,compO,Option.map_eq_some_iff]at hc
  obtain⟨ax,hax,rfl⟩:=hc
  exact of_done (done_box (t:=t) hs hm hk hax hx) (by rw[execOp,hop]) hK
 | alloc t=>
  simp only[hop,compO]at hc
  split at hc
  case h_2=>cases hc
  rename_i tt htt
  split at hc
  ·rename_i n e hkind
   split at hc
   case h_2=>cases hc
   rename_i te hte
   split at hc
   case h_2=>cases hc;exact of_done (done_alloc hT hm hk htt hx) (by rw[execOp,hop]) hK
   rename_i k hk'
   cases hzi:zeroI k n tt.zero with
   | false=>simp[hzi]at hc
   | true=>
    simp only[hzi,cond_true]at hc
    cases hc
    exact of_done (done_allocI hT hm hk htt (zeroI_eq hzi) hx) (by rw[execOp,hop]) hK
  ·cases hc
   exact of_done (done_alloc hT hm hk htt hx) (by rw[execOp,hop]) hK
 | build t ps=>
  simp only[hop,compO]at hc
  split at hc
  case h_2=>cases hc
  rename_i tt htt
  split at hc
  ·rename_i fs hkind
   split at hc
   case h_2=>cases hc
   rename_i szs hszs
   split at hc
   case h_2=>cases hc
   rename_i as has
   cases hc
   exact of_done (done_build hT hs hm hk htt hkind hszs has hx) (by rw[execOp,hop]) hK
  ·rename_i n e hkind
   split at hc
   case h_2=>cases hc
   rename_i te hte
   split at hc
   case h_2=>cases hc
   rename_i as has
   cases hc
   exact of_done (done_buildA hT hs hm hk htt hkind hte has hx) (by rw[execOp,hop]) hK
  ·cases hc
 | buildSlice t len ps=>
  simp only[hop,compO]at hc
  split at hc
  case h_2=>cases hc
  rename_i tt htt
  split at hc
  case h_2=>cases hc
  rename_i e hkind
  split at hc
  case h_2=>cases hc
  rename_i te hte
  cases hir:g.isR with
  | true=>
   simp only[hir,cond_true]at hc
   cases hb:(ps.size==len&&decide (0<te.size)&&decide (te.size*len<=16777216))with
   | false=>simp[hb]at hc
   | true=>
    simp only[hb,cond_true]at hc
    simp only[Bool.and_eq_true,beq_iff_eq,decide_eq_true_eq]at hb
    split at hc
    case h_2=>cases hc
    rename_i xs hio
    split at hc
    case h_2=>cases hc
    rename_i as has
    cases hc
    exact of_done (done_brecs hT hs hm hk htt hkind hte hb.1.2 hio has hb.1.1 hb.2 hx) (by rw[execOp,hop]) hK
  | false=>
   simp only[hir,cond_false]at hc
   cases hb:(te.size==1&&ps.size==len&&simpleK te&&decide (len<=16777216))with
   | false=>simp[hb]at hc
   | true=>
    simp only[hb,cond_true]at hc
    simp only[Bool.and_eq_true,beq_iff_eq,decide_eq_true_eq]at hb
    split at hc
    case h_2=>cases hc
    rename_i xs hio
    split at hc
    case h_2=>cases hc
    rename_i as has
    cases hc
    exact of_done (done_bslice hT hs hm hk htt hkind hte hb.1.1.1 hio has hb.1.1.2 hb.2 hx) (by rw[execOp,hop]) hK
 | load t X=>
  simp only[hop,compO]at hc
  split at hc
  case h_2=>cases hc
  rename_i tt ax htt hax
  cases hc
  exact of_done (done_load hT hs hm hk htt hax hx) (by rw[execOp,hop]) hK
 | store t X Y=>
  simp only[hop,compO]at hc
  split at hc
  case h_2=>cases hc
  rename_i tt ax ay htt hax hay
  cases hc
  exact of_done (done_store hT hs hm hk htt hax hay hx) (by rw[execOp,hop]) hK
 | nilCheck X=>
  simp only[hop,compO,Option.map_eq_some_iff]at hc
  obtain⟨ax,hax,rfl⟩:=hc
  have hd:Done P sp spP no sl m b1 w0 W (.nilc ax) (.ok (.value (a.eval X)) w)/\∃ b,a.eval X=.pointer (some b):=by
   obtain⟨p,v,u,h,hp⟩:=hx (fun _=>default)
   have h0:=h
   simp only[stepF]at h
   obtain⟨v0,p',hd,hf,hp'⟩:=o1_den h hp hax hs
   cases v0<;>simp only at hf<;>first | (cases hf;done) | skip
   cases hf
   exact⟨⟨_,_,_,_,_,_,h0,hp,.inl rfl,hd,hm,hk⟩,_,hd⟩
  obtain⟨hd,b,hb⟩:=hd
  exact of_done hd (by rw[execOp,hop];simp[hb]) hK
 | binOp op t X Y yt=>
  simp only[hop,compO]at hc
  split at hc
  case h_2=>cases hc
  rename_i tt ax ay htt hax hay
  split at hc
  ·cases hc
   exact of_done (done_bin (t:=t) hs hm hk hax hay hx) (by rw[execOp,hop]) hK
  ·rename_i hkind
   cases hc
   exact of_done (done_binB hT hs hm hk htt hkind hax hay hx) (by rw[execOp,hop]) hK
  ·rename_i e hkind
   cases hc
   exact of_done (done_binS hT hs hm hk htt hkind hax hay hx) (by rw[execOp,hop]) hK
  ·split at hc
   case h_2=>cases hc
   rename_i ks hks
   cases hc
   exact of_done (done_binA hT hs hm hk htt hks hax hay hx) (by rw[execOp,hop]) hK
  ·split at hc
   case h_2=>cases hc
   rename_i ks hks
   cases hc
   exact of_done (done_binA hT hs hm hk htt hks hax hay hx) (by rw[execOp,hop]) hK
  ·rename_i hkind
   cases hc
   exact of_done (done_binN hT hs hm hk htt hkind hax hay hx) (by rw[execOp,hop]) hK
  ·rename_i hkind
   cases hc
   exact of_done (done_binT hT hs hm hk htt hkind hax hay hx) (by rw[execOp,hop]) hK
  ·cases hc
 | unOp op t X=>
  simp only[hop,compO]at hc
  split at hc
  ·rename_i ax hax
   cases hc
   exact of_done (done_one hs hm hk hax (f:=fun v=>upTo (negSV g.wOf v)) (fun x=>rfl) (fun s p v u h1 h2 h3=>run_neg h1 h2 h3 w) hx) (by rw[execOp,hop]) hK
  ·rename_i ax hax
   cases hc
   exact of_done (done_one hs hm hk hax (f:=fun v=>upTo (notSV v)) (fun x=>rfl) (fun s p v u h1 h2 h3=>run_not h1 h2 h3 w) hx) (by rw[execOp,hop]) hK
  ·cases hc
 | convert src dst X=>
  simp only[hop,compO]at hc
  split at hc
  case h_2=>cases hc
  rename_i ts td ax hts htd hax
  split at hc
  ·rename_i k0 k hk0 hk1
   cases hc
   exact of_done (done_one hs hm hk hax (f:=fun v=>upTo (cvtSV g.wOf k v)) (fun x=>rfl) (fun s p v u h1 h2 h3=>run_cvt hT hts htd hk0 hk1 h1 h2 h3 w) hx) (by rw[execOp,hop]) hK
  ·rename_i e hk0 hk1
   split at hc
   case h_2=>cases hc
   rename_i te hte
   split at hc
   case h_2=>cases hc
   rename_i hke
   cases hc
   exact of_done (done_one hs hm hk hax (f:=fun v=>match v with | .sl c L s lo n=>strV s L lo n (lkN no (lk m) c) | _=>none) (fun x=>rfl) (fun s p v u h1 h2 h3=>run_str hT hm hts htd hte hk0 hk1 hke h1 h2 h3) hx) (by rw[execOp,hop]) hK
  ·cases hc
 | makeFunc fn first cs=>
  simp only[hop,compO]at hc
  split at hc
  case h_2=>cases hc
  rename_i f as hfirst has
  cases hc
  have hd:Done P sp spP no sl m b1 w0 W (.mkf f as) (.ok (.value (.func (.func f) #[] (cs.map a.eval))) w):=by
   refine done_of hm hk (fun x p v u h hp=>?_) hx
   simp only[stepF]at h
   obtain⟨vs,p',hds,hf,hp'⟩:=ons_den hs has h hp
   cases hf
   exact⟨rfl,_,rfl,by simp only[Den];exact⟨cs.toList.map a.eval,by congr 1;apply Array.ext';simp,hds⟩⟩
  have hfe:first=#[]:=by apply Array.ext';simpa using hfirst
  exact of_done hd (by rw[execOp,hop];simp[Instr.makeFunc,hfe]) hK
 | makeSlice t l c=>
  simp only[hop,compO]at hc
  split at hc
  case h_2=>cases hc
  rename_i tt htt
  split at hc
  case h_2=>cases hc
  rename_i e hkind
  split at hc
  case h_2=>cases hc
  rename_i te ax ay hte hax hay
  cases hir:g.isR with
  | true=>
   simp only[hir,cond_true]at hc
   cases hb:(decide (te.bytes<=100000)&&decide (te.size<=1000)&&decide (0<te.size))with
   | false=>simp[hb]at hc
   | true=>
    simp only[hb,cond_true]at hc
    simp only[Bool.and_eq_true,decide_eq_true_eq]at hb
    split at hc
    case h_2=>cases hc
    rename_i z hz'
    cases hc
    exact of_done (done_mksR hT hs hm hk htt hkind hte hb.2 hb.1.1 hz' hax hay hx) (by rw[execOp,hop]) hK
  | false=>
   simp only[hir,cond_false]at hc
   cases hb:(te.size==1&&decide (te.bytes<=100))with
   | false=>simp[hb]at hc
   | true=>
    simp only[hb,cond_true]at hc
    simp only[Bool.and_eq_true,beq_iff_eq,decide_eq_true_eq]at hb
    split at hc
    case h_2=>cases hc
    rename_i z hz'
    cases hc
    exact of_done (done_mks hT hs hm hk htt hkind hte hb.1 hb.2 hz' hax hay hx) (by rw[execOp,hop]) hK
 | slice t X lo hi mx=>
  simp only[hop,compO]at hc
  split at hc
  case h_2=>cases hc
  rename_i tt ax l h htt hax hl hh
  split at hc
  ·rename_i e hkind
   split at hc
   case h_2=>cases hc
   rename_i te hte
   cases hc
   refine of_done (o:=o) (r:=((do pure (Next.value (<-Instr.sliceAt t (a.eval X) (lo.map a.eval) (hi.map a.eval) none)):Sem Next).run P w)) (done_of hm hk (fun x p v u hst hp=>?_) hx) (by rw[execOp,hop];rfl) hK
   simp only[stepF]at hst
   obtain⟨v0,p0,hd0,hf0,hp0⟩:=o1_den hst hp hax hs
   obtain⟨s1,p1,hd1,hf1,hp1⟩:=opt_den hs hl hf0 hp0
   obtain⟨s2,p2,hd2,hf2,hp2⟩:=opt_den hs hh hf1 hp1
   obtain⟨rfl,rv,hr,hdv⟩:=run_slc hT htt hkind hte hd0 hd1 hd2 hf2 hp2 w
   exact⟨rfl,rv,by simp[hr,Result.andThen],hdv⟩
  ·rename_i n e hkind
   split at hc
   case h_2=>cases hc
   rename_i te hte
   cases hc
   exact of_done (done_one hs hm hk hax (fun x=>rfl) (fun s p v u h1 h2 h3=>run_slcA hT htt hkind hte h1 h2 h3 w) hx) (by rw[execOp,hop];rfl) hK
  ·cases hc
 | fieldAddr t X f=>
  simp only[hop,compO]at hc
  split at hc
  case h_2=>cases hc
  rename_i tt ax htt hax
  split at hc
  case h_2=>cases hc
  rename_i fs hkind
  split at hc
  case h_2=>cases hc
  rename_i off ft hf
  split at hc
  case h_2=>cases hc
  rename_i tu htu
  cases hb:(tu.size==0)with
  | true=>simp[hb]at hc
  | false=>
   simp only[hb,cond_false]at hc
   cases hc
   exact of_done (done_one hs hm hk hax (fun x=>rfl) (fun s p v u h1 h2 h3=>run_fld hT htt hkind hf htu (by simpa using hb) h1 h2 h3 w) hx) (by rw[execOp,hop]) hK
 | field t X f=>
  simp only[hop,compO]at hc
  split at hc
  case h_2=>cases hc
  rename_i tt ax htt hax
  split at hc
  case h_2=>cases hc
  rename_i fs hkind
  split at hc
  case h_2=>cases hc
  rename_i off ft hf
  split at hc
  case h_2=>cases hc
  rename_i tu htu
  cases hc
  exact of_done (done_one hs hm hk hax (fun x=>rfl) (fun s p v u h1 h2 h3=>run_fldv hT htt hkind hf htu h1 h2 h3 w) hx) (by rw[execOp,hop]) hK
 | indexAddr t X Y=>
  simp only[hop,compO]at hc
  split at hc
  case h_2=>cases hc
  rename_i tt ax ay htt hax hay
  split at hc
  ·rename_i e hkind
   split at hc
   case h_2=>cases hc
   rename_i te hte
   cases hc
   exact of_done (done_two hs hm hk hax hay (fun x=>rfl) (fun s s' p v u h1 h2 h3 h4=>run_idxS hT htt hkind hte h1 h2 h3 h4 w) hx) (by rw[execOp,hop]) hK
  ·rename_i n e hkind
   split at hc
   case h_2=>cases hc
   rename_i te hte
   cases hc
   exact of_done (done_two hs hm hk hax hay (fun x=>rfl) (fun s s' p v u h1 h2 h3 h4=>run_idxP hT htt hkind hte h1 h2 h3 h4 w) hx) (by rw[execOp,hop]) hK
  ·cases hc
 | index t X Y=>
  simp only[hop,compO]at hc
  split at hc
  case h_1=>
   rename_i s
   split at hc
   case h_2=>cases hc
   rename_i tt ay htt hay
   split at hc
   case h_2=>cases hc
   rename_i hkind
   cases hc
   exact of_done (done_one hs hm hk hay (f:=fun v=>match v with | .int _ j=>some (0<=j/\j<(s.data.toList.map fun c=>(c.toNat:Int)).length,.int .u8 (rd (s.data.toList.map fun c=>(c.toNat:Int)) j),[]) | _=>none) (fun x=>rfl) (fun s p v u h1 h2 h3=>run_tabI hT htt hkind h1 h2 h3 w) hx) (by rw[execOp,hop];rfl) hK
  split at hc
  case h_2=>cases hc
  rename_i tt ax ay htt hax hay
  split at hc
  case h_2=>cases hc
  rename_i n e hkind
  split at hc
  case h_2=>cases hc
  rename_i te hte
  cases hb:(te.size==1&&simpleK te)with
  | false=>simp[hb]at hc
  | true=>
   simp only[hb,cond_true]at hc
   simp only[Bool.and_eq_true,beq_iff_eq]at hb
   cases hc
   exact of_done (done_two hs hm hk hax hay (fun x=>rfl) (fun s s' p v u h1 h2 h3 h4=>run_idxV hT htt hkind hte hb.1 (by have:=hb.2;unfold simpleK at this;unfold TT.agg;split at this<;>simp_all) h1 h2 h3 h4 w) hx) (by rw[execOp,hop]) hK
 | extract X i=>
  simp only[hop,compO,Option.map_eq_some_iff]at hc
  obtain⟨ax,hax,rfl⟩:=hc
  exact of_done (done_one hs hm hk hax (fun x=>rfl) (fun s p v u h1 h2 h3=>run_ext h1 h2 w) hx) (by rw[execOp,hop]) hK
 | call c=>
  simp only[hop,compO]at hc
  split at hc
  case h_1=>cases hc
  rename_i as has
  have hargs:c.args=c.args.toList.toArray:=by simp
  have bi:∀ (b:Builtin) (S:Sem Value) (io:IROp),c.callee=.builtin b->Done P sp spP no sl m b1 w0 W io ((do pure (Next.value (<-S)):Sem Next).run P w) ->
    (∀ consts,builtin b c.argTypes o.type consts (c.args.map a.eval)=(do pure (Next.value (<-S)))) ->
    (∀ x p v u rv w',stepF sp spP no x sl (lk m) io=some (p,v,u)->p->Den v rv->MemSat w0 W (apU m u) w'->Kept b1 w0 W w'->K (a.put o.dst rv) w')->o.wp P a w K Q:=by
   intro b S io hcal hd he hK
   refine of_done hd ?_ hK
   rw[execOp,hop]
   simp only[resolve,hcal,invoke,Sem.run_bind,Sem.run_pure,Result.andThen]
   rw[he]
   simp only[Sem.run_bind,Sem.run_pure,Result.andThen]
  split at hc
  ·
   rename_i hcal
   split at hc
   case h_2=>cases hc
   rename_i t ax hat
   split at hc
   case h_2=>cases hc
   rename_i tt htt
   have hat':c.argTypes=#[t]:=by apply Array.ext';simpa using hat
   obtain⟨X,hX⟩:∃ X,c.args.toList=[X]/\opd X=some ax:=by
    cases hl:c.args.toList with
    | nil=>rw[hl]at has;simp[opds]at has
    | cons X r=>
     rw[hl]at has
     simp only[opds]at has
     split at has
     ·rename_i b bs hb hbs
      cases has
      cases r with
      | nil=>exact⟨X,rfl,hb⟩
      | cons Y r=>simp only[opds]at hbs;split at hbs<;>cases hbs
     ·cases has
   have hA:c.args.map a.eval=#[a.eval X]:=by apply Array.ext';simp[hX.1]
   split at hc
   ·rename_i e hkind
    cases hc
    refine bi _ (Builtin.len_ #[t] o.type #[a.eval X]) _ hcal (done_one hs hm hk hX.2 (fun x=>rfl) (fun s p v u h1 h2 h3=>?_) hx) (fun _=>by rw[hat',hA];rfl) hK
    cases s<;>simp only at h2<;>first | (cases h2;done) | (cases h2;exact h3.elim) | skip
    cases h2
    rename_i len
    simp only[Den]at h1
    obtain⟨_,g1,_,_,A,hA',_⟩:=h1
    refine⟨rfl,goInt len,?_,by simp only[Den,goInt]⟩
    rw[hA',show goInt len=goInt (len.toNat:Int) by congr 1;omega]
    simp only[Builtin.len_,Sem.run_bind,Sem.run_pure,Result.andThen,run_underlying (desc_slice hT htt hkind)]
    simp[run_underlying (desc_slice hT htt hkind),Result.andThen]
   ·rename_i n e hkind
    cases hc
    have hd:Done P sp spP no sl m b1 w0 W (.lenK n) ((do pure (Next.value (<-Builtin.len_ #[t] o.type #[a.eval X])):Sem Next).run P w):=by
     refine done_of hm hk (fun x p v u h hp=>?_) hx
     simp only[stepF]at h
     cases h
     refine⟨rfl,goInt n,?_,by simp[Den,goInt]⟩
     simp[Builtin.len_,run_underlying (desc_array hT htt hkind),Result.andThen]
    exact bi _ (Builtin.len_ #[t] o.type #[a.eval X]) _ hcal hd (fun _=>by rw[hat',hA];rfl) hK
   ·cases hc
  ·
   rename_i hcal
   split at hc
   case h_2=>cases hc
   rename_i t u' ax ay hat
   split at hc
   case h_2=>cases hc
   rename_i tt tu htt htu
   split at hc
   case h_2=>cases hc
   rename_i e e' hkind hkind'
   split at hc
   case h_2=>cases hc
   rename_i te hte
   have hat':c.argTypes=#[t,u']:=by apply Array.ext';simpa using hat
   obtain⟨X,Y,hX,hax,hay⟩:∃ X Y,c.args.toList=[X,Y]/\opd X=some ax/\opd Y=some ay:=two_ops has
   have hA:c.args.map a.eval=#[a.eval X,a.eval Y]:=by apply Array.ext';simp[hX]
   cases hb:(decide (0<te.size)&&decide (te.size<=1000)&&decide (te.bytes<=100)&&(simpleK te||te.agg))with
   | false=>simp[hb]at hc
   | true=>
    simp only[hb,cond_true]at hc
    simp only[Bool.and_eq_true,decide_eq_true_eq]at hb
    cases hc
    exact bi _ (Builtin.append_ #[t,u'] o.type #[a.eval X,a.eval Y]) _ hcal (done_app hT hs hm hk htt hkind htu hkind' hte hb.1.1.1 hb.1.2 hax hay hx) (fun _=>by rw[hat',hA];rfl) hK
  ·
   rename_i hcal
   split at hc
   case h_2=>cases hc
   rename_i t u' ax ay hat
   split at hc
   case h_2=>cases hc
   rename_i tt tu htt htu
   split at hc
   case h_2=>cases hc
   rename_i e e' hkind hkind'
   split at hc
   case h_2=>cases hc
   rename_i te hte
   have hat':c.argTypes=#[t,u']:=by apply Array.ext';simpa using hat
   obtain⟨X,Y,hX,hax,hay⟩:∃ X Y,c.args.toList=[X,Y]/\opd X=some ax/\opd Y=some ay:=two_ops has
   have hA:c.args.map a.eval=#[a.eval X,a.eval Y]:=by apply Array.ext';simp[hX]
   cases hb:(te.size==1)with
   | false=>simp[hb]at hc
   | true=>
    simp only[hb,cond_true]at hc
    simp only[beq_iff_eq]at hb
    cases hc
    exact bi _ (Builtin.copy_ #[t,u'] o.type #[a.eval X,a.eval Y]) _ hcal (done_copy (e':=e') (tt':=tu) hT hs hm hk htt hkind hte hb hax hay hx) (fun _=>by rw[hat',hA];rfl) hK
  ·
   rename_i hcal
   split at hc
   case h_2=>cases hc
   rename_i t ax hat
   split at hc
   case h_2=>cases hc
   rename_i tt htt
   split at hc
   case h_2=>cases hc
   rename_i e hkind
   split at hc
   case h_2=>cases hc
   rename_i te hte
   split at hc
   case h_2=>cases hc
   rename_i z hz
   have hat':c.argTypes=#[t]:=by apply Array.ext';simpa using hat
   obtain⟨X,hX⟩:∃ X,c.args.toList=[X]/\opd X=some ax:=by
    cases hl:c.args.toList with
    | nil=>rw[hl]at has;simp[opds]at has
    | cons X r=>
     rw[hl]at has
     simp only[opds]at has
     split at has
     ·rename_i b bs hb hbs
      cases has
      cases r with
      | nil=>exact⟨X,rfl,hb⟩
      | cons Y r=>simp only[opds]at hbs;split at hbs<;>cases hbs
     ·cases has
   have hA:c.args.map a.eval=#[a.eval X]:=by apply Array.ext';simp[hX.1]
   cases hc
   exact bi _ (Builtin.clear_ #[t] o.type #[a.eval X]) _ hcal (done_clear hT hs hm hk htt hkind hte hz hX.2 hx) (fun _=>by rw[hat',hA];rfl) hK
  ·
   rename_i hcal
   split at hc
   ·rename_i ax ay
    cases hc
    obtain⟨X,Y,hX,hax,hay⟩:=two_ops has
    have hA:c.args.map a.eval=#[a.eval X,a.eval Y]:=by apply Array.ext';simp[hX]
    refine bi _ (Builtin.min_ c.argTypes o.type #[a.eval X,a.eval Y]) _ hcal (done_two hs hm hk hax hay (fun x=>rfl) (fun s s' p v u h1 h2 h3 h4=>?_) hx) (fun _=>by rw[hA];rfl) hK
    cases s<;>cases s'<;>simp only at h3<;>first | (cases h3;done) | skip
    cases h3
    simp only[Den]at h1 h2
    exact⟨rfl,_,by rw[h1,h2];exact run_mn _ _ w,by simp only[Den]⟩
   ·rename_i ax ay az
    cases hc
    obtain⟨X,Y,Z,hX,hax,hay,haz⟩:=three_ops has
    have hA:c.args.map a.eval=#[a.eval X,a.eval Y,a.eval Z]:=by apply Array.ext';simp[hX]
    refine bi _ (Builtin.min_ c.argTypes o.type #[a.eval X,a.eval Y,a.eval Z]) _ hcal (done_of hm hk (fun x p v u h hp=>?_) hx) (fun _=>by rw[hA];rfl) hK
    simp only[stepF]at h
    obtain⟨v0,p0,hd0,hf0,hp0⟩:=o1_den h hp hax hs
    obtain⟨v1,p1,hd1,hf1,hp1⟩:=o1_den hf0 hp0 hay hs
    obtain⟨v2,p2,hd2,hf2,hp2⟩:=o1_den hf1 hp1 haz hs
    cases v0<;>cases v1<;>cases v2<;>simp only at hf2<;>first | (cases hf2;done) | skip
    cases hf2
    simp only[Den]at hd0 hd1 hd2
    rename_i k0 n0 k1 n1 k2 n2
    refine⟨rfl,.int k0 (min (min n0 n1) n2),?_,by simp only[Den]⟩
    rw[hd0,hd1,hd2]
    simp only[Sem.run_bind,run_mn3,Result.andThen,Sem.run_pure]
   ·cases hc
  ·
   rename_i hcal
   split at hc
   ·rename_i ax ay
    cases hc
    obtain⟨X,Y,hX,hax,hay⟩:=two_ops has
    have hA:c.args.map a.eval=#[a.eval X,a.eval Y]:=by apply Array.ext';simp[hX]
    refine bi _ (Builtin.max_ c.argTypes o.type #[a.eval X,a.eval Y]) _ hcal (done_two hs hm hk hax hay (fun x=>rfl) (fun s s' p v u h1 h2 h3 h4=>?_) hx) (fun _=>by rw[hA];rfl) hK
    cases s<;>cases s'<;>simp only at h3<;>first | (cases h3;done) | skip
    cases h3
    simp only[Den]at h1 h2
    exact⟨rfl,_,by rw[h1,h2];exact run_mx _ _ w,by simp only[Den]⟩
   ·rename_i ax ay az
    cases hc
    obtain⟨X,Y,Z,hX,hax,hay,haz⟩:=three_ops has
    have hA:c.args.map a.eval=#[a.eval X,a.eval Y,a.eval Z]:=by apply Array.ext';simp[hX]
    refine bi _ (Builtin.max_ c.argTypes o.type #[a.eval X,a.eval Y,a.eval Z]) _ hcal (done_of hm hk (fun x p v u h hp=>?_) hx) (fun _=>by rw[hA];rfl) hK
    simp only[stepF]at h
    obtain⟨v0,p0,hd0,hf0,hp0⟩:=o1_den h hp hax hs
    obtain⟨v1,p1,hd1,hf1,hp1⟩:=o1_den hf0 hp0 hay hs
    obtain⟨v2,p2,hd2,hf2,hp2⟩:=o1_den hf1 hp1 haz hs
    cases v0<;>cases v1<;>cases v2<;>simp only at hf2<;>first | (cases hf2;done) | skip
    cases hf2
    simp only[Den]at hd0 hd1 hd2
    rename_i k0 n0 k1 n1 k2 n2
    refine⟨rfl,.int k0 (max (max n0 n1) n2),?_,by simp only[Den]⟩
    rw[hd0,hd1,hd2]
    simp only[Sem.run_bind,run_mx3,Result.andThen,Sem.run_pure]
   ·cases hc
  ·
   rename_i f hcal
   have ent:FnOk P f->(execOp a.eval o).run P w=.ok (.enter f (c.args.toList.map a.eval).toArray) w:=fun hf=>by
    have:=call_enter (P:=P) (a:=a) (t:=o.type) (cap:=[]) hcal rfl hf w
    rw[execOp,hop]
    simpa using this
   cases hpf:isP f with
   | true=>
    simp only[hpf,cond_true]at hc
    cases hc
    obtain⟨p,v,u,h,hp⟩:=hx (fun _=>default)
    have h0:=h
    simp only[stepF]at h
    obtain⟨vs,p',hds,hf,hp'⟩:=ons_den hs has h hp
    obtain⟨hr,rfl⟩:=upTo_some hf
    unfold Oper.wp
    rw[ent (hP.fn _ _ _ hr),Oper.upon_enter]
    refine(hP.calls f vs _ p' v w hds hr hp').mono fun e w' hh=>?_
    obtain⟨rv,rfl,hdv,hb⟩:=hh
    exact hK _ p v [] rv w' h0 hp hdv (hm.below hb) (hk.below' hb)
   | false=>
    simp only[hpf,cond_false]at hc
    cases hc
    have key:∃ vs c',Dens vs (c.args.toList.map a.eval)/\c'/\∀ x,stepF sp spP no x sl (lk m) (.call g.nOf g.kOf f as)=match spN sp no x (lk m) g.nOf g.kOf f vs with | none=>none | some (p,v,u)=>some (c'/\p,v,u):=ons_val hs (F:=fun x=>stepF sp spP no x sl (lk m) (.call g.nOf g.kOf f as)) (fun vs x=>spN sp no x (lk m) g.nOf g.kOf f vs) has (fun x=>rfl) (hx (fun _=>default))
    obtain⟨vs,c',hds,hc',hst⟩:=key
    have hx':∀ x,∃ p v u,spN sp no x (lk m) g.nOf g.kOf f vs=some (p,v,u)/\p:=fun x=>by
     obtain⟨p,v,u,h,hp⟩:=hx x
     rw[hst x]at h
     split at h
     ·cases h
     ·rename_i q v' u' hq;cases h;exact⟨q,_,_,hq,hp.2⟩
    obtain⟨q,v,u,hq,-⟩:=hx' (fun _=>default)
    unfold Oper.wp
    rw[ent (spN_fn hS hq),Oper.upon_enter]
    refine(spN_calls hS hds hm hk hx').mono fun e w' hh=>?_
    obtain⟨x,p,v,u,rv,h1,h2,rfl,h3,h4,h5⟩:=hh
    exact hK x (c'/\p) v u rv w' (by rw[hst x,h1]) ⟨hc',h2⟩ h3 h4 h5
  ·
   rename_i y hnf hcal
   split at hc
   case h_2=>cases hc
   rename_i ay hay
   cases hc
   obtain⟨p,v,u,h,hp⟩:=hx (fun _=>default)
   simp only[stepF]at h
   obtain⟨c0,s0,p0,e0,f0,rfl⟩:=o1_some h
   have hc0:c0=true:=hp.1
   subst hc0
   have hd0:=opd_den hay hs e0 rfl
   cases s0
   case fn f cs=>
    simp only[Den]at hd0
    obtain⟨cap,hcapv,hcaps⟩:=hd0
    have key:∃ vs c',Dens vs (c.args.toList.map a.eval)/\c'/\∀ x,stepF sp spP no x sl (lk m) (.callv g.nOf g.kOf ay as)=match spN sp no x (lk m) g.nOf g.kOf f (vs++cs)with | none=>none | some (p,v,u)=>some (true=true/\c'/\p,v,u):=by
     obtain⟨vs,c',h1,h2,h3⟩:=ons_val hs (F:=fun x=>ons sl as fun vs=>spN sp no x (lk m) g.nOf g.kOf f (vs++cs)) (fun vs x=>spN sp no x (lk m) g.nOf g.kOf f (vs++cs)) has (fun x=>rfl) ⟨_,_,_,f0,hp.2⟩
     refine⟨vs,c',h1,h2,fun x=>?_⟩
     simp only[stepF,o1,e0]
     rw[h3 x]
     cases spN sp no x (lk m) g.nOf g.kOf f (vs++cs)with
     | none=>rfl
     | some r=>rfl
    obtain⟨vs,c',hds,hc',hst⟩:=key
    have hx':∀ x,∃ p v u,spN sp no x (lk m) g.nOf g.kOf f (vs++cs)=some (p,v,u)/\p:=fun x=>by
     obtain⟨p,v,u,h,hp⟩:=hx x
     rw[hst x]at h
     split at h
     ·cases h
     ·rename_i q v' u' hq;cases h;exact⟨q,_,_,hq,hp.2.2⟩
    obtain⟨q,v,u,hq,-⟩:=hx' (fun _=>default)
    have ent:=call_enter (P:=P) (a:=a) (t:=o.type) hcal hcapv (spN_fn hS hq) w
    unfold Oper.wp
    rw[execOp,hop]
    simp only
    rw[ent,Oper.upon_enter]
    refine(spN_calls hS (hds.append hcaps) hm hk hx').mono fun e w' hh=>?_
    obtain⟨x,p,v,u,rv,h1,h2,rfl,h3,h4,h5⟩:=hh
    exact hK x (true=true/\c'/\p) v u rv w' (by rw[hst x,h1]) ⟨rfl,hc',h2⟩ h3 h4 h5
   all_goals (exfalso;exact ons_none f0)
  ·cases hc
 | _=>simp[hop,compO]at hc
end Go.Proofs.YtaofjnkpkocgjaaGreat.Xf
end
section 
namespace Go.Proofs.YtaofjnkpkocgjaaGreat.Xf
structure Marks (b1 w0:World) (ds:List Deferred):Prop where
 nodup:ds.Nodup
 all:∀ d∈ds,∃ D,d={ target:=.collected D,args:=#[] }/\w0.heap.size<=D/\b1.heap[D]?=some (.deferred (some []))
theorem Marks.nil (b1 w0:World):Marks b1 w0 []:=⟨List.nodup_nil,fun d h=>by cases h⟩
structure Sat (b1 w0:World) (W:Addr->Prop) (sl:List Ent) (m:Mem) (a:Act) (w:World):Prop where
 defers:Marks b1 w0 a.defers
 size:a.tmps.size=sl.length
 slots:∀ n c v,lk sl n=some (c,v)->if c=true then Den v (a.tmps.getD n undef)else a.tmps.getD n undef=undef
 mem:MemSat w0 W m w
 kept:Kept b1 w0 W w
theorem Sat.ok {b1 w0 w:World} {W:Addr->Prop} {sl:List Ent} {m:Mem} {a:Act} (h:Sat b1 w0 W sl m a w):SlotsOk sl a:=fun n c v hl hc=>by
 have:=h.slots n c v hl
 simpa [hc]using this
def compG (ops:Array Oper) (o:Oper):Option (Option (Nat×Bool)):=
 match o.guard with
 | none=>some none
 | some (j,pol)=>match (ops[j]?).bind (·.dst)with
  | some d=>some (some (d,pol))
  | none=>none
def compR1 (tab:Tab) (isP:FuncId->Bool) (ops:Array Oper) (g:IRO) (o:Oper):Option IRO:=
 match compG ops o,compO tab isP g.op o.op with
 | some gd,some op=>some ⟨o.dst,gd,g.no,op⟩
 | _,_=>none
def compR (tab:Tab) (isP:FuncId->Bool) (ops:Array Oper):List IRO->List Oper->Option (List IRO)
 | [],[]=>some []
 | g::gs,o::os=>match compR1 tab isP ops g o,compR tab isP ops gs os with
  | some io,some ios=>some (io::ios)
  | _,_=>none
 | _,_=>none
section 
variable {P:Program} {sp:Sp} {spP:SpP} {sl:List Ent} {m:Mem} {b1 w0 w:World} {W:Addr->Prop} {a:Act} {tab:Tab} {isP:FuncId->Bool}
theorem put_get (a:Act) (d:Option Nat) (v:Value) (n:Nat):(a.put d v).tmps.getD n undef=if d=some n/\n<a.tmps.size then v else a.tmps.getD n undef:=by
 cases d with
 | none=>simp[Act.put]
 | some d=>
  simp only[Act.put,Array.getD_eq_getD_getElem?,Array.getElem?_setIfInBounds]
  by_cases h:d=n
  ·subst h
   by_cases h2:d<a.tmps.size
   ·simp[h2]
   ·simp[h2]
  ·simp[h]
theorem put_defers (a:Act) (d:Option Nat) (v:Value):(a.put d v).defers=a.defers:=by cases d<;>rfl
theorem put_size (a:Act) (d:Option Nat) (v:Value):(a.put d v).tmps.size=a.tmps.size:=by cases d<;>simp[Act.put]
theorem putE_length (sl:List Ent) (d:Option Nat) (e:Ent):(putE sl d e).length=sl.length:=by cases d<;>simp[putE,st_length]
theorem Sat.put (h:Sat b1 w0 W sl m a w) {d:Option Nat} {g:Bool} {v:SV} {rv:Value} {m':Mem} {w':World} (hv:if g=true then Den v rv else rv=undef) (hm:MemSat w0 W m' w') (hk:Kept b1 w0 W w') :
  Sat b1 w0 W (putE sl d (some (g,v))) m' (a.put d rv) w':=by
 refine⟨by rw[put_defers];exact h.defers,by rw[put_size,putE_length];exact h.size,fun n c u hl=>?_,hm,hk⟩
 rw[put_get]
 cases d with
 | none=>simp only[putE]at hl;simpa using h.slots n c u hl
 | some d=>
  simp only[putE,lk_st]at hl
  by_cases e:d=n
  ·subst e
   by_cases hlt:d<sl.length
   ·rw[if_pos ⟨rfl,hlt⟩]at hl
    cases hl
    have e1:(if some d=some d/\d<a.tmps.size then rv else a.tmps.getD d undef)=rv:=if_pos ⟨rfl,by rw[h.size];exact hlt⟩
    rw[e1]
    exact hv
   ·rw[if_neg (fun x=>hlt x.2)]at hl
    have e1:(if some d=some d/\d<a.tmps.size then rv else a.tmps.getD d undef)=a.tmps.getD d undef:=if_neg (fun x=>hlt (by rw[<-h.size];exact x.2))
    rw[e1]
    exact h.slots d c u hl
  ·rw[if_neg (fun x=>e x.1)]at hl
   have e1:(if some d=some n/\n<a.tmps.size then rv else a.tmps.getD n undef)=a.tmps.getD n undef:=if_neg (fun x=>e (by simpa using x.1))
   rw[e1]
   exact h.slots n c u hl
theorem guard_ok (h:Sat b1 w0 W sl m a w) {ops:Array Oper} {o:Oper} {gd:Option (Nat×Bool)} (hg:compG ops o=some gd) {g:Bool} (hgo:guardOf sl gd=some g) :
  Region.wanted o (yielded ops a.tmps)=g:=by
 unfold compG at hg
 unfold Region.wanted
 split at hg
 ·rename_i hn
  cases hg
  simp only[guardOf]at hgo
  cases hgo
  rw[hn]
 ·rename_i j pol hn
  rw[hn]
  split at hg
  case h_2=>cases hg
  rename_i d hd
  cases hg
  simp only[guardOf]at hgo
  split at hgo
  case h_2=>cases hgo
  rename_i c b hl
  cases hgo
  have hs:=h.slots d c _ hl
  have hlt:d<a.tmps.size:=by rw[h.size];exact lk_lt hl
  have hy:yielded ops a.tmps j=match a.tmps.getD d undef with | .bool b=>some b | _=>none:=by
   unfold yielded
   rw[hd]
   simp only[Option.bind_some]
   rw[Array.getD_eq_getD_getElem?,Array.getElem?_eq_getElem hlt]
   simp only[Option.getD_some]
   split<;>rename_i h1<;>split<;>simp_all
  simp only[hy]
  cases c with
  | true=>
   simp only[if_true]at hs
   simp only[Den]at hs
   rw[hs]
   cases pol<;>cases b<;>rfl
  | false=>
   simp only[Bool.false_eq_true,if_false]at hs
   rw[hs]
   cases pol<;>cases b<;>rfl
theorem stepsIn_rF (r:Option Nat) {m m':Machine}:StepsIn (Machine.fenced P (rF r)) P m m'↔Steps P m m':=stepsIn_wide
theorem callsIn_rF (r:Option Nat) {n:Nat} {f:FuncId} {args:Array Value} {R:Ending->World->Prop}:CallsIn (rF r) n P f args w R↔Calls P f args w R:=callsIn_wide
theorem compO_defer {g:IROp} {c:Call} {io:IROp} (h:compO tab isP g (.defer c)=some io):False:=by
 simp only[compO]at h;cases h
theorem wpIn_of_wp {r:Option Nat} {n:Nat} {o:Oper} {K:Act->World->Prop} {Q:Exit->Act->World->Prop} (hd:∀ c,o.op≠.defer c) (h:o.wp P a w K Q):o.wpIn (rF r) n P a w K Q:=by
 refine⟨fun _ _=>trivial,?_⟩
 have e:o.semAt (rF r).round a.eval=execOp a.eval o:=Oper.semAt_eq _ _ _ hd
 rw[e]
 unfold Oper.wp at h
 generalize (execOp a.eval o).run P w=res at h ⊢
 cases res with
 | ok x w'=>
  cases x<;>simp only[Oper.upon]at h<;>simp only[Oper.uponIn]
  case value=>exact h
  case skip=>exact h
  case defer=>exact h
  case enter=>exact⟨fun hn=>by simp[Fence.wide]at hn,(callsIn_rF r).2 h⟩
  case row=>exact⟨fun hn=>by simp[Fence.wide]at hn,fun c cs _=>let ⟨v,w2,h1,h2⟩:=h c cs;⟨v,w2,h1,(stepsIn_rF r).2 h2⟩⟩
 | halt x w'=>cases x<;>simp only[Oper.upon]at h<;>simp only[Oper.uponIn];exact h
theorem evO_ok {r:Option Nat} {rm:Nat} (hT:∀ t tt,tab t=some tt->TtOk P t tt) (hP:SpPOk P spP) (hS:SpOk P sp) {ops:Array Oper} {i:Nat} {o:Oper} (ho:ops[i]?=some o) {g io:IRO} (hc:compR1 tab isP ops g o=some io)
  (hsat:Sat b1 w0 W sl m a w) {K':List Ent->Mem->Prop} (h:evO sp spP io sl m K') {K:Act->World->Prop} {Q:Exit->Act->World->Prop}
  (hK:∀ sl' m' a' w',K' sl' m'->Sat b1 w0 W sl' m' a' w'->K a' w'):wpOpIn (rF r) rm P ops Q i K a w:=by
 unfold compR1 at hc
 split at hc
 case h_2=>cases hc
 rename_i gd op hgd hop
 cases hc
 unfold evO at h
 simp only at h
 split at h
 ·exact h.elim
 rename_i g' hg'
 have hw:=guard_ok hsat hgd hg'
 unfold wpOpIn
 simp only[ho,hw]
 have hx:∀ x,∃ y,(op.makes=true->y=x)/\stepK sp spP ⟨o.dst,gd,g.no,op⟩ g' y sl m K':=by
  intro x
  cases hm:op.makes with
  | true=>rw[hm]at h;exact⟨x,fun _=>rfl,h x⟩
  | false=>rw[hm]at h;exact⟨_,fun h=>by simp at h,h⟩
 have hsame:∀ x y,(op.makes=true->y=x)->stepF sp spP g.no y sl (lk m) op=stepF sp spP g.no x sl (lk m) op:=by
  intro x y hxy
  cases op<;>simp only[IROp.makes]at hxy<;>first | rfl | (rw[hxy trivial])
 have hst:∀ x,∃ p v u,stepF sp spP g.no x sl (lk m) op=some (p,v,u)/\(g'=true->p)/\(g'=true∨u=[])/\K' (putE sl o.dst (some (g',v))) (apU m u):=by
  intro x
  obtain⟨y,hy,hk⟩:=hx x
  unfold stepK at hk
  simp only at hk
  rw[hsame x y hy]at hk
  split at hk
  ·exact hk.elim
  ·rename_i p v u he;exact⟨p,v,u,he,hk⟩
 cases g' with
 | true=>
  simp only[if_true]
  refine wpIn_of_wp (fun c hc=>by rw[hc]at hop;exact compO_defer hop) (opOK (no:=g.no) hT hP hS hop hsat.ok hsat.mem hsat.kept (fun x=>?_) (fun x p v u rv w' he hp hd hm hk=>?_))
  ·obtain⟨p,v,u,he,hp,_⟩:=hst x;exact⟨p,v,u,he,hp rfl⟩
  ·obtain⟨p',v',u',he',_,_,hk'⟩:=hst x
   rw[he]at he';cases he'
   exact hK _ _ _ _ hk' (hsat.put (by simpa using hd) hm hk)
 | false=>
  simp only[Bool.false_eq_true,if_false]
  obtain⟨p,v,u,he,_,hu,hk'⟩:=hst (fun _=>default)
  have:u=[]:=by
   rcases hu with h | h
   ·cases h
   ·exact h
  subst this
  exact⟨fun _ _=>trivial,hK _ _ _ _ hk' (hsat.put (by simp) hsat.mem hsat.kept)⟩
theorem compR_get {ops:Array Oper}:∀ {gs:List IRO} {os:List Oper} {ios:List IRO},compR tab isP ops gs os=some ios ->
  ios.length=os.length/\∀ (i:Nat) (io:IRO),ios[i]?=some io->∃ o g,os[i]?=some o/\compR1 tab isP ops g o=some io
 | [],[],ios,h=>by simp only[compR]at h;cases h;simp
 | [],o::os,ios,h=>by simp[compR]at h
 | g::gs,[],ios,h=>by simp[compR]at h
 | g::gs,o::os,ios,h=>by
  simp only[compR]at h
  split at h
  case h_2=>cases h
  rename_i io ios' h1 h2
  cases h
  have ih:=compR_get h2
  refine⟨by simp[ih.1],fun i io' hi=>?_⟩
  cases i with
  | zero=>simp at hi;subst hi;exact⟨o,g,by simp,h1⟩
  | succ i=>simpa using ih.2 i io' (by simpa using hi)
theorem evR_ok {r:Option Nat} {rm:Nat} (hT:∀ t tt,tab t=some tt->TtOk P t tt) (hP:SpPOk P spP) (hS:SpOk P sp) {ops:Array Oper} {Q:Exit->Act->World->Prop} {K':List Ent->Mem->Prop}
  (hK:∀ sl' m' a' w',K' sl' m'->Sat b1 w0 W sl' m' a' w'->Q .normal a' w'):∀ (ios:List IRO) (i:Nat) (sl:List Ent) (m:Mem) (a:Act) (w:World),
  (∀ (j:Nat) (io:IRO),ios[j]?=some io->∃ o g,ops[i+j]?=some o/\compR1 tab isP ops g o=some io)->Sat b1 w0 W sl m a w->evR sp spP ios sl m K'->wpOpsIn (rF r) rm P ops Q (List.range' i ios.length) a w
 | [],i,sl,m,a,w,_,hs,h=>by
  simp only[evR]at h
  simp only[List.length_nil,List.range'_zero,wpOpsIn]
  exact hK _ _ _ _ h hs
 | io::ios,i,sl,m,a,w,hc,hs,h=>by
  simp only[evR]at h
  obtain⟨o,g,ho,hcomp⟩:=hc 0 io (by simp)
  simp only[List.length_cons,List.range'_succ]
  rw[wpOpsIn_cons]
  exact evO_ok hT hP hS (by simpa using ho) hcomp hs h fun sl' m' a' w' hk hs'=>
   evR_ok hT hP hS hK ios (i+1) sl' m' a' w' (fun j io' hj=>by
    obtain⟨o',g',h1,h2⟩:=hc (j+1) io' (by simpa using hj)
    exact⟨o',g',by rw[show i+1+j=i+(j+1) by omega];exact h1,h2⟩) hs' hk
end
end Go.Proofs.YtaofjnkpkocgjaaGreat.Xf
end
section 
namespace Go.Proofs.YtaofjnkpkocgjaaGreat.Xf
def SatX (B:World->Prop) (w0:World) (W:Addr->Prop) (sl:List Ent) (m:Mem) (a:Act) (w:World):Prop:=∃ b1,B b1/\Sat b1 w0 W sl m a w
def lentW (m:Mem):Addr->Prop:=fun a=>∃ c L ch,lk m c=some (.lent,L,ch)/\∃ o,o<ch.ext L/\a=L.ad o
structure Shut (w0 w w':World):Prop where
 os:w'.os=w.os
 tape:w'.tape=w.tape
 output:w'.output=w.output
 size:w'.heap.size=w.heap.size
 blk:∀ k:Nat,w'.heap[k]?=w.heap[k]?∨(w0.heap.size<=k/\∃ o o':Obj,w.heap[k]?=some o/\w'.heap[k]?=some o'/\o.isCells=false/\o'.isCells=false)
theorem Shut.refl (w0 w:World):Shut w0 w w:=⟨rfl,rfl,rfl,rfl,fun _=>.inl rfl⟩
theorem Shut.put {w0 w w':World} (h:Shut w0 w w') {D:Nat} {o o':Obj} (hD:w0.heap.size<=D) (ho:w'.heap[D]?=some o) (hc:o.isCells=false) (hc':o'.isCells=false):Shut w0 w (w'.putObj D o'):=by
 refine⟨h.os,h.tape,h.output,by simp[h.size],fun k=>?_⟩
 by_cases e:k=D
 ·subst e
  have h1:(w'.putObj k o').heap[k]?=some o':=World.putObj_heap_same (Array.getElem?_eq_some_iff.1 ho).1
  rcases h.blk k with h2 | ⟨_,o1,o2,h2,_,h3,_⟩
  ·exact .inr ⟨hD,o,o',by rw[<-h2];exact ho,h1,hc,hc'⟩
  ·exact .inr ⟨hD,o1,o',h2,h1,h3,hc'⟩
 ·rw[World.putObj_heap_other e];exact h.blk k
theorem Shut.cell {w0 w w':World} (h:Shut w0 w w') (a:Addr):w'.cell? a=w.cell? a:=by
 rcases h.blk a.block with h1 | ⟨_,o,o',h1,h2,h3,h4⟩
 ·exact World.cell?_of_block h1
 ·unfold World.cell?
  rw[h1,h2]
  cases o<;>cases o'<;>first | rfl | (simp[Obj.isCells]at h3;done) | (simp[Obj.isCells]at h4;done)
theorem Shut.frozen {w0 w w':World} (h:Shut w0 w w') (a:Addr):w'.frozen? a=w.frozen? a:=by
 rcases h.blk a.block with h1 | ⟨_,o,o',h1,h2,h3,h4⟩
 ·exact World.frozen?_of_block h1
 ·unfold World.frozen?
  rw[h1,h2]
  cases o<;>cases o'<;>first | rfl | (simp[Obj.isCells]at h3;done) | (simp[Obj.isCells]at h4;done)
theorem Shut.mem {w0 w w':World} {w1:World} {W:Addr->Prop} {m:Mem} (h:Shut w0 w w') (hm:MemSat w1 W m w):MemSat w1 W m w':=
 hm.keep (fun a v hv=>by rw[h.cell];exact hv) (fun a _=>h.frozen a)
theorem Shut.kept {b1 w0 w w':World} {W:Addr->Prop} (h:Shut w0 w w') (hk:Kept b1 w0 W w):Kept w0 w0 W w':=by
 have ho:KeepsOthers w0 w':=⟨by rw[h.size];exact hk.size,fun k o hko hc=>by
  have hlt:=(Array.getElem?_eq_some_iff.1 hko).1
  rcases h.blk k with h1 | ⟨h1,_⟩
  ·rw[h1];exact hk.oth0.same k o hko hc
  ·omega⟩
 exact⟨h.os.trans hk.os,h.tape.trans hk.tape,h.output.trans hk.output,by rw[h.size];exact hk.size,fun a ha hn=>(h.cell a).trans (hk.cell a ha hn),fun a ha=>(h.frozen a).trans (hk.frozen a ha),
  fun b hb hn=>by
   rcases h.blk b with h1 | ⟨h1,_⟩
   ·exact h1.trans (hk.block b hb hn)
   ·omega,ho,ho⟩
theorem Kept.base {b1 w0 w:World} {W:Addr->Prop} (h:Kept b1 w0 W w):Kept w0 w0 W w:=
 ⟨h.os,h.tape,h.output,h.size,h.cell,h.frozen,h.block,h.oth0,h.oth0⟩
def lendO (o:Own):Own:=bif o.wr then .lent else .ro
def lendC:Chunk->Chunk
 | .recs s _ z l=>.recs s false z l
 | .ints k xs=>.ints k xs
 | .bools xs=>.bools xs
 | .cells cs=>.cells cs
def lendM:Mem->Mem
 | []=>[]
 | none::m=>none::lendM m
 | some (o,L,ch)::m=>some (lendO o,L,lendC ch)::lendM m
def shp:Mem->Mem->Prop
 | [],[]=>True
 | none::m,none::m'=>shp m m'
 | some (o,L,ch)::m,some (o',L',ch')::m'=>o=o'/\L=L'/\reg (o,L,ch)=reg (o,L,ch')/\lendC ch'=ch'/\shp m m'
 | _,_=>False
theorem lendM_lk:∀ (m:Mem) (c:Nat),lk (lendM m) c=(lk m c).map fun e=>(lendO e.1,e.2.1,lendC e.2.2)
 | [],c=>by simp[lendM,lk]
 | none::m,0=>by simp[lendM,lk]
 | none::m,c+1=>by simp[lendM,lk,lendM_lk m c]
 | some (o,L,ch)::m,0=>by simp[lendM,lk]
 | some (o,L,ch)::m,c+1=>by simp[lendM,lk,lendM_lk m c]
theorem shp_get:∀ {m m':Mem},shp m m'->∀ {c:Nat} {o:Own} {L:Loc} {ch':Chunk},lk m' c=some (o,L,ch')->∃ ch,lk m c=some (o,L,ch)/\reg (o,L,ch)=reg (o,L,ch')/\lendC ch'=ch'
 | [],[],h,c,o,L,ch',hc=>by simp[lk]at hc
 | none::m,none::m',h,c,o,L,ch',hc=>by
  cases c with
  | zero=>simp[lk]at hc
  | succ c=>simp only[lk]at hc ⊢;exact shp_get (m:=m) (m':=m') h hc
 | some (o1,L1,c1)::m,some (o2,L2,c2)::m',h,c,o,L,ch',hc=>by
  simp only[shp]at h
  obtain⟨rfl,rfl,h3,h4,h5⟩:=h
  cases c with
  | zero=>simp only[lk]at hc ⊢;cases hc;exact⟨c1,rfl,h3,h4⟩
  | succ c=>simp only[lk]at hc ⊢;exact shp_get h5 hc
 | [],some _::_,h,c,o,L,ch',hc=>h.elim
 | none::_,some _::_,h,c,o,L,ch',hc=>h.elim
 | some (_,_,_)::_,none::_,h,c,o,L,ch',hc=>h.elim
 | some (_,_,_)::_,[],h,c,o,L,ch',hc=>h.elim
 | none::_,[],h,c,o,L,ch',hc=>h.elim
theorem lendO_wr (o:Own):(lendO o).wr=o.wr:=by cases o<;>rfl
theorem lendC_same (ch:Chunk):(lendC ch).len=ch.len/\(∀ L,(lendC ch).ext L=ch.ext L)/\(∀ o,(lendC ch).cell o=ch.cell o)/\(∀ L k xs,(lendC ch).rows L k xs=ch.rows L k xs)/\(∀ L,(lendC ch).fits L=ch.fits L):=by
 cases ch<;>exact⟨rfl,fun _=>rfl,fun _=>rfl,fun _ _ _=>rfl,fun _=>rfl⟩
theorem lend_reg (o:Own) (L:Loc) (ch:Chunk):reg (lendO o,L,lendC ch)=reg (o,L,ch):=by
 obtain⟨h1,h2,_⟩:=lendC_same ch
 unfold reg
 simp only[lendO_wr,h1,h2]
theorem lend_rows (ch:Chunk) (a:Addr):rows (lendC ch) a=rows ch a:=by
 obtain⟨_,_,_,h4,_⟩:=lendC_same ch
 unfold rows
 simp only[h4]
theorem lend_wf (o:Own) (L:Loc) (ch:Chunk) (a:Addr):wf (lendO o,L,lendC ch) a=wf (o,L,ch) a:=by
 obtain⟨_,h2,_⟩:=lendC_same ch
 unfold wf
 simp only[lendO_wr,h2]
theorem lend_rf (o:Own) (L:Loc) (ch:Chunk) (a:Addr):rf (lendO o,L,lendC ch) a=rf (o,L,ch) a:=by
 unfold rf
 simp only[lend_reg,lend_rows]
theorem ChunkSat.lend {w0 w1 w:World} {W W':Addr->Prop} {o:Own} {L:Loc} {ch:Chunk} (h:ChunkSat w0 W (o,L,ch) w) (hh:∀ i,i<reg (o,L,ch)->homeOk w1 W' (lendO o) (L.ad i)):ChunkSat w1 W' (lendO o,L,lendC ch) w:=by
 obtain⟨h1,h2,h3,h4,h5⟩:=lendC_same ch
 refine⟨fun i hi=>?_,fun L' k xs hr=>?_,fun a ha hra=>?_,fun hw i hi=>?_,?_,fun i hi=>hh i (by rw[<-lend_reg];exact hi)⟩
 ·simp only at hi ⊢;rw[h3];exact h.cell i (by simp only;omega)
 ·simp only at hr
  rw[h4]at hr
  obtain⟨g1,g2,g3,_⟩:=h.row L' k xs hr
  refine⟨g1,g2,g3,fun hf=>?_⟩
  cases ch<;>first | (exact hr.elim) | (simp only[lendC,Chunk.fr]at hf;cases hf)
 ·rw[lend_wf]at ha;simp only at hra;rw[lend_rows]at hra;exact h.self a ha hra
 ·simp only[lendO_wr]at hw;simp only[h2]at hi ⊢;exact h.mineW hw i hi
 ·simp only;rw[h5];exact h.fits
theorem MemSat.lend {w0 w1 w:World} {W:Addr->Prop} {m:Mem} (h:MemSat w0 W m w):MemSat w1 (lentW (lendM m)) (lendM m) w:=by
 have inv:∀ c e,lk (lendM m) c=some e->∃ o L ch,lk m c=some (o,L,ch)/\e=(lendO o,L,lendC ch):=fun c e he=>by
  rw[lendM_lk]at he
  cases hm:lk m c with
  | none=>rw[hm]at he;cases he
  | some e0=>obtain⟨o,L,ch⟩:=e0;rw[hm]at he;cases he;exact⟨o,L,ch,rfl,rfl⟩
 refine⟨fun c e he=>?_,fun c d e f hcd he hf a ha hra=>?_⟩
 ·obtain⟨o,L,ch,hm,rfl⟩:=inv c e he
  refine(h.chunk c _ hm).lend fun i hi=>?_
  cases hw:o.wr with
  | true=>
   have e1:lendO o=.lent:=by simp[lendO,hw]
   rw[e1]at he ⊢
   refine⟨c,L,lendC ch,he,i,?_,rfl⟩
   rw[(lendC_same ch).2.1]
   simpa [reg,hw]using hi
  | false=>
   have e1:lendO o=.ro:=by simp[lendO,hw]
   rw[e1];trivial
 ·obtain⟨o,L,ch,hm,rfl⟩:=inv c e he
  obtain⟨o',L',ch',hm',rfl⟩:=inv d f hf
  rw[lend_wf]at ha
  rw[lend_rf]at hra
  exact h.sep c d _ _ hcd hm hm' a ha hra
theorem MemSat.unlend {w0 w1 w w2:World} {W W':Addr->Prop} {m m0:Mem} (h:MemSat w1 W' (lendM m) w) (h0:MemSat w0 W m0 w2) (hs:shp m0 m):MemSat w0 W m w:=by
 have inv:∀ c o L ch,lk m c=some (o,L,ch)->lk (lendM m) c=some (lendO o,L,lendC ch):=fun c o L ch hm=>by
  rw[lendM_lk,hm];rfl
 refine⟨fun c e he=>?_,fun c d e f hcd he hf a ha hra=>?_⟩
 ·obtain⟨o,L,ch⟩:=e
  obtain⟨ch0,g1,g2,g3⟩:=shp_get hs he
  have hc:=h.chunk c _ (inv c o L ch he)
  have hh:=(h0.chunk c _ g1).home
  obtain⟨h1,h2,h3,h4,h5⟩:=lendC_same ch
  refine⟨fun i hi=>?_,fun L' k xs hr=>?_,fun a ha hra=>?_,fun hw i hi=>?_,?_,fun i hi=>hh i (by rw[g2];exact hi)⟩
  ·have:=hc.cell i (by simp only[h1];exact hi);simpa only[h3]using this
  ·have:=hc.row L' k xs (by simp only[h4];exact hr)
   refine⟨this.1,this.2.1,this.2.2.1,fun hf=>?_⟩
   simp only at hf hr
   rw[<-g3]at hf hr
   cases ch<;>first | (exact hr.elim) | (simp only[lendC,Chunk.fr]at hf;cases hf)
  ·exact hc.self a (by rw[lend_wf];exact ha) (by simp only[lend_rows];exact hra)
  ·have:=hc.mineW (by simp only[lendO_wr];exact hw) i (by simp only[h2];exact hi);exact this
  ·have:=hc.fits;simp only[h5]at this;exact this
 ·obtain⟨o,L,ch⟩:=e
  obtain⟨o',L',ch'⟩:=f
  exact h.sep c d _ _ hcd (inv c o L ch he) (inv d o' L' ch' hf) a (by rw[lend_wf];exact ha) (by rw[lend_rf];exact hra)
theorem lentW_home {w0 w:World} {W:Addr->Prop} {m:Mem} (h:MemSat w0 W m w) {a:Addr} (ha:lentW (lendM m) a) (hb:a.block<w0.heap.size):W a:=by
 obtain⟨c,L,ch,hc,o,ho,rfl⟩:=ha
 rw[lendM_lk]at hc
 cases hm:lk m c with
 | none=>rw[hm]at hc;cases hc
 | some e=>
  obtain⟨own,L',ch'⟩:=e
  rw[hm]at hc
  simp only[Option.map_some,Option.some.injEq,Prod.mk.injEq]at hc
  obtain⟨h1,rfl,rfl⟩:=hc
  have hw:own.wr=true:=by rw[<-lendO_wr,h1];rfl
  have:=(h.chunk c _ hm).home o (by simp only[reg,hw,cond_true];rw[<-(lendC_same ch').2.1];exact ho)
  rcases this.got hw with g | g
  ·exact absurd hb (Nat.not_lt.2 g)
  ·exact g
section 
variable {P:Program} {sp:Sp} {spP:SpP} {sl:List Ent} {m:Mem} {b1 w0 w:World} {W:Addr->Prop} {a:Act}
structure ButL (l:Nat) (w w':World):Prop where
 size:w.heap.size<=w'.heap.size
 same:∀ (k:Nat) (o:Obj),k≠l->w.heap[k]?=some o->o.isCells=false->w'.heap[k]?=some o
theorem ButL.refl (l:Nat) (w:World):ButL l w w:=⟨Nat.le_refl _,fun _ _ _ h _=>h⟩
theorem ButL.trans {l:Nat} {u v w:World} (h:ButL l u v) (k:ButL l v w):ButL l u w:=⟨Nat.le_trans h.size k.size,fun i o hi h1 h2=>k.same i o hi (h.same i o hi h1 h2) h2⟩
theorem ButL.of {l:Nat} {u v:World} (h:KeepsOthers u v):ButL l u v:=⟨h.size,fun k o _ h1 h2=>h.same k o h1 h2⟩
theorem ButL.put (l:Nat) (w:World) (o:Obj):ButL l w (w.putObj l o):=⟨by simp,fun k o' hk h1 _=>(World.putObj_heap_other hk).trans h1⟩
theorem rf_ok {rm:Nat} {f:FuncId} {cs:List SV} {mi:Mem} {n:Nat} {xs:Nat->List SV} (hfn:FnOk P f) (hit:IterOk P f cs mi n xs) {g:Operand} {ps:Array Tmp} {assign body:Code} {Q:Exit->Act->World->Prop}
  (hs:Sat b1 w0 W sl m a w) {vs:List Value} (hg:a.eval g=.func (.func f) #[] vs.toArray) (hvs:Dens cs vs) {α:Type} {I:Nat->α->Mem} {R:Nat->α->Prop} {x0:α} (hR0:R 0 x0)
  (hm0:∀ w,MemSat w0 W m w->MemSat w0 W (I 0 x0) w) (hI:∀ k x,R k x->shp (I 0 x0) (I k x)/\∀ w,MemSat w0 W (I k x) w->MemSat w (fun _=>False) mi w) (hlen:∀ k,k<n->(xs k).length=ps.size)
  (hround:∀ (l k:Nat) (x:α) (us:List Value) (W1:World),k<n->R k x->Dens (xs k) us->MemSat W1 (lentW (lendM (I k x))) (lendM (I k x)) W1 ->
   assign.wpIn (rF (some l)) 0 P (Exit.then (fun a1 W2=>∃ m1,Kept W1 W1 (lentW (lendM (I k x))) W2/\MemSat W1 (lentW (lendM (I k x))) m1 W2/\∀ W3,MemSat W3 (lentW (lendM m1)) (lendM m1) W3 ->
    body.wpIn (rF (some l)) 0 P (fun e _ W4=>e=.normal/\∃ y,R (k+1) y/\Kept W3 W3 (lentW (lendM m1)) W4/\MemSat W3 (lentW (lendM m1)) (lendM (I (k+1) y)) W4) a1 W3) (fun _ _ _=>False))
    { tmps:=(ps.zip us.toArray).foldl (fun t (p,v)=>t.setIfInBounds p v) a.tmps,defers:=[] } W1)
  (hdone:∀ a' w' x,R n x->SatX (fun _=>True) w0 W sl (I n x) a' w'->Q .normal a' w'):(Code.rangeFunc g ps assign body).wpIn (rF none) rm P Q a w:=by
 refine wpIn_rangeFunc ?_
 intro fn _
 obtain⟨rec,hrec⟩:∃ rec:LoopState->Option Code->Loop,rec=fun st pe=>{ state:=st,pending:=pe,fn,tmps:=a.tmps,params:=ps,assign,body,defers:=w.heap.size }:=⟨_,rfl⟩
 obtain⟨W1,hW1⟩:∃ W1,(w.alloc (.deferred (some []))).alloc (.loop (rec .ready none))=W1:=⟨_,rfl⟩
 have hL1:W1.heap[w.heap.size+1]?=some (.loop (rec .ready none)):=by
  rw[<-hW1];have:=World.alloc_heap_new (w.alloc (.deferred (some []))) (.loop (rec .ready none));rwa [World.size_alloc]at this
 have hK1:W1.heap[w.heap.size]?=some (.deferred (some [])):=by
  rw[<-hW1];exact(RowKit.Below.heap_alloc _ _ _ (by simp)).trans (World.alloc_heap_new w _)
 have hb1:RowKit.Below w.heap.size w W1:=by
  rw[<-hW1];exact((RowKit.Below.refl _ w).alloc (Nat.le_refl _) _).alloc (by simp) _
 have hkw:Kept b1 w0 W W1:=hs.kept.below' hb1
 have hmem1:MemSat w0 W (I 0 x0) W1:=hm0 _ (hs.mem.below hb1)
 have hwl:w0.heap.size<=w.heap.size+1:=Nat.le_trans hs.kept.size (Nat.le_succ _)
 refine⟨w.heap.size+1,[{ target:=.collected w.heap.size,args:=#[] }],W1,{ target:=.fn (.func f) vs.toArray,args:=#[.func (.yield (w.heap.size+1)) #[] #[]] },W1,f,
  #[.func (.yield (w.heap.size+1)) #[] #[]]++vs.toArray,W1,?_,?_,fun _ _=>trivial,?_,fun h=>by simp[Fence.wide]at h,?_⟩
 ·rw[<-hW1,hrec];exact run_enterLoop_outer _ _ _ _ _
 ·simp only[resolve,hg]
  simp[go_sem]
 ·simp[invoke,go_sem,callFunc_run hfn]
 ·refine(callsIn_rF none).2 ((callsIn_rF (n:=0) none).1 ((hit (w.heap.size+1)
   (fun k V=>V.heap[w.heap.size+1]?=some (.loop (rec .ready none))/\ButL (w.heap.size+1) W1 V/\Kept w0 w0 W V/\∃ x,R k x/\MemSat w0 W (I k x) V) W1 vs hvs ?_ ?_ ?_ ⟨hL1,ButL.refl _ _,hkw.base,x0,hR0,hmem1⟩).mono ?_))
  ·rintro k V V' ⟨h1,h2,h3,x,h4,h5⟩ hb
   exact⟨(hb.block _ (Array.getElem?_eq_some_iff.1 h1).1).trans h1,h2.trans (.of (others_below hb)),(h3.below' hb).base,x,h4,h5.below hb⟩
  ·rintro k V ⟨_,_,_,x,h4,h5⟩
   exact(hI k x h4).2 V h5
  ·rintro k us V hk hus ⟨h1,h2,h3,x,h4,h5⟩
   have hy:=run_yield (P:=P) (args:=us.toArray) h1 (by rw[hrec];simp[hus.length,hlen k hk])
   rw[hrec]at hy
   refine⟨fn,_,assign,body,hy,roundIn_of_wpIn trivial ?_⟩
   refine wpIn_mono (hround (w.heap.size+1) k x us V hk h4 hus h5.lend) ?_
   intro e a1 V2 hq
   cases e with
   | normal=>
    obtain⟨m1,hk2,hm2,hbody⟩:=hq
    have hl2:V2.heap[w.heap.size+1]?=some (.loop (rec .ready none)):=hk2.oth0.same _ _ h1 rfl
    refine⟨_,run_beginRound hl2 (by rw[hrec]),?_⟩
    have hsh:Shut w0 V2 (V2.putObj (w.heap.size+1) (.loop { rec .ready none with state:=.busy })):=(Shut.refl _ _).put hwl hl2 rfl rfl
    have hl3:(V2.putObj (w.heap.size+1) (.loop { rec .ready none with state:=.busy })).heap[w.heap.size+1]?=some (.loop { rec .ready none with state:=.busy }):=World.putObj_heap_same (Array.getElem?_eq_some_iff.1 hl2).1
    have hm3:=hsh.mem hm2
    have hk2':Kept w0 w0 W V2:=h3.trans hk2 fun a ha hb=>lentW_home h5 ha hb
    have hk3:=hsh.kept hk2'
    refine wpIn_mono (hbody _ hm3.lend) ?_
    rintro e a4 V4 ⟨rfl,y,hy1,hk4,hm4⟩
    have hl4:=hk4.oth0.same _ _ hl3 rfl
    have hr:=run_endRound (P:=P) none hl4
    have hk5:Kept w0 w0 W V4:=hk3.trans hk4 fun a ha hb=>lentW_home h5 (lentW_home hm3 ha (Nat.lt_of_lt_of_le hb h3.size)) hb
    have hm5:MemSat w0 W (I (k+1) y) V4:=hm4.unlend hmem1 (hI (k+1) y hy1).1
    have hsh5:Shut w0 V4 (V4.putObj (w.heap.size+1) (.loop (rec .ready none))):=(Shut.refl _ _).put hwl hl4 rfl rfl
    refine⟨_,_,hr,rfl,?_⟩
    have e5:(Obj.loop { { rec .ready none with state:=.busy }with state:=if (none:Option Code).isNone then .ready else .done,pending:=none })=.loop (rec .ready none):=by rw[hrec];rfl
    rw[e5]
    refine⟨World.putObj_heap_same (Array.getElem?_eq_some_iff.1 hl4).1,?_,hsh5.kept hk5,y,hy1,hsh5.mem hm5⟩
    exact(((h2.trans (.of hk2.oth0)).trans (ButL.put _ _ _)).trans (.of hk4.oth0)).trans (ButL.put _ _ _)
   | exit id=>exact hq.elim
   | goto t=>exact hq.elim
   | ret=>exact hq.elim
   | panic chain=>exact hq.elim
   | outgrown=>exact hq.elim
  ·rintro e V ⟨⟨v,rfl⟩,h1,h2,h3,x,h4,h5⟩
   refine⟨none,_,by have:=run_endLoop (P:=P) h1 (by rw[hrec];simp);rw[hrec]at this;exact this,?_⟩
   refine hdone _ _ x h4 ?_
   have hsh:Shut w0 V (V.putObj (w.heap.size+1) (.loop (rec .exhausted none))):=(Shut.refl _ _).put hwl h1 rfl rfl
   rw[hrec]at hsh
   have hk:=hsh.kept h3
   refine⟨V.putObj (w.heap.size+1) (.loop ((fun st pe=>({ state:=st,pending:=pe,fn,tmps:=a.tmps,params:=ps,assign,body,defers:=w.heap.size }:Loop)) .exhausted none)),trivial,⟨⟨?_,?_⟩,hs.size,hs.slots,hsh.mem h5,?_⟩⟩
   ·refine List.nodup_cons.2 ⟨fun hin=>?_,hs.defers.nodup⟩
    obtain⟨D,he,_,hD⟩:=hs.defers.all _ hin
    have:=hs.kept.oth1.same D _ hD rfl
    have hlt:=(Array.getElem?_eq_some_iff.1 this).1
    simp only[Deferred.mk.injEq,Target.collected.injEq,and_true]at he
    omega
   ·intro d hd
    have key:∀ D:Nat,D<=w.heap.size->W1.heap[D]?=some (.deferred (some []))->(V.putObj (w.heap.size+1) (.loop ((fun st pe=>({ state:=st,pending:=pe,fn,tmps:=a.tmps,params:=ps,assign,body,defers:=w.heap.size }:Loop)) .exhausted none))).heap[D]?=some (.deferred (some [])):=fun D hD h=>
     (World.putObj_heap_other (by omega)).trans (h2.same D _ (by omega) h rfl)
    rcases List.mem_cons.1 hd with rfl | hd
    ·exact⟨w.heap.size,rfl,hs.kept.size,key _ (Nat.le_refl _) hK1⟩
    ·obtain⟨D,he,h0,hD⟩:=hs.defers.all _ hd
     have h6:=hkw.oth1.same D _ hD rfl
     have h7:=hs.kept.oth1.same D _ hD rfl
     have hlt:=(Array.getElem?_eq_some_iff.1 h7).1
     exact⟨D,he,h0,key D (by omega) h6⟩
   ·exact⟨hk.os,hk.tape,hk.output,hk.size,hk.cell,hk.frozen,hk.block,hk.oth0,KeepsOthers.refl _⟩
end
end Go.Proofs.YtaofjnkpkocgjaaGreat.Xf
end
section 
namespace Go.Proofs.YtaofjnkpkocgjaaGreat.Xf
inductive OT where
 | leaf (p:List Nat)
 | split (a b:Nat) (l r:OT)
 deriving Inhabited
def getO:List IRO->Nat->Option IRO
 | [],_=>none
 | o::_,0=>some o
 | _::l,n+1=>getO l n
def pickL (ops:List IRO):List Nat->List IRO
 | []=>[]
 | i::p=>match getO ops i with | some o=>o::pickL ops p | none=>pickL ops p
theorem getO_eq:∀ (l:List IRO) (n:Nat),getO l n=l[n]?
 | [],n=>by simp[getO]
 | a::l,0=>by simp[getO]
 | a::l,n+1=>by simp[getO,getO_eq l n]
def evT (sp:Sp) (spP:SpP) (ops:List IRO) (sl:List Ent) (m:Mem) (K:List Ent->Mem->Prop):OT->Prop
 | .leaf p=>evR sp spP (pickL ops p) sl m K
 | .split _ _ l r=>evT sp spP ops sl m K l/\evT sp spP ops sl m K r
inductive IR where
 | skip
 | reg (draw:Bool) (ops:List IRO) (kill:List Nat) (km:List Nat)
 | regT (t:OT) (ops:List IRO) (kill:List Nat) (km:List Nat)
 | seq (a b:IR)
 | cond (c:Opd) (a b:IR)
 | block (id:Nat) (b:IR)
 | loop (b:IR)
 | exit (id:Nat)
 | ret
 | dead
 | rf (g:Opd) (ps:List Nat) (as b:IR) (ks km:List Nat)
 deriving Inhabited
def killE {α:Type} (sl:List (Option α)):List Nat->List (Option α)
 | []=>sl
 | n::l=>killE (st sl n none) l
theorem killE_lk {α:Type}:∀ (l:List Nat) (sl:List (Option α)) (n:Nat) (e:α),lk (killE sl l) n=some e->lk sl n=some e
 | [],sl,n,e,h=>h
 | k::l,sl,n,e,h=>by
  have:=killE_lk l _ n e h
  rw[lk_st]at this
  split at this
  ·cases this
  ·exact this
theorem killE_length {α:Type}:∀ (l:List Nat) (sl:List (Option α)),(killE sl l).length=sl.length
 | [],sl=>rfl
 | k::l,sl=>by rw[killE,killE_length l,st_length]
theorem Sat.kill {b1 w0 w:World} {W:Addr->Prop} {sl:List Ent} {m:Mem} {a:Act} (h:Sat b1 w0 W sl m a w) (l k:List Nat):Sat b1 w0 W (killE sl l) (killE m k) a w:=
 ⟨h.defers,by rw[killE_length];exact h.size,fun n c v hl=>h.slots n c v (killE_lk l _ _ _ hl),h.mem.sub fun c e he=>killE_lk k _ _ _ he,h.kept⟩
def Sub (sl:List Ent) (m:Mem) (sl':List Ent) (m':Mem):Prop:=∀ b1 w0 W a w,Sat b1 w0 W sl m a w->Sat b1 w0 W sl' m' a w
def IR.noRf:IR->Bool
 | .seq a b=>a.noRf&&b.noRf
 | .cond _ a b=>a.noRf&&b.noRf
 | .block _ b=>b.noRf
 | .loop b=>b.noRf
 | .rf ..=>false
 | _=>true
def putsE (sl:List Ent):List Nat->List SV->List Ent
 | p::ps,v::vs=>putsE (st sl p (some (true,v))) ps vs
 | _,_=>sl
abbrev KT:=List Ent->Mem->Prop
def extAdd (id:Nat) (N:KT) (E:Nat->KT):Nat->KT:=fun i=>if i=id then N else E i
def ev (sp:Sp) (spP:SpP):IR->KT->(Nat->KT)->KT->List Ent->Mem->Prop
 | .skip,N,_,_,sl,m=>N sl m
 | .reg _ ops ks km,N,_,_,sl,m=>evR sp spP ops sl m fun sl m=>N (killE sl ks) (killE m km)
 | .regT t ops ks km,N,_,_,sl,m=>evT sp spP ops sl m (fun sl m=>N (killE sl ks) (killE m km)) t
 | .seq a b,N,E,T,sl,m=>ev sp spP a (fun sl m=>ev sp spP b N E T sl m) E T sl m
 | .cond c a b,N,E,T,sl,m=>match en sl c with
  | some (cc,.bool t)=>cc=true/\(t=true->ev sp spP a N E T sl m)/\(t=false->ev sp spP b N E T sl m)
  | _=>False
 | .block id b,N,E,T,sl,m=>ev sp spP b N (extAdd id N E) T sl m
 | .loop b,_,E,T,sl,m=>∃ (α:Type) (I:α->List Ent×Mem) (R:α->Prop) (μ:α->Nat),(∃ x,R x/\Sub sl m (I x).1 (I x).2) /\
   ∀ x,R x->ev sp spP b (fun sl m=>∃ y,R y/\μ y<μ x/\Sub sl m (I y).1 (I y).2) E T (I x).1 (I x).2
 | .exit id,_,E,_,sl,m=>E id sl m
 | .ret,_,_,T,sl,m=>T sl m
 | .dead,_,_,_,_,_=>False
 | .rf g ps as b ks km,N,_,_,sl,m=>as.noRf=true/\b.noRf=true/\∃ cs f I0,en sl g=some (true,.fn f cs)/\sp.it f=some I0/\∃ i:I0.A,I0.pre i/\(∀ vs,Dens cs vs->Dens (I0.cs i) vs)/\(∀ k,k<I0.n i->(I0.xs i k).length=ps.length) /\
   ∃ (α:Type) (I:Nat->α->Mem) (R:Nat->α->Prop) (x0:α),R 0 x0/\(∀ w0 W w,MemSat w0 W m w->MemSat w0 W (I 0 x0) w)/\(∀ k x,R k x->shp (I 0 x0) (I k x)/\∀ w0 W w,MemSat w0 W (I k x) w->MemSat w (fun _=>False) (I0.mem i) w) /\
    (∀ k x,k<I0.n i->R k x->ev sp spP as (fun sl1 m1=>ev sp spP b (fun _ m2=>∃ y,R (k+1) y/\∀ w0 W w,MemSat w0 W m2 w->MemSat w0 W (lendM (I (k+1) y)) w) (fun _ _ _=>False) (fun _ _=>False) sl1 (lendM m1)) (fun _ _ _=>False) (fun _ _=>False) (putsE sl ps (I0.xs i k)) (lendM (I k x))) /\
    ∀ x,R (I0.n i) x->N (killE sl ks) (killE (I (I0.n i) x) km)
def compC (tab:Tab) (isP:FuncId->Bool) (chk:Option OT->Array Oper->List IRO->Bool):IR->Code->Option IR
 | .skip,.skip=>some .skip
 | .reg d gs ks km,.region _ ops draw=>match compR tab isP ops gs ops.toList with
  | some ios=>bif draw&&!(chk none ops ios)then none else some (.reg draw ios ks km)
  | none=>none
 | .regT t gs ks km,.region _ ops draw=>match compR tab isP ops gs ops.toList with
  | some ios=>if (draw&&chk (some t) ops ios)=true then some (.regT t ios ks km)else none
  | none=>none
 | .seq x y,.seq a b=>match compC tab isP chk x a,compC tab isP chk y b with | some x,some y=>some (.seq x y) | _,_=>none
 | .cond _ x y,.cond c a b=>match opd c,compC tab isP chk x a,compC tab isP chk y b with | some c,some x,some y=>some (.cond c x y) | _,_,_=>none
 | .block _ x,.block id a=>match compC tab isP chk x a with | some x=>some (.block id x) | none=>none
 | .loop x,.loop a=>match compC tab isP chk x a with | some x=>some (.loop x) | none=>none
 | .exit _,.exit id=>some (.exit id)
 | .ret,.ret=>some .ret
 | .dead,_=>some .dead
 | .rf _ _ x y ks km,.rangeFunc g ps as b=>match opd g,compC tab isP chk x as,compC tab isP chk y b with | some g,some x,some y=>some (.rf g ps.toList x y ks km) | _,_,_=>none
 | _,_=>none
section 
variable {P:Program} {sp:Sp} {spP:SpP} {b1 w0:World} {W:Addr->Prop} {tab:Tab} {isP:FuncId->Bool} {chk:Option OT->Array Oper->List IRO->Bool}
def DrawOk (P:Program) (tab:Tab) (isP:FuncId->Bool) (sp:Sp) (spP:SpP) (chk:Option OT->Array Oper->List IRO->Bool):Prop:=
 (∀ (r:Option Nat) (rm:Nat) (ops:Array Oper) (ios gs:List IRO),compR tab isP ops gs ops.toList=some ios->chk none ops ios=true->∀ (b1 w0:World) (W:Addr->Prop) (id:Nat) (sl:List Ent) (m:Mem) (a:Act) (w:World) (K':KT) (Q:Exit->Act->World->Prop),
  (∀ sl' m' a' w',K' sl' m'->Sat b1 w0 W sl' m' a' w'->Q .normal a' w')->Sat b1 w0 W sl m a w->evR sp spP ios sl m K'->(Code.region id ops true).wpIn (rF r) rm P Q a w) /\
 (∀ (t:OT) (r:Option Nat) (rm:Nat) (ops:Array Oper) (ios gs:List IRO),compR tab isP ops gs ops.toList=some ios->chk (some t) ops ios=true->∀ (b1 w0:World) (W:Addr->Prop) (id:Nat) (sl:List Ent) (m:Mem) (a:Act) (w:World) (K':KT) (Q:Exit->Act->World->Prop),
  (∀ sl' m' a' w',K' sl' m'->Sat b1 w0 W sl' m' a' w'->Q .normal a' w')->Sat b1 w0 W sl m a w->evT sp spP ios sl m K' t->(Code.region id ops true).wpIn (rF r) rm P Q a w)
structure Hyp (P:Program) (tab:Tab) (isP:FuncId->Bool) (sp:Sp) (spP:SpP) (chk:Option OT->Array Oper->List IRO->Bool):Prop where
 hT:∀ t tt,tab t=some tt->TtOk P t tt
 hP:SpPOk P spP
 hS:SpOk P sp
 hD:DrawOk P tab isP sp spP chk
theorem SatX.kill {B:World->Prop} {w0 w:World} {W:Addr->Prop} {sl:List Ent} {m:Mem} {a:Act} (h:SatX B w0 W sl m a w) (l k:List Nat):SatX B w0 W (killE sl l) (killE m k) a w:=
 let ⟨b,hb,h⟩:=h;⟨b,hb,h.kill l k⟩
structure Ends (B:World->Prop) (w0:World) (W:Addr->Prop) (Q:Exit->Act->World->Prop) (E:Nat->KT) (T:KT):Prop where
 ext:∀ id sl m a w,E id sl m->SatX B w0 W sl m a w->Q (.exit id) a w
 ret:∀ sl m a w,T sl m->SatX B w0 W sl m a w->Q .ret a w
theorem comp_skip {gd:IR} {code:Code} (h:compC tab isP chk gd code=some .skip):code=.skip:=by
 cases gd<;>cases code<;>simp only[compC]at h<;>first | rfl | (cases h;done) | (split at h<;>cases h;done) | skip
 ·rename_i id ops draw
  split at h
  ·rename_i ios _
   cases hd:(draw&&!(chk none ops ios))<;>simp[hd]at h
  ·cases h
 ·(repeat' split at h)<;>cases h
theorem comp_reg {gd:IR} {code:Code} {d:Bool} {ios:List IRO} {ks km:List Nat} (h:compC tab isP chk gd code=some (.reg d ios ks km)) :
  ∃ id ops gs,code=.region id ops d/\compR tab isP ops gs ops.toList=some ios/\(d=true->chk none ops ios=true):=by
 cases gd<;>cases code<;>simp only[compC]at h<;>first | (cases h;done) | (split at h<;>cases h;done) | skip
 ·rename_i id ops draw
  split at h
  ·rename_i ios' hh
   cases hd:(draw&&!(chk none ops ios'))with
   | true=>simp[hd]at h
   | false=>
    simp only[hd,cond_false]at h
    cases h
    exact⟨_,_,_,rfl,hh,by simpa using hd⟩
  ·cases h
 ·(repeat' split at h)<;>cases h
theorem comp_regT {gd:IR} {code:Code} {t:OT} {ios:List IRO} {ks km:List Nat} (h:compC tab isP chk gd code=some (.regT t ios ks km)) :
  ∃ id ops gs,code=.region id ops true/\compR tab isP ops gs ops.toList=some ios/\chk (some t) ops ios=true:=by
 cases gd<;>cases code<;>simp only[compC]at h<;>first | (cases h;done) | skip
 ·rename_i id ops draw
  split at h
  ·rename_i ios' hh
   cases hd:(draw&&!(chk none ops ios'))<;>simp[hd]at h
  ·cases h
 ·rename_i id ops draw
  split at h
  ·rename_i ios' hh
   split at h
   ·rename_i hd
    cases h
    simp only[Bool.and_eq_true]at hd
    obtain⟨rfl,hd⟩:=hd
    exact⟨_,_,_,rfl,hh,hd⟩
   ·cases h
  ·cases h
 all_goals (split at h<;>cases h)
theorem comp_seq {gd:IR} {code:Code} {x y:IR} (h:compC tab isP chk gd code=some (.seq x y)) :
  ∃ a b ga gb,code=.seq a b/\compC tab isP chk ga a=some x/\compC tab isP chk gb b=some y:=by
 cases gd<;>cases code<;>simp only[compC]at h<;>first | (cases h;done) | skip
 ·rename_i id ops draw
  split at h
  ·rename_i ios' hh
   cases hd:(draw&&!(chk none ops ios'))<;>simp[hd]at h
  ·cases h
 ·(repeat' split at h)<;>cases h
 all_goals first | (split at h<;>cases h;done) | skip
 split at h
 ·rename_i h1 h2;cases h;exact⟨_,_,_,_,rfl,h1,h2⟩
 ·cases h
theorem comp_cond {gd:IR} {code:Code} {c:Opd} {x y:IR} (h:compC tab isP chk gd code=some (.cond c x y)) :
  ∃ C a b ga gb,code=.cond C a b/\opd C=some c/\compC tab isP chk ga a=some x/\compC tab isP chk gb b=some y:=by
 cases gd<;>cases code<;>simp only[compC]at h<;>first | (cases h;done) | skip
 ·rename_i id ops draw
  split at h
  ·rename_i ios' hh
   cases hd:(draw&&!(chk none ops ios'))<;>simp[hd]at h
  ·cases h
 ·(repeat' split at h)<;>cases h
 all_goals first | (split at h<;>cases h;done) | skip
 split at h
 ·rename_i h0 h1 h2;cases h;exact⟨_,_,_,_,_,rfl,h0,h1,h2⟩
 ·cases h
theorem comp_block {gd:IR} {code:Code} {id:Nat} {x:IR} (h:compC tab isP chk gd code=some (.block id x)):∃ a ga,code=.block id a/\compC tab isP chk ga a=some x:=by
 cases gd<;>cases code<;>simp only[compC]at h<;>first | (cases h;done) | skip
 ·rename_i id ops draw
  split at h
  ·rename_i ios' hh
   cases hd:(draw&&!(chk none ops ios'))<;>simp[hd]at h
  ·cases h
 ·(repeat' split at h)<;>cases h
 all_goals first | (split at h<;>cases h;done) | skip
 split at h
 ·rename_i h1;cases h;exact⟨_,_,rfl,h1⟩
 ·cases h
theorem comp_loop {gd:IR} {code:Code} {x:IR} (h:compC tab isP chk gd code=some (.loop x)):∃ a ga,code=.loop a/\compC tab isP chk ga a=some x:=by
 cases gd<;>cases code<;>simp only[compC]at h<;>first | (cases h;done) | skip
 ·rename_i id ops draw
  split at h
  ·rename_i ios' hh
   cases hd:(draw&&!(chk none ops ios'))<;>simp[hd]at h
  ·cases h
 ·(repeat' split at h)<;>cases h
 all_goals first | (split at h<;>cases h;done) | skip
 split at h
 ·rename_i h1;cases h;exact⟨_,_,rfl,h1⟩
 ·cases h
theorem comp_exit {gd:IR} {code:Code} {id:Nat} (h:compC tab isP chk gd code=some (.exit id)):code=.exit id:=by
 cases gd<;>cases code<;>simp only[compC]at h<;>first | (cases h;rfl) | (cases h;done) | (split at h<;>cases h;done) | skip
 ·rename_i id ops draw
  split at h
  ·rename_i ios _
   cases hd:(draw&&!(chk none ops ios))<;>simp[hd]at h
  ·cases h
 ·(repeat' split at h)<;>cases h
theorem comp_ret {gd:IR} {code:Code} (h:compC tab isP chk gd code=some .ret):code=.ret:=by
 cases gd<;>cases code<;>simp only[compC]at h<;>first | rfl | (cases h;done) | (split at h<;>cases h;done) | skip
 ·rename_i id ops draw
  split at h
  ·rename_i ios _
   cases hd:(draw&&!(chk none ops ios))<;>simp[hd]at h
  ·cases h
 ·(repeat' split at h)<;>cases h
theorem comp_rf {gd:IR} {code:Code} {g:Opd} {ps:List Nat} {x y:IR} {ks km:List Nat} (h:compC tab isP chk gd code=some (.rf g ps x y ks km)) :
  ∃ G p a b ga gb,code=.rangeFunc G p a b/\p.toList=ps/\opd G=some g/\compC tab isP chk ga a=some x/\compC tab isP chk gb b=some y:=by
 cases gd<;>cases code<;>simp only[compC]at h<;>first | (cases h;done) | skip
 ·rename_i id ops draw
  split at h
  ·rename_i ios' hh
   cases hd:(draw&&!(chk none ops ios'))<;>simp[hd]at h
  ·cases h
 ·(repeat' split at h)<;>cases h
 all_goals first | (split at h<;>cases h;done) | skip
 split at h
 ·rename_i h0 h1 h2;cases h;exact⟨_,_,_,_,_,_,rfl,rfl,h0,h1,h2⟩
 ·cases h
theorem puts_ok:∀ {ps:List Nat} {vs:List SV} {us:List Value} {sl:List Ent} {t:Array Value},Dens vs us->vs.length=ps.length->t.size=sl.length->(∀ n c v,lk sl n=some (c,v)->if c=true then Den v (t.getD n undef)else t.getD n undef=undef) ->
  ((ps.zip us).foldl (fun t (p,v)=>t.setIfInBounds p v) t).size=(putsE sl ps vs).length /\
  ∀ n c v,lk (putsE sl ps vs) n=some (c,v)->if c=true then Den v (((ps.zip us).foldl (fun t (p,v)=>t.setIfInBounds p v) t).getD n undef)else ((ps.zip us).foldl (fun t (p,v)=>t.setIfInBounds p v) t).getD n undef=undef
 | [],vs,us,sl,t,hd,hl,hs,h=>by
  cases vs with
  | nil=>simpa [putsE,hs]using h
  | cons _ _=>simp at hl
 | p::ps,[],us,sl,t,hd,hl,hs,h=>by simp at hl
 | p::ps,v::vs,us,sl,t,hd,hl,hs,h=>by
  simp only[Dens]at hd
  obtain⟨u,us',rfl,hu,hd⟩:=hd
  simp only[List.zip_cons_cons,List.foldl_cons,putsE]
  refine puts_ok hd (by simpa using hl) (by simp[st_length,hs]) fun n c x hx=>?_
  rw[lk_st]at hx
  by_cases e:p=n/\p<sl.length
  ·rw[if_pos e]at hx
   cases hx
   obtain⟨rfl,hlt⟩:=e
   have:(t.setIfInBounds p u).getD p undef=u:=by
    simp[Array.getD_eq_getD_getElem?,Array.getElem?_setIfInBounds,hs,hlt]
   rw[this];simpa using hu
  ·rw[if_neg e]at hx
   have:(t.setIfInBounds p u).getD n undef=t.getD n undef:=by
    simp only[Array.getD_eq_getD_getElem?,Array.getElem?_setIfInBounds]
    by_cases e1:p=n
    ·subst e1
     rw[if_pos rfl,if_neg (fun q=>e ⟨rfl,by omega⟩)]
     rw[Array.getElem?_eq_none (by omega)]
    ·rw[if_neg e1]
   rw[this];exact h n c x hx
theorem ev_ok (H:Hyp P tab isP sp spP chk):∀ (ir:IR) (r:Option Nat) (rm:Nat) (B:World->Prop) (w0:World) (W:Addr->Prop),((r=none/\∀ b,B b)∨ir.noRf=true)->∀ (code:Code) (gd:IR),compC tab isP chk gd code=some ir->∀ (N:KT) (E:Nat->KT) (T:KT) (Q:Exit->Act->World->Prop),
  (∀ sl m a w,N sl m->SatX B w0 W sl m a w->Q .normal a w)->Ends B w0 W Q E T->∀ (sl:List Ent) (m:Mem) (a:Act) (w:World),SatX B w0 W sl m a w->ev sp spP ir N E T sl m->code.wpIn (rF r) rm P Q a w:=by
 intro ir
 induction ir with
 | skip=>
  intro r rm B w0 W hrf code gd hc N E T Q hN hE sl m a w hs h
  obtain rfl:=comp_skip hc
  exact wpIn_skip (hN _ _ _ _ h hs)
 | reg d ios ks km=>
  intro r rm B w0 W hrf code gd hc N E T Q hN hE sl m a w hs h
  obtain⟨id,ops,gs,rfl,hcomp,hd⟩:=comp_reg hc
  simp only[ev]at h
  have hQ:∀ sl' m' a' w',(fun sl m=>N (killE sl ks) (killE m km)) sl' m'->SatX B w0 W sl' m' a' w'->Q .normal a' w':=fun sl' m' a' w' h1 h2=>hN _ _ _ _ h1 (h2.kill ks km)
  cases d with
  | true=>
   obtain⟨b1,hb1,hs⟩:=hs
   exact H.hD.1 r rm ops _ _ hcomp (hd rfl) b1 w0 W id sl m a w _ Q (fun sl' m' a' w' h1 h2=>hQ sl' m' a' w' h1 ⟨b1,hb1,h2⟩) hs h
  | false=>
   have hg:=compR_get hcomp
   obtain⟨b1,hb1,hs⟩:=hs
   have:=evR_ok (r:=r) (rm:=rm) (P:=P) (Q:=Q) H.hT H.hP H.hS (fun sl' m' a' w' h1 h2=>hQ sl' m' a' w' h1 ⟨b1,hb1,h2⟩) _ 0 sl m a w (fun j io hj=>by
    obtain⟨o,g,h1,h2⟩:=hg.2 j io hj
    exact⟨o,g,by simpa using h1,h2⟩) hs h
   refine wpIn_region ?_
   rw[hg.1,<-List.range_eq_range']at this
   simpa using this
 | regT t ios ks km=>
  intro r rm B w0 W hrf code gd hc N E T Q hN hE sl m a w hs h
  obtain⟨id,ops,gs,rfl,hcomp,hd⟩:=comp_regT hc
  simp only[ev]at h
  obtain⟨b1,hb1,hs⟩:=hs
  exact H.hD.2 t r rm ops _ _ hcomp hd b1 w0 W id sl m a w _ Q (fun sl' m' a' w' h1 h2=>hN _ _ _ _ h1 (SatX.kill ⟨b1,hb1,h2⟩ ks km)) hs h
 | seq x y ihx ihy=>
  intro r rm B w0 W hrf code gd hc N E T Q hN hE sl m a w hs h
  obtain⟨c1,c2,g1,g2,rfl,h1,h2⟩:=comp_seq hc
  simp only[ev]at h
  exact wpIn_seq (ihx r rm B w0 W (hrf.imp (fun h=>h) fun h=>(Bool.and_eq_true_iff.1 h).1) _ _ h1 (fun sl m=>ev sp spP y N E T sl m) E T (Exit.then (c2.wpIn (rF r) rm P Q) Q) (fun sl m a w hn hs=>ihy r rm B w0 W (hrf.imp (fun h=>h) fun h=>(Bool.and_eq_true_iff.1 h).2) _ _ h2 N E T Q hN hE sl m a w hs hn)
   ⟨fun id sl m a w he hs=>hE.ext id sl m a w he hs,fun sl m a w he hs=>hE.ret sl m a w he hs⟩ sl m a w hs h)
 | cond c x y ihx ihy=>
  intro r rm B w0 W hrf code gd hc N E T Q hN hE sl m a w hs h
  obtain⟨C,c1,c2,g1,g2,rfl,hcc,h1,h2⟩:=comp_cond hc
  simp only[ev]at h
  split at h
  case h_2=>exact h.elim
  rename_i cc t hen
  obtain⟨k1,k2,k3⟩:=h
  obtain⟨b1,hb1,hs⟩:=hs
  have hd:=opd_den hcc hs.ok hen k1
  simp only[Den]at hd
  exact wpIn_cond_split hd (fun ht=>ihx r rm B w0 W (hrf.imp (fun h=>h) fun h=>(Bool.and_eq_true_iff.1 h).1) _ _ h1 N E T Q hN hE sl m a w ⟨b1,hb1,hs⟩ (k2 ht)) (fun ht=>ihy r rm B w0 W (hrf.imp (fun h=>h) fun h=>(Bool.and_eq_true_iff.1 h).2) _ _ h2 N E T Q hN hE sl m a w ⟨b1,hb1,hs⟩ (k3 ht))
 | block id x ih=>
  intro r rm B w0 W hrf code gd hc N E T Q hN hE sl m a w hs h
  obtain⟨c1,g1,rfl,h1⟩:=comp_block hc
  simp only[ev]at h
  refine wpIn_block (ih r rm B w0 W (hrf.imp (fun h=>h) fun h=>h) _ _ h1 N _ T (Exit.inBlock id Q) (fun sl m a w hn hs=>hN sl m a w hn hs) ⟨fun i sl m a w he hs=>?_,fun sl m a w he hs=>hE.ret sl m a w he hs⟩ sl m a w hs h)
  unfold extAdd at he
  simp only[Exit.inBlock]
  split at he
  ·rename_i e;rw[if_pos e];exact hN sl m a w he hs
  ·rename_i e;rw[if_neg e];exact hE.ext i sl m a w he hs
 | loop x ih=>
  intro r rm B w0 W hrf code gd hc N E T Q hN hE sl m a w hs h
  obtain⟨c1,g1,rfl,h1⟩:=comp_loop hc
  simp only[ev]at h
  obtain⟨α,I,R,μ,⟨x0,hR0,hsub⟩,hround⟩:=h
  have key:∀ (n:Nat) (y:α),μ y<n->R y->∀ a w,SatX B w0 W (I y).1 (I y).2 a w->Code.roundsIn (rF r) rm P c1 Q n a w:=by
   intro n
   induction n with
   | zero=>intro y hy;omega
   | succ n ihn=>
    intro y hy hR a w hs
    rw[roundsIn_succ]
    exact ih r rm B w0 W (hrf.imp (fun h=>h) fun h=>h) _ _ h1 (fun sl m=>∃ z,R z/\μ z<μ y/\Sub sl m (I z).1 (I z).2) E T
     (Exit.then (Code.roundsIn (rF r) rm P c1 Q n) Q)
     (fun sl m a w hn hs=>by
      obtain⟨z,hz,hlt,hsb⟩:=hn
      obtain⟨b1,hb1,hs⟩:=hs
      exact ihn z (by omega) hz a w ⟨b1,hb1,hsb _ _ _ _ _ hs⟩)
     ⟨fun id sl m a w he hs=>hE.ext id sl m a w he hs,fun sl m a w he hs=>hE.ret sl m a w he hs⟩ _ _ a w hs (hround y hR)
  obtain⟨b1,hb1,hs⟩:=hs
  exact wpIn_loop_rounds (μ x0+1) (key _ x0 (by omega) hR0 a w ⟨b1,hb1,hsub _ _ _ _ _ hs⟩)
 | exit id=>
  intro r rm B w0 W hrf code gd hc N E T Q hN hE sl m a w hs h
  obtain rfl:=comp_exit hc
  exact wpIn_exit (hE.ext _ _ _ _ _ h hs)
 | ret=>
  intro r rm B w0 W hrf code gd hc N E T Q hN hE sl m a w hs h
  obtain rfl:=comp_ret hc
  exact wpIn_ret (hE.ret _ _ _ _ h hs)
 | dead=>
  intro r rm B w0 W hrf code gd hc N E T Q hN hE sl m a w hs h
  exact h.elim
 | rf g ps x y ks km ihx ihy=>
  intro r rm B w0 W hrf code gd hc N E T Q hN hE sl m a w hs h
  obtain⟨G,p,c1,c2,g1,g2,rfl,hp,hG,h1,h2⟩:=comp_rf hc
  obtain⟨hr,hB⟩:=hrf.resolve_right (by simp[IR.noRf])
  subst hr
  simp only[ev]at h
  obtain⟨nr1,nr2,cs,f,I0,hen,hit,i,hpre,hcs,hlen,α,I,R,x0,hR0,hm0,hI,hround,hdone⟩:=h
  obtain⟨b1,hb1,hs⟩:=hs
  have hd:=opd_den hG hs.ok hen rfl
  simp only[Den]at hd
  obtain⟨vs,hg,hvs⟩:=hd
  have hito:=H.hS.iter f I0 hit
  refine rf_ok hito.1 (hito.2 i hpre) hs hg (hcs vs hvs) hR0 (fun w h=>hm0 w0 W w h) (fun k x hx=>⟨(hI k x hx).1,fun w h=>(hI k x hx).2 w0 W w h⟩) (fun k hk=>by rw[hlen k hk,<-hp];simp) ?_
   (fun a' w' x hx hs'=>by
    obtain⟨b,_,hs'⟩:=hs'
    exact hN _ _ _ _ (hdone x hx) ⟨b,hB b,hs'.kill ks km⟩)
  intro l k x us W1 hk hx hus hm1
  have hsl:=puts_ok (ps:=ps) (sl:=sl) (t:=a.tmps) hus (hlen k hk) hs.size hs.slots
  have hz:(p.zip us.toArray).foldl (fun t (p,v)=>t.setIfInBounds p v) a.tmps=(ps.zip us).foldl (fun t (p,v)=>t.setIfInBounds p v) a.tmps:=by
   rw[<-hp]
   rw[<-Array.foldl_toList,Array.toList_zip]
  rw[hz]
  refine ihx (some l) 0 (fun b=>b=W1) W1 (lentW (lendM (I k x))) (.inr nr1) _ _ h1 (fun sl1 m1=>ev sp spP y (fun _ m2=>∃ y,R (k+1) y/\∀ w0 W w,MemSat w0 W m2 w->MemSat w0 W (lendM (I (k+1) y)) w) (fun _ _ _=>False) (fun _ _=>False) sl1 (lendM m1)) (fun _ _ _=>False) (fun _ _=>False) _ ?_
   ⟨fun _ _ _ _ _ h _=>h.elim,fun _ _ _ _ h _=>h.elim⟩ _ _ _ _ ⟨W1,rfl,Marks.nil _ _,hsl.1,hsl.2,hm1,Kept.refl _ _⟩ (hround k x hk hx)
  rintro sl1 m1 a1 W2 hev ⟨b2,rfl,hs2⟩
  refine⟨m1,hs2.kept.base,hs2.mem,fun W3 hm3=>?_⟩
  refine ihy (some l) 0 (fun _=>True) W3 _ (.inr nr2) _ _ h2 _ (fun _ _ _=>False) (fun _ _=>False) _ ?_ ⟨fun _ _ _ _ _ h _=>h.elim,fun _ _ _ _ h _=>h.elim⟩ sl1 (lendM m1) a1 W3 ⟨W3,trivial,?_,hs2.size,hs2.slots,hm3,Kept.refl _ _⟩ hev
  ·rintro sl4 m4 a4 W4 ⟨y',hy,hm⟩ ⟨b4,_,hs4⟩
   exact⟨rfl,y',hy,hs4.kept.base,hm _ _ _ hs4.mem⟩
  ·refine⟨hs2.defers.nodup,fun d hd=>?_⟩
   obtain⟨D,_,h0,hD⟩:=hs2.defers.all d hd
   have:=(Array.getElem?_eq_some_iff.1 hD).1
   omega
end
end Go.Proofs.YtaofjnkpkocgjaaGreat.Xf
end
section 
namespace Go.Proofs.YtaofjnkpkocgjaaGreat.Xf
structure Foot where
 rS:Bool
 wS:Bool
 rA:Bool
 wA:Bool
 mks:Bool
 all:Bool
def footOf:IROp->Foot
 | .ld r _ _ nv _=>⟨!r,false,r,false,!(nv==0),false⟩
 | .sto r _ _ _ _=>⟨!r,!r,r,r,false,false⟩
 | .app _ es _ _ _=>⟨!(decide (es=1)),false,true,true,true,false⟩
 | .brecs ..=>⟨false,false,true,true,true,false⟩
 | .copy .. | .clear ..=>⟨false,false,true,true,false,false⟩
 | .box .. | .alloc .. | .allocI .. | .bslice .. | .mks .. | .mksR ..=>⟨false,false,false,false,true,false⟩
 | .str _=>⟨true,true,true,true,true,true⟩
 | .call n _ _ _ | .callv n _ _ _=>match n with | none=>⟨true,true,true,true,true,true⟩ | some _=>⟨true,false,true,false,true,false⟩
 | _=>⟨false,false,false,false,false,false⟩
def Foot.pure (f:Foot):Bool:=!(f.rS||f.wS||f.rA||f.wA||f.mks||f.all)
def Foot.looks (f:Foot):Bool:=f.rS||f.wS||f.rA||f.wA
def opdS:Opd->List Nat
 | .t n=>[n]
 | .k _=>[]
def opdsS:List Opd->List Nat
 | []=>[]
 | a::as=>opdS a++opdsS as
def opdpsS:List (Nat×Nat×Opd)->List Nat
 | []=>[]
 | (_,_,a)::as=>opdS a++opdpsS as
def optS:Option Opd->List Nat
 | none=>[]
 | some a=>opdS a
def slotsOf:IROp->List Nat
 | .mov a | .box _ a | .nilc a | .neg _ a | .not a | .cvt _ _ a | .slcA a _ _ | .fld a _ | .fldv a _ _ | .ext a _ | .len a | .clear _ a | .ld _ _ _ _ a | .str a | .tabI _ a=>opdS a
 | .pick c a b=>opdS c++(opdS a++opdS b)
 | .alloc _ _ | .allocI _ _ _ | .lenK _=>[]
 | .build _ ps=>opdpsS ps
 | .bslice _ ps | .brecs _ _ _ ps=>opdsS ps
 | .sto _ _ _ a b | .bin _ _ a b | .binB _ a b | .binS _ a b | .binA _ _ a b | .binN _ a b | .binT _ a b | .copy a b | .mks _ _ _ a b | .mksR _ _ _ a b | .idxS a b _ | .idxP a b _ _ | .idxV a b _ | .app _ _ _ a b | .mn a b | .mx a b=>opdS a++opdS b
 | .mkf _ cs=>opdsS cs
 | .slc a _ lo hi=>opdS a++(optS lo++optS hi)
 | .mn3 a b c | .mx3 a b c=>opdS a++(opdS b++opdS c)
 | .callp _ as | .call _ _ _ as=>opdsS as
 | .callv _ _ g as=>opdS g++opdsS as
def IRO.looks (o:IRO):List Nat:=(match o.guard with | none=>[] | some (g,_)=>[g])++slotsOf o.op
def idsIn (l:Lim) (k:Nat):Nat->Bool
 | 0=>true
 | n+1=>refuses l (k+n)&&idsIn l k n
def allRef (l:Lim):List Nat->Bool
 | []=>true
 | c::cs=>refuses l c&&allRef l cs
def apartL (x y:Lim):Bool:=(match x.on with | []=>false | c::cs=>allRef y (c::cs))||(match y.on with | []=>false | c::cs=>allRef x (c::cs))
theorem allRef_ok {l:Lim}:∀ {cs:List Nat},allRef l cs=true->∀ c,noHas cs c=true->refuses l c=true
 | [],_,c,h=>by simp[noHas]at h
 | d::cs,h,c,hc=>by
  simp only[allRef,Bool.and_eq_true]at h
  simp only[noHas,Bool.or_eq_true,beq_iff_eq]at hc
  rcases hc with rfl | hc
  ·exact h.1
  ·exact allRef_ok h.2 c hc
theorem apartL_ok {x y:Lim} (h:apartL x y=true) (c:Nat) (hx:refuses x c=false) (hy:refuses y c=false):False:=by
 have on:∀ {l:Lim} {d:Nat} {ds:List Nat},l.on=d::ds->refuses l c=false->noHas (d::ds) c=true:=by
  intro l d ds hl hr
  unfold refuses at hr
  rw[hl]at hr
  simp only[Bool.or_eq_false_iff]at hr
  simpa using hr.2
 unfold apartL at h
 simp only[Bool.or_eq_true]at h
 rcases h with h | h
 ·split at h
  ·cases h
  ·rename_i d ds he
   have:=allRef_ok h c (on he hx)
   rw[hy]at this;cases this
 ·split at h
  ·cases h
  ·rename_i d ds he
   have:=allRef_ok h c (on he hy)
   rw[hx]at this;cases this
theorem idsIn_ok {l:Lim} {k:Nat}:∀ {n:Nat},idsIn l k n=true->∀ c,k<=c->c<k+n->refuses l c=true
 | 0,_,c,h1,h2=>by omega
 | n+1,h,c,h1,h2=>by
  simp only[idsIn,Bool.and_eq_true]at h
  by_cases e:c=k+n
  ·subst e;exact h.1
  ·exact idsIn_ok h.2 c h1 (by omega)
def compat (x y:IRO):Bool:=
 let f:=footOf x.op
 let g:=footOf y.op
 (match x.dst with | some d=>!(noHas y.looks d)&&(match y.dst with | some d'=>!(d==d') | none=>true) | none=>true) &&
 (match y.dst with | some d=>!(noHas x.looks d) | none=>true) &&
 !(f.all&&!g.pure)&&!(g.all&&!f.pure) &&
 (apartL x.no y.no||(!(f.wS&&(g.rS||g.wS))&&!(f.wA&&(g.rA||g.wA))&&!(g.wS&&f.rS)&&!(g.wA&&f.rA))) &&
 !(f.mks&&g.looks&&!(idsIn y.no x.op.kOf (x.op.nOf.getD 0)))&&!(g.mks&&f.looks&&!(idsIn x.no y.op.kOf (y.op.nOf.getD 0))) &&
 !(f.mks&&g.mks&&!(decide (x.op.kOf+x.op.nOf.getD 0<=y.op.kOf)||decide (y.op.kOf+y.op.nOf.getD 0<=x.op.kOf)))
section 
variable {sp:Sp} {spP:SpP}
theorem en_congr {sl sl':List Ent} {a:Opd} (h:∀ n∈opdS a,lk sl n=lk sl' n):en sl a=en sl' a:=by
 cases a with
 | t n=>exact h n (by simp[opdS])
 | k v=>rfl
theorem o1_congr {sl sl':List Ent} {a:Opd} {f g:SV->R} (h:∀ n∈opdS a,lk sl n=lk sl' n) (hf:∀ v,f v=g v):o1 sl a f=o1 sl' a g:=by
 unfold o1
 rw[en_congr h]
 have:f=g:=funext hf
 rw[this]
theorem ons_congr {sl sl':List Ent}:∀ {as:List Opd} {f g:List SV->R},(∀ n∈opdsS as,lk sl n=lk sl' n)->(∀ v,f v=g v)->ons sl as f=ons sl' as g
 | [],f,g,_,hf=>hf []
 | a::as,f,g,h,hf=>o1_congr (fun n hn=>h n (by simp[opdsS,hn])) fun v=>ons_congr (fun n hn=>h n (by simp[opdsS,hn])) fun vs=>hf _
theorem onps_congr {sl sl':List Ent}:∀ {as:List (Nat×Nat×Opd)} {f g:List (Nat×Nat×SV)->R},(∀ n∈opdpsS as,lk sl n=lk sl' n)->(∀ v,f v=g v)->onps sl as f=onps sl' as g
 | [],f,g,_,hf=>hf []
 | (o,s,a)::as,f,g,h,hf=>o1_congr (fun n hn=>h n (by simp[opdpsS,hn])) fun v=>onps_congr (fun n hn=>h n (by simp[opdpsS,hn])) fun vs=>hf _
theorem o0_congr {sl sl':List Ent} {a:Option Opd} {f g:Option SV->R} (h:∀ n∈optS a,lk sl n=lk sl' n) (hf:∀ v,f v=g v):o0 sl a f=o0 sl' a g:=by
 cases a with
 | none=>exact hf none
 | some a=>exact o1_congr h fun v=>hf _
theorem stepF_slots {no:Lim} {x:Nat->Loc} {sl sl':List Ent} {look:Look} {o:IROp} (h:∀ n∈slotsOf o,lk sl n=lk sl' n):stepF sp spP no x sl look o=stepF sp spP no x sl' look o:=by
 cases o<;>simp only[slotsOf]at h<;>simp only[stepF]
 all_goals first
  | exact o1_congr h fun _=>rfl
  | exact o1_congr (fun n hn=>h n (by simp[hn])) fun _=>o1_congr (fun n hn=>h n (by simp[hn])) fun _=>rfl
  | exact o1_congr (fun n hn=>h n (by simp[hn])) fun _=>o1_congr (fun n hn=>h n (by simp[hn])) fun _=>o1_congr (fun n hn=>h n (by simp[hn])) fun _=>rfl
  | exact ons_congr h fun _=>rfl
  | exact onps_congr h fun _=>rfl
  | exact o1_congr (fun n hn=>h n (by simp[hn])) fun _=>ons_congr (fun n hn=>h n (by simp[hn])) fun _=>rfl
  | exact o1_congr (fun n hn=>h n (by simp[hn])) fun _=>o0_congr (fun n hn=>h n (by simp[hn])) fun _=>o0_congr (fun n hn=>h n (by simp[hn])) fun _=>rfl
  | skip
 rename_i c a b
 rw[en_congr (a:=c) fun n hn=>h n (by simp[hn]),en_congr (a:=a) fun n hn=>h n (by simp[hn]),en_congr (a:=b) fun n hn=>h n (by simp[hn])]
def Foot.sees (f:Foot) (e:ME):Bool:=bif e.2.2.row then f.rA else f.rS
theorem o1_mono {sl:List Ent} {a:Opd} {f g:SV->R} {r:Prop×SV×Upd} (h:o1 sl a f=some r) (hf:∀ v r,f v=some r->g v=some r):o1 sl a g=some r:=by
 obtain⟨p,v,u⟩:=r
 obtain⟨c,s,p',h1,h2,rfl⟩:=o1_some h
 unfold o1
 rw[h1]
 simp only
 rw[hf _ _ h2]
theorem lkK_mono {r:Bool} {no:Lim} {look look':Look} {c:Nat} {e:ME} (h:lkK r no look c=some e) (hl:∀ c e,refuses no c=false->e.2.2.row=r->look c=some e->look' c=some e):lkK r no look' c=some e:=by
 unfold lkK lkN at *
 cases hn:refuses no c with
 | true=>rw[hn]at h;simp at h
 | false=>
  rw[hn]at h
  simp only[cond_false]at h ⊢
  split at h
  case h_2=>cases h
  rename_i own L ch hc
  cases hr:(ch.row==r)with
  | false=>simp[hr]at h
  | true=>
   simp only[hr,cond_true]at h
   cases h
   rw[hl c _ hn (by simpa using hr) hc]
   simp[hr]
theorem chLen_row {ch:Chunk} {n:Int} (h:chLen ch=some n):ch.row=true:=by cases ch<;>simp[chLen]at h<;>rfl
def SeesRows (no:Lim) (look look':Look):Prop:=∀ c e,refuses no c=false->e.2.2.row=true->look c=some e->look' c=some e
theorem SeesRows.lkN {no:Lim} {look look':Look} (hl:SeesRows no look look') {c:Nat} {e:ME} (hc:lkN no look c=some e) (hr:e.2.2.row=true):lkN no look' c=some e:=by
 unfold Xf.lkN at *
 cases hn:refuses no c with
 | true=>rw[hn]at hc;simp at hc
 | false=>rw[hn]at hc;simp only[cond_false]at hc ⊢;exact hl c e hn hr hc
theorem appF_mono {es eb:Nat} {no:Lim} {look look':Look} {u v:SV} {r:Prop×Int×Option (Nat×Own)×Chunk} (h:appF es eb no look u v=some r) (hl:SeesRows no look look') (hl1:decide (es=1)=false->∀ c e,refuses no c=false->look c=some e->look' c=some e):appF es eb no look' u v=some r:=by
 unfold appF at h ⊢
 split at h
 case h_2=>cases h
 rename_i _ c L s lo n
 split at h
 case h_2=>cases h
 rename_i _ d M s' lo' m
 split at h
 case h_2=>cases h
 rename_i own' M' ch' hl2
 split at h
 case h_2=>
  rename_i hm'
  cases hb:decide (es=1)with
  | true=>unfold appC at h;split at h<;>simp[hb]at h
  | false=>
   have:lkN no look' d=some (own',M',ch'):=by
    unfold Xf.lkN at hl2 ⊢
    cases hn:refuses no d with
    | true=>rw[hn]at hl2;simp at hl2
    | false=>rw[hn]at hl2;simp only[cond_false]at hl2 ⊢;exact hl1 hb d _ hn hl2
   rw[this]
   simp only[hm']
   exact h
 rename_i m' hm'
 rw[hl.lkN hl2 (chLen_row hm')]
 simp only[hm']
 cases hes:decide (chS ch'=es)with
 | false=>rw[hes]at h;cases h
 | true=>
  rw[hes]at h
  simp only[cond_true]at h ⊢
  cases hc:(c==4096)with
  | true=>rw[hc]at h;simp only[cond_true]at h ⊢;exact h
  | false=>
   rw[hc]at h
   simp only[cond_false]at h ⊢
   split at h
   case h_2=>cases h
   rename_i own L' ch hl1
   have hrow:ch.row=true:=by
    cases hcl:chLen ch with
    | none=>rw[hcl]at h;cases h
    | some q=>exact chLen_row hcl
   rw[hl.lkN hl1 hrow]
   exact h
theorem rcOf_mono {no:Lim} {look look':Look} {nk:IntKind} {v:SV} {r:Prop×RC×Upd×Bool} (h:rcOf (lkN no look) nk v=some r) (hl:SeesRows no look look'):rcOf (lkN no look') nk v=some r:=by
 unfold rcOf at h ⊢
 split at h
 ·exact h
 ·exact h
 ·rename_i c L s lo n
  cases hc:(c==4096)with
  | true=>rw[hc]at h;exact h
  | false=>
   rw[hc]at h
   simp only[cond_false,hc]at h ⊢
   split at h
   case h_2=>cases h
   rename_i own L' k xs hl1
   rw[hl.lkN hl1 rfl]
   exact h
 ·cases h
theorem rcsOf_mono {no:Lim} {look look':Look} {nk:IntKind} (hl:SeesRows no look look'):∀ {vs:List SV} {r:Prop×List RC×Upd×Bool},rcsOf (lkN no look) nk vs=some r->rcsOf (lkN no look') nk vs=some r
 | [],r,h=>h
 | v::vs,r,h=>by
  simp only[rcsOf]at h ⊢
  split at h
  case h_2=>cases h
  rename_i h1 h2
  rw[rcOf_mono h1 hl,rcsOf_mono hl h2]
  exact h
theorem recOf_mono {no:Lim} {look look':Look} {nk:IntKind} {s:Nat} {v:SV} {r:Prop×List RC×Upd×Bool} (h:recOf (lkN no look) nk s v=some r) (hl:SeesRows no look look'):recOf (lkN no look') nk s v=some r:=by
 unfold recOf at h ⊢
 split at h
 ·rename_i cs
  cases hc:decide (cs.length=s)with
  | false=>rw[hc]at h;cases h
  | true=>rw[hc]at h;exact rcsOf_mono hl h
 ·cases hc:decide (s=1)with
  | false=>rw[hc]at h;cases h
  | true=>rw[hc]at h;simp only[cond_true]at h ⊢;exact rcsOf_mono hl h
theorem recsOf_mono {no:Lim} {look look':Look} {nk:IntKind} {s:Nat} (hl:SeesRows no look look'):∀ {vs:List SV} {r:Prop×List (List RC)×Upd×Bool},recsOf (lkN no look) nk s vs=some r->recsOf (lkN no look') nk s vs=some r
 | [],r,h=>h
 | v::vs,r,h=>by
  simp only[recsOf]at h ⊢
  split at h
  case h_2=>cases h
  rename_i h1 h2
  rw[recOf_mono h1 hl,recsOf_mono hl h2]
  exact h
theorem stR_mono {no:Lim} {look look':Look} {nk:IntKind} {n s f s':Nat} {i:Int} {z:List RC} {l:List (List RC)} {v:SV} {r:Prop×List (List RC)×Upd×Bool} (h:stR (lkN no look) nk n i s f s' z l v=some r) (hl:SeesRows no look look'):stR (lkN no look') nk n i s f s' z l v=some r:=by
 unfold stR at h ⊢
 cases hc:(decide (s=s')&&decide (f+n<=s))with
 | false=>rw[hc]at h;cases h
 | true=>
  rw[hc]at h
  simp only[cond_true]at h ⊢
  split at h
  ·cases h
  ·rename_i h1
   rw[recOf_mono h1 hl]
   exact h
theorem ons_mono {sl:List Ent}:∀ {as:List Opd} {f g:List SV->R} {r:Prop×SV×Upd},ons sl as f=some r->(∀ vs r,f vs=some r->g vs=some r)->ons sl as g=some r
 | [],f,g,r,h,hf=>hf _ _ h
 | a::as,f,g,r,h,hf=>o1_mono h fun v r hv=>ons_mono hv fun vs r h=>hf _ _ h
theorem spN_look {no:Lim} {x:Nat->Loc} {look look':Look} {n k:Nat} {f:FuncId} {vs:List SV} {r:Prop×SV×Upd} (h:spN sp no x look (some n) k f vs=some r) (he:lkN no look=lkN no look'):spN sp no x look' (some n) k f vs=some r:=by
 simp only[spN]at h ⊢
 rw[<-he]
 exact h
theorem lkK_row {r:Bool} {no:Lim} {look:Look} {c:Nat} {e:ME} (h:lkK r no look c=some e):refuses no c=false/\e.2.2.row=r:=by
 unfold lkK lkN at h
 cases hn:refuses no c with
 | true=>rw[hn]at h;simp at h
 | false=>
  rw[hn]at h
  simp only[cond_false]at h
  split at h
  case h_2=>cases h
  rename_i own L ch hc
  cases hr:(ch.row==r)with
  | false=>simp[hr]at h
  | true=>simp only[hr,cond_true]at h;cases h;exact⟨rfl,by simpa using hr⟩
theorem stepF_look {no:Lim} {x:Nat->Loc} {sl:List Ent} {look look':Look} {o:IROp} {r:Prop×SV×Upd} (hall:(footOf o).all=false) (h:stepF sp spP no x sl look o=some r)
  (hl:∀ c e,refuses no c=false->(footOf o).sees e=true->look c=some e->look' c=some e)
  (hr:∀ c e,refuses no c=false->(footOf o).sees e=true->look' c=some e->look c=some e):stepF sp spP no x sl look' o=some r:=by
 have hmask:(∀ e,(footOf o).sees e=true)->lkN no look=lkN no look':=by
  intro hs
  funext c
  unfold lkN
  cases hn:refuses no c with
  | true=>rfl
  | false=>
   simp only[cond_false]
   cases h1:look c with
   | none=>
    cases h2:look' c with
    | none=>rfl
    | some e=>rw[hr c e hn (hs e) h2]at h1;cases h1
   | some e=>rw[hl c e hn (hs e) h1]
 cases o
 case str a=>simp[footOf]at hall
 case call n k f as=>
  cases n with
  | none=>simp[footOf]at hall
  | some n=>
   simp only[stepF]at h ⊢
   exact ons_mono h fun vs r hv=>spN_look hv (hmask fun e=>by simp only[Foot.sees,footOf];cases e.2.2.row<;>rfl)
 case callv n k g as=>
  cases n with
  | none=>simp[footOf]at hall
  | some n=>
   simp only[stepF]at h ⊢
   refine o1_mono h fun v r hv=>ons_mono hv fun vs r hv=>?_
   cases v<;>simp only at hv ⊢<;>first | (cases hv;done) | skip
   exact spN_look hv (hmask fun e=>by simp only[Foot.sees,footOf];cases e.2.2.row<;>rfl)
 all_goals first | exact h | skip
 ·
  rename_i k s nk ps
  simp only[stepF]at h ⊢
  refine ons_mono h fun vs r hv=>?_
  cases hnk:decide (nk=.u64)with
  | true=>rw[hnk]at hv;exact hv
  | false=>
  rw[hnk]at hv
  simp only[cond_false]at hv ⊢
  split at hv
  ·cases hv
  ·rename_i h1
   rw[recsOf_mono (fun c e h1 h2 h3=>hl c e h1 (by simp only[Foot.sees,footOf];rw[h2];rfl) h3) h1]
   exact hv
 ·
  rename_i rr n k nv a
  simp only[stepF]at h ⊢
  refine o1_mono h fun v r hv=>?_
  cases v<;>simp only at hv ⊢<;>first | (cases hv;done) | skip
  rename_i c L i s f
  cases hc:lkK rr no look c with
  | none=>rw[hc]at hv;cases hv
  | some e=>
   rw[lkK_mono hc fun c e h1 h2 h3=>hl c e h1 (by simp only[Foot.sees,footOf];rw[h2];cases rr<;>rfl) h3]
   rw[hc]at hv
   exact hv
 ·
  rename_i rr n nk a b
  simp only[stepF]at h ⊢
  refine o1_mono h fun v r0 hv0=>o1_mono hv0 fun u r hv=>?_
  cases v<;>simp only at hv ⊢<;>first | (cases hv;done) | skip
  rename_i c L i s f
  cases hc:lkK rr no look c with
  | none=>rw[hc]at hv;cases hv
  | some e=>
   have hrow:=(lkK_row hc).2
   rw[lkK_mono hc fun c e h1 h2 h3=>hl c e h1 (by simp only[Foot.sees,footOf];rw[h2];cases rr<;>rfl) h3]
   rw[hc]at hv
   obtain⟨own,L',ch⟩:=e
   simp only at hv ⊢ hrow
   cases hw:own.wr<;>rw[hw]at hv<;>simp only at hv ⊢
   ·cases hv
   all_goals
    cases ch<;>simp only at hv ⊢<;>first | exact hv | skip
    rename_i s' fr z l
    have hrr:rr=true:=by rw[<-hrow];rfl
    split at hv
    ·cases hv
    ·rename_i h1
     rw[stR_mono h1 (fun c e h1 h2 h3=>hl c e h1 (by simp only[Foot.sees,footOf];rw[h2,hrr];rfl) h3)]
     exact hv
 ·
  rename_i k es by' a b
  simp only[stepF]at h ⊢
  refine o1_mono h fun v r hv=>o1_mono hv fun u r hv=>?_
  have key:∀ q,appF es by' no look v u=some q->appF es by' no look' v u=some q:=fun q hq=>appF_mono hq (fun c e h1 h2 h3=>hl c e h1 (by simp only[Foot.sees,footOf];rw[h2];rfl) h3) fun hb c e h1 h3=>hl c e h1 (by simp only[Foot.sees,footOf,hb];cases e.2.2.row<;>rfl) h3
  split at hv
  ·cases hv
  ·rename_i h1;rw[key _ h1];exact hv
  ·rename_i h1;rw[key _ h1];exact hv
 ·
  rename_i a b
  have hsr:SeesRows no look look':=fun c e h1 h2 h3=>hl c e h1 (by simp only[Foot.sees,footOf];rw[h2];rfl) h3
  simp only[stepF]at h ⊢
  refine o1_mono h fun v r hv=>o1_mono hv fun u r hv=>?_
  split at hv
  case h_2=>cases hv
  rename_i c L s lo n d M s' lo' mm _
  cases hss:(decide (s=1)&&decide (s'=1))with
  | false=>rw[hss]at hv;cases hv
  | true=>
   rw[hss]at hv
   simp only[cond_true]at hv ⊢
   have hv0:=hv
   unfold copyF at hv
   split at hv
   case h_2=>cases hv
   rename_i h1 h2
   rw[h1,h2]at hv0
   rw[hsr.lkN h1 rfl,hsr.lkN h2 rfl]
   exact hv0
 ·
  rename_i z a
  have hsr:SeesRows no look look':=fun c e h1 h2 h3=>hl c e h1 (by simp only[Foot.sees,footOf];rw[h2];rfl) h3
  simp only[stepF]at h ⊢
  refine o1_mono h fun v r hv=>?_
  split at hv
  case h_2=>cases hv
  split at hv
  case h_2=>cases hv
  rename_i h1
  rw[hsr.lkN h1 rfl]
  exact hv
def Foot.writes (f:Foot) (e:ME):Bool:=bif e.2.2.row then f.wA else f.wS
def UpdOk (o:IROp) (no:Lim) (look:Look) (u:Upd):Prop:=∀ c e,(c,e)∈u ->
 (o.kOf<=c/\c<o.kOf+o.nOf.getD 0/\(footOf o).mks=true)∨(refuses no c=false/\∃ e0,look c=some e0/\(footOf o).writes e0=true/\(footOf o).looks=true/\∀ e1,e=some e1->e1.2.2.row=e0.2.2.row)
theorem wrc_row {i:Int} {s f:Nat} {v:SV} {ch ch':Chunk} {p:Prop} (h:wrc i s f v ch=some (p,ch')):ch'.row=ch.row:=by
 cases ch with
 | ints k xs=>
  simp only[wrc]at h
  split at h
  ·rename_i k' n
   by_cases e:k=k'
   ·simp[e]at h;rw[<-h.2];rfl
   ·simp[e]at h
  ·cases h
 | bools xs=>
  simp only[wrc]at h
  split at h<;>cases h;rfl
 | cells cs=>
  simp only[wrc]at h
  split at h
  ·cases h
  ·cases hs:size1 v<;>simp[hs]at h
   rw[<-h.2];rfl
 | recs _ _ _=>simp[wrc]at h
theorem wrn_row {i:Int} {s f:Nat} {v:List SV} {ch ch':Chunk} {p:Prop} (h:wrn i s f v ch=some (p,ch')):ch'.row=ch.row:=by
 cases ch<;>simp only[wrn]at h
 ·split at h
  case h_2=>cases h
  split at h
  ·cases h
  ·cases h;rfl
 ·cases h
 ·split at h
  ·cases h
  ·cases hs:v.all size1<;>simp[hs]at h
   rw[<-h.2];rfl
 ·cases h
theorem lkN_no {no:Lim} {look:Look} {c:Nat} {e:ME} (h:lkN no look c=some e):refuses no c=false:=by
 unfold lkN at h
 cases hn:refuses no c with
 | true=>rw[hn]at h;simp at h
 | false=>rfl
theorem bif_some {α:Type _} {b:Bool} {x y:α} (h:(bif b then some x else none)=some y):x=y:=by
 cases b with
 | true=>simpa using h
 | false=>simp at h
theorem appF_upd {es eb:Nat} {no:Lim} {look:Look} {u v:SV} {p:Prop} {n:Int} {c:Nat} {own:Own} {r:Chunk} (h:appF es eb no look u v=some (p,n,some (c,own),r)):refuses no c=false/\∃ e0,look c=some e0/\e0.2.2.row=true:=by
 unfold appF at h
 split at h
 case h_2=>cases h
 rename_i _ c0 L s0 lo n0
 split at h
 case h_2=>cases h
 split at h
 case h_2=>cases h
 split at h
 case h_2=>
  unfold appC at h
  split at h
  ·cases bif_some h
  ·cases h
 rename_i ch' _ _ m' _
 cases hes:decide (chS ch'=es)with
 | false=>rw[hes]at h;cases h
 | true=>
  rw[hes]at h
  simp only[cond_true]at h
  cases hc:(c0==4096)with
  | true=>rw[hc]at h;simp only[cond_true]at h;cases h
  | false=>
   rw[hc]at h
   simp only[cond_false]at h
   split at h
   case h_2=>cases h
   rename_i own L' ch hl1
   cases hcl:chLen ch with
   | none=>rw[hcl]at h;cases h
   | some q=>
    cases hr:appCh ch ch' with
    | none=>rw[hcl,hr]at h;cases h
    | some r'=>
     rw[hcl,hr]at h
     have hcc:c0=c:=by
      split at h
      ·rename_i h1 h2 h3
       generalize (c0==_||!decide (chS ch=es))=b at h
       cases b<;>simp at h
       exact h.2.2.1.1
      ·cases h
     subst hcc
     exact⟨lkN_no hl1,_,lkN_some hl1,chLen_row hcl⟩
def DemOk (no:Lim) (look:Look) (u:Upd):Prop:=∀ c e,(c,e)∈u->refuses no c=false/\∃ e0,look c=some e0/\e0.2.2.row=true/\∀ e1,e=some e1->e1.2.2.row=true
theorem DemOk.append {no:Lim} {look:Look} {u v:Upd} (h:DemOk no look u) (k:DemOk no look v):DemOk no look (u++v):=fun c e hm=>by
 rcases List.mem_append.1 hm with hm | hm
 ·exact h c e hm
 ·exact k c e hm
theorem rcOf_upd {no:Lim} {look:Look} {nk:IntKind} {v:SV} {p:Prop} {r:RC} {u:Upd} {f:Bool} (h:rcOf (lkN no look) nk v=some (p,r,u,f)):DemOk no look u:=by
 unfold rcOf at h
 split at h
 ·cases h;exact fun c e hm=>by cases hm
 ·cases h;exact fun c e hm=>by cases hm
 ·rename_i c L s lo n
  cases hc:(c==4096)with
  | true=>rw[hc]at h;simp only[cond_true]at h;cases h;exact fun c e hm=>by cases hm
  | false=>
   rw[hc]at h
   simp only[cond_false]at h
   split at h
   case h_2=>cases h
   rename_i own L' k xs hl1
   split at h
   case h_2=>cases h
   cases hs:decide (s=1)with
   | false=>rw[hs]at h;cases h
   | true=>
    rw[hs]at h
    cases h
    intro c' e hm
    have:(c',e)=(c,some (.rof,L',.ints k xs)):=by cases own<;>simp[demote]at hm<;>simp[hm]
    cases this
    exact⟨lkN_no hl1,_,lkN_some hl1,rfl,fun e1 he=>by cases he;rfl⟩
 ·cases h
theorem rcsOf_upd {no:Lim} {look:Look} {nk:IntKind}:∀ {vs:List SV} {p:Prop} {r:List RC} {u:Upd} {f:Bool},rcsOf (lkN no look) nk vs=some (p,r,u,f)->DemOk no look u
 | [],p,r,u,f,h=>by simp only[rcsOf]at h;cases h;exact fun c e hm=>by cases hm
 | v::vs,p,r,u,f,h=>by
  simp only[rcsOf]at h
  split at h
  case h_2=>cases h
  rename_i h1 h2
  cases h
  exact(rcOf_upd h1).append (rcsOf_upd h2)
theorem recOf_upd {no:Lim} {look:Look} {nk:IntKind} {s:Nat} {v:SV} {p:Prop} {r:List RC} {u:Upd} {f:Bool} (h:recOf (lkN no look) nk s v=some (p,r,u,f)):DemOk no look u:=by
 unfold recOf at h
 split at h
 ·rename_i cs
  cases hc:decide (cs.length=s)with
  | false=>rw[hc]at h;cases h
  | true=>rw[hc]at h;exact rcsOf_upd h
 ·cases hc:decide (s=1)with
  | false=>rw[hc]at h;cases h
  | true=>rw[hc]at h;exact rcsOf_upd h
theorem recsOf_upd {no:Lim} {look:Look} {nk:IntKind} {s:Nat}:∀ {vs:List SV} {p:Prop} {r:List (List RC)} {u:Upd} {f:Bool},recsOf (lkN no look) nk s vs=some (p,r,u,f)->DemOk no look u
 | [],p,r,u,f,h=>by simp only[recsOf]at h;cases h;exact fun c e hm=>by cases hm
 | v::vs,p,r,u,f,h=>by
  simp only[recsOf]at h
  split at h
  case h_2=>cases h
  rename_i h1 h2
  cases h
  exact(recOf_upd h1).append (recsOf_upd h2)
theorem stR_upd {no:Lim} {look:Look} {nk:IntKind} {n s f s':Nat} {i:Int} {z:List RC} {l:List (List RC)} {v:SV} {p:Prop} {r:List (List RC)} {u:Upd} {fr:Bool} (h:stR (lkN no look) nk n i s f s' z l v=some (p,r,u,fr)):DemOk no look u:=by
 unfold stR at h
 cases hc:(decide (s=s')&&decide (f+n<=s))with
 | false=>rw[hc]at h;cases h
 | true=>
  rw[hc]at h
  simp only[cond_true]at h
  split at h
  ·cases h
  ·rename_i p1 r1 u1 f1 h1
   cases hn:decide (n=s)with
   | true=>rw[hn]at h;cases h;exact recOf_upd h1
   | false=>
    rw[hn]at h
    simp only[cond_false]at h
    split at h
    ·cases h;exact recOf_upd h1
    ·cases h
theorem viewsU_in {fr:Bool}:∀ {rs:List RC} {k:Nat} {c:Nat} {e:Option ME},(c,e)∈viewsU fr k rs->k<=c/\c<k+viewsN rs
 | [],k,c,e,h=>by cases h
 | .int _ _::rs,k,c,e,h=>viewsU_in (rs:=rs) h
 | .bool _::rs,k,c,e,h=>viewsU_in (rs:=rs) h
 | .row _ _ _::rs,k,c,e,h=>by
  simp only[viewsU,List.mem_cons]at h
  rcases h with h | h
  ·cases h;simp only[viewsN];omega
  ·have:=viewsU_in h;simp only[viewsN];omega
theorem ons_some {sl:List Ent}:∀ {as:List Opd} {f:List SV->R} {p:Prop} {r:SV} {u:Upd},ons sl as f=some (p,r,u)->∃ vs p',f vs=some (p',r,u)
 | [],f,p,r,u,h=>⟨[],p,h⟩
 | a::as,f,p,r,u,h=>by
  obtain⟨_,v,p',_,h,_⟩:=o1_some h
  obtain⟨vs,p'',h⟩:=ons_some h
  exact⟨_,_,h⟩
theorem onps_some {sl:List Ent}:∀ {as:List (Nat×Nat×Opd)} {f:List (Nat×Nat×SV)->R} {p:Prop} {r:SV} {u:Upd},onps sl as f=some (p,r,u)->∃ vs p',f vs=some (p',r,u)
 | [],f,p,r,u,h=>⟨[],p,h⟩
 | (o,s,a)::as,f,p,r,u,h=>by
  obtain⟨_,v,p',_,h,_⟩:=o1_some h
  obtain⟨vs,p'',h⟩:=onps_some h
  exact⟨_,_,h⟩
theorem o0_some {sl:List Ent} {a:Option Opd} {f:Option SV->R} {p:Prop} {r:SV} {u:Upd} (h:o0 sl a f=some (p,r,u)):∃ v p',f v=some (p',r,u):=by
 cases a with
 | none=>exact⟨_,_,h⟩
 | some a=>obtain⟨_,v,p',_,h,_⟩:=o1_some h;exact⟨_,_,h⟩
theorem updNil {o:IROp} {no:Lim} {look:Look}:UpdOk o no look []:=fun c e h=>by cases h
theorem updNew {o:IROp} {no:Lim} {look:Look} {k:Nat} {e:Option ME} (h:k=o.kOf/\o.nOf=some 1/\(footOf o).mks=true):UpdOk o no look [(k,e)]:=fun c e hm=>by
 simp at hm
 rw[hm.1]
 exact .inl ⟨by omega,by rw[h.2.1];simp;omega,h.2.2⟩
theorem updIn_ok {k n:Nat}:∀ {u:Upd},updIn k n u=true->∀ c e,(c,e)∈u->k<=c/\c<k+n
 | [],_,c,e,h=>by simp at h
 | (d,x)::u,h,c,e,hm=>by
  simp only[updIn,Bool.and_eq_true,decide_eq_true_eq]at h
  simp only[List.mem_cons]at hm
  rcases hm with hm | hm
  ·cases hm;exact h.1
  ·exact updIn_ok h.2 c e hm
theorem spN_upd {no:Lim} {x:Nat->Loc} {look:Look} {n k:Nat} {f:FuncId} {vs:List SV} {p:Prop} {v:SV} {u:Upd} (h:spN sp no x look (some n) k f vs=some (p,v,u)):updIn k n u=true:=by
 simp only[spN]at h
 split at h
 ·rename_i p' v' u' _
  cases hu:updIn k n u' with
  | false=>simp[hu]at h
  | true=>simp only[hu,cond_true]at h;cases h;exact hu
 ·cases h
theorem bif_some2 {α:Type _} {b:Bool} {x:Option α} {y:α} (h:(bif b then x else none)=some y):x=some y:=by
 cases b with
 | true=>simpa using h
 | false=>simp at h
theorem bif_or {α:Type _} {b:Bool} {x y z:α} (h:(bif b then x else y)=z):x=z∨y=z:=by
 cases b with
 | true=>exact .inl h
 | false=>exact .inr h
theorem bif_some3 {α:Type _} {b:Bool} {x:Option α} {y:α} (h:(bif b then x else none)=some y):b=true/\x=some y:=by
 cases b with
 | true=>exact⟨rfl,by simpa using h⟩
 | false=>simp at h
theorem sto_row {i:Int} {s f n:Nat} {ch:Chunk} {v1:SV} {q:Prop} {ch':Chunk} (hh:(match (generalizing:=false) v1 with
      | .agg us=>bif decide (us.length=n)then wrn i s f us ch else none
      | u=>bif decide (n=1)then wrc i s f u ch else none)=some (q,ch')):ch'.row=ch.row:=by
 split at hh
 ·exact wrn_row (bif_some2 hh)
 ·exact wrc_row (bif_some2 hh)
theorem stepF_upd {no:Lim} {x:Nat->Loc} {sl:List Ent} {look:Look} {o:IROp} {p:Prop} {v:SV} {u:Upd} (hall:(footOf o).all=false) (h:stepF sp spP no x sl look o=some (p,v,u)):UpdOk o no look u:=by
 cases o
 case str a=>simp[footOf]at hall
 case call n k f as=>
  cases n with
  | none=>simp[footOf]at hall
  | some n=>
   simp only[stepF]at h
   obtain⟨_,_,h⟩:=ons_some h
   intro c e hm
   have:=updIn_ok (spN_upd h) c e hm
   exact .inl ⟨this.1,by simpa [IROp.kOf,IROp.nOf]using this.2,rfl⟩
 case callv n k g as=>
  cases n with
  | none=>simp[footOf]at hall
  | some n=>
   simp only[stepF]at h
   obtain⟨_,v0,_,-,h,-⟩:=o1_some h
   obtain⟨_,_,h⟩:=ons_some h
   cases v0<;>simp only at h<;>first | (cases h;done) | skip
   intro c e hm
   have:=updIn_ok (spN_upd h) c e hm
   exact .inl ⟨this.1,by simpa [IROp.kOf,IROp.nOf]using this.2,rfl⟩
 case sto rr n nk a b=>
  simp only[stepF]at h
  obtain⟨_,v0,_,-,h,-⟩:=o1_some h
  obtain⟨_,v1,_,-,h,-⟩:=o1_some h
  cases v0<;>simp only at h<;>first | (cases h;done) | skip
  rename_i c L i s f _
  split at h
  case h_2=>cases h
  rename_i own L' ch hl
  have hg:=lkK_row hl
  have hl':=lkK_some hl
  have key:=@sto_row i s f n ch v1
  have fin:∀ (own:Own) (ch':Chunk),ch'.row=ch.row->UpdOk (.sto rr n nk a b) no look [(c,some (own,L',ch'))]:=by
   intro own' ch' hr c' e hm
   simp at hm
   obtain⟨rfl,rfl⟩:=hm
   refine .inr ⟨hg.1,_,hl',?_,?_,fun e1 he=>by cases he;exact hr⟩
   ·have:ch.row=rr:=hg.2
    simp only[Foot.writes,footOf,this]
    cases rr<;>rfl
   ·simp only[Foot.looks,footOf]
    cases rr<;>rfl
  split at h
  ·cases h
  ·split at h
   ·rename_i s' fr z l
    have hrr:rr=true:=by rw[<-hg.2];rfl
    split at h
    ·cases h
    ·rename_i hst
     cases h
     have hd:=stR_upd hst
     intro c' e hm
     rcases List.mem_append.1 hm with hm | hm
     ·obtain⟨g1,e0,g2,g3,g4⟩:=hd c' e hm
      refine .inr ⟨g1,e0,g2,?_,?_,fun e1 he=>by rw[g3];exact g4 e1 he⟩
      ·simp only[Foot.writes,footOf,g3,hrr];rfl
      ·simp only[Foot.looks,footOf,hrr];rfl
     ·exact fin _ (.recs _ _ _ _) (by rfl) c' e hm
   ·split at h
    ·cases h
    ·rename_i hh
     cases h
     exact fin _ _ (key hh)
 case app k es by' a b=>
  simp only[stepF]at h
  obtain⟨_,v0,_,-,h,-⟩:=o1_some h
  obtain⟨_,v1,_,-,h,-⟩:=o1_some h
  split at h
  ·cases h
  ·cases h;exact updNew ⟨rfl,rfl,rfl⟩
  ·rename_i hF
   cases h
   obtain⟨g1,e0,g2,g3⟩:=appF_upd hF
   intro c' e hm
   simp at hm
   rcases hm with ⟨rfl,rfl⟩ | ⟨rfl,rfl⟩
   ·exact .inr ⟨g1,e0,g2,by simp only[Foot.writes,footOf,g3];rfl,by simp[Foot.looks,footOf],fun e1 he=>by cases he⟩
   ·exact .inl ⟨Nat.le_refl _,by simp[IROp.nOf,IROp.kOf],rfl⟩
 case brecs k s nk ps=>
  simp only[stepF]at h
  obtain⟨_,_,h⟩:=ons_some h
  cases hnk:decide (nk=.u64)with
  | true=>
   rw[hnk]at h
   simp only[cond_true]at h
   unfold brecC at h
   split at h
   ·cases bif_some h
    exact updNew ⟨rfl,rfl,rfl⟩
   ·cases h
  | false=>
  rw[hnk]at h
  simp only[cond_false]at h
  split at h
  ·cases h
  ·rename_i hr
   cases h
   have hd:=recsOf_upd hr
   intro c' e hm
   rcases List.mem_append.1 hm with hm | hm
   ·obtain⟨g1,e0,g2,g3,g4⟩:=hd c' e hm
    exact .inr ⟨g1,e0,g2,by simp only[Foot.writes,footOf,g3];rfl,rfl,fun e1 he=>by rw[g3];exact g4 e1 he⟩
   ·simp at hm
    rw[hm.1]
    exact .inl ⟨Nat.le_refl _,by simp[IROp.nOf,IROp.kOf],rfl⟩
 case copy a b=>
  simp only[stepF]at h
  obtain⟨_,v0,_,-,h,-⟩:=o1_some h
  obtain⟨_,v1,_,-,h,-⟩:=o1_some h
  split at h
  case h_2=>cases h
  have h:=bif_some2 h
  unfold copyF at h
  split at h
  case h_2=>cases h
  rename_i own L' k xs _ M' k' ys h1 h2
  cases bif_some h
  intro c' e hm
  simp at hm
  obtain⟨rfl,rfl⟩:=hm
  exact .inr ⟨lkN_no h1,_,lkN_some h1,rfl,rfl,fun e1 he=>by cases he;rfl⟩
 case clear z a=>
  simp only[stepF]at h
  obtain⟨_,v0,_,-,h,-⟩:=o1_some h
  split at h
  case h_2=>cases h
  split at h
  case h_2=>cases h
  rename_i own L' s' fr z' l h1
  split at h
  ·cases h
  ·cases bif_some h
   intro c' e hm
   simp at hm
   obtain⟨rfl,rfl⟩:=hm
   exact .inr ⟨lkN_no h1,_,lkN_some h1,rfl,rfl,fun e1 he=>by cases he;rfl⟩
 case callp f as=>
  simp only[stepF]at h
  obtain⟨_,_,h⟩:=ons_some h
  rw[(upTo_some h).2]
  exact updNil
 case pick c a b=>
  simp only[stepF]at h
  split at h
  ·split at h
   ·cases h
   ·cases h;exact updNil
  ·cases h
 case bslice k ps=>
  simp only[stepF]at h
  obtain⟨_,_,h⟩:=ons_some h
  split at h<;>cases h
  exact updNew ⟨rfl,rfl,rfl⟩
 case mkf f cs=>
  simp only[stepF]at h
  obtain⟨_,_,h⟩:=ons_some h
  cases h;exact updNil
 case build z ps=>
  simp only[stepF]at h
  obtain⟨_,_,h⟩:=onps_some h
  split at h<;>cases h
  exact updNil
 case slc a s lo hi=>
  simp only[stepF]at h
  obtain⟨_,v0,_,-,h,-⟩:=o1_some h
  obtain⟨_,_,h⟩:=o0_some h
  obtain⟨_,_,h⟩:=o0_some h
  split at h
  ·split at h
   ·cases bif_some h
    exact updNil
   ·cases h
  ·cases h
 case alloc=>cases h;exact updNew ⟨rfl,rfl,rfl⟩
 case allocI=>cases h;exact updNew ⟨rfl,rfl,rfl⟩
 case lenK=>cases h;exact updNil
 case mov | nilc | neg | not | cvt | slcA | fld | ext | len=>
  simp only[stepF]at h
  obtain⟨_,v0,_,-,h,-⟩:=o1_some h
  first
   | (rw[(upTo_some h).2];exact updNil)
   | (cases h;exact updNil)
   | (split at h;all_goals first | (cases h;exact updNil) | (cases h;done) | (split at h<;>cases h;exact updNil))
 case ld r n k nv a=>
  simp only[stepF]at h
  obtain⟨_,v0,_,-,h,-⟩:=o1_some h
  cases v0<;>simp only at h<;>first | (cases h;done) | skip
  have fin:∀ (fr:Bool) (rs:List RC),viewsN rs<=nv->UpdOk (.ld r n k nv a) no look (viewsU fr k rs):=fun fr rs hn c' e hm=>by
   have:=viewsU_in hm
   refine .inl ⟨this.1,by simp only[IROp.kOf,IROp.nOf,Option.getD_some];omega,?_⟩
   have:nv≠0:=by omega
   simp[footOf,this]
  split at h
  ·unfold ldRec at h
   cases n with
   | none=>
    simp only at h
    obtain⟨hc,hb⟩:=bif_some3 h
    simp only[Bool.and_eq_true,decide_eq_true_eq]at hc
    split at hb
    ·cases hb
     exact fin _ _ hc.2
    ·cases hb
   | some n=>
    simp only at h
    have hb:=bif_some2 h
    have key:∀ (fr:Bool) (rs:List RC) (P Q:Prop) (w:SV),(bif decide (viewsN rs<=nv)then (some (P,w,viewsU fr k rs):R)else none)=some (Q,v,u)->UpdOk (.ld r (some n) k nv a) no look u:=fun fr rs P Q w hh=>by
     cases hc:decide (viewsN rs<=nv)with
     | false=>rw[hc]at hh;cases hh
     | true=>rw[hc]at hh;cases hh;exact fin fr rs (by simpa using hc)
    exact key _ _ _ _ _ hb
  ·split at h<;>cases h
   exact updNil
  ·cases h
 case fldv=>
  simp only[stepF]at h
  obtain⟨_,v0,_,-,h,-⟩:=o1_some h
  cases v0<;>simp only at h<;>first | (cases h;done) | skip
  split at h<;>split at h<;>cases h<;>exact updNil
 case box=>
  simp only[stepF]at h
  obtain⟨_,v0,_,-,h,-⟩:=o1_some h
  split at h<;>cases h
  exact updNew ⟨rfl,rfl,rfl⟩
 case bin | binB | binS | binA | binN | binT=>
  simp only[stepF]at h
  obtain⟨_,v0,_,-,h,-⟩:=o1_some h
  obtain⟨_,v1,_,-,h,-⟩:=o1_some h
  rw[(upTo_some h).2];exact updNil
 case mks=>
  simp only[stepF]at h
  obtain⟨_,v0,_,-,h,-⟩:=o1_some h
  obtain⟨_,v1,_,-,h,-⟩:=o1_some h
  split at h
  ·split at h<;>cases h
   exact updNew ⟨rfl,rfl,rfl⟩
  ·cases h
 case mksR=>
  simp only[stepF]at h
  obtain⟨_,v0,_,-,h,-⟩:=o1_some h
  obtain⟨_,v1,_,-,h,-⟩:=o1_some h
  split at h<;>cases h
  exact updNew ⟨rfl,rfl,rfl⟩
 case idxS a b s=>
  simp only[stepF]at h
  obtain⟨_,v0,_,-,h,-⟩:=o1_some h
  obtain⟨_,v1,_,-,h,-⟩:=o1_some h
  split at h
  ·cases bif_some h
   exact updNil
  ·cases h
 case idxP=>
  simp only[stepF]at h
  obtain⟨_,v0,_,-,h,-⟩:=o1_some h
  obtain⟨_,v1,_,-,h,-⟩:=o1_some h
  split at h
  ·cases bif_or h with
   | inl h=>cases h;exact updNil
   | inr h=>cases h;exact updNil
  ·cases h
 case tabI=>
  simp only[stepF]at h
  obtain⟨_,v0,_,-,h,-⟩:=o1_some h
  split at h<;>cases h
  exact updNil
 case idxV=>
  simp only[stepF]at h
  obtain⟨_,v0,_,-,h,-⟩:=o1_some h
  obtain⟨_,v1,_,-,h,-⟩:=o1_some h
  split at h
  ·split at h
   ·cases bif_some h
    exact updNil
   ·cases h
  ·cases h
 case mn | mx=>
  simp only[stepF]at h
  obtain⟨_,v0,_,-,h,-⟩:=o1_some h
  obtain⟨_,v1,_,-,h,-⟩:=o1_some h
  split at h<;>cases h
  exact updNil
 case mn3 | mx3=>
  simp only[stepF]at h
  obtain⟨_,v0,_,-,h,-⟩:=o1_some h
  obtain⟨_,v1,_,-,h,-⟩:=o1_some h
  obtain⟨_,v2,_,-,h,-⟩:=o1_some h
  split at h<;>cases h
  exact updNil
end
end Go.Proofs.YtaofjnkpkocgjaaGreat.Xf
end
section 
namespace Go.Proofs.YtaofjnkpkocgjaaGreat.Xf
section 
variable {sp:Sp} {spP:SpP}
theorem apU_lk_out:∀ {u:Upd} {m:Mem} {c:Nat},(∀ e,(c,e)∉u)->lk (apU m u) c=lk m c
 | [],m,c,_=>rfl
 | (d,e)::u,m,c,h=>by
  simp only[apU]
  rw[apU_lk_out (fun e' he=>h e' (by simp[he])),lk_st_ne]
  rintro rfl
  exact h e (by simp)
theorem apU_lk_in:∀ {u:Upd} {m:Mem} {c:Nat} {x:ME},lk (apU m u) c=some x->(∃ e,(c,e)∈u)->(c,some x)∈u∨((∃ e,(c,e)∈u)/\lk m c=some x/\False)∨(c,some x)∈u
 | [],m,c,x,h,⟨e,he⟩=>by simp at he
 | (d,e)::u,m,c,x,h,hm=>by
  simp only[apU]at h
  by_cases hu:∃ e',(c,e')∈u
  ·rcases apU_lk_in h hu with h | ⟨_,_,h⟩ | h
   ·exact .inl (by simp[h])
   ·exact h.elim
   ·exact .inl (by simp[h])
  ·rw[apU_lk_out (fun e' he=>hu ⟨e',he⟩)]at h
   obtain⟨e0,he0⟩:=hm
   simp only[List.mem_cons]at he0
   rcases he0 with h0 | h0
   ·cases h0
    rw[lk_st]at h
    split at h
    ·subst h;exact .inl (by simp)
    ·rename_i hn
     exfalso
     have:=lk_lt h
     exact hn ⟨rfl,this⟩
   ·exact absurd ⟨_,h0⟩ hu
theorem apU_st_comm:∀ (u:Upd) (m:Mem) (c:Nat) (e:Option ME),(∀ e',(c,e')∉u)->apU (st m c e) u=st (apU m u) c e
 | [],m,c,e,_=>rfl
 | (d,x)::u,m,c,e,h=>by
  simp only[apU]
  rw[st_comm m c d e x (fun hcd=>h x (by simp[hcd])),apU_st_comm u _ c e (fun e' he=>h e' (by simp[he]))]
theorem apU_comm:∀ (u v:Upd) (m:Mem),(∀ c e e',(c,e)∈u->(c,e')∉v)->apU (apU m u) v=apU (apU m v) u
 | [],v,m,_=>rfl
 | (c,e)::u,v,m,h=>by
  simp only[apU]
  rw[apU_comm u v (st m c e) (fun c' e1 e2 h1=>h c' e1 e2 (by simp[h1])),apU_st_comm v m c e (fun e' he=>h c e e' (by simp) he)]
theorem putE_comm (sl:List Ent) (x y:Option Nat) (a b:Ent) (h:∀ d,x=some d->y≠some d):putE (putE sl x a) y b=putE (putE sl y b) x a:=by
 cases x<;>cases y<;>simp only[putE]
 rename_i d d'
 exact st_comm _ _ _ _ _ (fun e=>h d rfl (by rw[e]))
theorem putE_lk (sl:List Ent) (x:Option Nat) (a:Ent) (n:Nat) (h:x≠some n):lk (putE sl x a) n=lk sl n:=by
 cases x with
 | none=>rfl
 | some d=>exact lk_st_ne (fun e=>h (by rw[e]))
def oneS (sp:Sp) (spP:SpP) (o:IRO) (x:Nat->Loc) (sl:List Ent) (m:Mem):Option (Prop×List Ent×Mem):=
 match guardOf sl o.guard with
 | none=>none
 | some g=>match stepF sp spP o.no x sl (lk m) o.op with
  | none=>none
  | some (p,v,u)=>some (((g=true->p)/\(g=true∨u=[])),putE sl o.dst (some (g,v)),apU m u)
def evX (sp:Sp) (spP:SpP) (o:IRO) (sl:List Ent) (m:Mem) (K:List Ent->Mem->Prop):Prop:=
 ∀ x,∃ p sl' m',oneS sp spP o x sl m=some (p,sl',m')/\p/\K sl' m'
theorem stepF_same {no:Lim} {sl:List Ent} {look:Look} {o:IROp} (x y:Nat->Loc) (h:o.makes=false):stepF sp spP no x sl look o=stepF sp spP no y sl look o:=by
 cases o<;>simp only[IROp.makes]at h<;>first | rfl | cases h
theorem evX_iff {o:IRO} {sl:List Ent} {m:Mem} {K:List Ent->Mem->Prop}:evO sp spP o sl m K↔evX sp spP o sl m K:=by
 unfold evO evX oneS
 cases hg:guardOf sl o.guard with
 | none=>simp
 | some g=>
  simp only
  have one:∀ x,stepK sp spP o g x sl m K↔∃ p sl' m',(match stepF sp spP o.no x sl (lk m) o.op with
    | none=>none
    | some (p,v,u)=>some (((g=true->p)/\(g=true∨u=[])),putE sl o.dst (some (g,v)),apU m u))=some (p,sl',m')/\p/\K sl' m':=by
   intro x
   unfold stepK
   cases hs:stepF sp spP o.no x sl (lk m) o.op with
   | none=>simp
   | some r=>
    obtain⟨p,v,u⟩:=r
    simp only
    constructor
    ·rintro⟨h1,h2,h3⟩;exact⟨_,_,_,rfl,⟨h1,h2⟩,h3⟩
    ·rintro⟨p',s',m',h,hp,hk⟩
     cases h
     exact⟨hp.1,hp.2,hk⟩
  cases hm:o.op.makes with
  | true=>
   simp only[cond_true]
   exact forall_congr' one
  | false=>
   simp only[cond_false]
   rw[one]
   constructor
   ·intro h x
    rw[stepF_same x (fun _=>default) hm]
    exact h
   ·intro h;exact h _
theorem noHas_mem {l:List Nat} {c:Nat}:noHas l c=false->c∉l:=by
 induction l with
 | nil=>simp
 | cons a l ih=>
  intro h
  simp only[noHas,Bool.or_eq_false_iff,beq_eq_false_iff_ne,ne_eq]at h
  simp only[List.mem_cons,not_or]
  exact⟨fun e=>h.1 e.symm,ih h.2⟩
theorem Foot.sees_looks {f:Foot} {e:ME} (h:f.sees e=true):f.looks=true:=by
 simp only[Foot.sees]at h
 unfold Foot.looks
 cases hr:e.2.2.row<;>simp[hr]at h<;>simp[h]
theorem Foot.writes_looks {f:Foot} {e:ME} (h:f.writes e=true):f.looks=true:=by
 simp only[Foot.writes]at h
 unfold Foot.looks
 cases hr:e.2.2.row<;>simp[hr]at h<;>simp[h]
structure Compat (x y:IRO):Prop where
 d1:∀ d,x.dst=some d->d∉y.looks
 d2:∀ d,y.dst=some d->d∉x.looks
 d3:∀ d,x.dst=some d->y.dst≠some d
 all1:(footOf x.op).all=true->(footOf y.op).pure=true
 all2:(footOf y.op).all=true->(footOf x.op).pure=true
 w1:∀ c e,refuses x.no c=false->refuses y.no c=false->(footOf x.op).writes e=true->(footOf y.op).sees e=true->False
 w2:∀ c e,refuses x.no c=false->refuses y.no c=false->(footOf y.op).writes e=true->(footOf x.op).sees e=true->False
 ww:∀ c e,refuses x.no c=false->refuses y.no c=false->(footOf x.op).writes e=true->(footOf y.op).writes e=true->False
 k1:(footOf x.op).mks=true->(footOf y.op).looks=true->∀ c,x.op.kOf<=c->c<x.op.kOf+x.op.nOf.getD 0->refuses y.no c=true
 k2:(footOf y.op).mks=true->(footOf x.op).looks=true->∀ c,y.op.kOf<=c->c<y.op.kOf+y.op.nOf.getD 0->refuses x.no c=true
 kk:(footOf x.op).mks=true->(footOf y.op).mks=true->x.op.kOf+x.op.nOf.getD 0<=y.op.kOf∨y.op.kOf+y.op.nOf.getD 0<=x.op.kOf
theorem Compat.symm {x y:IRO} (h:Compat x y):Compat y x:=
 ⟨h.d2,h.d1,fun d h1 h2=>h.d3 d h2 h1,h.all2,h.all1,fun c e p q=>h.w2 c e q p,fun c e p q=>h.w1 c e q p,fun c e p q a b=>h.ww c e q p b a,h.k2,h.k1,fun a b=>(h.kk b a).symm⟩
theorem compat_ok {x y:IRO} (h:compat x y=true):Compat x y:=by
 unfold compat at h
 simp only[Bool.and_eq_true,Bool.not_eq_true']at h
 obtain⟨⟨⟨⟨⟨⟨⟨h1,h2⟩,h3⟩,h4⟩,h58⟩,h9⟩,h10⟩,h11⟩:=h
 simp only[Bool.or_eq_true,Bool.and_eq_true,Bool.not_eq_true']at h58
 refine⟨fun d hd=>?_,fun d hd=>?_,fun d hd hd'=>?_,fun ha=>?_,fun ha=>?_,fun c e hx hy hw hs=>?_,fun c e hx hy hw hs=>?_,fun c e hx hy hw hs=>?_,fun hm hl=>?_,fun hm hl=>?_,fun hm hm'=>?_⟩
 ·rw[hd]at h1
  simp only[Bool.and_eq_true,Bool.not_eq_true']at h1
  exact noHas_mem h1.1
 ·rw[hd]at h2
  simp only[Bool.not_eq_true']at h2
  exact noHas_mem h2
 ·rw[hd,hd']at h1
  simp at h1
 ·rw[ha]at h3;simpa using h3
 ·rw[ha]at h4;simpa using h4
 ·rcases h58 with h58 | ⟨⟨⟨h5,h6⟩,h7⟩,h8⟩
  ·exact apartL_ok h58 c hx hy
  simp only[Foot.writes,Foot.sees]at hw hs
  cases hr:e.2.2.row<;>simp[hr]at hw hs<;>simp[hw,hs]at h5 h6
 ·rcases h58 with h58 | ⟨⟨⟨h5,h6⟩,h7⟩,h8⟩
  ·exact apartL_ok h58 c hx hy
  simp only[Foot.writes,Foot.sees]at hw hs
  cases hr:e.2.2.row<;>simp[hr]at hw hs<;>simp[hw,hs]at h7 h8
 ·rcases h58 with h58 | ⟨⟨⟨h5,h6⟩,h7⟩,h8⟩
  ·exact apartL_ok h58 c hx hy
  simp only[Foot.writes]at hw hs
  cases hr:e.2.2.row<;>simp[hr]at hw hs<;>simp[hw,hs]at h5 h6
 ·rw[hm,hl]at h9;exact idsIn_ok (by simpa using h9)
 ·rw[hm,hl]at h10;exact idsIn_ok (by simpa using h10)
 ·rw[hm,hm']at h11
  simp only[Bool.true_and,Bool.not_eq_false',Bool.or_eq_true,decide_eq_true_eq]at h11
  simpa using h11
theorem guard_congr {sl sl':List Ent} {g:Option (Nat×Bool)} (h:∀ n p,g=some (n,p)->lk sl n=lk sl' n):guardOf sl g=guardOf sl' g:=by
 cases g with
 | none=>rfl
 | some g=>obtain⟨n,p⟩:=g;simp only[guardOf];rw[h n p rfl]
theorem mem_looks_guard {o:IRO} {n:Nat} {p:Bool} (h:o.guard=some (n,p)):n∈o.looks:=by simp[IRO.looks,h]
theorem mem_looks_slot {o:IRO} {n:Nat} (h:n∈slotsOf o.op):n∈o.looks:=by simp[IRO.looks,h]
theorem unseen {x y:IRO} (hc:Compat x y) {m:Mem} {u:Upd} (hu:UpdOk y.op y.no (lk m) u) (hy:(footOf y.op).all=false) {c:Nat} {e:ME} (hn:refuses x.no c=false) (hs:(footOf x.op).sees e=true)
  (h:lk m c=some e∨lk (apU m u) c=some e):∀ e',(c,e')∉u:=by
 intro e' he'
 rcases hu c e' he' with ⟨hk1,hk2,hmk⟩ | ⟨hny,e0,h0,hw,_,hrow⟩
 ·have:=hc.k2 hmk (Foot.sees_looks hs) c hk1 hk2
  rw[hn]at this;cases this
 ·rcases h with h | h
  ·rw[h0]at h;cases h
   exact hc.w2 c _ hn hny hw hs
  ·rcases apU_lk_in h ⟨_,he'⟩with h1 | ⟨_,_,h1⟩ | h1
   ·rcases hu c _ h1 with ⟨hk1,hk2,hmk⟩ | ⟨_,e2,h2,hw2,_,hrow2⟩
    ·have:=hc.k2 hmk (Foot.sees_looks hs) c hk1 hk2
     rw[hn]at this;cases this
    ·have hr:=hrow2 e rfl
     refine hc.w2 c e2 hn hny hw2 ?_
     simp only[Foot.sees]at hs ⊢
     rw[<-hr];exact hs
   ·exact h1
   ·rcases hu c _ h1 with ⟨hk1,hk2,hmk⟩ | ⟨_,e2,h2,hw2,_,hrow2⟩
    ·have:=hc.k2 hmk (Foot.sees_looks hs) c hk1 hk2
     rw[hn]at this;cases this
    ·have hr:=hrow2 e rfl
     refine hc.w2 c e2 hn hny hw2 ?_
     simp only[Foot.sees]at hs ⊢
     rw[<-hr];exact hs
theorem pure_foot {f:Foot} (h:f.pure=true):f.rS=false/\f.wS=false/\f.rA=false/\f.wA=false/\f.mks=false/\f.all=false:=by
 simp only[Foot.pure,Bool.not_eq_true',Bool.or_eq_false_iff]at h
 exact⟨h.1.1.1.1.1,h.1.1.1.1.2,h.1.1.1.2,h.1.1.2,h.1.2,h.2⟩
theorem pure_upd {o:IROp} {no:Lim} {look:Look} {u:Upd} (hp:(footOf o).pure=true) (h:UpdOk o no look u):u=[]:=by
 obtain⟨h1,h2,h3,h4,h5,h6⟩:=pure_foot hp
 cases u with
 | nil=>rfl
 | cons a u=>
  obtain⟨c,e⟩:=a
  rcases h c e (by simp)with ⟨_,_,hk⟩ | ⟨_,e0,_,hw,_⟩
  ·rw[h5]at hk;cases hk
  ·simp only[Foot.writes]at hw
   cases hr:e0.2.2.row<;>simp[hr,h2,h4]at hw
theorem diamond {a b:IRO} (hc:Compat a b) {x y:Nat->Loc} {sl sl1 sl2:List Ent} {m m1 m2:Mem} {p q:Prop} (h1:oneS sp spP a x sl m=some (p,sl1,m1)) (h2:oneS sp spP b y sl1 m1=some (q,sl2,m2)) :
  ∃ sl' m',oneS sp spP b y sl m=some (q,sl',m')/\oneS sp spP a x sl' m'=some (p,sl2,m2):=by
 unfold oneS at h1
 split at h1
 ·cases h1
 rename_i ga hga
 split at h1
 ·cases h1
 rename_i pa va ua hsa
 cases h1
 unfold oneS at h2
 split at h2
 ·cases h2
 rename_i gb hgb
 split at h2
 ·cases h2
 rename_i pb vb ub hsb
 cases h2
 have hla:∀ n∈b.looks,lk (putE sl a.dst (some (ga,va))) n=lk sl n:=fun n hn=>putE_lk _ _ _ _ fun e=>hc.d1 n e hn
 have hgb':guardOf sl b.guard=some gb:=by
  rw[<-hgb]
  exact(guard_congr fun n p hp=>hla n (mem_looks_guard hp)).symm
 have hsb0:stepF sp spP b.no y sl (lk (apU m ua)) b.op=some (pb,vb,ub):=by
  rw[<-hsb]
  exact(stepF_slots fun n hn=>hla n (mem_looks_slot hn)).symm
 have hsb':stepF sp spP b.no y sl (lk m) b.op=some (pb,vb,ub):=by
  cases hball:(footOf b.op).all with
  | true=>
   have hp:=hc.all2 hball
   have:=pure_upd hp (stepF_upd (pure_foot hp).2.2.2.2.2 hsa)
   subst this
   exact hsb0
  | false=>
   have key:∀ c e,refuses b.no c=false->(footOf b.op).sees e=true->(lk m c=some e∨lk (apU m ua) c=some e)->lk (apU m ua) c=lk m c:=by
    intro c e hn hs hl
    cases haall:(footOf a.op).all with
    | true=>
     have hp:=hc.all1 haall
     have:=pure_foot hp
     simp only[Foot.sees]at hs
     cases hr:e.2.2.row<;>simp[hr,this.1,this.2.2.1]at hs
    | false=>
     exact apU_lk_out (unseen hc.symm (stepF_upd haall hsa) haall hn hs hl)
   exact stepF_look hball hsb0 (fun c e hn hs hl=>by rw[<-key c e hn hs (.inr hl)];exact hl) (fun c e hn hs hl=>by rw[key c e hn hs (.inl hl)];exact hl)
 have hlb:∀ n∈a.looks,lk (putE sl b.dst (some (gb,vb))) n=lk sl n:=fun n hn=>putE_lk _ _ _ _ fun e=>hc.d2 n e hn
 have hga':guardOf (putE sl b.dst (some (gb,vb))) a.guard=some ga:=by
  rw[<-hga]
  exact guard_congr fun n p hp=>hlb n (mem_looks_guard hp)
 have hsa':stepF sp spP a.no x (putE sl b.dst (some (gb,vb))) (lk (apU m ub)) a.op=some (pa,va,ua):=by
  rw[stepF_slots fun n hn=>hlb n (mem_looks_slot hn)]
  cases haall:(footOf a.op).all with
  | true=>
   have hp:=hc.all1 haall
   have:=pure_upd hp (stepF_upd (pure_foot hp).2.2.2.2.2 hsb')
   subst this
   exact hsa
  | false=>
   have key:∀ c e,refuses a.no c=false->(footOf a.op).sees e=true->(lk m c=some e∨lk (apU m ub) c=some e)->lk (apU m ub) c=lk m c:=by
    intro c e hn hs hl
    cases hball:(footOf b.op).all with
    | true=>
     have hp:=hc.all2 hball
     have:=pure_foot hp
     simp only[Foot.sees]at hs
     cases hr:e.2.2.row<;>simp[hr,this.1,this.2.2.1]at hs
    | false=>
     exact apU_lk_out (unseen hc (stepF_upd hball hsb') hball hn hs hl)
   exact stepF_look haall hsa (fun c e hn hs hl=>by rw[key c e hn hs (.inl hl)];exact hl) (fun c e hn hs hl=>by rw[<-key c e hn hs (.inr hl)];exact hl)
 refine⟨putE sl b.dst (some (gb,vb)),apU m ub,?_,?_⟩
 ·unfold oneS;rw[hgb'];simp only;rw[hsb']
 ·unfold oneS
  rw[hga']
  simp only
  rw[hsa']
  simp only
  rw[putE_comm _ _ _ _ _ (fun d hd e=>hc.d3 d e hd)]
  have hdis:apU (apU m ub) ua=apU (apU m ua) ub:=by
   cases haall:(footOf a.op).all with
   | true=>
    have hp:=hc.all1 haall
    have:=pure_upd hp (stepF_upd (pure_foot hp).2.2.2.2.2 hsb')
    subst this;rfl
   | false=>
    cases hball:(footOf b.op).all with
    | true=>
     have hp:=hc.all2 hball
     have:=pure_upd hp (stepF_upd (pure_foot hp).2.2.2.2.2 hsa)
     subst this;rfl
    | false=>
     refine apU_comm ub ua m fun c e e' hb ha=>?_
     have hub:=stepF_upd hball hsb'
     have hua:=stepF_upd haall hsa
     rcases hub c e hb with ⟨kb1,kb2,hk⟩ | ⟨hn,e0,h0,hw,hlk,_⟩
     ·rcases hua _ e' ha with ⟨ka1,ka2,hmk⟩ | ⟨hn',e1,h1',hw',hlk',_⟩
      ·have:=hc.kk hmk hk
       omega
      ·have:=hc.k2 hk hlk' c kb1 kb2
       rw[hn']at this;cases this
     ·rcases hua _ e' ha with ⟨ka1,ka2,hmk⟩ | ⟨hn',e1,h1',hw',hlk',_⟩
      ·have:=hc.k1 hmk hlk c ka1 ka2
       rw[hn]at this;cases this
      ·rw[h0]at h1';cases h1'
       exact hc.ww c e0 hn' hn hw' hw
  rw[hdis]
end
end Go.Proofs.YtaofjnkpkocgjaaGreat.Xf
end
section 
namespace Go.Proofs.YtaofjnkpkocgjaaGreat.Xf
inductive Dep (ops:Array Oper):Nat->Nat->Prop where
 | one {a b:Nat} {o:Oper} {e:Edge} (ho:ops[b]?=some o) (he:e∈o.after) (hb:Region.binds .any e=true) (ha:e.on=a):Dep ops a b
 | more {a b:Nat} {o:Oper} {e:Edge} (ho:ops[b]?=some o) (he:e∈o.after) (hb:Region.binds .any e=true) (h:Dep ops a e.on):Dep ops a b
def edgeMask (ms:List Nat):List Edge->Nat
 | []=>0
 | e::l=>bif Region.binds .any e then (edgeMask ms l ||| (1 <<< e.on)) ||| ms.getD e.on 0 else edgeMask ms l
def edgesBack (j:Nat):List Edge->Bool
 | []=>true
 | e::l=>(!(Region.binds .any e)||decide (e.on<j))&&edgesBack j l
def pairsOk (mask:Nat) (io:IRO):List (Nat×IRO)->Bool
 | []=>true
 | (i,io')::l=>(mask.testBit i||compat io' io)&&pairsOk mask io l
def chkGo:Nat->List Nat->List (Nat×IRO)->List Oper->List IRO->Bool
 | j,ms,seen,o::os,io::ios=>edgesBack j o.after.toList&&pairsOk (edgeMask ms o.after.toList) io seen&&chkGo (j+1) (ms++[edgeMask ms o.after.toList]) ((j,io)::seen) os ios
 | _,_,_,[],[]=>true
 | _,_,_,_,_=>false
def masksOf:List Oper->List Nat->List Nat
 | [],ms=>ms
 | o::os,ms=>masksOf os (ms++[edgeMask ms o.after.toList])
def waits (ms:List Nat) (a b:Nat):Bool:=(ms.getD b 0).testBit a
def viaE (ms:List Nat) (a b:Nat):List (Nat×Nat)->Bool
 | []=>false
 | e::E=>((a==e.1||waits ms a e.1)&&(e.2==b||waits ms e.2 b))||viaE ms a b E
def pairT (ms:List Nat) (E:List (Nat×Nat)) (i j:Nat) (x y:IRO):Bool:=waits ms i j||(waits ms j i||(viaE ms i j E||(viaE ms j i E||compat x y)))
def pairs1 (ms:List Nat) (E:List (Nat×Nat)) (i:Nat) (x:IRO):Nat->List IRO->Bool
 | _,[]=>true
 | j,y::l=>pairT ms E i j x y&&pairs1 ms E i x (j+1) l
def pairsT (ms:List Nat) (E:List (Nat×Nat)):Nat->List IRO->Bool
 | _,[]=>true
 | i,x::l=>pairs1 ms E i x (i+1) l&&pairsT ms E (i+1) l
def edgesIn (pre:List Nat):List Edge->Bool
 | []=>true
 | e::l=>(!(Region.binds .any e)||noHas pre e.on)&&edgesIn pre l
def preE (pre:List Nat) (i:Nat):List (Nat×Nat)->Bool
 | []=>true
 | e::E=>(!(e.2==i)||noHas pre e.1)&&preE pre i E
def allIn (pre:List Nat):Nat->Bool
 | 0=>true
 | n+1=>noHas pre n&&allIn pre n
def ordT (ops:Array Oper) (E:List (Nat×Nat)):List Nat->List Nat->Bool
 | pre,[]=>allIn pre ops.size
 | pre,i::p=>decide (i<ops.size)&&(!(noHas pre i)&&((match ops[i]? with | some o=>edgesIn pre o.after.toList | none=>false)&&(preE pre i E&&ordT ops E (i::pre) p)))
def smallE (n:Nat):List (Nat×Nat)->Bool
 | []=>true
 | e::E=>decide (e.2<n)&&smallE n E
def chkT (ms:List Nat) (ops:Array Oper) (ios:List IRO):List (Nat×Nat)->OT->Bool
 | E,.leaf p=>decide (p.length=ops.size)&&(smallE ops.size E&&(pairsT ms E 0 ios&&ordT ops E [] p))
 | E,.split a b l r=>!(a==b)&&(chkT ms ops ios ((a,b)::E) l&&chkT ms ops ios ((b,a)::E) r)
def chkAll (t:Option OT) (ops:Array Oper) (ios:List IRO):Bool:=
 match t with
 | none=>chkGo 0 [] [] ops.toList ios
 | some t=>chkT (masksOf ops.toList []) ops ios [] t
section 
variable {P:Program} {sp:Sp} {spP:SpP} {tab:Tab} {isP:FuncId->Bool}
theorem edgeMask_dep {ops:Array Oper} {ms:List Nat} {j:Nat} {o:Oper} (ho:ops[j]?=some o) (hms:∀ (k a:Nat),(ms.getD k 0).testBit a=true->Dep ops a k) :
  ∀ (l:List Edge),(∀ e∈l,e∈o.after)->∀ a,(edgeMask ms l).testBit a=true->Dep ops a j
 | [],_,a,h=>by simp[edgeMask]at h
 | e::l,hl,a,h=>by
  simp only[edgeMask]at h
  cases hb:Region.binds .any e with
  | false=>rw[hb]at h;simp only[cond_false]at h;exact edgeMask_dep ho hms l (fun e he=>hl e (by simp[he])) a h
  | true=>
   rw[hb]at h
   simp only[cond_true,Nat.testBit_or,Bool.or_eq_true]at h
   rcases h with (h | h) | h
   ·exact edgeMask_dep ho hms l (fun e he=>hl e (by simp[he])) a h
   ·rw[Nat.one_shiftLeft,Nat.testBit_two_pow]at h
    exact .one ho (hl e (by simp)) hb (by simpa using h)
   ·exact .more ho (hl e (by simp)) hb (hms _ _ h)
theorem edgesBack_ok {j:Nat}:∀ {l:List Edge},edgesBack j l=true->∀ e∈l,Region.binds .any e=true->e.on<j
 | [],_,e,he,_=>by simp at he
 | e'::l,h,e,he,hb=>by
  simp only[edgesBack,Bool.and_eq_true]at h
  simp only[List.mem_cons]at he
  rcases he with rfl | he
  ·rw[hb]at h;simpa using h.1
  ·exact edgesBack_ok h.2 e he hb
theorem pairsOk_ok {mask:Nat} {io:IRO}:∀ {l:List (Nat×IRO)},pairsOk mask io l=true->∀ i io',(i,io')∈l->mask.testBit i=true∨compat io' io=true
 | [],_,i,io',h=>by simp at h
 | (k,x)::l,h,i,io',hm=>by
  simp only[pairsOk,Bool.and_eq_true,Bool.or_eq_true]at h
  simp only[List.mem_cons]at hm
  rcases hm with hm | hm
  ·cases hm;exact h.1
  ·exact pairsOk_ok h.2 i io' hm
theorem chkGo_ok {ops:Array Oper} {ios0:List IRO}:∀ (os:List Oper) (ios:List IRO) (j:Nat) (ms:List Nat) (seen:List (Nat×IRO)),
  (∀ i o,os[i]?=some o->ops[j+i]?=some o)->(∀ i io,ios[i]?=some io->ios0[j+i]?=some io)->ms.length=j->(∀ (k a:Nat),(ms.getD k 0).testBit a=true->Dep ops a k) ->
  (∀ i io,i<j->ios0[i]?=some io->(i,io)∈seen)->chkGo j ms seen os ios=true ->
  (∀ b o,j<=b->b<j+os.length->ops[b]?=some o->∀ e∈o.after,Region.binds .any e=true->e.on<b) /\
  ∀ a b x y,a<b->j<=b->b<j+os.length->ios0[a]?=some x->ios0[b]?=some y->Dep ops a b∨compat x y=true
 | [],[],j,ms,seen,_,_,_,_,_,_=>⟨fun b o h1 h2=>by simp at h2;omega,fun a b x y h0 h1 h2=>by simp at h2;omega⟩
 | [],_::_,j,ms,seen,_,_,_,_,_,h=>by simp[chkGo]at h
 | _::_,[],j,ms,seen,_,_,_,_,_,h=>by simp[chkGo]at h
 | o::os,io::ios,j,ms,seen,hos,hios,hlen,hms,hseen,h=>by
  simp only[chkGo,Bool.and_eq_true]at h
  obtain⟨⟨h1,h2⟩,h3⟩:=h
  have hoj:ops[j]?=some o:=by simpa using hos 0 o (by simp)
  have hioj:ios0[j]?=some io:=by simpa using hios 0 io (by simp)
  have hdep:=edgeMask_dep hoj hms o.after.toList (fun e he=>by simpa using he)
  have ih:=chkGo_ok os ios (j+1) (ms++[edgeMask ms o.after.toList]) ((j,io)::seen)
   (fun i o' hi=>by rw[show j+1+i=j+(i+1) by omega];exact hos (i+1) o' (by simpa using hi))
   (fun i io' hi=>by rw[show j+1+i=j+(i+1) by omega];exact hios (i+1) io' (by simpa using hi)) (by simp[hlen])
   (fun k a hk=>by
    rw[List.getD_eq_getElem?_getD]at hk
    rcases Nat.lt_trichotomy k ms.length with hlt | heq | hgt
    ·rw[List.getElem?_append_left hlt]at hk
     exact hms k a (by rw[List.getD_eq_getElem?_getD];exact hk)
    ·rw[List.getElem?_append_right (by omega),heq]at hk
     simp at hk
     rw[heq,hlen]
     exact hdep a hk
    ·rw[List.getElem?_eq_none (by simp;omega)]at hk
     simp at hk)
   (fun i io' hi hio=>by
    rcases Nat.lt_or_ge i j with hlt | hge
    ·exact List.mem_cons_of_mem _ (hseen i io' hlt hio)
    ·have:i=j:=by omega
     subst this
     rw[hioj]at hio;cases hio
     simp) h3
  refine⟨fun b o' hb1 hb2 ho' e he hbind=>?_,fun a b x y hab hb1 hb2 hx hy=>?_⟩
  ·by_cases hbj:b=j
   ·subst hbj
    rw[hoj]at ho';cases ho'
    exact edgesBack_ok h1 e (by simpa using he) hbind
   ·exact ih.1 b o' (by omega) (by simp at hb2;omega) ho' e he hbind
  ·by_cases hbj:b=j
   ·subst hbj
    rw[hioj]at hy;cases hy
    rcases pairsOk_ok h2 a x (hseen a x hab hx)with h | h
    ·exact .inl (hdep a h)
    ·exact .inr h
   ·exact ih.2 a b x y hab (by omega) (by simp at hb2;omega) hx hy
def evAny (sp:Sp) (spP:SpP) (ops:Array Oper) (ios:List IRO):Nat->Array Bool->List Ent->Mem->(List Ent->Mem->Prop)->Prop
 | 0,listed,sl,m,K=>Region.ready .any ops listed=[]/\K sl m
 | f+1,listed,sl,m,K=>(Region.ready .any ops listed=[]->K sl m) /\
   ∀ i∈Region.ready .any ops listed,∀ io,ios[i]?=some io->evX sp spP io sl m fun sl m=>evAny sp spP ops ios f (listed.setIfInBounds i true) sl m K
def Down (ops:Array Oper) (listed:Array Bool):Prop:=∀ a b,Dep ops a b->listed.getD b false=true->listed.getD a true=true
theorem dep_of_ready {ops:Array Oper} {listed:Array Bool} (hd:Down ops listed) {j:Nat} (hj:j∈Region.ready .any ops listed) {a:Nat} (h:Dep ops a j):listed.getD a true=true:=by
 obtain⟨hun,o,ho,hall⟩:=mem_ready.1 hj
 cases h with
 | one ho' he hb ha=>
  rw[ho]at ho';cases ho'
  subst ha
  have key:∀ n,listed.getD n false=true->listed.getD n true=true:=by
   intro n h
   rcases Nat.lt_or_ge n listed.size with h' | h'
   ·simp[h']at h ⊢;exact h
   ·simp[Array.getElem?_eq_none h']at h
  exact key _ (hall _ he hb)
 | more ho' he hb h=>
  rw[ho]at ho';cases ho'
  exact hd _ _ h (hall _ he hb)
theorem Down.step {ops:Array Oper} {listed:Array Bool} (hd:Down ops listed) {j:Nat} (hj:j∈Region.ready .any ops listed):Down ops (listed.setIfInBounds j true):=by
 intro a b hab hb
 have keep:listed.getD a true=true->(listed.setIfInBounds j true).getD a true=true:=by
  intro h
  by_cases e:j=a
  ·subst e
   by_cases hlt:j<listed.size
   ·simp[hlt]
   ·simp[hlt]
  ·rw[getD_set_ne true e];exact h
 by_cases e:j=b
 ·subst e
  exact keep (dep_of_ready hd hj hab)
 ·rw[getD_set_ne false e]at hb
  exact keep (hd a b hab hb)
theorem evAny_first {ops:Array Oper} {ios:List IRO} (hpairs:∀ a b x y,a<b->ios[a]?=some x->ios[b]?=some y->Dep ops a b∨compat x y=true) {i:Nat} {io:IRO} (hio:ios[i]?=some io) :
  ∀ (fuel:Nat) (listed:Array Bool) (sl:List Ent) (m:Mem) (K:List Ent->Mem->Prop),Down ops listed->i∈Region.ready .any ops listed ->
   (evX sp spP io sl m fun sl m=>evAny sp spP ops ios fuel (listed.setIfInBounds i true) sl m K)->evAny sp spP ops ios (fuel+1) listed sl m K:=by
 intro fuel
 induction fuel with
 | zero=>
  intro listed sl m K hd hr H
  refine⟨fun h=>(by rw[h]at hr;cases hr),fun j hj jo hjo=>?_⟩
  by_cases hji:j=i
  ·subst hji;rw[hio]at hjo;cases hjo;exact H
  ·obtain⟨p,sl',m',_,_,h0,_⟩:=H (fun _=>default)
   have:=ready_mono hj hji
   rw[h0]at this
   cases this
 | succ fuel ih=>
  intro listed sl m K hd hr H
  refine⟨fun h=>(by rw[h]at hr;cases hr),fun j hj jo hjo=>?_⟩
  by_cases hji:j=i
  ·subst hji;rw[hio]at hjo;cases hjo;exact H
  ·
   have n1:¬ Dep ops i j:=fun h=>by
    have h1:=dep_of_ready hd hj h
    have h0:=(mem_ready.1 hr).1
    rw[h1]at h0;cases h0
   have n2:¬ Dep ops j i:=fun h=>by
    have h1:=dep_of_ready hd hr h
    have h0:=(mem_ready.1 hj).1
    rw[h1]at h0;cases h0
   have hc:Compat io jo:=by
    rcases Nat.lt_or_gt_of_ne hji with h | h
    ·rcases hpairs j i jo io h hjo hio with h | h
     ·exact absurd h n2
     ·exact(compat_ok h).symm
    ·rcases hpairs i j io jo h hio hjo with h | h
     ·exact absurd h n1
     ·exact compat_ok h
   have H2:∀ x,∃ p s1 m1,oneS sp spP io x sl m=some (p,s1,m1)/\p/\∀ y,∃ q s2 m2,oneS sp spP jo y s1 m1=some (q,s2,m2)/\q/\evAny sp spP ops ios fuel ((listed.setIfInBounds i true).setIfInBounds j true) s2 m2 K:=by
    intro x
    obtain⟨p,s1,m1,h1,hp,h2⟩:=H x
    exact⟨p,s1,m1,h1,hp,fun y=>h2.2 j (ready_mono hj hji) jo hjo y⟩
   intro y
   obtain⟨p,s1,m1,h1,hp,h2⟩:=H2 (fun _=>default)
   obtain⟨q,s2,m2,h3,hq,h4⟩:=h2 y
   obtain⟨s',m',g1,g2⟩:=diamond hc h1 h3
   refine⟨q,s',m',g1,hq,ih (listed.setIfInBounds j true) s' m' K (hd.step hj) (ready_mono hr (Ne.symm hji)) ?_⟩
   intro x
   obtain⟨p',s1',m1',h1',hp',h2'⟩:=H2 x
   obtain⟨q',s2',m2',h3',hq',h4'⟩:=h2' y
   obtain⟨s'',m'',g1',g2'⟩:=diamond hc h1' h3'
   rw[g1]at g1';cases g1'
   refine⟨p',s2',m2',g2',hp',?_⟩
   rw[Array.setIfInBounds_comm _ _ hji]
   exact h4'
theorem evAny_ok {r:Option Nat} {rm:Nat} (hT:∀ t tt,tab t=some tt->TtOk P t tt) (hP:SpPOk P spP) (hS:SpOk P sp) {b1 w0:World} {W:Addr->Prop} {ops:Array Oper} {ios gs:List IRO} (hcomp:compR tab isP ops gs ops.toList=some ios) {Q:Exit->Act->World->Prop} {K':List Ent->Mem->Prop}
  (hK:∀ sl' m' a' w',K' sl' m'->Sat b1 w0 W sl' m' a' w'->Q .normal a' w'):∀ (fuel:Nat) (listed:Array Bool) (sl:List Ent) (m:Mem) (a:Act) (w:World),Sat b1 w0 W sl m a w ->
   evAny sp spP ops ios fuel listed sl m K'->wpAnyIn (rF r) rm P .any ops Q fuel listed a w:=by
 intro fuel
 induction fuel with
 | zero=>intro listed sl m a w hs h;exact⟨h.1,hK _ _ _ _ h.2 hs⟩
 | succ fuel ih=>
  intro listed sl m a w hs h
  refine⟨fun h0=>hK _ _ _ _ (h.1 h0) hs,fun i hi=>?_⟩
  obtain⟨_,o,ho,_⟩:=mem_ready.1 hi
  have hg:=compR_get hcomp
  have hlt:i<ios.length:=by rw[hg.1];simpa using(Array.getElem?_eq_some_iff.1 ho).1
  obtain⟨io,hio⟩:∃ io,ios[i]?=some io:=⟨_,List.getElem?_eq_getElem hlt⟩
  obtain⟨o',g,ho',hc⟩:=hg.2 i io hio
  have:o'=o:=by
   have h1:ops[i]?=some o':=by simpa using ho'
   rw[ho]at h1;cases h1;rfl
  subst this
  exact evO_ok hT hP hS ho hc hs (evX_iff.2 (h.2 i hi io hio)) fun sl' m' a' w' h1 h2=>ih _ _ _ _ _ h2 h1
def firstN (size n:Nat):Array Bool:=((List.range size).map fun i=>decide (i<n)).toArray
theorem firstN_getD {size n i:Nat} (d:Bool):(firstN size n).getD i d=if i<size then decide (i<n)else d:=by
 unfold firstN
 by_cases h:i<size
 ·simp[h]
 ·simp[h]
theorem firstN_zero (size:Nat):firstN size 0=Array.replicate size false:=by
 apply Array.ext
 ·simp[firstN]
 ·intro i h1 h2;simp[firstN]
theorem firstN_succ (size n:Nat):(firstN size n).setIfInBounds n true=firstN size (n+1):=by
 apply Array.ext
 ·simp[firstN]
 ·intro i h1 h2
  simp[firstN,Array.getElem_setIfInBounds]
  by_cases e:n=i
  ·subst e;simp
  ·simp[e];omega
theorem evAny_text {ops:Array Oper} {ios:List IRO} (hlen:ios.length=ops.size) (hback:∀ b o,ops[b]?=some o->∀ e∈o.after,Region.binds .any e=true->e.on<b)
  (hpairs:∀ a b x y,a<b->ios[a]?=some x->ios[b]?=some y->Dep ops a b∨compat x y=true) :
  ∀ (rest:List IRO) (i:Nat) (sl:List Ent) (m:Mem) (K:List Ent->Mem->Prop),ios.drop i=rest->i<=ops.size->evR sp spP rest sl m K->evAny sp spP ops ios (ops.size-i) (firstN ops.size i) sl m K
 | [],i,sl,m,K,hr,hi,h=>by
  have:i=ops.size:=by
   have:=congrArg List.length hr
   simp at this;omega
  subst this
  simp only[evR]at h
  rw[Nat.sub_self]
  refine⟨?_,h⟩
  rw[List.eq_nil_iff_forall_not_mem]
  intro j hj
  have h0:=(mem_ready.1 hj).1
  rw[firstN_getD]at h0
  split at h0
  ·rename_i hlt;simp at h0;omega
  ·cases h0
 | io::rest,i,sl,m,K,hr,hi,h=>by
  have hlt:i<ios.length:=by
   rcases Nat.lt_or_ge i ios.length with h | h
   ·exact h
   ·rw[List.drop_eq_nil_of_le h]at hr;cases hr
  have hio:ios[i]?=some io:=by
   have:=congrArg (fun l=>l[0]?) hr
   simpa using this
  have hrest:ios.drop (i+1)=rest:=by
   have:=congrArg List.tail hr
   simpa using this
  simp only[evR]at h
  have hx:=evX_iff.1 h
  obtain⟨o,ho⟩:∃ o,ops[i]?=some o:=⟨_,Array.getElem?_eq_getElem (by omega)⟩
  rw[show ops.size-i=(ops.size-(i+1))+1 by omega]
  refine evAny_first hpairs hio _ _ sl m K ?_ ?_ ?_
  ·
   have hdep:∀ a b,Dep ops a b->a<b:=by
    intro a b hab
    induction hab with
    | one ho he hb ha=>rw[<-ha];exact hback _ _ ho _ he hb
    | more ho he hb _ ih=>have:=hback _ _ ho _ he hb;omega
   intro a b hab hb
   rw[firstN_getD]at hb ⊢
   have:=hdep a b hab
   split at hb
   ·simp at hb
    rw[if_pos (by omega)]
    simp;omega
   ·cases hb
  ·rw[mem_ready]
   refine⟨by rw[firstN_getD,if_pos (by omega)];simp,o,ho,fun e he hb=>?_⟩
   have:=hback i o ho e he hb
   rw[firstN_getD,if_pos (by omega)]
   simpa using this
  ·intro x
   obtain⟨p,sl',m',h1,h2,h3⟩:=hx x
   refine⟨p,sl',m',h1,h2,?_⟩
   rw[firstN_succ]
   exact evAny_text hlen hback hpairs rest (i+1) sl' m' K hrest (by omega) h3
def okE (E:List (Nat×Nat)) (listed:Array Bool) (i:Nat):Prop:=∀ e∈E,e.2=i->listed.getD e.1 false=true
def DownE (E:List (Nat×Nat)) (listed:Array Bool):Prop:=∀ e∈E,listed.getD e.2 true=true->listed.getD e.1 false=true
def evAnyE (sp:Sp) (spP:SpP) (ops:Array Oper) (ios:List IRO) (E:List (Nat×Nat)):Nat->Array Bool->List Ent->Mem->(List Ent->Mem->Prop)->Prop
 | 0,listed,sl,m,K=>Region.ready .any ops listed=[]/\K sl m
 | f+1,listed,sl,m,K=>(Region.ready .any ops listed=[]->K sl m) /\
   ∀ i∈Region.ready .any ops listed,okE E listed i->∀ io,ios[i]?=some io->evX sp spP io sl m fun sl m=>evAnyE sp spP ops ios E f (listed.setIfInBounds i true) sl m K
theorem evX_mono {o:IRO} {sl:List Ent} {m:Mem} {K K':List Ent->Mem->Prop} (h:evX sp spP o sl m K) (hk:∀ sl m,K sl m->K' sl m):evX sp spP o sl m K':=fun x=>by
 obtain⟨p,s,m',h1,h2,h3⟩:=h x
 exact⟨p,s,m',h1,h2,hk _ _ h3⟩
theorem evX_and {o:IRO} {sl:List Ent} {m:Mem} {K K':List Ent->Mem->Prop} (h:evX sp spP o sl m K) (h':evX sp spP o sl m K'):evX sp spP o sl m fun sl m=>K sl m/\K' sl m:=fun x=>by
 obtain⟨p,s,m',h1,h2,h3⟩:=h x
 obtain⟨p',s',m'',g1,g2,g3⟩:=h' x
 rw[h1]at g1;cases g1
 exact⟨p,s,m',h1,h2,h3,g3⟩
theorem getD_set_keep {listed:Array Bool} {i j:Nat} (h:listed.getD i false=true):(listed.setIfInBounds j true).getD i false=true:=by
 by_cases e:j=i
 ·subst e
  by_cases hlt:j<listed.size
  ·simp[hlt]
  ·simp[hlt]at h
 ·rw[getD_set_ne false e];exact h
theorem getD_set_self {listed:Array Bool} {j:Nat} (h:listed.getD j true=false):(listed.setIfInBounds j true).getD j false=true:=by
 by_cases hlt:j<listed.size
 ·simp[hlt]
 ·simp[hlt]at h
theorem getD_tf {listed:Array Bool} {i:Nat} (h:listed.getD i false=true):listed.getD i true=true:=by
 by_cases hlt:i<listed.size
 ·simp[hlt]at h ⊢;exact h
 ·simp[hlt]at h
theorem evAnyE_nil {ops:Array Oper} {ios:List IRO}:∀ (fuel:Nat) (listed:Array Bool) (sl:List Ent) (m:Mem) (K:List Ent->Mem->Prop),evAnyE sp spP ops ios [] fuel listed sl m K->evAny sp spP ops ios fuel listed sl m K
 | 0,_,_,_,_,h=>h
 | f+1,listed,sl,m,K,h=>⟨h.1,fun i hi io hio=>evX_mono (h.2 i hi (fun e he=>by simp at he) io hio) fun sl m h=>evAnyE_nil f _ sl m K h⟩
theorem evAnyE_done {ops:Array Oper} {ios:List IRO} {E:List (Nat×Nat)} {a b:Nat}:∀ (fuel:Nat) (listed:Array Bool) (sl:List Ent) (m:Mem) (K:List Ent->Mem->Prop),listed.getD a false=true ->
  evAnyE sp spP ops ios ((a,b)::E) fuel listed sl m K->evAnyE sp spP ops ios E fuel listed sl m K
 | 0,_,_,_,_,_,h=>h
 | f+1,listed,sl,m,K,ha,h=>⟨h.1,fun i hi hok io hio=>evX_mono (h.2 i hi (fun e he h2=>by
   simp only[List.mem_cons]at he
   rcases he with rfl | he
   ·exact ha
   ·exact hok e he h2) io hio) fun sl m h=>evAnyE_done f _ sl m K (getD_set_keep ha) h⟩
theorem evAnyE_split {ops:Array Oper} {ios:List IRO} {E:List (Nat×Nat)} {a b:Nat} (hab:a≠b):∀ (fuel:Nat) (listed:Array Bool) (sl:List Ent) (m:Mem) (K:List Ent->Mem->Prop),
  evAnyE sp spP ops ios ((a,b)::E) fuel listed sl m K->evAnyE sp spP ops ios ((b,a)::E) fuel listed sl m K->evAnyE sp spP ops ios E fuel listed sl m K
 | 0,_,_,_,_,h,_=>h
 | f+1,listed,sl,m,K,h1,h2=>by
  by_cases ha:listed.getD a false=true
  ·exact evAnyE_done _ _ _ _ _ ha h1
  by_cases hb:listed.getD b false=true
  ·exact evAnyE_done _ _ _ _ _ hb h2
  refine⟨h1.1,fun i hi hok io hio=>?_⟩
  have c1:i≠b->okE ((a,b)::E) listed i:=fun hne e he h=>by
   simp only[List.mem_cons]at he
   rcases he with rfl | he
   ·exact absurd h.symm hne
   ·exact hok e he h
  have c2:i≠a->okE ((b,a)::E) listed i:=fun hne e he h=>by
   simp only[List.mem_cons]at he
   rcases he with rfl | he
   ·exact absurd h.symm hne
   ·exact hok e he h
  by_cases hia:i=a
  ·subst hia
   exact evX_mono (h1.2 i hi (c1 hab) io hio) fun sl m h=>evAnyE_done f _ sl m K (getD_set_self (mem_ready.1 hi).1) h
  by_cases hib:i=b
  ·subst hib
   exact evX_mono (h2.2 i hi (c2 (Ne.symm hab)) io hio) fun sl m h=>evAnyE_done f _ sl m K (getD_set_self (mem_ready.1 hi).1) h
  exact evX_mono (evX_and (h1.2 i hi (c1 hib) io hio) (h2.2 i hi (c2 hia) io hio)) fun sl m h=>evAnyE_split hab f _ sl m K h.1 h.2
theorem DownE.step {ops:Array Oper} {E:List (Nat×Nat)} {listed:Array Bool} (hd:DownE E listed) {j:Nat} (hok:okE E listed j):DownE E (listed.setIfInBounds j true):=by
 intro e he h
 by_cases e2:j=e.2
 ·exact getD_set_keep (hok e he e2.symm)
 ·rw[getD_set_ne true e2]at h
  exact getD_set_keep (hd e he h)
theorem evAnyE_first {ops:Array Oper} {ios:List IRO} {E:List (Nat×Nat)} (hfree:∀ listed,Down ops listed->DownE E listed->∀ i j,i≠j->i∈Region.ready .any ops listed->j∈Region.ready .any ops listed->okE E listed i->okE E listed j->∀ x y,ios[i]?=some x->ios[j]?=some y->Compat x y)
  {i:Nat} {io:IRO} (hio:ios[i]?=some io) :
  ∀ (fuel:Nat) (listed:Array Bool) (sl:List Ent) (m:Mem) (K:List Ent->Mem->Prop),Down ops listed->DownE E listed->i∈Region.ready .any ops listed->okE E listed i ->
   (evX sp spP io sl m fun sl m=>evAnyE sp spP ops ios E fuel (listed.setIfInBounds i true) sl m K)->evAnyE sp spP ops ios E (fuel+1) listed sl m K:=by
 intro fuel
 induction fuel with
 | zero=>
  intro listed sl m K hd hdE hr hok H
  refine⟨fun h=>(by rw[h]at hr;cases hr),fun j hj hokj jo hjo=>?_⟩
  by_cases hji:j=i
  ·subst hji;rw[hio]at hjo;cases hjo;exact H
  ·obtain⟨p,sl',m',_,_,h0,_⟩:=H (fun _=>default)
   have:=ready_mono hj hji
   rw[h0]at this
   cases this
 | succ fuel ih=>
  intro listed sl m K hd hdE hr hok H
  refine⟨fun h=>(by rw[h]at hr;cases hr),fun j hj hokj jo hjo=>?_⟩
  by_cases hji:j=i
  ·subst hji;rw[hio]at hjo;cases hjo;exact H
  ·have hc:Compat io jo:=hfree listed hd hdE i j (Ne.symm hji) hr hj hok hokj io jo hio hjo
   have H2:∀ x,∃ p s1 m1,oneS sp spP io x sl m=some (p,s1,m1)/\p/\∀ y,∃ q s2 m2,oneS sp spP jo y s1 m1=some (q,s2,m2)/\q/\evAnyE sp spP ops ios E fuel ((listed.setIfInBounds i true).setIfInBounds j true) s2 m2 K:=by
    intro x
    obtain⟨p,s1,m1,h1,hp,h2⟩:=H x
    exact⟨p,s1,m1,h1,hp,fun y=>h2.2 j (ready_mono hj hji) (fun e he h=>getD_set_keep (hokj e he h)) jo hjo y⟩
   intro y
   obtain⟨p,s1,m1,h1,hp,h2⟩:=H2 (fun _=>default)
   obtain⟨q,s2,m2,h3,hq,h4⟩:=h2 y
   obtain⟨s',m',g1,g2⟩:=diamond hc h1 h3
   refine⟨q,s',m',g1,hq,ih (listed.setIfInBounds j true) s' m' K (hd.step hj) (hdE.step (ops:=ops) hokj) (ready_mono hr (Ne.symm hji)) (fun e he h=>getD_set_keep (hok e he h)) ?_⟩
   intro x
   obtain⟨p',s1',m1',h1',hp',h2'⟩:=H2 x
   obtain⟨q',s2',m2',h3',hq',h4'⟩:=h2' y
   obtain⟨s'',m'',g1',g2'⟩:=diamond hc h1' h3'
   rw[g1]at g1';cases g1'
   refine⟨p',s2',m2',g2',hp',?_⟩
   rw[Array.setIfInBounds_comm _ _ hji]
   exact h4'
theorem masksOf_dep {ops:Array Oper}:∀ (os:List Oper) (ms:List Nat),(∀ i o,os[i]?=some o->ops[ms.length+i]?=some o)->(∀ (k a:Nat),(ms.getD k 0).testBit a=true->Dep ops a k) ->
  ∀ (k a:Nat),((masksOf os ms).getD k 0).testBit a=true->Dep ops a k
 | [],ms,_,h=>h
 | o::os,ms,hos,hms=>by
  have hoj:ops[ms.length]?=some o:=by simpa using hos 0 o (by simp)
  have hdep:=edgeMask_dep hoj hms o.after.toList (fun e he=>by simpa using he)
  refine masksOf_dep os (ms++[edgeMask ms o.after.toList]) (fun i o' hi=>by
   rw[List.length_append,List.length_singleton,show ms.length+1+i=ms.length+(i+1) by omega]
   exact hos (i+1) o' (by simpa using hi)) fun k a hk=>?_
  rw[List.getD_eq_getElem?_getD]at hk
  rcases Nat.lt_trichotomy k ms.length with hlt | heq | hgt
  ·rw[List.getElem?_append_left hlt]at hk
   exact hms k a (by rw[List.getD_eq_getElem?_getD];exact hk)
  ·rw[List.getElem?_append_right (by omega),heq]at hk
   simp at hk
   rw[heq]
   exact hdep a hk
  ·rw[List.getElem?_eq_none (by simp;omega)]at hk
   simp at hk
theorem viaE_ok {ms:List Nat} {a b:Nat}:∀ {E:List (Nat×Nat)},viaE ms a b E=true->∃ e∈E,(a=e.1∨waits ms a e.1=true)/\(e.2=b∨waits ms e.2 b=true)
 | [],h=>by cases h
 | e::E,h=>by
  simp only[viaE,Bool.or_eq_true,Bool.and_eq_true,beq_iff_eq]at h
  rcases h with h | h
  ·exact⟨e,by simp,h.1,h.2⟩
  ·obtain⟨e',h1,h2⟩:=viaE_ok h
   exact⟨e',by simp[h1],h2⟩
theorem via_no {ops:Array Oper} {ms:List Nat} {E:List (Nat×Nat)} (hms:∀ (k a:Nat),(ms.getD k 0).testBit a=true->Dep ops a k) {listed:Array Bool} (hd:Down ops listed) (hdE:DownE E listed) {i j:Nat}
  (hi:i∈Region.ready .any ops listed) (hj:j∈Region.ready .any ops listed) (hok:okE E listed j) (h:viaE ms i j E=true):False:=by
 obtain⟨e,he,h1,h2⟩:=viaE_ok h
 have h0:=(mem_ready.1 hi).1
 have hc:listed.getD e.1 false=true:=by
  rcases h2 with h2 | h2
  ·exact hok e he h2
  ·exact hdE e he (dep_of_ready hd hj (hms _ _ h2))
 rcases h1 with h1 | h1
 ·rw[h1,getD_tf hc]at h0;cases h0
 ·rw[hd _ _ (hms _ _ h1) hc]at h0;cases h0
theorem pairs1_ok {ms:List Nat} {E:List (Nat×Nat)} {i:Nat} {x:IRO}:∀ {l:List IRO} {j:Nat},pairs1 ms E i x j l=true->∀ k y,l[k]?=some y->pairT ms E i (j+k) x y=true
 | [],j,_,k,y,h=>by simp at h
 | z::l,j,h,k,y,hk=>by
  simp only[pairs1,Bool.and_eq_true]at h
  cases k with
  | zero=>simp at hk;subst hk;exact h.1
  | succ k=>rw[show j+(k+1)=(j+1)+k by omega];exact pairs1_ok h.2 k y (by simpa using hk)
theorem pairsT_ok {ms:List Nat} {E:List (Nat×Nat)}:∀ {l:List IRO} {i:Nat},pairsT ms E i l=true->∀ a b x y,a<b->l[a]?=some x->l[b]?=some y->pairT ms E (i+a) (i+b) x y=true
 | [],i,_,a,b,x,y,_,h,_=>by simp at h
 | z::l,i,h,a,b,x,y,hab,ha,hb=>by
  simp only[pairsT,Bool.and_eq_true]at h
  cases b with
  | zero=>omega
  | succ b=>
   cases a with
   | zero=>
    simp at ha hb;subst ha
    have:=pairs1_ok h.1 b y hb
    rw[show i+0=i by omega,show i+(b+1)=i+1+b by omega];exact this
   | succ a=>
    rw[show i+(a+1)=(i+1)+a by omega,show i+(b+1)=(i+1)+b by omega]
    exact pairsT_ok h.2 a b x y (by omega) (by simpa using ha) (by simpa using hb)
theorem free_of {ops:Array Oper} {ios:List IRO} {ms:List Nat} {E:List (Nat×Nat)} (hms:∀ (k a:Nat),(ms.getD k 0).testBit a=true->Dep ops a k) (hp:pairsT ms E 0 ios=true) :
  ∀ listed,Down ops listed->DownE E listed->∀ i j,i≠j->i∈Region.ready .any ops listed->j∈Region.ready .any ops listed->okE E listed i->okE E listed j->∀ x y,ios[i]?=some x->ios[j]?=some y->Compat x y:=by
 intro listed hd hdE
 have key:∀ i j,i<j->i∈Region.ready .any ops listed->j∈Region.ready .any ops listed->okE E listed i->okE E listed j->∀ x y,ios[i]?=some x->ios[j]?=some y->Compat x y:=by
  intro i j hij hi hj hoi hoj x y hx hy
  have h:=pairsT_ok hp i j x y hij hx hy
  rw[Nat.zero_add,Nat.zero_add]at h
  simp only[pairT,Bool.or_eq_true]at h
  rcases h with h | h | h | h | h
  ·have:=dep_of_ready hd hj (hms _ _ h)
   rw[(mem_ready.1 hi).1]at this;cases this
  ·have:=dep_of_ready hd hi (hms _ _ h)
   rw[(mem_ready.1 hj).1]at this;cases this
  ·exact(via_no hms hd hdE hi hj hoj h).elim
  ·exact(via_no hms hd hdE hj hi hoi h).elim
  ·exact compat_ok h
 intro i j hij hi hj hoi hoj x y hx hy
 rcases Nat.lt_or_gt_of_ne hij with h | h
 ·exact key i j h hi hj hoi hoj x y hx hy
 ·exact(key j i h hj hi hoj hoi y x hy hx).symm
def listedOf (size:Nat) (pre:List Nat):Array Bool:=((List.range size).map fun i=>noHas pre i).toArray
theorem listedOf_getD {size:Nat} {pre:List Nat} {i:Nat} (d:Bool):(listedOf size pre).getD i d=if i<size then noHas pre i else d:=by
 unfold listedOf
 by_cases h:i<size
 ·simp[h]
 ·simp[h]
theorem listedOf_nil (size:Nat):listedOf size []=firstN size 0:=by
 apply Array.ext
 ·simp[firstN,listedOf]
 ·intro i h1 h2;simp[firstN,listedOf,noHas]
theorem noHas_cons {i n:Nat} {pre:List Nat}:noHas (n::pre) i=(n==i||noHas pre i):=rfl
theorem listedOf_set (size n:Nat) (pre:List Nat):(listedOf size pre).setIfInBounds n true=listedOf size (n::pre):=by
 apply Array.ext
 ·simp[listedOf]
 ·intro i h1 h2
  simp only[listedOf,Array.getElem_setIfInBounds,List.getElem_toArray,List.getElem_map,List.getElem_range,noHas_cons]
  by_cases e:n=i
  ·subst e;simp
  ·simp[e]
theorem edgesIn_ok {pre:List Nat}:∀ {l:List Edge},edgesIn pre l=true->∀ e∈l,Region.binds .any e=true->noHas pre e.on=true
 | [],_,e,he,_=>by simp at he
 | e'::l,h,e,he,hb=>by
  simp only[edgesIn,Bool.and_eq_true]at h
  simp only[List.mem_cons]at he
  rcases he with rfl | he
  ·rw[hb]at h;simpa using h.1
  ·exact edgesIn_ok h.2 e he hb
theorem preE_ok {pre:List Nat} {i:Nat}:∀ {E:List (Nat×Nat)},preE pre i E=true->∀ e∈E,e.2=i->noHas pre e.1=true
 | [],_,e,he,_=>by simp at he
 | e'::E,h,e,he,hi=>by
  simp only[preE,Bool.and_eq_true]at h
  simp only[List.mem_cons]at he
  rcases he with rfl | he
  ·subst hi;simpa using h.1
  ·exact preE_ok h.2 e he hi
theorem allIn_ok {pre:List Nat}:∀ {n:Nat},allIn pre n=true->∀ i,i<n->noHas pre i=true
 | 0,_,i,h=>by omega
 | n+1,h,i,hi=>by
  simp only[allIn,Bool.and_eq_true]at h
  by_cases e:i=n
  ·subst e;exact h.1
  ·exact allIn_ok h.2 i (by omega)
theorem smallE_ok {n:Nat}:∀ {E:List (Nat×Nat)},smallE n E=true->∀ e∈E,e.2<n
 | [],_,e,he=>by simp at he
 | e'::E,h,e,he=>by
  simp only[smallE,Bool.and_eq_true,decide_eq_true_eq]at h
  simp only[List.mem_cons]at he
  rcases he with rfl | he
  ·exact h.1
  ·exact smallE_ok h.2 e he
theorem noHas_has {l:List Nat} {c:Nat} (h:noHas l c=true):c∈l:=by
 induction l with
 | nil=>cases h
 | cons a l ih=>
  simp only[noHas,Bool.or_eq_true,beq_iff_eq]at h
  rcases h with h | h
  ·simp[h]
  ·simp[ih h]
theorem evAnyE_ord {ops:Array Oper} {ios:List IRO} {E:List (Nat×Nat)} (hlen:ios.length=ops.size) (hfree:∀ listed,Down ops listed->DownE E listed->∀ i j,i≠j->i∈Region.ready .any ops listed->j∈Region.ready .any ops listed->okE E listed i->okE E listed j->∀ x y,ios[i]?=some x->ios[j]?=some y->Compat x y) :
  ∀ (p pre:List Nat) (fuel:Nat) (sl:List Ent) (m:Mem) (K:List Ent->Mem->Prop),ordT ops E pre p=true->p.length<=fuel->(∀ x∈pre,x<ops.size)->Down ops (listedOf ops.size pre)->DownE E (listedOf ops.size pre) ->
   evR sp spP (pickL ios p) sl m K->evAnyE sp spP ops ios E fuel (listedOf ops.size pre) sl m K
 | [],pre,fuel,sl,m,K,ho,_,hpre,hd,hdE,h=>by
  simp only[ordT]at ho
  have hr:Region.ready .any ops (listedOf ops.size pre)=[]:=by
   rw[List.eq_nil_iff_forall_not_mem]
   intro j hj
   have h0:=(mem_ready.1 hj).1
   rw[listedOf_getD]at h0
   split at h0
   ·rename_i hlt;rw[allIn_ok ho j hlt]at h0;cases h0
   ·cases h0
  simp only[pickL,evR]at h
  cases fuel with
  | zero=>exact⟨hr,h⟩
  | succ f=>exact⟨fun _=>h,fun i hi=>by rw[hr]at hi;cases hi⟩
 | i::p,pre,0,sl,m,K,_,hf,_,_,_,_=>by simp at hf
 | i::p,pre,fuel+1,sl,m,K,ho,hf,hpre,hd,hdE,h=>by
  simp only[ordT,Bool.and_eq_true,decide_eq_true_eq,Bool.not_eq_true']at ho
  obtain⟨hlt,hno,hed,hE,ho⟩:=ho
  obtain⟨io,hio⟩:∃ io,ios[i]?=some io:=⟨_,List.getElem?_eq_getElem (by omega)⟩
  obtain⟨o,hop⟩:∃ o,ops[i]?=some o:=⟨_,Array.getElem?_eq_getElem hlt⟩
  rw[hop]at hed
  have hin:∀ c,noHas pre c=true->(listedOf ops.size pre).getD c false=true:=fun c hc=>by
   rw[listedOf_getD,if_pos (hpre c (noHas_has hc)),hc]
  have hready:i∈Region.ready .any ops (listedOf ops.size pre):=by
   rw[mem_ready]
   refine⟨by rw[listedOf_getD,if_pos hlt,hno],o,hop,fun e he hb=>hin _ (edgesIn_ok hed e (by simpa using he) hb)⟩
  have hok:okE E (listedOf ops.size pre) i:=fun e he h2=>hin _ (preE_ok hE e he h2)
  simp only[pickL,getO_eq,hio,evR]at h
  refine evAnyE_first hfree hio _ _ sl m K hd hdE hready hok ?_
  refine evX_mono (evX_iff.1 h) fun sl' m' h'=>?_
  rw[listedOf_set]
  refine evAnyE_ord hlen hfree p (i::pre) fuel sl' m' K ho (by simpa using hf) (fun x hx=>?_) ?_ ?_ h'
  ·simp only[List.mem_cons]at hx
   rcases hx with rfl | hx
   ·exact hlt
   ·exact hpre x hx
  ·rw[<-listedOf_set];exact hd.step hready
  ·rw[<-listedOf_set];exact hdE.step (ops:=ops) hok
theorem chkT_ok {ops:Array Oper} {ios:List IRO} {ms:List Nat} (hlen:ios.length=ops.size) (hms:∀ (k a:Nat),(ms.getD k 0).testBit a=true->Dep ops a k) (hdep:∀ a b,Dep ops a b->b<ops.size) {sl:List Ent} {m:Mem} {K:List Ent->Mem->Prop} :
  ∀ (t:OT) (E:List (Nat×Nat)),chkT ms ops ios E t=true->evT sp spP ios sl m K t->evAnyE sp spP ops ios E ops.size (firstN ops.size 0) sl m K
 | .leaf p,E,hc,h=>by
  simp only[chkT,Bool.and_eq_true,decide_eq_true_eq]at hc
  obtain⟨h1,h2,h3,h4⟩:=hc
  rw[<-listedOf_nil]
  refine evAnyE_ord hlen (free_of hms h3) p [] ops.size sl m K h4 (by omega) (by simp) (fun a b hab hb=>?_) (fun e he hb=>?_) h
  ·rw[listedOf_getD,if_pos (hdep a b hab)]at hb
   cases hb
  ·rw[listedOf_getD,if_pos (smallE_ok h2 e he)]at hb
   cases hb
 | .split a b l r,E,hc,h=>by
  simp only[chkT,Bool.and_eq_true,Bool.not_eq_true',beq_eq_false_iff_ne,ne_eq]at hc
  exact evAnyE_split hc.1 _ _ _ _ _ (chkT_ok hlen hms hdep l _ hc.2.1 h.1) (chkT_ok hlen hms hdep r _ hc.2.2 h.2)
theorem draw_ok (hm:P.follows .mixedOrders=true) (hT:∀ t tt,tab t=some tt->TtOk P t tt) (hP:SpPOk P spP) (hS:SpOk P sp):DrawOk P tab isP sp spP chkAll:=by
 refine⟨?_,fun t r rm ops ios gs hcomp hchk b1 w0 W id sl m a w K' Q hK hs h=>?_⟩
 case refine_2=>
  have hg:=compR_get hcomp
  have hlen:ios.length=ops.size:=by rw[hg.1];simp
  refine wpIn_region_any hm ?_
  rw[<-firstN_zero]
  have hs':Sat b1 w0 W sl m a w.drew:=⟨hs.defers,hs.size,hs.slots,hs.mem.drew,hs.kept.trans (Kept.drew w W) (fun _ h _=>h)⟩
  refine evAny_ok hT hP hS hcomp hK ops.size (firstN ops.size 0) sl m a w.drew hs' ?_
  refine evAnyE_nil _ _ _ _ _ (chkT_ok (ms:=masksOf ops.toList []) hlen (masksOf_dep ops.toList [] (fun i o ho=>by simpa using ho) (by simp)) (fun a b hab=>?_) t [] hchk h)
  cases hab with
  | one ho=>exact(Array.getElem?_eq_some_iff.1 ho).1
  | more ho=>exact(Array.getElem?_eq_some_iff.1 ho).1
 intro r rm ops ios gs hcomp hchk b1 w0 W id sl m a w K' Q hK hs h
 have hg:=compR_get hcomp
 have hlen:ios.length=ops.size:=by rw[hg.1];simp
 have hk:=chkGo_ok (ops:=ops) (ios0:=ios) ops.toList ios 0 [] [] (by simp) (by simp) rfl (by simp) (by simp) hchk
 refine wpIn_region_any hm ?_
 rw[<-firstN_zero]
 have hs':Sat b1 w0 W sl m a w.drew:=⟨hs.defers,hs.size,hs.slots,hs.mem.drew,hs.kept.trans (Kept.drew w W) (fun _ h _=>h)⟩
 refine evAny_ok hT hP hS hcomp hK ops.size (firstN ops.size 0) sl m a w.drew hs' ?_
 exact evAny_text hlen (fun b o ho e he hb=>hk.1 b o (by omega) (by simpa using(Array.getElem?_eq_some_iff.1 ho).1) ho e he hb)
  (fun a b x y hab hx hy=>hk.2 a b x y hab (by omega) (by
   have:=(List.getElem?_eq_some_iff.1 hy).1
   simp;omega) hx hy) ios 0 sl m K' (by simp) (by omega) h
end
end Go.Proofs.YtaofjnkpkocgjaaGreat.Xf
end
