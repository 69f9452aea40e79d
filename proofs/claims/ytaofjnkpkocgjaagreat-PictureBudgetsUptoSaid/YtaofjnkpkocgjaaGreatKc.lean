import Derived.Test.YtaofjnkpkocgjaaGreatKb
import Derived.ProofKit
import Derived.ChangeArms
import Derived.ChangeSlices
import Derived.SizedLaws
set_option linter.unusedVariables false
set_option linter.unusedSimpArgs false
section 
namespace Go.Proofs.YtaofjnkpkocgjaaGreat.Xf
mutual
def eqv:SV->SV->Prop
 | .int k n,v=>v=.int k n
 | .bool b,v=>v=.bool b
 | .ptr _ L i s f,v=>match v with | .ptr _ L' i' s' f'=>L=L'/\i=i'/\s=s'/\f=f' | _=>False
 | .sl _ L s lo n,v=>match v with | .sl _ L' s' lo' n'=>L=L'/\s=s'/\lo=lo'/\n=n' | _=>False
 | .agg cs,v=>match v with | .agg ds=>eqvs cs ds | _=>False
 | .tup cs,v=>match v with | .tup ds=>eqvs cs ds | _=>False
 | .fn f cs,v=>match v with | .fn g ds=>f=g/\eqvs cs ds | _=>False
 | .val x,v=>v=.val x
def eqvs:List SV->List SV->Prop
 | [],l=>match l with | []=>True | _=>False
 | c::cs,l=>match l with | d::ds=>eqv c d/\eqvs cs ds | []=>False
end
mutual
theorem eqv_den:∀ {v v':SV} {x:Value},eqv v v'->(Den v x↔Den v' x)
 | .int k n,v',x,h=>by simp only[eqv]at h;rw[h]
 | .bool b,v',x,h=>by simp only[eqv]at h;rw[h]
 | .ptr c L i s f,v',x,h=>by
  cases v'<;>simp only[eqv]at h
  obtain⟨rfl,rfl,rfl,rfl⟩:=h;simp only[Den]
 | .sl c L s lo n,v',x,h=>by
  cases v'<;>simp only[eqv]at h
  obtain⟨rfl,rfl,rfl,rfl⟩:=h;simp only[Den]
 | .agg cs,v',x,h=>by
  cases v'<;>simp only[eqv]at h
  simp only[Den]
  exact⟨fun⟨vs,h1,h2⟩=>⟨vs,h1,(eqvs_den h).1 h2⟩,fun⟨vs,h1,h2⟩=>⟨vs,h1,(eqvs_den h).2 h2⟩⟩
 | .tup cs,v',x,h=>by
  cases v'<;>simp only[eqv]at h
  simp only[Den]
  exact⟨fun⟨vs,h1,h2⟩=>⟨vs,h1,(eqvs_den h).1 h2⟩,fun⟨vs,h1,h2⟩=>⟨vs,h1,(eqvs_den h).2 h2⟩⟩
 | .fn f cs,v',x,h=>by
  cases v'<;>simp only[eqv]at h
  obtain⟨rfl,h⟩:=h
  simp only[Den]
  exact⟨fun⟨vs,h1,h2⟩=>⟨vs,h1,(eqvs_den h).1 h2⟩,fun⟨vs,h1,h2⟩=>⟨vs,h1,(eqvs_den h).2 h2⟩⟩
 | .val u,v',x,h=>by simp only[eqv]at h;rw[h]
theorem eqvs_den:∀ {cs ds:List SV} {vs:List Value},eqvs cs ds->(Dens cs vs↔Dens ds vs)
 | [],ds,vs,h=>by
  cases ds<;>simp only[eqvs]at h
  rfl
 | c::cs,ds,vs,h=>by
  cases ds<;>simp only[eqvs]at h
  simp only[Dens]
  exact⟨fun⟨v,vs',h1,h2,h3⟩=>⟨v,vs',h1,(eqv_den h.1).1 h2,(eqvs_den h.2).1 h3⟩,fun⟨v,vs',h1,h2,h3⟩=>⟨v,vs',h1,(eqv_den h.1).2 h2,(eqvs_den h.2).2 h3⟩⟩
end
theorem eqvs_get:∀ {cs ds:List SV},eqvs cs ds->cs.length=ds.length/\∀ (i:Nat) (c d:SV),cs[i]?=some c->ds[i]?=some d->eqv c d
 | [],[],_=>by simp
 | [],d::ds,h=>by simp[eqvs]at h
 | c::cs,[],h=>by simp[eqvs]at h
 | c::cs,d::ds,h=>by
  simp only[eqvs]at h
  have ih:=eqvs_get h.2
  refine⟨by simp[ih.1],fun i c' d' hc hd=>?_⟩
  cases i with
  | zero=>simp at hc hd;subst hc hd;exact h.1
  | succ i=>exact ih.2 i c' d' (by simpa using hc) (by simpa using hd)
mutual
theorem eqv_symm:∀ {v v':SV},eqv v v'->eqv v' v
 | .int k n,v',h=>by simp only[eqv]at h;subst h;simp only[eqv]
 | .bool b,v',h=>by simp only[eqv]at h;subst h;simp only[eqv]
 | .ptr c L i s f,v',h=>by
  cases v'<;>simp only[eqv]at h ⊢
  obtain⟨rfl,rfl,rfl,rfl⟩:=h;exact⟨rfl,rfl,rfl,rfl⟩
 | .sl c L s lo n,v',h=>by
  cases v'<;>simp only[eqv]at h ⊢
  obtain⟨rfl,rfl,rfl,rfl⟩:=h;exact⟨rfl,rfl,rfl,rfl⟩
 | .agg cs,v',h=>by
  cases v'<;>simp only[eqv]at h ⊢
  exact eqvs_symm h
 | .tup cs,v',h=>by
  cases v'<;>simp only[eqv]at h ⊢
  exact eqvs_symm h
 | .fn f cs,v',h=>by
  cases v'<;>simp only[eqv]at h ⊢
  exact⟨h.1.symm,eqvs_symm h.2⟩
 | .val u,v',h=>by simp only[eqv]at h;subst h;simp only[eqv]
theorem eqvs_symm:∀ {cs ds:List SV},eqvs cs ds->eqvs ds cs
 | [],ds,h=>by
  cases ds<;>simp only[eqvs]at h ⊢
 | c::cs,ds,h=>by
  cases ds<;>simp only[eqvs]at h ⊢
  exact⟨eqv_symm h.1,eqvs_symm h.2⟩
end
def chEq:Chunk->Chunk->Prop
 | .ints k xs,.ints k' ys=>k=k'/\xs=ys
 | .bools xs,.bools ys=>xs=ys
 | .cells cs,.cells ds=>eqvs cs ds
 | .recs s fr _ l,.recs s' fr' _ l'=>s=s'/\l=l'/\(fr'=true->fr=true)
 | _,_=>False
theorem chEq_ok {c d:Chunk} (h:chEq c d):c.len=d.len/\(∀ L,c.ext L=d.ext L)/\(∀ L,c.fits L↔d.fits L)/\(∀ o x,o<c.len->(Den (c.cell o) x↔Den (d.cell o) x))/\(∀ L k xs,c.rows L k xs↔d.rows L k xs)/\(d.fr=true->c.fr=true):=by
 cases c<;>cases d<;>simp only[chEq]at h
 ·obtain⟨rfl,rfl⟩:=h;exact⟨rfl,fun _=>rfl,fun _=>Iff.rfl,fun _ _ _=>Iff.rfl,fun _ _ _=>Iff.rfl,id⟩
 ·subst h;exact⟨rfl,fun _=>rfl,fun _=>Iff.rfl,fun _ _ _=>Iff.rfl,fun _ _ _=>Iff.rfl,id⟩
 ·rename_i cs ds
  have hg:=eqvs_get h
  refine⟨hg.1,fun _=>hg.1,fun _=>Iff.rfl,fun o x ho=>?_,fun _ _ _=>Iff.rfl,id⟩
  simp only[Chunk.len]at ho
  have h1:cs[o]?=some cs[o]:=List.getElem?_eq_getElem ho
  have h2:ds[o]?=some (ds[o]'(by omega)):=List.getElem?_eq_getElem (by omega)
  simp only[Chunk.cell,List.getD_eq_getElem?_getD,h1,h2,Option.getD_some]
  exact eqv_den (hg.2 o _ _ h1 h2)
 ·obtain⟨rfl,rfl,h⟩:=h;exact⟨rfl,fun _=>rfl,fun _=>Iff.rfl,fun _ _ _=>Iff.rfl,fun _ _ _=>Iff.rfl,h⟩
def ownLe:Own->Own->Prop
 | _,.ro=>True
 | .rof,.rof=>True
 | .mine,.rof=>True
 | .mine,.mine=>True
 | .lent,.lent=>True
 | .mine,.got=>True
 | .lent,.got=>True
 | .got,.got=>True
 | _,_=>False
theorem ownLe.wr {own own':Own} (h:ownLe own own') (hw:own'.wr=true):own.wr=true:=by
 cases own<;>cases own'<;>first | exact h.elim | rfl | (cases hw;done)
theorem ownLe.home {own own':Own} (h:ownLe own own') {w0:World} {W:Addr->Prop} {a:Addr} (ha:homeOk w0 W own a):homeOk w0 W own' a:=by
 cases own<;>cases own'<;>first | exact h.elim | trivial | exact ha | exact .inl ha | exact .inr ha
theorem rows_iff {c d:Chunk} (h:∀ L k xs,c.rows L k xs↔d.rows L k xs) (a:Addr):rows c a↔rows d a:=
 ⟨fun⟨L,k,xs,hr,h'⟩=>⟨L,k,xs,(h _ _ _).1 hr,h'⟩,fun⟨L,k,xs,hr,h'⟩=>⟨L,k,xs,(h _ _ _).2 hr,h'⟩⟩
theorem eq_feet {own own':Own} {L:Loc} {c d:Chunk} (e:chEq c d) (ho:ownLe own own') (hf:c.fits L):(∀ a,wf (own',L,d) a->wf (own,L,c) a)/\(∀ a,rf (own',L,d) a->rf (own,L,c) a)/\reg (own',L,d)<=reg (own,L,c):=by
 obtain⟨h1,h2,h3,h4,h5,_⟩:=chEq_ok e
 have hle:=Chunk.len_le_ext hf
 have hreg:reg (own',L,d)<=reg (own,L,c):=by
  unfold reg
  cases hw:own'.wr with
  | true=>simp only[ho.wr hw,cond_true];rw[h2 L];exact Nat.le_refl _
  | false=>
   cases hw2:own.wr with
   | true=>simp only[cond_true,cond_false];rw[<-h1];exact hle
   | false=>simp only[cond_false];rw[h1];exact Nat.le_refl _
 refine⟨fun a ⟨g1,o,g2,g3⟩=>⟨ho.wr g1,o,?_,g3⟩,fun a ha=>?_,hreg⟩
 ·simp only at g2 ⊢;rw[h2 L];exact g2
 ·rcases ha with ⟨o,ho',e'⟩ | h
  ·exact .inl ⟨o,Nat.lt_of_lt_of_le ho' hreg,e'⟩
  ·exact .inr ((rows_iff h5 a).2 h)
theorem ChunkSat.eq {w0 w:World} {W:Addr->Prop} {own own':Own} {L:Loc} {c d:Chunk} (h:ChunkSat w0 W (own,L,c) w) (e:chEq c d) (ho:ownLe own own'):ChunkSat w0 W (own',L,d) w:=by
 obtain⟨h1,h2,h3,h4,h5,h6⟩:=chEq_ok e
 obtain⟨f1,f2,f3⟩:=eq_feet e ho h.fits
 refine⟨fun o ho=>?_,fun L' k xs hr=>?_,fun a ha hra=>h.self a (f1 a ha) ((rows_iff h5 a).2 hra),fun hn o hlt=>?_,(h3 L).1 h.fits,fun o hlt=>ho.home (h.home o (Nat.lt_of_lt_of_le hlt f3))⟩
 ·simp only at ho
  obtain⟨v,hv,hd⟩:=h.cell o (by simp only;omega)
  exact⟨v,hv,(h4 o v (by omega)).1 hd⟩
 ·obtain⟨g1,g2,g3,g4⟩:=h.row L' k xs ((h5 _ _ _).2 hr)
  exact⟨g1,g2,g3,fun hf=>g4 (h6 hf)⟩
 ·simp only at hlt
  exact h.mineW (ho.wr hn) o (by simp only[h2 L];exact hlt)
def chNil:Chunk->Prop
 | .ints _ xs=>xs=[]
 | .bools xs=>xs=[]
 | .cells _=>False
 | .recs s _ _ l=>l=[]/\0<s
def idHas:List (Option Nat)->Nat->Bool
 | [],_=>false
 | none::l,c=>idHas l c
 | some d::l,c=>d==c||idHas l c
def idNodup:List (Option Nat)->Bool
 | []=>true
 | none::l=>idNodup l
 | some d::l=>!idHas l d&&idNodup l
def memC (m:Mem):List (Option Nat)->Mem->Prop
 | _,[]=>True
 | g,none::m'=>memC m g.tail m'
 | some d::g,some (own',L',ch')::m'=>(match lk m d with | some (own,L,ch)=>ownLe own own'/\L=L'/\chEq ch ch' | none=>False)/\memC m g m'
 | none::g,some (own',L',ch')::m'=>L'=nilLoc/\chNil ch'/\memC m g m'
 | [],some _::_=>False
def used:List (Option Nat)->Mem->List (Option Nat)
 | _,[]=>[]
 | g,none::m'=>used g.tail m'
 | d::g,some _::m'=>d::used g m'
 | [],some _::m'=>used [] m'
theorem memC_get {m:Mem}:∀ {m':Mem} {g:List (Option Nat)},memC m g m'->∀ {c:Nat} {own':Own} {L':Loc} {ch':Chunk},lk m' c=some (own',L',ch') ->
  (∃ d own ch,g[c]?=some (some d)/\lk m d=some (own,L',ch)/\chEq ch ch'/\ownLe own own')∨(L'=nilLoc/\chNil ch')
 | [],g,h,c,own',L',ch',hc=>by simp[lk]at hc
 | none::m',g,h,c,own',L',ch',hc=>by
  simp only[memC]at h
  cases c with
  | zero=>simp[lk]at hc
  | succ c=>
   simp only[lk]at hc
   rcases memC_get h hc with ⟨d,own,ch,h1,h2,h3⟩ | h
   ·refine .inl ⟨d,own,ch,?_,h2,h3⟩
    cases g<;>first | (simp at h1;done) | simpa using h1
   ·exact .inr h
 | some e::m',[],h,c,own',L',ch',hc=>by simp[memC]at h
 | some (o,M,k)::m',some d::g,h,c,own',L',ch',hc=>by
  simp only[memC]at h
  cases c with
  | zero=>
   simp only[lk]at hc
   cases hc
   have h1:=h.1
   split at h1
   ·rename_i own L ch hl
    obtain⟨h2,rfl,h3⟩:=h1
    exact .inl ⟨d,own,ch,by simp,hl,h3,h2⟩
   ·exact h1.elim
  | succ c=>
   simp only[lk]at hc
   rcases memC_get h.2 hc with ⟨d,own,ch,h1,h2,h3⟩ | h
   ·exact .inl ⟨d,own,ch,by simpa using h1,h2,h3⟩
   ·exact .inr h
 | some (o,M,k)::m',none::g,h,c,own',L',ch',hc=>by
  simp only[memC]at h
  cases c with
  | zero=>
   simp only[lk]at hc
   cases hc
   exact .inr ⟨h.1,h.2.1⟩
  | succ c=>
   simp only[lk]at hc
   rcases memC_get h.2.2 hc with ⟨d,own,ch,h1,h2,h3⟩ | h
   ·exact .inl ⟨d,own,ch,by simpa using h1,h2,h3⟩
   ·exact .inr h
theorem idHas_mem:∀ {l:List (Option Nat)} {c:Nat},some c∈l->idHas l c=true
 | none::l,c,h=>by simp at h;simpa [idHas]using idHas_mem h
 | some d::l,c,h=>by
  simp at h
  rcases h with rfl | h
  ·simp[idHas]
  ·simp[idHas,idHas_mem h]
theorem used_nodup {m':Mem}:∀ {g:List (Option Nat)},idNodup (used g m')=true->∀ {c c':Nat} {e e':ME} {d:Nat},lk m' c=some e->lk m' c'=some e'->g[c]?=some (some d)->g[c']?=some (some d)->c=c':=by
 induction m' with
 | nil=>intro g h c c' e e' d h1;simp[lk]at h1
 | cons x m' ih=>
  have usedMem:∀ (m':Mem) (g:List (Option Nat)) (c:Nat) (e:ME) (d:Nat),lk m' c=some e->g[c]?=some (some d)->some d∈used g m':=by
   intro m'
   induction m' with
   | nil=>intro g c e d h;simp[lk]at h
   | cons x m' ih=>
    intro g c e d h1 h2
    cases x with
    | none=>
     cases c with
     | zero=>simp[lk]at h1
     | succ c=>simp only[lk]at h1;simp only[used];exact ih _ c e d h1 (by cases g<;>first | (simp at h2;done) | simpa using h2)
    | some x=>
     cases g with
     | nil=>simp at h2
     | cons y g=>
      cases c with
      | zero=>simp at h2;simp[used,h2]
      | succ c=>simp only[lk]at h1;simp only[used,List.mem_cons];exact .inr (ih _ c e d h1 (by simpa using h2))
  intro g h c c' e e' d h1 h2 h3 h4
  cases x with
  | none=>
   cases c with
   | zero=>simp[lk]at h1
   | succ c=>
    cases c' with
    | zero=>simp[lk]at h2
    | succ c'=>
     simp only[lk]at h1 h2
     have:=ih (g:=g.tail) (by simpa [used]using h) h1 h2 (by cases g<;>first | (simp at h3;done) | simpa using h3) (by cases g<;>first | (simp at h4;done) | simpa using h4)
     omega
  | some x=>
   cases g with
   | nil=>simp at h3
   | cons y g=>
    have hy:∀ n,y=some n->idHas (used g m') n=false/\idNodup (used g m')=true:=by
     intro n hn;subst hn;simpa [used,idNodup]using h
    have hrest:idNodup (used g m')=true:=by
     cases y with
     | none=>simpa [used,idNodup]using h
     | some n=>exact(hy n rfl).2
    cases c with
    | zero=>
     cases c' with
     | zero=>rfl
     | succ c'=>
      simp at h3 h4
      simp only[lk]at h2
      have:=idHas_mem (usedMem m' g c' e' d h2 h4)
      rw[(hy d h3).1]at this
      cases this
    | succ c=>
     cases c' with
     | zero=>
      simp at h3 h4
      simp only[lk]at h1
      have:=idHas_mem (usedMem m' g c e d h1 h3)
      rw[(hy d h4).1]at this
      cases this
     | succ c'=>
      simp only[lk]at h1 h2
      have:=ih hrest h1 h2 (by simpa using h3) (by simpa using h4)
      omega
theorem chNil_len {ch:Chunk} (h:chNil ch):ch.len=0/\ch.ext nilLoc=0/\ch.fits nilLoc/\∀ L k xs,¬ ch.rows L k xs:=by
 cases ch<;>simp only[chNil]at h
 ·subst h;exact⟨rfl,rfl,by simp[Chunk.fits,nilLoc0],fun _ _ _ h=>h⟩
 ·subst h;exact⟨rfl,rfl,by simp[Chunk.fits,nilLoc0],fun _ _ _ h=>h⟩
 ·obtain⟨rfl,hs⟩:=h
  exact⟨by simp[Chunk.len],by simp[Chunk.ext,nilLoc0],by simp[Chunk.fits,nilLoc0,hs],fun _ _ _ ⟨r,hr,_⟩=>by simp at hr⟩
theorem nil_reg {ch:Chunk} (h:chNil ch) (own:Own):reg (own,nilLoc,ch)=0:=by
 obtain⟨g1,g2,g3,g4⟩:=chNil_len h
 unfold reg
 cases own.wr
 ·exact g1
 ·exact g2
theorem nil_feet {ch:Chunk} (h:chNil ch) (own:Own) (a:Addr):¬ wf (own,nilLoc,ch) a/\¬ rf (own,nilLoc,ch) a:=by
 obtain⟨g1,g2,g3,g4⟩:=chNil_len h
 refine⟨fun⟨_,o,ho,_⟩=>by simp only at ho;omega,fun hr=>?_⟩
 rcases hr with ⟨o,ho,_⟩ | ⟨L,k,xs,hr,_⟩
 ·rw[nil_reg h]at ho;omega
 ·exact g4 _ _ _ hr
theorem nil_sat {w0 w:World} {W:Addr->Prop} {ch:Chunk} (h:chNil ch) (own:Own):ChunkSat w0 W (own,nilLoc,ch) w:=by
 obtain⟨g1,g2,g3,g4⟩:=chNil_len h
 exact⟨fun o ho=>by simp only at ho;omega,fun L k xs hr=>(g4 _ _ _ hr).elim,fun a ha=>((nil_feet h own a).1 ha).elim,fun _ o ho=>by simp only at ho;omega,g3,fun o ho=>by rw[nil_reg h]at ho;omega⟩
theorem MemSat.memC {w0 w:World} {W:Addr->Prop} {m m':Mem} {g:List (Option Nat)} (h:MemSat w0 W m w) (hc:memC m g m') (hn:idNodup (used g m')=true):MemSat w0 W m' w:=by
 refine⟨fun c e he=>?_,fun c d e f hcd he hf a ha hra=>?_⟩
 ·obtain⟨own,L,ch⟩:=e
  rcases memC_get hc he with ⟨d,own0,ch0,h1,h2,h3,h4⟩ | ⟨rfl,h3⟩
  ·exact(h.chunk d _ h2).eq h3 h4
  ·exact nil_sat h3 own
 ·obtain⟨own,L,ch⟩:=e
  obtain⟨own',L',ch'⟩:=f
  rcases memC_get hc he with ⟨i,own0,ch0,h1,h2,h3,h4⟩ | ⟨rfl,h3⟩
  ·rcases memC_get hc hf with ⟨j,own1,ch1,k1,k2,k3,k4⟩ | ⟨rfl,k3⟩
   ·have hij:i≠j:=fun e=>hcd (used_nodup hn he hf h1 (by rw[k1,e]))
    exact h.sep i j _ _ hij h2 k2 a ((eq_feet h3 h4 (h.chunk i _ h2).fits).1 a ha) ((eq_feet k3 k4 (h.chunk j _ k2).fits).2.1 a hra)
   ·exact(nil_feet k3 _ a).2 hra
  ·exact(nil_feet h3 _ a).1 ha
def slotC:List Ent->List Ent->Prop
 | [],[]=>True
 | _::l,none::l'=>slotC l l'
 | some (c,v)::l,some (c',v')::l'=>c=true/\c'=true/\eqv v v'/\slotC l l'
 | _,_=>False
theorem slotC_get:∀ {l l':List Ent},slotC l l'->l.length=l'.length/\∀ n c v,lk l' n=some (c,v)->c=true/\∃ v0,lk l n=some (true,v0)/\eqv v0 v
 | [],[],_=>by simp[lk]
 | [],none::l',h=>by simp[slotC]at h
 | [],some _::l',h=>by simp[slotC]at h
 | x::l,[],h=>by simp[slotC]at h
 | x::l,none::l',h=>by
  simp only[slotC]at h
  have ih:=slotC_get h
  refine⟨by simp[ih.1],fun n c v hn=>?_⟩
  cases n with
  | zero=>simp[lk]at hn
  | succ n=>simp only[lk]at hn ⊢;exact ih.2 n c v hn
 | none::l,some e::l',h=>by simp[slotC]at h
 | some (c0,v0)::l,some (c1,v1)::l',h=>by
  simp only[slotC]at h
  obtain⟨rfl,rfl,he,h⟩:=h
  have ih:=slotC_get h
  refine⟨by simp[ih.1],fun n c v hn=>?_⟩
  cases n with
  | zero=>simp only[lk]at hn ⊢;cases hn;exact⟨rfl,v0,rfl,he⟩
  | succ n=>simp only[lk]at hn ⊢;exact ih.2 n c v hn
theorem Sub.of {sl sl':List Ent} {m m':Mem} (g:List (Option Nat)) (h:slotC sl sl'/\memC m g m'/\idNodup (used g m')=true):Sub sl m sl' m':=by
 intro b1 w0 W a w hs
 obtain⟨h1,h2,h3⟩:=h
 have hg:=slotC_get h1
 refine⟨hs.defers,by rw[hs.size,hg.1],fun n c v hl=>?_,hs.mem.memC h2 h3,hs.kept⟩
 obtain⟨rfl,v0,hl0,he⟩:=hg.2 n c v hl
 have:=hs.slots n true v0 hl0
 simp only[if_true]at this ⊢
 exact(eqv_den he).1 this
end Go.Proofs.YtaofjnkpkocgjaaGreat.Xf
end
section 
namespace Go.Proofs.YtaofjnkpkocgjaaGreat.Xf
inductive RV where
 | tmp (t:Nat)
 | cell (a:Nat) (n:Option Nat)
def compRV (tab:Tab):List ResultVar->Option (List RV)
 | []=>some []
 | .tmp t::l=>match compRV tab l with | some r=>some (.tmp t::r) | none=>none
 | .cell a t::l=>match tab t,compRV tab l with | some tt,some r=>some (.cell a (bif tt.agg then some tt.size else none)::r) | _,_=>none
def rv1 (sl:List Ent) (m:Mem):RV->Option (Prop×SV)
 | .tmp t=>match lk sl t with | some (c,v)=>some (c=true,v) | none=>none
 | .cell a n=>match lk sl a with
  | some (c,.ptr cc L i s f)=>match lk m cc with
   | some (_,L',ch)=>match (match n with | none=>rdc i s f ch | some n=>rdn n i s f ch)with
    | some (p,v)=>some (c=true/\L'=L/\p,v)
    | none=>none
   | none=>none
  | _=>none
def rvs (sl:List Ent) (m:Mem):List RV->Option (Prop×List SV)
 | []=>some (True,[])
 | r::rs=>match rv1 sl m r,rvs sl m rs with
  | some (p,v),some (q,vs)=>some (p/\q,v::vs)
  | _,_=>none
def retV:List SV->SV
 | [v]=>v
 | vs=>.tup vs
def retK (rs:List RV) (post:SV->Mem->Prop):KT:=fun sl m=>
 match rvs sl m rs with
 | some (p,vs)=>p/\post (retV vs) m
 | none=>False
def slots0 (args:List SV) (n:Nat):List Ent:=args.map (fun v=>some (true,v))++List.replicate (n-args.length) none
def Tri (P:Program) (f:FuncId) (args:List SV) (m:Mem) (post:SV->Mem->Prop):Prop:=
 ∀ w vs,Dens args vs->MemSat w (lentW m) m w->Calls P f vs.toArray w fun e w'=>
  ∃ v m' rv,post v m'/\e=.returned rv/\Den v rv/\MemSat w (lentW m) m' w'/\Kept w w (lentW m) w'
section 
variable {P:Program} {sp:Sp} {spP:SpP} {tab:Tab} {isP:FuncId->Bool} {chk:Option OT->Array Oper->List IRO->Bool}
theorem leaves_marks {P:Program} {F:Fence} {n:Nat} {fn:Func} {tmps:Array Value} {R:Ending->World->Prop} {b1 w0 w:World} (hk:KeepsOthers b1 w)
  (hfin:∀ w',Shut w0 w w'->∃ v,(results fn tmps).run P w'=.ok v w'/\R (.returned v) w'):∀ (ds:List Deferred) (w':World),Marks b1 w0 ds->Shut w0 w w' ->
   (∀ d∈ds,∀ D,d={ target:=.collected D,args:=#[] }->w'.heap[D]?=w.heap[D]?)->LeavesInM F n P fn tmps R ds .returning w'
 | [],w',_,hs,_=>hfin w' hs
 | d::ds,w',hm,hs,hsame=>by
  obtain⟨D,rfl,hD,hb⟩:=hm.all d (by simp)
  have h1:w'.heap[D]?=some (.deferred (some [])):=(hsame _ (by simp) D rfl).trans (hk.same D _ hb rfl)
  refine⟨(fun h=>FrameMode.noConfusion h),.inl ⟨D,_,rfl,run_takeDeferred h1,?_⟩⟩
  refine leaves_marks hk hfin ds _ ⟨(List.nodup_cons.1 hm.nodup).2,fun d hd=>hm.all d (by simp[hd])⟩ (hs.put hD h1 rfl rfl) fun d hd D' e=>?_
  have hne:D'≠D:=by
   rintro rfl
   subst e
   exact(List.nodup_cons.1 hm.nodup).1 hd
  rw[World.putObj_heap_other hne]
  exact hsame d (by simp[hd]) D' e
theorem asAddr_ptr (x:Addr):asAddr (.pointer (some x))=pure x:=rfl
theorem rv_run (hT:∀ t tt,tab t=some tt->TtOk P t tt) {w0 w:World} {W:Addr->Prop} {sl:List Ent} {m:Mem} {a:Act} (hok:SlotsOk sl a) (hmem:MemSat w0 W m w) :
  ∀ {R:List ResultVar} {rs:List RV} {p:Prop} {vs:List SV},compRV tab R=some rs->rvs sl m rs=some (p,vs)->p ->
   ∃ us,(R.mapM (fun r:ResultVar=>match r with | .tmp t=>pure (a.tmps.getD t undef) | .cell x t=>do loadVar t (<-asAddr (a.tmps.getD x undef))):Sem (List Value)).run P w=.ok us w/\Dens vs us
 | [],rs,p,vs,hc,h,hp=>by
  simp only[compRV]at hc;cases hc
  simp only[rvs]at h;cases h
  exact⟨[],by simp,by simp[Dens]⟩
 | .tmp t::R,rs,p,vs,hc,h,hp=>by
  simp only[compRV]at hc
  split at hc
  case h_2=>cases hc
  rename_i r hr
  cases hc
  simp only[rvs]at h
  split at h
  case h_2=>cases h
  rename_i p1 v1 q vs' h1 h2
  cases h
  obtain⟨us,hu,hd⟩:=rv_run hT hok hmem hr h2 hp.2
  simp only[rv1]at h1
  split at h1
  case h_2=>cases h1
  rename_i c v hl
  cases h1
  have hc:c=true:=hp.1
  subst hc
  refine⟨_::us,?_,by simp only[Dens];exact⟨_,_,rfl,hok t true v1 hl rfl,hd⟩⟩
  simp only[List.mapM_cons,Sem.run_bind,Sem.run_pure,Result.andThen,hu]
 | .cell x t::R,rs,p,vs,hc,h,hp=>by
  simp only[compRV]at hc
  split at hc
  case h_2=>cases hc
  rename_i tt r htt hr
  cases hc
  simp only[rvs]at h
  split at h
  case h_2=>cases h
  rename_i p1 v1 q vs' h1 h2
  cases h
  obtain⟨us,hu,hd⟩:=rv_run hT hok hmem hr h2 hp.2
  simp only[rv1]at h1
  split at h1
  case h_2=>cases h1
  rename_i c cc L i s f hl
  split at h1
  case h_2=>cases h1
  rename_i own L' ch hm
  split at h1
  case h_2=>cases h1
  rename_i q' v' hq
  cases h1
  obtain⟨⟨hc,hL,hq'⟩,_⟩:=hp
  subst hc hL
  have hptr:=hok x true _ hl rfl
  simp only[Den]at hptr
  have htk:=hT t tt htt
  obtain⟨i0,hi0,hsz,_⟩:=htk.info
  have hload:∃ u,(loadVar t (L'.ad (i.toNat*s+f))).run P w=.ok u w/\Den v1 u:=by
   cases hag:tt.agg with
   | false=>
    rw[hag]at hq
    obtain⟨u,hu,hdu⟩:=rdc_ok hmem hm hq hq'
    exact⟨u,by simp only[loadVar,Sem.run_bind,isAgg_run htk,hag,Result.andThen];simp[hu,run_load],hdu⟩
   | true=>
    rw[hag]at hq
    obtain⟨us,g1,g2,g3⟩:=rdn_ok hmem hm hq hq'
    refine⟨_,?_,g3⟩
    have:=run_loadCells_list (P:=P) (w:=w) _ us g2
    rw[g1]at this
    simp only[loadVar,Sem.run_bind,isAgg_run htk,hag,Result.andThen]
    simp[size_run hi0,hsz,this,Result.andThen]
  obtain⟨u,hu1,hdu⟩:=hload
  refine⟨u::us,?_,by simp only[Dens];exact⟨_,_,rfl,hdu,hd⟩⟩
  simp only[List.mapM_cons,Sem.run_bind,Sem.run_pure,Result.andThen,hptr,asAddr_ptr,hu1,hu]
theorem tri_of_ev (H:Hyp P tab isP sp spP chk) {f:FuncId} {fn:Func} {code:Code} {ir gd:IR} {rs:List RV} {n:Nat} (hf:P.funcs[f]?=some fn) (hb:fn.body=some code)
  (hcomp:compC tab isP chk gd code=some ir) (hrv:compRV tab fn.results.toList=some rs) (hn:fn.ntmps=n) {args:List SV} {m:Mem} {post:SV->Mem->Prop} {k:Nat}
  (h:ev sp spP ir (retK rs post) (fun _ _ _=>False) (retK rs post) (slots0 args n) (m++List.replicate k none)):Tri P f args m post:=by
 intro w vs hds hm
 refine(callsIn_rF (n:=0) none).1 (callsIn_of_wp_marks hf hb trivial ?_)
 have hfin:∀ sl' m' a' w',retK rs post sl' m'->SatX (fun _=>True) w (lentW m) sl' m' a' w'->LeavesInM (rF none) 0 P fn a'.tmps (fun e w'=>
   ∃ v0 m'' rv,post v0 m''/\e=.returned rv/\Den v0 rv/\MemSat w (lentW m) m'' w'/\Kept w w (lentW m) w') a'.defers .returning w':=by
  intro sl' m' a' w1 hr ⟨b1,_,hs⟩
  unfold retK at hr
  split at hr
  case h_2=>exact hr.elim
  rename_i p vs' hrvs
  obtain⟨hp,hpost⟩:=hr
  refine leaves_marks hs.kept.oth1 (fun w' hsh=>?_) a'.defers w1 hs.defers (Shut.refl _ _) (fun _ _ _ _=>rfl)
  obtain⟨us,hu,hd⟩:=rv_run (P:=P) H.hT hs.ok (hsh.mem hs.mem) hrv hrvs hp
  refine⟨if h:us.toArray.size=1 then us.toArray[0]else .tuple us.toArray,?_,retV vs',m',_,hpost,rfl,?_,hsh.mem hs.mem,hsh.kept hs.kept⟩
  ·unfold results
   simp only[Sem.run_bind]
   rw[Array.mapM_eq_mapM_toList]
   have:(List.toArray <$> (fn.results.toList.mapM (fun r:ResultVar=>match r with | .tmp t=>pure (a'.tmps.getD t undef) | .cell x t=>do loadVar t (<-asAddr (a'.tmps.getD x undef))):Sem (List Value))).run P w'=.ok us.toArray w':=by
    show((fn.results.toList.mapM (fun r:ResultVar=>match r with | .tmp t=>pure (a'.tmps.getD t undef) | .cell x t=>do loadVar t (<-asAddr (a'.tmps.getD x undef))):Sem (List Value)) >>= fun l=>pure l.toArray).run P w'=_
    rw[Sem.run_bind,hu]
    simp[Result.andThen]
   refine(congrArg (fun r:Result (Array Value)=>r.andThen fun a w'=>Sem.run P (pure (if h:a.size=1 then a[0]else Value.tuple a)) w') this).trans ?_
   simp only[Result.andThen,Sem.run_pure]
  ·have hl:=hd.length
   cases vs' with
   | nil=>
    have:us=[]:=by simpa using hl
    subst this
    simp[retV,Den,Dens]
   | cons v vs2=>
    cases vs2 with
    | nil=>
     simp only[Dens]at hd
     obtain⟨u,us',rfl,hv,rfl⟩:=hd
     simpa [retV]using hv
    | cons v2 vs3=>
     have h1:¬ (us.toArray.size=1):=by simp at hl ⊢;omega
     simp only[h1,dite_false,retV,Den]
     exact⟨us,rfl,hd⟩
 have hsat:Sat w w (lentW m) (slots0 args n) (m++List.replicate k none) { tmps:=vs.toArray++Array.replicate (fn.ntmps-vs.toArray.size) undef,defers:=[] } w:=by
  have hl:=hds.length
  refine⟨Marks.nil _ _,by simp[slots0,hl,hn],fun i c v hi=>?_,?_,Kept.refl _ _⟩
  ·rw[lk_eq]at hi
   unfold slots0 at hi
   by_cases hlt:i<args.length
   ·rw[List.getElem?_append_left (by simpa using hlt)]at hi
    simp only[List.getElem?_map,List.getElem?_eq_getElem hlt,Option.map_some,Option.getD_some]at hi
    cases hi
    obtain⟨u,hu,hd⟩:=hds.get (List.getElem?_eq_getElem hlt)
    simp only[if_true]
    have:(vs.toArray++Array.replicate (fn.ntmps-vs.toArray.size) undef).getD i undef=u:=by
     rw[Array.getD_eq_getD_getElem?,Array.getElem?_append_left (by simp[hl];omega)]
     simp[hu]
    rw[this]
    exact hd
   ·rw[List.getElem?_append_right (by simp;omega)]at hi
    simp only[List.getElem?_replicate]at hi
    split at hi<;>simp at hi
  ·refine hm.sub fun c e he=>?_
   rw[lk_eq]at he ⊢
   by_cases hlt:c<m.length
   ·rwa [List.getElem?_append_left hlt]at he
   ·rw[List.getElem?_append_right (by omega)]at he
    simp only[List.getElem?_replicate]at he
    split at he<;>simp at he
 exact ev_ok H ir none 0 (fun _=>True) w (lentW m) (.inl ⟨rfl,fun _=>trivial⟩) code gd hcomp _ _ _ _ (fun sl' m' a' w' h1 h2=>hfin sl' m' a' w' h1 h2) ⟨fun _ _ _ _ _ h _=>h.elim,fun sl' m' a' w' h1 h2=>hfin sl' m' a' w' h1 h2⟩ _ _ _ _ ⟨w,trivial,hsat⟩ h
end
end Go.Proofs.YtaofjnkpkocgjaaGreat.Xf
end
section 
namespace Go.Proofs.YtaofjnkpkocgjaaGreat.Xf
section 
variable (sp:Sp) (spP:SpP)
theorem ev_skip (N:KT) (E:Nat->KT) (T:KT) (sl:List Ent) (m:Mem):ev sp spP .skip N E T sl m=N sl m:=rfl
theorem ev_reg (d:Bool) (ops:List IRO) (ks km:List Nat) (N:KT) (E:Nat->KT) (T:KT) (sl:List Ent) (m:Mem) :
  ev sp spP (.reg d ops ks km) N E T sl m=evR sp spP ops sl m fun sl m=>N (killE sl ks) (killE m km):=rfl
theorem ev_regT (t:OT) (ops:List IRO) (ks km:List Nat) (N:KT) (E:Nat->KT) (T:KT) (sl:List Ent) (m:Mem) :
  ev sp spP (.regT t ops ks km) N E T sl m=evT sp spP ops sl m (fun sl m=>N (killE sl ks) (killE m km)) t:=rfl
theorem ev_seq (a b:IR) (N:KT) (E:Nat->KT) (T:KT) (sl:List Ent) (m:Mem):ev sp spP (.seq a b) N E T sl m=ev sp spP a (fun sl m=>ev sp spP b N E T sl m) E T sl m:=rfl
theorem ev_cond (c:Opd) (a b:IR) (N:KT) (E:Nat->KT) (T:KT) (sl:List Ent) (m:Mem):ev sp spP (.cond c a b) N E T sl m=match en sl c with
  | some (cc,.bool t)=>cc=true/\(t=true->ev sp spP a N E T sl m)/\(t=false->ev sp spP b N E T sl m)
  | _=>False:=rfl
theorem ev_block (id:Nat) (b:IR) (N:KT) (E:Nat->KT) (T:KT) (sl:List Ent) (m:Mem):ev sp spP (.block id b) N E T sl m=ev sp spP b N (extAdd id N E) T sl m:=rfl
theorem ev_exit (id:Nat) (N:KT) (E:Nat->KT) (T:KT) (sl:List Ent) (m:Mem):ev sp spP (.exit id) N E T sl m=E id sl m:=rfl
theorem ev_ret (N:KT) (E:Nat->KT) (T:KT) (sl:List Ent) (m:Mem):ev sp spP .ret N E T sl m=T sl m:=rfl
theorem ev_loop {b:IR} {N:KT} {E:Nat->KT} {T:KT} {sl:List Ent} {m:Mem} {α:Type} (I:α->List Ent×Mem) (R:α->Prop) (μ:α->Nat) (x:α) (h0:R x) (hs:Sub sl m (I x).1 (I x).2)
  (h:∀ x,R x->ev sp spP b (fun sl m=>∃ y,R y/\μ y<μ x/\Sub sl m (I y).1 (I y).2) E T (I x).1 (I x).2):ev sp spP (.loop b) N E T sl m:=⟨α,I,R,μ,⟨x,h0,hs⟩,h⟩
theorem evR_nil (sl:List Ent) (m:Mem) (K:List Ent->Mem->Prop):evR sp spP [] sl m K=K sl m:=rfl
theorem evR_cons (o:IRO) (os:List IRO) (sl:List Ent) (m:Mem) (K:List Ent->Mem->Prop):evR sp spP (o::os) sl m K=evO sp spP o sl m fun sl m=>evR sp spP os sl m K:=rfl
theorem evO_none (d:Option Nat) (no:Lim) (op:IROp) (sl:List Ent) (m:Mem) (K:List Ent->Mem->Prop):evO sp spP ⟨d,none,no,op⟩ sl m K =
  bif op.makes then (∀ x,match stepF sp spP no x sl (lk m) op with | none=>False | some (p,v,u)=>p/\K (putE sl d (some (true,v))) (apU m u))
  else (match stepF sp spP no (fun _=>default) sl (lk m) op with | none=>False | some (p,v,u)=>p/\K (putE sl d (some (true,v))) (apU m u)):=by
 have e:∀ x,stepK sp spP ⟨d,none,no,op⟩ true x sl m K=(match stepF sp spP no x sl (lk m) op with | none=>False | some (p,v,u)=>p/\K (putE sl d (some (true,v))) (apU m u)):=by
  intro x
  unfold stepK
  simp only
  cases stepF sp spP no x sl (lk m) op with
  | none=>rfl
  | some r=>simp
 simp only[evO,guardOf,e]
theorem evO_some (d:Option Nat) (gd:Nat×Bool) (no:Lim) (op:IROp) (sl:List Ent) (m:Mem) (K:List Ent->Mem->Prop):evO sp spP ⟨d,some gd,no,op⟩ sl m K =
  match guardOf sl (some gd)with
  | none=>False
  | some g=>bif op.makes then (∀ x,match stepF sp spP no x sl (lk m) op with | none=>False | some (p,v,u)=>(g=true->p)/\(g=true∨u=[])/\K (putE sl d (some (g,v))) (apU m u))
   else (match stepF sp spP no (fun _=>default) sl (lk m) op with | none=>False | some (p,v,u)=>(g=true->p)/\(g=true∨u=[])/\K (putE sl d (some (g,v))) (apU m u)):=rfl
attribute [push_cast] guardOf IROp.makes en noHas refuses lkN lkK pickSV cellsOf size1 binInt shInt binSV binBSV binSSV upTo negSV notSV cvtSV getL setL takeL dropL setsL intsV rdc rdn wrc wrn fillL
 asInts asBools rowOf rowRep intOfs intsZ appCh chLen appC appF appB slcHi slcLo noRows chS appO ownLe Own.wr getR setR takeR dropR viewsV viewsU viewsN ldRec demote showOk rcOf rcsOf recOf recsOf stR eqL eqA binASV binNSV binTSV strV nilP updIn apU putE killE lk st inR Chunk.row rv1 rvs retV retK slots0 eqv eqvs chEq chNil idHas idNodup memC used slotC nilSV nilLoc extAdd
attribute [push_cast] cond_true cond_false decide_true decide_false List.length_nil List.length_cons List.map_nil List.map_cons List.nil_append List.cons_append List.replicate List.tail_cons List.tail_nil
 eq_self true_and and_true and_self forall_const Bool.true_and Bool.and_true Bool.false_and Bool.and_false Bool.not_true Bool.not_false Int.zero_add Int.add_zero Nat.add_zero Nat.zero_add
 true_implies implies_true imp_self or_false or_true true_or false_or Bool.cond_false_right Bool.cond_true_left List.all_cons List.all_nil Bool.false_eq_true Bool.true_eq_false
end
theorem TtOk.of {P:Program} {t:TypeId} {tt:TT} {z:Value} {d:TypeDesc} (h1:(P.info? t).map (fun i=>(i.size,i.bytes))=some (tt.size,tt.bytes)) (h2:(P.info? t).bind (·.zero)=some z)
  (h3:Dens tt.zero z.cells.toList) (h4:tt.agg=false->z.cells=#[z]) (h5:P.underlying t=some d) (h6:TKOk d tt.kind) (h7:(match tt.cmp with | some ks=>cmpB P t ks | none=>true)=true) (h8:tt.zero.length=tt.size):TtOk P t tt:=by
 cases hi:P.info? t with
 | none=>rw[hi]at h1;cases h1
 | some i=>
  rw[hi]at h1 h2
  simp at h1 h2
  exact⟨⟨i,hi,h1.1,h1.2,z,h2,h3,h4⟩,⟨d,h5,h6⟩,fun ks hk=>by rw[hk]at h7;exact h7,h8⟩
theorem tri_ev {P:Program} {sp:Sp} {spP:SpP} {tab:Tab} {isP:FuncId->Bool} {chk:Option OT->Array Oper->List IRO->Bool} (H:Hyp P tab isP sp spP chk) {f:FuncId} {fn:Func} {ir:IR} {rs:List RV} {n:Nat} (hf:P.funcs[f]?=some fn)
  (hcomp:(fn.body.bind fun c=>compC tab isP chk ir c)=some ir) (hrv:compRV tab fn.results.toList=some rs) (hn:fn.ntmps=n) {args:List SV} {m:Mem} {post:SV->Mem->Prop} (k:Nat)
  (h:ev sp spP ir (retK rs post) (fun _ _ _=>False) (retK rs post) (slots0 args n) (m++List.replicate k none)):Tri P f args m post:=by
 cases hb:fn.body with
 | none=>rw[hb]at hcomp;cases hcomp
 | some code=>rw[hb]at hcomp;exact tri_of_ev H hf hb hcomp hrv hn h
end Go.Proofs.YtaofjnkpkocgjaaGreat.Xf
end
section 
namespace Go.Proofs.YtaofjnkpkocgjaaGreat.Xf
mutual
def relab (r:Nat->Nat):SV->SV
 | .int k n=>.int k n
 | .bool b=>.bool b
 | .ptr c L i s f=>.ptr (r c) L i s f
 | .sl c L s lo n=>.sl (bif c==4096 then 4096 else r c) L s lo n
 | .agg cs=>.agg (relabs r cs)
 | .tup cs=>.tup (relabs r cs)
 | .fn f cs=>.fn f (relabs r cs)
 | .val v=>.val v
def relabs (r:Nat->Nat):List SV->List SV
 | []=>[]
 | c::cs=>relab r c::relabs r cs
end
mutual
theorem relab_eqv (r:Nat->Nat):∀ v,eqv (relab r v) v
 | .int k n=>by simp only[relab,eqv]
 | .bool b=>by simp only[relab,eqv]
 | .ptr c L i s f=>by simp only[relab,eqv,and_self]
 | .sl c L s lo n=>by simp only[relab,eqv,and_self]
 | .agg cs=>by simp only[relab,eqv];exact relabs_eqv r cs
 | .tup cs=>by simp only[relab,eqv];exact relabs_eqv r cs
 | .fn f cs=>by simp only[relab,eqv,true_and];exact relabs_eqv r cs
 | .val v=>by simp only[relab,eqv]
theorem relabs_eqv (r:Nat->Nat):∀ cs,eqvs (relabs r cs) cs
 | []=>by simp only[relabs,eqvs]
 | c::cs=>by simp only[relabs,eqvs];exact⟨relab_eqv r c,relabs_eqv r cs⟩
end
def relabC (r:Nat->Nat):Chunk->Chunk
 | .ints k xs=>.ints k xs
 | .bools xs=>.bools xs
 | .cells cs=>.cells (relabs r cs)
 | .recs s fr z l=>.recs s fr z l
theorem relabC_ok (r:Nat->Nat) (ch:Chunk):chEq (relabC r ch) ch:=by
 cases ch with
 | ints k xs=>exact⟨rfl,rfl⟩
 | bools xs=>rfl
 | cells cs=>exact relabs_eqv r cs
 | recs s fr z l=>exact⟨rfl,rfl,id⟩
theorem relabC_ok' (r:Nat->Nat) (ch:Chunk):chEq ch (relabC r ch):=by
 cases ch with
 | ints k xs=>exact⟨rfl,rfl⟩
 | bools xs=>rfl
 | cells cs=>exact eqvs_symm (relabs_eqv r cs)
 | recs s fr z l=>exact⟨rfl,rfl,id⟩
structure FS where
 A:Type
 args:A->List SV
 mem:A->Mem:=fun _=>[]
 pre:A->Prop:=fun _=>True
 res:A->(Nat->Loc)->SV
 out:A->(Nat->Loc)->List (Option (Option Chunk)):=fun _ _=>[]
 new:A->(Nat->Loc)->List (Loc×Chunk):=fun _ _=>[]
 shr:List Nat:=[]
 newGot:Bool:=false
def outs:Mem->List (Option (Option Chunk))->Mem
 | [],_=>[]
 | e::m,[]=>e::m
 | none::m,_::o=>none::outs m o
 | some (own,L,_)::m,some (some ch')::o=>some (own,L,ch')::outs m o
 | some _::m,some none::o=>none::outs m o
 | some e::m,none::o=>some e::outs m o
def news (own:Own):List (Loc×Chunk)->Mem
 | []=>[]
 | (L,ch)::l=>some (own,L,ch)::news own l
def newOwn:Bool->Own
 | false=>.mine
 | true=>.got
def memAfter (m:Mem) (o:List (Option (Option Chunk))) (ng:Bool) (n:List (Loc×Chunk)):Mem:=outs m o++news (newOwn ng) n
def postF (fs:FS) (a:fs.A) (v:SV) (m':Mem):Prop:=
 ∃ x g,eqv v (fs.res a x)/\memC m' g (memAfter (fs.mem a) (fs.out a x) fs.newGot (fs.new a x))/\idNodup (used g (memAfter (fs.mem a) (fs.out a x) fs.newGot (fs.new a x)))=true
def outOk:Mem->List (Option (Option Chunk))->Prop
 | [],_=>True
 | _::_,[]=>True
 | none::m,_::o=>outOk m o
 | some (own,L,ch)::m,some (some ch')::o=>own=.lent/\ch'.ext L=ch.ext L/\outOk m o
 | some (own,_,_)::m,some none::o=>own=.lent/\outOk m o
 | some _::m,none::o=>outOk m o
def Chunk.frArg:Chunk->Prop
 | .recs _ fr _ _=>fr=false
 | _=>True
def argOwn:Own->Prop
 | .ro=>True
 | .lent=>True
 | _=>False
def noMine:Mem->Prop
 | []=>True
 | none::m=>noMine m
 | some (own,_,ch)::m=>argOwn own/\ch.frArg/\noMine m
def frNew:List (Loc×Chunk)->Prop
 | []=>True
 | (_,ch)::l=>ch.fr=true/\frNew l
def frOut:List (Option (Option Chunk))->Prop
 | []=>True
 | some (some ch)::l=>ch.fr=true/\frOut l
 | some none::l=>frOut l
 | none::l=>frOut l
def shrd (fs:FS) (a:fs.A) (y:Addr):Prop:=∃ c,c∈fs.shr/\∃ e,lk (fs.mem a) c=some e/\rf e y
def rowsOk (fs:FS) (a:fs.A) (x:Nat->Loc):Prop:=(frNew (fs.new a x)/\frOut (fs.out a x)) ∨
 ((∀ (j:Nat) (L:Loc) (ch:Chunk),(fs.new a x)[j]?=some (L,ch)->ch.fr=true∨∀ y,rows ch y->shrd fs a y) /\
  (∀ c ch,lk (fs.out a x) c=some (some ch)->ch.fr=true∨∀ y,rows ch y->shrd fs a y∨∃ e,lk (fs.mem a) c=some e/\rows e.2.2 y))
theorem frNew_get:∀ {l:List (Loc×Chunk)},frNew l->∀ {j:Nat} {L:Loc} {ch:Chunk},l[j]?=some (L,ch)->ch.fr=true
 | [],_,j,L,ch,h=>by simp at h
 | (M,c)::l,hf,0,L,ch,h=>by simp at h;obtain⟨rfl,rfl⟩:=h;exact hf.1
 | (M,c)::l,hf,j+1,L,ch,h=>frNew_get hf.2 (by simpa using h)
theorem frOut_get:∀ {l:List (Option (Option Chunk))},frOut l->∀ {c:Nat} {ch:Chunk},lk l c=some (some ch)->ch.fr=true
 | [],_,c,ch,h=>by simp[lk]at h
 | none::l,hf,c,ch,h=>by
  cases c with
  | zero=>simp[lk]at h
  | succ c=>exact frOut_get (l:=l) hf (by simpa [lk]using h)
 | some none::l,hf,c,ch,h=>by
  cases c with
  | zero=>simp[lk]at h
  | succ c=>exact frOut_get (l:=l) hf (by simpa [lk]using h)
 | some (some ch0)::l,hf,c,ch,h=>by
  cases c with
  | zero=>simp only[lk]at h;cases h;exact hf.1
  | succ c=>exact frOut_get (l:=l) hf.2 (by simpa [lk]using h)
theorem rowsOk.all {fs:FS} {a:fs.A} {x:Nat->Loc} (h:rowsOk fs a x):(∀ (j:Nat) (L:Loc) (ch:Chunk),(fs.new a x)[j]?=some (L,ch)->ch.fr=true∨∀ y,rows ch y->shrd fs a y) /\
  (∀ c ch,lk (fs.out a x) c=some (some ch)->ch.fr=true∨∀ y,rows ch y->shrd fs a y∨∃ e,lk (fs.mem a) c=some e/\rows e.2.2 y):=by
 rcases h with ⟨h1,h2⟩ | h
 ·exact⟨fun j L ch h=>.inl (frNew_get h1 h),fun c ch h=>.inl (frOut_get h2 h)⟩
 ·exact h
structure FSOk (P:Program) (f:FuncId) (fs:FS):Prop where
 fn:FnOk P f
 mem:∀ a,noMine (fs.mem a)/\(∀ x,outOk (fs.mem a) (fs.out a x))/\∀ x,rowsOk fs a x
 calls:∀ a,fs.pre a->Tri P f (fs.args a) (fs.mem a) (postF fs a)
def ownOk:Own->Own->Prop
 | .ro,_=>True
 | .lent,own=>own.wr=true
 | _,_=>False
def inMem (look:Look):List Nat->Mem->Prop
 | _,[]=>True
 | g,none::m=>inMem look g.tail m
 | d::g,some (own,L,ch)::m=>(bif d==4096 then L=nilLoc/\chNil ch else match look d with | some (own',L',ch')=>L'=L/\chEq ch' ch/\ownOk own own' | none=>False)/\inMem look g m
 | [],some _::_=>False
def isLent:Own->Bool | .lent=>true | _=>false
def farOf (d:Nat) (b:Bool):List Nat->Mem->Bool
 | _,[]=>true
 | g,none::m=>farOf d b g.tail m
 | d'::g,some (own,_,_)::m=>(!(b||isLent own)||!(d==d')||d==4096)&&farOf d b g m
 | [],some _::_=>false
def lentOk:List Nat->Mem->Bool
 | _,[]=>true
 | g,none::m=>lentOk g.tail m
 | d::g,some (own,_,_)::m=>farOf d (isLent own) g m&&lentOk g m
 | [],some _::_=>false
def gAt:List Nat->Nat->Nat
 | [],_=>4096
 | d::_,0=>d
 | _::g,n+1=>gAt g n
def shrOk (look:Look) (g:List Nat):List Nat->Prop
 | []=>True
 | c::cs=>(bif gAt g c==4096 then True else match look (gAt g c)with | some (own,_,_)=>own.wr=false | none=>False)/\shrOk look g cs
def rho:List Nat->Nat->Nat->Nat
 | [],k,i=>k+i
 | d::_,_,0=>d
 | _::g,k,i+1=>rho g k i
def updO1 (look:Look) (r:Nat->Nat) (d:Nat):Option Chunk->Option ME
 | some ch'=>match look d with | some (own,L,_)=>some (own,L,relabC r ch') | none=>none
 | none=>none
def updO (look:Look) (r:Nat->Nat):List Nat->Mem->List (Option (Option Chunk))->Upd
 | _,[],_=>[]
 | _,_::_,[]=>[]
 | g,none::m,_::o=>updO look r g.tail m o
 | d::g,some _::m,some y::o=>bif d==4096 then updO look r g m o else (d,updO1 look r d y)::updO look r g m o
 | g,some _::m,none::o=>updO look r g.tail m o
 | [],some _::_,some _::_=>[]
def updN (own:Own) (r:Nat->Nat) (k:Nat):List (Loc×Chunk)->Upd
 | []=>[]
 | (L,ch)::l=>(k,some (own,L,relabC r ch))::updN own r (k+1) l
def joinO (look:Look):List Nat->Mem->Own
 | _,[]=>.mine
 | g,none::m=>joinO look g.tail m
 | d::g,some (own,_,_)::m=>bif isLent own then (bif d==4096 then joinO look g m else match look d with | some (.mine,_,_)=>joinO look g m | _=>.got)else joinO look g m
 | [],some _::_=>.got
def newOwnC (look:Look) (g:List Nat) (m:Mem):Bool->Own
 | false=>.mine
 | true=>joinO look g m
def apnd (u v:Upd):Upd:=match u with | []=>v | a::u=>a::apnd u v
def spOf (fs:FS) (inv:List SV->Look->Option (fs.A×List Nat)) (as:List SV) (look:Look) (x:Nat->Loc) (k:Nat):R:=
 match inv as look with
 | none=>none
 | some (a,g)=>some (eqvs as (fs.args a)/\inMem look g (fs.mem a)/\lentOk g (fs.mem a)=true/\shrOk look g fs.shr/\g.length=(fs.mem a).length/\fs.pre a,
   relab (rho g k) (fs.res a (fun j=>x (k+j))),
   apnd (updO look (rho g k) g (fs.mem a) (fs.out a (fun j=>x (k+j)))) (updN (newOwnC look g (fs.mem a) fs.newGot) (rho g k) k (fs.new a (fun j=>x (k+j)))))
abbrev Entry:=List SV->Look->(Nat->Loc)->Nat->R
structure EntryOk (P:Program) (f:FuncId) (F:Entry):Prop where
 fn:FnOk P f
 calls:∀ {b1:World} as vs k w0 W m look w,Dens as vs->MemSat w0 W m w->Kept b1 w0 W w->(∀ c e,look c=some e->lk m c=some e)->(∀ x,∃ p v u,F as look x k=some (p,v,u)/\p) ->
  Calls P f vs.toArray w fun e w'=>∃ x p v u rv,F as look x k=some (p,v,u)/\p/\e=.returned rv/\Den v rv/\MemSat w0 W (apU m u) w'/\Kept b1 w0 W w'
def spFn:List (FuncId×Entry)->FuncId->Entry
 | [],_=>fun _ _ _ _=>none
 | (g,F)::l,f=>bif g==f then F else spFn l f
def itFn:List (FuncId×ITS)->FuncId->Option ITS
 | [],_=>none
 | (g,I)::l,f=>bif g==f then some I else itFn l f
def spListI (l:List (FuncId×Entry)) (li:List (FuncId×ITS)):Sp:=⟨spFn l,itFn li⟩
def spList (l:List (FuncId×Entry)):Sp:=spListI l []
def allOk (P:Program):List (FuncId×Entry)->Prop
 | []=>True
 | (g,F)::l=>EntryOk P g F/\allOk P l
theorem spFn_ok {P:Program}:∀ {l:List (FuncId×Entry)},allOk P l->SpOk P ⟨spFn l,fun _=>none⟩
 | [],_=>⟨fun f I h=>(by cases h),fun f as look x k r h=>(by simp[spFn]at h),fun f as vs k w0 W m look w _ _ _ _ h=>by
   obtain⟨p,v,u,h,_⟩:=h (fun _=>default);simp[spFn]at h⟩
 | (g,F)::l,h=>by
  have ih:=spFn_ok h.2
  refine⟨fun f I h=>(by cases h),fun f as look x k r hh=>?_,fun f as vs k w0 W m look w h1 h2 h3 h4 h5=>?_⟩
  ·simp only[spFn]at hh
   cases e:(g==f)with
   | true=>have:g=f:=by simpa using e
           subst this;exact h.1.fn
   | false=>rw[e]at hh;exact ih.fn _ _ _ _ _ _ hh
  ·simp only[spFn]at h5 ⊢
   cases e:(g==f)with
   | true=>
    have:g=f:=by simpa using e
    subst this
    rw[e]at h5
    exact h.1.calls as vs k w0 W m look w h1 h2 h3 h4 h5
   | false=>
    rw[e]at h5
    exact ih.calls f as vs k w0 W m look w h1 h2 h3 h4 h5
def allIt (P:Program):List (FuncId×ITS)->Prop
 | []=>True
 | (g,I)::l=>ItOk P g I/\allIt P l
theorem itFn_ok {P:Program}:∀ {l:List (FuncId×ITS)},allIt P l->∀ f I,itFn l f=some I->ItOk P f I
 | [],_,f,I,h=>by cases h
 | (g,J)::l,hl,f,I,h=>by
  simp only[itFn]at h
  cases e:(g==f)with
  | true=>
   have:g=f:=by simpa using e
   subst this
   rw[e]at h;cases h
   exact hl.1
  | false=>rw[e]at h;exact itFn_ok hl.2 f I h
theorem spListI_ok {P:Program} {l:List (FuncId×Entry)} {li:List (FuncId×ITS)} (h:allOk P l) (hi:allIt P li):SpOk P (spListI l li):=
 ⟨itFn_ok hi,(spFn_ok h).fn,(spFn_ok h).calls⟩
theorem spList_ok {P:Program} {l:List (FuncId×Entry)} (h:allOk P l):SpOk P (spList l):=spListI_ok h trivial
abbrev EntryP:=List SV->Option (Prop×SV)
def EntryPOk (P:Program) (f:FuncId) (F:EntryP):Prop:=FnOk P f/\∀ as p v,F as=some (p,v)->p->Tri P f as [] fun v' _=>v'=v
def spPList:List (FuncId×EntryP)->SpP
 | [],_=>fun _=>none
 | (g,F)::l,f=>bif g==f then F else spPList l f
def allPOk (P:Program):List (FuncId×EntryP)->Prop
 | []=>True
 | (g,F)::l=>EntryPOk P g F/\allPOk P l
theorem lentW_nil (a:Addr):¬ lentW [] a:=by
 rintro⟨c,L,ch,h,_⟩
 simp[lk]at h
theorem spPList_ok {P:Program}:∀ {l:List (FuncId×EntryP)},allPOk P l->SpPOk P (spPList l)
 | [],_=>⟨fun f as r h=>by simp[spPList]at h,fun f as vs p v w _ h=>by simp[spPList]at h⟩
 | (g,F)::l,h=>by
  have ih:=spPList_ok h.2
  refine⟨fun f as r hh=>?_,fun f as vs p v w h1 h2 h3=>?_⟩
  ·simp only[spPList]at hh
   cases e:(g==f)with
   | true=>have:g=f:=by simpa using e
           subst this;exact h.1.1
   | false=>rw[e]at hh;exact ih.fn _ _ _ hh
  ·simp only[spPList]at h2
   cases e:(g==f)with
   | true=>
    have:g=f:=by simpa using e
    subst this
    rw[e]at h2
    have:=h.1.2 as p v h2 h3 w vs h1 ⟨fun c e he=>by simp[lk]at he,fun c d e f _ he=>by simp[lk]at he⟩
    refine this.mono fun e w' hh=>?_
    obtain⟨v',m',rv,rfl,rfl,hd,_,hk⟩:=hh
    refine⟨rv,rfl,hd,⟨hk.os,hk.tape,hk.output,hk.size,fun b hb=>hk.block b hb fun o=>lentW_nil _⟩⟩
   | false=>
    rw[e]at h2
    exact ih.calls f as vs p v w h1 h2 h3
end Go.Proofs.YtaofjnkpkocgjaaGreat.Xf
end
section 
namespace Go.Proofs.YtaofjnkpkocgjaaGreat.Xf
def outAt (own:Own) (L:Loc) (ch:Chunk):Option (Option Chunk)->Option ME
 | none=>some (own,L,ch)
 | some none=>none
 | some (some ch')=>some (own,L,ch')
theorem outs_get:∀ {m:Mem} {o:List (Option (Option Chunk))} {c:Nat} {own:Own} {L:Loc} {ch:Chunk},lk m c=some (own,L,ch)->lk (outs m o) c=outAt own L ch (lk o c)
 | [],o,c,own,L,ch,h=>by simp[lk]at h
 | e::m,[],c,own,L,ch,h=>by simp only[outs];rw[h];simp[lk,outAt]
 | none::m,x::o,c,own,L,ch,h=>by
  cases c with
  | zero=>simp[lk]at h
  | succ c=>simp only[lk,outs]at h ⊢;exact outs_get h
 | some (ow,M,k)::m,some (some ch')::o,c,own,L,ch,h=>by
  cases c with
  | zero=>simp only[lk]at h;cases h;simp[outs,lk,outAt]
  | succ c=>simp only[lk,outs]at h ⊢;exact outs_get h
 | some (ow,M,k)::m,some none::o,c,own,L,ch,h=>by
  cases c with
  | zero=>simp only[lk]at h;cases h;simp[outs,lk,outAt]
  | succ c=>simp only[lk,outs]at h ⊢;exact outs_get h
 | some e::m,none::o,c,own,L,ch,h=>by
  cases c with
  | zero=>simp only[lk]at h;cases h;simp[outs,lk,outAt]
  | succ c=>simp only[lk,outs]at h ⊢;exact outs_get h
theorem outs_length:∀ (m:Mem) (o:List (Option (Option Chunk))),(outs m o).length=m.length
 | [],o=>rfl
 | e::m,[]=>rfl
 | none::m,x::o=>by simp[outs,outs_length m o]
 | some (ow,M,k)::m,some (some ch')::o=>by simp[outs,outs_length m o]
 | some (ow,M,k)::m,some none::o=>by simp[outs,outs_length m o]
 | some e::m,none::o=>by simp[outs,outs_length m o]
theorem lk_append_left {α:Type}:∀ {l r:List (Option α)} {c:Nat},c<l.length->lk (l++r) c=lk l c
 | [],r,c,h=>by simp at h
 | a::l,r,0,h=>by simp[lk]
 | a::l,r,c+1,h=>by simp only[lk,List.cons_append];exact lk_append_left (by simpa using h)
theorem lk_append_right {α:Type}:∀ (l:List (Option α)) {r:List (Option α)} {c:Nat},lk (l++r) (l.length+c)=lk r c
 | [],r,c=>by simp
 | a::l,r,c=>by
  rw[List.length_cons,show l.length+1+c=(l.length+c)+1 by omega]
  simp only[List.cons_append,lk]
  exact lk_append_right l
theorem news_get {own:Own}:∀ {l:List (Loc×Chunk)} {j:Nat} {L:Loc} {ch:Chunk},l[j]?=some (L,ch)->lk (news own l) j=some (own,L,ch)
 | [],j,L,ch,h=>by simp at h
 | (M,c)::l,0,L,ch,h=>by simp at h;obtain⟨rfl,rfl⟩:=h;simp[news,lk]
 | (M,c)::l,j+1,L,ch,h=>by simp only[news,lk];exact news_get (by simpa using h)
theorem outOk_get:∀ {m:Mem} {o:List (Option (Option Chunk))},outOk m o->∀ {c:Nat} {own:Own} {L:Loc} {ch:Chunk} {y:Option Chunk},lk m c=some (own,L,ch)->lk o c=some y->own=.lent/\∀ ch',y=some ch'->ch'.ext L=ch.ext L
 | [],o,_,c,own,L,ch,y,h1,h2=>by simp[lk]at h1
 | e::m,[],_,c,own,L,ch,y,h1,h2=>by simp[lk]at h2
 | none::m,x::o,h,c,own,L,ch,y,h1,h2=>by
  cases c with
  | zero=>simp[lk]at h1
  | succ c=>simp only[lk]at h1 h2;exact outOk_get (by simpa [outOk]using h) h1 h2
 | some (ow,M,k)::m,some (some x)::o,h,c,own,L,ch,y,h1,h2=>by
  simp only[outOk]at h
  cases c with
  | zero=>simp only[lk]at h1 h2;cases h1;cases h2;exact⟨h.1,fun ch' e=>by cases e;exact h.2.1⟩
  | succ c=>simp only[lk]at h1 h2;exact outOk_get h.2.2 h1 h2
 | some (ow,M,k)::m,some none::o,h,c,own,L,ch,y,h1,h2=>by
  simp only[outOk]at h
  cases c with
  | zero=>simp only[lk]at h1 h2;cases h1;cases h2;exact⟨h.1,fun ch' e=>by cases e⟩
  | succ c=>simp only[lk]at h1 h2;exact outOk_get h.2 h1 h2
 | some e::m,none::o,h,c,own,L,ch,y,h1,h2=>by
  cases c with
  | zero=>simp[lk]at h2
  | succ c=>simp only[lk]at h1 h2;exact outOk_get (by simpa [outOk]using h) h1 h2
theorem noMine_get:∀ {m:Mem},noMine m->∀ {c:Nat} {e:ME},lk m c=some e->argOwn e.1/\e.2.2.frArg
 | [],_,c,e,h=>by simp[lk]at h
 | none::m,hm,c,e,h=>by
  cases c with
  | zero=>simp[lk]at h
  | succ c=>simp only[lk]at h;exact noMine_get (by simpa [noMine]using hm) h
 | some (own,L,ch)::m,hm,c,e,h=>by
  simp only[noMine]at hm
  cases c with
  | zero=>simp only[lk]at h;cases h;exact⟨hm.1,hm.2.1⟩
  | succ c=>simp only[lk]at h;exact noMine_get hm.2.2 h
theorem inMem_get {look:Look}:∀ {m:Mem} {g:List Nat},inMem look g m->∀ {c:Nat} {own:Own} {L:Loc} {ch:Chunk},lk m c=some (own,L,ch) ->
  ∃ d,g[c]?=some d/\((d=4096/\L=nilLoc/\chNil ch)∨(d≠4096/\∃ own' ch',look d=some (own',L,ch')/\chEq ch' ch/\ownOk own own'))
 | [],g,_,c,own,L,ch,h=>by simp[lk]at h
 | none::m,g,hm,c,own,L,ch,h=>by
  cases c with
  | zero=>simp[lk]at h
  | succ c=>
   simp only[lk]at h
   obtain⟨d,h1,h2⟩:=inMem_get (by simpa [inMem]using hm) h
   exact⟨d,by cases g<;>first | (simp at h1;done) | simpa using h1,h2⟩
 | some (ow,M,k)::m,[],hm,c,own,L,ch,h=>by simp[inMem]at hm
 | some (ow,M,k)::m,d::g,hm,c,own,L,ch,h=>by
  simp only[inMem]at hm
  cases c with
  | zero=>
   simp only[lk]at h;cases h
   have h1:=hm.1
   by_cases hd:d=4096
   ·simp only[hd,BEq.rfl,cond_true]at h1
    exact⟨d,by simp,.inl ⟨hd,h1.1,h1.2⟩⟩
   ·rw[show(d==4096)=false by simpa using hd]at h1
    simp only[cond_false]at h1
    split at h1
    ·rename_i own' L' ch' hl
     obtain⟨rfl,h2,h3⟩:=h1
     exact⟨d,by simp,.inr ⟨hd,own',ch',hl,h2,h3⟩⟩
    ·exact h1.elim
  | succ c=>
   simp only[lk]at h
   obtain⟨d',h1,h2⟩:=inMem_get hm.2 h
   exact⟨d',by simpa using h1,h2⟩
theorem farOf_get {d:Nat} {b:Bool} (hd:d≠4096):∀ {m:Mem} {g:List Nat},farOf d b g m=true->∀ {c:Nat} {e:ME},lk m c=some e->g[c]?=some d->b=false/\isLent e.1=false
 | [],g,_,c,e,h,_=>by simp[lk]at h
 | none::m,g,hf,c,e,h,hg=>by
  cases c with
  | zero=>simp[lk]at h
  | succ c=>simp only[lk]at h;exact farOf_get hd (by simpa [farOf]using hf) h (by cases g<;>first | (simp at hg;done) | simpa using hg)
 | some (ow,M,k)::m,[],hf,c,e,h,hg=>by simp at hg
 | some (ow,M,k)::m,d'::g,hf,c,e,h,hg=>by
  simp only[farOf,Bool.and_eq_true]at hf
  cases c with
  | zero=>
   simp only[lk]at h;cases h
   simp at hg
   subst hg
   simpa [hd]using hf.1
  | succ c=>simp only[lk]at h;exact farOf_get hd hf.2 h (by simpa using hg)
theorem lentOk_get:∀ {m:Mem} {g:List Nat},lentOk g m=true->∀ {c c':Nat} {e e':ME} {d:Nat},d≠4096->c<c'->lk m c=some e->lk m c'=some e'->g[c]?=some d->g[c']?=some d->isLent e.1=false/\isLent e'.1=false
 | [],g,_,c,c',e,e',d,_,_,h,_,_,_=>by simp[lk]at h
 | none::m,g,hl,c,c',e,e',d,hd,hlt,h1,h2,h3,h4=>by
  cases c with
  | zero=>simp[lk]at h1
  | succ c=>
   cases c' with
   | zero=>omega
   | succ c'=>simp only[lk]at h1 h2;exact lentOk_get (by simpa [lentOk]using hl) hd (by omega) h1 h2 (by cases g<;>first | (simp at h3;done) | simpa using h3) (by cases g<;>first | (simp at h4;done) | simpa using h4)
 | some (ow,M,k)::m,[],hl,c,c',e,e',d,hd,hlt,h1,h2,h3,h4=>by simp at h3
 | some (ow,M,k)::m,d'::g,hl,c,c',e,e',d,hd,hlt,h1,h2,h3,h4=>by
  simp only[lentOk,Bool.and_eq_true]at hl
  cases c' with
  | zero=>omega
  | succ c'=>
   cases c with
   | zero=>
    simp only[lk]at h1 h2
    cases h1
    simp at h3 h4
    subst h3
    have:=farOf_get hd hl.1 h2 h4
    exact this
   | succ c=>simp only[lk]at h1 h2;exact lentOk_get hl.2 hd (by omega) h1 h2 (by simpa using h3) (by simpa using h4)
theorem updO_get {look:Look} {r:Nat->Nat}:∀ {m:Mem} {o:List (Option (Option Chunk))} {g:List Nat} {d:Nat} {x:Option ME},(d,x)∈updO look r g m o ->
  ∃ c own L ch y,lk m c=some (own,L,ch)/\lk o c=some y/\g[c]?=some d/\d≠4096/\x=updO1 look r d y
 | [],o,g,d,x,h=>by cases o<;>cases g<;>simp[updO]at h
 | e::m,[],g,d,x,h=>by cases g<;>simp[updO]at h
 | none::m,y::o,g,d,x,h=>by
  have h':(d,x)∈updO look r g.tail m o:=by cases g<;>simpa [updO]using h
  obtain⟨c,own,L,ch,ch',h1,h2,h3,h4⟩:=updO_get h'
  exact⟨c+1,own,L,ch,ch',h1,h2,by cases g<;>first | (simp at h3;done) | simpa using h3,h4⟩
 | some (ow,M,k)::m,some y::o,d'::g,d,x,h=>by
  have tl:(d,x)∈updO look r g m o->∃ c own L ch y',lk (some (ow,M,k)::m) c=some (own,L,ch)/\lk (some y::o) c=some y'/\(d'::g)[c]?=some d/\d≠4096/\x=updO1 look r d y':=fun h=>by
   obtain⟨c,own,L,ch,ch',h1,h2,h3,h4⟩:=updO_get h
   exact⟨c+1,own,L,ch,ch',h1,h2,by simpa using h3,h4⟩
  simp only[updO]at h
  cases hd:(d'==4096)with
  | true=>rw[hd]at h;exact tl h
  | false=>
   rw[hd]at h
   simp only[cond_false,List.mem_cons]at h
   rcases h with h | h
   ·cases h
    exact⟨0,ow,M,k,y,rfl,rfl,by simp,by simpa using hd,rfl⟩
   ·exact tl h
 | some e::m,none::o,g,d,x,h=>by
  have h':(d,x)∈updO look r g.tail m o:=by cases g<;>simpa [updO]using h
  obtain⟨c,own,L,ch,ch',h1,h2,h3,h4⟩:=updO_get h'
  exact⟨c+1,own,L,ch,ch',h1,h2,by cases g<;>first | (simp at h3;done) | simpa using h3,h4⟩
 | some e::m,some ch'::o,[],d,x,h=>by simp[updO]at h
theorem updO_mem {look:Look} {r:Nat->Nat}:∀ {m:Mem} {o:List (Option (Option Chunk))} {g:List Nat} {c d:Nat} {e:ME} {y:Option Chunk},d≠4096->lk m c=some e->lk o c=some y->g[c]?=some d->∃ x,(d,x)∈updO look r g m o
 | [],o,g,c,d,e,y,hd,h,_,_=>by simp[lk]at h
 | x::m,[],g,c,d,e,y,hd,_,h,_=>by simp[lk]at h
 | none::m,y::o,g,c,d,e,ch',hd,h1,h2,h3=>by
  cases c with
  | zero=>simp[lk]at h1
  | succ c=>
   simp only[lk]at h1 h2
   obtain⟨x,hx⟩:=updO_mem (r:=r) (look:=look) (g:=g.tail) hd h1 h2 (by cases g<;>first | (simp at h3;done) | simpa using h3)
   exact⟨x,by cases g<;>simpa [updO]using hx⟩
 | some e0::m,some k::o,[],c,d,e,ch',hd,h1,h2,h3=>by simp at h3
 | some (ow,M,kk)::m,some k::o,d'::g,c,d,e,ch',hd,h1,h2,h3=>by
  cases c with
  | zero=>
   simp at h3;subst h3
   exact⟨_,by simp only[updO,show(d'==4096)=false by simpa using hd,cond_false,List.mem_cons];exact .inl rfl⟩
  | succ c=>
   simp only[lk]at h1 h2
   obtain⟨x,hx⟩:=updO_mem (r:=r) (look:=look) (g:=g) hd h1 h2 (by simpa using h3)
   refine⟨x,?_⟩
   simp only[updO]
   cases (d'==4096)with
   | true=>exact hx
   | false=>simp only[cond_false,List.mem_cons];exact .inr hx
 | some e0::m,none::o,g,c,d,e,ch',hd,h1,h2,h3=>by
  cases c with
  | zero=>simp[lk]at h2
  | succ c=>
   simp only[lk]at h1 h2
   obtain⟨x,hx⟩:=updO_mem (r:=r) (look:=look) (g:=g.tail) hd h1 h2 (by cases g<;>first | (simp at h3;done) | simpa using h3)
   exact⟨x,by cases g<;>simpa [updO]using hx⟩
theorem updN_get {own:Own} {r:Nat->Nat}:∀ {l:List (Loc×Chunk)} {k d:Nat} {x:Option ME},(d,x)∈updN own r k l->∃ j L ch,d=k+j/\l[j]?=some (L,ch)/\x=some (own,L,relabC r ch)
 | [],k,d,x,h=>by simp[updN]at h
 | (L,ch)::l,k,d,x,h=>by
  simp only[updN,List.mem_cons]at h
  rcases h with h | h
  ·cases h;exact⟨0,L,ch,rfl,by simp,rfl⟩
  ·obtain⟨j,L',ch',h1,h2,h3⟩:=updN_get h
   exact⟨j+1,L',ch',by omega,by simpa using h2,h3⟩
theorem apnd_eq:∀ (u v:Upd),apnd u v=u++v
 | [],v=>rfl
 | a::u,v=>by simp[apnd,apnd_eq u v]
theorem apU_lk_mem:∀ {u:Upd} {m:Mem} {c:Nat} {x:ME},lk (apU m u) c=some x->(c,some x)∈u∨(lk m c=some x/\∀ e,(c,e)∉u)
 | u,m,c,x,h=>by
  by_cases hm:∃ e,(c,e)∈u
  ·rcases apU_lk_in h hm with h | ⟨_,_,h⟩ | h
   ·exact .inl h
   ·exact h.elim
   ·exact .inl h
  ·rw[apU_lk_out (fun e he=>hm ⟨e,he⟩)]at h
   exact .inr ⟨h,fun e he=>hm ⟨e,he⟩⟩
theorem gAt_get:∀ {g:List Nat} {c d:Nat},g[c]?=some d->gAt g c=d
 | [],c,d,h=>by simp at h
 | e::g,0,d,h=>by simpa [gAt]using h
 | e::g,c+1,d,h=>by simp only[gAt];exact gAt_get (by simpa using h)
theorem shrOk_get {look:Look} {g:List Nat}:∀ {cs:List Nat},shrOk look g cs->∀ {c d:Nat},c∈cs->g[c]?=some d->d≠4096->∀ {e:ME},look d=some e->e.1.wr=false
 | [],_,c,d,h,_,_,_,_=>by simp at h
 | c0::cs,hs,c,d,h,hg,hd,e,he=>by
  simp only[shrOk]at hs
  rcases List.mem_cons.1 h with rfl | h
  ·have h1:=hs.1
   rw[gAt_get hg,show(d==4096)=false by simpa using hd,he]at h1
   exact h1
  ·exact shrOk_get hs.2 h hg hd he
theorem joinO_mine {look:Look}:∀ {m:Mem} {g:List Nat},joinO look g m=.mine->∀ {c:Nat} {L:Loc} {ch:Chunk} {d:Nat},lk m c=some (.lent,L,ch)->g[c]?=some d->d≠4096->∀ {e:ME},look d=some e->e.1=.mine
 | [],g,_,c,L,ch,d,h,_,_,_,_=>by simp[lk]at h
 | none::m,g,hj,c,L,ch,d,h,hg,hd,e,he=>by
  cases c with
  | zero=>simp[lk]at h
  | succ c=>exact joinO_mine (g:=g.tail) (by simpa [joinO]using hj) (by simpa [lk]using h) (by cases g<;>first | (simp at hg;done) | simpa using hg) hd he
 | some (ow,M,k)::m,[],hj,c,L,ch,d,h,hg,hd,e,he=>by simp at hg
 | some (ow,M,k)::m,d'::g,hj,c,L,ch,d,h,hg,hd,e,he=>by
  have tl:joinO look g m=.mine:=by
   simp only[joinO]at hj
   cases hl:isLent ow with
   | false=>rw[hl]at hj;exact hj
   | true=>
    rw[hl]at hj
    simp only[cond_true]at hj
    cases hd':(d'==4096)with
    | true=>rw[hd']at hj;exact hj
    | false=>
     rw[hd']at hj
     simp only[cond_false]at hj
     split at hj
     ·exact hj
     ·cases hj
  cases c with
  | zero=>
   simp only[lk]at h;cases h
   simp at hg;subst hg
   simp only[joinO,isLent,cond_true,show(d'==4096)=false by simpa using hd,cond_false,he]at hj
   obtain⟨own,L',ch'⟩:=e
   cases own<;>first | rfl | cases hj
  | succ c=>exact joinO_mine tl (by simpa [lk]using h) (by simpa using hg) hd he
theorem joinO_or {look:Look}:∀ (m:Mem) (g:List Nat),joinO look g m=.mine∨joinO look g m=.got
 | [],g=>.inl (by cases g<;>rfl)
 | none::m,g=>by have:=joinO_or m g.tail (look:=look);cases g<;>simpa [joinO]using this
 | some (ow,M,k)::m,[]=>.inr rfl
 | some (ow,M,k)::m,d::g=>by
  have ih:=joinO_or m g (look:=look)
  simp only[joinO]
  cases isLent ow with
  | false=>exact ih
  | true=>
   simp only[cond_true]
   cases (d==4096)with
   | true=>exact ih
   | false=>
    simp only[cond_false]
    split
    ·exact ih
    ·exact .inr rfl
def chSim:Chunk->Chunk->Prop
 | .ints k xs,.ints k' ys=>k=k'/\xs=ys
 | .bools xs,.bools ys=>xs=ys
 | .cells cs,.cells ds=>eqvs cs ds
 | .recs s _ _ l,.recs s' _ _ l'=>s=s'/\l=l'
 | _,_=>False
theorem chSim_of {c d:Chunk} (h:chEq c d):chSim c d:=by
 cases c<;>cases d<;>simp only[chEq]at h<;>first | exact h | exact⟨h.1,h.2.1⟩
theorem chSim_symm {c d:Chunk} (h:chSim c d):chSim d c:=by
 cases c<;>cases d<;>simp only[chSim]at h<;>first | exact⟨h.1.symm,h.2.symm⟩ | exact h.symm | exact eqvs_symm h
theorem chSim_ok {c d:Chunk} (h:chSim c d):c.len=d.len/\(∀ L,c.ext L=d.ext L)/\(∀ L,c.fits L↔d.fits L)/\(∀ o x,o<c.len->(Den (c.cell o) x↔Den (d.cell o) x))/\(∀ L k xs,c.rows L k xs↔d.rows L k xs):=by
 cases c<;>cases d<;>simp only[chSim]at h
 ·have:=chEq_ok (show chEq (.ints _ _) (.ints _ _) from h);exact⟨this.1,this.2.1,this.2.2.1,this.2.2.2.1,this.2.2.2.2.1⟩
 ·have:=chEq_ok (show chEq (.bools _) (.bools _) from h);exact⟨this.1,this.2.1,this.2.2.1,this.2.2.2.1,this.2.2.2.2.1⟩
 ·have:=chEq_ok (show chEq (.cells _) (.cells _) from h);exact⟨this.1,this.2.1,this.2.2.1,this.2.2.2.1,this.2.2.2.2.1⟩
 ·obtain⟨rfl,rfl⟩:=h;exact⟨rfl,fun _=>rfl,fun _=>Iff.rfl,fun _ _ _=>Iff.rfl,fun _ _ _=>Iff.rfl⟩
theorem ownLe_refl (own:Own):ownLe own own:=by cases own<;>trivial
theorem entry_of {P:Program} {f:FuncId} {fs:FS} (H:FSOk P f fs) (inv:List SV->Look->Option (fs.A×List Nat)):EntryOk P f (spOf fs inv):=by
 refine⟨H.fn,fun as vs k w0 W m look w hds hm hk hlook hx=>?_⟩
 obtain⟨p0,v0,u0,h0,hp0⟩:=hx (fun _=>default)
 unfold spOf at h0
 split at h0
 ·cases h0
 rename_i a g hinv
 cases h0
 obtain⟨heq,hin,hlent,hshr,hlen,hpre⟩:=hp0
 obtain⟨hnm,hout0,hrows0⟩:=H.mem a
 have hds':=(eqvs_den heq).1 hds
 have hget:∀ {c:Nat} {own:Own} {L:Loc} {ch:Chunk},lk (fs.mem a) c=some (own,L,ch)->∃ d,g[c]?=some d/\((d=4096/\L=nilLoc/\chNil ch)∨(d≠4096/\∃ own' ch',lk m d=some (own',L,ch')/\look d=some (own',L,ch')/\chEq ch' ch/\ownOk own own')):=fun h=>by
  obtain⟨d,h1,h2⟩:=inMem_get hin h
  refine⟨d,h1,?_⟩
  rcases h2 with h2 | ⟨h2,own',ch',h3,h4⟩
  ·exact .inl h2
  ·exact .inr ⟨h2,own',ch',hlook _ _ h3,h3,h4⟩
 have argO:∀ {c:Nat} {own:Own} {L:Loc} {ch:Chunk},lk (fs.mem a) c=some (own,L,ch)->own=.ro∨own=.lent:=fun {c own L ch} h=>by
  have:=(noMine_get hnm h).1
  cases own<;>first | exact .inl rfl | exact .inr rfl | exact this.elim
 have lentOf:∀ {c:Nat} {own:Own} {L:Loc} {ch:Chunk},lk (fs.mem a) c=some (own,L,ch)->own.wr=true->own=.lent:=fun h hw=>by
  rcases argO h with rfl | rfl
  ·cases hw
  ·rfl
 have feet:∀ {own own':Own} {L:Loc} {ch ch':Chunk} {c d:Nat},lk (fs.mem a) c=some (own,L,ch)->lk m d=some (own',L,ch')->chEq ch' ch->ownOk own own' ->
   (∀ y,wf (own,L,ch) y->wf (own',L,ch') y)/\(∀ y,rf (own,L,ch) y->rf (own',L,ch') y)/\∀ y,rows ch y->rf (own',L,ch') y:=fun {own own' L ch ch' c d} h1 h2 h3 h4=>by
  have hle:ownLe own' own∨own=.lent:=by
   rcases argO h1 with rfl | rfl
   ·cases own'<;>exact .inl trivial
   ·exact .inr rfl
  have hfit:=(hm.chunk d _ h2).fits
  obtain⟨e1,e2,e3,e4,e5,e6⟩:=chEq_ok h3
  have hrw:∀ y,rows ch y->rf (own',L,ch') y:=fun y hy=>.inr ((rows_iff e5 y).2 hy)
  rcases hle with hle | rfl
  ·obtain⟨f1,f2,_⟩:=eq_feet h3 hle hfit
   exact⟨f1,f2,hrw⟩
  ·have hw:own'.wr=true:=h4
   refine⟨fun y ⟨_,o,ho,e⟩=>⟨hw,o,by simp only at ho ⊢;rw[e2 L];exact ho,e⟩,fun y hy=>?_,hrw⟩
   rcases hy with ⟨o,ho,e⟩ | hy
   ·refine .inl ⟨o,?_,e⟩
    rw[reg_eq hw,e2 L]
    rw[reg_eq rfl]at ho
    exact ho
   ·exact hrw y hy
 have hm0:MemSat w (lentW (fs.mem a)) (fs.mem a) w:=by
  refine⟨fun c e he=>?_,fun c c' e e' hcc he he' y ho hr=>?_⟩
  ·obtain⟨own,L,ch⟩:=e
   obtain⟨d,h1,⟨_,rfl,h3⟩ | ⟨hd,own',ch',h2,_,h3,h4⟩⟩:=hget he
   ·exact nil_sat h3 own
   ·have hs:=(hm.chunk d _ h2).eq h3 (ownLe_refl own')
    have hfa:=(noMine_get hnm he).2
    refine⟨hs.cell,fun L' kk xs hr=>?_,fun y hy hyr=>?_,fun hw=>?_,hs.fits,fun o ho=>?_⟩
    ·obtain⟨g1,g2,g3,g4⟩:=hs.row L' kk xs hr
     refine⟨g1,g2,g3,fun hf=>?_⟩
     cases ch<;>first | exact hr.elim | (simp only[Chunk.frArg]at hfa;simp only[Chunk.fr,hfa]at hf;cases hf)
    ·obtain⟨hw,o,ho,e⟩:=hy
     obtain rfl:=lentOf he hw
     exact hs.self y ⟨h4,o,ho,e⟩ hyr
    ·obtain rfl:=lentOf he hw
     exact hs.mineW h4
    ·rcases argO he with rfl | rfl
     ·trivial
     ·exact⟨c,L,ch,he,o,by rw[reg_eq rfl]at ho;exact ho,rfl⟩
  ·obtain⟨own,L,ch⟩:=e
   obtain⟨ow2,L2,ch2⟩:=e'
   obtain rfl:=lentOf he ho.1
   obtain⟨d,h1,⟨_,rfl,h3⟩ | ⟨hd,own',ch',h2,_,h3,h4⟩⟩:=hget he
   ·exact(nil_feet h3 _ y).1 ho
   obtain⟨d2,k1,⟨_,rfl,k3⟩ | ⟨hd2,ow2',ch2',k2,_,k3,k4⟩⟩:=hget he'
   ·exact(nil_feet k3 _ y).2 hr
   have hdd:d≠d2:=by
    rintro rfl
    rcases Nat.lt_or_gt_of_ne hcc with h | h
    ·have:=(lentOk_get hlent hd h he he' h1 k1).1;simp[isLent]at this
    ·have:=(lentOk_get hlent hd h he' he k1 h1).2;simp[isLent]at this
   exact hm.sep d d2 _ _ hdd h2 k2 y ((feet he h2 h3 h4).1 y ho) ((feet he' k2 k3 k4).2.1 y hr)
 have lentAt:∀ y,lentW (fs.mem a) y->∃ c L ch d own' ch',lk (fs.mem a) c=some (.lent,L,ch)/\g[c]?=some d/\d≠4096/\lk m d=some (own',L,ch')/\look d=some (own',L,ch')/\own'.wr=true/\wf (own',L,ch') y:=by
  rintro y ⟨c,L,ch,h1,o,ho,rfl⟩
  obtain⟨d,g1,⟨_,rfl,h3⟩ | ⟨hd,own',ch',h2,h2',h3,h4⟩⟩:=hget h1
  ·have:=(chNil_len h3).2.1;omega
  ·exact⟨c,L,ch,d,own',ch',h1,g1,hd,h2,h2',h4,(feet h1 h2 h3 h4).1 _ ⟨rfl,o,ho,rfl⟩⟩
 refine(H.calls a hpre w vs hds' hm0).mono fun e w' hh=>?_
 obtain⟨v,m',rv,⟨x,g',hev,hmc,hnd⟩,rfl,hdv,hm1,hk1⟩:=hh
 have hout:=hout0 x
 obtain⟨hrN,hrO⟩:=(hrows0 x).all
 have hM:=hm1.memC hmc hnd
 have hxk:(fun j=>(fun n=>x (n-k)) (k+j))=x:=by funext j;simp
 refine⟨fun n=>x (n-k),eqvs as (fs.args a)/\inMem look g (fs.mem a)/\lentOk g (fs.mem a)=true/\shrOk look g fs.shr/\g.length=(fs.mem a).length/\fs.pre a,relab (rho g k) (fs.res a x),
  apnd (updO look (rho g k) g (fs.mem a) (fs.out a x)) (updN (newOwnC look g (fs.mem a) fs.newGot) (rho g k) k (fs.new a x)),rv,?_,⟨heq,hin,hlent,hshr,hlen,hpre⟩,rfl,(eqv_den (relab_eqv _ _)).2 ((eqv_den hev).1 hdv),?_,?_⟩
 ·unfold spOf
  rw[hinv]
  simp only[Nat.add_sub_cancel_left]
 ·
  generalize hMA:memAfter (fs.mem a) (fs.out a x) fs.newGot (fs.new a x)=MA at hM
  have hnewget:∀ {j:Nat} {L:Loc} {ch:Chunk},(fs.new a x)[j]?=some (L,ch)->lk MA ((fs.mem a).length+j)=some (newOwn fs.newGot,L,ch):=fun {j L ch} h=>by
   rw[<-hMA]
   unfold memAfter
   have:=lk_append_right (outs (fs.mem a) (fs.out a x)) (r:=news (newOwn fs.newGot) (fs.new a x)) (c:=j)
   rw[outs_length]at this
   rw[this];exact news_get h
  have holdget:∀ {c:Nat} {own:Own} {L:Loc} {ch:Chunk},lk (fs.mem a) c=some (own,L,ch)->lk MA c=outAt own L ch (lk (fs.out a x) c):=fun h=>by
   rw[<-hMA]
   unfold memAfter
   rw[lk_append_left (by rw[outs_length];exact lk_lt h)]
   exact outs_get h
  have hnw:(newOwn fs.newGot).wr=true:=by cases fs.newGot<;>rfl
  have hcw:(newOwnC look g (fs.mem a) fs.newGot).wr=true:=by
   cases fs.newGot
   ·rfl
   ·simp only[newOwnC];rcases joinO_or (look:=look) (fs.mem a) g with h | h<;>rw[h]<;>rfl
  have oldLt:∀ {d:Nat} {e0:ME} {y:Addr},lk m d=some e0->rf e0 y->¬ w.heap.size<=y.block:=fun h1 h2 h3=>by
   obtain⟨z,hz⟩:=(hm.chunk _ _ h1).regSome h2
   have:=World.block_lt_of_cell? _ _ hz
   omega
  have shrAt:∀ {d:Nat} {e0:ME} {y:Addr},lk m d=some e0->wf e0 y->¬ shrd fs a y:=by
   rintro d e0 y h1 h2 ⟨c,hc,e,he,hr⟩
   obtain⟨own,L,ch⟩:=e
   obtain⟨d',g1,⟨_,rfl,h3⟩ | ⟨hd,own',ch',k2,k2',k3,k4⟩⟩:=hget he
   ·exact(nil_feet h3 _ y).2 hr
   ·have hw:=shrOk_get hshr hc g1 hd k2'
    have hne:d≠d':=by
     rintro rfl
     rw[h1]at k2;cases k2
     have:=h2.1
     simp only at hw this
     rw[hw]at this;cases this
    exact hm.sep d d' _ _ hne h1 k2 y h2 ((feet he k2 k3 k4).2.1 y hr)
  have key:∀ d e,lk (apU m (apnd (updO look (rho g k) g (fs.mem a) (fs.out a x)) (updN (newOwnC look g (fs.mem a) fs.newGot) (rho g k) k (fs.new a x)))) d=some e ->
    (∃ j L ch,(fs.new a x)[j]?=some (L,ch)/\d=k+j/\e=(newOwnC look g (fs.mem a) fs.newGot,L,relabC (rho g k) ch)) ∨
    (∃ c own L ch ch0 chn che,lk (fs.mem a) c=some (.lent,L,ch)/\g[c]?=some d/\lk m d=some (own,L,ch0)/\own.wr=true/\chEq ch0 ch/\lk MA c=some (.lent,L,chn)/\chn.ext L=ch.ext L/\e=(own,L,che)/\chSim che chn /\
     (che.fr=true->∀ M kk xs,che.rows M kk xs->0<xs.length->w0.heap.size<=M.b)/\(∀ y,rows chn y->w.heap.size<=y.block∨shrd fs a y∨rows ch y)) ∨
    (lk m d=some e/\∀ c L ch,lk (fs.mem a) c=some (.lent,L,ch)->g[c]?=some d->d=4096):=by
   intro d e he
   rw[apnd_eq]at he
   rcases apU_lk_mem he with hmem | ⟨hl,hno⟩
   ·rcases List.mem_append.1 hmem with hmem | hmem
    ·obtain⟨c,own,L,ch,y,h1,h2,h3,hd,h4⟩:=updO_get hmem
     obtain⟨rfl,hext⟩:=outOk_get hout h1 h2
     cases y with
     | none=>simp[updO1]at h4
     | some ch'=>
      obtain⟨d',k1,⟨rfl,rfl,k3⟩ | ⟨_,own',ch0,k2,k2',k3,k4⟩⟩:=hget h1
      ·rw[h3]at k1;cases k1;exact absurd rfl hd
      ·rw[h3]at k1;cases k1
       simp only[updO1,k2']at h4
       cases h4
       have hMc:lk MA c=some (.lent,L,ch'):=by rw[holdget h1,h2];rfl
       have hs:=hM.chunk _ _ hMc
       refine .inr (.inl ⟨c,own',L,ch,ch0,ch',_,h1,h3,k2,k4,k3,hMc,hext _ rfl,rfl,chSim_symm (chSim_of (relabC_ok' _ _)),fun hf M kk xs hr hp=>?_,fun y hy=>?_⟩)
       ·obtain⟨_,_,_,_,e5,e6⟩:=chEq_ok (relabC_ok (rho g k) ch')
        have hf':ch'.fr=true:=(chEq_ok (relabC_ok' (rho g k) ch')).2.2.2.2.2 hf
        exact Nat.le_trans hk.size ((hs.row M kk xs ((e5 _ _ _).1 hr)).2.2.2 hf' hp)
       ·rcases hrO c ch' h2 with h | h
        ·obtain⟨M,kk,xs,hr,o,ho,rfl⟩:=hy
         exact .inl ((hs.row M kk xs hr).2.2.2 h (by omega))
        ·rcases h y hy with h | ⟨e,he,h⟩
         ·exact .inr (.inl h)
         ·rw[h1]at he;cases he;exact .inr (.inr h)
    ·obtain⟨j,L,ch,rfl,h2,h3⟩:=updN_get hmem
     cases h3
     exact .inl ⟨j,L,ch,h2,rfl,rfl⟩
   ·by_cases hl2:∃ c L ch,lk (fs.mem a) c=some (.lent,L,ch)/\g[c]?=some d/\d≠4096
    ·obtain⟨c,L,ch,h1,h2,hd⟩:=hl2
     obtain⟨d',k1,⟨rfl,rfl,k3⟩ | ⟨_,own',ch0,k2,k2',k3,k4⟩⟩:=hget h1
     ·rw[h2]at k1;cases k1;exact absurd rfl hd
     rw[h2]at k1;cases k1
     rw[hl]at k2;cases k2
     have hon:lk (fs.out a x) c=none:=by
      cases ho:lk (fs.out a x) c with
      | none=>rfl
      | some ch'=>
       exfalso
       obtain⟨y,hy⟩:=updO_mem (r:=rho g k) (look:=look) hd h1 ho h2
       exact hno y (List.mem_append_left _ hy)
     refine .inr (.inl ⟨c,own',L,ch,ch0,ch,ch0,h1,h2,hl,k4,k3,?_,rfl,rfl,chSim_of k3,fun hf M kk xs hr hp=>((hm.chunk d _ hl).row M kk xs hr).2.2.2 hf hp,fun y hy=>.inr (.inr hy)⟩)
     rw[holdget h1,hon];rfl
    ·exact .inr (.inr ⟨hl,fun c L ch h1 h2=>Classical.byContradiction fun h=>hl2 ⟨c,L,ch,h1,h2,h⟩⟩)
  have feetA:∀ {j:Nat} {L:Loc} {ch:Chunk},(fs.new a x)[j]?=some (L,ch) ->
    (∀ y,wf (newOwnC look g (fs.mem a) fs.newGot,L,relabC (rho g k) ch) y->wf (newOwn fs.newGot,L,ch) y)/\(∀ y,rf (newOwnC look g (fs.mem a) fs.newGot,L,relabC (rho g k) ch) y->rf (newOwn fs.newGot,L,ch) y) /\
    (∀ y,rf (newOwn fs.newGot,L,ch) y->w.heap.size<=y.block∨lentW (fs.mem a) y∨shrd fs a y)/\∀ y,wf (newOwn fs.newGot,L,ch) y->w.heap.size<=y.block∨lentW (fs.mem a) y:=by
   intro j L ch h1
   have hs:=hM.chunk _ _ (hnewget h1)
   obtain⟨_,e2,_,_,e5,_⟩:=chEq_ok (relabC_ok (rho g k) ch)
   have hhome:∀ o,o<ch.ext L->w.heap.size<=(L.ad o).block∨lentW (fs.mem a) (L.ad o):=fun o ho=>(hs.home o (by rw[reg_eq hnw];exact ho)).got hnw
   refine⟨fun y ⟨_,o,ho,e⟩=>⟨hnw,o,by simp only at ho ⊢;rw[<-e2 L];exact ho,e⟩,fun y hy=>?_,fun y hy=>?_,fun y ⟨_,o,ho,e⟩=>e▸hhome o ho⟩
   ·rcases hy with ⟨o,ho,e⟩ | hy
    ·exact .inl ⟨o,by rw[reg_eq hnw];rw[reg_eq hcw,e2 L]at ho;exact ho,e⟩
    ·exact .inr ((rows_iff e5 y).1 hy)
   ·rcases hy with ⟨o,ho,e⟩ | hy
    ·rw[reg_eq hnw]at ho
     rcases hhome o ho with h | h
     ·exact .inl (e▸h)
     ·exact .inr (.inl (e▸h))
    ·rcases hrN j L ch h1 with h | h
     ·obtain⟨M,kk,xs,hr,o,ho,rfl⟩:=hy
      exact .inl ((hs.row M kk xs hr).2.2.2 h (by omega))
     ·exact .inr (.inr (h y hy))
  have feetB:∀ {own:Own} {L:Loc} {ch ch0 chn che:Chunk},own.wr=true->chEq ch0 ch->chn.ext L=ch.ext L->chSim che chn ->
    (∀ y,wf (own,L,che) y->wf (own,L,ch0) y/\wf (Own.lent,L,chn) y)/\(∀ y,rf (own,L,che) y->rf (Own.lent,L,chn) y)/\∀ y,rf (own,L,che) y->rf (own,L,ch0) y∨rows chn y:=by
   intro own L ch ch0 chn che hw h1 h2 h3
   obtain⟨_,e2,_⟩:=chEq_ok h1
   obtain⟨_,s2,_,_,s5⟩:=chSim_ok h3
   refine⟨fun y ⟨_,o,ho,e⟩=>⟨⟨hw,o,?_,e⟩,rfl,o,?_,e⟩,fun y hy=>?_,fun y hy=>?_⟩
   ·simp only at ho ⊢;rw[e2,<-h2,<-s2];exact ho
   ·simp only at ho ⊢;rw[<-s2];exact ho
   ·rcases hy with ⟨o,ho,e⟩ | hy
    ·exact .inl ⟨o,by rw[reg_eq rfl];rw[reg_eq hw,s2]at ho;exact ho,e⟩
    ·exact .inr ((rows_iff s5 y).1 hy)
   ·rcases hy with ⟨o,ho,e⟩ | hy
    ·exact .inl (.inl ⟨o,by rw[reg_eq hw]at ho ⊢;rw[e2,<-h2,<-s2];exact ho,e⟩)
    ·exact .inr ((rows_iff s5 y).1 hy)
  refine⟨fun d e he=>?_,fun d d' e e' hdd he he' y hw hr=>?_⟩
  ·rcases key d e he with ⟨j,L,ch,h1,rfl,rfl⟩ | ⟨c,own,L,ch,ch0,chn,che,h1,hg,h3,h4,h5,h6,h7,rfl,h9,h10,h11⟩ | ⟨h,hnl⟩
   ·have hs:=hM.chunk _ _ (hnewget h1)
    have hs0:ChunkSat w0 W (newOwnC look g (fs.mem a) fs.newGot,L,ch) w':=by
     refine⟨hs.cell,fun M kk xs hr=>?_,fun y hy=>hs.self y ⟨hnw,hy.2⟩,fun _=>hs.mineW hnw,hs.fits,fun o ho=>?_⟩
     ·obtain⟨g1,g2,g3,g4⟩:=hs.row M kk xs hr
      exact⟨g1,g2,g3,fun hf hp=>Nat.le_trans hk.size (g4 hf hp)⟩
     ·rw[reg_eq hcw]at ho
      have hh:=hs.home o (by rw[reg_eq hnw];exact ho)
      cases hng:fs.newGot with
      | false=>rw[hng]at hh;exact Nat.le_trans hk.size hh
      | true=>
       rw[hng]at hh
       simp only[newOwnC]
       have hgot:homeOk w0 W .got (L.ad o)/\(joinO look g (fs.mem a)=.mine->homeOk w0 W .mine (L.ad o)):=by
        rcases hh with h | h
        ·exact⟨.inl (Nat.le_trans hk.size h),fun _=>Nat.le_trans hk.size h⟩
        ·obtain⟨c,L2,ch2,d,own',ch',k1,k2,kd,k3,k3',k4,k5⟩:=lentAt _ h
         obtain⟨_,o',ho',e⟩:=k5
         have hh':=(hm.chunk d _ k3).home o' (by rw[reg_eq k4];exact ho')
         simp only at hh'
         rw[<-e]at hh'
         refine⟨hh'.got k4,fun hj=>?_⟩
         have:=joinO_mine hj k1 k2 kd k3'
         simp only at this
         rw[this]at hh';exact hh'
       rcases joinO_or (look:=look) (fs.mem a) g with hj | hj
       ·rw[hj];exact hgot.2 hj
       ·rw[hj];exact hgot.1
    exact hs0.eq (relabC_ok' _ _) (ownLe_refl _)
   ·have hs:=hM.chunk _ _ h6
    have hs0:=hm.chunk d _ h3
    obtain⟨f1,f2,_⟩:=feetB (L:=L) h4 h5 h7 h9
    obtain⟨s1,s2,s3,s4,s5⟩:=chSim_ok h9
    refine⟨fun o ho=>?_,fun M kk xs hr=>?_,fun y hy hyr=>hs.self y (f1 y hy).2 ((rows_iff s5 y).1 hyr),fun _ o ho=>?_,(s3 L).2 hs.fits,fun o ho=>?_⟩
    ·simp only at ho ⊢
     obtain⟨z,hz,hdz⟩:=hs.cell o (by simp only;omega)
     exact⟨z,hz,(s4 o z ho).2 hdz⟩
    ·obtain⟨g1,g2,g3,g4⟩:=hs.row M kk xs ((s5 _ _ _).1 hr)
     exact⟨g1,g2,g3,fun hf hp=>h10 hf M kk xs hr hp⟩
    ·simp only at ho
     exact hs.mineW rfl o (by simp only;rw[<-s2];exact ho)
    ·refine hs0.home o ?_
     rw[reg_eq h4]at ho ⊢
     rw[(chEq_ok h5).2.1,<-h7,<-s2];exact ho
   ·refine(hm.chunk d e h).keep (fun y hy=>?_) (fun y hy=>hk1.frozen y hy)
    obtain⟨z,hz⟩:=(hm.chunk d e h).regSome hy
    refine hk1.cell _ (World.block_lt_of_cell? _ _ hz) fun hl=>?_
    obtain⟨c,L,ch,d',own',ch',k1,k2,kd,k3,_,k4,k5⟩:=lentAt _ hl
    exact hm.sep d' d _ _ (fun e=>kd (by subst e;exact hnl c L ch k1 k2)) k3 h y k5 hy
  ·rcases key d e he with ⟨j,L,ch,h1,rfl,rfl⟩ | ⟨c,own,L,ch,ch0,chn,che,h1,hg,h3,h4,h5,h6,h7,rfl,h9,h10,h11⟩ | ⟨h,hnl⟩
   ·obtain⟨a1,a2,a3,a4⟩:=feetA h1
    rcases key d' e' he' with ⟨j',L',ch',k1,rfl,rfl⟩ | ⟨c',own',L',ch',ch0',chn',che',k1,kg,k3,k4,k5,k6,k7,rfl,k9,k10,k11⟩ | ⟨k,knl⟩
    ·exact hM.sep _ _ _ _ (fun h=>hdd (by omega)) (hnewget h1) (hnewget k1) y (a1 y hw) ((feetA k1).2.1 y hr)
    ·exact hM.sep _ _ _ _ (by have:=lk_lt k1;omega) (hnewget h1) k6 y (a1 y hw) ((feetB k4 k5 k7 k9).2.1 y hr)
    ·rcases a4 y (a1 y hw)with h | h
     ·exact oldLt k hr h
     ·obtain⟨c,L2,ch2,d0,own',ch',q1,q2,qd,q3,_,q4,q5⟩:=lentAt _ h
      exact hm.sep d0 d' _ _ (fun e=>qd (by subst e;exact knl c L2 ch2 q1 q2)) q3 k y q5 hr
   ·obtain⟨b1,b2,b3⟩:=feetB (L:=L) h4 h5 h7 h9
    rcases key d' e' he' with ⟨j',L',ch',k1,rfl,rfl⟩ | ⟨c',own',L',ch',ch0',chn',che',k1,kg,k3,k4,k5,k6,k7,rfl,k9,k10,k11⟩ | ⟨k,knl⟩
    ·exact hM.sep _ _ _ _ (by have:=lk_lt h1;omega) h6 (hnewget k1) y (b1 y hw).2 ((feetA k1).2.1 y hr)
    ·exact hM.sep _ _ _ _ (fun e=>hdd (by subst e;rw[hg]at kg;cases kg;rfl)) h6 k6 y (b1 y hw).2 ((feetB k4 k5 k7 k9).2.1 y hr)
    ·exact hm.sep d d' _ _ hdd h3 k y (b1 y hw).1 hr
   ·rcases key d' e' he' with ⟨j',L',ch',k1,rfl,rfl⟩ | ⟨c',own',L',ch',ch0',chn',che',k1,kg,k3,k4,k5,k6,k7,rfl,k9,k10,k11⟩ | ⟨k,knl⟩
    ·obtain⟨a1,a2,a3,a4⟩:=feetA k1
     rcases a3 y (a2 y hr)with h' | h' | h'
     ·exact oldLt h (wf_rf hw) h'
     ·obtain⟨c,L2,ch2,d0,own',ch',q1,q2,qd,q3,_,q4,q5⟩:=lentAt _ h'
      exact hm.sep d d0 _ _ (fun e=>qd (by subst e;exact hnl c L2 ch2 q1 q2)) h q3 y hw (wf_rf q5)
     ·exact shrAt h hw h'
    ·obtain⟨b1,b2,b3⟩:=feetB (L:=L') k4 k5 k7 k9
     rcases b3 y hr with h' | h'
     ·exact hm.sep d d' _ _ hdd h k3 y hw h'
     ·rcases k11 y h' with h'' | h'' | h''
      ·exact oldLt h (wf_rf hw) h''
      ·exact shrAt h hw h''
      ·refine hm.sep d d' _ _ hdd h k3 y hw (.inr ?_)
       exact(rows_iff (chEq_ok k5).2.2.2.2.1 y).2 h''
    ·exact hm.sep d d' _ _ hdd h k y hw hr
 ·
  refine hk.trans hk1 fun y hy hlt=>?_
  obtain⟨c,L,ch,d,own',ch',h1,h2,hd,h3,h3',h4,h5⟩:=lentAt y hy
  obtain⟨_,o,ho,rfl⟩:=h5
  rcases((hm.chunk d _ h3).home o (by rw[reg_eq h4];exact ho)).got h4 with h | h
  ·simp only at h hlt;omega
  ·exact h
end Go.Proofs.YtaofjnkpkocgjaaGreat.Xf
end
section 
namespace Go.Proofs.YtaofjnkpkocgjaaGreat.Xf
abbrev En:=Option (Bool×SV)
abbrev PV:=Option (Prop×SV)
def k1 (c:Bool):PV->R
 | some (p,v)=>some (c=true/\p,v,[])
 | none=>none
def k2 (c d:Bool):PV->R
 | some (p,v)=>some (c=true/\d=true/\p,v,[])
 | none=>none
def x1 (f:SV->PV):En->R
 | some (c,v)=>k1 c (f v)
 | none=>none
def vs2:List En->Option (Prop×List SV)
 | []=>some (True,[])
 | some (c,v)::l=>match vs2 l with | some (p,vs)=>some (c=true/\p,v::vs) | none=>none
 | none::_=>none
def ens (sl:List Ent):List Opd->List En
 | []=>[]
 | a::as=>en sl a::ens sl as
def andR (p:Prop):R->R
 | some (q,v,u)=>some (p/\q,v,u)
 | none=>none
def vsE (sl:List Ent):List Opd->Option (Prop×List SV)
 | []=>some (True,[])
 | a::as=>vsE2 (en sl a) (vsE sl as)
where vsE2:En->Option (Prop×List SV)->Option (Prop×List SV)
 | some (c,v),some (p,vs)=>some (c=true/\p,v::vs)
 | _,_=>none
theorem andR_and (p q:Prop) (r:R):andR p (andR q r)=andR (p/\q) r:=by
 cases r with
 | none=>rfl
 | some r=>simp[andR,and_assoc]
theorem andR_true (r:R):andR True r=r:=by
 cases r with
 | none=>rfl
 | some r=>simp[andR]
def fin1 (f:List SV->R):Option (Prop×List SV)->R
 | some (p,vs)=>andR p (f vs)
 | none=>none
theorem ons_vsE {sl:List Ent}:∀ (as:List Opd) (f:List SV->R),ons sl as f=fin1 f (vsE sl as)
 | [],f=>by simp[ons,vsE,fin1,andR_true]
 | a::as,f=>by
  simp only[ons,o1,vsE]
  cases en sl a with
  | none=>rfl
  | some e=>
   obtain⟨c,v⟩:=e
   simp only[ons_vsE as]
   cases vsE sl as with
   | none=>rfl
   | some q=>
    obtain⟨p,vs⟩:=q
    simp only[vsE.vsE2,fin1]
    cases f (v::vs)with
    | none=>rfl
    | some r=>simp[andR,and_assoc]
section 
variable (sp:Sp) (spP:SpP) (no:Lim) (x:Nat->Loc) (sl:List Ent) (m:Mem)
@[push_cast] theorem st_mov (a:Opd):stepF sp spP no x sl (lk m) (.mov a)=x1 (fun v=>some (True,v)) (en sl a):=by
 simp only[stepF,o1];cases en sl a with
 | none=>rfl
 | some e=>rfl
def xBox (x:Nat->Loc) (k:Nat) (c:Bool):Option (List SV)->R
 | some cs=>some (c=true/\True,.ptr k (x k) 0 0 0,[(k,some (.mine,x k,.cells cs))])
 | none=>none
def xBox0 (x:Nat->Loc) (k:Nat):En->R
 | some (c,v)=>xBox x k c (cellsOf v)
 | none=>none
@[push_cast] theorem st_box (k:Nat) (a:Opd):stepF sp spP no x sl (lk m) (.box k a)=xBox0 x k (en sl a):=by
 simp only[stepF,o1];cases en sl a with
 | none=>rfl
 | some e=>obtain⟨c,v⟩:=e;simp only[xBox0];cases cellsOf v<;>rfl
@[push_cast] theorem st_alloc (k:Nat) (z:List SV):stepF sp spP no x sl (lk m) (.alloc k z)=some (True,.ptr k (x k) 0 0 0,[(k,some (.mine,x k,.cells z))]):=rfl
@[push_cast] theorem st_allocI (k:Nat) (ik:IntKind) (n:Nat):stepF sp spP no x sl (lk m) (.allocI k ik n) =
  some (True,.ptr k ⟨(x k).b,(x k).o,false,n⟩ 0 0 0,[(k,some (.mine,⟨(x k).b,(x k).o,false,n⟩,.ints ik (intsZ n)))]):=rfl
def xLd3 (c:Bool) (L L':Loc):PV->R
 | some (p,v)=>some (c=true/\L'=L/\p,v,[])
 | none=>none
def xLd2 (c:Bool) (n:Option Nat) (k nv:Nat) (L:Loc) (i:Int) (s f:Nat):Option ME->R
 | some (_,L',.recs s' fr z l)=>andR (c=true) (ldRec n k nv L L' i s f s' fr z l)
 | some (_,L',ch)=>match n with | none=>xLd3 c L L' (rdc i s f ch) | some n=>xLd3 c L L' (rdn n i s f ch)
 | none=>none
def xLd (r:Bool) (n:Option Nat) (k nv:Nat) (no:Lim) (m:Mem):En->R
 | some (c,.ptr id L i s f)=>xLd2 c n k nv L i s f (lkK r no (lk m) id)
 | _=>none
@[push_cast] theorem st_ld (r:Bool) (n:Option Nat) (k nv:Nat) (a:Opd):stepF sp spP no x sl (lk m) (.ld r n k nv a)=xLd r n k nv no m (en sl a):=by
 simp only[stepF,o1];cases en sl a with
 | none=>rfl
 | some e=>
  obtain⟨c,v⟩:=e
  cases v<;>try rfl
  simp only[xLd]
  cases lkK r no (lk m) _ with
  | none=>rfl
  | some e=>
   obtain⟨own,L',ch⟩:=e
   cases ch with
   | recs s' fr z l=>
    simp only[xLd2]
    cases ldRec n k nv _ L' _ _ _ s' fr z l<;>rfl
   | _=>
    simp only[xLd2]
    cases n with
    | none=>simp only;cases rdc _ _ _ _<;>rfl
    | some n=>simp only;cases rdn n _ _ _ _<;>rfl
def xSt3 (id:Nat) (c d:Bool) (L L':Loc) (own:Own):Option (Prop×Chunk)->R
 | some (p,ch')=>some (c=true/\d=true/\L'=L/\p,.val undef,[(id,some (own,L',ch'))])
 | none=>none
def xStW (n:Nat) (i:Int) (s f:Nat) (u:SV) (ch:Chunk):Option (Prop×Chunk):=
 match u with
 | .agg us=>bif decide (us.length=n)then wrn i s f us ch else none
 | u=>bif decide (n=1)then wrc i s f u ch else none
def xSt4 (id:Nat) (c d:Bool) (L L':Loc) (own:Own) (s':Nat) (fr:Bool) (z:List RC):Option (Prop×List (List RC)×Upd×Bool)->R
 | some (p,l',u,fr')=>some (c=true/\d=true/\L'=L/\p,.val undef,u++[(id,some (own,L',.recs s' (fr&&fr') z l'))])
 | none=>none
def xSt5 (nk:IntKind) (no:Lim) (m:Mem) (id n:Nat) (c d:Bool) (L:Loc) (i:Int) (s f:Nat) (u:SV) (own:Own) (L':Loc):Bool->Chunk->R
 | true,.recs s' fr z l=>xSt4 id c d L L' own s' fr z (stR (lkN no (lk m)) nk n i s f s' z l u)
 | true,ch=>xSt3 id c d L L' own (xStW n i s f u ch)
 | false,_=>none
def xSt2 (nk:IntKind) (no:Lim) (m:Mem) (id n:Nat) (c d:Bool) (L:Loc) (i:Int) (s f:Nat) (u:SV):Option ME->R
 | some (own,L',ch)=>xSt5 nk no m id n c d L i s f u own L' own.wr ch
 | _=>none
def xSt (r:Bool) (n:Nat) (nk:IntKind) (no:Lim) (m:Mem):En->En->R
 | some (c,.ptr id L i s f),some (d,u)=>xSt2 nk no m id n c d L i s f u (lkK r no (lk m) id)
 | _,_=>none
@[push_cast] theorem st_sto (r:Bool) (n:Nat) (nk:IntKind) (a b:Opd):stepF sp spP no x sl (lk m) (.sto r n nk a b)=xSt r n nk no m (en sl a) (en sl b):=by
 simp only[stepF,o1];cases en sl a with
 | none=>rfl
 | some e=>
  obtain⟨c,v⟩:=e
  cases en sl b with
  | none=>cases v<;>rfl
  | some e'=>
   obtain⟨d,u⟩:=e'
   cases v<;>try rfl
   rename_i id L i s f
   simp only[xSt]
   cases lkK r no (lk m) _ with
   | none=>rfl
   | some e=>
    obtain⟨own,L',ch⟩:=e
    simp only[xSt2]
    cases own.wr with
    | false=>rfl
    | true=>
     cases ch with
     | recs s' fr z l=>
      simp only[xSt5]
      cases stR _ nk n i s f s' z l u with
      | none=>rfl
      | some q=>rfl
     | _=>
      simp only[xSt5,xStW]
      cases u
      case agg us=>
       simp only
       cases decide (us.length=n)
       ·rfl
       ·simp only[cond_true];cases wrn i s f us _<;>rfl
      all_goals
       simp only
       cases decide (n=1)
       ·rfl
       ·simp only[cond_true];cases wrc i s f _ _<;>rfl
def xNil:En->R
 | some (c,.ptr id L i s f)=>some (c=true/\True,.ptr id L i s f,[])
 | _=>none
@[push_cast] theorem st_nilc (a:Opd):stepF sp spP no x sl (lk m) (.nilc a)=xNil (en sl a):=by
 simp only[stepF,o1];cases en sl a with
 | none=>rfl
 | some e=>obtain⟨c,v⟩:=e;cases v<;>rfl
def x2 (f:SV->SV->PV):En->En->R
 | some (c,u),some (d,v)=>k2 c d (f u v)
 | _,_=>none
theorem o12 (sl:List Ent) (a b:Opd) (f:SV->SV->PV):(o1 sl a fun u=>o1 sl b fun v=>upTo (f u v))=x2 f (en sl a) (en sl b):=by
 simp only[o1];cases en sl a with
 | none=>rfl
 | some e=>obtain⟨c,u⟩:=e;cases en sl b with
  | none=>rfl
  | some e'=>obtain⟨d,v⟩:=e';simp only[x2];cases f u v<;>rfl
theorem o11 (sl:List Ent) (a:Opd) (f:SV->PV):(o1 sl a fun u=>upTo (f u))=x1 f (en sl a):=by
 simp only[o1];cases en sl a with
 | none=>rfl
 | some e=>obtain⟨c,u⟩:=e;simp only[x1];cases f u<;>rfl
@[push_cast] theorem st_bin (w:Nat) (op:BinOp) (a b:Opd):stepF sp spP no x sl (lk m) (.bin w op a b)=x2 (binSV w op) (en sl a) (en sl b):=o12 sl a b (binSV w op)
@[push_cast] theorem st_binB (op:BinOp) (a b:Opd):stepF sp spP no x sl (lk m) (.binB op a b)=x2 (binBSV op) (en sl a) (en sl b):=o12 sl a b (binBSV op)
@[push_cast] theorem st_binS (op:BinOp) (a b:Opd):stepF sp spP no x sl (lk m) (.binS op a b)=x2 (binSSV op) (en sl a) (en sl b):=o12 sl a b (binSSV op)
@[push_cast] theorem st_binA (op:BinOp) (ks:List Bool) (a b:Opd):stepF sp spP no x sl (lk m) (.binA op ks a b)=x2 (binASV op ks) (en sl a) (en sl b):=o12 sl a b (binASV op ks)
@[push_cast] theorem st_binT (op:BinOp) (a b:Opd):stepF sp spP no x sl (lk m) (.binT op a b)=x2 (binTSV op) (en sl a) (en sl b):=o12 sl a b (binTSV op)
@[push_cast] theorem st_binN (op:BinOp) (a b:Opd):stepF sp spP no x sl (lk m) (.binN op a b)=x2 (binNSV op) (en sl a) (en sl b):=o12 sl a b (binNSV op)
@[push_cast] theorem st_neg (w:Nat) (a:Opd):stepF sp spP no x sl (lk m) (.neg w a)=x1 (negSV w) (en sl a):=o11 sl a (negSV w)
@[push_cast] theorem st_not (a:Opd):stepF sp spP no x sl (lk m) (.not a)=x1 notSV (en sl a):=o11 sl a notSV
@[push_cast] theorem st_cvt (w:Nat) (k:IntKind) (a:Opd):stepF sp spP no x sl (lk m) (.cvt w k a)=x1 (cvtSV w k) (en sl a):=o11 sl a (cvtSV w k)
def xPick2 (cc ca cb g:Bool):Option SV->R
 | some v=>some (cc=true/\(g=true->ca=true)/\(g=false->cb=true),v,[])
 | none=>none
def xPick:En->En->En->R
 | some (cc,.bool g),some (ca,va),some (cb,vb)=>xPick2 cc ca cb g (pickSV g va vb)
 | _,_,_=>none
@[push_cast] theorem st_pick (c a b:Opd):stepF sp spP no x sl (lk m) (.pick c a b)=xPick (en sl c) (en sl a) (en sl b):=by
 simp only[stepF]
 cases en sl c with
 | none=>rfl
 | some e=>
  obtain⟨cc,g⟩:=e
  cases g<;>try (cases en sl a<;>cases en sl b<;>rfl)
  cases en sl a with
  | none=>rfl
  | some e=>cases en sl b with
   | none=>rfl
   | some e'=>
    obtain⟨ca,va⟩:=e
    obtain⟨cb,vb⟩:=e'
    simp only[xPick]
    cases pickSV _ va vb<;>rfl
def fldSV (off:Nat):SV->PV
 | .ptr c L i s f=>some (True,.ptr c L i s (f+off))
 | _=>none
@[push_cast] theorem st_fld (a:Opd) (off:Nat):stepF sp spP no x sl (lk m) (.fld a off)=x1 (fldSV off) (en sl a):=by
 simp only[stepF,o1];cases en sl a with
 | none=>rfl
 | some e=>obtain⟨c,v⟩:=e;cases v<;>rfl
def optPV:Option SV->PV
 | some v=>some (True,v)
 | none=>none
def aggPV:Option (List SV)->PV
 | some l=>some (True,.agg l)
 | none=>none
def fldvSV (off:Nat) (n:Option Nat):SV->PV
 | .agg cs=>match n with | none=>optPV (getL cs off) | some n=>aggPV (takeL (dropL cs off) n)
 | _=>none
@[push_cast] theorem st_fldv (a:Opd) (off:Nat) (n:Option Nat):stepF sp spP no x sl (lk m) (.fldv a off n)=x1 (fldvSV off n) (en sl a):=by
 simp only[stepF,o1];cases en sl a with
 | none=>rfl
 | some e=>
  obtain⟨c,v⟩:=e
  cases v<;>try rfl
  cases n with
  | none=>simp only[x1,fldvSV];cases getL _ off<;>rfl
  | some n=>simp only[x1,fldvSV];cases takeL _ n<;>rfl
def extSV (i:Nat):SV->PV
 | .tup cs=>optPV (getL cs i)
 | _=>none
@[push_cast] theorem st_ext (a:Opd) (i:Nat):stepF sp spP no x sl (lk m) (.ext a i)=x1 (extSV i) (en sl a):=by
 simp only[stepF,o1];cases en sl a with
 | none=>rfl
 | some e=>
  obtain⟨c,v⟩:=e
  cases v<;>try rfl
  simp only[x1,extSV];cases getL _ i<;>rfl
def lenSV:SV->PV
 | .sl _ _ _ _ n=>some (True,.int .i64 n)
 | .int _ _=>some (False,.int .i64 0)
 | _=>none
@[push_cast] theorem st_len (a:Opd):stepF sp spP no x sl (lk m) (.len a)=x1 lenSV (en sl a):=by
 simp only[stepF,o1];cases en sl a with
 | none=>rfl
 | some e=>obtain⟨c,v⟩:=e;cases v<;>rfl
@[push_cast] theorem st_lenK (n:Nat):stepF sp spP no x sl (lk m) (.lenK n)=some (True,.int .i64 n,[]):=rfl
def idxSSV (s:Nat):SV->SV->PV
 | .sl c L s' lo len,.int _ i=>bif decide (s=s')then some (0<=i/\i<len,.ptr c L (lo+i) s 0)else none
 | _,_=>none
@[push_cast] theorem st_idxS (a b:Opd) (s:Nat):stepF sp spP no x sl (lk m) (.idxS a b s)=x2 (idxSSV s) (en sl a) (en sl b):=by
 rw[<-o12]
 simp only[stepF]
 congr 1;funext u;congr 1;funext v
 cases u<;>cases v<;>try rfl
 simp only[idxSSV]
 cases decide (s=_)<;>rfl
def idxPSV (len s:Nat):SV->SV->PV
 | .ptr c L i s' f,.int _ j=>bif s'==0 then some (0<=j/\j<len,.ptr c L j s f)else some (0<=j/\j<len,.ptr c L i s' (f+j.toNat*s))
 | _,_=>none
@[push_cast] theorem st_idxP (a b:Opd) (len s:Nat):stepF sp spP no x sl (lk m) (.idxP a b len s)=x2 (idxPSV len s) (en sl a) (en sl b):=by
 rw[<-o12]
 simp only[stepF]
 congr 1;funext u;congr 1;funext v
 cases u<;>cases v<;>try rfl
 rename_i c L i s' f k j
 simp only[idxPSV]
 cases (s'==0)<;>rfl
def idxVk (len:Nat) (j:Int):Option (IntKind×List Int)->PV
 | some (k,xs)=>bif decide (xs.length=len)then some (0<=j/\j<len,.int k (rd xs j))else none
 | none=>none
def idxVSV (len:Nat):SV->SV->PV
 | .agg cs,.int _ j=>idxVk len j (intOfs cs)
 | _,_=>none
@[push_cast] theorem st_idxV (a b:Opd) (len:Nat):stepF sp spP no x sl (lk m) (.idxV a b len)=x2 (idxVSV len) (en sl a) (en sl b):=by
 rw[<-o12]
 simp only[stepF]
 congr 1;funext u;congr 1;funext v
 cases u<;>cases v<;>try rfl
 simp only[idxVSV]
 cases intOfs _ with
 | none=>rfl
 | some q=>obtain⟨k,xs⟩:=q;simp only[idxVk];cases decide (xs.length=len)<;>rfl
def tabSV (xs:List Int):SV->PV
 | .int _ j=>some (0<=j/\j<xs.length,.int .u8 (rd xs j))
 | _=>none
@[push_cast] theorem st_tabI (xs:List Int) (a:Opd):stepF sp spP no x sl (lk m) (.tabI xs a)=x1 (tabSV xs) (en sl a):=by
 rw[<-o11]
 simp only[stepF]
 congr 1;funext u
 cases u<;>rfl
def mnSV:SV->SV->PV
 | .int k n,.int _ m=>some (True,.int k (min n m))
 | _,_=>none
def mxSV:SV->SV->PV
 | .int k n,.int _ m=>some (True,.int k (max n m))
 | _,_=>none
@[push_cast] theorem st_mn (a b:Opd):stepF sp spP no x sl (lk m) (.mn a b)=x2 mnSV (en sl a) (en sl b):=by
 rw[<-o12]
 simp only[stepF]
 congr 1;funext u;congr 1;funext v
 cases u<;>cases v<;>rfl
@[push_cast] theorem st_mx (a b:Opd):stepF sp spP no x sl (lk m) (.mx a b)=x2 mxSV (en sl a) (en sl b):=by
 rw[<-o12]
 simp only[stepF]
 congr 1;funext u;congr 1;funext v
 cases u<;>cases v<;>rfl
theorem o13 (sl:List Ent) (a b c:Opd) (f:SV->SV->SV->R):(o1 sl a fun u=>o1 sl b fun v=>o1 sl c fun w=>f u v w)=ons sl [a,b,c] fun vs=>match vs with | [u,v,w]=>f u v w | _=>none:=rfl
def mn3V:List SV->R
 | [.int k n,.int _ m,.int _ o]=>some (True,.int k (min (min n m) o),[])
 | _=>none
def mx3V:List SV->R
 | [.int k n,.int _ m,.int _ o]=>some (True,.int k (max (max n m) o),[])
 | _=>none
@[push_cast] theorem st_mn3 (a b c:Opd):stepF sp spP no x sl (lk m) (.mn3 a b c)=fin1 mn3V (vsE sl [a,b,c]):=by
 rw[<-ons_vsE]
 simp only[stepF]
 rw[o13]
 congr 1;funext vs
 unfold mn3V
 split
 ·rename_i u v w
  cases u<;>cases v<;>cases w<;>rfl
 ·rename_i h
  split
  ·rename_i k n _ m' _ o;exact absurd rfl (h _ _ _)
  ·rfl
@[push_cast] theorem st_mx3 (a b c:Opd):stepF sp spP no x sl (lk m) (.mx3 a b c)=fin1 mx3V (vsE sl [a,b,c]):=by
 rw[<-ons_vsE]
 simp only[stepF]
 rw[o13]
 congr 1;funext vs
 unfold mx3V
 split
 ·rename_i u v w
  cases u<;>cases v<;>cases w<;>rfl
 ·rename_i h
  split
  ·rename_i k n _ m' _ o;exact absurd rfl (h _ _ _)
  ·rfl
def bslV (x:Nat->Loc) (k:Nat) (n:Int):Option Chunk->R
 | some ch=>some (True,.sl k (x k) 1 0 n,[(k,some (.mine,x k,ch))])
 | none=>none
@[push_cast] theorem st_bslice (k:Nat) (ps:List Opd):stepF sp spP no x sl (lk m) (.bslice k ps)=fin1 (fun vs=>bslV x k vs.length (rowOf vs)) (vsE sl ps):=by
 rw[<-ons_vsE]
 simp only[stepF]
 congr 1;funext vs
 cases rowOf vs<;>rfl
def brecR (x:Nat->Loc) (k s:Nat) (n:Int):Option (Prop×List (List RC)×Upd×Bool)->R
 | some (p,l,u,fr)=>some (p,.sl k (x k) s 0 n,u++[(k,some (.mine,x k,.recs s fr [] l))])
 | none=>none
@[push_cast] theorem st_brecs (k s:Nat) (nk:IntKind) (ps:List Opd):stepF sp spP no x sl (lk m) (.brecs k s nk ps)=fin1 (fun vs=>bif decide (nk=.u64)then brecC x k s vs else brecR x k s vs.length (recsOf (lkN no (lk m)) nk s vs)) (vsE sl ps):=by
 rw[<-ons_vsE]
 simp only[stepF]
 congr 1;funext vs
 cases recsOf _ nk s vs with
 | none=>rfl
 | some q=>rfl
@[push_cast] theorem st_mkf (f:FuncId) (cs:List Opd):stepF sp spP no x sl (lk m) (.mkf f cs)=fin1 (fun vs=>some (True,.fn f vs,[])) (vsE sl cs):=by
 rw[<-ons_vsE];rfl
def psE (sl:List Ent):List (Nat×Nat×Opd)->Option (Prop×List (Nat×Nat×SV))
 | []=>some (True,[])
 | (o,s,a)::as=>psE2 o s (en sl a) (psE sl as)
where psE2 (o s:Nat):En->Option (Prop×List (Nat×Nat×SV))->Option (Prop×List (Nat×Nat×SV))
 | some (c,v),some (p,vs)=>some (c=true/\p,(o,s,v)::vs)
 | _,_=>none
def aggR:Option (List SV)->R
 | some cs=>some (True,.agg cs,[])
 | none=>none
def finP (z:List SV):Option (Prop×List (Nat×Nat×SV))->R
 | some (p,vs)=>andR p (aggR (fillL z vs))
 | none=>none
@[push_cast] theorem st_build (z:List SV) (ps:List (Nat×Nat×Opd)):stepF sp spP no x sl (lk m) (.build z ps)=finP z (psE sl ps):=by
 have key:∀ (as:List (Nat×Nat×Opd)) (f:List (Nat×Nat×SV)->R),onps sl as f=(match psE sl as with | some (p,vs)=>andR p (f vs) | none=>none):=by
  intro as
  induction as with
  | nil=>intro f;simp[onps,psE,andR_true]
  | cons a as ih=>
   intro f
   obtain⟨o,s,a⟩:=a
   simp only[onps,o1,psE]
   cases en sl a with
   | none=>rfl
   | some e=>
    obtain⟨c,v⟩:=e
    simp only[ih]
    cases psE sl as with
    | none=>rfl
    | some q=>
     obtain⟨p,vs⟩:=q
     simp only[psE.psE2]
     cases f ((o,s,v)::vs)with
     | none=>rfl
     | some r=>simp[andR,and_assoc]
 simp only[stepF]
 rw[key]
 cases psE sl ps with
 | none=>rfl
 | some q=>
  obtain⟨p,vs⟩:=q
  simp only[finP]
  cases fillL z vs<;>rfl
def mksV (x:Nat->Loc) (k:Nat) (n mm:Int):Option Chunk->R
 | some ch=>some (0<=n/\n<=mm/\mm<=1000000000000,.sl k (x k) 1 0 n,[(k,some (.mine,x k,ch))])
 | none=>none
def xMks (x:Nat->Loc) (k:Nat) (z:SV):List SV->R
 | [.int _ n,.int _ mm]=>mksV x k n mm (rowRep z n)
 | _=>none
@[push_cast] theorem st_mks (k:Nat) (z:SV) (by':Nat) (l c:Opd):stepF sp spP no x sl (lk m) (.mks k z by' l c)=fin1 (xMks x k z) (vsE sl [l,c]):=by
 rw[<-ons_vsE]
 simp only[stepF,ons]
 congr 1;funext u;congr 1;funext v
 cases u<;>cases v<;>try rfl
 simp only[xMks]
 cases rowRep z _<;>rfl
def xMksR (x:Nat->Loc) (k:Nat) (z:List RC):List SV->R
 | [.int _ n,.int _ mm]=>some (0<=n/\n<=mm/\mm<=1000000000,.sl k (x k) z.length 0 n,[(k,some (.mine,x k,.recs z.length true z (List.replicate n.toNat z)))])
 | _=>none
@[push_cast] theorem st_mksR (k:Nat) (z:List RC) (by':Nat) (l c:Opd):stepF sp spP no x sl (lk m) (.mksR k z by' l c)=fin1 (xMksR x k z) (vsE sl [l,c]):=by
 rw[<-ons_vsE]
 simp only[stepF,ons]
 congr 1;funext u;congr 1;funext v
 cases u<;>cases v<;>rfl
def xCopy (no:Lim) (m:Mem):List SV->R
 | [.sl c L s lo n,.sl d M s' lo' mm]=>bif decide (s=1)&&decide (s'=1)then copyF c L M lo n lo' mm (lkN no (lk m) c) (lkN no (lk m) d)else none
 | _=>none
@[push_cast] theorem st_copy (a b:Opd):stepF sp spP no x sl (lk m) (.copy a b)=fin1 (xCopy no m) (vsE sl [a,b]):=by
 rw[<-ons_vsE]
 simp only[stepF,ons]
 congr 1;funext u;congr 1;funext v
 cases u<;>cases v<;>rfl
def xClear2 (z:List RC) (c:Nat) (L:Loc) (s:Nat) (lo n:Int):Option ME->R
 | some (own,L',.recs s' fr z' l)=>bif own.wr&&(decide (s=s')&&noRows z&&decide (z.length=s))then some (L'=L/\0<=lo/\0<=n/\lo+n=l.length,.tup [],[(c,some (own,L',.recs s' fr z' (l.take lo.toNat++List.replicate n.toNat z)))])else none
 | _=>none
def xClear (z:List RC) (no:Lim) (m:Mem):SV->R
 | .sl c L s lo n=>xClear2 z c L s lo n (lkN no (lk m) c)
 | _=>none
def slcK (c:Nat) (L:Loc) (s:Nat) (lo0 len:Int):Option Int->Option Int->R
 | some l,some h=>some (0<=l/\l<=h/\h<=len,.sl c L s (lo0+l) (h-l),[])
 | _,_=>none
def slcV (s:Nat) (l h:Option SV):SV->R
 | .sl c L s' lo0 len=>bif decide (s=s')then slcK c L s lo0 len (slcLo l) (slcHi len h)else none
 | _=>none
def slc3 (s:Nat):En->Option (Prop×Option SV)->Option (Prop×Option SV)->R
 | some (c,v),some (p,l),some (q,h)=>andR (c=true/\p/\q) (slcV s l h v)
 | _,_,_=>none
def enO (sl:List Ent):Option Opd->Option (Prop×Option SV)
 | none=>some (True,none)
 | some a=>enO2 (en sl a)
where enO2:En->Option (Prop×Option SV)
 | some (c,v)=>some (c=true,some v)
 | none=>none
@[push_cast] theorem st_slc (a:Opd) (s:Nat) (lo hi:Option Opd):stepF sp spP no x sl (lk m) (.slc a s lo hi)=slc3 s (en sl a) (enO sl lo) (enO sl hi):=by
 have h0:∀ (o:Option Opd) (f:Option SV->R),o0 sl o f=(match enO sl o with | some (p,l)=>andR p (f l) | none=>none):=by
  intro o f
  cases o with
  | none=>simp[o0,enO,andR_true]
  | some a=>
   simp only[o0,o1,enO]
   cases en sl a with
   | none=>rfl
   | some e=>obtain⟨c,v⟩:=e;simp only[enO.enO2];cases f (some v)<;>rfl
 simp only[stepF,o1]
 cases en sl a with
 | none=>rfl
 | some e=>
  obtain⟨c,v⟩:=e
  simp only[h0]
  cases enO sl lo with
  | none=>rfl
  | some q=>
   obtain⟨p,l⟩:=q
   cases enO sl hi with
   | none=>rfl
   | some q'=>
    obtain⟨p',h⟩:=q'
    simp only[slc3,slcV]
    cases v<;>try rfl
    rename_i cc L s' lo0 len
    simp only
    cases decide (s=s')<;>cases slcLo l<;>cases slcHi len h<;>simp[andR,and_assoc,slcK]
def slcAV (n s:Nat):SV->R
 | .ptr c L i 0 0=>some (L.nil=false/\L.cap=n,.sl c L s 0 n,[])
 | _=>none
def x1R (f:SV->R):En->R
 | some (c,v)=>andR (c=true) (f v)
 | none=>none
theorem o1R (sl:List Ent) (a:Opd) (f:SV->R):o1 sl a f=x1R f (en sl a):=by
 simp only[o1]
 cases en sl a with
 | none=>rfl
 | some e=>obtain⟨c,v⟩:=e;simp only[x1R];cases f v<;>rfl
@[push_cast] theorem st_slcA (a:Opd) (n s:Nat):stepF sp spP no x sl (lk m) (.slcA a n s)=x1R (slcAV n s) (en sl a):=by
 rw[<-o1R];rfl
def xStr (no:Lim) (m:Mem):SV->R
 | .sl c L s lo n=>strV s L lo n (lkN no (lk m) c)
 | _=>none
@[push_cast] theorem st_str (a:Opd):stepF sp spP no x sl (lk m) (.str a)=x1R (xStr no m) (en sl a):=by
 rw[<-o1R];rfl
@[push_cast] theorem st_clear (z:List RC) (a:Opd):stepF sp spP no x sl (lk m) (.clear z a)=x1R (xClear z no m) (en sl a):=by
 rw[<-o1R]
 simp only[stepF]
 congr 1;funext v
 cases v<;>try rfl
 simp only[xClear]
 cases lkN no (lk m) _ with
 | none=>rfl
 | some e=>
  obtain⟨own,L',ch⟩:=e
  cases ch<;>try rfl
  simp only[xClear2]
  cases own.wr<;>simp
def appK (x:Nat->Loc) (k es:Nat):Option (Prop×Int×Option (Nat×Own)×Chunk)->R
 | some (p,n,none,ch)=>some (p,.sl k (x k) es 0 n,[(k,some (.mine,x k,ch))])
 | some (p,n,some (c,own),ch)=>some (p,.sl k (x k) es 0 n,[(c,none),(k,some (own,x k,ch))])
 | none=>none
def xApp (x:Nat->Loc) (k es eb:Nat) (no:Lim) (m:Mem):List SV->R
 | [u,v]=>appK x k es (appF es eb no (lk m) u v)
 | _=>none
@[push_cast] theorem st_app (k es by':Nat) (a b:Opd):stepF sp spP no x sl (lk m) (.app k es by' a b)=fin1 (xApp x k es by' no m) (vsE sl [a,b]):=by
 rw[<-ons_vsE]
 simp only[stepF,ons]
 congr 1;funext u;congr 1;funext v
 simp only[xApp]
 cases appF es by' no (lk m) u v with
 | none=>rfl
 | some r=>
  obtain⟨p,n,f,ch⟩:=r
  cases f with
  | none=>rfl
  | some f=>rfl
@[push_cast] theorem st_callp (f:FuncId) (as:List Opd):stepF sp spP no x sl (lk m) (.callp f as)=fin1 (fun vs=>upTo (spP f vs)) (vsE sl as):=by
 rw[<-ons_vsE];rfl
def chkIn (k n:Nat):R->R
 | some (p,v,u)=>bif updIn k n u then some (p,v,u)else none
 | none=>none
def xCall (sp:Sp) (no:Lim) (x:Nat->Loc) (m:Mem) (n:Option Nat) (k:Nat) (f:FuncId) (vs:List SV):R:=
 match n with
 | none=>sp f vs (lk m) x k
 | some n=>chkIn k n (sp f vs (lkN no (lk m)) x k)
theorem spN_eq (n:Option Nat) (k:Nat) (f:FuncId) (vs:List SV):spN sp no x (lk m) n k f vs=xCall sp no x m n k f vs:=by
 cases n with
 | none=>rfl
 | some n=>
  simp only[spN,xCall]
  cases sp f vs (lkN no (lk m)) x k<;>rfl
@[push_cast] theorem st_call (n:Option Nat) (k:Nat) (f:FuncId) (as:List Opd):stepF sp spP no x sl (lk m) (.call n k f as)=fin1 (xCall sp no x m n k f) (vsE sl as):=by
 rw[<-ons_vsE]
 simp only[stepF,spN_eq]
def xCallv (sp:Sp) (no:Lim) (x:Nat->Loc) (m:Mem) (n:Option Nat) (k:Nat):List SV->R
 | .fn f cs::vs=>xCall sp no x m n k f (vs++cs)
 | _=>none
@[push_cast] theorem st_callv (n:Option Nat) (k:Nat) (g:Opd) (as:List Opd):stepF sp spP no x sl (lk m) (.callv n k g as)=fin1 (xCallv sp no x m n k) (vsE sl (g::as)):=by
 rw[<-ons_vsE]
 simp only[stepF,ons,spN_eq]
 congr 1;funext v;congr 1;funext vs
 cases v<;>rfl
end
abbrev St:=Option (Prop×List Ent×Mem)
def finO (P:Prop) (d:Option Nat) (sl:List Ent) (m:Mem):Option Bool->R->St
 | some g,some (p,v,u)=>some (P/\(g=true->p)/\(g=true∨u=[]),putE sl d (some (g,v)),apU m u)
 | _,_=>none
def runO (sp:Sp) (spP:SpP) (o:IRO) (x:Nat->Loc):St->St
 | some (P,sl,m)=>finO P o.dst sl m (guardOf sl o.guard) (stepF sp spP o.no x sl (lk m) o.op)
 | none=>none
def runR (sp:Sp) (spP:SpP) (X:Nat->Nat->Loc):List IRO->Nat->St->St
 | [],_,s=>s
 | o::os,i,s=>runR sp spP X os (i+1) (runO sp spP o (X i) s)
def RunOk (K:KT):St->Prop
 | some (P,sl,m)=>P/\K sl m
 | none=>False
theorem runR_none (sp:Sp) (spP:SpP) (X:Nat->Nat->Loc):∀ (os:List IRO) (i:Nat),runR sp spP X os i none=none
 | [],i=>rfl
 | o::os,i=>by simp only[runR,runO];exact runR_none sp spP X os (i+1)
theorem runR_cong (sp:Sp) (spP:SpP) {X Y:Nat->Nat->Loc}:∀ (os:List IRO) (i:Nat) (s:St),(∀ j,i<=j->X j=Y j)->runR sp spP X os i s=runR sp spP Y os i s
 | [],i,s,h=>rfl
 | o::os,i,s,h=>by
  simp only[runR]
  rw[h i (Nat.le_refl i)]
  exact runR_cong sp spP os (i+1) _ fun j hj=>h j (by omega)
theorem runR_ok (sp:Sp) (spP:SpP) (K:KT):∀ (os:List IRO) (i:Nat) (P:Prop) (sl:List Ent) (m:Mem),(∀ X,RunOk K (runR sp spP X os i (some (P,sl,m))))->P/\evR sp spP os sl m K
 | [],i,P,sl,m,h=>by simpa [runR,RunOk,evR]using h (fun _ _=>default)
 | o::os,i,P,sl,m,h=>by
  have h1:∀ x:Nat->Loc,∀ X,RunOk K (runR sp spP X os (i+1) (runO sp spP o x (some (P,sl,m)))):=by
   intro x X
   have:=h (fun j=>if j=i then x else X j)
   simp only[runR,if_true]at this
   rwa [runR_cong sp spP (X:=fun j=>if j=i then x else X j) (Y:=X) os (i+1) _ (fun j hj=>if_neg (by omega))]at this
  have h2:∀ x:Nat->Loc,P/\∃ g,guardOf sl o.guard=some g/\stepK sp spP o g x sl m (fun sl m=>evR sp spP os sl m K):=by
   intro x
   have hx:=h1 x
   simp only[runO]at hx
   cases hg:guardOf sl o.guard with
   | none=>rw[hg]at hx;simp only[finO,runR_none,RunOk]at hx;exact(hx (fun _ _=>default)).elim
   | some g=>
    rw[hg]at hx
    unfold stepK
    cases hs:stepF sp spP o.no x sl (lk m) o.op with
    | none=>rw[hs]at hx;simp only[finO,runR_none,RunOk]at hx;exact(hx (fun _ _=>default)).elim
    | some r=>
     obtain⟨p,v,u⟩:=r
     rw[hs]at hx
     simp only[finO]at hx
     have:=runR_ok sp spP K os (i+1) _ _ _ hx
     exact⟨this.1.1,g,rfl,this.1.2.1,this.1.2.2,this.2⟩
  refine⟨(h2 (fun _=>default)).1,?_⟩
  simp only[evR,evO]
  obtain⟨_,g,hg,hk⟩:=h2 (fun _=>default)
  simp only[hg]
  cases hm:o.op.makes with
  | false=>simpa using hk
  | true=>
   simp only[cond_true]
   intro x
   obtain⟨_,g',hg',hk'⟩:=h2 x
   rw[hg]at hg'
   cases hg'
   exact hk'
theorem runR_ok' (sp:Sp) (spP:SpP) (K:KT) (X:Nat->Nat->Loc):∀ (os:List IRO) (i:Nat) (P:Prop) (sl:List Ent) (m:Mem),P->evR sp spP os sl m K->RunOk K (runR sp spP X os i (some (P,sl,m)))
 | [],i,P,sl,m,hp,h=>⟨hp,h⟩
 | o::os,i,P,sl,m,hp,h=>by
  simp only[evR,evO]at h
  cases hg:guardOf sl o.guard with
  | none=>simp[hg]at h
  | some g=>
   simp only[hg]at h
   have h2:stepK sp spP o g (X i) sl m (fun sl m=>evR sp spP os sl m K):=by
    cases hm:o.op.makes with
    | true=>rw[hm]at h;exact h (X i)
    | false=>
     rw[hm]at h
     simp only[cond_false]at h
     unfold stepK at h ⊢
     rwa [stepF_same (fun _=>default) (X i) hm]at h
   unfold stepK at h2
   simp only[runR,runO,hg]
   cases hs:stepF sp spP o.no (X i) sl (lk m) o.op with
   | none=>rw[hs]at h2;exact h2.elim
   | some r=>
    obtain⟨p,v,u⟩:=r
    rw[hs]at h2
    simp only[finO]
    exact runR_ok' sp spP K X os (i+1) _ _ _ ⟨hp,h2.1,h2.2.1⟩ h2.2.2
structure LoopS where
 A:Type
 I:A->List Ent×Mem
 R:A->Prop
 mu:A->Nat
inductive Item where
 | code (ir:IR)
 | blk (id:Nat)
 | lp (K:KT)
section 
variable (sp:Sp) (spP:SpP) (T:KT)
def lpK (l:LoopS) (x:l.A):KT:=fun sl m=>∃ y,l.R y/\l.mu y<l.mu x/\Sub sl m (l.I y).1 (l.I y).2
def contS:List Item->KT×(Nat->KT)
 | []=>(T,fun _ _ _=>False)
 | .code ir::S=>(fun sl m=>ev sp spP ir (contS S).1 (contS S).2 T sl m,(contS S).2)
 | .lp K::S=>(K,(contS S).2)
 | .blk id::S=>((contS S).1,extAdd id (contS S).1 (contS S).2)
def evS (S:List Item) (sl:List Ent) (m:Mem):Prop:=(contS sp spP T S).1 sl m
def exS (id:Nat) (S:List Item) (sl:List Ent) (m:Mem):Prop:=(contS sp spP T S).2 id sl m
def condS (a b:IR) (S:List Item) (sl:List Ent) (m:Mem):En->Prop
 | some (cc,.bool t)=>cc=true/\(t=true->evS sp spP T (.code a::S) sl m)/\(t=false->evS sp spP T (.code b::S) sl m)
 | _=>False
def endR (S:List Item) (ks km:List Nat):St->Prop
 | some (P,sl,m)=>P/\evS sp spP T S (killE sl ks) (killE m km)
 | none=>False
theorem evS_nil (sl:List Ent) (m:Mem):evS sp spP T [] sl m=T sl m:=rfl
theorem evS_skip (S:List Item) (sl:List Ent) (m:Mem):evS sp spP T (.code .skip::S) sl m=evS sp spP T S sl m:=rfl
theorem evS_seq (a b:IR) (S:List Item) (sl:List Ent) (m:Mem):evS sp spP T (.code (.seq a b)::S) sl m=evS sp spP T (.code a::.code b::S) sl m:=rfl
theorem evS_block (id:Nat) (b:IR) (S:List Item) (sl:List Ent) (m:Mem):evS sp spP T (.code (.block id b)::S) sl m=evS sp spP T (.code b::.blk id::S) sl m:=rfl
theorem evS_blk (id:Nat) (S:List Item) (sl:List Ent) (m:Mem):evS sp spP T (.blk id::S) sl m=evS sp spP T S sl m:=rfl
theorem evS_dead (S:List Item) (sl:List Ent) (m:Mem):evS sp spP T (.code .dead::S) sl m=False:=rfl
theorem evS_ret (S:List Item) (sl:List Ent) (m:Mem):evS sp spP T (.code .ret::S) sl m=T sl m:=rfl
theorem evS_exit (id:Nat) (S:List Item) (sl:List Ent) (m:Mem):evS sp spP T (.code (.exit id)::S) sl m=exS sp spP T id S sl m:=rfl
theorem exS_code (id:Nat) (ir:IR) (S:List Item) (sl:List Ent) (m:Mem):exS sp spP T id (.code ir::S) sl m=exS sp spP T id S sl m:=rfl
theorem exS_lp (id:Nat) (K:KT) (S:List Item) (sl:List Ent) (m:Mem):exS sp spP T id (.lp K::S) sl m=exS sp spP T id S sl m:=rfl
theorem exS_blk (id i:Nat) (S:List Item) (sl:List Ent) (m:Mem):exS sp spP T id (.blk i::S) sl m=bif id==i then evS sp spP T S sl m else exS sp spP T id S sl m:=by
 unfold exS evS
 simp only[contS,extAdd]
 by_cases h:id=i
 ·subst h;simp
 ·simp[h]
theorem evS_cond (c:Opd) (a b:IR) (S:List Item) (sl:List Ent) (m:Mem):evS sp spP T (.code (.cond c a b)::S) sl m=condS sp spP T a b S sl m (en sl c):=by
 unfold evS condS
 simp only[contS,ev]
 cases en sl c with
 | none=>rfl
 | some e=>obtain⟨cc,v⟩:=e;cases v<;>rfl
theorem condS_t (a b:IR) (S:List Item) (sl:List Ent) (m:Mem) (cc:Bool):condS sp spP T a b S sl m (some (cc,.bool true))=(cc=true/\evS sp spP T (.code a::S) sl m):=by
 simp[condS]
theorem condS_f (a b:IR) (S:List Item) (sl:List Ent) (m:Mem) (cc:Bool):condS sp spP T a b S sl m (some (cc,.bool false))=(cc=true/\evS sp spP T (.code b::S) sl m):=by
 simp[condS]
theorem condS_d (a b:IR) (S:List Item) (sl:List Ent) (m:Mem) (cc:Bool) (p:Prop) [Decidable p]:condS sp spP T a b S sl m (some (cc,.bool (decide p))) =
  (cc=true/\(p->evS sp spP T (.code a::S) sl m)/\(¬ p->evS sp spP T (.code b::S) sl m)):=by
 simp[condS]
theorem condS_nd (a b:IR) (S:List Item) (sl:List Ent) (m:Mem) (cc:Bool) (p:Prop) [Decidable p]:condS sp spP T a b S sl m (some (cc,.bool (!decide p))) =
  (cc=true/\(¬ p->evS sp spP T (.code a::S) sl m)/\(p->evS sp spP T (.code b::S) sl m)):=by
 simp[condS]
theorem condS_b (a b:IR) (S:List Item) (sl:List Ent) (m:Mem) (cc t:Bool):condS sp spP T a b S sl m (some (cc,.bool t)) =
  (cc=true/\(t=true->evS sp spP T (.code a::S) sl m)/\(t=false->evS sp spP T (.code b::S) sl m)):=rfl
theorem evS_reg (d:Bool) (ops:List IRO) (ks km:List Nat) (S:List Item) (sl:List Ent) (m:Mem) :
  evS sp spP T (.code (.reg d ops ks km)::S) sl m=∀ X,endR sp spP T S ks km (runR sp spP X ops 0 (some (True,sl,m))):=by
 have e:∀ X,endR sp spP T S ks km (runR sp spP X ops 0 (some (True,sl,m)))=RunOk (fun sl m=>evS sp spP T S (killE sl ks) (killE m km)) (runR sp spP X ops 0 (some (True,sl,m))):=by
  intro X
  cases runR sp spP X ops 0 (some (True,sl,m))with
  | none=>rfl
  | some r=>rfl
 simp only[e]
 apply propext
 exact⟨fun h X=>runR_ok' sp spP _ X ops 0 True sl m trivial h,fun h=>(runR_ok sp spP _ ops 0 True sl m h).2⟩
theorem evS_leaf (p:List Nat) (ops:List IRO) (ks km:List Nat) (S:List Item) (sl:List Ent) (m:Mem) :
  evS sp spP T (.code (.regT (.leaf p) ops ks km)::S) sl m=evS sp spP T (.code (.reg true (pickL ops p) ks km)::S) sl m:=rfl
theorem evS_split (a b:Nat) (l r:OT) (ops:List IRO) (ks km:List Nat) (S:List Item) (sl:List Ent) (m:Mem) :
  evS sp spP T (.code (.regT (.split a b l r) ops ks km)::S) sl m=(evS sp spP T (.code (.regT l ops ks km)::S) sl m/\evS sp spP T (.code (.regT r ops ks km)::S) sl m):=rfl
theorem evS_loop {b:IR} {S:List Item} {sl:List Ent} {m:Mem} (l:LoopS) (x:l.A) (h0:l.R x) (hs:Sub sl m (l.I x).1 (l.I x).2)
  (h:∀ x,l.R x->evS sp spP T (.code b::.lp (lpK l x)::S) (l.I x).1 (l.I x).2):evS sp spP T (.code (.loop b)::S) sl m:=
 ⟨l.A,l.I,l.R,l.mu,⟨x,h0,hs⟩,h⟩
theorem evS_lp {S:List Item} {sl:List Ent} {m:Mem} {l:LoopS} {x:l.A} (y:l.A) (h0:l.R y) (hm:l.mu y<l.mu x) (hs:Sub sl m (l.I y).1 (l.I y).2):evS sp spP T (.lp (lpK l x)::S) sl m:=
 ⟨y,h0,hm,hs⟩
end
attribute [push_cast] k1 k2 x1 fin1 vsE vsE.vsE2 andR xBox xBox0 xLd3 xLd2 xLd xSt3 xStW xSt4 xSt5 xSt2 xSt brecC brecR xMksR copyF xCopy xClear2 xClear xStr xNil x2 xPick2 xPick fldSV optPV aggPV fldvSV extSV lenSV idxSSV idxPSV idxVk idxVSV tabSV mnSV mxSV mn3V mx3V bslV
 psE psE.psE2 aggR finP mksV xMks slcK slcV slc3 enO enO.enO2 slcAV x1R appK xApp chkIn xCall xCallv finO runO runR endR
attribute [push_cast] evS_nil evS_dead evS_skip evS_seq evS_block evS_blk evS_ret evS_exit exS_code exS_lp exS_blk evS_cond condS_t condS_f condS_d condS_nd condS_b evS_reg evS_leaf evS_split pickL getO
theorem tri_evS {P:Program} {sp:Sp} {spP:SpP} {tab:Tab} {isP:FuncId->Bool} {chk:Option OT->Array Oper->List IRO->Bool} (H:Hyp P tab isP sp spP chk) {f:FuncId} {fn:Func} {ir:IR} {rs:List RV} {n:Nat} (hf:P.funcs[f]?=some fn)
  (hcomp:(fn.body.bind fun c=>compC tab isP chk ir c)=some ir) (hrv:compRV tab fn.results.toList=some rs) (hn:fn.ntmps=n) {args:List SV} {m:Mem} {post:SV->Mem->Prop} (k:Nat)
  (h:evS sp spP (retK rs post) [.code ir] (slots0 args n) (m++List.replicate k none)):Tri P f args m post:=by
 refine tri_ev H hf hcomp hrv hn k ?_
 exact h
end Go.Proofs.YtaofjnkpkocgjaaGreat.Xf
end
section 
namespace Go.Proofs.YtaofjnkpkocgjaaGreat.Xf
def locs (l:List Loc):Nat->Loc:=fun i=>l.getD i default
@[push_cast] theorem locs_0 (a:Loc) (l:List Loc):locs (a::l) 0=a:=rfl
@[push_cast] theorem locs_s (a:Loc) (l:List Loc) (n:Nat):locs (a::l) (n+1)=locs l n:=rfl
@[push_cast] theorem spList_app (g:FuncId) (F:Entry) (l:List (FuncId×Entry)) (f:FuncId) (vs:List SV) (look:Look) (x:Nat->Loc) (k:Nat):spList ((g,F)::l) f vs look x k=bif g==f then F vs look x k else spList l f vs look x k:=by
 simp only[spList,spListI,spFn];cases g==f<;>rfl
@[push_cast] theorem spListI_app (g:FuncId) (F:Entry) (l:List (FuncId×Entry)) (li:List (FuncId×ITS)) (f:FuncId) (vs:List SV) (look:Look) (x:Nat->Loc) (k:Nat):spListI ((g,F)::l) li f vs look x k=bif g==f then F vs look x k else spListI l li f vs look x k:=by
 simp only[spListI,spFn];cases g==f<;>rfl
theorem spListI_it (l:List (FuncId×Entry)) (g:FuncId) (I:ITS) (li:List (FuncId×ITS)) (f:FuncId):(spListI l ((g,I)::li)).it f=bif g==f then some I else (spListI l li).it f:=rfl
@[push_cast] theorem spPList_app (g:FuncId) (F:EntryP) (l:List (FuncId×EntryP)) (f:FuncId) (vs:List SV):spPList ((g,F)::l) f vs=bif g==f then F vs else spPList l f vs:=by
 simp only[spPList];cases g==f<;>rfl
attribute [push_cast] spOf inMem ownOk isLent farOf lentOk rho gAt shrOk updO updO1 updN joinO newOwn newOwnC apnd relab relabs relabC memAfter outs news noMine argOwn Chunk.frArg outOk slotC
def lkZ (look:Look) (ch:Chunk) (c:Nat):Option ME:=bif c==4096 then some (.ro,nilLoc,ch)else look c
attribute [push_cast] lkZ
def rowR:Option ME->Option (Loc×Nat×List RC×List (List RC))
 | some (_,L,.recs s _ z l)=>some (L,s,z,l)
 | _=>none
attribute [push_cast] rowR
def rowI:Option ME->Option (Loc×IntKind×List Int)
 | some (_,L,.ints k xs)=>some (L,k,xs)
 | _=>none
def rowC:Option ME->Option (Loc×List SV)
 | some (_,L,.cells cs)=>some (L,cs)
 | _=>none
attribute [push_cast] rowI rowC
theorem mul_bd {a b A B:Int} (h1:0<=a) (h2:a<=A) (h3:0<=b) (h4:b<=B):0<=a*b/\a*b<=A*B:=
 ⟨Int.mul_nonneg h1 h3,Int.mul_le_mul h2 h4 h3 (Int.le_trans h1 h2)⟩
theorem postF.mk' {fs:FS} {a:fs.A} {v:SV} {m':Mem} (x:Nat->Loc) (g:List (Option Nat)) (h:eqv v (fs.res a x)/\memC m' g (memAfter (fs.mem a) (fs.out a x) fs.newGot (fs.new a x))/\idNodup (used g (memAfter (fs.mem a) (fs.out a x) fs.newGot (fs.new a x)))=true) :
  postF fs a v m':=⟨x,g,h⟩
def liftP (F:EntryP):Entry:=fun vs _ _ _=>upTo (F vs)
attribute [push_cast] liftP
theorem EntryPOk.lift {P:Program} {f:FuncId} {F:EntryP} (h:EntryPOk P f F):EntryOk P f (liftP F):=by
 refine⟨h.1,fun us vs k w0 W m look w hd hm hk hl hx=>?_⟩
 obtain⟨p,v,u,h1,h2⟩:=hx (fun _=>default)
 unfold liftP at h1
 cases hF:F us with
 | none=>rw[hF]at h1;cases h1
 | some r=>
  obtain⟨p',v'⟩:=r
  rw[hF]at h1
  cases h1
  have:=h.2 us p v hF h2 w vs hd ⟨fun c e he=>by simp[lk]at he,fun c d e f _ he=>by simp[lk]at he⟩
  refine this.mono fun e w' hh=>?_
  obtain⟨v1,m',rv,rfl,rfl,hdv,_,hkk⟩:=hh
  have hb:RowKit.Below w.heap.size w w':=⟨hkk.os,hkk.tape,hkk.output,hkk.size,fun b hb=>hkk.block b hb fun o=>lentW_nil _⟩
  refine⟨fun _=>default,p,v1,[],rv,?_,h2,rfl,hdv,hm.below hb,hk.below' hb⟩
  unfold liftP
  rw[hF];rfl
theorem Sub.refl (sl:List Ent) (m:Mem):Sub sl m sl m:=fun _ _ _ _ _ h=>h
theorem EntryPOk.of {P:Program} {f:FuncId} {F:EntryP} (h:FnOk P f) (hc:∀ as p v,F as=some (p,v)->p->Tri P f as [] fun v' _=>v'=v):EntryPOk P f F:=⟨h,hc⟩
@[push_cast] theorem dec_and {p q:Prop} [Decidable p] [Decidable q]:(decide p&&decide q)=decide (p/\q):=by simp[Bool.decide_and]
@[push_cast] theorem dec_or {p q:Prop} [Decidable p] [Decidable q]:(decide p||decide q)=decide (p∨q):=by simp[Bool.decide_or]
@[push_cast] theorem dec_not {p:Prop} [Decidable p]:(!decide p)=decide (¬ p):=by simp
theorem bool_congr {p q:Prop} [Decidable p] [Decidable q] (h:p↔q):SV.bool (decide p)=SV.bool (decide q):=by
 congr 1;exact decide_eq_decide.2 h
@[push_cast] theorem eqv_bool {p q:Prop} [Decidable p] [Decidable q]:(SV.bool (decide p)=SV.bool (decide q))=(p↔q):=by
 simp
@[push_cast] theorem dec_t {p:Prop} [Decidable p]:(decide p=true)=p:=by simp
@[push_cast] theorem dec_f {p:Prop} [Decidable p]:(decide p=false)=¬ p:=by simp
@[push_cast] theorem cond_d {α:Type} {p:Prop} [Decidable p] (a:α):(bif decide p then a else a)=a:=by cases decide p<;>rfl
theorem rd_nat (xs:List Int) (i:Nat):rd xs (i:Int)=xs.getD i 0:=by simp[rd]
theorem rd_lt (xs:List Int) (i:Nat) (h:i<xs.length):rd xs (i:Int)=xs[i]:=by simp[rd,h]
def mkS (n:Nat):List (Nat×SV)->List Ent
 | []=>List.replicate n none
 | (k,v)::l=>st (mkS n l) k (some (true,v))
def mkM (n:Nat):List (Nat×Own×Loc×Chunk)->Mem
 | []=>List.replicate n none
 | (k,e)::l=>st (mkM n l) k (some e)
attribute [push_cast] mkS mkM
def mkG (n:Nat):List (Nat×Nat)->List (Option Nat)
 | []=>List.replicate n none
 | (k,d)::l=>st (mkG n l) k (some d)
attribute [push_cast] mkG
def upS (sl:List Ent):List (Nat×SV)->List Ent
 | []=>sl
 | (k,v)::l=>st (upS sl l) k (some (true,v))
def upM (m:Mem):List (Nat×Own×Loc×Chunk)->Mem
 | []=>m
 | (k,e)::l=>st (upM m l) k (some e)
def keepE (keep:List Nat):Nat->List Ent->List Ent
 | _,[]=>[]
 | i,e::sl=>(bif noHas keep i then e else none)::keepE keep (i+1) sl
attribute [push_cast] upS upM keepE
theorem evS_loopU {sp:Sp} {spP:SpP} {T:KT} {b:IR} {S:List Item} {sl:List Ent} {m:Mem} {A:Type} (keep kl:List Nat) (u:A->List (Nat×SV)) (um:A->List (Nat×Own×Loc×Chunk)) (R:A->Prop) (mu:A->Nat) (x0:A) (h0:R x0)
  (hs:Sub sl m (upS (keepE keep 0 sl) (u x0)) (upM (killE m kl) (um x0)))
  (h:∀ x,R x->∀ K:KT,(∀ y,R y->mu y<mu x->∀ sl' m',Sub sl' m' (upS (keepE keep 0 sl) (u y)) (upM (killE m kl) (um y))->K sl' m') ->
   evS sp spP T (.code b::.lp K::S) (upS (keepE keep 0 sl) (u x)) (upM (killE m kl) (um x))):evS sp spP T (.code (.loop b)::S) sl m:=by
 refine evS_loop sp spP T ⟨A,fun x=>(upS (keepE keep 0 sl) (u x),upM (killE m kl) (um x)),R,mu⟩ x0 h0 hs fun x hx=>?_
 exact h x hx _ fun y hy hm sl' m' hsub=>⟨y,hy,hm,hsub⟩
@[push_cast] theorem evS_lpK (sp:Sp) (spP:SpP) (T:KT) (K:KT) (S:List Item) (sl:List Ent) (m:Mem):evS sp spP T (.lp K::S) sl m=K sl m:=rfl
theorem lpK_mk {sl:List Ent} {m:Mem} {l:LoopS} {x:l.A} (y:l.A) (h0:l.R y) (hm:l.mu y<l.mu x) (hs:Sub sl m (l.I y).1 (l.I y).2):lpK l x sl m:=⟨y,h0,hm,hs⟩
def memI:Mem->Mem->Prop
 | _,[]=>True
 | [],none::m'=>memI [] m'
 | _::m,none::m'=>memI m m'
 | some (own,L,ch)::m,some (own',L',ch')::m'=>ownLe own own'/\L=L'/\chEq ch ch'/\memI m m'
 | none::m,some (_,L',ch')::m'=>L'=nilLoc/\chNil ch'/\memI m m'
 | [],some _::_=>False
attribute [push_cast] memI
theorem memI_get:∀ {m m':Mem},memI m m'->∀ {c:Nat} {own':Own} {L':Loc} {ch':Chunk},lk m' c=some (own',L',ch')->(∃ own ch,lk m c=some (own,L',ch)/\ownLe own own'/\chEq ch ch')∨(L'=nilLoc/\chNil ch')
 | m,[],h,c,own',L',ch',hc=>by simp[lk]at hc
 | [],none::m',h,c,own',L',ch',hc=>by
  cases c with
  | zero=>simp[lk]at hc
  | succ c=>rcases memI_get (m:=[]) (by simpa [memI]using h) (by simpa [lk]using hc)with ⟨own,ch,h1,_⟩ | h;simp[lk]at h1;exact .inr h
 | [],some _::m',h,c,own',L',ch',hc=>h.elim
 | x::m,none::m',h,c,own',L',ch',hc=>by
  cases c with
  | zero=>simp[lk]at hc
  | succ c=>simp only[lk]at hc ⊢;exact memI_get (by simpa [memI]using h) hc
 | none::m,some (ow,L2,c2)::m',h,c,own',L',ch',hc=>by
  simp only[memI]at h
  cases c with
  | zero=>simp only[lk]at hc;cases hc;exact .inr ⟨h.1,h.2.1⟩
  | succ c=>simp only[lk]at hc ⊢;exact memI_get h.2.2 hc
 | some (ow1,L1,c1)::m,some (ow,L2,c2)::m',h,c,own',L',ch',hc=>by
  simp only[memI]at h
  cases c with
  | zero=>simp only[lk]at hc ⊢;cases hc;obtain⟨h1,rfl,h3,_⟩:=h;exact .inl ⟨ow1,c1,rfl,h1,h3⟩
  | succ c=>simp only[lk]at hc ⊢;exact memI_get h.2.2.2 hc
theorem MemSat.memI {w0 w:World} {W:Addr->Prop} {m m':Mem} (h:MemSat w0 W m w) (hc:memI m m'):MemSat w0 W m' w:=by
 refine⟨fun c e he=>?_,fun c d e f hcd he hf a ha hra=>?_⟩
 ·obtain⟨own,L,ch⟩:=e
  rcases memI_get hc he with ⟨own0,ch0,h1,h2,h3⟩ | ⟨rfl,h3⟩
  ·exact(h.chunk c _ h1).eq h3 h2
  ·exact nil_sat h3 own
 ·obtain⟨own,L,ch⟩:=e
  obtain⟨own',L',ch'⟩:=f
  rcases memI_get hc he with ⟨own0,ch0,h1,h2,h3⟩ | ⟨rfl,h3⟩
  ·rcases memI_get hc hf with ⟨own1,ch1,k1,k2,k3⟩ | ⟨rfl,k3⟩
   ·exact h.sep c d _ _ hcd h1 k1 a ((eq_feet h3 h2 (h.chunk c _ h1).fits).1 a ha) ((eq_feet k3 k2 (h.chunk d _ k1).fits).2.1 a hra)
   ·exact(nil_feet k3 _ a).2 hra
  ·exact(nil_feet h3 _ a).1 ha
theorem Sub.pt {sl sl':List Ent} {m m':Mem} (h:slotC sl sl'/\memI m m'):Sub sl m sl' m':=by
 intro b1 w0 W a w hs
 obtain⟨h1,h2⟩:=h
 have hg:=slotC_get h1
 refine⟨hs.defers,by rw[hs.size,hg.1],fun n c v hl=>?_,hs.mem.memI h2,hs.kept⟩
 obtain⟨rfl,v0,hl0,he⟩:=hg.2 n c v hl
 have:=hs.slots n true v0 hl0
 simp only[if_true]at this ⊢
 exact(eqv_den he).1 this
def fillTo (n i:Nat) (a b:Int):List Int:=List.replicate i a++List.replicate (n-i) b
theorem fillTo_length {n i:Nat} (h:i<=n) (a b:Int):(fillTo n i a b).length=n:=by simp[fillTo];omega
theorem fillTo_set {n i:Nat} (h:i<n) (a b:Int):(fillTo n i a b).set i a=fillTo n (i+1) a b:=by
 unfold fillTo
 rw[List.set_append_right _ _ (by simp)]
 have:n-i=(n-(i+1))+1:=by omega
 rw[this]
 rw[List.replicate_succ,List.replicate_succ' (n:=i)]
 simp
theorem fillTo_zero (n:Nat) (a b:Int):fillTo n 0 a b=List.replicate n b:=by simp[fillTo]
theorem fillTo_all (n:Nat) (a b:Int):fillTo n n a b=List.replicate n a:=by simp[fillTo]
theorem rep_snoc (i:Nat) (a:Int):List.replicate i a++[a]=a::List.replicate i a:=by
 rw[<-List.replicate_succ',List.replicate_succ]
theorem eq_of_rd {xs ys:List Int} (h:xs.length=ys.length) (hj:∀ j:Nat,j<xs.length->rd xs j=rd ys j):xs=ys:=by
 apply List.ext_getElem h
 intro i h1 h2
 have:=hj i h1
 rwa [rd_lt xs i h1,rd_lt ys i h2]at this
def tabl (n:Nat) (f:Nat->Int):List Int:=(List.range n).map f
def prt (n i:Nat) (f:Nat->Int):List Int:=tabl i f++List.replicate (n-i) 0
theorem tabl_length (n:Nat) (f:Nat->Int):(tabl n f).length=n:=by simp[tabl]
theorem tabl_zero (f:Nat->Int):tabl 0 f=[]:=rfl
theorem tabl_snoc (n:Nat) (f:Nat->Int):tabl n f++[f n]=tabl (n+1) f:=by simp[tabl,List.range_succ]
theorem prt_length {n i:Nat} (h:i<=n) (f:Nat->Int):(prt n i f).length=n:=by simp[prt,tabl_length];omega
theorem prt_zero (n:Nat) (f:Nat->Int):prt n 0 f=List.replicate n 0:=by simp[prt,tabl]
theorem prt_all (n:Nat) (f:Nat->Int):prt n n f=tabl n f:=by simp[prt]
theorem prt_set {n i:Nat} (h:i<n) (f:Nat->Int):(prt n i f).set i (f i)=prt n (i+1) f:=by
 unfold prt
 rw[List.set_append_right _ _ (by simp[tabl_length])]
 have:n-i=(n-(i+1))+1:=by omega
 rw[this,<-tabl_snoc]
 simp[List.replicate_succ,tabl_length]
theorem rd_tabl {n j:Nat} (h:j<n) (f:Nat->Int):rd (tabl n f) (j:Int)=f j:=by
 rw[rd_lt _ _ (by rw[tabl_length];exact h)];simp[tabl]
theorem tabl_congr {n:Nat} {f g:Nat->Int} (h:∀ j,j<n->f j=g j):tabl n f=tabl n g:=by
 unfold tabl
 exact List.map_congr_left fun j hj=>h j (by simpa using hj)
end Go.Proofs.YtaofjnkpkocgjaaGreat.Xf
end
section 
namespace Go.Proofs.YtaofjnkpkocgjaaGreat.Xf
open Go.ChangeShapes Go.WideShapes Go.ChangeAt
inductive LK where
 | int (k:IntKind)
 | bool
 | row (k:IntKind)
inductive Leaf where
 | int (k:IntKind) (n:Int)
 | bool (b:Bool)
 | row (L:Loc) (k:IntKind) (xs:List Int)
def Leaf.sv (c:Nat):Leaf->SV
 | .int k n=>.int k n
 | .bool b=>.bool b
 | .row L k xs=>.sl c L 1 0 xs.length
def wfAll (k:IntKind) (xs:List Int):Prop:=∀ n∈xs,(Lit.int k n).wf=true
def LeafOk (w:World):LK->Leaf->Value->Prop
 | .int k,.int k' n,v=>k'=k/\(Lit.int k n).wf=true/\v=.int k n
 | .bool,.bool b,v=>v=.bool b
 | .row k,.row L k' xs,v=>k'=k/\(∀ c,Den (.sl c L 1 0 xs.length) v)/\(∀ W,ChunkSat w W (.ro,L,.ints k xs) w)/\xs.length<=140737488355328/\wfAll k xs
 | _,_,_=>False
def LeafsOk (w:World):List LK->List Leaf->List Value->Prop
 | [],[],[]=>True
 | k::ks,l::ls,v::vs=>LeafOk w k l v/\LeafsOk w ks ls vs
 | _,_,_=>False
theorem LeafsOk.append {w:World}:∀ {ks:List LK} {ls:List Leaf} {vs:List Value} {ks':List LK} {ls':List Leaf} {vs':List Value},LeafsOk w ks ls vs->LeafsOk w ks' ls' vs'->LeafsOk w (ks++ks') (ls++ls') (vs++vs')
 | [],[],[],_,_,_,_,h=>h
 | k::ks,l::ls,v::vs,_,_,_,h,h'=>⟨h.1,LeafsOk.append h.2 h'⟩
 | [],[],_::_,_,_,_,h,_=>h.elim
 | [],_::_,[],_,_,_,h,_=>h.elim
 | [],_::_,_::_,_,_,_,h,_=>h.elim
 | _::_,[],_,_,_,_,h,_=>by cases h
 | _::_,_::_,[],_,_,_,h,_=>h.elim
def flatFs (P:Program) (g:TypeId->Option (List LK)) (tot:Nat):Nat->List Field->Option (List LK)
 | off,[]=>if off=tot then some []else none
 | off,f::fs=>if f.offset=off then (match g f.type,flatFs P g tot (off+P.cellsOf f.type) fs with | some a,some b=>some (a++b) | _,_=>none)else none
def flatF (P:Program):Nat->TypeId->Option (List LK)
 | 0,_=>none
 | n+1,t=>match P.underlying t with
  | some (.int k)=>some [.int k]
  | some .bool=>some [.bool]
  | some (.slice e)=>match P.underlying e with
   | some (.int k)=>if P.cellsOf e=1/\0<P.bytesOf e then some [.row k]else none
   | _=>none
  | some (.struct fs)=>flatFs P (flatF P n) (P.cellsOf t) 0 fs.toList
  | _=>none
section 
variable {H:Type} {enc:TypeId×Value->H} {P:Program} {w:World} {held:Bool}
theorem row_open {t e:TypeId} {k:IntKind} {fuel:Nat} {cs:List Value} {x:DataW H×List MemPlace} (ht:P.underlying t=some (.slice e)) (he:P.underlying e=some (.int k)) (hc:P.cellsOf e=1) (hb:0<P.bytesOf e)
  (h:DataW.trod enc P w 0 (fun _=>true) held fuel t cs=some x) (hw:∀ n∈x.1.weights P t,n<=reachBytes):∃ l v,cs=[v]/\LeafOk w (.row k) l v:=by
 rcases open_ints ht he hc h with ⟨rfl,_⟩ | ⟨a,len,cap,zs,rfl,_,hl,hm,hz,hx,hcell,hwf⟩
 ·refine⟨.row nilLoc k [],_,rfl,rfl,fun c=>?_,fun W=>?_,by simp,by simp[wfAll]⟩
  ·simp only[Den,nilLoc0]
   refine⟨by omega,by simp,by simp,by simp,none,by simp,by simp,by simp⟩
  ·exact nil_sat (show chNil (.ints k []) from rfl) .ro
 ·simp only[if_true]at hz
  have hlen:cap<=140737488355328:=by
   have hx1:x.1=.slice (lits k (zs.take len)) (lits k (zs.drop len)):=by rw[hx]
   rw[hx1]at hw
   unfold DataW.weights at hw
   rw[ht]at hw
   have h1:=hw _ (List.mem_cons_self ..)
   have h2:(lits (H:=H) k (zs.take len)).length+(lits (H:=H) k (zs.drop len)).length=cap:=by simp[lits];omega
   rw[h2]at h1
   have h3:cap<=cap*P.bytesOf e:=Nat.le_mul_of_pos_right _ hb
   have h4:reachBytes<=140737488355328:=by decide
   omega
  obtain⟨b,o,spot⟩:=a
  have hspot:cap≠0->spot=none:=by
   intro hc0
   have:=hcell 0 (by omega)
   simpa [Addr.add]using World.cell?_spot this
  refine⟨.row ⟨b,o,false,cap⟩ k (zs.take len),_,rfl,rfl,fun c=>?_,fun W=>?_,by simp;omega,fun n hn=>hwf n (List.mem_of_mem_take hn)⟩
  ·simp only[Den]
   have e:(zs.take len).length=len:=by simp;omega
   rw[e]
   refine⟨by omega,by omega,by omega,by simp,some ⟨b,o,spot⟩,by simp,by simp,fun h=>?_⟩
   have:spot=none:=hspot (by simpa using h)
   subst this
   simp[Loc.ad]
  ·refine⟨fun o' ho=>?_,fun _ _ _ h=>h.elim,fun a ha=>(wf_no rfl _ _ a ha).elim,fun h=>(by cases h),⟨by simp;omega,by simp⟩,fun _ _=>trivial⟩
   simp only[Chunk.len,List.length_take]at ho
   have hlt:o'<zs.length:=by omega
   have hs:spot=none:=hspot (by omega)
   subst hs
   have:=hcell o' hlt
   have e2:(⟨b,o,none⟩:Addr).add o'=⟨b,o+o',none⟩:=by by_cases h0:o'=0<;>simp[Addr.add,h0]
   rw[e2]at this
   refine⟨_,this,?_⟩
   simp only[Chunk.cell,Den]
   congr 1
   simp only[List.getD_eq_getElem?_getD,List.getElem?_take]
   rw[if_pos (by omega)]
theorem flat_open:∀ (n:Nat) (t:TypeId) (ks:List LK),flatF P n t=some ks->∀ (fuel:Nat) (cs:List Value) (x:DataW H×List MemPlace),DataW.trod enc P w 0 (fun _=>true) held fuel t cs=some x->(∀ n∈x.1.weights P t,n<=reachBytes)->∃ ls,LeafsOk w ks ls cs
 | 0,t,ks,h,fuel,cs,x,hx,hw=>by simp[flatF]at h
 | n+1,t,ks,h,fuel,cs,x,hx,hw=>by
  simp only[flatF]at h
  split at h
  ·rename_i k hu
   cases h
   obtain⟨a,rfl,_,wf⟩:=DataW.trod_int hu hx
   exact⟨[.int k a],⟨rfl,wf,rfl⟩,trivial⟩
  ·rename_i hu
   cases h
   obtain⟨b,rfl,_⟩:=DataW.trod_bool hu hx
   exact⟨[.bool b],rfl,trivial⟩
  ·rename_i e hu
   split at h
   case h_2=>cases h
   rename_i k he
   split at h
   case isFalse=>cases h
   rename_i hc
   cases h
   obtain⟨l,v,rfl,hl⟩:=row_open hu he hc.1 hc.2 hx hw
   exact⟨[l],hl,trivial⟩
  ·rename_i fs hu
   obtain⟨xs,m,_,hxe,hlen,hxl,hf⟩:=DataW.trod_struct hu hx
   have key:∀ (l:List Field) (off:Nat) (ks:List LK),flatFs P (flatF P n) (P.cellsOf t) off l=some ks->(∀ f∈l,∃ y,DataW.trod enc P w 0 (fun _=>true) held m f.type ((cs.drop f.offset).take (P.cellsOf f.type))=some y/\∀ n∈y.1.weights P f.type,n<=reachBytes)->∃ ls,LeafsOk w ks ls (cs.drop off):=by
    intro l
    induction l with
    | nil=>
     intro off ks hk _
     simp only[flatFs]at hk
     split at hk
     case isFalse=>cases hk
     rename_i ho
     cases hk
     refine⟨[],?_⟩
     rw[List.drop_eq_nil_of_le (by omega)]
     trivial
    | cons f l ih=>
     intro off ks hk hall
     simp only[flatFs]at hk
     split at hk
     case isFalse=>cases hk
     rename_i ho
     split at hk
     case h_2=>cases hk
     rename_i a b h1 h2
     cases hk
     obtain⟨y,hy,hyw⟩:=hall f (by simp)
     obtain⟨l1,o1⟩:=flat_open n f.type a h1 m _ y hy hyw
     obtain⟨l2,o2⟩:=ih _ b h2 (fun g hg=>hall g (by simp[hg]))
     refine⟨l1++l2,?_⟩
     have e:cs.drop off=(cs.drop f.offset).take (P.cellsOf f.type)++cs.drop (off+P.cellsOf f.type):=by
      rw[ho,<-List.drop_drop,List.take_append_drop]
     rw[e]
     exact o1.append o2
   have:=key fs.toList 0 ks h (fun f hf'=>by
    obtain⟨i,hi,he⟩:=List.getElem_of_mem hf'
    have hi':i<fs.size:=by simpa using hi
    have:=hf i f (by rw[Array.getElem?_eq_getElem hi'];congr 1)
    rw[List.getElem?_eq_getElem (by omega)]at this
    refine⟨_,this,fun q hq=>hw q ?_⟩
    rw[hxe]
    simp only
    unfold DataW.weights
    rw[hu]
    refine DataW.weights_mem_each (j:=i) (t:=f.type) ?_ ?_ q hq
    ·rw[List.getElem?_map,List.getElem?_eq_getElem hi,he];rfl
    ·rw[List.getElem?_map,List.getElem?_eq_getElem (by omega)];rfl)
   simpa using this
  ·cases h
end
end Go.Proofs.YtaofjnkpkocgjaaGreat.Xf
end
section 
namespace Go.Proofs.YtaofjnkpkocgjaaGreat.Xf
theorem LeafsOk.int {w:World} {k:IntKind} {ks:List LK} {ls:List Leaf} {vs:List Value} (h:LeafsOk w (.int k::ks) ls vs):∃ n ls' vs',ls=.int k n::ls'/\vs=.int k n::vs'/\(Lit.int k n).wf=true/\LeafsOk w ks ls' vs':=by
 cases ls with
 | nil=>cases vs<;>exact h.elim
 | cons l ls=>
  cases vs with
  | nil=>exact h.elim
  | cons v vs=>
   cases l with
   | int k' n=>obtain⟨⟨rfl,h1,rfl⟩,h2⟩:=h;exact⟨n,ls,vs,rfl,rfl,h1,h2⟩
   | bool b=>exact h.1.elim
   | row L k' xs=>exact h.1.elim
theorem LeafsOk.row {w:World} {k:IntKind} {ks:List LK} {ls:List Leaf} {vs:List Value} (h:LeafsOk w (.row k::ks) ls vs) :
  ∃ L xs ls' v vs',ls=.row L k xs::ls'/\vs=v::vs'/\(∀ c,Den (.sl c L 1 0 xs.length) v)/\(∀ W,ChunkSat w W (.ro,L,.ints k xs) w)/\xs.length<=140737488355328/\wfAll k xs/\LeafsOk w ks ls' vs':=by
 cases ls with
 | nil=>cases vs<;>exact h.elim
 | cons l ls=>
  cases vs with
  | nil=>exact h.elim
  | cons v vs=>
   cases l with
   | int k' n=>exact h.1.elim
   | bool b=>exact h.1.elim
   | row L k' xs=>obtain⟨⟨rfl,h1,h2,h3,h4⟩,h5⟩:=h;exact⟨L,xs,ls,v,vs,rfl,rfl,h1,h2,h3,h4,h5⟩
theorem LeafsOk.nil {w:World} {ls:List Leaf} {vs:List Value} (h:LeafsOk w [] ls vs):ls=[]/\vs=[]:=by
 cases ls<;>cases vs<;>first | exact⟨rfl,rfl⟩ | exact h.elim
def AllRo (w:World) (m:Mem):Prop:=∀ c e,lk m c=some e->e.1=.ro/\∀ W,ChunkSat w W e w
theorem AllRo.nil (w:World):AllRo w []:=fun c e h=>by simp[lk]at h
theorem AllRo.cons {w:World} {L:Loc} {ch:Chunk} {m:Mem} (h:∀ W,ChunkSat w W (.ro,L,ch) w) (hm:AllRo w m):AllRo w (some (.ro,L,ch)::m):=by
 intro c e he
 cases c with
 | zero=>simp only[lk]at he;cases he;exact⟨rfl,h⟩
 | succ c=>simp only[lk]at he;exact hm c e he
theorem AllRo.sat {w:World} {m:Mem} (h:AllRo w m) (W:Addr->Prop):MemSat w W m w:=
 ⟨fun c e he=>(h c e he).2 W,fun c d e f _ he _ a ha=>by have h1:=(h c e he).1;have h2:=ha.1;rw[h1]at h2;cases h2⟩
theorem AllRo.lent {w:World} {m:Mem} (h:AllRo w m) (a:Addr):¬ lentW m a:=by
 rintro⟨c,L,ch,hl,_⟩
 have:=(h c _ hl).1
 simp at this
theorem law_calls {P:Program} {f:FuncId} {args:List SV} {m:Mem} (h:Tri P f args m fun v _=>v=.bool true) {w:World} (hm:AllRo w m) {vs:List Value} (hd:Dens args vs) :
  Calls P f vs.toArray w fun e w'=>e=.returned (.bool true)/\RowKit.Below w.heap.size w w':=by
 refine(h w vs hd (hm.sat _)).mono fun e w' hh=>?_
 obtain⟨v,m',rv,rfl,rfl,hdv,_,hk⟩:=hh
 simp only[Den]at hdv
 exact⟨by rw[hdv],(hk.mono fun a ha=>(hm.lent a ha).elim).below⟩
theorem struct_open {H:Type} {enc:TypeId×Value->H} {P:Program} {w:World} {held:Bool} {r:Reach} {b0:Nat} {t:TypeId} {fs:Array Field} {v:Value} {d:DataW H} {p:List MemPlace} {n:Nat} {ks:List LK} (hs:P.underlying t=some (.struct fs))
  (hf:flatF P n t=some ks) (hv:Value.okWide P w r b0 t v) (h:DataW.Trod enc P w 0 (fun _=>true) held t v d p) (hw:∀ n∈d.weights P t,n<=reachBytes):∃ ls vs,v=.agg vs.toArray/\LeafsOk w ks ls vs:=by
 obtain⟨cs,rfl,_⟩:=WideShapes.okWide_struct hs hv
 obtain⟨fuel,hx⟩:=h
 obtain⟨ls,hl⟩:=flat_open n t ks hf fuel _ _ hx hw
 exact⟨ls,cs.toList,by simp,by simpa [Value.cells]using hl⟩
theorem one_open {H:Type} {enc:TypeId×Value->H} {P:Program} {w:World} {held:Bool} {r:Reach} {b0:Nat} {t:TypeId} {v:Value} {d:DataW H} {p:List MemPlace} {n:Nat} {k:LK} (hs:(match P.underlying t with | some (.int _)=>true | some .bool=>true | some (.slice _)=>true | _=>false)=true)
  (hf:flatF P n t=some [k]) (hv:Value.okWide P w r b0 t v) (h:DataW.Trod enc P w 0 (fun _=>true) held t v d p) (hw:∀ n∈d.weights P t,n<=reachBytes):∃ l,LeafOk w k l v:=by
 obtain⟨fuel,hx⟩:=h
 have hc:v.cells.toList=[v]:=by
  split at hs
  ·rename_i hu;obtain⟨n,rfl⟩:=WideShapes.okWide_int hu hv;rfl
  ·rename_i hu;obtain⟨n,rfl⟩:=WideShapes.okWide_bool hu hv;rfl
  ·rename_i hu;obtain⟨a,n,c,rfl⟩:=WideShapes.okWide_slice hu hv;rfl
  ·cases hs
 obtain⟨ls,hl⟩:=flat_open n t [k] hf fuel _ _ hx hw
 rw[hc]at hl
 cases ls with
 | nil=>exact hl.elim
 | cons l ls=>exact⟨l,hl.1⟩
theorem LeafOk.toList {w:World} {k:LK} {l:Leaf} {v:Value} (h:LeafOk w k l v):LeafsOk w [k] [l] [v]:=⟨h,trivial⟩
theorem LeafsOk.bool {w:World} {ks:List LK} {ls:List Leaf} {vs:List Value} (h:LeafsOk w (.bool::ks) ls vs):∃ n ls' vs',ls=.bool n::ls'/\vs=.bool n::vs'/\LeafsOk w ks ls' vs':=by
 cases ls with
 | nil=>cases vs<;>exact h.elim
 | cons l ls=>
  cases vs with
  | nil=>exact h.elim
  | cons v vs=>
   cases l with
   | int k' n=>exact h.1.elim
   | bool b=>obtain⟨h1,h2⟩:=h;simp only[LeafOk]at h1;subst h1;exact⟨b,ls,vs,rfl,rfl,h2⟩
   | row L k' xs=>exact h.1.elim
theorem Den.bool' (b:Bool):Den (.bool b) (.bool b):=by simp[Den]
theorem Dens.cons {v:SV} {vs:List SV} {x:Value} {xs:List Value} (h:Den v x) (hs:Dens vs xs):Dens (v::vs) (x::xs):=by
 simp only[Dens];exact⟨x,xs,rfl,h,hs⟩
theorem Dens.nil:Dens [] []:=by simp[Dens]
theorem Den.agg {cs:List SV} {vs:List Value} (h:Dens cs vs):Den (.agg cs) (.agg vs.toArray):=by
 simp only[Den];exact⟨vs,rfl,h⟩
theorem Den.int (k:IntKind) (n:Int):Den (.int k n) (.int k n):=by simp[Den]
end Go.Proofs.YtaofjnkpkocgjaaGreat.Xf
end
section 
namespace Go.Proofs.YtaofjnkpkocgjaaGreat.Xf
def roM:Mem->Prop
 | []=>True
 | none::m=>roM m
 | some (o,_,ch)::m=>o=.ro/\lendC ch=ch/\roM m
theorem roM_get:∀ {m:Mem},roM m->∀ {c:Nat} {o:Own} {L:Loc} {ch:Chunk},lk m c=some (o,L,ch)->o=.ro/\lendC ch=ch
 | [],h,c,o,L,ch,hc=>by simp[lk]at hc
 | none::m,h,c,o,L,ch,hc=>by
  cases c with
  | zero=>simp[lk]at hc
  | succ c=>simp only[lk]at hc;exact roM_get (m:=m) h hc
 | some (o1,L1,c1)::m,h,c,o,L,ch,hc=>by
  simp only[roM]at h
  cases c with
  | zero=>simp only[lk]at hc;cases hc;exact⟨h.1,h.2.1⟩
  | succ c=>simp only[lk]at hc;exact roM_get h.2.2 hc
theorem MemSat.toRo {w0 w:World} {W:Addr->Prop} {m mi:Mem} {g:List (Option Nat)} (h:MemSat w0 W m w) (hc:Xf.memC m g mi) (hr:roM mi):MemSat w (fun _=>False) mi w:=by
 refine⟨fun c e he=>?_,fun c d e f hcd he hf a ha hra=>?_⟩
 ·obtain⟨own,L,ch⟩:=e
  obtain⟨rfl,hl⟩:=roM_get hr he
  have key:ChunkSat w0 W (.ro,L,ch) w:=by
   rcases memC_get hc he with ⟨d,own0,ch0,h1,h2,h3,h4⟩ | ⟨rfl,h3⟩
   ·exact(h.chunk d _ h2).eq h3 h4
   ·exact nil_sat h3 .ro
  have:=key.lend (w1:=w) (W':=fun _=>False) (fun i _=>by trivial)
  rw[hl]at this;exact this
 ·obtain⟨own,L,ch⟩:=e
  obtain⟨rfl,hl⟩:=roM_get hr he
  exact absurd ha.1 (by simp[Own.wr])
attribute [push_cast] lendM lendO lendC shp reg Chunk.ext Chunk.len roM putsE
abbrev noK:KT:=fun _ _=>False
theorem evS_rf {sp:Sp} {spP:SpP} {T:KT} {g:Opd} {ps:List Nat} {as b:IR} {ks km:List Nat} {S:List Item} {sl:List Ent} {m:Mem} (I0:ITS) (i:I0.A) {f:FuncId} {cs:List SV}
  (hit:sp.it f=some I0) (hpre:I0.pre i) (hn:as.noRf=true/\b.noRf=true) (hg:en sl g=some (true,.fn f cs)) (hc:eqvs cs (I0.cs i)) (hl:∀ k,k<I0.n i->(I0.xs i k).length=ps.length)
  {A:Type} (um:Nat->A->List (Nat×Own×Loc×Chunk)) (R:Nat->A->Prop) (x0:A) (h0:R 0 x0) (hm:memI m (upM m (um 0 x0))) (gI:List (Option Nat)) (hro:roM (I0.mem i))
  (hI:∀ k x,R k x->shp (upM m (um 0 x0)) (upM m (um k x))/\memC (upM m (um k x)) gI (I0.mem i))
  (hr:∀ k x,k<I0.n i->R k x->∀ K:KT,(∀ y,R (k+1) y->∀ sl' m',memI m' (lendM (upM m (um (k+1) y)))->K sl' m') ->
   evS sp spP noK [.code as,.lp (fun sl1 m1=>evS sp spP noK [.code b,.lp K] sl1 (lendM m1))] (putsE sl ps (I0.xs i k)) (lendM (upM m (um k x))))
  (hd:∀ x,R (I0.n i) x->evS sp spP T S (killE sl ks) (killE (upM m (um (I0.n i) x)) km)):evS sp spP T (.code (.rf g ps as b ks km)::S) sl m:=by
 refine⟨hn.1,hn.2,cs,f,I0,hg,hit,i,hpre,fun vs=>(eqvs_den hc).1,hl,A,fun k x=>upM m (um k x),R,x0,h0,fun w0 W w h=>h.memI hm,fun k x hx=>⟨(hI k x hx).1,fun w0 W w h=>h.toRo (hI k x hx).2 hro⟩,fun k x hk hx=>?_,hd⟩
 exact hr k x hk hx _ fun y hy sl' m' hm'=>⟨y,hy,fun w0 W w h=>h.memI hm'⟩
abbrev KG:=Nat->List Ent->Prop
inductive IRG where
 | skip
 | reg (d:Bool) (ops:List IRO) (ks:List Nat)
 | yl (o1:List IRO) (d:Option Nat) (g:Opd) (as:List Opd) (o2:List IRO) (ks:List Nat)
 | seq (a b:IRG)
 | cond (c:Opd) (a b:IRG)
 | block (id:Nat) (b:IRG)
 | loop (b:IRG)
 | exit (id:Nat)
 | ret
 deriving Inhabited
def ensV (sl:List Ent):List Opd->Option (List SV)
 | []=>some []
 | a::as=>match en sl a,ensV sl as with
  | some (true,v),some vs=>some (v::vs)
  | _,_=>none
def extG (id:Nat) (N:KG) (E:Nat->KG):Nat->KG:=fun i=>if i=id then N else E i
structure SlOk (sl:List Ent) (a:Act):Prop where
 size:a.tmps.size=sl.length
 slots:∀ n c v,lk sl n=some (c,v)->if c=true then Den v (a.tmps.getD n undef)else a.tmps.getD n undef=undef
def SubS (sl sl':List Ent):Prop:=∀ a,SlOk sl a->SlOk sl' a
theorem SubS.pt {sl sl':List Ent} (h:slotC sl sl'):SubS sl sl':=by
 intro a hs
 have hg:=slotC_get h
 refine⟨by rw[hs.size,hg.1],fun n c v hl=>?_⟩
 obtain⟨rfl,v0,hl0,he⟩:=hg.2 n c v hl
 have:=hs.slots n true v0 hl0
 simp only[if_true]at this ⊢
 exact(eqv_den he).1 this
section 
variable (sp:Sp) (spP:SpP) (mi:Mem) (yv:SV) (nn:Nat) (xs:Nat->List SV)
def yldK (d:Option Nat) (g:Opd) (as:List Opd) (N:KG):KG:=fun k sl=>en sl g=some (true,yv)/\k<nn/\(∃ vs,ensV sl as=some vs/\eqvs vs (xs k))/\N (k+1) (putE sl d (some (true,.bool true)))
def evG:IRG->KG->(Nat->KG)->KG->KG
 | .skip,N,_,_=>N
 | .reg _ ops ks,N,_,_=>fun k sl=>evR sp spP ops sl mi fun sl' _=>N k (killE sl' ks)
 | .yl o1 d g as o2 ks,N,_,_=>fun k sl=>evR sp spP o1 sl mi fun sl1 _=>yldK yv nn xs d g as (fun k sl=>evR sp spP o2 sl mi fun sl' _=>N k (killE sl' ks)) k sl1
 | .seq a b,N,E,T=>evG a (evG b N E T) E T
 | .cond c a b,N,E,T=>fun k sl=>match en sl c with
  | some (cc,.bool t)=>cc=true/\(t=true->evG a N E T k sl)/\(t=false->evG b N E T k sl)
  | _=>False
 | .block id b,N,E,T=>evG b N (extG id N E) T
 | .loop b,_,E,T=>fun k sl=>∃ (α:Type) (I:α->Nat×List Ent) (R:α->Prop) (μ:α->Nat),(∃ x,R x/\k=(I x).1/\SubS sl (I x).2) /\
   ∀ x,R x->evG b (fun k sl=>∃ y,R y/\μ y<μ x/\k=(I y).1/\SubS sl (I y).2) E T (I x).1 (I x).2
 | .exit id,_,E,_=>E id
 | .ret,_,_,T=>T
end
def compG1 (o:Oper):Option (Opd×List Opd):=
 match o.guard,o.op with
 | none,.call c=>match c.callee with
  | .value y=>match opd y,opds c.args.toList with | some g,some as=>some (g,as) | _,_=>none
  | _=>none
 | _,_=>none
def compGd (tab:Tab) (isP:FuncId->Bool) (chk:Option OT->Array Oper->List IRO->Bool):IRG->Code->Option IRG
 | .skip,.skip=>some .skip
 | .reg _ gs ks,.region _ ops draw=>match compR tab isP ops gs ops.toList with | some ios=>if (draw&&!(chk none ops ios))=true then none else some (.reg draw ios ks) | none=>none
 | .yl g1 _ _ _ g2 ks,.region _ ops false=>match compR tab isP ops g1 (ops.toList.take g1.length),ops[g1.length]?,compR tab isP ops g2 (ops.toList.drop (g1.length+1))with
  | some o1,some o,some o2=>match compG1 o with | some (g,as)=>some (.yl o1 o.dst g as o2 ks) | none=>none
  | _,_,_=>none
 | .seq x y,.seq a b=>match compGd tab isP chk x a,compGd tab isP chk y b with | some x,some y=>some (.seq x y) | _,_=>none
 | .cond _ x y,.cond c a b=>match opd c,compGd tab isP chk x a,compGd tab isP chk y b with | some c,some x,some y=>some (.cond c x y) | _,_,_=>none
 | .block _ x,.block id a=>match compGd tab isP chk x a with | some x=>some (.block id x) | none=>none
 | .loop x,.loop a=>match compGd tab isP chk x a with | some x=>some (.loop x) | none=>none
 | .exit _,.exit id=>some (.exit id)
 | .ret,.ret=>some .ret
 | _,_=>none
section 
variable {P:Program} {sp:Sp} {spP:SpP} {tab:Tab} {isP:FuncId->Bool} {chk:Option OT->Array Oper->List IRO->Bool} {mi:Mem} {yv:SV} {nn:Nat} {xs:Nat->List SV}
theorem compG_reg {gd:IRG} {code:Code} {d:Bool} {ios:List IRO} {ks:List Nat} (h:compGd tab isP chk gd code=some (.reg d ios ks)):∃ id ops gs,code=.region id ops d/\compR tab isP ops gs ops.toList=some ios/\(d=true->chk none ops ios=true):=by
 unfold compGd at h
 split at h<;>first | (cases h;done) | skip
 ·split at h
  ·rename_i id ops draw _ ios' hh
   split at h
   ·cases h
   ·rename_i hd
    cases h
    exact⟨_,_,_,rfl,hh,by simpa using hd⟩
  ·cases h
 all_goals (repeat' split at h)<;>cases h
theorem compG_yl {gd:IRG} {code:Code} {o1 o2:List IRO} {d:Option Nat} {g:Opd} {as:List Opd} {ks:List Nat} (h:compGd tab isP chk gd code=some (.yl o1 d g as o2 ks)) :
  ∃ id ops g1 g2 o,code=.region id ops false/\compR tab isP ops g1 (ops.toList.take g1.length)=some o1/\ops[g1.length]?=some o/\compR tab isP ops g2 (ops.toList.drop (g1.length+1))=some o2/\compG1 o=some (g,as)/\o.dst=d:=by
 unfold compGd at h
 split at h<;>first | (cases h;done) | skip
 ·(repeat' split at h)<;>cases h
 ·split at h
  ·rename_i h1 h2 h3
   split at h
   ·rename_i h4;cases h;exact⟨_,_,_,_,_,rfl,h1,h2,h3,h4,rfl⟩
   ·cases h
  ·cases h
 all_goals (repeat' split at h)<;>cases h
theorem compG_seq {gd:IRG} {code:Code} {x y:IRG} (h:compGd tab isP chk gd code=some (.seq x y)):∃ a b ga gb,code=.seq a b/\compGd tab isP chk ga a=some x/\compGd tab isP chk gb b=some y:=by
 unfold compGd at h
 split at h<;>first | (cases h;done) | skip
 case h_4=>split at h;(rename_i h1 h2;cases h;exact⟨_,_,_,_,rfl,h1,h2⟩);cases h
 all_goals (repeat' split at h)<;>cases h
theorem compG_cond {gd:IRG} {code:Code} {c:Opd} {x y:IRG} (h:compGd tab isP chk gd code=some (.cond c x y)):∃ C a b ga gb,code=.cond C a b/\opd C=some c/\compGd tab isP chk ga a=some x/\compGd tab isP chk gb b=some y:=by
 unfold compGd at h
 split at h<;>first | (cases h;done) | skip
 case h_5=>split at h;(rename_i h0 h1 h2;cases h;exact⟨_,_,_,_,_,rfl,h0,h1,h2⟩);cases h
 all_goals (repeat' split at h)<;>cases h
theorem compG_block {gd:IRG} {code:Code} {id:Nat} {x:IRG} (h:compGd tab isP chk gd code=some (.block id x)):∃ a ga,code=.block id a/\compGd tab isP chk ga a=some x:=by
 unfold compGd at h
 split at h<;>first | (cases h;done) | skip
 case h_6=>split at h;(rename_i h1;cases h;exact⟨_,_,rfl,h1⟩);cases h
 all_goals (repeat' split at h)<;>cases h
theorem compG_loop {gd:IRG} {code:Code} {x:IRG} (h:compGd tab isP chk gd code=some (.loop x)):∃ a ga,code=.loop a/\compGd tab isP chk ga a=some x:=by
 unfold compGd at h
 split at h<;>first | (cases h;done) | skip
 case h_7=>split at h;(rename_i h1;cases h;exact⟨_,_,rfl,h1⟩);cases h
 all_goals (repeat' split at h)<;>cases h
theorem compG_exit {gd:IRG} {code:Code} {id:Nat} (h:compGd tab isP chk gd code=some (.exit id)):code=.exit id:=by
 unfold compGd at h
 split at h<;>first | (cases h;done) | skip
 case h_8=>cases h;rfl
 all_goals (repeat' split at h)<;>cases h
theorem compG_ret {gd:IRG} {code:Code} (h:compGd tab isP chk gd code=some .ret):code=.ret:=by
 unfold compGd at h
 split at h<;>first | rfl | (cases h;done) | skip
 all_goals (repeat' split at h)<;>cases h
theorem compG_skip {gd:IRG} {code:Code} (h:compGd tab isP chk gd code=some .skip):code=.skip:=by
 unfold compGd at h
 split at h<;>first | rfl | (cases h;done) | skip
 all_goals (repeat' split at h)<;>cases h
def StG (mi:Mem) (J:Nat->World->Prop) (k:Nat) (sl:List Ent) (a:Act) (w:World):Prop:=Sat w w (fun _=>False) sl mi a w/\J k w
theorem StG.re {J:Nat->World->Prop} (hgrow:∀ k w w',J k w->RowKit.Below w.heap.size w w'->J k w') (hmem:∀ k w,J k w->MemSat w (fun _=>False) mi w) {k:Nat} {w w':World} {sl':List Ent} {m':Mem} {a':Act}
  (hj:J k w) (h:Sat w w (fun _=>False) sl' m' a' w'):StG mi J k sl' a' w':=by
 have hj':=hgrow k w w' hj h.kept.below
 refine⟨⟨⟨h.defers.nodup,fun d hd=>?_⟩,h.size,h.slots,hmem k w' hj',Kept.refl _ _⟩,hj'⟩
 obtain⟨D,_,h0,hD⟩:=h.defers.all d hd
 have:=(Array.getElem?_eq_some_iff.1 hD).1
 omega
theorem evR_ok' {b1 w0:World} {W:Addr->Prop} {r:Option Nat} {rm:Nat} (hT:∀ t tt,tab t=some tt->TtOk P t tt) (hP:SpPOk P spP) (hS:SpOk P sp) {ops:Array Oper} {Q:Exit->Act->World->Prop} {K':List Ent->Mem->Prop} (rest:List Nat)
  (hK:∀ sl' m' a' w',K' sl' m'->Sat b1 w0 W sl' m' a' w'->wpOpsIn (rF r) rm P ops Q rest a' w'):∀ (ios:List IRO) (i:Nat) (sl:List Ent) (m:Mem) (a:Act) (w:World),
  (∀ (j:Nat) (io:IRO),ios[j]?=some io->∃ o g,ops[i+j]?=some o/\compR1 tab isP ops g o=some io)->Sat b1 w0 W sl m a w->evR sp spP ios sl m K'->wpOpsIn (rF r) rm P ops Q (List.range' i ios.length++rest) a w
 | [],i,sl,m,a,w,_,hs,h=>by
  simp only[evR]at h
  simp only[List.length_nil,List.range'_zero,List.nil_append]
  exact hK _ _ _ _ h hs
 | io::ios,i,sl,m,a,w,hc,hs,h=>by
  simp only[evR]at h
  obtain⟨o,g,ho,hcomp⟩:=hc 0 io (by simp)
  simp only[List.length_cons,List.range'_succ,List.cons_append]
  rw[wpOpsIn_cons]
  exact evO_ok hT hP hS (by simpa using ho) hcomp hs h fun sl' m' a' w' hk hs'=>
   evR_ok' hT hP hS rest hK ios (i+1) sl' m' a' w' (fun j io' hj=>by
    obtain⟨o',g',h1,h2⟩:=hc (j+1) io' (by simpa using hj)
    exact⟨o',g',by rw[show i+1+j=i+(j+1) by omega];exact h1,h2⟩) hs' hk
theorem ensV_den {sl:List Ent} {a:Act} (hs:SlotsOk sl a):∀ {xs:List Operand} {as:List Opd} {vs:List SV},opds xs=some as->ensV sl as=some vs->Dens vs (xs.map a.eval)
 | [],as,vs,h,hv=>by simp only[opds]at h;cases h;simp only[ensV]at hv;cases hv;simp[Dens]
 | x::xs,as,vs,h,hv=>by
  simp only[opds]at h
  split at h
  ·rename_i b bs hb hbs
   cases h
   simp only[ensV]at hv
   split at hv
   ·rename_i v vs' h1 h2
    cases hv
    simp only[List.map_cons,Dens]
    exact⟨_,_,rfl,opd_den hb hs h1 rfl,ensV_den hs hbs h2⟩
   ·cases hv
  ·cases h
theorem call_yield {a:Act} {c:Call} {t:TypeId} {y:Operand} {l:Nat} {r:Next} (hcal:c.callee=.value y) (hv:a.eval y=.func (.yield l) #[] #[]) {w:World}
  (hy:(Instr.yield l (c.args.map a.eval)).run P w=.ok r w):(do let d <-resolve a.eval c t;invoke d.target d.args:Sem Next).run P w=.ok r w:=by
 simp only[resolve,hcal,hv]
 simp[go_sem,invoke,hy]
theorem roundIn_any {n n' l:Nat} {f:FuncId} {tmps:Array Value} {as b:Code} {w:World} {R:Ending->World->Prop} (h:RoundIn (rF none) n P l f tmps as b w R):RoundIn (rF none) n' P l f tmps as b w R:=
 ⟨trivial,fun c cs _=>h.2 c cs (fun _ h=>by simp[Fence.wide]at h)⟩
theorem evG_ok {J:Nat->World->Prop} {l:Nat} (H:Hyp P tab isP sp spP chk) (hgrow:∀ k w w',J k w->RowKit.Below w.heap.size w w'->J k w') (hmem:∀ k w,J k w->MemSat w (fun _=>False) mi w)
  (hyld:∀ k us w,k<nn->Dens (xs k) us->J k w->YieldAt (rF none) 0 P l us.toArray w fun e w'=>e=.returned (.bool true)/\J (k+1) w') (hyv:yv=.val (.func (.yield l) #[] #[])) :
  ∀ (ir:IRG) (code:Code) (gd:IRG),compGd tab isP chk gd code=some ir->∀ (N:KG) (E:Nat->KG) (T:KG) (Q:Exit->Act->World->Prop),
   (∀ k sl a w,N k sl->StG mi J k sl a w->Q .normal a w)->(∀ id k sl a w,E id k sl->StG mi J k sl a w->Q (.exit id) a w)->(∀ k sl a w,T k sl->StG mi J k sl a w->Q .ret a w) ->
   ∀ (k:Nat) (sl:List Ent) (a:Act) (w:World),StG mi J k sl a w->evG sp spP mi yv nn xs ir N E T k sl->code.wpIn (rF none) 0 P Q a w:=by
 intro ir
 induction ir with
 | skip=>
  intro code gd hc N E T Q hN hE hT k sl a w hs h
  obtain rfl:=compG_skip hc
  exact wpIn_skip (hN _ _ _ _ h hs)
 | reg d ios ks=>
  intro code gd hc N E T Q hN hE hT k sl a w hs h
  obtain⟨id,ops,gs,rfl,hcomp,hd⟩:=compG_reg hc
  simp only[evG]at h
  have hg:=compR_get hcomp
  cases d with
  | true=>exact H.hD.1 none 0 ops _ _ hcomp (hd rfl) w w (fun _=>False) id sl mi a w _ Q (fun sl' m' a' w' h1 h2=>by
    have hst:=StG.re hgrow hmem hs.2 h2
    exact hN _ _ _ _ h1 ⟨⟨hst.1.defers,by rw[killE_length];exact hst.1.size,fun n c v hl=>hst.1.slots n c v (killE_lk ks _ _ _ hl),hst.1.mem,hst.1.kept⟩,hst.2⟩) hs.1 h
  | false=>
   have:=evR_ok' (r:=none) (rm:=0) (P:=P) (Q:=Q) H.hT H.hP H.hS [] (fun sl' m' a' w' h1 h2=>by
    have hst:=StG.re hgrow hmem hs.2 h2
    exact hN _ _ _ _ h1 ⟨⟨hst.1.defers,by rw[killE_length];exact hst.1.size,fun n c v hl=>hst.1.slots n c v (killE_lk ks _ _ _ hl),hst.1.mem,hst.1.kept⟩,hst.2⟩) _ 0 sl mi a w (fun j io hj=>by
     obtain⟨o,g,h1,h2⟩:=hg.2 j io hj
     exact⟨o,g,by simpa using h1,h2⟩) hs.1 h
   refine wpIn_region ?_
   rw[hg.1,<-List.range_eq_range',List.append_nil]at this
   simpa using this
 | yl o1 d g as o2 ks=>
  intro code gd hc N E T Q hN hE hT k sl a w hs h
  obtain⟨id,ops,g1,g2,o,rfl,hc1,ho,hc2,hcg,rfl⟩:=compG_yl hc
  simp only[evG]at h
  have hg1:=compR_get hc1
  have hg2:=compR_get hc2
  have hlt:=(Array.getElem?_eq_some_iff.1 ho).1
  have hl1:o1.length=g1.length:=by rw[hg1.1];simp;omega
  have hl2:o2.length=ops.size-(g1.length+1):=by rw[hg2.1];simp
  refine wpIn_region ?_
  have hrange:List.range ops.size=List.range' 0 o1.length++(g1.length::(List.range' (g1.length+1) o2.length++[])):=by
   rw[hl1,hl2,List.append_nil,List.range_eq_range',<-List.range'_succ]
   have e:=List.range'_append_1 (s:=0) (m:=g1.length) (n:=ops.size-(g1.length+1)+1)
   rw[Nat.zero_add]at e
   rw[e]
   congr 1;omega
  rw[hrange]
  refine evR_ok' (r:=none) (rm:=0) (P:=P) (Q:=Q) H.hT H.hP H.hS _ ?_ o1 0 sl mi a w (fun j io hj=>by
    obtain⟨o,g,h1,h2⟩:=hg1.2 j io hj
    rw[List.getElem?_take]at h1
    split at h1
    ·exact⟨o,g,by simpa using h1,h2⟩
    ·cases h1) hs.1 h
  intro sl1 m1 a1 w1 hy hs1
  obtain⟨hen,hk,⟨vs,hvs,heq⟩,hy2⟩:=hy
  have hst1:=StG.re hgrow hmem hs.2 hs1
  rw[wpOpsIn_cons]
  unfold wpOpIn
  rw[ho]
  unfold compG1 at hcg
  split at hcg
  case h_2=>cases hcg
  rename_i c hguard hop
  split at hcg
  case h_2=>cases hcg
  rename_i y hcal
  split at hcg
  case h_2=>cases hcg
  rename_i gg aas hgg haas
  cases hcg
  have hw:Region.wanted o (yielded ops a1.tmps)=true:=by unfold Region.wanted;rw[hguard]
  simp only[hw,if_true]
  refine⟨fun _ _=>trivial,?_⟩
  have hd:=opd_den hgg hst1.1.ok hen rfl
  rw[hyv]at hd
  simp only[Den]at hd
  have hds:=(eqvs_den heq).1 (ensV_den hst1.1.ok haas hvs)
  obtain⟨fn,tmps,assign,body,hrun,hround⟩:=hyld k _ w1 hk hds hst1.2
  have hrun':(Instr.yield l (c.args.map a1.eval)).run P w1=.ok (.round l fn tmps assign body) w1:=by
   have e:(c.args.toList.map a1.eval).toArray=c.args.map a1.eval:=by apply Array.ext';simp
   rw[<-e];exact hrun
  have hex:(o.semAt (rF none).round a1.eval).run P w1=.ok (.round l fn tmps assign body) w1:=by
   show(execOp a1.eval o).run P w1=_
   rw[execOp,hop]
   exact call_yield (t:=o.type) hcal hd hrun'
  rw[hex,Oper.uponIn_round]
  refine⟨fun h=>by simp[Fence.wide]at h,RoundIn.mono (roundIn_any hround) ?_⟩
  rintro e w2 ⟨rfl,hj2⟩
  simp only
  have hs2:Sat w2 w2 (fun _=>False) (putE sl1 o.dst (some (true,.bool true))) mi (a1.put o.dst (.bool true)) w2:=
   Sat.put (rv:=.bool true) (g:=true) (v:=.bool true) (m':=mi) (w':=w2) (m:=mi) (w:=w2) (sl:=sl1) (a:=a1)
    ⟨⟨hst1.1.defers.nodup,fun d hd=>by
     obtain⟨D,_,h0,hD⟩:=hst1.1.defers.all d hd
     have:=(Array.getElem?_eq_some_iff.1 hD).1
     omega⟩,hst1.1.size,hst1.1.slots,hmem _ _ hj2,Kept.refl _ _⟩ (by simp[Den]) (hmem _ _ hj2) (Kept.refl _ _)
  refine evR_ok' (r:=none) (rm:=0) (P:=P) (Q:=Q) H.hT H.hP H.hS [] (fun sl' m' a' w' h1 h2=>by
   have hst:=StG.re hgrow hmem hj2 h2
   exact hN _ _ _ _ h1 ⟨⟨hst.1.defers,by rw[killE_length];exact hst.1.size,fun n c v hl=>hst.1.slots n c v (killE_lk ks _ _ _ hl),hst.1.mem,hst.1.kept⟩,hst.2⟩) o2 (g1.length+1) _ mi _ w2 (fun j io hj=>by
    obtain⟨o,g,h1,h2⟩:=hg2.2 j io hj
    rw[List.getElem?_drop]at h1
    exact⟨o,g,by simpa using h1,h2⟩) hs2 hy2
 | seq x y ihx ihy=>
  intro code gd hc N E T Q hN hE hT k sl a w hs h
  obtain⟨c1,c2,g1,g2,rfl,h1,h2⟩:=compG_seq hc
  simp only[evG]at h
  exact wpIn_seq (ihx _ _ h1 _ E T (Exit.then (c2.wpIn (rF none) 0 P Q) Q) (fun k sl a w hn hs=>ihy _ _ h2 N E T Q hN hE hT k sl a w hs hn) hE hT k sl a w hs h)
 | cond c x y ihx ihy=>
  intro code gd hc N E T Q hN hE hT k sl a w hs h
  obtain⟨C,c1,c2,g1,g2,rfl,hcc,h1,h2⟩:=compG_cond hc
  simp only[evG]at h
  split at h
  case h_2=>exact h.elim
  rename_i cc t hen
  obtain⟨k1,k2,k3⟩:=h
  have hd:=opd_den hcc hs.1.ok hen k1
  simp only[Den]at hd
  exact wpIn_cond_split hd (fun ht=>ihx _ _ h1 N E T Q hN hE hT k sl a w hs (k2 ht)) (fun ht=>ihy _ _ h2 N E T Q hN hE hT k sl a w hs (k3 ht))
 | block id x ih=>
  intro code gd hc N E T Q hN hE hT k sl a w hs h
  obtain⟨c1,g1,rfl,h1⟩:=compG_block hc
  simp only[evG]at h
  refine wpIn_block (ih _ _ h1 N _ T (Exit.inBlock id Q) (fun k sl a w hn hs=>hN k sl a w hn hs) (fun i k sl a w he hs=>?_) (fun k sl a w he hs=>hT k sl a w he hs) k sl a w hs h)
  unfold extG at he
  simp only[Exit.inBlock]
  split at he
  ·rename_i e;rw[if_pos e];exact hN k sl a w he hs
  ·rename_i e;rw[if_neg e];exact hE i k sl a w he hs
 | loop x ih=>
  intro code gd hc N E T Q hN hE hT k sl a w hs h
  obtain⟨c1,g1,rfl,h1⟩:=compG_loop hc
  simp only[evG]at h
  obtain⟨α,I,R,μ,⟨x0,hR0,hk0,hsub⟩,hround⟩:=h
  have sub:∀ {k:Nat} {sl:List Ent} {y:α} {a:Act} {w:World},StG mi J k sl a w->k=(I y).1->SubS sl (I y).2->StG mi J (I y).1 (I y).2 a w:=fun {k sl y a w} hs hk hsb=>by
   subst hk
   have:=hsb a ⟨hs.1.size,hs.1.slots⟩
   exact⟨⟨hs.1.defers,this.size,this.slots,hs.1.mem,hs.1.kept⟩,hs.2⟩
  have key:∀ (n:Nat) (y:α),μ y<n->R y->∀ a w,StG mi J (I y).1 (I y).2 a w->Code.roundsIn (rF none) 0 P c1 Q n a w:=by
   intro n
   induction n with
   | zero=>intro y hy;omega
   | succ n ihn=>
    intro y hy hR a w hs
    rw[roundsIn_succ]
    exact ih _ _ h1 (fun k sl=>∃ z,R z/\μ z<μ y/\k=(I z).1/\SubS sl (I z).2) E T
     (Exit.then (Code.roundsIn (rF none) 0 P c1 Q n) Q)
     (fun k sl a w hn hs=>by
      obtain⟨z,hz,hlt,hkz,hsb⟩:=hn
      exact ihn z (by omega) hz a w (sub hs hkz hsb))
     hE hT _ _ a w hs (hround y hR)
  exact wpIn_loop_rounds (μ x0+1) (key _ x0 (by omega) hR0 a w (sub hs hk0 hsub))
 | exit id=>
  intro code gd hc N E T Q hN hE hT k sl a w hs h
  obtain rfl:=compG_exit hc
  exact wpIn_exit (hE _ _ _ _ _ h hs)
 | ret=>
  intro code gd hc N E T Q hN hE hT k sl a w hs h
  obtain rfl:=compG_ret hc
  exact wpIn_ret (hT _ _ _ _ h hs)
end
inductive ItemG where
 | code (ir:IRG)
 | yld (d:Option Nat) (g:Opd) (as:List Opd)
 | blk (id:Nat)
 | lp (K:KG)
section 
variable (sp:Sp) (spP:SpP) (mi:Mem) (yv:SV) (nn:Nat) (xs:Nat->List SV) (T:KG)
def contG:List ItemG->KG×(Nat->KG)
 | []=>(T,fun _ _ _=>False)
 | .code ir::S=>(evG sp spP mi yv nn xs ir (contG S).1 (contG S).2 T,(contG S).2)
 | .yld d g as::S=>(yldK yv nn xs d g as (contG S).1,(contG S).2)
 | .lp K::S=>(K,(contG S).2)
 | .blk id::S=>((contG S).1,extG id (contG S).1 (contG S).2)
def evY (S:List ItemG) (k:Nat) (sl:List Ent):Prop:=(contG sp spP mi yv nn xs T S).1 k sl
def exY (id:Nat) (S:List ItemG) (k:Nat) (sl:List Ent):Prop:=(contG sp spP mi yv nn xs T S).2 id k sl
def condY (a b:IRG) (S:List ItemG) (k:Nat) (sl:List Ent):En->Prop
 | some (cc,.bool t)=>cc=true/\(t=true->evY sp spP mi yv nn xs T (.code a::S) k sl)/\(t=false->evY sp spP mi yv nn xs T (.code b::S) k sl)
 | _=>False
def endY (S:List ItemG) (ks:List Nat) (k:Nat):St->Prop
 | some (P,sl,m)=>P/\evY sp spP mi yv nn xs T S k (killE sl ks)
 | none=>False
theorem evY_nil (k:Nat) (sl:List Ent):evY sp spP mi yv nn xs T [] k sl=T k sl:=rfl
theorem evY_skip (S:List ItemG) (k:Nat) (sl:List Ent):evY sp spP mi yv nn xs T (.code .skip::S) k sl=evY sp spP mi yv nn xs T S k sl:=rfl
theorem evY_seq (a b:IRG) (S:List ItemG) (k:Nat) (sl:List Ent):evY sp spP mi yv nn xs T (.code (.seq a b)::S) k sl=evY sp spP mi yv nn xs T (.code a::.code b::S) k sl:=rfl
theorem evY_block (id:Nat) (b:IRG) (S:List ItemG) (k:Nat) (sl:List Ent):evY sp spP mi yv nn xs T (.code (.block id b)::S) k sl=evY sp spP mi yv nn xs T (.code b::.blk id::S) k sl:=rfl
theorem evY_blk (id:Nat) (S:List ItemG) (k:Nat) (sl:List Ent):evY sp spP mi yv nn xs T (.blk id::S) k sl=evY sp spP mi yv nn xs T S k sl:=rfl
theorem evY_ret (S:List ItemG) (k:Nat) (sl:List Ent):evY sp spP mi yv nn xs T (.code .ret::S) k sl=T k sl:=rfl
theorem evY_exit (id:Nat) (S:List ItemG) (k:Nat) (sl:List Ent):evY sp spP mi yv nn xs T (.code (.exit id)::S) k sl=exY sp spP mi yv nn xs T id S k sl:=rfl
theorem evY_lp (K:KG) (S:List ItemG) (k:Nat) (sl:List Ent):evY sp spP mi yv nn xs T (.lp K::S) k sl=K k sl:=rfl
theorem exY_code (id:Nat) (ir:IRG) (S:List ItemG) (k:Nat) (sl:List Ent):exY sp spP mi yv nn xs T id (.code ir::S) k sl=exY sp spP mi yv nn xs T id S k sl:=rfl
theorem exY_yld (id:Nat) (d:Option Nat) (g:Opd) (as:List Opd) (S:List ItemG) (k:Nat) (sl:List Ent):exY sp spP mi yv nn xs T id (.yld d g as::S) k sl=exY sp spP mi yv nn xs T id S k sl:=rfl
theorem exY_lp (id:Nat) (K:KG) (S:List ItemG) (k:Nat) (sl:List Ent):exY sp spP mi yv nn xs T id (.lp K::S) k sl=exY sp spP mi yv nn xs T id S k sl:=rfl
theorem exY_blk (id i:Nat) (S:List ItemG) (k:Nat) (sl:List Ent):exY sp spP mi yv nn xs T id (.blk i::S) k sl=bif id==i then evY sp spP mi yv nn xs T S k sl else exY sp spP mi yv nn xs T id S k sl:=by
 unfold exY evY
 simp only[contG,extG]
 by_cases h:id=i
 ·subst h;simp
 ·simp[h]
theorem evY_cond (c:Opd) (a b:IRG) (S:List ItemG) (k:Nat) (sl:List Ent):evY sp spP mi yv nn xs T (.code (.cond c a b)::S) k sl=condY sp spP mi yv nn xs T a b S k sl (en sl c):=by
 unfold evY condY
 simp only[contG,evG]
 cases en sl c with
 | none=>rfl
 | some e=>obtain⟨cc,v⟩:=e;cases v<;>rfl
theorem condY_t (a b:IRG) (S:List ItemG) (k:Nat) (sl:List Ent) (cc:Bool):condY sp spP mi yv nn xs T a b S k sl (some (cc,.bool true))=(cc=true/\evY sp spP mi yv nn xs T (.code a::S) k sl):=by
 simp[condY]
theorem condY_f (a b:IRG) (S:List ItemG) (k:Nat) (sl:List Ent) (cc:Bool):condY sp spP mi yv nn xs T a b S k sl (some (cc,.bool false))=(cc=true/\evY sp spP mi yv nn xs T (.code b::S) k sl):=by
 simp[condY]
theorem condY_d (a b:IRG) (S:List ItemG) (k:Nat) (sl:List Ent) (cc:Bool) (p:Prop) [Decidable p]:condY sp spP mi yv nn xs T a b S k sl (some (cc,.bool (decide p))) =
  (cc=true/\(p->evY sp spP mi yv nn xs T (.code a::S) k sl)/\(¬ p->evY sp spP mi yv nn xs T (.code b::S) k sl)):=by
 simp[condY]
theorem evY_reg (d:Bool) (ops:List IRO) (ks:List Nat) (S:List ItemG) (k:Nat) (sl:List Ent) :
  evY sp spP mi yv nn xs T (.code (.reg d ops ks)::S) k sl=∀ X,endY sp spP mi yv nn xs T S ks k (runR sp spP X ops 0 (some (True,sl,mi))):=by
 have e:∀ X,endY sp spP mi yv nn xs T S ks k (runR sp spP X ops 0 (some (True,sl,mi)))=RunOk (fun sl _=>evY sp spP mi yv nn xs T S k (killE sl ks)) (runR sp spP X ops 0 (some (True,sl,mi))):=by
  intro X
  cases runR sp spP X ops 0 (some (True,sl,mi))with
  | none=>rfl
  | some r=>rfl
 simp only[e]
 apply propext
 exact⟨fun h X=>runR_ok' sp spP _ X ops 0 True sl mi trivial h,fun h=>(runR_ok sp spP _ ops 0 True sl mi h).2⟩
theorem evY_yl (o1:List IRO) (d:Option Nat) (g:Opd) (as:List Opd) (o2:List IRO) (ks:List Nat) (S:List ItemG) (k:Nat) (sl:List Ent) :
  evY sp spP mi yv nn xs T (.code (.yl o1 d g as o2 ks)::S) k sl=evY sp spP mi yv nn xs T (.code (.reg false o1 [])::.yld d g as::.code (.reg false o2 ks)::S) k sl:=rfl
theorem evY_yld (d:Option Nat) (g:Opd) (as:List Opd) (S:List ItemG) (k:Nat) (sl:List Ent) :
  evY sp spP mi yv nn xs T (.yld d g as::S) k sl=(en sl g=some (true,yv)/\k<nn/\(∃ vs,ensV sl as=some vs/\eqvs vs (xs k))/\evY sp spP mi yv nn xs T S (k+1) (putE sl d (some (true,.bool true)))):=rfl
theorem evY_loopU {b:IRG} {S:List ItemG} {k:Nat} {sl:List Ent} {A:Type} (keep:List Nat) (kk:A->Nat) (u:A->List (Nat×SV)) (R:A->Prop) (mu:A->Nat) (x0:A) (h0:R x0) (hk:k=kk x0)
  (hs:slotC sl (upS (keepE keep 0 sl) (u x0)))
  (h:∀ x,R x->∀ K:KG,(∀ y,R y->mu y<mu x->∀ k' sl',k'=kk y->slotC sl' (upS (keepE keep 0 sl) (u y))->K k' sl') ->
   evY sp spP mi yv nn xs T (.code b::.lp K::S) (kk x) (upS (keepE keep 0 sl) (u x))):evY sp spP mi yv nn xs T (.code (.loop b)::S) k sl:=by
 refine⟨A,fun x=>(kk x,upS (keepE keep 0 sl) (u x)),R,mu,⟨x0,h0,hk,SubS.pt hs⟩,fun x hx=>?_⟩
 exact h x hx _ fun y hy hm k' sl' h1 h2=>⟨y,hy,hm,h1,SubS.pt h2⟩
end
attribute [push_cast] evY_nil evY_skip evY_seq evY_block evY_blk evY_ret evY_exit evY_lp exY_code exY_yld exY_lp exY_blk evY_cond condY_t condY_f condY_d evY_reg evY_yl evY_yld endY ensV
theorem iter_of {P:Program} {sp:Sp} {spP:SpP} {tab:Tab} {isP:FuncId->Bool} {chk:Option OT->Array Oper->List IRO->Bool} (H:Hyp P tab isP sp spP chk) {f:FuncId} {fn:Func} {ir:IRG} {nt:Nat} (hf:P.funcs[f]?=some fn)
  (hcomp:(fn.body.bind fun c=>compGd tab isP chk ir c)=some ir) (hrv:fn.results=#[]) (hn:fn.ntmps=nt) {cs:List SV} {mi:Mem} {n:Nat} {xs:Nat->List SV}
  (h:∀ l,evY sp spP mi (.val (.func (.yield l) #[] #[])) n xs (fun k _=>k=n) [.code ir] 0 (slots0 (.val (.func (.yield l) #[] #[])::cs) nt)):IterOk P f cs mi n xs:=by
 intro l J w vs hvs hgrow hmem hyld hj
 cases hb:fn.body with
 | none=>rw[hb]at hcomp;cases hcomp
 | some code=>
  rw[hb]at hcomp
  have harg:#[Value.func (.yield l) #[] #[]]++vs.toArray=(Value.func (.yield l) #[] #[]::vs).toArray:=by simp
  rw[harg]
  refine callsIn_of_wp_marks hf hb trivial ?_
  have hfin:∀ k sl a w,k=n->StG mi J k sl a w->LeavesInM (rF none) 0 P fn a.tmps (fun e w'=>(∃ v,e=.returned v)/\J n w') a.defers .returning w:=by
   rintro k sl a w rfl hs
   have hd:a.defers=[]:=by
    cases hd:a.defers with
    | nil=>rfl
    | cons d ds=>
     obtain⟨D,_,h0,hD⟩:=hs.1.defers.all d (by simp[hd])
     have:=(Array.getElem?_eq_some_iff.1 hD).1
     omega
   rw[hd]
   refine⟨.tuple #[],?_,⟨_,rfl⟩,hs.2⟩
   unfold results
   simp[hrv]
  have hds:Dens (SV.val (.func (.yield l) #[] #[])::cs) (Value.func (.yield l) #[] #[]::vs):=by simp only[Dens];exact⟨_,_,rfl,by simp only[Den],hvs⟩
  refine evG_ok H hgrow hmem hyld rfl ir code ir hcomp (fun k _=>k=n) (fun _ _ _=>False) (fun k _=>k=n) _ (fun k sl a w h1 h2=>hfin k sl a w h1 h2) (fun _ _ _ _ _ h _=>h.elim) (fun k sl a w h1 h2=>hfin k sl a w h1 h2)
   0 (slots0 (.val (.func (.yield l) #[] #[])::cs) nt) _ w ⟨⟨Marks.nil _ _,?_,?_,hmem _ _ hj,Kept.refl _ _⟩,hj⟩ (h l)
  ·have hl:=hds.length
   simp only[List.length_cons]at hl
   simp[slots0,hn];omega
  ·intro i c v hi
   have hl:=hds.length
   rw[lk_eq]at hi
   unfold slots0 at hi
   by_cases hlt:i<(SV.val (.func (.yield l) #[] #[])::cs).length
   ·rw[List.getElem?_append_left (by simpa using hlt)]at hi
    simp only[List.getElem?_map,List.getElem?_eq_getElem hlt,Option.map_some,Option.getD_some]at hi
    cases hi
    obtain⟨u,hu,hd⟩:=hds.get (List.getElem?_eq_getElem hlt)
    simp only[if_true]
    have:((Value.func (.yield l) #[] #[]::vs).toArray++Array.replicate (fn.ntmps-(Value.func (.yield l) #[] #[]::vs).toArray.size) undef).getD i undef=u:=by
     rw[Array.getD_eq_getD_getElem?,Array.getElem?_append_left (by simp only[List.size_toArray];omega)]
     simp only[List.getElem?_toArray,hu,Option.getD_some]
    rw[this]
    exact hd
   ·rw[List.getElem?_append_right (by simp at hlt ⊢;omega)]at hi
    simp only[List.getElem?_replicate]at hi
    split at hi<;>simp at hi
theorem zz:(∀ p:Prop,(False->p)=True)/\(∀ p:Prop,¬¬ p↔p)/\(∀ b:Bool,(b||false)=b)/\(∀ b:Bool,(false||b)=b)/\(∀ b:Bool,(b||true)=true)/\(∀ b:Bool,(true||b)=true) /\
  (∀ b:Bool,(¬ (b=true))=(b=false))/\(∀ b:Bool,(¬ (b=false))=(b=true))/\(∀ {p:Prop} [Decidable p],(decide p=true)=p)/\((¬ True)=False)/\((¬ False)=True) /\
  (∀ {a b c:Prop},(a/\b)/\c↔a/\b/\c)/\(∀ n:Nat,n*0=0)/\(∀ n:Nat,0*n=0):=
 ⟨fun p=>by simp,fun p=>Classical.not_not,Bool.or_false,Bool.false_or,Bool.or_true,Bool.true_or,Bool.not_eq_true,Bool.not_eq_false,decide_eq_true_eq,not_true_eq_false,not_false_eq_true,and_assoc,Nat.mul_zero,Nat.zero_mul⟩
attribute [push_cast] BEq.rfl ite_true ite_false List.append_nil
theorem om_ {p q:Prop} (h:q) (g:p:=by first | omega | trivial | (intros;omega)):p/\q:=⟨g,h⟩
def Z_ (v:Int):Opd:=.k (.int .i64 v)
def y_:SV:=.int .i64 0
def o_ (n:Nat) (o:IROp):IRO:=⟨some n,none,⟨[],[]⟩,o⟩
def O_ (o:IROp):IRO:=⟨none,none,⟨[],[]⟩,o⟩
def p_ (g:Nat) (o:IRO):IRO:=⟨o.dst,some (g,true),o.no,o.op⟩
def q_ (g:Nat) (o:IRO):IRO:=⟨o.dst,some (g,false),o.no,o.op⟩
def m_ (n a:Nat):IRO:=o_ n (.mov (.t a))
def z_ (n:Nat) (v:Int):IRO:=o_ n (.mov (Z_ v))
def f_ (n a k:Nat):IRO:=o_ n (.fld (.t a) k)
def l_ (n a:Nat):IRO:=o_ n (.ld false none 0 0 (.t a))
def L_ (n a:Nat):IRO:=o_ n (.ld true none 0 0 (.t a))
def n_ (n a:Nat):IRO:=o_ n (.nilc (.t a))
def a_ (n a:Nat) (v:Int):IRO:=o_ n (.bin 0 .add (.t a) (Z_ v))
def b_ (n:Nat) (o:BinOp) (a b:Nat):IRO:=o_ n (.bin 0 o (.t a) (.t b))
def c_ (n:Nat) (o:BinOp) (a:Nat) (v:Int):IRO:=o_ n (.bin 0 o (.t a) (Z_ v))
def i_ (n a b s:Nat):IRO:=o_ n (.idxS (.t a) (.t b) s)
def e_ (n a k:Nat):IRO:=o_ n (.ext (.t a) k)
def h_ (n a:Nat):IRO:=o_ n (.len (.t a))
def k_ (n a b:Nat):IRO:=o_ n (.pick (.t a) (.k (.bool true)) (.t b))
def K_ (n a b:Nat):IRO:=o_ n (.pick (.t a) (.t b) (.k (.bool false)))
def s_ (n:Nat) (k:IntKind) (a b:Nat):IRO:=O_ (.sto false n k (.t a) (.t b))
def S_ (n:Nat) (k:IntKind) (a b:Nat):IRO:=O_ (.sto true n k (.t a) (.t b))
def r_ (o:List IRO) (k:List Nat):IR:=.reg false o k []
def R_ (o:List IRO) (k:List Nat):IR:=.reg true o k []
attribute [push_cast] Z_ y_ o_ O_ p_ q_ m_ z_ f_ l_ L_ n_ a_ b_ c_ i_ e_ h_ k_ K_ s_ S_ r_ R_
end Go.Proofs.YtaofjnkpkocgjaaGreat.Xf
end
section 
namespace Go.Proofs.YtaofjnkpkocgjaaGreat.Xf
theorem fk_ {P : Program} {f : FuncId} {fn : Func} (h : P.funcs[f]? = some fn) (h1 : (fn.name == "runtime.NumGoroutine") = false := by kernel_rfl) (h2 : fn.body.isNone = false := by kernel_rfl) : FnOk P f := ⟨fn, h, h1, h2⟩
theorem hd_ {P:Program} {f:FuncId} {fs:FS} (fn:FnOk P f) (h:∀ a,fs.pre a->Tri P f (fs.args a) (fs.mem a) (postF fs a))
  (h1:∀ a,noMine (fs.mem a):=by intros;repeat' first | exact trivial | exact rfl | refine And.intro ?_ ?_)
  (h2:∀ a x,outOk (fs.mem a) (fs.out a x):=by intros;repeat' first | exact trivial | exact rfl | refine And.intro ?_ ?_)
  (h3:∀ a x,frNew (fs.new a x):=by intros;repeat' first | exact trivial | exact rfl | refine And.intro ?_ ?_)
  (h4:∀ a x,frOut (fs.out a x):=by intros;repeat' first | exact trivial | exact rfl | refine And.intro ?_ ?_):FSOk P f fs:=
 ⟨fn,fun a=>⟨h1 a,h2 a,fun x=>.inl ⟨h3 a x,h4 a x⟩⟩,h⟩
theorem tk_ {P:Program} {t:TypeId} {tt:TT} {z:Value} {d:TypeDesc} (h5:P.underlying t=some d) (h1:(P.info? t).map (fun i=>(i.size,i.bytes))=some (tt.size,tt.bytes):=by kernel_rfl) (h2:(P.info? t).bind (·.zero)=some z:=by kernel_rfl)
  (h3:Dens tt.zero z.cells.toList:=by simp[Dens,Den,nilSV,nilLoc0,Value.cells]) (h4:tt.agg=false->z.cells=#[z]:=by simp[TT.agg,Value.cells]) (h6:TKOk d tt.kind:=by first | exact⟨_,rfl,rfl⟩ | rfl | exact⟨_,rfl⟩)
  (h7:(match tt.cmp with | some ks=>cmpB P t ks | none=>true)=true:=by first | rfl | kernel_rfl) (h8:tt.zero.length=tt.size:=by rfl):TtOk P t tt:=TtOk.of h1 h2 h3 h4 h5 h6 h7 h8
end Go.Proofs.YtaofjnkpkocgjaaGreat.Xf
end
