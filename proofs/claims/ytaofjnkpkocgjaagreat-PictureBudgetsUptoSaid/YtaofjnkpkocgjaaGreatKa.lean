import Derived.Orders
import Derived.Below
import Derived.KernelRfl
import Derived.OrdersIn
import Derived.LoopNIn
import Derived.RangeFuncLeaves
import Derived.RangeFuncOwn
import GoSem.ClaimKeys
import Derived.Laws.MakeOwn
import Derived.Laws.AppendOwn
import Derived.Laws.Append
import Derived.Laws.BytesString
import Derived.Laws.Strings
set_option linter.unusedVariables false
set_option linter.unusedSimpArgs false
section 
namespace Go.Proofs.YtaofjnkpkocgjaaGreat.Xf
structure Loc where
 b:Nat
 o:Nat
 nil:Bool
 cap:Nat
 deriving Inhabited
def nilLoc0:Loc:=⟨0,0,true,0⟩
def Loc.ad (L:Loc) (k:Nat):Addr:=⟨L.b,L.o+k,none⟩
inductive SV where
 | int (k:IntKind) (n:Int)
 | bool (b:Bool)
 | ptr (c:Nat) (L:Loc) (i:Int) (s f:Nat)
 | sl (c:Nat) (L:Loc) (s:Nat) (lo len:Int)
 | agg (cs:List SV)
 | tup (cs:List SV)
 | fn (f:FuncId) (cs:List SV)
 | val (v:Value)
 deriving Inhabited
mutual
def Den:SV->Value->Prop
 | .int k n,v=>v=.int k n
 | .bool b,v=>v=.bool b
 | .ptr _ L i s f,v=>v=.pointer (some (L.ad (i.toNat*s+f)))
 | .sl _ L s lo len,v=>0<=lo/\0<=len/\lo+len<=L.cap/\(L.nil=true->L.cap=0)/\∃ A:Option Addr,v=.slice A len.toNat (L.cap-lo.toNat)/\A.isNone=L.nil /\
   (L.cap-lo.toNat≠0->A=if L.nil then none else some (L.ad (lo.toNat*s)))
 | .agg cs,v=>∃ vs:List Value,v=.agg vs.toArray/\Dens cs vs
 | .tup cs,v=>∃ vs:List Value,v=.tuple vs.toArray/\Dens cs vs
 | .fn f cs,v=>∃ vs:List Value,v=.func (.func f) #[] vs.toArray/\Dens cs vs
 | .val x,v=>v=x
def Dens:List SV->List Value->Prop
 | [],vs=>vs=[]
 | c::cs,vs=>∃ v vs',vs=v::vs'/\Den c v/\Dens cs vs'
end
theorem Dens.length:∀ {cs:List SV} {vs:List Value},Dens cs vs->vs.length=cs.length
 | [],vs,h=>by simp[Dens]at h;simp[h]
 | c::cs,vs,h=>by
  simp only[Dens]at h
  obtain⟨v,vs',rfl,_,h⟩:=h
  simp[Dens.length h]
theorem Dens.get:∀ {cs:List SV} {vs:List Value},Dens cs vs->∀ {i:Nat} {c:SV},cs[i]?=some c->∃ v,vs[i]?=some v/\Den c v
 | [],vs,h,i,c,hc=>by simp at hc
 | c::cs,vs,h,i,d,hc=>by
  simp only[Dens]at h
  obtain⟨v,vs',rfl,hv,h⟩:=h
  cases i with
  | zero=>simp at hc;subst hc;exact⟨v,by simp,hv⟩
  | succ i=>simp at hc;simpa using Dens.get h hc
theorem Dens.of_get:∀ {cs:List SV} {vs:List Value},vs.length=cs.length->(∀ (i:Nat) (c:SV) (v:Value),cs[i]?=some c->vs[i]?=some v->Den c v)->Dens cs vs
 | [],vs,h,_=>by simpa [Dens]using h
 | c::cs,[],h,_=>by simp at h
 | c::cs,v::vs,h,H=>by
  simp only[Dens]
  exact⟨v,vs,rfl,H 0 c v (by simp) (by simp),Dens.of_get (by simpa using h) fun i c v hc hv=>H (i+1) c v (by simpa using hc) (by simpa using hv)⟩
theorem Dens.append {cs ds:List SV} {vs us:List Value} (h:Dens cs vs) (k:Dens ds us):Dens (cs++ds) (vs++us):=by
 induction cs generalizing vs with
 | nil=>simp only[Dens]at h;subst h;simpa using k
 | cons c cs ih=>
  simp only[Dens]at h
  obtain⟨v,vs',rfl,hv,h⟩:=h
  simp only[List.cons_append,Dens]
  exact⟨v,vs'++us,rfl,hv,ih h⟩
inductive Own where
 | ro | rof | mine | lent | got
 deriving DecidableEq
def Own.wr:Own->Bool
 | .ro=>false
 | .rof=>false
 | _=>true
inductive RC where
 | int (k:IntKind) (n:Int)
 | bool (b:Bool)
 | row (L:Loc) (k:IntKind) (xs:List Int)
 deriving Inhabited
def RC.sv:RC->SV
 | .int k n=>.int k n
 | .bool b=>.bool b
 | .row L _ xs=>.sl 4095 L 1 0 xs.length
inductive Chunk where
 | ints (k:IntKind) (xs:List Int)
 | bools (xs:List Bool)
 | cells (cs:List SV)
 | recs (s:Nat) (fr:Bool) (z:List RC) (l:List (List RC))
def rd (xs:List Int) (i:Int):Int:=xs.getD i.toNat 0
def rdB (xs:List Bool) (i:Int):Bool:=xs.getD i.toNat false
def Chunk.len:Chunk->Nat
 | .ints _ xs=>xs.length
 | .bools xs=>xs.length
 | .cells cs=>cs.length
 | .recs s _ _ l=>l.length*s
def rcAt (l:List (List RC)) (s o:Nat):RC:=(l.getD (o / s) []).getD (o % s) (.int .i64 0)
def Chunk.cell:Chunk->Nat->SV
 | .ints k xs,o=>.int k (xs.getD o 0)
 | .bools xs,o=>.bool (xs.getD o false)
 | .cells cs,o=>cs.getD o (.val undef)
 | .recs s _ _ l,o=>(rcAt l s o).sv
def Chunk.ext (L:Loc):Chunk->Nat
 | .ints _ _=>L.cap
 | .bools _=>L.cap
 | .cells cs=>cs.length
 | .recs s _ _ _=>L.cap*s
def Chunk.fits (L:Loc):Chunk->Prop
 | .ints _ xs=>xs.length<=L.cap/\(L.nil=true->L.cap=0)
 | .bools xs=>xs.length<=L.cap/\(L.nil=true->L.cap=0)
 | .cells _=>L.nil=false
 | .recs s _ _ l=>l.length<=L.cap/\(L.nil=true->L.cap=0)/\0<s/\∀ r∈l,r.length=s
def Chunk.rows:Chunk->Loc->IntKind->List Int->Prop
 | .recs _ _ _ l,L,k,xs=>∃ r∈l,RC.row L k xs∈r
 | _,_,_,_=>False
def Chunk.fr:Chunk->Bool
 | .recs _ fr _ _=>fr
 | _=>true
abbrev ME:=Own×Loc×Chunk
abbrev Mem:=List (Option ME)
def lk {α:Type}:List (Option α)->Nat->Option α
 | [],_=>none
 | a::_,0=>a
 | _::l,n+1=>lk l n
def st {α:Type}:List (Option α)->Nat->Option α->List (Option α)
 | [],_,_=>[]
 | _::l,0,x=>x::l
 | a::l,n+1,x=>a::st l n x
theorem lk_eq {α:Type}:∀ (l:List (Option α)) (n:Nat),lk l n=(l[n]?).getD none
 | [],n=>by simp[lk]
 | a::l,0=>by simp[lk]
 | a::l,n+1=>by simp[lk,lk_eq l n]
theorem st_length {α:Type}:∀ (l:List (Option α)) (n:Nat) (x:Option α),(st l n x).length=l.length
 | [],n,x=>by simp[st]
 | a::l,0,x=>by simp[st]
 | a::l,n+1,x=>by simp[st,st_length l n]
theorem lk_st {α:Type}:∀ (l:List (Option α)) (n m:Nat) (x:Option α),lk (st l n x) m=if n=m/\n<l.length then x else lk l m
 | [],n,m,x=>by simp[st,lk]
 | a::l,0,0,x=>by simp[st,lk]
 | a::l,0,m+1,x=>by simp[st,lk]
 | a::l,n+1,0,x=>by simp[st,lk]
 | a::l,n+1,m+1,x=>by simp[st,lk,lk_st l n m x]
theorem lk_st_ne {α:Type} {l:List (Option α)} {n m:Nat} {x:Option α} (h:n≠m):lk (st l n x) m=lk l m:=by simp[lk_st,h]
theorem lk_lt {α:Type}:∀ {l:List (Option α)} {n:Nat} {x:α},lk l n=some x->n<l.length
 | [],n,x,h=>by simp[lk]at h
 | a::l,0,x,h=>by simp
 | a::l,n+1,x,h=>by simp[lk]at h;simpa using lk_lt h
theorem st_comm {α:Type}:∀ (l:List (Option α)) (n m:Nat) (x y:Option α),n≠m->st (st l n x) m y=st (st l m y) n x
 | [],n,m,x,y,h=>by simp[st]
 | a::l,0,0,x,y,h=>by simp at h
 | a::l,0,m+1,x,y,h=>by simp[st]
 | a::l,n+1,0,x,y,h=>by simp[st]
 | a::l,n+1,m+1,x,y,h=>by simp[st,st_comm l n m x y (by omega)]
def reg (e:ME):Nat:=bif e.1.wr then e.2.2.ext e.2.1 else e.2.2.len
def wf (e:ME) (a:Addr):Prop:=e.1.wr=true/\∃ o,o<e.2.2.ext e.2.1/\a=e.2.1.ad o
def rows (ch:Chunk) (a:Addr):Prop:=∃ L k xs,ch.rows L k xs/\∃ o,o<xs.length/\a=L.ad o
def rf (e:ME) (a:Addr):Prop:=(∃ o,o<reg e/\a=e.2.1.ad o)∨rows e.2.2 a
def homeOk (w0:World) (W:Addr->Prop) (own:Own) (a:Addr):Prop:=
 match own with
 | .ro=>True
 | .rof=>w0.heap.size<=a.block
 | .mine=>w0.heap.size<=a.block
 | .lent=>W a
 | .got=>w0.heap.size<=a.block∨W a
theorem homeOk.got {w0:World} {W:Addr->Prop} {own:Own} {a:Addr} (h:homeOk w0 W own a) (ho:own.wr=true):w0.heap.size<=a.block∨W a:=by
 cases own
 ·cases ho
 ·cases ho
 ·exact .inl h
 ·exact .inr h
 ·exact h
structure ChunkSat (w0:World) (W:Addr->Prop) (e:ME) (w:World):Prop where
 cell:∀ o,o<e.2.2.len->∃ v,w.cell? (e.2.1.ad o)=some v/\Den (e.2.2.cell o) v
 row:∀ L k xs,e.2.2.rows L k xs->xs.length<=L.cap/\(L.nil=true->L.cap=0)/\(∀ o,o<xs.length->w.cell? (L.ad o)=some (.int k (xs.getD o 0)))/\(e.2.2.fr=true->0<xs.length->w0.heap.size<=L.b)
 self:∀ a,wf e a->¬ rows e.2.2 a
 mineW:e.1.wr=true->∀ o,o<e.2.2.ext e.2.1->(w.cell? (e.2.1.ad o)).isSome=true/\w.frozen? (e.2.1.ad o)=false
 fits:e.2.2.fits e.2.1
 home:∀ o,o<reg e->homeOk w0 W e.1 (e.2.1.ad o)
structure MemSat (w0:World) (W:Addr->Prop) (m:Mem) (w:World):Prop where
 chunk:∀ c e,lk m c=some e->ChunkSat w0 W e w
 sep:∀ c d e f,c≠d->lk m c=some e->lk m d=some f->∀ a,wf e a->¬ rf f a
structure Kept (b1 w0:World) (W:Addr->Prop) (w:World):Prop where
 os:w.os=w0.os
 tape:w.tape=w0.tape
 output:w.output=w0.output
 size:w0.heap.size<=w.heap.size
 cell:∀ a,a.block<w0.heap.size->¬ W a->w.cell? a=w0.cell? a
 frozen:∀ a,a.block<w0.heap.size->w.frozen? a=w0.frozen? a
 block:∀ b,b<w0.heap.size->(∀ o,¬ W ⟨b,o,none⟩)->w.heap[b]?=w0.heap[b]?
 oth0:KeepsOthers w0 w
 oth1:KeepsOthers b1 w
theorem others_below {w w':World} (h:RowKit.Below w.heap.size w w'):KeepsOthers w w':=
 ⟨h.size,fun k o hk _=>(h.block k (Array.getElem?_eq_some_iff.1 hk).1).trans hk⟩
theorem Kept.refl (w:World) (W:Addr->Prop):Kept w w W w:=⟨rfl,rfl,rfl,Nat.le_refl _,fun _ _ _=>rfl,fun _ _=>rfl,fun _ _ _=>rfl,KeepsOthers.refl _,KeepsOthers.refl _⟩
theorem Kept.trans {b1 w0 w1 w2:World} {W W':Addr->Prop} (h:Kept b1 w0 W w1) (k:Kept w1 w1 W' w2) (hW:∀ a,W' a->a.block<w0.heap.size->W a):Kept b1 w0 W w2 where
 os:=k.os.trans h.os
 tape:=k.tape.trans h.tape
 output:=k.output.trans h.output
 size:=Nat.le_trans h.size k.size
 cell a ha hn:=(k.cell a (Nat.lt_of_lt_of_le ha h.size) fun hw=>hn (hW a hw ha)).trans (h.cell a ha hn)
 frozen a ha:=(k.frozen a (Nat.lt_of_lt_of_le ha h.size)).trans (h.frozen a ha)
 block b hb hn:=(k.block b (Nat.lt_of_lt_of_le hb h.size) fun o hw=>hn o (hW _ hw hb)).trans (h.block b hb hn)
 oth0:=h.oth0.trans k.oth0
 oth1:=h.oth1.trans k.oth0
theorem Kept.mono {b1 w0 w:World} {W W':Addr->Prop} (h:Kept b1 w0 W w) (hW:∀ a,W a->W' a):Kept b1 w0 W' w:=
 ⟨h.os,h.tape,h.output,h.size,fun a ha hn=>h.cell a ha fun q=>hn (hW a q),h.frozen,fun b hb hn=>h.block b hb fun o q=>hn o (hW _ q),h.oth0,h.oth1⟩
theorem Kept.below {b1 w0 w:World} (h:Kept b1 w0 (fun _=>False) w):RowKit.Below w0.heap.size w0 w:=
 ⟨h.os,h.tape,h.output,h.size,fun b hb=>h.block b hb fun _ h=>h⟩
theorem Kept.of_below {w0 w:World} (h:RowKit.Below w0.heap.size w0 w) (W:Addr->Prop):Kept w0 w0 W w:=
 ⟨h.os,h.tape,h.output,h.size,fun a ha _=>h.cell ha,fun a ha=>h.frozen ha,fun b hb _=>h.block b hb,others_below h,others_below h⟩
theorem Kept.alloc (w:World) (o:Obj) (W:Addr->Prop):Kept w w W (w.alloc o):=
 Kept.of_below ((RowKit.Below.refl _ _).alloc (Nat.le_refl _) _) W
theorem Kept.drew (w:World) (W:Addr->Prop):Kept w w W w.drew:=Kept.of_below (RowKit.Below.refl _ _).drew W
theorem Kept.setCell (w:World) (a:Addr) (v:Value) (ha:a.spot=none):Kept w w (fun x=>x=a) (w.setCell a v) where
 os:=rfl
 tape:=rfl
 output:=rfl
 size:=by simp
 cell b _ hn:=World.cell?_setCell_other w a b v (fun e=>hn e.symm)
 frozen b _:=by simp
 block b _ hn:=RowKit.Below.heap_setCell w a v b (fun e=>hn a.off (by cases a;simp_all))
 oth0:=KeepsOthers.setCell w a v
 oth1:=KeepsOthers.setCell w a v
theorem ad_ne_of_size {w:World} {L M:Loc} {i j:Nat} {v:Value} (h:w.cell? (L.ad i)=some v) (hM:w.heap.size<=M.b):L.ad i≠M.ad j:=by
 intro e
 have:=World.block_lt_of_cell? _ _ h
 have e2:L.b=M.b:=by simpa [Loc.ad]using congrArg Addr.block e
 simp[Loc.ad]at this
 omega
theorem reg_eq {own:Own} {L:Loc} {ch:Chunk} (h:own.wr=true):reg (own,L,ch)=ch.ext L:=by simp[reg,h]
theorem Chunk.len_le_ext {L:Loc} {ch:Chunk} (h:ch.fits L):ch.len<=ch.ext L:=by
 cases ch<;>simp only[Chunk.fits]at h<;>simp only[Chunk.len,Chunk.ext]
 ·exact h.1
 ·exact h.1
 ·exact Nat.le_refl _
 ·exact Nat.mul_le_mul_right _ h.1
theorem Chunk.len_le_reg {w0:World} {W:Addr->Prop} {e:ME} {w:World} (h:ChunkSat w0 W e w):e.2.2.len<=reg e:=by
 obtain⟨own,L,ch⟩:=e
 have:=Chunk.len_le_ext h.fits
 unfold reg
 cases own.wr
 ·exact Nat.le_refl _
 ·exact this
theorem ChunkSat.keep {w0:World} {W:Addr->Prop} {e:ME} {w w':World} (h:ChunkSat w0 W e w)
  (hc:∀ a,rf e a->w'.cell? a=w.cell? a) (hf:∀ a,a.block<w.heap.size->w'.frozen? a=w.frozen? a):ChunkSat w0 W e w':=by
 obtain⟨own,L,ch⟩:=e
 have hle:=Chunk.len_le_reg h
 refine⟨fun o ho=>?_,fun L' k xs hr=>?_,h.self,fun hne o ho=>?_,h.fits,h.home⟩
 ·obtain⟨v,hv,hd⟩:=h.cell o ho
  refine⟨v,?_,hd⟩
  rw[<-hv]
  exact hc _ (.inl ⟨o,Nat.lt_of_lt_of_le ho hle,rfl⟩)
 ·obtain⟨h1,h2,h3,h4⟩:=h.row L' k xs hr
  refine⟨h1,h2,fun o ho=>?_,h4⟩
  rw[hc _ (.inr ⟨L',k,xs,hr,o,ho,rfl⟩)]
  exact h3 o ho
 ·have:=h.mineW hne o ho
  obtain⟨v,hv⟩:=Option.isSome_iff_exists.1 this.1
  exact⟨by rw[hc _ (.inl ⟨o,by rw[reg_eq hne];exact ho,rfl⟩)];exact this.1,by rw[hf _ (World.block_lt_of_cell? _ _ hv)];exact this.2⟩
theorem ChunkSat.regSome {w0:World} {W:Addr->Prop} {e:ME} {w:World} (h:ChunkSat w0 W e w) {a:Addr} (ha:rf e a):∃ v,w.cell? a=some v:=by
 obtain⟨own,L,ch⟩:=e
 rcases ha with ⟨o,ho,rfl⟩ | ⟨L',k,xs,hr,o,ho,rfl⟩
 ·cases hw:own.wr with
  | false=>obtain⟨v,hv,_⟩:=h.cell o (by simpa [reg,hw]using ho);exact⟨v,hv⟩
  | true=>exact Option.isSome_iff_exists.1 (h.mineW hw o (by simpa [reg,hw]using ho)).1
 ·exact⟨_,(h.row L' k xs hr).2.2.1 o ho⟩
theorem wf_rf {e:ME} {a:Addr} (h:wf e a):rf e a:=by
 obtain⟨own,L,ch⟩:=e
 obtain⟨h1,o,h2,h3⟩:=h
 exact .inl ⟨o,by rw[reg_eq h1];exact h2,h3⟩
theorem MemSat.keep {w0:World} {W:Addr->Prop} {m:Mem} {w w':World} (h:MemSat w0 W m w)
  (hc:∀ a v,w.cell? a=some v->w'.cell? a=some v) (hf:∀ a,a.block<w.heap.size->w'.frozen? a=w.frozen? a):MemSat w0 W m w':=by
 refine⟨fun c e he=>(h.chunk c e he).keep (fun a ha=>?_) hf,h.sep⟩
 obtain⟨v,hv⟩:=(h.chunk c e he).regSome ha
 rw[hv,hc _ _ hv]
theorem MemSat.alloc {w0:World} {W:Addr->Prop} {m:Mem} {w:World} (h:MemSat w0 W m w) (o:Obj):MemSat w0 W m (w.alloc o):=
 h.keep (fun a v hv=>by rw[World.cell?_alloc_lt w o a (World.block_lt_of_cell? _ _ hv)];exact hv) (fun a ha=>World.frozen?_alloc_old w o a (Nat.ne_of_lt ha))
theorem MemSat.drew {w0:World} {W:Addr->Prop} {m:Mem} {w:World} (h:MemSat w0 W m w):MemSat w0 W m w.drew:=
 h.keep (fun a v hv=>by simpa using hv) (fun a ha=>by simp)
theorem MemSat.sub {w0:World} {W:Addr->Prop} {m m':Mem} {w:World} (h:MemSat w0 W m w) (hs:∀ c e,lk m' c=some e->lk m c=some e):MemSat w0 W m' w:=
 ⟨fun c e he=>h.chunk c e (hs c e he),fun c d e f hn he hf=>h.sep c d e f hn (hs c e he) (hs d f hf)⟩
theorem MemSat.forget {w0:World} {W:Addr->Prop} {m:Mem} {w:World} (h:MemSat w0 W m w) (c:Nat):MemSat w0 W (st m c none) w:=
 h.sub fun d e he=>by
  rw[lk_st]at he
  split at he
  ·cases he
  ·exact he
theorem MemSat.put {w0:World} {W:Addr->Prop} {m:Mem} {w:World} (h:MemSat w0 W m w) (c:Nat) (e:ME) (he:ChunkSat w0 W e w)
  (hs:∀ d f,d≠c->lk m d=some f->∀ a,(wf e a->¬ rf f a)/\(wf f a->¬ rf e a)):MemSat w0 W (st m c (some e)) w:=by
 refine⟨fun d f hf=>?_,fun d d' f f' hn hf hf' a ho=>?_⟩
 ·rw[lk_st]at hf
  split at hf
  ·cases hf;exact he
  ·exact h.chunk d f hf
 ·rw[lk_st]at hf hf'
  split at hf
  ·rename_i h1
   cases hf
   split at hf'
   ·rename_i h2;exact absurd (h1.1.symm.trans h2.1) hn
   ·exact(hs d' f' (fun x=>hn (h1.1.symm.trans x.symm)) hf' a).1 ho
  ·split at hf'
   ·rename_i h1 h2
    cases hf'
    exact(hs d f (fun x=>hn (x.trans h2.1)) hf a).2 ho
   ·exact h.sep d d' f f' hn hf hf' a ho
theorem st_st (m:Mem) (c:Nat) (x y:Option ME):st (st m c x) c y=st m c y:=by
 have:∀ (l:Mem) (n:Nat),st (st l n x) n y=st l n y:=by
  intro l
  induction l with
  | nil=>intro n;simp[st]
  | cons a l ih=>intro n;cases n<;>simp[st,ih]
 exact this _ _
theorem MemSat.turn {w0:World} {W:Addr->Prop} {m:Mem} {w:World} (h:MemSat w0 W m w) {c:Nat} {e e':ME} (hc:lk m c=some e) (he:ChunkSat w0 W e' w)
  (hw:∀ a,wf e' a->wf e a) (hr:∀ a,rf e' a->rf e a):MemSat w0 W (st m c (some e')) w:=by
 have h1:=(h.forget c).put c e' he (fun d f hd hf a=>by
  rw[lk_st_ne (Ne.symm hd)]at hf
  exact⟨fun ha=>h.sep c d e f (Ne.symm hd) hc hf a (hw a ha),fun ha hra=>h.sep d c f e hd hf hc a ha (hr a hra)⟩)
 rwa [st_st]at h1
structure Shown (w0:World) (fr:Bool) (m:Mem) (w:World) (L:Loc) (k:IntKind) (xs:List Int):Prop where
 cap:xs.length<=L.cap
 nil:L.nil=true->L.cap=0
 cell:∀ o,o<xs.length->w.cell? (L.ad o)=some (.int k (xs.getD o 0))
 far:∀ d f,lk m d=some f->∀ o,o<xs.length->¬ wf f (L.ad o)
 fresh:fr=true->0<xs.length->w0.heap.size<=L.b
theorem Shown.le {w0:World} {fr fr':Bool} {m:Mem} {w:World} {L:Loc} {k:IntKind} {xs:List Int} (h:Shown w0 fr m w L k xs) (hf:fr'=true->fr=true):Shown w0 fr' m w L k xs:=
 ⟨h.cap,h.nil,h.cell,h.far,fun h1 h2=>h.fresh (hf h1) h2⟩
theorem shown_row {w0:World} {W:Addr->Prop} {m:Mem} {w:World} (hm:MemSat w0 W m w) {c:Nat} {e:ME} (hc:lk m c=some e) {L:Loc} {k:IntKind} {xs:List Int} (hr:e.2.2.rows L k xs):Shown w0 e.2.2.fr m w L k xs:=by
 obtain⟨h1,h2,h3,h4⟩:=(hm.chunk c e hc).row L k xs hr
 refine⟨h1,h2,h3,fun d f hf o ho hw=>?_,h4⟩
 have hrow:rows e.2.2 (L.ad o):=⟨L,k,xs,hr,o,ho,rfl⟩
 by_cases hdc:d=c
 ·subst hdc
  rw[hc]at hf;cases hf
  exact(hm.chunk d e hc).self _ hw hrow
 ·exact hm.sep d c f e hdc hf hc _ hw (.inr hrow)
theorem shown_nil {w0:World} {fr:Bool} {m:Mem} {w:World} (k:IntKind):Shown w0 fr m w nilLoc0 k []:=⟨by simp,by simp[nilLoc0],by simp,by simp,by simp⟩
theorem MemSat.write {w0:World} {W:Addr->Prop} {m:Mem} {w:World} (h:MemSat w0 W m w) {c:Nat} {own:Own} {L:Loc} {ch ch':Chunk}
  (hc:lk m c=some (own,L,ch)) (ho:own.wr=true) {o:Nat} (hlt:o<ch.len) {v:Value} {sv:SV} (hv:Den sv v)
  (hlen:ch'.len=ch.len) (hext:ch'.ext L=ch.ext L) (hfit:ch'.fits L) (hcell:∀ i,i<ch.len->ch'.cell i=if i=o then sv else ch.cell i)
  (hrow:∀ L' k xs,ch'.rows L' k xs->Shown w0 ch'.fr m w L' k xs) :
  (w.cell? (L.ad o)).isSome=true/\w.frozen? (L.ad o)=false/\MemSat w0 W (st m c (some (own,L,ch'))) (w.setCell (L.ad o) v)/\wf (own,L,ch) (L.ad o):=by
 have hk:=h.chunk c _ hc
 have hle:=Chunk.len_le_reg hk
 rw[reg_eq ho]at hle
 have hmw:=hk.mineW ho o (Nat.lt_of_lt_of_le hlt hle)
 obtain⟨u,hu⟩:=Option.isSome_iff_exists.1 hmw.1
 have hwo:wf (own,L,ch) (L.ad o):=⟨ho,o,Nat.lt_of_lt_of_le hlt hle,rfl⟩
 refine⟨hmw.1,hmw.2,?_,hwo⟩
 have hself:∀ i,i<ch.ext L->i≠o->(w.setCell (L.ad o) v).cell? (L.ad i)=w.cell? (L.ad i):=fun i hi hne=>
  World.cell?_setCell_other _ _ _ _ (fun e=>hne (by simp[Loc.ad]at e;omega))
 have hww:∀ a,wf (own,L,ch') a->wf (own,L,ch) a:=fun a ⟨_,i,hi,e⟩=>⟨ho,i,by simpa [hext]using hi,e⟩
 have hnew:ChunkSat w0 W (own,L,ch') (w.setCell (L.ad o) v):=by
  refine⟨fun i hi=>?_,fun L' k xs hr=>?_,fun a ha ⟨L',k,xs,hr,i,hi,e⟩=>?_,fun _ i hi=>?_,hfit,fun i hi=>hk.home i (by rw[reg_eq ho]at hi ⊢;simpa [hext]using hi)⟩
  ·simp only[hlen]at hi
   simp only[hcell i hi]
   by_cases hio:i=o
   ·subst hio
    exact⟨v,World.cell?_setCell_same _ _ _ hu,by simpa using hv⟩
   ·obtain⟨v',hv',hd⟩:=hk.cell i hi
    exact⟨v',by rw[hself i (Nat.lt_of_lt_of_le hi hle) hio];exact hv',by simpa [hio]using hd⟩
  ·have hs:=hrow _ _ _ hr
   refine⟨hs.cap,hs.nil,fun i hi=>?_,hs.fresh⟩
   rw[World.cell?_setCell_other _ _ _ _ (fun(e:L.ad o=L'.ad i)=>hs.far c _ hc i hi (e▸hwo))]
   exact hs.cell i hi
  ·exact(hrow _ _ _ hr).far c _ hc i hi (e▸hww a ha)
  ·simp only[hext]at hi
   have:=hk.mineW ho i hi
   refine⟨?_,by simpa using this.2⟩
   by_cases hio:i=o
   ·subst hio;simp only[World.cell?_setCell_same _ _ _ hu];rfl
   ·simp only[hself i hi hio];exact this.1
 have hrest:MemSat w0 W (st m c none) (w.setCell (L.ad o) v):=by
  refine⟨fun d f hf=>?_,(h.forget c).sep⟩
  rw[lk_st]at hf
  have hdc:d≠c:=by
   intro e
   subst e
   rw[if_pos ⟨rfl,lk_lt hc⟩]at hf
   cases hf
  rw[if_neg (fun e=>hdc e.1.symm)]at hf
  refine(h.chunk d f hf).keep (fun a ha=>?_) (fun a _=>by simp)
  exact World.cell?_setCell_other _ _ _ _ (fun e=>h.sep c d _ f (Ne.symm hdc) hc hf _ hwo (e▸ha))
 have:=hrest.put c (own,L,ch') hnew (fun d f hdc hf a=>by
  rw[lk_st_ne (Ne.symm hdc)]at hf
  refine⟨fun ha=>h.sep c d _ f (Ne.symm hdc) hc hf a (hww a ha),fun ha hra=>?_⟩
  rcases hra with ⟨i,hi,e⟩ | ⟨L',k,xs,hr,i,hi,e⟩
  ·refine h.sep d c f _ hdc hf hc a ha (.inl ⟨i,?_,e⟩)
   rw[reg_eq ho]at hi ⊢;simpa [hext]using hi
  ·exact(hrow _ _ _ hr).far d f hf i hi (e▸ha))
 rwa [st_st]at this
theorem Shown.write {w0:World} {fr:Bool} {m:Mem} {w:World} {L':Loc} {k:IntKind} {xs:List Int} (h:Shown w0 fr m w L' k xs) {c:Nat} {own:Own} {L:Loc} {ch ch':Chunk} (hc:lk m c=some (own,L,ch)) (hext:ch'.ext L=ch.ext L)
  {a:Addr} (ha:wf (own,L,ch) a) (v:Value):Shown w0 fr (st m c (some (own,L,ch'))) (w.setCell a v) L' k xs:=by
 refine⟨h.cap,h.nil,fun o ho=>?_,fun d f hf o ho hw=>?_,h.fresh⟩
 ·rw[World.cell?_setCell_other _ _ _ _ (fun(e:a=L'.ad o)=>h.far c _ hc o ho (e▸ha))];exact h.cell o ho
 ·rw[lk_st]at hf
  split at hf
  ·rename_i e
   cases hf
   obtain⟨g1,i,g2,g3⟩:=hw
   exact h.far c _ hc o ho ⟨g1,i,by simpa [hext]using g2,g3⟩
  ·exact h.far d f hf o ho hw
end Go.Proofs.YtaofjnkpkocgjaaGreat.Xf
end
section 
namespace Go.Proofs.YtaofjnkpkocgjaaGreat.Xf
abbrev nilLoc:Loc:=nilLoc0
inductive Opd where
 | t (n:Nat)
 | k (v:SV)
 deriving Inhabited
def len8L:List Int:=[0,1]++(List.replicate 2 2++(List.replicate 4 3++(List.replicate 8 4++(List.replicate 16 5++(List.replicate 32 6++(List.replicate 64 7++List.replicate 128 8))))))
inductive IROp where
 | mov (a:Opd)
 | pick (c a b:Opd)
 | box (k:Nat) (a:Opd)
 | alloc (k:Nat) (z:List SV)
 | allocI (k:Nat) (ik:IntKind) (n:Nat)
 | build (z:List SV) (ps:List (Nat×Nat×Opd))
 | bslice (k:Nat) (ps:List Opd)
 | brecs (k s:Nat) (nk:IntKind) (ps:List Opd)
 | ld (r:Bool) (n:Option Nat) (k nv:Nat) (a:Opd)
 | sto (r:Bool) (n:Nat) (nk:IntKind) (a v:Opd)
 | nilc (a:Opd)
 | bin (w:Nat) (op:BinOp) (x y:Opd)
 | binB (op:BinOp) (x y:Opd)
 | binS (op:BinOp) (x y:Opd)
 | binA (op:BinOp) (ks:List Bool) (x y:Opd)
 | binN (op:BinOp) (x y:Opd)
 | binT (op:BinOp) (x y:Opd)
 | str (x:Opd)
 | neg (w:Nat) (x:Opd)
 | not (x:Opd)
 | cvt (w:Nat) (k:IntKind) (x:Opd)
 | mkf (f:FuncId) (cs:List Opd)
 | mks (k:Nat) (z:SV) (bytes:Nat) (l c:Opd)
 | mksR (k:Nat) (z:List RC) (bytes:Nat) (l c:Opd)
 | slc (x:Opd) (s:Nat) (lo hi:Option Opd)
 | slcA (x:Opd) (n s:Nat)
 | fld (a:Opd) (off:Nat)
 | fldv (a:Opd) (off:Nat) (n:Option Nat)
 | idxS (x i:Opd) (s:Nat)
 | idxP (x i:Opd) (len s:Nat)
 | idxV (x i:Opd) (len:Nat)
 | tabI (xs:List Int) (i:Opd)
 | ext (x:Opd) (i:Nat)
 | len (x:Opd)
 | lenK (n:Nat)
 | app (k:Nat) (es bytes:Nat) (x y:Opd)
 | mn (x y:Opd)
 | mx (x y:Opd)
 | mn3 (x y z:Opd)
 | mx3 (x y z:Opd)
 | copy (x y:Opd)
 | clear (z:List RC) (x:Opd)
 | callp (f:FuncId) (as:List Opd)
 | call (n:Option Nat) (k:Nat) (f:FuncId) (as:List Opd)
 | callv (n:Option Nat) (k:Nat) (f:Opd) (as:List Opd)
 deriving Inhabited
structure Lim where
 no:List Nat
 on:List Nat
 deriving Inhabited
structure IRO where
 dst:Option Nat
 guard:Option (Nat×Bool)
 no:Lim
 op:IROp
 deriving Inhabited
abbrev Ent:=Option (Bool×SV)
abbrev Look:=Nat->Option ME
abbrev Upd:=List (Nat×Option ME)
abbrev R:=Option (Prop×SV×Upd)
structure ITS where
 A:Type
 cs:A->List SV
 mem:A->Mem
 n:A->Nat
 xs:A->Nat->List SV
 pre:A->Prop
structure Sp where
 fn:FuncId->List SV->Look->(Nat->Loc)->Nat->R
 it:FuncId->Option ITS
instance :CoeFun Sp (fun _=>FuncId->List SV->Look->(Nat->Loc)->Nat->R):=⟨Sp.fn⟩
abbrev SpP:=FuncId->List SV->Option (Prop×SV)
def en (sl:List Ent):Opd->Option (Bool×SV)
 | .t n=>lk sl n
 | .k v=>some (true,v)
def o1 (sl:List Ent) (a:Opd) (f:SV->R):R:=
 match en sl a with
 | none=>none
 | some (c,v)=>match f v with
  | none=>none
  | some (p,r,u)=>some (c=true/\p,r,u)
def ons (sl:List Ent):List Opd->(List SV->R)->R
 | [],f=>f []
 | a::as,f=>o1 sl a fun v=>ons sl as fun vs=>f (v::vs)
def noHas:List Nat->Nat->Bool
 | [],_=>false
 | n::l,c=>n==c||noHas l c
def refuses (l:Lim) (c:Nat):Bool:=noHas l.no c||(match l.on with | []=>false | d::on=>!(noHas (d::on) c))
def lkN (no:Lim) (look:Look) (c:Nat):Option ME:=bif refuses no c then none else look c
def Chunk.row:Chunk->Bool
 | .cells _=>false
 | _=>true
def lkK (r:Bool) (no:Lim) (look:Look) (c:Nat):Option ME:=
 match lkN no look c with
 | some (own,L,ch)=>bif ch.row==r then some (own,L,ch)else none
 | none=>none
def inR:IntKind->Int->Prop
 | .i64,n=>-9223372036854775808<=n/\n<=9223372036854775807
 | .i32,n=>-2147483648<=n/\n<=2147483647
 | .i16,n=>-32768<=n/\n<=32767
 | .i8,n=>-128<=n/\n<=127
 | .u64,n=>0<=n/\n<=18446744073709551615
 | .u32,n=>0<=n/\n<=4294967295
 | .u16,n=>0<=n/\n<=65535
 | .u8,n=>0<=n/\n<=255
def pickSV (g:Bool):SV->SV->Option SV
 | .bool x,.bool y=>some (.bool (bif g then x else y))
 | .int k x,.int k' y=>bif decide (k=k')then some (.int k (bif g then x else y))else none
 | _,_=>none
def cellsOf:SV->Option (List SV)
 | .agg cs=>some cs
 | .tup _=>none
 | .val _=>none
 | v=>some [v]
def size1:SV->Bool
 | .agg _=>false
 | .tup _=>false
 | .val _=>false
 | _=>true
def bitop (op:BinOp) (k:IntKind) (x y:Int):Int:=
 let a:=BitVec.ofInt k.bits x
 let b:=BitVec.ofInt k.bits y
 k.wrap (match op with | .and=>a &&& b | .or=>a ||| b | .xor=>a ^^^ b | _=>a &&& ~~~b).toNat
def binInt (w:Nat) (k:IntKind) (a b:Int):BinOp->Option (Prop×SV)
 | .add=>match w with | 0=>some (inR k (a+b),.int k (a+b)) | _=>some (True,.int k (k.wrap (a+b)))
 | .sub=>match w with | 0=>some (inR k (a-b),.int k (a-b)) | _=>some (True,.int k (k.wrap (a-b)))
 | .mul=>match w with | 0=>some (inR k (a*b),.int k (a*b)) | _=>some (True,.int k (k.wrap (a*b)))
 | .quo=>match w with | 0=>some (0<=a/\0<b/\inR k (a / b),.int k (a / b)) | _=>some (b≠0/\inR k (a.tdiv b),.int k (a.tdiv b))
 | .rem=>match w with | 0=>some (0<=a/\0<b,.int k (a % b)) | _=>some (b≠0,.int k (a.tmod b))
 | .and=>some (True,.int k (bitop .and k a b))
 | .or=>some (True,.int k (bitop .or k a b))
 | .xor=>some (True,.int k (bitop .xor k a b))
 | .andNot=>some (True,.int k (bitop .andNot k a b))
 | .eql=>some (True,.bool (decide (a=b)))
 | .neq=>some (True,.bool (!decide (a=b)))
 | .lss=>some (True,.bool (decide (a<b)))
 | .leq=>some (True,.bool (decide (a<=b)))
 | .gtr=>some (True,.bool (decide (b<a)))
 | .geq=>some (True,.bool (decide (b<=a)))
 | _=>none
def shInt (w:Nat) (k:IntKind) (a b:Int):BinOp->Option (Prop×SV)
 | .shl=>match w with | 0=>some (0<=b/\b<=k.bits/\inR k (a*2^b.toNat),.int k (a*2^b.toNat)) | _=>some (0<=b/\b<=k.bits,.int k (k.wrap (a*2^b.toNat)))
 | .shr=>some (0<=b/\b<=k.bits,.int k (a / 2^b.toNat))
 | _=>none
def binSV (w:Nat) (op:BinOp):SV->SV->Option (Prop×SV)
 | .int k a,.int k' b=>match op with
  | .shl=>shInt w k a b .shl
  | .shr=>shInt w k a b .shr
  | op=>bif decide (k=k')then binInt w k a b op else none
 | _,_=>none
def binBSV (op:BinOp):SV->SV->Option (Prop×SV)
 | .bool a,.bool b=>match op with
  | .eql=>some (True,.bool (a==b))
  | .neq=>some (True,.bool (a != b))
  | _=>none
 | _,_=>none
def binSSV (op:BinOp):SV->SV->Option (Prop×SV)
 | .sl _ L _ _ _,.sl _ M _ _ _=>match op with
  | .eql=>some (M.nil=true,.bool L.nil)
  | .neq=>some (M.nil=true,.bool (!L.nil))
  | _=>none
 | _,_=>none
def eqL:List Bool->List SV->List SV->Option Bool
 | [],[],[]=>some true
 | true::ks,.int k a::us,.int k' b::vs=>bif decide (k=k')then (match eqL ks us vs with | some r=>some (decide (a=b)&&r) | none=>none)else none
 | false::ks,.bool a::us,.bool b::vs=>match eqL ks us vs with | some r=>some ((a==b)&&r) | none=>none
 | _,_,_=>none
def eqA (op:BinOp):Option Bool->Option (Prop×SV)
 | none=>none
 | some r=>match op with
  | .eql=>some (True,.bool r)
  | .neq=>some (True,.bool (!r))
  | _=>none
def binASV (op:BinOp) (ks:List Bool):SV->SV->Option (Prop×SV)
 | .agg us,.agg vs=>eqA op (eqL ks us vs)
 | _,_=>none
def nilP:SV:=.val (.pointer none)
def binNSV (op:BinOp):SV->SV->Option (Prop×SV)
 | .ptr _ _ _ _ _,.val (.pointer none)=>match op with
  | .eql=>some (True,.bool false)
  | .neq=>some (True,.bool true)
  | _=>none
 | .val (.pointer none),.val (.pointer none)=>match op with
  | .eql=>some (True,.bool true)
  | .neq=>some (True,.bool false)
  | _=>none
 | _,_=>none
def upTo (x:Option (Prop×SV)):R:=match x with | none=>none | some (p,v)=>some (p,v,[])
def negSV (w:Nat):SV->Option (Prop×SV)
 | .int k a=>match w with | 0=>some (inR k (-a),.int k (-a)) | _=>some (True,.int k (k.wrap (-a)))
 | _=>none
def notSV:SV->Option (Prop×SV)
 | .bool b=>some (True,.bool (!b))
 | _=>none
def cvtSV (w:Nat) (k:IntKind):SV->Option (Prop×SV)
 | .int _ a=>match w with | 0=>some (inR k a,.int k a) | _=>some (True,.int k (k.wrap a))
 | _=>none
def getL:List SV->Nat->Option SV
 | [],_=>none
 | v::_,0=>some v
 | _::l,n+1=>getL l n
def setL:List SV->Nat->SV->List SV
 | [],_,_=>[]
 | _::l,0,v=>v::l
 | a::l,n+1,v=>a::setL l n v
def takeL:List SV->Nat->Option (List SV)
 | _,0=>some []
 | [],_+1=>none
 | v::l,n+1=>match takeL l n with | none=>none | some r=>some (v::r)
def dropL:List SV->Nat->List SV
 | l,0=>l
 | [],_+1=>[]
 | _::l,n+1=>dropL l n
def setsL:List SV->Nat->List SV->List SV
 | l,_,[]=>l
 | l,n,v::vs=>setsL (setL l n v) (n+1) vs
def intsV (k:IntKind) (xs:List Int):Nat->List SV
 | 0=>[]
 | n+1=>intsV k xs n++[.int k (xs.getD n 0)]
def intsZ:Nat->List Int
 | 0=>[]
 | n+1=>0::intsZ n
def getR:List RC->Nat->RC
 | [],_=>.int .i64 0
 | v::_,0=>v
 | _::l,n+1=>getR l n
def setR:List RC->Nat->RC->List RC
 | [],_,_=>[]
 | _::l,0,v=>v::l
 | a::l,n+1,v=>a::setR l n v
def takeR:List RC->Nat->List RC
 | _,0=>[]
 | [],_+1=>[]
 | v::l,n+1=>v::takeR l n
def dropR:List RC->Nat->List RC
 | l,0=>l
 | [],_+1=>[]
 | _::l,n+1=>dropR l n
def viewsV:Nat->List RC->List SV
 | _,[]=>[]
 | k,.row L _ xs::l=>.sl k L 1 0 xs.length::viewsV (k+1) l
 | k,.int kk n::l=>.int kk n::viewsV k l
 | k,.bool b::l=>.bool b::viewsV k l
def viewsU (fr:Bool):Nat->List RC->Upd
 | _,[]=>[]
 | k,.row L kk xs::l=>(k,some (bif fr then .rof else .ro,L,.ints kk xs))::viewsU fr (k+1) l
 | k,.int _ _::l=>viewsU fr k l
 | k,.bool _::l=>viewsU fr k l
def viewsN:List RC->Nat
 | []=>0
 | .row _ _ _::l=>viewsN l+1
 | .int _ _::l=>viewsN l
 | .bool _::l=>viewsN l
def recAt (i:Int) (z:List RC) (l:List (List RC)):List RC:=l.getD i.toNat z
def ldRec (n:Option Nat) (k nv:Nat) (L L':Loc) (i:Int) (s f s':Nat) (fr:Bool) (z:List RC) (l:List (List RC)):R:=
 match n with
 | none=>bif decide (s=s')&&decide (f<s)&&decide (viewsN [getR (recAt i z l) f]<=nv)then
   (match viewsV k [getR (recAt i z l) f]with
    | [v]=>some (L'=L/\0<=i/\i<l.length,v,viewsU fr k [getR (recAt i z l) f])
    | _=>none)else none
 | some n=>bif decide (s=s')&&decide (f+n<=s)then
   (match (bif decide (n=s)then recAt i z l else takeR (dropR (recAt i z l) f) n)with
    | rs=>bif decide (viewsN rs<=nv)then some (L'=L/\0<=i/\i<l.length,.agg (viewsV k rs),viewsU fr k rs)else none)else none
def Loc.fr (L:Loc) (lo:Int):Loc:=⟨L.b,L.o+lo.toNat,L.nil,L.cap-lo.toNat⟩
def sub (xs:List Int) (lo n:Int):List Int:=(xs.drop lo.toNat).take n.toNat
def demote (c:Nat) (L:Loc) (ch:Chunk):Own->Upd
 | .mine=>[(c,some (.rof,L,ch))]
 | _=>[]
def showOk:Own->Option Bool
 | .ro=>some false
 | .rof=>some true
 | .mine=>some true
 | _=>none
def rcOf (look:Look) (nk:IntKind):SV->Option (Prop×RC×Upd×Bool)
 | .int k n=>some (True,.int k n,[],true)
 | .bool b=>some (True,.bool b,[],true)
 | .sl c L s lo n=>bif c==4096 then some (L=nilLoc/\lo=0/\n=0,.row nilLoc nk [],[],true)else (match look c with
  | some (own,L',.ints k xs)=>match showOk own with
   | some fr=>bif decide (s=1)then some (L'=L/\0<=lo/\0<=n/\lo+n<=xs.length,.row (L.fr lo) k (sub xs lo n),demote c L' (.ints k xs) own,fr)else none
   | none=>none
  | _=>none)
 | _=>none
def rcsOf (look:Look) (nk:IntKind):List SV->Option (Prop×List RC×Upd×Bool)
 | []=>some (True,[],[],true)
 | v::vs=>match rcOf look nk v,rcsOf look nk vs with
  | some (p,r,u,f),some (q,rs,us,g)=>some (p/\q,r::rs,u++us,f&&g)
  | _,_=>none
def recOf (look:Look) (nk:IntKind) (s:Nat) (v:SV):Option (Prop×List RC×Upd×Bool):=
 match v with
 | .agg cs=>bif decide (cs.length=s)then rcsOf look nk cs else none
 | v=>bif decide (s=1)then rcsOf look nk [v]else none
def recsOf (look:Look) (nk:IntKind) (s:Nat):List SV->Option (Prop×List (List RC)×Upd×Bool)
 | []=>some (True,[],[],true)
 | v::vs=>match recOf look nk s v,recsOf look nk s vs with
  | some (p,r,u,f),some (q,rs,us,g)=>some (p/\q,r::rs,u++us,f&&g)
  | _,_=>none
def rdc (i:Int) (s f:Nat):Chunk->Option (Prop×SV)
 | .cells cs=>match getL cs (i.toNat*s+f)with | none=>none | some v=>some (True,v)
 | .ints k xs=>match s,f with | 1,0=>some (0<=i/\i<xs.length,.int k (rd xs i)) | _,_=>none
 | .bools xs=>match s,f with | 1,0=>some (0<=i/\i<xs.length,.bool (rdB xs i)) | _,_=>none
 | .recs _ _ _ _=>none
def rdn (n:Nat) (i:Int) (s f:Nat):Chunk->Option (Prop×SV)
 | .cells cs=>match takeL (dropL cs (i.toNat*s+f)) n with | none=>none | some l=>some (True,.agg l)
 | .ints k xs=>match s,f with | 0,0=>some (xs.length=n,.agg (intsV k xs n)) | _,_=>none
 | .bools _=>none
 | .recs _ _ _ _=>none
def asInts (k:IntKind):List SV->Option (List Int)
 | []=>some []
 | .int k' n::l=>bif decide (k=k')then (match asInts k l with | none=>none | some r=>some (n::r))else none
 | _=>none
def asBools:List SV->Option (List Bool)
 | []=>some []
 | .bool b::l=>match asBools l with | none=>none | some r=>some (b::r)
 | _=>none
def wrc (i:Int) (s f:Nat) (v:SV):Chunk->Option (Prop×Chunk)
 | .cells cs=>match getL cs (i.toNat*s+f)with | none=>none | some _=>bif size1 v then some (True,.cells (setL cs (i.toNat*s+f) v))else none
 | .ints k xs=>match s,f,v with
  | 1,0,.int k' n=>bif decide (k=k')then some (0<=i/\i<xs.length,.ints k (xs.set i.toNat n))else none
  | _,_,_=>none
 | .bools xs=>match s,f,v with
  | 1,0,.bool b=>some (0<=i/\i<xs.length,.bools (xs.set i.toNat b))
  | _,_,_=>none
 | .recs _ _ _ _=>none
def wrn (i:Int) (s f:Nat) (vs:List SV):Chunk->Option (Prop×Chunk)
 | .cells cs=>match takeL (dropL cs (i.toNat*s+f)) vs.length with | none=>none | some _=>bif vs.all size1 then some (True,.cells (setsL cs (i.toNat*s+f) vs))else none
 | .ints k xs=>match s,f with
  | 0,0=>match asInts k vs with | none=>none | some ys=>some (ys.length=xs.length,.ints k ys)
  | _,_=>none
 | _=>none
def stR (look:Look) (nk:IntKind) (n:Nat) (i:Int) (s f s':Nat) (z:List RC) (l:List (List RC)) (v:SV):Option (Prop×List (List RC)×Upd×Bool):=
 bif decide (s=s')&&decide (f+n<=s)then (match recOf look nk n v with
  | none=>none
  | some (p,r,u,fr)=>bif decide (n=s)then some (p/\0<=i/\i<l.length,l.set i.toNat r,u,fr)
   else (match r with
    | [c]=>some (p/\0<=i/\i<l.length,l.set i.toNat (setR (recAt i z l) f c),u,fr)
    | _=>none))else none
def fillL:List SV->List (Nat×Nat×SV)->Option (List SV)
 | z,[]=>some z
 | z,(off,size,v)::ps=>match cellsOf v with
  | none=>none
  | some cs=>bif decide (cs.length=size/\off+size<=z.length)then fillL (setsL z off cs) ps else none
def onps (sl:List Ent):List (Nat×Nat×Opd)->(List (Nat×Nat×SV)->R)->R
 | [],f=>f []
 | (o,s,a)::as,f=>o1 sl a fun v=>onps sl as fun vs=>f ((o,s,v)::vs)
def rowOf:List SV->Option Chunk
 | .bool b::l=>match asBools (.bool b::l)with | none=>none | some r=>some (.bools r)
 | .int k n::l=>match asInts k (.int k n::l)with | none=>none | some r=>some (.ints k r)
 | []=>some (.ints .i64 [])
 | _=>none
def rowRep (z:SV) (n:Int):Option Chunk:=
 match z with
 | .int k a=>some (.ints k (List.replicate n.toNat a))
 | .bool b=>some (.bools (List.replicate n.toNat b))
 | _=>none
def intOfs:List SV->Option (IntKind×List Int)
 | .int k n::l=>match asInts k (.int k n::l)with | none=>none | some r=>some (k,r)
 | _=>none
def appCh:Chunk->Chunk->Option Chunk
 | .ints k xs,.ints k' ys=>bif decide (k=k')then some (.ints k (xs++ys))else (match xs with | []=>some (.ints k' ys) | _=>none)
 | .ints _ [],.bools ys=>some (.bools ys)
 | .bools xs,.bools ys=>some (.bools (xs++ys))
 | .recs s fr z l,.recs s' fr' _ l'=>bif decide (s=s')then some (.recs s (fr&&fr') z (l++l'))else none
 | _,_=>none
def chLen:Chunk->Option Int
 | .ints _ xs=>some xs.length
 | .bools xs=>some xs.length
 | .recs _ _ _ l=>some l.length
 | .cells _=>none
def chS:Chunk->Nat
 | .recs s _ _ _=>s
 | _=>1
def appO:Own->Own
 | .mine=>.mine
 | _=>.got
def appB (eb:Nat):Int:=bif decide (eb=1)then 140737488355328 else 1000000000000
def appC (es c:Nat) (L M:Loc) (lo n:Int) (M':Loc) (lo' m:Int):Chunk->Option (Prop×Int×Option (Nat×Own)×Chunk)
 | .cells cs=>bif c==4096&&(!(decide (es=1))&&(decide (cs.length=es)&&cs.all size1))then some (L.nil=true/\lo=0/\n=0/\M'=M/\lo'=0/\m=1,m,none,.cells cs)else none
 | _=>none
def appF (es eb:Nat) (no:Lim) (look:Look) (u v:SV):Option (Prop×Int×Option (Nat×Own)×Chunk):=
 match u with
 | .sl c L _ lo n=>match v with
  | .sl d M _ lo' m=>match lkN no look d with
   | some (_,M',ch')=>match chLen ch' with
    | some m'=>bif decide (chS ch'=es)then (bif c==4096 then some (L.nil=true/\lo=0/\n=0/\M'=M/\lo'=0/\m=m'/\m<=appB eb,m,none,ch')else (match lkN no look c with
     | some (own,L',ch)=>match chLen ch,appCh ch ch',own.wr with
      | some n',some r,true=>bif c==d||!(decide (chS ch=es))then none else some (L'=L/\M'=M/\lo=0/\lo'=0/\n=n'/\m=m'/\n+m<=appB eb,n+m,some (c,appO own),r)
      | _,_,_=>none
     | _=>none))else none
    | none=>appC es c L M lo n M' lo' m ch'
   | none=>none
  | _=>none
 | _=>none
def over (xs:List Int) (lo:Int) (ys:List Int):List Int:=xs.take lo.toNat++(ys++xs.drop (lo.toNat+ys.length))
def noRows:List RC->Bool
 | []=>true
 | .row _ _ _::_=>false
 | _::l=>noRows l
def slcHi (len:Int):Option SV->Option Int
 | none=>some len
 | some (.int _ h)=>some h
 | _=>none
def slcLo:Option SV->Option Int
 | none=>some 0
 | some (.int _ l)=>some l
 | _=>none
def o0 (sl:List Ent) (a:Option Opd) (f:Option SV->R):R:=
 match a with
 | none=>f none
 | some a=>o1 sl a fun v=>f (some v)
def lit0 (i:Int):Bool:=match i with | .ofNat 0=>true | _=>false
def updIn (k n:Nat):Upd->Bool
 | []=>true
 | (c,_)::u=>decide (k<=c)&&decide (c<k+n)&&updIn k n u
def spN (sp:Sp) (no:Lim) (x:Nat->Loc) (look:Look) (n:Option Nat) (k:Nat) (f:FuncId) (vs:List SV):R:=
 match n with
 | none=>sp f vs look x k
 | some n=>match sp f vs (lkN no look) x k with
  | some (p,v,u)=>bif updIn k n u then some (p,v,u)else none
  | none=>none
def strB (xs:List Int):ByteArray:=xs.foldl (fun r n=>r.push (UInt8.ofNat n.toNat)) ByteArray.empty
def strV (s:Nat) (L:Loc) (lo n:Int):Option ME->R
 | some (_,L',.ints .u8 xs)=>bif decide (s=1)then some (L'=L/\0<=lo/\0<=n/\lo+n<=xs.length,.val (.string (strB (sub xs lo n))),[])else none
 | _=>none
def binTSV (op:BinOp):SV->SV->Option (Prop×SV)
 | .val (.string a),.val (.string b)=>match op with
  | .eql=>some (True,.bool (a.toList==b.toList))
  | .neq=>some (True,.bool (!(a.toList==b.toList)))
  | _=>none
 | _,_=>none
def copyF (c:Nat) (L M:Loc) (lo n lo' mm:Int):Option ME->Option ME->R
 | some (own,L',.ints k xs),some (_,M',.ints k' ys)=>bif own.wr&&decide (k=k')then some (L'=L/\M'=M/\0<=lo/\0<=n/\lo+n<=xs.length/\0<=lo'/\0<=mm/\lo'+mm<=ys.length,.int .i64 (min mm n),[(c,some (own,L',.ints k (over xs lo (sub ys lo' (min mm n)))))])else none
 | _,_=>none
def brecC (x:Nat->Loc) (k s:Nat):List SV->R
 | [.agg cs]=>bif decide (cs.length=s)&&cs.all size1 then some (True,.sl k (x k) s 0 1,[(k,some (.mine,x k,.cells cs))])else none
 | _=>none
section 
variable (sp:Sp) (spP:SpP) (no:Lim) (x:Nat->Loc) (sl:List Ent) (look:Look)
def stepF:IROp->R
 | .mov a=>o1 sl a fun v=>some (True,v,[])
 | .pick c a b=>match en sl c,en sl a,en sl b with
  | some (cc,.bool g),some (ca,va),some (cb,vb)=>match pickSV g va vb with
   | none=>none
   | some v=>some (cc=true/\(g=true->ca=true)/\(g=false->cb=true),v,[])
  | _,_,_=>none
 | .box k a=>o1 sl a fun v=>match cellsOf v with
  | none=>none
  | some cs=>some (True,.ptr k (x k) 0 0 0,[(k,some (.mine,x k,.cells cs))])
 | .alloc k z=>some (True,.ptr k (x k) 0 0 0,[(k,some (.mine,x k,.cells z))])
 | .allocI k ik n=>some (True,.ptr k ⟨(x k).b,(x k).o,false,n⟩ 0 0 0,[(k,some (.mine,⟨(x k).b,(x k).o,false,n⟩,.ints ik (intsZ n)))])
 | .build z ps=>onps sl ps fun vs=>match fillL z vs with
  | none=>none
  | some cs=>some (True,.agg cs,[])
 | .bslice k ps=>ons sl ps fun vs=>match rowOf vs with
  | none=>none
  | some ch=>some (True,.sl k (x k) 1 0 vs.length,[(k,some (.mine,x k,ch))])
 | .brecs k s nk ps=>ons sl ps fun vs=>bif decide (nk=.u64)then brecC x k s vs else match recsOf (lkN no look) nk s vs with
  | none=>none
  | some (p,l,u,fr)=>some (p,.sl k (x k) s 0 vs.length,u++[(k,some (.mine,x k,.recs s fr [] l))])
 | .ld r n k nv a=>o1 sl a fun v=>match v with
  | .ptr c L i s f=>match lkK r no look c with
   | some (_,L',.recs s' fr z l)=>ldRec n k nv L L' i s f s' fr z l
   | some (_,L',ch)=>match (match n with | none=>rdc i s f ch | some n=>rdn n i s f ch)with
    | none=>none
    | some (p,v)=>some (L'=L/\p,v,[])
   | none=>none
  | _=>none
 | .sto r n nk a b=>o1 sl a fun v=>o1 sl b fun u=>match v with
  | .ptr c L i s f=>match lkK r no look c with
   | some (own,L',ch)=>match own.wr with
    | false=>none
    | true=>match ch with
     | .recs s' fr z l=>match stR (lkN no look) nk n i s f s' z l u with
      | none=>none
      | some (p,l',d,fr')=>some (L'=L/\p,.val undef,d++[(c,some (own,L',.recs s' (fr&&fr') z l'))])
     | ch=>match (match u with
      | .agg us=>bif decide (us.length=n)then wrn i s f us ch else none
      | u=>bif decide (n=1)then wrc i s f u ch else none)with
     | none=>none
     | some (p,ch')=>some (L'=L/\p,.val undef,[(c,some (own,L',ch'))])
   | none=>none
  | _=>none
 | .nilc a=>o1 sl a fun v=>match v with
  | .ptr c L i s f=>some (True,.ptr c L i s f,[])
  | _=>none
 | .bin w op a b=>o1 sl a fun u=>o1 sl b fun v=>upTo (binSV w op u v)
 | .binB op a b=>o1 sl a fun u=>o1 sl b fun v=>upTo (binBSV op u v)
 | .binS op a b=>o1 sl a fun u=>o1 sl b fun v=>upTo (binSSV op u v)
 | .binA op ks a b=>o1 sl a fun u=>o1 sl b fun v=>upTo (binASV op ks u v)
 | .binN op a b=>o1 sl a fun u=>o1 sl b fun v=>upTo (binNSV op u v)
 | .binT op a b=>o1 sl a fun u=>o1 sl b fun v=>upTo (binTSV op u v)
 | .str a=>o1 sl a fun v=>match v with
  | .sl c L s lo n=>strV s L lo n (lkN no look c)
  | _=>none
 | .neg w a=>o1 sl a fun v=>upTo (negSV w v)
 | .not a=>o1 sl a fun v=>upTo (notSV v)
 | .cvt w k a=>o1 sl a fun v=>upTo (cvtSV w k v)
 | .mkf f cs=>ons sl cs fun vs=>some (True,.fn f vs,[])
 | .mks k z bytes l c=>o1 sl l fun u=>o1 sl c fun v=>match u,v with
  | .int _ n,.int _ m=>match rowRep z n with
   | none=>none
   | some ch=>some (0<=n/\n<=m/\m<=1000000000000,.sl k (x k) 1 0 n,[(k,some (.mine,x k,ch))])
  | _,_=>none
 | .mksR k z bytes l c=>o1 sl l fun u=>o1 sl c fun v=>match u,v with
  | .int _ n,.int _ m=>some (0<=n/\n<=m/\m<=1000000000,.sl k (x k) z.length 0 n,[(k,some (.mine,x k,.recs z.length true z (List.replicate n.toNat z)))])
  | _,_=>none
 | .slc a s lo hi=>o1 sl a fun v=>o0 sl lo fun l=>o0 sl hi fun h=>match v with
  | .sl c L s' lo0 len=>match slcLo l,slcHi len h with
   | some l,some h=>bif decide (s=s')then some (0<=l/\l<=h/\h<=len,.sl c L s (lo0+l) (h-l),[])else none
   | _,_=>none
  | _=>none
 | .slcA a n s=>o1 sl a fun v=>match v with
  | .ptr c L i 0 0=>some (L.nil=false/\L.cap=n,.sl c L s 0 n,[])
  | _=>none
 | .fld a off=>o1 sl a fun v=>match v with
  | .ptr c L i s f=>some (True,.ptr c L i s (f+off),[])
  | _=>none
 | .fldv a off n=>o1 sl a fun v=>match v with
  | .agg cs=>match n with
   | none=>match getL cs off with | none=>none | some v=>some (True,v,[])
   | some n=>match takeL (dropL cs off) n with | none=>none | some l=>some (True,.agg l,[])
  | _=>none
 | .idxS a b s=>o1 sl a fun u=>o1 sl b fun v=>match u,v with
  | .sl c L s' lo len,.int _ i=>bif decide (s=s')then some (0<=i/\i<len,.ptr c L (lo+i) s 0,[])else none
  | _,_=>none
 | .idxP a b len s=>o1 sl a fun u=>o1 sl b fun v=>match u,v with
  | .ptr c L i s' f,.int _ j=>bif s'==0 then some (0<=j/\j<len,.ptr c L j s f,[])else some (0<=j/\j<len,.ptr c L i s' (f+j.toNat*s),[])
  | _,_=>none
 | .idxV a b len=>o1 sl a fun u=>o1 sl b fun v=>match u,v with
  | .agg cs,.int _ j=>match intOfs cs with
   | some (k,xs)=>bif decide (xs.length=len)then some (0<=j/\j<len,.int k (rd xs j),[])else none
   | none=>none
  | _,_=>none
 | .tabI xs b=>o1 sl b fun v=>match v with
  | .int _ j=>some (0<=j/\j<xs.length,.int .u8 (rd xs j),[])
  | _=>none
 | .ext a i=>o1 sl a fun v=>match v with
  | .tup cs=>match getL cs i with | none=>none | some v=>some (True,v,[])
  | _=>none
 | .len a=>o1 sl a fun v=>match v with
  | .sl _ _ _ _ n=>some (True,.int .i64 n,[])
  | .int _ _=>some (False,.int .i64 0,[])
  | _=>none
 | .lenK n=>some (True,.int .i64 n,[])
 | .app k es bytes a b=>o1 sl a fun u=>o1 sl b fun v=>match appF es bytes no look u v with
  | none=>none
  | some (p,n,none,ch)=>some (p,.sl k (x k) es 0 n,[(k,some (.mine,x k,ch))])
  | some (p,n,some (c,own),ch)=>some (p,.sl k (x k) es 0 n,[(c,none),(k,some (own,x k,ch))])
 | .copy a b=>o1 sl a fun u=>o1 sl b fun v=>match u,v with
  | .sl c L s lo n,.sl d M s' lo' m=>bif decide (s=1)&&decide (s'=1)then copyF c L M lo n lo' m (lkN no look c) (lkN no look d)else none
  | _,_=>none
 | .clear z a=>o1 sl a fun u=>match u with
  | .sl c L s lo n=>match lkN no look c with
   | some (own,L',.recs s' fr z' l)=>match own.wr with
    | false=>none
    | true=>bif decide (s=s')&&noRows z&&decide (z.length=s)then some (L'=L/\0<=lo/\0<=n/\lo+n=l.length,.tup [],[(c,some (own,L',.recs s' fr z' (l.take lo.toNat++List.replicate n.toNat z)))])else none
   | _=>none
  | _=>none
 | .mn a b=>o1 sl a fun u=>o1 sl b fun v=>match u,v with
  | .int k n,.int _ m=>some (True,.int k (min n m),[])
  | _,_=>none
 | .mx a b=>o1 sl a fun u=>o1 sl b fun v=>match u,v with
  | .int k n,.int _ m=>some (True,.int k (max n m),[])
  | _,_=>none
 | .mn3 a b c=>o1 sl a fun u=>o1 sl b fun v=>o1 sl c fun w=>match u,v,w with
  | .int k n,.int _ m,.int _ o=>some (True,.int k (min (min n m) o),[])
  | _,_,_=>none
 | .mx3 a b c=>o1 sl a fun u=>o1 sl b fun v=>o1 sl c fun w=>match u,v,w with
  | .int k n,.int _ m,.int _ o=>some (True,.int k (max (max n m) o),[])
  | _,_,_=>none
 | .callp f as=>ons sl as fun vs=>upTo (spP f vs)
 | .call n k f as=>ons sl as fun vs=>spN sp no x look n k f vs
 | .callv n k g as=>o1 sl g fun v=>ons sl as fun vs=>match v with
  | .fn f cs=>spN sp no x look n k f (vs++cs)
  | _=>none
end
def apU (m:Mem):Upd->Mem
 | []=>m
 | (c,e)::u=>apU (st m c e) u
def putE (sl:List Ent) (d:Option Nat) (e:Ent):List Ent:=
 match d with
 | none=>sl
 | some d=>st sl d e
def IROp.makes:IROp->Bool
 | .box .. | .alloc .. | .allocI .. | .bslice .. | .brecs .. | .mks .. | .mksR .. | .app .. | .call .. | .callv ..=>true
 | _=>false
def guardOf (sl:List Ent):Option (Nat×Bool)->Option Bool
 | none=>some true
 | some (g,pol)=>match lk sl g with
  | some (c,.bool b)=>some (bif pol then (c&&b)else (c&&!b))
  | _=>none
def stepK (sp:Sp) (spP:SpP) (o:IRO) (g:Bool) (x:Nat->Loc) (sl:List Ent) (m:Mem) (K:List Ent->Mem->Prop):Prop:=
 match stepF sp spP o.no x sl (lk m) o.op with
 | none=>False
 | some (p,v,u)=>(g=true->p)/\(g=true∨u=[])/\K (putE sl o.dst (some (g,v))) (apU m u)
def evO (sp:Sp) (spP:SpP) (o:IRO) (sl:List Ent) (m:Mem) (K:List Ent->Mem->Prop):Prop:=
 match guardOf sl o.guard with
 | none=>False
 | some g=>bif o.op.makes then ∀ x,stepK sp spP o g x sl m K else stepK sp spP o g (fun _=>default) sl m K
def evR (sp:Sp) (spP:SpP):List IRO->List Ent->Mem->(List Ent->Mem->Prop)->Prop
 | [],sl,m,K=>K sl m
 | o::os,sl,m,K=>evO sp spP o sl m fun sl m=>evR sp spP os sl m K
end Go.Proofs.YtaofjnkpkocgjaaGreat.Xf
end
section 
namespace Go.Proofs.YtaofjnkpkocgjaaGreat.Xf
inductive TK where
 | int (k:IntKind)
 | bool
 | slice (e:TypeId)
 | struct (fs:List (Nat×TypeId))
 | array (n:Nat) (e:TypeId)
 | pointer
 | string
 | other
 deriving Inhabited
structure TT where
 size:Nat
 bytes:Nat
 zero:List SV
 kind:TK
 cmp:Option (List Bool):=none
 deriving Inhabited
def TT.agg (t:TT):Bool:=match t.kind with | .struct _=>true | .array _ _=>true | _=>false
def TKOk (d:TypeDesc):TK->Prop
 | .int k=>d=.int k
 | .bool=>d=.bool
 | .slice e=>d=.slice e
 | .struct fs=>∃ F:Array Field,d=.struct F/\F.toList.map (fun f=>(f.offset,f.type))=fs
 | .array n e=>d=.array n e
 | .pointer=>∃ e,d=.pointer e
 | .string=>d=.string
 | .other=>(match d with | .struct _=>false | .array _ _=>false | _=>true)=true
def cmpB (P:Program) (t:TypeId) (ks:List Bool):Bool:=!P.eqGuardType P.depth t&&(match P.underlying t with
 | some (.struct F)=>!P.stoodInHeld t&&cmpF P 0 ks F.toList
 | some (.array m e)=>decide (m=ks.length)&&!ks.isEmpty&&ks.all fun k=>cmp1 P k e
 | _=>false)
where
 cmp1 (P:Program) (k:Bool) (t:TypeId):Bool:=decide (P.cellsOf t=1)&&P.plainKey t&&(match P.underlying t with | some .bool=>!k | some (.int _)=>k | _=>false)
 cmpF (P:Program):Nat->List Bool->List Field->Bool
  | _,[],[]=>true
    | n, k :: ks, f :: fs => decide (f.offset = n) && f.name != "_" && cmp1 P k f.type && cmpF P (n + 1) ks fs
  | _,_,_=>false
structure TtOk (P:Program) (t:TypeId) (tt:TT):Prop where
 info:∃ i,P.info? t=some i/\i.size=tt.size/\i.bytes=tt.bytes/\∃ z,i.zero=some z/\Dens tt.zero z.cells.toList/\(tt.agg=false->z.cells=#[z])
 desc:∃ d,P.underlying t=some d/\TKOk d tt.kind
 cmp:∀ ks,tt.cmp=some ks->cmpB P t ks=true
 len:tt.zero.length=tt.size
abbrev Tab:=TypeId->Option TT
def nilSV:SV:=.sl 4096 nilLoc 1 0 0
def constSV:Value->Option SV
 | .int k n=>some (.int k n)
 | .bool b=>some (.bool b)
 | .slice none 0 0=>some nilSV
 | .pointer none=>some nilP
 | .nilFunc=>some (.val .nilFunc)
 | _=>none
def opd:Operand->Option Opd
 | .tmp t=>some (.t t)
 | .const v=>match constSV v with | some s=>some (.k s) | none=>none
 | .func f=>some (.k (.fn f []))
 | .global _=>none
theorem den_nil:Den nilSV (.slice none 0 0):=by
 simp[nilSV,Den,nilLoc,nilLoc0]
theorem constSV_den {v:Value} {s:SV} (h:constSV v=some s):Den s v:=by
 unfold constSV at h
 split at h<;>first | (cases h;first | rfl | exact den_nil | simp[nilP,Den]) | cases h
def SlotsOk (sl:List Ent) (a:Act):Prop:=∀ n c v,lk sl n=some (c,v)->c=true->Den v (a.tmps.getD n undef)
theorem opd_den {x:Operand} {o:Opd} (h:opd x=some o) {sl:List Ent} {a:Act} (hs:SlotsOk sl a) {c:Bool} {v:SV}
  (he:en sl o=some (c,v)) (hc:c=true):Den v (a.eval x):=by
 cases x with
 | tmp t=>simp only[opd]at h;cases h;exact hs t c v he hc
 | const u=>
  simp only[opd]at h
  split at h
  ·rename_i s hs;cases h;simp only[en]at he;cases he;exact constSV_den hs
  ·cases h
 | func f=>simp only[opd]at h;cases h;simp only[en]at he;cases he;simp[Den,Dens,Act.eval]
 | global g=>simp[opd]at h
theorem o1_some {sl:List Ent} {a:Opd} {f:SV->R} {p:Prop} {r:SV} {u:Upd} (h:o1 sl a f=some (p,r,u)) :
  ∃ c v p',en sl a=some (c,v)/\f v=some (p',r,u)/\p=(c=true/\p'):=by
 unfold o1 at h
 split at h
 ·cases h
 ·rename_i c v hv
  split at h
  ·cases h
  ·rename_i p' r' u' hf
   cases h
   exact⟨c,v,p',hv,hf,rfl⟩
theorem o1_den {sl:List Ent} {a:Opd} {f:SV->R} {p:Prop} {r:SV} {u:Upd} (h:o1 sl a f=some (p,r,u)) (hp:p)
  {x:Operand} (hx:opd x=some a) {A:Act} (hs:SlotsOk sl A):∃ v p',Den v (A.eval x)/\f v=some (p',r,u)/\p':=by
 obtain⟨c,v,p',hv,hf,rfl⟩:=o1_some h
 exact⟨v,p',opd_den hx hs hv hp.1,hf,hp.2⟩
def opds:List Operand->Option (List Opd)
 | []=>some []
 | x::xs=>match opd x,opds xs with | some a,some as=>some (a::as) | _,_=>none
theorem ons_den {sl:List Ent} {A:Act} (hs:SlotsOk sl A):∀ {xs:List Operand} {as:List Opd} {f:List SV->R} {p:Prop} {r:SV} {u:Upd},
  opds xs=some as->ons sl as f=some (p,r,u)->p->∃ vs p',Dens vs (xs.map A.eval)/\f vs=some (p',r,u)/\p'
 | [],as,f,p,r,u,hx,h,hp=>by
  simp only[opds]at hx;cases hx
  exact⟨[],p,by simp[Dens],h,hp⟩
 | x::xs,as,f,p,r,u,hx,h,hp=>by
  simp only[opds]at hx
  split at hx
  ·rename_i a as' ha has
   cases hx
   simp only[ons]at h
   obtain⟨v,p',hd,hf,hp'⟩:=o1_den h hp ha hs
   obtain⟨vs,p'',hds,hf',hp''⟩:=ons_den hs has hf hp'
   exact⟨v::vs,p'',by simp only[List.map_cons,Dens];exact⟨_,_,rfl,hd,hds⟩,hf',hp''⟩
  ·cases hx
def opdps (fs:List (Nat×Nat)):List (Nat×Operand)->Option (List (Nat×Nat×Opd))
 | []=>some []
 | (i,x)::xs=>match fs[i]?,opd x,opdps fs xs with | some (o,s),some a,some as=>some ((o,s,a)::as) | _,_,_=>none
def sizesOf (tab:Tab):List (Nat×TypeId)->Option (List (Nat×Nat))
 | []=>some []
 | (o,t)::l=>match tab t,sizesOf tab l with | some tt,some r=>some ((o,tt.size)::r) | _,_=>none
def inOrder:Nat->List (Nat×Operand)->Option (List Operand)
 | _,[]=>some []
 | n,(i,x)::l=>bif i==n then (match inOrder (n+1) l with | some r=>some (x::r) | none=>none)else none
def IROp.kOf:IROp->Nat
 | .box k _ | .alloc k _ | .allocI k _ _ | .bslice k _ | .brecs k _ _ _ | .mks k _ _ _ _ | .mksR k _ _ _ _ | .app k _ _ _ _ | .call _ k _ _ | .callv _ k _ _ | .ld _ _ k _ _=>k
 | _=>0
def IROp.nOf:IROp->Option Nat
 | .call n _ _ _ | .callv n _ _ _=>n
 | .ld _ _ _ nv _=>some nv
 | _=>some 1
def IROp.rOf:IROp->Bool
 | .ld r _ _ _ _ | .sto r _ _ _ _=>r
 | _=>false
def IROp.nkOf:IROp->IntKind
 | .sto _ _ nk _ _ | .brecs _ _ nk _=>nk
 | .mksR _ (.row _ nk _::_) _ _ _=>nk
 | _=>.i64
def IROp.isR:IROp->Bool
 | .brecs .. | .mksR ..=>true
 | _=>false
def IROp.wOf:IROp->Nat
 | .bin w _ _ _ | .neg w _ | .cvt w _ _=>w
 | _=>0
def opt (x:Option Operand):Option (Option Opd):=
 match x with
 | none=>some none
 | some x=>match opd x with | some a=>some (some a) | none=>none
def zero1 (tt:TT):Option SV:=match tt.zero with | [z]=>some z | _=>none
def zeroR (nk:IntKind):List SV->Option (List RC)
 | []=>some []
 | .int k n::l=>match zeroR nk l with | some r=>some (.int k n::r) | none=>none
 | .bool b::l=>match zeroR nk l with | some r=>some (.bool b::r) | none=>none
 | .sl 4096 ⟨0,0,true,0⟩ 1 0 0::l=>match zeroR nk l with | some r=>some (.row nilLoc nk []::r) | none=>none
 | _=>none
def simpleK (tt:TT):Bool:=match tt.kind with | .int _=>true | .bool=>true | .slice _=>true | _=>false
def zeroI (k:IntKind):Nat->List SV->Bool
 | 0,[]=>true
 | n+1,.int k' 0::l=>decide (k=k')&&zeroI k n l
 | _,_=>false
theorem zeroI_eq {k:IntKind}:∀ {n:Nat} {l:List SV},zeroI k n l=true->l=List.replicate n (.int k 0)
 | 0,[],_=>rfl
 | 0,_::_,h=>by simp[zeroI]at h
 | n+1,[],h=>by simp[zeroI]at h
 | n+1,c::l,h=>by
  unfold zeroI at h
  split at h
  ·rename_i heq;cases heq
  ·rename_i n' k' l' he hl
   cases he;cases hl
   simp only[Bool.and_eq_true,decide_eq_true_eq]at h
   rw[zeroI_eq h.2,<-h.1]
   rfl
  ·cases h
def compO (tab:Tab) (isP:FuncId->Bool) (g:IROp):Op->Option IROp
 | .move x=>(opd x).map .mov
 | .assign x=>(opd x).map .mov
 | .pick c a b=>match opd c,opd a,opd b with | some c,some a,some b=>some (.pick c a b) | _,_,_=>none
 | .box _ x=>(opd x).map (.box g.kOf)
 | .alloc t=>match tab t with
  | some tt=>match tt.kind with
   | .array n e=>match tab e with
    | some te=>match te.kind with | .int k=>bif zeroI k n tt.zero then some (.allocI g.kOf k n)else none | _=>some (.alloc g.kOf tt.zero)
    | none=>none
   | _=>some (.alloc g.kOf tt.zero)
  | none=>none
 | .build t ps=>match tab t with
  | some tt=>match tt.kind with
   | .struct fs=>match sizesOf tab fs with
    | some szs=>match opdps szs ps.toList with | some as=>some (.build tt.zero as) | none=>none
    | none=>none
   | .array n e=>match tab e with
    | some te=>match opdps ((List.range n).map fun i=>(i*te.size,te.size)) ps.toList with | some as=>some (.build tt.zero as) | none=>none
    | none=>none
   | _=>none
  | none=>none
 | .buildSlice t len ps=>match tab t with
  | some tt=>match tt.kind with
   | .slice e=>match tab e with
    | some te=>bif g.isR then (bif ps.size==len&&decide (0<te.size)&&decide (te.size*len<=16777216)then (match inOrder 0 ps.toList with
     | some xs=>match opds xs with | some as=>some (.brecs g.kOf te.size g.nkOf as) | none=>none
     | none=>none)else none)else (bif te.size==1&&ps.size==len&&simpleK te&&decide (len<=16777216)then (match inOrder 0 ps.toList with
     | some xs=>match opds xs with | some as=>some (.bslice g.kOf as) | none=>none
     | none=>none)else none)
    | none=>none
   | _=>none
  | none=>none
 | .load t x=>match tab t,opd x with
  | some tt,some a=>some (.ld g.rOf (bif tt.agg then some tt.size else none) g.kOf (g.nOf.getD 0) a)
  | _,_=>none
 | .store t x y=>match tab t,opd x,opd y with
  | some tt,some a,some b=>some (.sto g.rOf tt.size g.nkOf a b)
  | _,_,_=>none
 | .nilCheck x=>(opd x).map .nilc
 | .binOp op t x y _=>match tab t,opd x,opd y with
  | some tt,some a,some b=>match tt.kind with
   | .int _=>some (.bin g.wOf op a b)
   | .bool=>some (.binB op a b)
   | .slice _=>some (.binS op a b)
   | .struct _=>match tt.cmp with | some ks=>some (.binA op ks a b) | none=>none
   | .array _ _=>match tt.cmp with | some ks=>some (.binA op ks a b) | none=>none
   | .pointer=>some (.binN op a b)
   | .string=>some (.binT op a b)
   | .other=>none
  | _,_,_=>none
 | .unOp op _ x=>match op,opd x with
  | .neg,some a=>some (.neg g.wOf a)
  | .not,some a=>some (.not a)
  | _,_=>none
 | .convert src dst x=>match tab src,tab dst,opd x with
  | some ts,some td,some a=>match ts.kind,td.kind with
   | .int _,.int k=>some (.cvt g.wOf k a)
   | .slice e,.string=>match tab e with
    | some te=>match te.kind with
     | .int .u8=>some (.str a)
     | _=>none
    | none=>none
   | _,_=>none
  | _,_,_=>none
 | .makeFunc fn first cs=>match fn,first.toList,opds cs.toList with
  | .func f,[],some as=>some (.mkf f as)
  | _,_,_=>none
 | .makeSlice t l c=>match tab t with
  | some tt=>match tt.kind with
   | .slice e=>match tab e,opd l,opd c with
    | some te,some a,some b=>bif g.isR then (bif decide (te.bytes<=100000)&&decide (te.size<=1000)&&decide (0<te.size)then (match zeroR g.nkOf te.zero with | some z=>some (.mksR g.kOf z te.bytes a b) | none=>none)else none)else bif te.size==1&&decide (te.bytes<=100)then (match zero1 te with | some z=>some (.mks g.kOf z te.bytes a b) | none=>none)else none
    | _,_,_=>none
   | _=>none
  | none=>none
 | .slice t x lo hi mx=>match tab t,opd x,opt lo,opt hi with
  | some tt,some a,some l,some h=>match tt.kind,mx with
   | .slice e,none=>match tab e with | some te=>some (.slc a te.size l h) | none=>none
   | .array n e,none=>match tab e,lo,hi with | some te,none,none=>some (.slcA a n te.size) | _,_,_=>none
   | _,_=>none
  | _,_,_,_=>none
 | .fieldAddr t x f=>match tab t,opd x with
  | some tt,some a=>match tt.kind with
   | .struct fs=>match fs[f]? with
    | some (off,u)=>match tab u with | some tu=>bif tu.size==0 then none else some (.fld a off) | none=>none
    | none=>none
   | _=>none
  | _,_=>none
 | .field t x f=>match tab t,opd x with
  | some tt,some a=>match tt.kind with
   | .struct fs=>match fs[f]? with
    | some (off,u)=>match tab u with | some tu=>some (.fldv a off (bif tu.agg then some tu.size else none)) | none=>none
    | none=>none
   | _=>none
  | _,_=>none
 | .indexAddr t x i=>match tab t,opd x,opd i with
  | some tt,some a,some b=>match tt.kind with
   | .slice e=>match tab e with | some te=>some (.idxS a b te.size) | none=>none
   | .array n e=>match tab e with | some te=>some (.idxP a b n te.size) | none=>none
   | _=>none
  | _,_,_=>none
 | .index t x i=>match x with
  | .const (.string s)=>match tab t,opd i with
   | some tt,some b=>match tt.kind with
    | .string=>some (.tabI (s.data.toList.map fun c=>(c.toNat:Int)) b)
    | _=>none
   | _,_=>none
  | x=>match tab t,opd x,opd i with
  | some tt,some a,some b=>match tt.kind with
   | .array n e=>match tab e with | some te=>bif te.size==1&&simpleK te then some (.idxV a b n)else none | none=>none
   | _=>none
  | _,_,_=>none
 | .extract x i=>(opd x).map fun a=>.ext a i
 | .call c=>match opds c.args.toList with
  | none=>none
  | some as=>match c.callee with
   | .builtin .len=>match c.argTypes.toList,as with
    | [t],[a]=>match tab t with
     | some tt=>match tt.kind with | .slice _=>some (.len a) | .array n _=>some (.lenK n) | _=>none
     | none=>none
    | _,_=>none
   | .builtin .append=>match c.argTypes.toList,as with
    | [t,u],[a,b]=>match tab t,tab u with
     | some tt,some tu=>match tt.kind,tu.kind with
      | .slice e,.slice e'=>match tab e with
       | some te=>bif decide (0<te.size)&&decide (te.size<=1000)&&decide (te.bytes<=100)&&(simpleK te||te.agg)then some (.app g.kOf te.size te.bytes a b)else none
       | none=>none
      | _,_=>none
     | _,_=>none
    | _,_=>none
   | .builtin .copy=>match c.argTypes.toList,as with
    | [t,u],[a,b]=>match tab t,tab u with
     | some tt,some tu=>match tt.kind,tu.kind with
      | .slice e,.slice e'=>match tab e with
       | some te=>bif te.size==1 then some (.copy a b)else none
       | none=>none
      | _,_=>none
     | _,_=>none
    | _,_=>none
   | .builtin .clear=>match c.argTypes.toList,as with
    | [t],[a]=>match tab t with
     | some tt=>match tt.kind with
      | .slice e=>match tab e with
       | some te=>match zeroR g.nkOf te.zero with | some z=>some (.clear z a) | none=>none
       | none=>none
      | _=>none
     | none=>none
    | _,_=>none
   | .builtin .min=>match as with | [a,b]=>some (.mn a b) | [a,b,c]=>some (.mn3 a b c) | _=>none
   | .builtin .max=>match as with | [a,b]=>some (.mx a b) | [a,b,c]=>some (.mx3 a b c) | _=>none
   | .value (.func f)=>bif isP f then some (.callp f as)else some (.call g.nOf g.kOf f as)
   | .value y=>match opd y with | some a=>some (.callv g.nOf g.kOf a as) | none=>none
   | _=>none
 | _=>none
end Go.Proofs.YtaofjnkpkocgjaaGreat.Xf
end
section 
namespace Go.Proofs.YtaofjnkpkocgjaaGreat.Xf
theorem ad_add (L:Loc) (k n:Nat):(L.ad k).add n=L.ad (k+n):=by
 unfold Addr.add Loc.ad
 by_cases h:n=0
 ·simp[h]
 ·simp[h];omega
theorem info_run {P:Program} {t:TypeId} {i:TypeInfo} (h:P.info? t=some i) (w:World):(typeInfo t).run P w=.ok i w:=by
 simp[typeInfo,h]
theorem size_run {P:Program} {t:TypeId} {i:TypeInfo} (h:P.info? t=some i) (w:World):(sizeOf t).run P w=.ok i.size w:=by
 simp[sizeOf,info_run h,Result.andThen]
theorem zero_run {P:Program} {t:TypeId} {i:TypeInfo} {z:Value} (h:P.info? t=some i) (hz:i.zero=some z) (w:World):(zeroValue t).run P w=.ok z w:=by
 simp[zeroValue,info_run h,hz,Result.andThen]
def Done (P:Program) (sp:Sp) (spP:SpP) (no:Lim) (sl:List Ent) (m:Mem) (b1 w0:World) (W:Addr->Prop) (io:IROp) (r:Result Next):Prop:=
 ∃ x p v u rv w',stepF sp spP no x sl (lk m) io=some (p,v,u)/\p/\(r=.ok (.value rv) w'∨(r=.ok .skip w'/\rv=undef))/\Den v rv/\MemSat w0 W (apU m u) w'/\Kept b1 w0 W w'
section 
variable {P:Program} {sp:Sp} {spP:SpP} {no:Lim} {sl:List Ent} {m:Mem} {b1 w0 w:World} {W:Addr->Prop} {a:Act} {tab:Tab} {isP:FuncId->Bool}
theorem done_of (hm:MemSat w0 W m w) (hk:Kept b1 w0 W w) {io:IROp} {r:Result Next}
  (h:∀ x p v u,stepF sp spP no x sl (lk m) io=some (p,v,u)->p->u=[]/\∃ rv,r=.ok (.value rv) w/\Den v rv)
  (hx:∀ x,∃ p v u,stepF sp spP no x sl (lk m) io=some (p,v,u)/\p):Done P sp spP no sl m b1 w0 W io r:=by
 obtain⟨p,v,u,hs,hp⟩:=hx (fun _=>default)
 obtain⟨rfl,rv,hr,hd⟩:=h _ p v u hs hp
 exact⟨_,p,v,[],rv,w,hs,hp,.inl hr,hd,hm,hk⟩
theorem lkN_some {no:Lim} {look:Look} {c:Nat} {e:ME} (h:lkN no look c=some e):look c=some e:=by
 unfold lkN at h
 cases hb:refuses no c<;>simp[hb]at h
 exact h
theorem lkK_some {r:Bool} {no:Lim} {look:Look} {c:Nat} {e:ME} (h:lkK r no look c=some e):look c=some e:=by
 unfold lkK at h
 split at h
 case h_2=>cases h
 rename_i own L ch hl
 cases hr:(ch.row==r)<;>simp[hr]at h
 rw[<-h];exact lkN_some hl
theorem getL_eq:∀ (l:List SV) (n:Nat),getL l n=l[n]?
 | [],n=>by simp[getL]
 | a::l,0=>by simp[getL]
 | a::l,n+1=>by simp[getL,getL_eq l n]
theorem setL_eq:∀ (l:List SV) (n:Nat) (v:SV),setL l n v=l.set n v
 | [],n,v=>by simp[setL]
 | a::l,0,v=>by simp[setL]
 | a::l,n+1,v=>by simp[setL,setL_eq l n]
theorem dropL_eq:∀ (l:List SV) (n:Nat),dropL l n=l.drop n
 | l,0=>by simp[dropL]
 | [],n+1=>by simp[dropL]
 | a::l,n+1=>by simp[dropL,dropL_eq l n]
theorem takeL_some:∀ {l:List SV} {n:Nat} {r:List SV},takeL l n=some r->r=l.take n/\n<=l.length
 | l,0,r,h=>by simp[takeL]at h;simp[h]
 | [],n+1,r,h=>by simp[takeL]at h
 | a::l,n+1,r,h=>by
  simp only[takeL]at h
  split at h
  ·cases h
  ·rename_i r' h'
   cases h
   have:=takeL_some h'
   simp[this.1,this.2]
theorem rd_val {k:IntKind} {xs:List Int} {i:Int} (h:0<=i) (h2:i<xs.length):xs.getD i.toNat 0=rd xs i:=rfl
theorem rdc_ok (hm:MemSat w0 W m w) {c:Nat} {own:Own} {L:Loc} {ch:Chunk} (hc:lk m c=some (own,L,ch)) {i:Int} {s f:Nat} {p:Prop} {v:SV}
  (h:rdc i s f ch=some (p,v)) (hp:p):∃ u,w.cell? (L.ad (i.toNat*s+f))=some u/\Den v u:=by
 have hk:=hm.chunk c _ hc
 cases ch with
 | cells cs=>
  simp only[rdc]at h
  split at h
  ·cases h
  ·rename_i v' hv
   cases h
   rw[getL_eq]at hv
   have hlt:i.toNat*s+f<cs.length:=by
    rcases Nat.lt_or_ge (i.toNat*s+f) cs.length with h | h
    ·exact h
    ·simp[List.getElem?_eq_none h]at hv
   obtain⟨u,hu,hd⟩:=hk.cell _ hlt
   refine⟨u,hu,?_⟩
   simpa [Chunk.cell,List.getD_eq_getElem?_getD,hv]using hd
 | ints k xs=>
  simp only[rdc]at h
  split at h
  ·cases h
   obtain⟨u,hu,hd⟩:=hk.cell i.toNat (by simp only[Chunk.len];omega)
   exact⟨u,by simpa using hu,by simpa [Chunk.cell,rd]using hd⟩
  ·cases h
 | bools xs=>
  simp only[rdc]at h
  split at h
  ·cases h
   obtain⟨u,hu,hd⟩:=hk.cell i.toNat (by simp only[Chunk.len];omega)
   exact⟨u,by simpa using hu,by simpa [Chunk.cell,rdB]using hd⟩
  ·cases h
 | recs s' fr z l=>simp[rdc]at h
theorem intsV_get (k:IntKind) (xs:List Int):∀ (n:Nat),(intsV k xs n).length=n/\∀ j,j<n->(intsV k xs n)[j]?=some (.int k (xs.getD j 0))
 | 0=>by simp[intsV]
 | n+1=>by
  have ih:=intsV_get k xs n
  refine⟨by simp[intsV,ih.1],fun j hj=>?_⟩
  simp only[intsV]
  rcases Nat.lt_or_ge j n with h | h
  ·rw[List.getElem?_append_left (by omega)];exact ih.2 j h
  ·have:j=n:=by omega
   subst this
   rw[List.getElem?_append_right (by omega)]
   simp[ih.1]
theorem cells_from {w:World} {L:Loc}:∀ (cs:List SV) (f n:Nat),(∀ j,j<n->∃ u,w.cell? (L.ad (f+j))=some u/\∀ d,cs[j]?=some d->Den d u)->cs.length=n ->
   ∃ us:List Value,us.length=n/\(∀ j u,us[j]?=some u->w.cell? ((L.ad f).add j)=some u)/\Dens cs us:=by
 intro cs
 induction cs with
 | nil=>intro f n _ hn;exact⟨[],by simpa using hn,by simp,by simp[Dens]⟩
 | cons d cs ih=>
  intro f n H hn
  cases n with
  | zero=>simp at hn
  | succ n=>
   obtain⟨u,hu,hd⟩:=H 0 (by omega)
   obtain⟨us,h1,h2,h3⟩:=ih (f+1) n (fun j hj=>by
    obtain⟨u,hu,hd⟩:=H (j+1) (by omega)
    exact⟨u,by rw[show f+1+j=f+(j+1) by omega];exact hu,fun d h=>hd d (by simpa using h)⟩) (by simpa using hn)
   refine⟨u::us,by simp[h1],fun j v hv=>?_,by simp only[Dens];exact⟨_,_,rfl,hd d (by simp),h3⟩⟩
   cases j with
   | zero=>simp at hv;subst hv;rw[ad_add];simpa using hu
   | succ j=>
    have:=h2 j v (by simpa using hv)
    rw[ad_add]at this ⊢
    rw[show f+(j+1)=f+1+j by omega];exact this
theorem rdn_ok (hm:MemSat w0 W m w) {c:Nat} {own:Own} {L:Loc} {ch:Chunk} (hc:lk m c=some (own,L,ch)) {n:Nat} {i:Int} {s f:Nat} {p:Prop} {v:SV}
  (h:rdn n i s f ch=some (p,v)) (hp:p):∃ us:List Value,us.length=n/\(∀ j u,us[j]?=some u->w.cell? ((L.ad (i.toNat*s+f)).add j)=some u)/\Den v (.agg us.toArray):=by
 have hk:=hm.chunk c _ hc
 cases ch with
 | cells cs=>
  simp only[rdn]at h
  split at h
  ·cases h
  ·rename_i l hl
   cases h
   generalize i.toNat*s+f=f at *
   have ⟨h1,h2⟩:=takeL_some hl
   rw[dropL_eq]at h1 h2
   have hfl:f+n<=cs.length∨n=0:=by simp at h2;omega
   obtain⟨us,g1,g2,g3⟩:=cells_from (w:=w) (L:=L) l f n (fun j hj=>by
    obtain⟨u,hu,hd⟩:=hk.cell (f+j) (by simp only[Chunk.len];omega)
    refine⟨u,hu,fun d hd'=>?_⟩
    subst h1
    have:cs[f+j]?=some d:=by simpa [List.getElem?_take,hj]using hd'
    simpa [Chunk.cell,List.getD_eq_getElem?_getD,this]using hd) (by simp[h1];simp at h2;omega)
   exact⟨us,g1,g2,by simp only[Den];exact⟨us,rfl,g3⟩⟩
 | ints k xs=>
  simp only[rdn]at h
  split at h
  ·cases h
   subst hp
   have hi:=intsV_get k xs xs.length
   obtain⟨us,g1,g2,g3⟩:=cells_from (w:=w) (L:=L) (intsV k xs xs.length) 0 xs.length (fun j hj=>by
    obtain⟨u,hu,hd⟩:=hk.cell j (by simpa [Chunk.len]using hj)
    refine⟨u,by simpa using hu,fun d hd'=>?_⟩
    rw[hi.2 j hj]at hd'
    cases hd'
    simpa [Chunk.cell]using hd) hi.1
   exact⟨us,g1,fun j u hu=>by simpa using g2 j u hu,by simp only[Den];exact⟨us,rfl,g3⟩⟩
  ·cases h
 | bools xs=>simp[rdn]at h
 | recs s' fr z l=>simp[rdn]at h
theorem isAgg_run {t:TypeId} {tt:TT} (h:TtOk P t tt) (w:World):(isAgg t).run P w=.ok tt.agg w:=by
 obtain⟨d,hd,hk⟩:=h.desc
 simp only[isAgg,Sem.run_bind,run_underlying hd,Result.andThen]
 unfold TT.agg
 cases hkind:tt.kind with
 | int k=>rw[hkind]at hk;simp only[TKOk]at hk;subst hk;rfl
 | bool=>rw[hkind]at hk;simp only[TKOk]at hk;subst hk;rfl
 | slice e=>rw[hkind]at hk;simp only[TKOk]at hk;subst hk;rfl
 | struct fs=>rw[hkind]at hk;obtain⟨F,rfl,_⟩:=hk;rfl
 | array n e=>rw[hkind]at hk;simp only[TKOk]at hk;subst hk;rfl
 | pointer=>rw[hkind]at hk;obtain⟨e,rfl⟩:=hk;rfl
 | string=>rw[hkind]at hk;simp only[TKOk]at hk;subst hk;rfl
 | other=>rw[hkind]at hk;simp only[TKOk]at hk;cases d<;>first | rfl | simp at hk
theorem getR_eq:∀ (l:List RC) (n:Nat),getR l n=l.getD n (.int .i64 0)
 | [],n=>by simp[getR]
 | a::l,0=>by simp[getR]
 | a::l,n+1=>by simp[getR,getR_eq l n]
theorem setR_eq:∀ (l:List RC) (n:Nat) (v:RC),setR l n v=l.set n v
 | [],n,v=>by simp[setR]
 | a::l,0,v=>by simp[setR]
 | a::l,n+1,v=>by simp[setR,setR_eq l n]
theorem dropR_eq:∀ (l:List RC) (n:Nat),dropR l n=l.drop n
 | l,0=>by simp[dropR]
 | [],n+1=>by simp[dropR]
 | a::l,n+1=>by simp[dropR,dropR_eq l n]
theorem takeR_eq:∀ (l:List RC) (n:Nat),takeR l n=l.take n
 | l,0=>by simp[takeR]
 | [],n+1=>by simp[takeR]
 | a::l,n+1=>by simp[takeR,takeR_eq l n]
theorem recAt_lt {i:Int} {z:List RC} {l:List (List RC)} (h1:i<l.length) (h0:0<=i):recAt i z l=l.getD i.toNat []/\recAt i z l∈l:=by
 have:i.toNat<l.length:=by omega
 simp[recAt,List.getD_eq_getElem?_getD,this]
theorem rcAt_idx {l:List (List RC)} {s i f:Nat} (hf:f<s):rcAt l s (i*s+f)=(l.getD i []).getD f (.int .i64 0):=by
 unfold rcAt
 have e1:(i*s+f) / s=i:=by
  rw[Nat.mul_comm,Nat.mul_add_div (by omega),Nat.div_eq_of_lt hf,Nat.add_zero]
 have e2:(i*s+f) % s=f:=by
  rw[Nat.mul_comm,Nat.mul_add_mod,Nat.mod_eq_of_lt hf]
 rw[e1,e2]
theorem rec_shown (hm:MemSat w0 W m w) {c:Nat} {own:Own} {L:Loc} {s:Nat} {fr:Bool} {z:List RC} {l:List (List RC)} (hc:lk m c=some (own,L,.recs s fr z l)) {i:Int} (h0:0<=i) (h1:i<l.length) :
  (∀ M k xs,RC.row M k xs∈recAt i z l->Shown w0 fr m w M k xs)/\(recAt i z l).length=s/\∀ f,f<s->∃ v,w.cell? (L.ad (i.toNat*s+f))=some v/\Den (getR (recAt i z l) f).sv v:=by
 have hk:=hm.chunk c _ hc
 obtain⟨e1,e2⟩:=recAt_lt (z:=z) h1 h0
 obtain⟨g1,g2,g3,g4⟩:=hk.fits
 refine⟨fun M k xs hr=>shown_row hm hc ⟨_,e2,hr⟩,g4 _ e2,fun f hf=>?_⟩
 have hlt:i.toNat*s+f<l.length*s:=by
  have:(i.toNat+1)*s<=l.length*s:=Nat.mul_le_mul_right _ (by omega)
  rw[Nat.add_mul,Nat.one_mul]at this
  omega
 obtain⟨v,hv,hd⟩:=hk.cell _ hlt
 refine⟨v,hv,?_⟩
 simp only[Chunk.cell,rcAt_idx hf]at hd
 rw[getR_eq,e1];exact hd
theorem views_ok {fr:Bool}:∀ (rs:List RC) (k:Nat) (m:Mem),MemSat w0 W m w->(∀ M kk xs,RC.row M kk xs∈rs->Shown w0 fr m w M kk xs)->MemSat w0 W (apU m (viewsU fr k rs)) w
 | [],k,m,hm,_=>hm
 | .int _ _::rs,k,m,hm,h=>views_ok rs k m hm fun M kk xs hr=>h M kk xs (by simp[hr])
 | .bool _::rs,k,m,hm,h=>views_ok rs k m hm fun M kk xs hr=>h M kk xs (by simp[hr])
 | .row L kk xs::rs,k,m,hm,h=>by
  have hs:=h L kk xs (by simp)
  obtain⟨own,hown,hwr,hho⟩:∃ own,own=(bif fr then Own.rof else .ro)/\own.wr=false/\∀ o,o<xs.length->homeOk w0 W own (L.ad o):=by
   cases hfr:fr with
   | false=>exact⟨.ro,rfl,rfl,fun _ _=>trivial⟩
   | true=>exact⟨.rof,rfl,rfl,fun o ho=>hs.fresh hfr (by omega)⟩
  have nw:∀ a,¬ wf (own,L,Chunk.ints kk xs) a:=fun a ha=>by have:=ha.1;simp only[hwr]at this;cases this
  simp only[viewsU,apU,<-hown]
  refine views_ok rs (k+1) _ (hm.put k (own,L,.ints kk xs) ⟨fun o ho=>⟨_,hs.cell o ho,by simp[Chunk.cell,Den]⟩,fun _ _ _ hr=>hr.elim,fun a ha=>(nw a ha).elim,fun hn=>(by simp only[hwr]at hn;cases hn),⟨hs.cap,hs.nil⟩,fun o ho=>hho o (by simpa [reg,hwr,Chunk.len]using ho)⟩ (fun d f _ hf a=>⟨fun ha=>(nw a ha).elim,fun ha hra=>?_⟩)) (fun M k' ys hr=>?_)
  ·rcases hra with ⟨o,ho,rfl⟩ | hra
   ·exact hs.far d f hf o (by simpa [reg,hwr,Chunk.len]using ho) ha
   ·exact hra.elim fun _ ⟨_,_,h,_⟩=>h.elim
  ·have g:=h M k' ys (by simp[hr])
   refine⟨g.cap,g.nil,g.cell,fun d f hf o ho hw=>?_,g.fresh⟩
   rw[lk_st]at hf
   split at hf
   ·cases hf;exact nw _ hw
   ·exact g.far d f hf o ho hw
theorem viewsV_den:∀ (rs:List RC) (k:Nat) (us:List Value),(∀ M kk xs,RC.row M kk xs∈rs->xs.length<=M.cap/\(M.nil=true->M.cap=0))->Dens (rs.map RC.sv) us->Dens (viewsV k rs) us
 | [],k,us,_,h=>h
 | .int _ _::rs,k,us,hs,h=>by
  simp only[List.map_cons,Dens,viewsV]at h ⊢
  obtain⟨v,vs,e,h1,h2⟩:=h
  exact⟨v,vs,e,h1,viewsV_den rs k vs (fun M kk xs hr=>hs M kk xs (by simp[hr])) h2⟩
 | .bool _::rs,k,us,hs,h=>by
  simp only[List.map_cons,Dens,viewsV]at h ⊢
  obtain⟨v,vs,e,h1,h2⟩:=h
  exact⟨v,vs,e,h1,viewsV_den rs k vs (fun M kk xs hr=>hs M kk xs (by simp[hr])) h2⟩
 | .row L kk xs::rs,k,us,hs,h=>by
  simp only[List.map_cons,Dens,viewsV,RC.sv]at h ⊢
  obtain⟨v,vs,e,h1,h2⟩:=h
  refine⟨v,vs,e,?_,viewsV_den rs (k+1) vs (fun M kk xs hr=>hs M kk xs (by simp[hr])) h2⟩
  simpa only[Den]using h1
theorem viewsV_length:∀ (rs:List RC) (k:Nat),(viewsV k rs).length=rs.length
 | [],k=>rfl
 | .int _ _::rs,k=>by simp[viewsV,viewsV_length rs]
 | .bool _::rs,k=>by simp[viewsV,viewsV_length rs]
 | .row _ _ _::rs,k=>by simp[viewsV,viewsV_length rs]
theorem done_load (hT:∀ t tt,tab t=some tt->TtOk P t tt) (hs:SlotsOk sl a) (hm:MemSat w0 W m w) (hk:Kept b1 w0 W w)
  {t:TypeId} {X:Operand} {tt:TT} {ax:Opd} {rr:Bool} {k nv:Nat} (htt:tab t=some tt) (hax:opd X=some ax)
  (hx:∀ x,∃ p v u,stepF sp spP no x sl (lk m) (.ld rr (bif tt.agg then some tt.size else none) k nv ax)=some (p,v,u)/\p) :
  Done P sp spP no sl m b1 w0 W (.ld rr (bif tt.agg then some tt.size else none) k nv ax) ((do pure (Next.value (<-Instr.loadAt t (a.eval X))):Sem Next).run P w):=by
 obtain⟨p,v,u,h,hp⟩:=hx (fun _=>default)
 have h0:=h
 simp only[stepF]at h
 obtain⟨v0,p',hd,hf,hp'⟩:=o1_den h hp hax hs
 cases v0<;>simp only at hf<;>try cases hf
 rename_i c L i s f
 simp only[Den]at hd
 have htk:=hT t tt htt
 obtain⟨i0,hi0,hsz,_⟩:=htk.info
 have fin:∀ (L':Loc) (rv:Value),L'=L->MemSat w0 W (apU m u) w->Den v rv ->
   (tt.agg=false/\w.cell? (L.ad (i.toNat*s+f))=some rv∨tt.agg=true/\∃ us:List Value,us.length=tt.size/\(∀ j u,us[j]?=some u->w.cell? ((L.ad (i.toNat*s+f)).add j)=some u)/\rv=.agg us.toArray) ->
   Done P sp spP no sl m b1 w0 W (.ld rr (bif tt.agg then some tt.size else none) k nv ax) ((do pure (Next.value (<-Instr.loadAt t (a.eval X))):Sem Next).run P w):=by
  intro L' rv _ hm' hdv hc
  refine⟨_,p,v,u,rv,w,h0,hp,.inl ?_,hdv,hm',hk⟩
  rcases hc with ⟨hag,hu⟩ | ⟨hag,us,h1,h2,rfl⟩
  ·simp only[Sem.run_bind,Instr.loadAt,hd,Instr.sureAddr,Sem.run_pure,Result.andThen,loadVar,isAgg_run htk,hag]
   simp[hu,run_load,Result.andThen]
  ·simp only[Sem.run_bind,Instr.loadAt,hd,Instr.sureAddr,Sem.run_pure,Result.andThen,loadVar,isAgg_run htk,hag,size_run hi0,hsz]
   have:=run_loadCells_list (P:=P) (w:=w) _ us h2
   rw[h1]at this
   simp[this,size_run hi0,hsz,Result.andThen]
 split at hf
 ·
  rename_i own L' s' fr z l hl
  have hl:=lkK_some hl
  unfold ldRec at hf
  cases hag:tt.agg with
  | false=>
   rw[hag]at hf
   simp only[cond_false]at hf
   cases hc:(decide (s=s')&&decide (f<s)&&decide (viewsN [getR (recAt i z l) f]<=nv))with
   | false=>rw[hc]at hf;cases hf
   | true=>
    rw[hc]at hf
    simp only[Bool.and_eq_true,decide_eq_true_eq]at hc
    simp only[cond_true]at hf
    obtain⟨⟨rfl,hfs⟩,_⟩:=hc
    split at hf
    case h_2=>cases hf
    rename_i v' hv'
    cases hf
    obtain⟨rfl,g0,g1⟩:=hp'
    obtain⟨r1,r2,r3⟩:=rec_shown hm hl g0 g1
    obtain⟨rv,hrv,hdv⟩:=r3 f hfs
    have hin:getR (recAt i z l) f∈recAt i z l:=by
     rw[getR_eq,List.getD_eq_getElem?_getD,List.getElem?_eq_getElem (by omega)]
     exact List.getElem_mem _
    have hds:Dens (viewsV k [getR (recAt i z l) f]) [rv]:=viewsV_den _ k _ (fun M kk xs hr=>by
     simp only[List.mem_singleton]at hr
     have:=r1 M kk xs (hr▸hin)
     exact⟨this.cap,this.nil⟩) (by simp only[List.map_cons,List.map_nil,Dens];exact⟨_,_,rfl,hdv,rfl⟩)
    rw[hv']at hds
    simp only[Dens]at hds
    obtain⟨_,_,e,hds,_⟩:=hds
    cases e
    rw[hag]at fin
    exact fin L' rv rfl (views_ok _ k m hm fun M kk xs hr=>by
     simp only[List.mem_singleton]at hr
     exact r1 M kk xs (hr▸hin)) hds (.inl ⟨rfl,hrv⟩)
  | true=>
   rw[hag]at hf
   simp only[cond_true]at hf
   cases hc:(decide (s=s')&&decide (f+tt.size<=s))with
   | false=>rw[hc]at hf;cases hf
   | true=>
    rw[hc]at hf
    simp only[Bool.and_eq_true,decide_eq_true_eq]at hc
    simp only[cond_true]at hf
    obtain⟨rfl,hfs⟩:=hc
    have key:∀ rs:List RC,(bif decide (viewsN rs<=nv)then (some (L'=L/\0<=i/\i<l.length,SV.agg (viewsV k rs),viewsU fr k rs):R)else none)=some (p',v,u) ->
      (0<=i->i<l.length->rs=((recAt i z l).drop f).take tt.size)->Done P sp spP no sl m b1 w0 W (.ld rr (some tt.size) k nv ax) ((do pure (Next.value (<-Instr.loadAt t (a.eval X))):Sem Next).run P w):=by
     intro rs hrs he
     cases hc:decide (viewsN rs<=nv)with
     | false=>rw[hc]at hrs;cases hrs
     | true=>
      rw[hc]at hrs
      cases hrs
      obtain⟨rfl,g0,g1⟩:=hp'
      obtain⟨r1,r2,r3⟩:=rec_shown hm hl g0 g1
      obtain rfl:=he g0 g1
      have hlen:(((recAt i z l).drop f).take tt.size).length=tt.size:=by simp;omega
      have hin:∀ r∈((recAt i z l).drop f).take tt.size,r∈recAt i z l:=fun r hr=>List.mem_of_mem_drop (List.mem_of_mem_take hr)
      obtain⟨us,u1,u2,u3⟩:=cells_from (w:=w) (L:=L') ((((recAt i z l).drop f).take tt.size).map RC.sv) (i.toNat*s+f) tt.size (fun j hj=>by
       obtain⟨v,hv,hd⟩:=r3 (f+j) (by omega)
       refine⟨v,by rw[Nat.add_assoc];exact hv,fun d hd'=>?_⟩
       have hb:f+j<(recAt i z l).length:=by omega
       simp[List.getElem?_take,hj,hb]at hd'
       rw[<-hd']
       simpa [getR_eq,List.getD_eq_getElem?_getD,hb]using hd) (by simpa using hlen)
      rw[hag]at fin
      exact fin L' (.agg us.toArray) rfl (views_ok _ k m hm fun M kk xs hr=>r1 M kk xs (hin _ hr)) (by
       simp only[Den]
       exact⟨us,rfl,viewsV_den _ k _ (fun M kk xs hr=>by have:=r1 M kk xs (hin _ hr);exact⟨this.cap,this.nil⟩) u3⟩) (.inr ⟨rfl,us,u1,u2,rfl⟩)
    refine key _ hf fun g0 g1=>?_
    by_cases hn:tt.size=s
    ·have:f=0:=by omega
     subst this
     have hl:(recAt i z l).length=s:=(rec_shown hm hl g0 g1).2.1
     simp[hn,List.take_of_length_le (Nat.le_of_eq hl)]
    ·simp[hn,takeR_eq,dropR_eq]
 ·rename_i own L' ch hnr hl
  split at hf
  ·cases hf
  ·rename_i q r hq
   cases hf
   obtain⟨rfl,hq'⟩:=hp'
   cases hag:tt.agg with
   | false=>
    rw[hag]at hq
    obtain⟨u,hu,hdu⟩:=rdc_ok hm (lkK_some hl) hq hq'
    rw[hag]at fin
    exact fin L' u rfl hm hdu (.inl ⟨rfl,hu⟩)
   | true=>
    rw[hag]at hq
    obtain⟨us,h1,h2,h3⟩:=rdn_ok hm (lkK_some hl) hq hq'
    rw[hag]at fin
    exact fin L' _ rfl hm h3 (.inr ⟨rfl,us,h1,h2,rfl⟩)
 ·cases hf
end
end Go.Proofs.YtaofjnkpkocgjaaGreat.Xf
end
section 
namespace Go.Proofs.YtaofjnkpkocgjaaGreat.Xf
variable {P:Program} {sp:Sp} {spP:SpP} {no:Lim} {sl:List Ent} {m:Mem} {b1 w0 w:World} {W:Addr->Prop} {a:Act} {tab:Tab} {isP:FuncId->Bool}
theorem Den.one {s:SV} {v:Value} (h:Den s v) (h1:size1 s=true):v.oneCell'=true/\v.cells=#[v]:=by
 cases s<;>simp[size1]at h1<;>simp only[Den]at h
 ·subst h;exact⟨rfl,rfl⟩
 ·subst h;exact⟨rfl,rfl⟩
 ·subst h;exact⟨rfl,rfl⟩
 ·obtain⟨_,_,_,_,A,rfl,_⟩:=h;exact⟨rfl,rfl⟩
 ·obtain⟨vs,rfl,_⟩:=h;exact⟨rfl,rfl⟩
theorem Den.cells {s:SV} {v:Value} (h:Den s v) {cs:List SV} (hc:cellsOf s=some cs):Dens cs v.cells.toList:=by
 have one:∀ {s:SV} {v:Value},Den s v->size1 s=true->Dens [s] v.cells.toList:=fun {s v} h h1=>by
  rw[(h.one h1).2]
  simp only[Dens];exact⟨_,_,rfl,h,rfl⟩
 cases s<;>simp only[cellsOf]at hc
 case agg cs=>
  cases hc
  simp only[Den]at h
  obtain⟨vs,rfl,hd⟩:=h
  simpa [Value.cells]using hd
 case tup=>cases hc
 case val=>cases hc
 all_goals (cases hc;exact one h rfl)
theorem store_ok (hm:MemSat w0 W m w) (hk:Kept b1 w0 W w) {c:Nat} {own:Own} {L:Loc} {ch ch':Chunk}
  (hc:lk m c=some (own,L,ch)) (ho:own.wr=true) {o:Nat} (hlt:o<ch.len) {v:Value} {sv:SV} (hv:Den sv v) (h1:v.oneCell'=true)
  (hlen:ch'.len=ch.len) (hext:ch'.ext L=ch.ext L) (hfit:ch'.fits L) (hcell:∀ i,i<ch.len->ch'.cell i=if i=o then sv else ch.cell i)
  (hrow:∀ L' k xs,ch'.rows L' k xs->Shown w0 ch'.fr m w L' k xs) :
  ∃ w',(store (L.ad o) v).run P w=.ok () w'/\MemSat w0 W (st m c (some (own,L,ch'))) w'/\Kept b1 w0 W w'/\(∀ fr M k xs,Shown w0 fr m w M k xs->Shown w0 fr (st m c (some (own,L,ch'))) w' M k xs):=by
 obtain⟨hs,hf,hm',hwo⟩:=hm.write hc ho hlt hv hlen hext hfit hcell hrow
 obtain⟨u,hu⟩:=Option.isSome_iff_exists.1 hs
 refine⟨_,by rw[run_store P w _ _ _ h1,hu];simp[hf],hm',?_,fun fr M k xs h=>h.write hc hext hwo v⟩
 refine hk.trans (Kept.setCell w _ v rfl) (fun b hb hlt'=>?_)
 subst hb
 have hck:=hm.chunk c _ hc
 have hext':o<reg (own,L,ch):=Nat.lt_of_lt_of_le hlt (Chunk.len_le_reg hck)
 rcases(hck.home o hext').got ho with h | h
 ·simp[Loc.ad]at hlt' h;omega
 ·exact h
theorem wrc_ok (hm:MemSat w0 W m w) (hk:Kept b1 w0 W w) {c:Nat} {own:Own} {L:Loc} {ch ch':Chunk} (hc:lk m c=some (own,L,ch)) (ho:own.wr=true)
  {i:Int} {s f:Nat} {sv:SV} {p:Prop} (h:wrc i s f sv ch=some (p,ch')) (hp:p) {v:Value} (hv:Den sv v) :
  v.cells=#[v]/\∃ w',(store (L.ad (i.toNat*s+f)) v).run P w=.ok () w'/\MemSat w0 W (st m c (some (own,L,ch'))) w'/\Kept b1 w0 W w':=by
 have hfit:=(hm.chunk c _ hc).fits
 cases ch with
 | cells cs=>
  simp only[wrc]at h
  split at h
  ·cases h
  ·rename_i old hold
   cases h1:size1 sv with
   | false=>simp[h1]at h
   | true=>
    simp only[h1,cond_true]at h
    cases h
    generalize i.toNat*s+f=f at *
    rw[getL_eq]at hold
    have hlt:f<cs.length:=by
     rcases Nat.lt_or_ge f cs.length with h | h
     ·exact h
     ·simp[List.getElem?_eq_none h]at hold
    refine⟨(hv.one h1).2,?_⟩
    obtain⟨w',g1,g2,g3,_⟩:=store_ok (P:=P) hm hk hc ho (o:=f) (ch':=.cells (setL cs f sv)) (by simpa [Chunk.len]using hlt) hv (hv.one h1).1 (by simp[Chunk.len,setL_eq]) (by simp[Chunk.ext,setL_eq]) hfit
     (fun i hi=>by
      simp only[Chunk.cell,setL_eq,List.getD_eq_getElem?_getD,List.getElem?_set]
      by_cases e:i=f
      ·subst e;simp[hlt]
      ·simp[e,Ne.symm e]) (fun _ _ _ h=>h.elim)
    exact⟨w',g1,g2,g3⟩
 | ints k xs=>
  simp only[wrc]at h
  split at h
  ·rename_i k' n
   by_cases hkk:k=k'
   ·subst hkk
    simp only[decide_true,cond_true]at h
    cases h
    refine⟨(hv.one rfl).2,?_⟩
    obtain⟨w',g1,g2,g3,_⟩:=store_ok (P:=P) hm hk hc ho (o:=i.toNat) (ch':=.ints k (xs.set i.toNat n)) (by simp only[Chunk.len];omega) hv (hv.one rfl).1 (by simp[Chunk.len]) (by simp[Chunk.ext]) (by simpa [Chunk.fits]using hfit)
     (fun j hj=>by
      simp only[Chunk.len]at hj
      simp only[Chunk.cell,List.getD_eq_getElem?_getD,List.getElem?_set]
      by_cases e:j=i.toNat
      ·subst e;simp[hj]
      ·simp[e,Ne.symm e]) (fun _ _ _ h=>h.elim)
    exact⟨w',by simpa using g1,g2,g3⟩
   ·simp[hkk]at h
  ·cases h
 | bools xs=>
  simp only[wrc]at h
  split at h
  ·rename_i b
   cases h
   refine⟨(hv.one rfl).2,?_⟩
   obtain⟨w',g1,g2,g3,_⟩:=store_ok (P:=P) hm hk hc ho (o:=i.toNat) (ch':=.bools (xs.set i.toNat b)) (by simp only[Chunk.len];omega) hv (hv.one rfl).1 (by simp[Chunk.len]) (by simp[Chunk.ext]) (by simpa [Chunk.fits]using hfit)
    (fun j hj=>by
     simp only[Chunk.len]at hj
     simp only[Chunk.cell,List.getD_eq_getElem?_getD,List.getElem?_set]
     by_cases e:j=i.toNat
     ·subst e;simp[hj]
     ·simp[e,Ne.symm e]) (fun _ _ _ h=>h.elim)
   exact⟨w',by simpa using g1,g2,g3⟩
  ·cases h
 | recs s' fr z l=>simp[wrc]at h
theorem st_same:∀ (l:Mem) (n:Nat) (e:ME),lk l n=some e->st l n (some e)=l:=by
 intro l
 induction l with
 | nil=>intro n e;simp[st]
 | cons a l ih=>intro n e h;cases n with
  | zero=>simp[lk]at h;simp[st,h]
  | succ n=>simp[lk]at h;simp[st,ih n e h]
theorem wrs_ok {c:Nat} {own:Own} {L:Loc} (ho:own.wr=true):∀ (vs:List SV) (us:List Value) (m:Mem) (w:World) (cs:List SV) (f i:Nat),MemSat w0 W m w->Kept b1 w0 W w ->
  lk m c=some (own,L,.cells cs)->vs.all size1=true->f+i+vs.length<=cs.length->Dens vs us ->
  ∃ w',(storeCells (L.ad f) us i).run P w=.ok () w'/\MemSat w0 W (st m c (some (own,L,.cells (setsL cs (f+i) vs)))) w'/\Kept b1 w0 W w'
 | [],us,m,w,cs,f,i,hm,hk,hc,h1,hl,hd=>by
  simp only[Dens]at hd;subst hd
  refine⟨w,by simp[storeCells],?_,hk⟩
  simpa [setsL,st_same _ _ _ hc]using hm
 | v::vs,us,m,w,cs,f,i,hm,hk,hc,h1,hl,hd=>by
  simp only[Dens]at hd
  obtain⟨u,us',rfl,hv,hd⟩:=hd
  simp only[List.all_cons,Bool.and_eq_true]at h1
  simp only[List.length_cons]at hl
  have hlt:f+i<cs.length:=by omega
  obtain⟨w1,hr,hm1,hk1,_⟩:=store_ok (P:=P) hm hk hc ho (o:=f+i) (ch':=.cells (setL cs (f+i) v)) (by simpa [Chunk.len]using hlt) hv (hv.one h1.1).1 (by simp[Chunk.len,setL_eq]) (by simp[Chunk.ext,setL_eq]) (hm.chunk c _ hc).fits
   (fun j hj=>by
    simp only[Chunk.cell,setL_eq,List.getD_eq_getElem?_getD,List.getElem?_set]
    by_cases e:j=f+i
    ·subst e;simp[hlt]
    ·simp[e,Ne.symm e]) (fun _ _ _ h=>h.elim)
  obtain⟨w2,hr2,hm2,hk2⟩:=wrs_ok ho vs us' _ w1 (setL cs (f+i) v) f (i+1) hm1 hk1 (by rw[lk_st,if_pos ⟨rfl,lk_lt hc⟩]) h1.2 (by simp[setL_eq];omega) hd
  refine⟨w2,?_,?_,hk2⟩
  ·rw[<-hr2]
   simp only[storeCells,Sem.run_bind]
   rw[ad_add,hr]
   rfl
  ·rw[st_st]at hm2
   simpa [setsL,Nat.add_assoc]using hm2
theorem asInts_get' {k:IntKind}:∀ {cs:List SV} {xs:List Int},asInts k cs=some xs->cs=xs.map fun n=>.int k n
 | [],xs,h=>by simp[asInts]at h;simp[<-h]
 | c::cs,xs,h=>by
  cases c<;>simp only[asInts]at h<;>first | (cases h;done) | skip
  rename_i k' n
  by_cases e:k=k'
  ·subst e
   simp only[decide_true,cond_true]at h
   split at h
   ·cases h
   ·rename_i r hr
    cases h
    simp[asInts_get' hr]
  ·simp[e]at h
theorem wrI_ok {c:Nat} {own:Own} {L:Loc} {k:IntKind} (ho:own.wr=true):∀ (ys:List Int) (us:List Value) (m:Mem) (w:World) (xs:List Int) (i:Nat),MemSat w0 W m w->Kept b1 w0 W w ->
  lk m c=some (own,L,.ints k xs)->i+ys.length=xs.length->Dens (ys.map fun n=>.int k n) us ->
  ∃ w',(storeCells (L.ad 0) us i).run P w=.ok () w'/\MemSat w0 W (st m c (some (own,L,.ints k (xs.take i++ys)))) w'/\Kept b1 w0 W w'
 | [],us,m,w,xs,i,hm,hk,hc,hl,hd=>by
  simp only[List.map_nil,Dens]at hd;subst hd
  refine⟨w,by simp[storeCells],?_,hk⟩
  simp only[List.length_nil,Nat.add_zero]at hl
  rw[List.append_nil,List.take_of_length_le (by omega),st_same _ _ _ hc]
  exact hm
 | y::ys,us,m,w,xs,i,hm,hk,hc,hl,hd=>by
  simp only[List.map_cons,Dens]at hd
  obtain⟨u,us',rfl,hv,hd⟩:=hd
  simp only[List.length_cons]at hl
  have hlt:i<xs.length:=by omega
  obtain⟨w1,hr,hm1,hk1,_⟩:=store_ok (P:=P) hm hk hc ho (o:=i) (ch':=.ints k (xs.set i y)) (by simpa [Chunk.len]using hlt) hv (hv.one rfl).1 (by simp[Chunk.len]) (by simp[Chunk.ext]) (by have:=(hm.chunk c _ hc).fits;simpa [Chunk.fits]using this)
   (fun j hj=>by
    simp only[Chunk.len]at hj
    simp only[Chunk.cell,List.getD_eq_getElem?_getD,List.getElem?_set]
    by_cases e:j=i
    ·subst e;simp[hj]
    ·simp[e,Ne.symm e]) (fun _ _ _ h=>h.elim)
  obtain⟨w2,hr2,hm2,hk2⟩:=wrI_ok ho ys us' _ w1 (xs.set i y) (i+1) hm1 hk1 (by rw[lk_st,if_pos ⟨rfl,lk_lt hc⟩]) (by simp;omega) hd
  refine⟨w2,?_,?_,hk2⟩
  ·rw[<-hr2]
   simp only[storeCells,Sem.run_bind]
   rw[ad_add,Nat.zero_add,hr]
   rfl
  ·rw[st_st]at hm2
   have:(xs.set i y).take (i+1)=xs.take i++[y]:=by
    rw[List.take_succ_eq_append_getElem (by simpa using hlt)]
    simp[List.take_set_of_le]
   rw[this]at hm2
   simpa using hm2
theorem apU_append:∀ (u v:Upd) (m:Mem),apU m (u++v)=apU (apU m u) v
 | [],v,m=>rfl
 | (c,e)::u,v,m=>by simp only[List.cons_append,apU];exact apU_append u v _
theorem Shown.lim {fr:Bool} {L':Loc} {k:IntKind} {xs:List Int} (h:Shown w0 fr m w L' k xs) {m':Mem} (hw:∀ d f,lk m' d=some f->∃ f0,lk m d=some f0/\∀ a,wf f a->wf f0 a):Shown w0 fr m' w L' k xs:=
 ⟨h.cap,h.nil,h.cell,fun d f hf o ho ha=>by obtain⟨f0,h0,hh⟩:=hw d f hf;exact h.far d f0 h0 o ho (hh _ ha),h.fresh⟩
structure Dem (m m':Mem):Prop where
 lkn:∀ c own L ch,lk m c=some (own,L,ch)->∃ own',lk m' c=some (own',L,ch)/\(own'=own∨own=.mine/\own'=.rof)
 back:∀ c e,lk m' c=some e->∃ e0,lk m c=some e0/\∀ a,wf e a->wf e0 a
 rest:∀ c own L ch,lk m c=some (own,L,ch)->(∀ k xs,ch≠.ints k xs)->lk m' c=some (own,L,ch)
theorem Dem.refl (m:Mem):Dem m m:=⟨fun c own L ch h=>⟨own,h,.inl rfl⟩,fun c e h=>⟨e,h,fun _ h=>h⟩,fun c own L ch h _=>h⟩
theorem wf_no {own:Own} (h:own.wr=false) (L:Loc) (ch:Chunk) (a:Addr):¬ wf (own,L,ch) a:=fun ha=>by have:=ha.1;simp only[h]at this;cases this
theorem Dem.step {m0 m:Mem} (hd:Dem m0 m) (hm:MemSat w0 W m w) {c:Nat} {own:Own} {L:Loc} {k:IntKind} {xs:List Int} (hc:lk m0 c=some (own,L,.ints k xs)) {f:Bool} (hs:showOk own=some f) :
  MemSat w0 W (apU m (demote c L (.ints k xs) own)) w/\Dem m0 (apU m (demote c L (.ints k xs) own))/\(∀ fr M k' ys,Shown w0 fr m w M k' ys->Shown w0 fr (apU m (demote c L (.ints k xs) own)) w M k' ys) /\
   ∃ own',lk (apU m (demote c L (.ints k xs) own)) c=some (own',L,.ints k xs)/\own'.wr=false/\(f=true->own'=.rof):=by
 obtain⟨own',h1,h2⟩:=hd.lkn c own L _ hc
 by_cases ho:own=.mine
 ·subst ho
  simp only[showOk]at hs
  simp only[demote,apU]
  have hck:=hm.chunk c _ h1
  have hle:=Chunk.len_le_reg hck
  have back:∀ d f,lk (st m c (some (.rof,L,.ints k xs))) d=some f->∃ f0,lk m d=some f0/\∀ a,wf f a->wf f0 a:=fun d f hf=>by
   rw[lk_st]at hf
   split at hf
   ·rename_i e;cases hf;exact⟨_,e.1▸h1,fun a ha=>(wf_no rfl _ _ a ha).elim⟩
   ·exact⟨f,hf,fun _ h=>h⟩
  refine⟨hm.turn h1 ⟨hck.cell,fun _ _ _ hr=>hr.elim,fun a ha=>(wf_no rfl _ _ a ha).elim,fun h=>(by cases h),hck.fits,fun o ho=>?_⟩ (fun a ha=>(wf_no rfl _ _ a ha).elim) (fun a ha=>?_),⟨fun d own2 L2 ch2 h=>?_,fun d f hf=>?_,fun d own2 L2 ch2 h hn=>?_⟩,fun fr M k' ys h=>h.lim back,.rof,by rw[lk_st,if_pos ⟨rfl,lk_lt h1⟩],rfl,fun _=>rfl⟩
  ·have:=hck.home o (Nat.lt_of_lt_of_le ho hle)
   rcases h2 with rfl | ⟨_,rfl⟩<;>exact this
  ·rcases ha with ⟨o,ho',rfl⟩ | h
   ·exact .inl ⟨o,Nat.lt_of_lt_of_le ho' hle,rfl⟩
   ·exact .inr h
  ·by_cases hdc:c=d
   ·subst hdc
    rw[hc]at h;cases h
    exact⟨.rof,by rw[lk_st,if_pos ⟨rfl,lk_lt h1⟩],.inr ⟨rfl,rfl⟩⟩
   ·rw[lk_st_ne hdc];exact hd.lkn d own2 L2 ch2 h
  ·obtain⟨f0,g1,g2⟩:=back d f hf
   obtain⟨f1,g3,g4⟩:=hd.back d f0 g1
   exact⟨f1,g3,fun a ha=>g4 a (g2 a ha)⟩
  ·by_cases hdc:c=d
   ·subst hdc
    rw[hc]at h;cases h
    exact absurd rfl (hn k xs)
   ·rw[lk_st_ne hdc];exact hd.rest d own2 L2 ch2 h hn
 ·have e:demote c L (.ints k xs) own=[]:=by cases own<;>first | exact absurd rfl ho | rfl
  have ho':own'=own:=by rcases h2 with h | ⟨h,_⟩<;>first | exact h | exact absurd h ho
  rw[e]
  simp only[apU]
  refine⟨hm,hd,fun _ _ _ _ h=>h,own',h1,?_,fun hf=>?_⟩
  ·rw[ho']
   cases own with
   | ro=>rfl
   | rof=>rfl
   | mine=>exact absurd rfl ho
   | lent=>cases hs
   | got=>cases hs
  ·rw[ho']
   cases own with
   | ro=>cases hs;cases hf
   | rof=>rfl
   | mine=>exact absurd rfl ho
   | lent=>cases hs
   | got=>cases hs
theorem sub_length {xs:List Int} {lo n:Int} (h0:0<=lo) (h1:0<=n) (h2:lo+n<=xs.length):((sub xs lo n).length:Int)=n:=by
 simp[sub];omega
theorem fr_ad (L:Loc) (lo:Int) (o:Nat):(L.fr lo).ad o=L.ad (lo.toNat+o):=by simp[Loc.fr,Loc.ad,Nat.add_assoc]
theorem den_fr {c d:Nat} {L:Loc} {lo n:Int} {v:Value} (h:Den (.sl c L 1 lo n) v):Den (.sl d (L.fr lo) 1 0 n) v:=by
 simp only[Den]at h ⊢
 obtain⟨h0,h1,h2,h3,A,rfl,hA,hB⟩:=h
 refine⟨by omega,h1,by simp only[Loc.fr];omega,fun hn=>?_,A,by simp[Loc.fr],hA,fun hne=>?_⟩
 ·have:=h3 hn;simp only[Loc.fr];omega
 ·rw[hB (by simpa [Loc.fr]using hne)]
  simp[Loc.fr,Loc.ad]
theorem rcOf_ok {m0 m:Mem} {no:Lim} {nk:IntKind} {v:SV} {p:Prop} {r:RC} {u:Upd} {f:Bool} (hm:MemSat w0 W m w) (hd:Dem m0 m) (h:rcOf (lkN no (lk m0)) nk v=some (p,r,u,f)) (hp:p) :
  MemSat w0 W (apU m u) w/\Dem m0 (apU m u)/\(∀ fr M k xs,Shown w0 fr m w M k xs->Shown w0 fr (apU m u) w M k xs)/\(∀ M k xs,r=.row M k xs->Shown w0 f (apU m u) w M k xs) /\
   (∀ x,Den v x->Den r.sv x)/\size1 v=true:=by
 unfold rcOf at h
 split at h
 ·cases h;exact⟨hm,hd,fun _ _ _ _ h=>h,fun _ _ _ h=>(by cases h),fun _ h=>h,rfl⟩
 ·cases h;exact⟨hm,hd,fun _ _ _ _ h=>h,fun _ _ _ h=>(by cases h),fun _ h=>h,rfl⟩
 ·rename_i c L s lo n
  cases hc:(c==4096)with
  | true=>
   rw[hc]at h
   simp only[cond_true]at h
   cases h
   obtain⟨rfl,rfl,rfl⟩:=hp
   refine⟨hm,hd,fun _ _ _ _ h=>h,fun M k xs h=>(by cases h;exact shown_nil _),fun x hx=>?_,rfl⟩
   simp only[Den,RC.sv,nilLoc0]at hx ⊢
   simpa using hx
  | false=>
   rw[hc]at h
   simp only[cond_false]at h
   split at h
   case h_2=>cases h
   rename_i own L' k xs hl
   split at h
   case h_2=>cases h
   rename_i fr hfr
   by_cases hs:s=1
   case neg=>simp[hs]at h
   subst hs
   simp only[decide_true,cond_true]at h
   cases h
   obtain⟨rfl,h0,h1,h2⟩:=hp
   have hl:=lkN_some hl
   obtain⟨g1,g2,g3,own',g4,g5,g6⟩:=hd.step hm hl hfr
   have hck:=g1.chunk c _ g4
   have hlen:=sub_length h0 h1 h2
   refine⟨g1,g2,g3,fun M k' ys h=>?_,fun x hx=>?_,rfl⟩
   ·cases h
    obtain⟨f1,f2⟩:xs.length<=L'.cap/\(L'.nil=true->L'.cap=0):=hck.fits
    refine⟨by simp only[Loc.fr];omega,fun hn=>by have:=f2 hn;simp only[Loc.fr];omega,fun o ho=>?_,fun d f hf o ho ha=>?_,fun hf hpos=>?_⟩
    ·rw[fr_ad]
     obtain⟨x,hx,hdx⟩:=hck.cell (lo.toNat+o) (by simp only[Chunk.len];omega)
     rw[hx]
     simp only[Chunk.cell,Den]at hdx
     rw[hdx]
     congr 2
     have:o<n.toNat:=by omega
     simp[sub,List.getD_eq_getElem?_getD,List.getElem?_take,this]
    ·rw[fr_ad]at ha
     by_cases hdc:d=c
     ·subst hdc
      rw[g4]at hf;cases hf
      exact wf_no g5 _ _ _ ha
     ·exact g1.sep d c f _ hdc hf g4 _ ha (.inl ⟨lo.toNat+o,by simp only[reg,g5,Chunk.len,cond_false];omega,rfl⟩)
    ·have hown:=g6 hf
     subst hown
     have:=hck.home lo.toNat (by simp only[reg,Own.wr,Chunk.len,cond_false];omega)
     simpa [homeOk,Loc.ad,Loc.fr]using this
   ·have:=den_fr (d:=4095) hx
    simp only[RC.sv,hlen]
    exact this
 ·cases h
theorem rcsOf_ok {m0:Mem} {no:Lim} {nk:IntKind}:∀ {vs:List SV} {m:Mem} {p:Prop} {r:List RC} {u:Upd} {f:Bool},MemSat w0 W m w->Dem m0 m->rcsOf (lkN no (lk m0)) nk vs=some (p,r,u,f)->p ->
  MemSat w0 W (apU m u) w/\Dem m0 (apU m u)/\(∀ fr M k xs,Shown w0 fr m w M k xs->Shown w0 fr (apU m u) w M k xs)/\(∀ M k xs,RC.row M k xs∈r->Shown w0 f (apU m u) w M k xs) /\
   (∀ xs,Dens vs xs->Dens (r.map RC.sv) xs)/\r.length=vs.length/\vs.all size1=true
 | [],m,p,r,u,f,hm,hd,h,hp=>by
  simp only[rcsOf]at h
  cases h
  exact⟨hm,hd,fun _ _ _ _ h=>h,fun _ _ _ h=>(by simp at h),fun _ h=>h,rfl,rfl⟩
 | v::vs,m,p,r,u,f,hm,hd,h,hp=>by
  simp only[rcsOf]at h
  split at h
  case h_2=>cases h
  rename_i p1 r1 u1 f1 p2 r2 u2 f2 h1 h2
  cases h
  obtain⟨a1,a2,a3,a4,a5,a6⟩:=rcOf_ok hm hd h1 hp.1
  obtain⟨b1,b2,b3,b4,b5,b6,b7⟩:=rcsOf_ok a1 a2 h2 hp.2
  rw[apU_append]
  refine⟨b1,b2,fun fr M k xs h=>b3 _ _ _ _ (a3 _ _ _ _ h),fun M k xs h=>?_,fun xs h=>?_,by simp[b6],by simp[a6,b7]⟩
  ·rcases List.mem_cons.1 h with h | h
   ·exact(b3 _ _ _ _ (a4 _ _ _ h.symm)).le (fun hh=>by simp only[Bool.and_eq_true]at hh;exact hh.1)
   ·exact(b4 _ _ _ h).le (fun hh=>by simp only[Bool.and_eq_true]at hh;exact hh.2)
  ·simp only[Dens,List.map_cons]at h ⊢
   obtain⟨x,xs',rfl,hx,hxs⟩:=h
   exact⟨x,xs',rfl,a5 x hx,b5 xs' hxs⟩
theorem recOf_ok {m0:Mem} {no:Lim} {nk:IntKind} {s:Nat} {v:SV} {m:Mem} {p:Prop} {r:List RC} {u:Upd} {f:Bool} (hm:MemSat w0 W m w) (hd:Dem m0 m) (h:recOf (lkN no (lk m0)) nk s v=some (p,r,u,f)) (hp:p) :
  MemSat w0 W (apU m u) w/\Dem m0 (apU m u)/\(∀ fr M k xs,Shown w0 fr m w M k xs->Shown w0 fr (apU m u) w M k xs)/\(∀ M k xs,RC.row M k xs∈r->Shown w0 f (apU m u) w M k xs) /\
   (∀ x,Den v x->Dens (r.map RC.sv) x.cells.toList)/\r.length=s:=by
 unfold recOf at h
 split at h
 ·rename_i cs
  by_cases hl:cs.length=s
  case neg=>simp[hl]at h
  simp only[hl,decide_true,cond_true]at h
  obtain⟨a1,a2,a3,a4,a5,a6,a7⟩:=rcsOf_ok hm hd h hp
  refine⟨a1,a2,a3,a4,fun x hx=>?_,by omega⟩
  simp only[Den]at hx
  obtain⟨xs,rfl,hxs⟩:=hx
  simpa [Value.cells]using a5 xs hxs
 ·by_cases hs:s=1
  case neg=>simp[hs]at h
  simp only[hs,decide_true,cond_true]at h
  obtain⟨a1,a2,a3,a4,a5,a6,a7⟩:=rcsOf_ok hm hd h hp
  refine⟨a1,a2,a3,a4,fun x hx=>?_,by rw[a6,hs];rfl⟩
  simp only[List.all_cons,List.all_nil,Bool.and_true]at a7
  rw[(hx.one a7).2]
  exact a5 [x] (by simp only[Dens];exact⟨_,_,rfl,hx,rfl⟩)
def setsR (r:List RC) (f:Nat):List RC->List RC
 | []=>r
 | v::vs=>setsR (r.set f v) (f+1) vs
theorem setsR_eq:∀ (vs:List RC) (r:List RC) (f:Nat),f+vs.length=r.length->setsR r f vs=r.take f++vs
 | [],r,f,h=>by simp[setsR];rw[List.take_of_length_le (by simp at h;omega)]
 | v::vs,r,f,h=>by
  simp only[List.length_cons]at h
  simp only[setsR]
  rw[setsR_eq vs (r.set f v) (f+1) (by simp;omega)]
  have:(r.set f v).take (f+1)=r.take f++[v]:=by
   rw[List.take_succ_eq_append_getElem (by simp;omega)]
   simp[List.take_set_of_le]
  rw[this];simp
theorem RC.size1 (c:RC):size1 c.sv=true:=by cases c<;>rfl
theorem wrR_ok {c:Nat} {own:Own} {L:Loc} {s:Nat} {fr fr':Bool} {z:List RC} {i:Nat} (ho:own.wr=true) (hfr:fr'=true->fr=true):∀ (rs:List RC) (us:List Value) (m:Mem) (w:World) (l:List (List RC)) (f j:Nat),MemSat w0 W m w->Kept b1 w0 W w ->
  lk m c=some (own,L,.recs s fr z l)->i<l.length->f+j+rs.length<=s->Dens (rs.map RC.sv) us->(∀ M k xs,RC.row M k xs∈rs->Shown w0 fr' m w M k xs) ->
  ∃ w',(storeCells (L.ad (i*s+f)) us j).run P w=.ok () w'/\MemSat w0 W (st m c (some (own,L,.recs s fr' z (l.set i (setsR (l.getD i []) (f+j) rs))))) w'/\Kept b1 w0 W w'
 | [],us,m,w,l,f,j,hm,hk,hc,hi,hl,hd,hsh=>by
  simp only[List.map_nil,Dens]at hd;subst hd
  refine⟨w,by simp[storeCells],?_,hk⟩
  have:l.set i (l.getD i [])=l:=by simp[List.getD_eq_getElem?_getD,hi]
  simp only[setsR,this]
  have hck:=hm.chunk c _ hc
  exact hm.turn hc ⟨hck.cell,fun M k xs hr=>(hck.row M k xs hr).imp id fun h=>h.imp id fun h=>h.imp id fun h hf=>h (hfr hf),hck.self,hck.mineW,hck.fits,hck.home⟩ (fun _ h=>h) (fun _ h=>h)
 | v::rs,us,m,w,l,f,j,hm,hk,hc,hi,hl,hd,hsh=>by
  simp only[List.map_cons,Dens]at hd
  obtain⟨u,us',rfl,hv,hd⟩:=hd
  simp only[List.length_cons]at hl
  obtain⟨f1,f2,f3,f4⟩:=(hm.chunk c _ hc).fits
  have hrl:(l.getD i []).length=s:=f4 _ (by simp[List.getD_eq_getElem?_getD,hi])
  have hlt:i*s+(f+j)<l.length*s:=by
   have:(i+1)*s<=l.length*s:=Nat.mul_le_mul_right _ (by omega)
   rw[Nat.add_mul,Nat.one_mul]at this
   omega
  have hrows:∀ M k xs,(Chunk.recs s fr' z (l.set i ((l.getD i []).set (f+j) v))).rows M k xs->Shown w0 fr' m w M k xs:=by
   intro M k xs ⟨r,hr,hx⟩
   rcases List.mem_or_eq_of_mem_set hr with hr | rfl
   ·exact(shown_row hm hc ⟨r,hr,hx⟩).le hfr
   ·rcases List.mem_or_eq_of_mem_set hx with hx | hx
    ·exact(shown_row hm hc ⟨_,by simp[List.getD_eq_getElem?_getD,hi],hx⟩).le hfr
    ·exact hsh M k xs (by simp[hx])
  obtain⟨w1,hr,hm1,hk1,hs1⟩:=store_ok (P:=P) hm hk hc ho (o:=i*s+(f+j)) (ch':=.recs s fr' z (l.set i ((l.getD i []).set (f+j) v))) (by simpa [Chunk.len]using hlt) hv (hv.one v.size1).1 (by simp[Chunk.len]) (by simp[Chunk.ext])
   ⟨by simpa using f1,f2,f3,fun r hr=>by
    rcases List.mem_or_eq_of_mem_set hr with hr | rfl
    ·exact f4 r hr
    ·simpa using hrl⟩
   (fun o hlo=>by
    simp only[Chunk.len]at hlo
    simp only[Chunk.cell]
    have hdm:o=(o / s)*s+o % s:=by rw[Nat.mul_comm];exact(Nat.div_add_mod o s).symm
    have hms:o % s<s:=Nat.mod_lt _ f3
    by_cases e:o=i*s+(f+j)
    ·rw[if_pos e,e,rcAt_idx (by omega)]
     congr 1
     simp[List.getD_eq_getElem?_getD,hi]
     rw[List.getElem?_set_self (by have:=hrl;simp[List.getD_eq_getElem?_getD,hi]at this;omega)]
     rfl
    ·rw[if_neg e]
     congr 1
     unfold rcAt
     by_cases e2:o / s=i
     ·have e3:¬ (f+j=o % s):=by
       intro h;apply e;rw[hdm,e2,h]
      simp[e2,List.getD_eq_getElem?_getD,hi,e3]
     ·simp[List.getD_eq_getElem?_getD,Ne.symm e2]) hrows
  obtain⟨w2,hr2,hm2,hk2⟩:=wrR_ok (fr:=fr') ho id rs us' _ w1 (l.set i ((l.getD i []).set (f+j) v)) f (j+1) hm1 hk1 (by rw[lk_st,if_pos ⟨rfl,lk_lt hc⟩]) (by simpa using hi) (by omega) hd (fun M k xs h=>hs1 _ _ _ _ (hsh M k xs (by simp[h])))
  refine⟨w2,?_,?_,hk2⟩
  ·rw[<-hr2]
   simp only[storeCells,Sem.run_bind]
   rw[ad_add,Nat.add_assoc,hr]
   rfl
  ·rw[st_st]at hm2
   have e:(l.set i ((l.getD i []).set (f+j) v)).getD i []=(l.getD i []).set (f+j) v:=by simp[List.getD_eq_getElem?_getD,hi]
   rw[e]at hm2
   simpa [setsR,Nat.add_assoc]using hm2
theorem done_store (hT:∀ t tt,tab t=some tt->TtOk P t tt) (hs:SlotsOk sl a) (hm:MemSat w0 W m w) (hk:Kept b1 w0 W w)
  {t:TypeId} {X Y:Operand} {tt:TT} {ax ay:Opd} {rr:Bool} {nk:IntKind} (htt:tab t=some tt) (hax:opd X=some ax) (hay:opd Y=some ay)
  (hx:∀ x,∃ p v u,stepF sp spP no x sl (lk m) (.sto rr tt.size nk ax ay)=some (p,v,u)/\p) :
  Done P sp spP no sl m b1 w0 W (.sto rr tt.size nk ax ay) ((do Instr.storeAt t (a.eval X) (a.eval Y);pure Next.skip:Sem Next).run P w):=by
 obtain⟨p,v,u,h,hp⟩:=hx (fun _=>default)
 have h0:=h
 have hp0:=hp
 simp only[stepF]at h
 obtain⟨v0,p',hd,hf,hp'⟩:=o1_den h hp hax hs
 obtain⟨v1,p'',hd1,hf1,hp''⟩:=o1_den hf hp' hay hs
 cases v0<;>simp only at hf1<;>try cases hf1
 rename_i c L i s f
 split at hf1
 case h_2=>cases hf1
 rename_i own L' ch hl
 have htk:=hT t tt htt
 obtain⟨i0,hi0,hsz,_⟩:=htk.info
 simp only[Den]at hd
 have hl:=lkK_some hl
 have hown:own.wr=true:=by cases hw:own.wr<;>simp[hw]at hf1 ⊢
 have fin:∀ w',L'=L->(storeCells (L'.ad (i.toNat*s+f)) (a.eval Y).cells.toList).run P w=.ok () w'->(a.eval Y).cells.size=tt.size->v=.val undef ->
   MemSat w0 W (apU m u) w'->Kept b1 w0 W w' ->
   Done P sp spP no sl m b1 w0 W (.sto rr tt.size nk ax ay) ((do Instr.storeAt t (a.eval X) (a.eval Y);pure Next.skip:Sem Next).run P w):=by
  intro w' hLL hr hsz' hv hm' hk'
  subst hLL
  refine⟨_,_,_,_,undef,w',h0,hp0,.inr ⟨?_,rfl⟩,by rw[hv];rfl,hm',hk'⟩
  simp only[Sem.run_bind,Instr.storeAt,hd,Instr.sureAddr,Sem.run_pure,Result.andThen,storeVar]
  simp[size_run hi0,hsz,hsz',hr,Result.andThen]
 by_cases hrec:∃ s' fr z l,ch=.recs s' fr z l
 ·obtain⟨s',fr,z,l,rfl⟩:=hrec
  have hf2:(match stR (lkN no (lk m)) nk tt.size i s f s' z l v1 with
      | none=>(none:R)
      | some (p,l',d,fr')=>some (L'=L/\p,.val undef,d++[(c,some (own,L',.recs s' (fr&&fr') z l'))]))=some (p'',v,u):=by
   rw[hown]at hf1;exact hf1
  clear hf1
  unfold stR at hf2
  cases hc:(decide (s=s')&&decide (f+tt.size<=s))with
  | false=>rw[hc]at hf2;cases hf2
  | true=>
   rw[hc]at hf2
   simp only[Bool.and_eq_true,decide_eq_true_eq]at hc
   obtain⟨rfl,hfs⟩:=hc
   simp only[cond_true]at hf2
   cases hr:recOf (lkN no (lk m)) nk tt.size v1 with
   | none=>rw[hr]at hf2;cases hf2
   | some q=>
    obtain⟨q,r,d,f'⟩:=q
    rw[hr]at hf2
    simp only at hf2
    have key:∀ l',(q->0<=i->i<l.length->l'=l.set i.toNat (setsR (l.getD i.toNat []) f r))->some (L'=L/\(q/\0<=i/\i<l.length),SV.val undef,d++[(c,some (own,L',Chunk.recs s (fr&&f') z l'))])=some (p'',v,u) ->
      Done P sp spP no sl m b1 w0 W (.sto rr tt.size nk ax ay) ((do Instr.storeAt t (a.eval X) (a.eval Y);pure Next.skip:Sem Next).run P w):=by
     intro l' hl' he
     cases he
     obtain⟨rfl,hq,g0,g1⟩:=hp''
     obtain rfl:=hl' hq g0 g1
     obtain⟨a1,a2,a3,a4,a5,a6⟩:=recOf_ok hm (Dem.refl m) hr hq
     have hlc:=a2.rest c own L' _ hl (fun k xs e=>by cases e)
     have hds:=a5 _ hd1
     obtain⟨w',b1,b2,b3⟩:=wrR_ok (P:=P) (fr':=fr&&f') hown (fun h=>by simp only[Bool.and_eq_true]at h;exact h.1) r (a.eval Y).cells.toList _ w l f 0 a1 hk hlc (i:=i.toNat) (by omega) (by omega) hds (fun M k xs h=>(a4 M k xs h).le fun h=>by simp only[Bool.and_eq_true]at h;exact h.2)
     refine fin w' rfl b1 (by have:=hds.length;simp at this;omega) rfl ?_ b3
     rw[apU_append]
     simpa [apU]using b2
    by_cases hn:tt.size=s
    ·rw[hn]at hf2 hr
     simp only[decide_true,cond_true]at hf2
     refine key (l.set i.toNat r) (fun hq g0 g1=>?_) hf2
     obtain⟨_,_,_,_,_,a6⟩:=recOf_ok hm (Dem.refl m) hr hq
     obtain⟨f1,f2,f3,f4⟩:=(hm.chunk c _ hl).fits
     have hlt:i.toNat<l.length:=by omega
     have hlen:(l.getD i.toNat []).length=s:=f4 _ (by simp[List.getD_eq_getElem?_getD,hlt])
     have:f=0:=by omega
     subst this
     rw[setsR_eq _ _ _ (by omega)]
     simp
    ·simp only[hn,decide_false,cond_false]at hf2
     rcases r with _ | ⟨cc,_ | ⟨_,_⟩⟩<;>simp only at hf2<;>first | (cases hf2;done) | skip
     refine key _ (fun hq g0 g1=>?_) hf2
     have:=(recAt_lt (z:=z) g1 g0).1
     simp[setsR,setR_eq,this]
 have hf2:(match (match v1 with
      | .agg us=>bif decide (us.length=tt.size)then wrn i s f us ch else none
      | u=>bif decide (tt.size=1)then wrc i s f u ch else none)with
     | none=>(none:R)
     | some (p,ch')=>some (L'=L/\p,.val undef,[(c,some (own,L',ch'))]))=some (p'',v,u):=by
  rw[hown]at hf1
  cases ch<;>first | exact absurd ⟨_,_,_,_,rfl⟩ hrec | exact hf1
 clear hf1
 split at hf2
 case h_1=>cases hf2
 rename_i q ch' hq
 cases hf2
 obtain⟨rfl,hq'⟩:=hp''
 by_cases hagg:∃ us,v1=.agg us
 ·obtain⟨us,rfl⟩:=hagg
  simp only at hq
  by_cases hlen:us.length=tt.size
  ·simp only[hlen,decide_true,cond_true]at hq
   simp only[Den]at hd1
   obtain⟨vs,hvs,hds⟩:=hd1
   have hcl:(a.eval Y).cells.toList=vs:=by rw[hvs];simp[Value.cells]
   have hsz2:(a.eval Y).cells.size=tt.size:=by rw[hvs];have:=hds.length;simp[Value.cells,this,hlen]
   cases ch with
   | cells cs=>
    simp only[wrn]at hq
    split at hq
    ·cases hq
    ·rename_i l hl'
     cases hall:us.all size1 with
     | false=>simp[hall]at hq
     | true=>
      simp only[hall,cond_true]at hq
      cases hq
      have ht:=(takeL_some hl').2
      rw[dropL_eq]at ht
      simp at ht
      rcases Nat.eq_zero_or_pos us.length with hz | hz
      ·
       have:vs=[]:=by have:=hds.length;rw[hz]at this;simpa using this
       subst this
       have hus:us=[]:=by simpa using hz
       subst hus
       refine fin w rfl (by rw[hcl];simp[storeCells]) hsz2 rfl ?_ hk
       simpa [apU,setsL,st_same _ _ _ hl]using hm
      ·obtain⟨w',hr,hm',hk'⟩:=wrs_ok (P:=P) hown us vs m w cs (i.toNat*s+f) 0 hm hk hl hall (by omega) hds
       refine fin w' rfl (by rw[hcl];simpa using hr) hsz2 rfl (by simpa [apU]using hm') hk'
   | ints k xs=>
    simp only[wrn]at hq
    split at hq
    case h_2=>cases hq
    split at hq
    ·cases hq
    rename_i ys hys
    cases hq
    have hg:=asInts_get' hys
    rw[hg]at hds
    obtain⟨w',hr,hm',hk'⟩:=wrI_ok (P:=P) hown ys vs m w xs 0 hm hk hl (by omega) hds
    refine fin w' rfl (by rw[hcl];simpa using hr) hsz2 rfl (by simpa [apU]using hm') hk'
   | bools xs=>simp[wrn]at hq
   | recs s' fr z l=>exact absurd ⟨_,_,_,_,rfl⟩ hrec
  ·simp[hlen]at hq
 ·have hq2:(bif decide (tt.size=1)then wrc i s f v1 ch else none)=some (q,ch'):=by
   cases v1<;>first | exact hq | exact absurd ⟨_,rfl⟩ hagg
  by_cases h1:tt.size=1
  ·simp only[h1,decide_true,cond_true]at hq2
   obtain⟨hcells,w',hr,hm',hk'⟩:=wrc_ok (P:=P) hm hk hl hown hq2 hq' hd1
   refine fin w' rfl ?_ (by rw[hcells,h1];rfl) rfl (by simpa [apU]using hm') hk'
   rw[hcells]
   simp only[storeCells,Sem.run_bind]
   rw[show(L'.ad (i.toNat*s+f)).add 0=L'.ad (i.toNat*s+f) by rw[ad_add];simp,hr]
   simp[storeCells,Result.andThen]
  ·simp[h1]at hq2
theorem made_ok (hm:MemSat w0 W m w) (hk:Kept b1 w0 W w) (k:Nat) (C:Array Value) (t:TypeId) (L:Loc) (ch:Chunk) (hb:L.b=w.heap.size) (hL0:L.o=0)
  (hcell:∀ o,o<ch.len->∃ v,C[o]?=some v/\Den (ch.cell o) v) (hext:ch.ext L<=C.size) (hfit:ch.fits L) (hrow:∀ L' k xs,ch.rows L' k xs->Shown w0 ch.fr m w L' k xs) :
  MemSat w0 W (st m k (some (.mine,L,ch))) (w.alloc (.cells C t))/\Kept b1 w0 W (w.alloc (.cells C t)):=by
 have had:∀ o,L.ad o=⟨w.heap.size,o,none⟩:=fun o=>by simp[Loc.ad,hb,hL0]
 have hnew:∀ {a:Addr} {v:Value},w.cell? a=some v->∀ o,a≠L.ad o:=fun {a v} hv o e=>by
  have:=World.block_lt_of_cell? _ _ hv
  rw[e,had]at this
  simp at this
 refine⟨?_,hk.trans (Kept.alloc w _ _) (fun _ h _=>h)⟩
 refine(hm.alloc _).put k _ ⟨fun o ho=>?_,fun L' kk xs hr=>?_,fun a ha ⟨L',kk,xs,hr,o,ho,e⟩=>?_,fun _ o ho=>?_,hfit,fun o _=>?_⟩ (fun d f hd hf a=>⟨fun ha hra=>?_,fun ha hra=>?_⟩)
 ·obtain⟨v,hv,hd⟩:=hcell o ho
  exact⟨v,by simp only[had];simp[hv],hd⟩
 ·have hs:=hrow _ _ _ hr
  refine⟨hs.cap,hs.nil,fun o ho=>?_,hs.fresh⟩
  rw[World.cell?_alloc_lt w _ _ (World.block_lt_of_cell? _ _ (hs.cell o ho))]
  exact hs.cell o ho
 ·obtain⟨_,o',_,e'⟩:=ha
  exact hnew ((hrow _ _ _ hr).cell o ho) o' (e▸e')
 ·simp only at ho
  have:o<C.size:=by omega
  exact⟨by simp only[had];simp[this],by simp only[had];simp⟩
 ·simp only[had,homeOk];exact hk.size
 ·obtain⟨v,hv⟩:=(hm.chunk d f hf).regSome hra
  obtain⟨_,o,_,e⟩:=ha
  exact hnew hv o e
 ·rcases hra with ⟨o,_,e⟩ | ⟨L',kk,xs,hr,o,ho,e⟩
  ·obtain⟨v,hv⟩:=(hm.chunk d f hf).regSome (wf_rf ha)
   exact hnew hv o e
  ·exact(hrow _ _ _ hr).far d f hf o ho (e▸ha)
theorem done_box (hs:SlotsOk sl a) (hm:MemSat w0 W m w) (hk:Kept b1 w0 W w) {t:TypeId} {X:Operand} {k:Nat} {ax:Opd} (hax:opd X=some ax)
  (hx:∀ x,∃ p v u,stepF sp spP no x sl (lk m) (.box k ax)=some (p,v,u)/\p) :
  Done P sp spP no sl m b1 w0 W (.box k ax) ((do pure (Next.value (<-Instr.box t (a.eval X))):Sem Next).run P w):=by
 obtain⟨p,v,u,h,hp⟩:=hx (fun _=>⟨w.heap.size,0,false,0⟩)
 have h0:=h
 simp only[stepF]at h
 obtain⟨v0,p',hd,hf,hp'⟩:=o1_den h hp hax hs
 split at hf
 ·cases hf
 ·rename_i cs hcs
  cases hf
  have hds:=hd.cells hcs
  obtain⟨hm',hk'⟩:=made_ok hm hk k (a.eval X).cells t ⟨w.heap.size,0,false,0⟩ (.cells cs) rfl rfl
   (fun o ho=>by
    simp only[Chunk.len]at ho
    obtain⟨v,hv,hd⟩:=hds.get (i:=o) (c:=cs[o]) (by simp[ho])
    exact⟨v,by simpa using hv,by simpa [Chunk.cell,List.getD_eq_getElem?_getD,ho]using hd⟩)
   (by have:=hds.length;simp only[Chunk.ext];simp at this;omega) rfl (fun _ _ _ h=>h.elim)
  refine⟨_,_,_,_,.pointer (some ⟨w.heap.size,0,none⟩),_,h0,hp,.inl ?_,by simp[Den,Loc.ad],by simpa [apU]using hm',hk'⟩
  simp[Instr.box,newVar,newRow,Result.andThen]
theorem done_alloc (hT:∀ t tt,tab t=some tt->TtOk P t tt) (hm:MemSat w0 W m w) (hk:Kept b1 w0 W w) {t:TypeId} {tt:TT} {k:Nat} (htt:tab t=some tt)
  (hx:∀ x,∃ p v u,stepF sp spP no x sl (lk m) (.alloc k tt.zero)=some (p,v,u)/\p) :
  Done P sp spP no sl m b1 w0 W (.alloc k tt.zero) ((do pure (Next.value (<-Instr.alloc t true (.tuple #[]))):Sem Next).run P w):=by
 obtain⟨p,v,u,h,hp⟩:=hx (fun _=>⟨w.heap.size,0,false,0⟩)
 have h0:=h
 simp only[stepF]at h
 cases h
 obtain⟨i0,hi0,hsz,_,z,hz,hds,_⟩:=(hT t tt htt).info
 obtain⟨hm',hk'⟩:=made_ok hm hk k z.cells t ⟨w.heap.size,0,false,0⟩ (.cells tt.zero) rfl rfl
  (fun o ho=>by
   simp only[Chunk.len]at ho
   obtain⟨v,hv,hd⟩:=hds.get (i:=o) (c:=tt.zero[o]) (by simp[ho])
   exact⟨v,by simpa using hv,by simpa [Chunk.cell,List.getD_eq_getElem?_getD,ho]using hd⟩)
  (by have:=hds.length;simp only[Chunk.ext];simp at this;omega) rfl (fun _ _ _ h=>h.elim)
 refine⟨_,_,_,_,.pointer (some ⟨w.heap.size,0,none⟩),_,h0,hp,.inl ?_,by simp[Den,Loc.ad],by simpa [apU]using hm',hk'⟩
 simp[Instr.alloc,newVar,newRow,zero_run hi0 hz,Result.andThen]
end Go.Proofs.YtaofjnkpkocgjaaGreat.Xf
end
section 
namespace Go.Proofs.YtaofjnkpkocgjaaGreat.Xf
variable {P:Program} {sp:Sp} {spP:SpP} {no:Lim} {sl:List Ent} {m:Mem} {b1 w0 w:World} {W:Addr->Prop} {a:Act} {tab:Tab} {isP:FuncId->Bool}
theorem done_mov (hs:SlotsOk sl a) (hm:MemSat w0 W m w) (hk:Kept b1 w0 W w) {X:Operand} {ax:Opd} (hax:opd X=some ax)
  (hx:∀ x,∃ p v u,stepF sp spP no x sl (lk m) (.mov ax)=some (p,v,u)/\p) :
  Done P sp spP no sl m b1 w0 W (.mov ax) (.ok (.value (a.eval X)) w):=by
 refine done_of hm hk (fun x p v u h hp=>?_) hx
 simp only[stepF]at h
 obtain⟨v0,p',hd,hf,hp'⟩:=o1_den h hp hax hs
 cases hf
 exact⟨rfl,_,rfl,hd⟩
theorem en_den (hs:SlotsOk sl a) {X:Operand} {ax:Opd} (hax:opd X=some ax) {c:Bool} {v:SV} (h:en sl ax=some (c,v)) (hc:c=true):Den v (a.eval X):=
 opd_den hax hs h hc
theorem done_pick (hs:SlotsOk sl a) (hm:MemSat w0 W m w) (hk:Kept b1 w0 W w) {C X Y:Operand} {c ax ay:Opd} (hc:opd C=some c) (hax:opd X=some ax) (hay:opd Y=some ay)
  (hx:∀ x,∃ p v u,stepF sp spP no x sl (lk m) (.pick c ax ay)=some (p,v,u)/\p) :
  Done P sp spP no sl m b1 w0 W (.pick c ax ay) ((do pure (Next.value (if <-asBool (a.eval C)then a.eval X else a.eval Y)):Sem Next).run P w):=by
 refine done_of hm hk (fun x p v u h hp=>?_) hx
 simp only[stepF]at h
 split at h
 case h_2=>cases h
 rename_i cc g ca va cb vb h1 h2 h3
 split at h
 ·cases h
 rename_i v' hv
 cases h
 obtain⟨hcc,hca,hcb⟩:=hp
 have hd:=en_den hs hc h1 hcc
 simp only[Den]at hd
 refine⟨rfl,if g then a.eval X else a.eval Y,by cases g<;>simp[hd,asBool],?_⟩
 cases g with
 | true=>
  have hdx:=en_den hs hax h2 (hca rfl)
  unfold pickSV at hv
  split at hv
  ·cases hv;simpa using hdx
  ·rename_i k x k' y
   by_cases e:k=k'<;>simp[e]at hv
   subst hv;subst e
   simpa using hdx
  ·cases hv
 | false=>
  have hdy:=en_den hs hay h3 (hcb rfl)
  unfold pickSV at hv
  split at hv
  ·cases hv;simpa using hdy
  ·rename_i k x k' y
   by_cases e:k=k'<;>simp[e]at hv
   subst hv;subst e
   simpa using hdy
  ·cases hv
theorem inR_wrap {k:IntKind} {n:Int} (h:inR k n):k.wrap n=n:=by
 cases k<;>simp only[inR]at h<;>simp[IntKind.wrap,IntKind.bits,IntKind.signed]<;>omega
theorem upTo_some {x:Option (Prop×SV)} {p:Prop} {v:SV} {u:Upd} (h:upTo x=some (p,v,u)):x=some (p,v)/\u=[]:=by
 unfold upTo at h
 split at h
 ·cases h
 ·cases h;exact⟨rfl,rfl⟩
theorem run_shift (op:BinOp) (k:IntKind) (x y:Int) (yk:IntKind) (h0:0<=y) (h1:y<=k.bits) (w:World) :
  (Op.shift .shl k x yk y).run P w=.ok (.int k (k.wrap (x*2^y.toNat))) w/\(Op.shift .shr k x yk y).run P w=.ok (.int k (x / 2^y.toNat)) w:=by
 have hn:¬ y<0:=by omega
 have hm:min y.toNat k.bits=y.toNat:=by omega
 refine⟨by simp[Op.shift,hn,hm],?_⟩
 simp only[Op.shift,hn,if_false,hm]
 have:x.fdiv (2^y.toNat)=x / 2^y.toNat:=Int.fdiv_eq_ediv_of_nonneg x (by exact Int.le_of_lt (Int.pow_pos (by omega)))
 simp[this]
theorem binInt_run {t:TypeId} {w':Nat} {op:BinOp} {k:IntKind} {x y:Int} {p:Prop} {v:SV} (h:binInt w' k x y op=some (p,v)) (hp:p) (w:World) :
  ∃ rv,(binOp op t (.int k x) (.int k y)).run P w=.ok rv w/\Den v rv:=by
 cases op<;>simp only[binInt]at h
 case and=>cases h;exact⟨_,by simp[binOp,Op.intBits];rfl,by simp[Den,bitop]⟩
 case or=>cases h;exact⟨_,by simp[binOp,Op.intBits];rfl,by simp[Den,bitop]⟩
 case xor=>cases h;exact⟨_,by simp[binOp,Op.intBits];rfl,by simp[Den,bitop]⟩
 case andNot=>cases h;exact⟨_,by simp[binOp,Op.intBits];rfl,by simp[Den,bitop]⟩
 case eql=>cases h;exact⟨.bool (x==y),by simp[binOp,Op.intCmp],by simp only[Den];congr 1⟩
 case neq=>cases h;exact⟨.bool (x != y),by simp[binOp,Op.intCmp],by simp only[Den];congr 1⟩
 case lss=>cases h;exact⟨.bool (decide (x<y)),by simp[binOp,Op.intCmp],by simp only[Den]⟩
 case leq=>cases h;exact⟨.bool (decide (x<=y)),by simp[binOp,Op.intCmp],by simp only[Den]⟩
 case gtr=>cases h;exact⟨.bool (decide (x>y)),by simp[binOp,Op.intCmp],by simp only[Den,GT.gt]⟩
 case geq=>cases h;exact⟨.bool (decide (x>=y)),by simp[binOp,Op.intCmp],by simp only[Den,GE.ge]⟩
 case add=>
  split at h<;>cases h
  ·exact⟨_,by simp[binOp,Op.intArith];rfl,by simp[Den,inR_wrap hp]⟩
  ·exact⟨_,by simp[binOp,Op.intArith];rfl,by simp[Den]⟩
 case sub=>
  split at h<;>cases h
  ·exact⟨_,by simp[binOp,Op.intArith];rfl,by simp[Den,inR_wrap hp]⟩
  ·exact⟨_,by simp[binOp,Op.intArith];rfl,by simp[Den]⟩
 case mul=>
  split at h<;>cases h
  ·exact⟨_,by simp[binOp,Op.intArith];rfl,by simp[Den,inR_wrap hp]⟩
  ·exact⟨_,by simp[binOp,Op.intArith];rfl,by simp[Den]⟩
 case quo=>
  split at h<;>cases h
  ·obtain⟨h0,h1,h2⟩:=hp
   have e:x.tdiv y=x / y:=Int.tdiv_eq_ediv_of_nonneg h0
   exact⟨_,by simp[binOp,Op.intDiv,show y≠0 by omega,e];rfl,by simp[Den,inR_wrap h2]⟩
  ·obtain⟨h1,h2⟩:=hp
   exact⟨_,by simp[binOp,Op.intDiv,h1];rfl,by simp[Den,inR_wrap h2]⟩
 case rem=>
  split at h<;>cases h
  ·obtain⟨h0,h1⟩:=hp
   have e:x.tmod y=x % y:=Int.tmod_eq_emod_of_nonneg h0
   exact⟨_,by simp[binOp,Op.intDiv,show y≠0 by omega,e];rfl,by simp[Den]⟩
  ·exact⟨_,by simp[binOp,Op.intDiv,hp];rfl,by simp[Den]⟩
 all_goals cases h
end Go.Proofs.YtaofjnkpkocgjaaGreat.Xf
end
section 
namespace Go.Proofs.YtaofjnkpkocgjaaGreat.Xf
variable {P:Program} {sp:Sp} {spP:SpP} {no:Lim} {sl:List Ent} {m:Mem} {b1 w0 w:World} {W:Addr->Prop} {a:Act} {tab:Tab} {isP:FuncId->Bool}
theorem eqGuard_run (op:BinOp) (t:TypeId) (x y:Operand) {u v:Value} (hu:u.oneCell'=true) (hu2:u≠.nilIface) (w:World):(eqGuard op t x y u v).run P w=.ok () w:=by
 unfold eqGuard
 cases u<;>simp[Value.oneCell']at hu hu2<;>(simp only[Sem.run_bind];split<;>simp[Result.andThen])
theorem sv_notNilIface {s:SV} {v:Value} (h:Den s v) (h1:size1 s=true):v≠.nilIface:=by
 cases s<;>simp[size1]at h1<;>simp only[Den]at h
 ·subst h;simp
 ·subst h;simp
 ·subst h;simp
 ·obtain⟨_,_,_,_,A,rfl,_⟩:=h;simp
 ·obtain⟨vs,rfl,_⟩:=h;simp
theorem done_bin (hs:SlotsOk sl a) (hm:MemSat w0 W m w) (hk:Kept b1 w0 W w) {t:TypeId} {g:Nat} {op:BinOp} {X Y:Operand} {ax ay:Opd} (hax:opd X=some ax) (hay:opd Y=some ay)
  (hx:∀ x,∃ p v u,stepF sp spP no x sl (lk m) (.bin g op ax ay)=some (p,v,u)/\p) :
  Done P sp spP no sl m b1 w0 W (.bin g op ax ay) ((do let v <-(do eqGuard op t X Y (a.eval X) (a.eval Y);binOp op t (a.eval X) (a.eval Y));pure (Next.value v):Sem Next).run P w):=by
 refine done_of hm hk (fun x p v u h hp=>?_) hx
 simp only[stepF]at h
 obtain⟨v0,p',hd,hf,hp'⟩:=o1_den h hp hax hs
 obtain⟨v1,p'',hd1,hf1,hp''⟩:=o1_den hf hp' hay hs
 obtain⟨hb,rfl⟩:=upTo_some hf1
 refine⟨rfl,?_⟩
 unfold binSV at hb
 split at hb
 case h_2=>cases hb
 rename_i k x k' y
 simp only[Den]at hd hd1
 have hg:=eqGuard_run (P:=P) op t X Y (u:=.int k x) (v:=.int k' y) rfl (by simp) w
 have key:∃ rv,(binOp op t (.int k x) (.int k' y)).run P w=.ok rv w/\Den v rv:=by
  split at hb
  ·simp only[shInt]at hb
   split at hb<;>cases hb
   ·obtain⟨h0,h1,h2⟩:=hp''
    exact⟨_,(run_shift .shl k x y k' h0 h1 w).1,by simp[Den,inR_wrap h2]⟩
   ·obtain⟨h0,h1⟩:=hp''
    exact⟨_,(run_shift .shl k x y k' h0 h1 w).1,by simp[Den]⟩
  ·simp only[shInt]at hb
   cases hb
   obtain⟨h0,h1⟩:=hp''
   exact⟨_,(run_shift .shr k x y k' h0 h1 w).2,by simp[Den]⟩
  ·by_cases e:k=k'
   ·subst e
    simp only[decide_true,cond_true]at hb
    exact binInt_run hb hp'' w
   ·simp[e]at hb
 obtain⟨rv,hr,hdv⟩:=key
 refine⟨rv,?_,hdv⟩
 simp only[Sem.run_bind,hd,hd1,hg,Result.andThen,hr,Sem.run_pure]
theorem equalIn_bool (d:Nat) {t:TypeId} (x y:Bool) (h:P.underlying t=some .bool) (w:World):(Op.equalIn (d+1) t (.bool x) (.bool y)).run P w=.ok (x==y) w:=by
 simp[Op.equalIn,run_underlying h,Result.andThen]
theorem equalIn_nil (d:Nat) {t e:TypeId} (A:Option Addr) (n c l k:Nat) (h:P.underlying t=some (.slice e)) (w:World):(Op.equalIn (d+1) t (.slice A n c) (.slice none l k)).run P w=.ok A.isNone w:=by
 cases A<;>simp[Op.equalIn,run_underlying h,Result.andThen]
theorem done_binB (hT:∀ t tt,tab t=some tt->TtOk P t tt) (hs:SlotsOk sl a) (hm:MemSat w0 W m w) (hk:Kept b1 w0 W w) {t:TypeId} {tt:TT} (htt:tab t=some tt) (hkind:tt.kind=.bool) {op:BinOp} {X Y:Operand} {ax ay:Opd} (hax:opd X=some ax) (hay:opd Y=some ay)
  (hx:∀ x,∃ p v u,stepF sp spP no x sl (lk m) (.binB op ax ay)=some (p,v,u)/\p) :
  Done P sp spP no sl m b1 w0 W (.binB op ax ay) ((do let v <-(do eqGuard op t X Y (a.eval X) (a.eval Y);binOp op t (a.eval X) (a.eval Y));pure (Next.value v):Sem Next).run P w):=by
 refine done_of hm hk (fun x p v u h hp=>?_) hx
 simp only[stepF]at h
 obtain⟨v0,p',hd,hf,hp'⟩:=o1_den h hp hax hs
 obtain⟨v1,p'',hd1,hf1,hp''⟩:=o1_den hf hp' hay hs
 obtain⟨hb,rfl⟩:=upTo_some hf1
 refine⟨rfl,?_⟩
 unfold binBSV at hb
 split at hb
 case h_2=>cases hb
 rename_i x y
 simp only[Den]at hd hd1
 have hg:=eqGuard_run (P:=P) op t X Y (u:=.bool x) (v:=.bool y) rfl (by simp) w
 obtain⟨d,hdesc,hkd⟩:=(hT t tt htt).desc
 rw[hkind]at hkd
 simp only[TKOk]at hkd
 subst hkd
 have he:(Op.equal t (.bool x) (.bool y)).run P w=.ok (x==y) w:=by
  exact equalIn_bool 9999 x y hdesc w
 split at hb<;>cases hb
 ·refine⟨.bool (x==y),?_,by simp only[Den]⟩
  simp only[Sem.run_bind,hd,hd1,hg,Result.andThen,Sem.run_pure,binOp,he]
 ·refine⟨.bool (x != y),?_,by simp only[Den]⟩
  simp only[Sem.run_bind,hd,hd1,hg,Result.andThen,Sem.run_pure,binOp,he]
  rfl
theorem done_binS (hT:∀ t tt,tab t=some tt->TtOk P t tt) (hs:SlotsOk sl a) (hm:MemSat w0 W m w) (hk:Kept b1 w0 W w) {t e:TypeId} {tt:TT} (htt:tab t=some tt) (hkind:tt.kind=.slice e) {op:BinOp} {X Y:Operand} {ax ay:Opd} (hax:opd X=some ax) (hay:opd Y=some ay)
  (hx:∀ x,∃ p v u,stepF sp spP no x sl (lk m) (.binS op ax ay)=some (p,v,u)/\p) :
  Done P sp spP no sl m b1 w0 W (.binS op ax ay) ((do let v <-(do eqGuard op t X Y (a.eval X) (a.eval Y);binOp op t (a.eval X) (a.eval Y));pure (Next.value v):Sem Next).run P w):=by
 refine done_of hm hk (fun x p v u h hp=>?_) hx
 simp only[stepF]at h
 obtain⟨v0,p',hd,hf,hp'⟩:=o1_den h hp hax hs
 obtain⟨v1,p'',hd1,hf1,hp''⟩:=o1_den hf hp' hay hs
 obtain⟨hb,rfl⟩:=upTo_some hf1
 refine⟨rfl,?_⟩
 unfold binSSV at hb
 split at hb
 case h_2=>cases hb
 rename_i c1 L s1 lo1 n1 c2 M s2 lo2 n2
 simp only[Den]at hd hd1
 obtain⟨_,_,_,_,A,hA,hAn,_⟩:=hd
 obtain⟨_,_,_,_,B,hB,hBn,_⟩:=hd1
 have hMn:M.nil=true:=by split at hb<;>cases hb<;>exact hp''
 rw[hMn]at hBn
 obtain rfl:B=none:=by cases B<;>simp at hBn ⊢
 obtain⟨d,hdesc,hkd⟩:=(hT t tt htt).desc
 rw[hkind]at hkd
 simp only[TKOk]at hkd
 subst hkd
 have hg:=eqGuard_run (P:=P) op t X Y (u:=a.eval X) (v:=a.eval Y) (by rw[hA];rfl) (by rw[hA];simp) w
 have he:(Op.equal t (a.eval X) (a.eval Y)).run P w=.ok L.nil w:=by
  rw[hA,hB,<-hAn]
  cases A<;>exact equalIn_nil 9999 _ _ _ _ _ hdesc w
 split at hb<;>cases hb
 ·refine⟨.bool L.nil,?_,by simp only[Den]⟩
  simp only[Sem.run_bind,hg,Result.andThen,Sem.run_pure]
  have:binOp .eql t (a.eval X) (a.eval Y)=(do pure (.bool (<-Op.equal t (a.eval X) (a.eval Y)))):=by rw[hA,hB];rfl
  rw[this]
  simp[he,Result.andThen]
 ·refine⟨.bool (!L.nil),?_,by simp only[Den]⟩
  simp only[Sem.run_bind,hg,Result.andThen,Sem.run_pure]
  have:binOp .neq t (a.eval X) (a.eval Y)=(do pure (.bool (!(<-Op.equal t (a.eval X) (a.eval Y))))):=by rw[hA,hB];rfl
  rw[this]
  simp[he,Result.andThen]
theorem done_one (hs:SlotsOk sl a) (hm:MemSat w0 W m w) (hk:Kept b1 w0 W w) {io:IROp} {X:Operand} {ax:Opd} (hax:opd X=some ax) {S:Sem Value} {f:SV->R}
  (hf:∀ x,stepF sp spP no x sl (lk m) io=o1 sl ax f)
  (hr:∀ s p v u,Den s (a.eval X)->f s=some (p,v,u)->p->u=[]/\∃ rv,S.run P w=.ok rv w/\Den v rv)
  (hx:∀ x,∃ p v u,stepF sp spP no x sl (lk m) io=some (p,v,u)/\p) :
  Done P sp spP no sl m b1 w0 W io ((do pure (Next.value (<-S)):Sem Next).run P w):=by
 refine done_of hm hk (fun x p v u h hp=>?_) hx
 rw[hf x]at h
 obtain⟨v0,p',hd,h1,hp'⟩:=o1_den h hp hax hs
 obtain⟨rfl,rv,hrun,hdv⟩:=hr _ _ _ _ hd h1 hp'
 exact⟨rfl,rv,by simp[hrun,Result.andThen],hdv⟩
theorem done_two (hs:SlotsOk sl a) (hm:MemSat w0 W m w) (hk:Kept b1 w0 W w) {io:IROp} {X Y:Operand} {ax ay:Opd} (hax:opd X=some ax) (hay:opd Y=some ay) {S:Sem Value} {f:SV->SV->R}
  (hf:∀ x,stepF sp spP no x sl (lk m) io=o1 sl ax fun u=>o1 sl ay fun v=>f u v)
  (hr:∀ s s' p v u,Den s (a.eval X)->Den s' (a.eval Y)->f s s'=some (p,v,u)->p->u=[]/\∃ rv,S.run P w=.ok rv w/\Den v rv)
  (hx:∀ x,∃ p v u,stepF sp spP no x sl (lk m) io=some (p,v,u)/\p) :
  Done P sp spP no sl m b1 w0 W io ((do pure (Next.value (<-S)):Sem Next).run P w):=by
 refine done_of hm hk (fun x p v u h hp=>?_) hx
 rw[hf x]at h
 obtain⟨v0,p',hd,h1,hp'⟩:=o1_den h hp hax hs
 obtain⟨v1,p'',hd1,h2,hp''⟩:=o1_den h1 hp' hay hs
 obtain⟨rfl,rv,hrun,hdv⟩:=hr _ _ _ _ _ hd hd1 h2 hp''
 exact⟨rfl,rv,by simp[hrun,Result.andThen],hdv⟩
theorem run_neg {g:Nat} {s:SV} {x:Value} {p:Prop} {v:SV} {u:Upd} (hd:Den s x) (h:upTo (negSV g s)=some (p,v,u)) (hp:p) (w:World) :
  u=[]/\∃ rv,(Op.unary .neg x).run P w=.ok rv w/\Den v rv:=by
 obtain⟨hb,rfl⟩:=upTo_some h
 refine⟨rfl,?_⟩
 unfold negSV at hb
 split at hb
 case h_2=>cases hb
 simp only[Den]at hd
 subst hd
 split at hb<;>cases hb
 ·exact⟨_,by simp[Op.unary,Op.intArith];rfl,by simp[Den,inR_wrap hp]⟩
 ·exact⟨_,by simp[Op.unary,Op.intArith];rfl,by simp[Den]⟩
theorem run_not {s:SV} {x:Value} {p:Prop} {v:SV} {u:Upd} (hd:Den s x) (h:upTo (notSV s)=some (p,v,u)) (hp:p) (w:World) :
  u=[]/\∃ rv,(Op.unary .not x).run P w=.ok rv w/\Den v rv:=by
 obtain⟨hb,rfl⟩:=upTo_some h
 refine⟨rfl,?_⟩
 unfold notSV at hb
 split at hb
 case h_2=>cases hb
 simp only[Den]at hd
 subst hd
 cases hb
 exact⟨_,by simp[Op.unary];rfl,by simp[Den]⟩
theorem run_cvt (hT:∀ t tt,tab t=some tt->TtOk P t tt) {src dst:TypeId} {ts td:TT} (hts:tab src=some ts) (htd:tab dst=some td) {k0 k:IntKind} (hk0:ts.kind=.int k0) (hk:td.kind=.int k)
  {g:Nat} {s:SV} {x:Value} {p:Prop} {v:SV} {u:Upd} (hd:Den s x) (h:upTo (cvtSV g k s)=some (p,v,u)) (hp:p) (w:World) :
  u=[]/\∃ rv,(convert src dst x).run P w=.ok rv w/\Den v rv:=by
 obtain⟨hb,rfl⟩:=upTo_some h
 refine⟨rfl,?_⟩
 obtain⟨d,hdesc,hkd⟩:=(hT _ _ hts).desc
 obtain⟨d',hdesc',hkd'⟩:=(hT _ _ htd).desc
 rw[hk0]at hkd
 rw[hk]at hkd'
 simp only[TKOk]at hkd hkd'
 subst hkd hkd'
 unfold cvtSV at hb
 split at hb
 case h_2=>cases hb
 simp only[Den]at hd
 subst hd
 split at hb<;>cases hb
 ·exact⟨_,by simp[convert,run_underlying hdesc,run_underlying hdesc',Conv.intToInt,Result.andThen];rfl,by simp[Den,inR_wrap hp]⟩
 ·exact⟨_,by simp[convert,run_underlying hdesc,run_underlying hdesc',Conv.intToInt,Result.andThen];rfl,by simp[Den]⟩
theorem run_str (hT:∀ t tt,tab t=some tt->TtOk P t tt) (hm:MemSat w0 W m w) {src dst e:TypeId} {ts td te:TT} (hts:tab src=some ts) (htd:tab dst=some td) (hte:tab e=some te) (hk0:ts.kind=.slice e) (hk:td.kind=.string) (hke:te.kind=.int .u8)
  {s:SV} {x:Value} {p:Prop} {v:SV} {u:Upd} (hd:Den s x) (h:(match (generalizing:=false) s with | .sl c L s lo n=>strV s L lo n (lkN no (lk m) c) | _=>none)=some (p,v,u)) (hp:p) :
  u=[]/\∃ rv,(convert src dst x).run P w=.ok rv w/\Den v rv:=by
 obtain⟨d,hdesc,hkd⟩:=(hT _ _ hts).desc
 obtain⟨d',hdesc',hkd'⟩:=(hT _ _ htd).desc
 obtain⟨d'',hdesc'',hkd''⟩:=(hT _ _ hte).desc
 rw[hk0]at hkd
 rw[hk]at hkd'
 rw[hke]at hkd''
 simp only[TKOk]at hkd hkd' hkd''
 subst hkd hkd' hkd''
 cases s<;>simp only at h<;>first | (cases h;done) | skip
 rename_i c L s lo n
 have hl0:∀ e,lkN no (lk m) c=some e->lk m c=some e:=fun e he=>by
  unfold lkN at he
  cases hr:refuses no c with
  | true=>rw[hr]at he;cases he
  | false=>rw[hr]at he;exact he
 unfold strV at h
 split at h
 case h_2=>cases h
 rename_i own L' xs hl
 have hl:=hl0 _ hl
 obtain⟨hs1,h⟩:s=1/\some (L'=L/\0<=lo/\0<=n/\lo+n<=xs.length,SV.val (.string (strB (sub xs lo n))),([]:Upd))=some (p,v,u):=by
  by_cases e:s=1
  ·exact⟨e,by simpa [e]using h⟩
  ·simp[e]at h
 subst hs1
 cases h
 obtain⟨rfl,h0,hn,hle⟩:=hp
 refine⟨rfl,?_⟩
 simp only[Den]at hd ⊢
 obtain⟨-,-,hcap,hnil,A,rfl,hA,hA2⟩:=hd
 rw[run_convert_bytes_string w src dst e A _ _ hdesc hdesc'' hdesc']
 have hfit:=(hm.chunk c _ hl).fits
 simp only[Chunk.fits]at hfit
 have hlen:(sub xs lo n).length=n.toNat:=by unfold sub;rw[List.length_take,List.length_drop];omega
 cases A with
 | none=>
  have hn0:L'.nil=true:=by simpa using hA.symm
  have:=hnil hn0
  have e0:sub xs lo n=[]:=List.eq_nil_of_length_eq_zero (by omega)
  refine⟨_,?_,rfl⟩
  rw[e0]
  rfl
 | some a=>
  have hcells:(loadCells a n.toNat).run P w=.ok ((sub xs lo n).map (Value.int .u8)).toArray w:=by
   have key:=run_loadCells_list (P:=P) (w:=w) a ((sub xs lo n).map (Value.int .u8)) fun j v hj=>by
    rw[List.getElem?_map,Option.map_eq_some_iff]at hj
    obtain⟨z,hz,rfl⟩:=hj
    have hjl:j<n.toNat:=by rw[<-hlen];exact(List.getElem?_eq_some_iff.1 hz).1
    have ha:=hA2 (by omega)
    have hnl:L'.nil=false:=by simpa using hA.symm
    rw[hnl]at ha
    simp only[Bool.false_eq_true,if_false,Nat.mul_one,Option.some.injEq]at ha
    obtain⟨v,hv,hdv⟩:=(hm.chunk c _ hl).cell (lo.toNat+j) (by simp only[Chunk.len];omega)
    simp only[Chunk.cell,Den]at hdv
    have e1:(L'.ad lo.toNat).add j=L'.ad (lo.toNat+j):=by unfold Loc.ad Addr.add;by_cases h0:j=0<;>simp[h0,Nat.add_assoc]
    rw[ha,e1,hv,hdv]
    congr 2
    unfold sub at hz
    rw[List.getElem?_take_of_lt hjl,List.getElem?_drop]at hz
    rw[List.getD_eq_getElem?_getD,hz];rfl
   rw[List.length_map,hlen]at key
   exact key
  exact⟨_,run_bytesToString w a _ _ _ hcells,rfl⟩
theorem field_of (hT:∀ t tt,tab t=some tt->TtOk P t tt) {t:TypeId} {tt:TT} (htt:tab t=some tt) {fs:List (Nat×TypeId)} (hkind:tt.kind=.struct fs) {f off:Nat} {ft:TypeId} (hf:fs[f]?=some (off,ft)) :
  ∃ F:Array Field,P.underlying t=some (.struct F)/\∃ fd:Field,F[f]?=some fd/\fd.offset=off/\fd.type=ft:=by
 obtain⟨d,hdesc,hkd⟩:=(hT _ _ htt).desc
 rw[hkind]at hkd
 obtain⟨F,rfl,hF⟩:=hkd
 refine⟨F,hdesc,?_⟩
 rw[<-hF]at hf
 simp only[List.getElem?_map,Option.map_eq_some_iff]at hf
 obtain⟨fd,h1,h2⟩:=hf
 exact⟨fd,by simpa using h1,by simpa using(Prod.mk.inj h2).1,by simpa using(Prod.mk.inj h2).2⟩
theorem run_fld (hT:∀ t tt,tab t=some tt->TtOk P t tt) {t:TypeId} {tt tu:TT} (htt:tab t=some tt) {fs:List (Nat×TypeId)} (hkind:tt.kind=.struct fs) {f off:Nat} {ft:TypeId} (hf:fs[f]?=some (off,ft)) (htu:tab ft=some tu) (hsz:tu.size≠0)
  {s:SV} {x:Value} {p:Prop} {v:SV} {u:Upd} (hd:Den s x) (h:(match (generalizing:=false) s with | .ptr c L i s f=>(some (True,.ptr c L i s (f+off),[]):R) | _=>none)=some (p,v,u)) (hp:p) (w:World) :
  u=[]/\∃ rv,(Instr.fieldAt t x f).run P w=.ok rv w/\Den v rv:=by
 cases s<;>simp only at h<;>first | (cases h;done) | skip
 cases h
 refine⟨rfl,?_⟩
 obtain⟨F,hdesc,fd,hfd,rfl,rfl⟩:=field_of hT htt hkind hf
 obtain⟨i0,hi0,hs0,_⟩:=(hT _ _ htu).info
 simp only[Den]at hd
 refine⟨_,by simp[Instr.fieldAt,run_underlying hdesc,hfd,hd,Instr.sureAddr,fieldPlace,size_run hi0,hs0,hsz,Result.andThen];rfl,?_⟩
 simp only[Den,ad_add]
 simp[Nat.add_assoc]
theorem part_run {t:TypeId} {tt:TT} (h:TtOk P t tt) (cs:Array Value) (off:Nat) (w:World) :
    (part t cs off).run P w = if tt.agg then .ok (.agg (cs.extract off (off + tt.size))) w else (match cs[off]? with | some v => .ok v w | none => (stuck "part: no such cell" : Sem Value).run P w) := by
 obtain⟨i0,hi0,hsz,_⟩:=h.info
 unfold part
 simp only[Sem.run_bind,isAgg_run h,Result.andThen]
 cases tt.agg
 ·simp;split<;>rename_i hh<;>simp[hh]
 ·simp[size_run hi0,hsz,Result.andThen]
theorem Dens.drop:∀ {cs:List SV} {vs:List Value} (n:Nat),Dens cs vs->Dens (cs.drop n) (vs.drop n)
 | cs,vs,0,h=>by simpa using h
 | [],vs,n+1,h=>by simp only[Dens]at h;subst h;simp[Dens]
 | c::cs,vs,n+1,h=>by
  simp only[Dens]at h
  obtain⟨v,vs',rfl,_,h⟩:=h
  simpa using Dens.drop n h
theorem Dens.take:∀ {cs:List SV} {vs:List Value} (n:Nat),Dens cs vs->Dens (cs.take n) (vs.take n)
 | cs,vs,0,h=>by simp[Dens]
 | [],vs,n+1,h=>by simp only[Dens]at h;subst h;simp[Dens]
 | c::cs,vs,n+1,h=>by
  simp only[Dens]at h
  obtain⟨v,vs',rfl,hv,h⟩:=h
  simp only[List.take_succ_cons,Dens]
  exact⟨_,_,rfl,hv,Dens.take n h⟩
theorem run_fldv (hT:∀ t tt,tab t=some tt->TtOk P t tt) {t:TypeId} {tt tu:TT} (htt:tab t=some tt) {fs:List (Nat×TypeId)} (hkind:tt.kind=.struct fs) {f off:Nat} {ft:TypeId} (hf:fs[f]?=some (off,ft)) (htu:tab ft=some tu)
  {s:SV} {x:Value} {p:Prop} {v:SV} {u:Upd} (hd:Den s x)
  (h:(match (generalizing:=false) s with
   | .agg cs=>match (bif tu.agg then some tu.size else none)with
    | none=>match getL cs off with | none=>none | some v=>some (True,v,[])
    | some n=>match takeL (dropL cs off) n with | none=>none | some l=>some (True,.agg l,[])
   | _=>(none:R))=some (p,v,u)) (hp:p) (w:World) :
  u=[]/\∃ rv,(Instr.field t x f).run P w=.ok rv w/\Den v rv:=by
 cases s<;>simp only at h<;>first | (cases h;done) | skip
 rename_i cs
 obtain⟨F,hdesc,fd,hfd,rfl,rfl⟩:=field_of hT htt hkind hf
 simp only[Den]at hd
 obtain⟨vs,rfl,hds⟩:=hd
 have hpart:=part_run (P:=P) (hT _ _ htu) vs.toArray fd.offset w
 cases hag:tu.agg with
 | false=>
  rw[hag]at h
  simp only[cond_false]at h
  split at h
  ·cases h
  ·rename_i v' hv
   cases h
   rw[getL_eq]at hv
   obtain⟨rv,hrv,hdv⟩:=hds.get hv
   refine⟨rfl,rv,?_,hdv⟩
   rw[hag]at hpart
   simp only[Bool.false_eq_true,if_false]at hpart
   simp[Instr.field,run_underlying hdesc,hfd,asAgg,hpart,hrv,Result.andThen]
 | true=>
  rw[hag]at h
  simp only[cond_true]at h
  split at h
  ·cases h
  ·rename_i l hl
   cases h
   have ⟨h1,h2⟩:=takeL_some hl
   rw[dropL_eq]at h1 h2
   subst h1
   rw[hag]at hpart
   simp only[if_true]at hpart
   refine⟨rfl,_,by simp[Instr.field,run_underlying hdesc,hfd,asAgg,hpart,Result.andThen];rfl,?_⟩
   simp only[Den]
   refine⟨(vs.drop fd.offset).take tu.size,?_,(hds.drop _).take _⟩
   simp[List.drop_take]
end Go.Proofs.YtaofjnkpkocgjaaGreat.Xf
end
section 
namespace Go.Proofs.YtaofjnkpkocgjaaGreat.Xf
variable {P:Program} {sp:Sp} {spP:SpP} {no:Lim} {sl:List Ent} {m:Mem} {b1 w0 w:World} {W:Addr->Prop} {a:Act} {tab:Tab} {isP:FuncId->Bool}
theorem sizeOf_run (hT:∀ t tt,tab t=some tt->TtOk P t tt) {t:TypeId} {tt:TT} (h:tab t=some tt) (w:World):(sizeOf t).run P w=.ok tt.size w:=by
 obtain⟨i0,hi0,hsz,_⟩:=(hT _ _ h).info
 rw[<-hsz];exact size_run hi0 w
theorem desc_slice (hT:∀ t tt,tab t=some tt->TtOk P t tt) {t e:TypeId} {tt:TT} (h:tab t=some tt) (hk:tt.kind=.slice e):P.underlying t=some (.slice e):=by
 obtain⟨d,hd,hkd⟩:=(hT _ _ h).desc
 rw[hk]at hkd;simp only[TKOk]at hkd;rw[hd,hkd]
theorem desc_array (hT:∀ t tt,tab t=some tt->TtOk P t tt) {t e:TypeId} {n:Nat} {tt:TT} (h:tab t=some tt) (hk:tt.kind=.array n e):P.underlying t=some (.array n e):=by
 obtain⟨d,hd,hkd⟩:=(hT _ _ h).desc
 rw[hk]at hkd;simp only[TKOk]at hkd;rw[hd,hkd]
def DenO:Option SV->Option Value->Prop
 | none,none=>True
 | some s,some v=>Den s v
 | _,_=>False
theorem run_bound {v:Value} {k:IntKind} {i:Int} (hv:v=.int k i) (y:Nat) (code:BoundsCode) (h0:0<=i) (h1:i<=y) (w:World):(Instr.sliceBound v y code).run P w=.ok i.toNat w:=by
 subst hv
 simp[Instr.sliceBound,asIntOf,h0,h1]
theorem run_slc (hT:∀ t tt,tab t=some tt->TtOk P t tt) {t e:TypeId} {tt te:TT} (htt:tab t=some tt) (hkind:tt.kind=.slice e) (hte:tab e=some te)
  {s:SV} {x:Value} {l h:Option SV} {lo hi:Option Value} (hd:Den s x) (hl:DenO l lo) (hh:DenO h hi) {p:Prop} {v:SV} {u:Upd}
  (hf:(match (generalizing:=false) s with
  | .sl c L s' lo0 len=>match slcLo l,slcHi len h with
   | some l,some h=>bif decide (te.size=s')then (some (0<=l/\l<=h/\h<=len,.sl c L te.size (lo0+l) (h-l),[]):R)else none
   | _,_=>none
  | _=>none)=some (p,v,u)) (hp:p) (w:World):u=[]/\∃ rv,(Instr.sliceAt t x lo hi none).run P w=.ok rv w/\Den v rv:=by
 cases s<;>simp only at hf<;>first | (cases hf;done) | skip
 rename_i c L s' lo0 len
 split at hf
 case h_2=>cases hf
 rename_i l' h' hl' hh'
 by_cases hs:te.size=s'
 case neg=>simp[hs]at hf
 subst hs
 simp only[decide_true,cond_true]at hf
 cases hf
 refine⟨rfl,?_⟩
 obtain⟨h0,h1,h2⟩:=hp
 simp only[Den]at hd
 obtain⟨g0,g1,g2,g3,A,rfl,hAn,hA⟩:=hd
 have hb:(Instr.sliceBounds true len.toNat (L.cap-lo0.toNat) lo hi none).run P w=.ok (l'.toNat,h'.toNat,L.cap-lo0.toNat) w:=by
  have e1:(hi=none/\h'=len)∨∃ k,hi=some (.int k h'):=by
   cases h with
   | none=>
    cases hi with
    | none=>simp only[slcHi]at hh';cases hh';exact .inl ⟨rfl,rfl⟩
    | some b=>simp[DenO]at hh
   | some hv=>
    cases hi with
    | none=>simp[DenO]at hh
    | some b=>
     cases hv<;>simp only[slcHi]at hh'<;>first | (cases hh';done) | skip
     cases hh'
     simp only[DenO,Den]at hh
     exact .inr ⟨_,by rw[hh]⟩
  have e2:(lo=none/\l'=0)∨∃ k,lo=some (.int k l'):=by
   cases l with
   | none=>
    cases lo with
    | none=>simp only[slcLo]at hl';cases hl';exact .inl ⟨rfl,rfl⟩
    | some b=>simp[DenO]at hl
   | some hv=>
    cases lo with
    | none=>simp[DenO]at hl
    | some b=>
     cases hv<;>simp only[slcLo]at hl'<;>first | (cases hl';done) | skip
     cases hl'
     simp only[DenO,Den]at hl
     exact .inr ⟨_,by rw[hl]⟩
  have b1:∀ k,(Instr.sliceBound (.int k h') (L.cap-lo0.toNat) .sliceAcap).run P w=.ok h'.toNat w:=fun k=>run_bound rfl _ _ (by omega) (by omega) w
  have b2:∀ k,(Instr.sliceBound (.int k l') h'.toNat .sliceB).run P w=.ok l'.toNat w:=fun k=>run_bound rfl _ _ (by omega) (by omega) w
  rcases e1 with ⟨rfl,rfl⟩ | ⟨k,rfl⟩<;>rcases e2 with ⟨rfl,rfl⟩ | ⟨k',rfl⟩<;>simp[Instr.sliceBounds,b1,b2,Result.andThen]
 have hd2:=desc_slice hT htt hkind
 refine⟨.slice (if L.cap-lo0.toNat=l'.toNat then A else A.map (·.add (l'.toNat*te.size))) (h'.toNat-l'.toNat) (L.cap-lo0.toNat-l'.toNat),?_,?_⟩
 ·simp only[Instr.sliceAt,Sem.run_bind,run_underlying hd2,Result.andThen,Instr.slice,hb,sizeOf_run hT hte,Sem.run_pure]
 ·simp only[Den]
  refine⟨by omega,by omega,by omega,g3,if L.cap-lo0.toNat=l'.toNat then A else A.map (·.add (l'.toNat*te.size)),?_,?_,?_⟩
  ·congr 1<;>omega
  ·by_cases e:L.cap-lo0.toNat=l'.toNat
   ·simp[e,hAn]
   ·simp only[e,if_false];cases A<;>simpa using hAn
  ·intro hne
   have e:¬ (L.cap-lo0.toNat=l'.toNat):=by omega
   have hA':=hA (by omega)
   simp only[e,if_false]
   rw[hA']
   cases L.nil
   ·simp only[Bool.false_eq_true,if_false,Option.map_some,ad_add]
    rw[show(lo0+l').toNat=lo0.toNat+l'.toNat by omega,Nat.add_mul]
   ·simp
theorem run_idxS (hT:∀ t tt,tab t=some tt->TtOk P t tt) {t e:TypeId} {tt te:TT} (htt:tab t=some tt) (hkind:tt.kind=.slice e) (hte:tab e=some te)
  {s s':SV} {x y:Value} (hd:Den s x) (hd':Den s' y) {p:Prop} {v:SV} {u:Upd}
  (hf:(match (generalizing:=false) s,s' with
  | .sl c L s' lo len,.int _ i=>bif decide (te.size=s')then (some (0<=i/\i<len,.ptr c L (lo+i) te.size 0,[]):R)else none
  | _,_=>none)=some (p,v,u)) (hp:p) (w:World):u=[]/\∃ rv,(Instr.indexAt t x y).run P w=.ok rv w/\Den v rv:=by
 cases s<;>cases s'<;>simp only at hf<;>first | (cases hf;done) | skip
 rename_i c L s0 lo len k i
 by_cases hs:te.size=s0
 case neg=>simp[hs]at hf
 subst hs
 simp only[decide_true,cond_true]at hf
 cases hf
 refine⟨rfl,?_⟩
 obtain⟨h0,h1⟩:=hp
 simp only[Den]at hd hd'
 obtain⟨g0,g1,g2,g3,A,rfl,hAn,hA⟩:=hd
 subst hd'
 have hA':=hA (by omega)
 have hnil:L.nil=false:=by
  cases hn:L.nil with
  | false=>rfl
  | true=>
   have:=g3 hn
   omega
 rw[hnil]at hA'
 simp only[Bool.false_eq_true,if_false]at hA'
 subst hA'
 refine⟨.pointer (some ((L.ad (lo.toNat*te.size)).add (i.toNat*te.size))),?_,?_⟩
 ·have hb:0<=i/\i<(len.toNat:Int):=⟨h0,by omega⟩
  simp only[Instr.indexAt,asIntOf,Sem.run_bind,Sem.run_pure,Result.andThen,run_underlying (desc_slice hT htt hkind),if_pos hb,sizeOf_run hT hte]
 ·simp only[Den,ad_add]
  rw[show(lo+i).toNat=lo.toNat+i.toNat by omega,Nat.add_mul]
  simp
end Go.Proofs.YtaofjnkpkocgjaaGreat.Xf
end
section 
namespace Go.Proofs.YtaofjnkpkocgjaaGreat.Xf
variable {P:Program} {sp:Sp} {spP:SpP} {no:Lim} {sl:List Ent} {m:Mem} {b1 w0 w:World} {W:Addr->Prop} {a:Act} {tab:Tab} {isP:FuncId->Bool}
theorem run_slcA (hT:∀ t tt,tab t=some tt->TtOk P t tt) {t e:TypeId} {n:Nat} {tt te:TT} (htt:tab t=some tt) (hkind:tt.kind=.array n e) (hte:tab e=some te)
  {s:SV} {x:Value} (hd:Den s x) {p:Prop} {v:SV} {u:Upd}
  (hf:(match (generalizing:=false) s with | .ptr c L i 0 0=>(some (L.nil=false/\L.cap=n,.sl c L te.size 0 n,[]):R) | _=>none)=some (p,v,u)) (hp:p) (w:World) :
  u=[]/\∃ rv,(Instr.sliceAt t x none none none).run P w=.ok rv w/\Den v rv:=by
 split at hf
 case h_2=>cases hf
 rename_i c L i
 cases hf
 obtain⟨h1,h2⟩:=hp
 simp only[Den]at hd
 subst hd
 refine⟨rfl,?_⟩
 refine⟨.slice (some (L.ad 0)) n n,?_,?_⟩
 ·simp only[Instr.sliceAt,Sem.run_bind,run_underlying (desc_array hT htt hkind),Result.andThen,Instr.sureAddr,Sem.run_pure,Instr.sliceBounds,sizeOf_run hT hte]
  by_cases hn:n=0
  ·simp[hn]
  ·simp[hn,Addr.add]
 ·simp only[Den]
  refine⟨by omega,by omega,by omega,by simp[h1],some (L.ad 0),?_,by simp[h1],fun _=>by simp[h1]⟩
  simp[h2]
theorem run_idxP (hT:∀ t tt,tab t=some tt->TtOk P t tt) {t e:TypeId} {n:Nat} {tt te:TT} (htt:tab t=some tt) (hkind:tt.kind=.array n e) (hte:tab e=some te)
  {s s':SV} {x y:Value} (hd:Den s x) (hd':Den s' y) {p:Prop} {v:SV} {u:Upd}
  (hf:(match (generalizing:=false) s,s' with | .ptr c L i k f,.int _ j=>(bif k==0 then some (0<=j/\j<n,.ptr c L j te.size f,[])else some (0<=j/\j<n,.ptr c L i k (f+j.toNat*te.size),[]):R) | _,_=>none)=some (p,v,u)) (hp:p) (w:World) :
  u=[]/\∃ rv,(Instr.indexAt t x y).run P w=.ok rv w/\Den v rv:=by
 split at hf
 case h_2=>cases hf
 rename_i c L i k f kk j
 simp only[Den]at hd hd'
 subst hd hd'
 cases hk:(k==0)with
 | true=>
  have hk0:k=0:=by simpa using hk
  subst hk0
  simp only[BEq.rfl,cond_true]at hf
  cases hf
  refine⟨rfl,?_⟩
  refine⟨.pointer (some ((L.ad f).add (j.toNat*te.size))),?_,by simp only[Den,ad_add,Nat.add_comm]⟩
  simp only[Instr.indexAt,asIntOf,Sem.run_bind,Sem.run_pure,Result.andThen,run_underlying (desc_array hT htt hkind),Instr.sureAddr,if_pos hp,sizeOf_run hT hte]
  simp
 | false=>
  rw[hk]at hf
  simp only[cond_false]at hf
  cases hf
  refine⟨rfl,?_⟩
  refine⟨.pointer (some ((L.ad (i.toNat*k+f)).add (j.toNat*te.size))),?_,by simp only[Den,ad_add,Nat.add_assoc]⟩
  simp only[Instr.indexAt,asIntOf,Sem.run_bind,Sem.run_pure,Result.andThen,run_underlying (desc_array hT htt hkind),Instr.sureAddr,if_pos hp,sizeOf_run hT hte]
theorem asInts_get {k:IntKind}:∀ {cs:List SV} {xs:List Int},asInts k cs=some xs->xs.length=cs.length/\∀ i,i<cs.length->cs[i]?=some (.int k (xs.getD i 0))
 | [],xs,h=>by simp[asInts]at h;simp[<-h]
 | c::cs,xs,h=>by
  cases c<;>simp only[asInts]at h<;>first | (cases h;done) | skip
  rename_i k' n
  by_cases e:k=k'
  ·subst e
   simp only[decide_true,cond_true]at h
   split at h
   ·cases h
   ·rename_i r hr
    cases h
    have ih:=asInts_get hr
    refine⟨by simp[ih.1],fun i hi=>?_⟩
    cases i with
    | zero=>simp
    | succ i=>simpa using ih.2 i (by simpa using hi)
  ·simp[e]at h
theorem asBools_get:∀ {cs:List SV} {xs:List Bool},asBools cs=some xs->xs.length=cs.length/\∀ i,i<cs.length->cs[i]?=some (.bool (xs.getD i false))
 | [],xs,h=>by simp[asBools]at h;simp[<-h]
 | c::cs,xs,h=>by
  cases c<;>simp only[asBools]at h<;>first | (cases h;done) | skip
  split at h
  ·cases h
  ·rename_i r hr
   cases h
   have ih:=asBools_get hr
   refine⟨by simp[ih.1],fun i hi=>?_⟩
   cases i with
   | zero=>simp
   | succ i=>simpa using ih.2 i (by simpa using hi)
theorem intOfs_get {cs:List SV} {k:IntKind} {xs:List Int} (h:intOfs cs=some (k,xs)):xs.length=cs.length/\∀ i,i<cs.length->cs[i]?=some (.int k (xs.getD i 0)):=by
 unfold intOfs at h
 split at h
 case h_2=>cases h
 split at h
 ·cases h
 ·rename_i r hr
  cases h
  exact asInts_get hr
theorem run_idxV (hT:∀ t tt,tab t=some tt->TtOk P t tt) {t e:TypeId} {n:Nat} {tt te:TT} (htt:tab t=some tt) (hkind:tt.kind=.array n e) (hte:tab e=some te) (h1:te.size=1) (hag:te.agg=false)
  {s s':SV} {x y:Value} (hd:Den s x) (hd':Den s' y) {p:Prop} {v:SV} {u:Upd}
  (hf:(match (generalizing:=false) s,s' with
  | .agg cs,.int _ j=>match intOfs cs with
   | some (k,xs)=>bif decide (xs.length=n)then (some (0<=j/\j<n,.int k (rd xs j),[]):R)else none
   | none=>none
  | _,_=>none)=some (p,v,u)) (hp:p) (w:World) :
  u=[]/\∃ rv,(Instr.index t x y).run P w=.ok rv w/\Den v rv:=by
 cases s<;>cases s'<;>simp only at hf<;>first | (cases hf;done) | skip
 rename_i cs k' j
 split at hf
 case h_2=>cases hf
 rename_i k xs hi
 by_cases hn:xs.length=n
 case neg=>simp[hn]at hf
 simp only[hn,decide_true,cond_true]at hf
 cases hf
 have hg:=intOfs_get hi
 simp only[Den]at hd hd'
 obtain⟨vs,rfl,hds⟩:=hd
 subst hd'
 refine⟨rfl,?_⟩
 have hlt:j.toNat<cs.length:=by omega
 obtain⟨rv,hrv,hdv⟩:=hds.get (hg.2 j.toNat hlt)
 refine⟨rv,?_,by simpa [rd]using hdv⟩
 have hpart:=part_run (P:=P) (hT _ _ hte) vs.toArray (j.toNat*te.size) w
 rw[hag]at hpart
 simp only[Bool.false_eq_true,if_false]at hpart
 rw[h1]at hpart
 simp only[Nat.mul_one,List.getElem?_toArray,hrv]at hpart
 simp only[Instr.index,asIntOf,Sem.run_bind,Sem.run_pure,Result.andThen,run_underlying (desc_array hT htt hkind),if_pos hp,sizeOf_run hT hte,h1,Nat.mul_one,hpart]
theorem run_tabI (hT:∀ t tt,tab t=some tt->TtOk P t tt) {t:TypeId} {tt:TT} (htt:tab t=some tt) (hkind:tt.kind=.string) {b:ByteArray}
  {s:SV} {y:Value} (hd:Den s y) {p:Prop} {v:SV} {u:Upd}
  (hf:(match (generalizing:=false) s with | .int _ j=>(some (0<=j/\j<(b.data.toList.map fun c=>(c.toNat:Int)).length,.int .u8 (rd (b.data.toList.map fun c=>(c.toNat:Int)) j),[]):R) | _=>none)=some (p,v,u)) (hp:p) (w:World) :
  u=[]/\∃ rv,(Instr.index t (.string b) y).run P w=.ok rv w/\Den v rv:=by
 cases s<;>simp only at hf<;>first | (cases hf;done) | skip
 rename_i k j
 cases hf
 simp only[Den]at hd
 subst hd
 refine⟨rfl,?_⟩
 obtain⟨d,hdesc,hkd⟩:=(hT _ _ htt).desc
 rw[hkind]at hkd
 simp only[TKOk]at hkd
 subst hkd
 have hsz:(b.data.toList.map fun c=>(c.toNat:Int)).length=b.size:=by rw[List.length_map];rfl
 rw[hsz]at hp
 have hl:b[j.toNat]?=some (b[j.toNat]'(by omega)):=ByteArray.getElem?_lt' b _ (by omega)
 refine⟨_,?_,rfl⟩
 simp only[Instr.index,asIntOf,Sem.run_bind,Sem.run_pure,Result.andThen,run_underlying hdesc,if_pos hp.1,hl]
 have:rd (b.data.toList.map fun c=>(c.toNat:Int)) j=((b[j.toNat]'(by omega)).toNat:Int):=by
  unfold rd
  rw[List.getD_eq_getElem?_getD,List.getElem?_map,List.getElem?_eq_getElem (show j.toNat<b.data.toList.length from show j.toNat<b.size by omega)]
  rfl
 rw[this]
theorem run_ext {i:Nat} {s:SV} {x:Value} (hd:Den s x) {p:Prop} {v:SV} {u:Upd}
  (hf:(match (generalizing:=false) s with | .tup cs=>(match getL cs i with | none=>none | some v=>(some (True,v,[]):R)) | _=>none)=some (p,v,u)) (w:World) :
  u=[]/\∃ rv,(Instr.extract x i).run P w=.ok rv w/\Den v rv:=by
 cases s<;>simp only at hf<;>first | (cases hf;done) | skip
 split at hf
 ·cases hf
 ·rename_i v' hv
  cases hf
  rw[getL_eq]at hv
  simp only[Den]at hd
  obtain⟨vs,rfl,hds⟩:=hd
  obtain⟨rv,hrv,hdv⟩:=hds.get hv
  exact⟨rfl,rv,by simp[Instr.extract,hrv],hdv⟩
theorem Dens.set {cs:List SV} {vs:List Value} (h:Dens cs vs) {d:SV} {v:Value} (hd:Den d v):∀ (i:Nat),Dens (cs.set i d) (vs.set i v):=by
 intro i
 refine Dens.of_get (by simp[h.length]) fun j c u hc hu=>?_
 simp only[List.getElem?_set]at hc hu
 by_cases e:i=j
 ·subst e
  simp only[if_true]at hc hu
  split at hc<;>split at hu<;>simp_all
 ·simp only[e,if_false]at hc hu
  obtain⟨u',h1,h2⟩:=h.get hc
  rw[hu]at h1;cases h1;exact h2
theorem fold_sets (off:Nat):∀ (l:List Value) (ds z:List SV) (n:Nat) (acc:Array Value),Dens z acc.toList->Dens ds l ->
  Dens (setsL z (off+n) ds) ((l.zipIdx n).foldl (fun cs (c,j)=>cs.setIfInBounds (off+j) c) acc).toList
 | [],ds,z,n,acc,hz,hd=>by
  cases ds with
  | nil=>simpa [setsL]using hz
  | cons d ds=>simp only[Dens]at hd;obtain⟨v,vs',h,_⟩:=hd;cases h
 | v::l,ds,z,n,acc,hz,hd=>by
  cases ds with
  | nil=>simp only[Dens]at hd;cases hd
  | cons d ds=>
   simp only[Dens]at hd
   obtain⟨v',vs',h,hv,hd⟩:=hd
   cases h
   simp only[List.zipIdx_cons,List.foldl_cons,setsL]
   have:=fold_sets off l ds (setL z (off+n) d) (n+1) (acc.setIfInBounds (off+n) v) (by
    rw[setL_eq]
    simpa using hz.set hv (off+n)) hd
   simpa [Nat.add_assoc]using this
theorem setsL_length:∀ (vs:List SV) (z:List SV) (n:Nat),(setsL z n vs).length=z.length
 | [],z,n=>by simp[setsL]
 | v::vs,z,n=>by simp[setsL,setsL_length vs,setL_eq]
theorem fill_ok (place:Nat->Option (Nat×Nat)) (fs:List (Nat×Nat)) (hpl:∀ i y,fs[i]?=some y->place i=some y) (hs:SlotsOk sl a) :
  ∀ (xs:List (Nat×Operand)) (as:List (Nat×Nat×Opd)) (f:List (Nat×Nat×SV)->R) (p:Prop) (r:SV) (u:Upd),
   opdps fs xs=some as->onps sl as f=some (p,r,u)->p->∃ vs p',f vs=some (p',r,u)/\p' /\
    ∀ (z z':List SV) (acc:Array Value),Dens z acc.toList->fillL z vs=some z' ->
     ∃ acc',Instr.fill place acc (xs.map fun(i,x)=>(i,a.eval x))=some acc'/\Dens z' acc'.toList
 | [],as,f,p,r,u,hx,h,hp=>by
  simp only[opdps]at hx;cases hx
  simp only[onps]at h
  exact⟨[],p,h,hp,fun z z' acc hz hf=>by simp only[fillL]at hf;cases hf;exact⟨acc,rfl,hz⟩⟩
 | (i,x)::xs,as,f,p,r,u,hx,h,hp=>by
  simp only[opdps]at hx
  split at hx
  case h_2=>cases hx
  rename_i o s b as' h1 h2 h3
  cases hx
  simp only[onps]at h
  obtain⟨v,p',hd,hf,hp'⟩:=o1_den h hp h2 hs
  obtain⟨vs,p'',hf',hp'',hfill⟩:=fill_ok place fs hpl hs xs as' _ p' r u h3 hf hp'
  refine⟨(o,s,v)::vs,p'',hf',hp'',fun z z' acc hz hfl=>?_⟩
  simp only[fillL]at hfl
  split at hfl
  ·cases hfl
  rename_i cs hcs
  by_cases hc:cs.length=s/\o+s<=z.length
  case neg=>simp[hc]at hfl
  simp only[hc,and_self,decide_true,cond_true]at hfl
  have hds:=hd.cells hcs
  have hl:=hds.length
  have hzl:=hz.length
  simp only[Array.length_toList]at hl hzl
  have:=fold_sets o (a.eval x).cells.toList cs z 0 acc hz hds
  obtain⟨acc',h4,h5⟩:=hfill _ z' _ (by simpa using this) hfl
  refine⟨acc',?_,h5⟩
  simp only[List.map_cons,Instr.fill,hpl _ _ h1]
  have hne:¬ ((a.eval x).cells.size≠s):=by omega
  have hle:¬ (o+(a.eval x).cells.size>acc.size):=by omega
  simp only[hne,hle,decide_false,Bool.or_self,Bool.false_eq_true,if_false]
  rw[<-h4]
  congr 1
  rw[<-Array.foldl_toList]
  simp
theorem places_run (hT:∀ t tt,tab t=some tt->TtOk P t tt) (w:World):∀ (F:List Field) (szs:List (Nat×Nat)),sizesOf tab (F.map fun f=>(f.offset,f.type))=some szs ->
  ((F.mapM fun f=>do pure (f.offset,<-sizeOf f.type):Sem (List (Nat×Nat)))).run P w=.ok szs w
 | [],szs,h=>by simp only[List.map_nil,sizesOf]at h;cases h;simp
 | f::F,szs,h=>by
  simp only[List.map_cons,sizesOf]at h
  split at h
  case h_2=>cases h
  rename_i tt r h1 h2
  cases h
  have ih:=places_run hT w F r h2
  simp only[List.mapM_cons,Sem.run_bind,sizeOf_run hT h1,Result.andThen,Sem.run_pure,ih]
theorem done_build (hT:∀ t tt,tab t=some tt->TtOk P t tt) (hs:SlotsOk sl a) (hm:MemSat w0 W m w) (hk:Kept b1 w0 W w)
  {t:TypeId} {tt:TT} (htt:tab t=some tt) {fs:List (Nat×TypeId)} (hkind:tt.kind=.struct fs) {szs:List (Nat×Nat)} (hszs:sizesOf tab fs=some szs)
  {ps:Array (Nat×Operand)} {as:List (Nat×Nat×Opd)} (has:opdps szs ps.toList=some as)
  (hx:∀ x,∃ p v u,stepF sp spP no x sl (lk m) (.build tt.zero as)=some (p,v,u)/\p) :
  Done P sp spP no sl m b1 w0 W (.build tt.zero as) ((do pure (Next.value (<-Instr.build t (ps.map fun(i,x)=>(i,a.eval x)))):Sem Next).run P w):=by
 refine done_of hm hk (fun x p v u h hp=>?_) hx
 simp only[stepF]at h
 obtain⟨d,hdesc,hkd⟩:=(hT _ _ htt).desc
 rw[hkind]at hkd
 obtain⟨F,rfl,hF⟩:=hkd
 obtain⟨vs,p',hf,hp',hfill⟩:=fill_ok (fun i=>szs.toArray[i]?) szs (fun i y h=>by simpa using h) hs ps.toList as _ p v u has h hp
 split at hf
 ·cases hf
 rename_i cs hcs
 cases hf
 obtain⟨i0,hi0,hsz,_,z,hz,hds,_⟩:=(hT t tt htt).info
 obtain⟨acc',h1,h2⟩:=hfill tt.zero cs z.cells hds hcs
 refine⟨rfl,.agg acc',?_,by simp only[Den];exact⟨acc'.toList,by simp,h2⟩⟩
 have hpl:=places_run (P:=P) hT w F.toList szs (by rw[hF];exact hszs)
 have hpl':((F.mapM fun f=>do pure (f.offset,<-sizeOf f.type):Sem (Array (Nat×Nat)))).run P w=.ok szs.toArray w:=by
  rw[Array.mapM_eq_mapM_toList]
  show(((F.toList.mapM fun f=>do pure (f.offset,<-sizeOf f.type):Sem (List (Nat×Nat)))) >>= fun l=>pure l.toArray).run P w=_
  rw[Sem.run_bind,hpl]
  simp[Result.andThen]
 simp only[Sem.run_bind,Instr.build,zero_run hi0 hz,Result.andThen,run_underlying hdesc,hpl',Array.toList_map,h1,Sem.run_pure]
theorem done_buildA (hT:∀ t tt,tab t=some tt->TtOk P t tt) (hs:SlotsOk sl a) (hm:MemSat w0 W m w) (hk:Kept b1 w0 W w)
  {t e:TypeId} {tt te:TT} (htt:tab t=some tt) {n:Nat} (hkind:tt.kind=.array n e) (hte:tab e=some te)
  {ps:Array (Nat×Operand)} {as:List (Nat×Nat×Opd)} (has:opdps ((List.range n).map fun i=>(i*te.size,te.size)) ps.toList=some as)
  (hx:∀ x,∃ p v u,stepF sp spP no x sl (lk m) (.build tt.zero as)=some (p,v,u)/\p) :
  Done P sp spP no sl m b1 w0 W (.build tt.zero as) ((do pure (Next.value (<-Instr.build t (ps.map fun(i,x)=>(i,a.eval x)))):Sem Next).run P w):=by
 refine done_of hm hk (fun x p v u h hp=>?_) hx
 simp only[stepF]at h
 obtain⟨vs,p',hf,hp',hfill⟩:=fill_ok (fun i=>some (i*te.size,te.size)) ((List.range n).map fun i=>(i*te.size,te.size)) (fun i y h=>by
  have hlt:=(List.getElem?_eq_some_iff.1 h).1
  simp at hlt
  simp[hlt]at h
  simp[h]) hs ps.toList as _ p v u has h hp
 split at hf
 ·cases hf
 rename_i cs hcs
 cases hf
 obtain⟨i0,hi0,hsz,_,z,hz,hds,_⟩:=(hT t tt htt).info
 obtain⟨acc',h1,h2⟩:=hfill tt.zero cs z.cells hds hcs
 refine⟨rfl,.agg acc',?_,by simp only[Den];exact⟨acc'.toList,by simp,h2⟩⟩
 simp only[Sem.run_bind,Instr.build,zero_run hi0 hz,Result.andThen,run_underlying (desc_array hT htt hkind),sizeOf_run hT hte,Array.toList_map,h1,Sem.run_pure]
end Go.Proofs.YtaofjnkpkocgjaaGreat.Xf
end
section 
namespace Go.Proofs.YtaofjnkpkocgjaaGreat.Xf
variable {P:Program} {sp:Sp} {spP:SpP} {no:Lim} {sl:List Ent} {m:Mem} {b1 w0 w:World} {W:Addr->Prop} {a:Act} {tab:Tab} {isP:FuncId->Bool}
theorem intsZ_eq:∀ n,intsZ n=List.replicate n 0
 | 0=>rfl
 | n+1=>by simp[intsZ,intsZ_eq n,List.replicate_succ]
theorem done_mks (hT:∀ t tt,tab t=some tt->TtOk P t tt) (hs:SlotsOk sl a) (hm:MemSat w0 W m w) (hk:Kept b1 w0 W w)
  {t e:TypeId} {tt te:TT} (htt:tab t=some tt) (hkind:tt.kind=.slice e) (hte:tab e=some te) (h1:te.size=1) (hby:te.bytes<=100) {z:SV} (hz:zero1 te=some z)
  {k:Nat} {X Y:Operand} {ax ay:Opd} (hax:opd X=some ax) (hay:opd Y=some ay)
  (hx:∀ x,∃ p v u,stepF sp spP no x sl (lk m) (.mks k z te.bytes ax ay)=some (p,v,u)/\p) :
  Done P sp spP no sl m b1 w0 W (.mks k z te.bytes ax ay) ((do pure (Next.value (<-Instr.makeSlice t (a.eval X) (a.eval Y))):Sem Next).run P w):=by
 obtain⟨p0,v0,u0,h0,hp0⟩:=hx (fun _=>default)
 simp only[stepF]at h0
 obtain⟨s0,q0,hd0,hf0,hq0⟩:=o1_den h0 hp0 hax hs
 obtain⟨s1,q1,hd1,hf1,hq1⟩:=o1_den hf0 hq0 hay hs
 cases s0<;>cases s1<;>simp only at hf1<;>first | (cases hf1;done) | skip
 rename_i kx n ky c
 split at hf1
 ·cases hf1
 rename_i ch hch
 cases hf1
 obtain⟨g0,g1,g2⟩:=hq1
 simp only[Den]at hd0 hd1
 obtain⟨p,v,u,h,hp⟩:=hx (fun _=>⟨w.heap.size,0,false,c.toNat⟩)
 have h':=h
 simp only[stepF]at h
 obtain⟨s0,q0,hd0',hf0,hq0⟩:=o1_den h hp hax hs
 obtain⟨s1,q1,hd1',hf1,hq1⟩:=o1_den hf0 hq0 hay hs
 cases s0<;>cases s1<;>simp only at hf1<;>first | (cases hf1;done) | skip
 simp only[Den]at hd0' hd1'
 rw[hd0]at hd0'
 rw[hd1]at hd1'
 cases hd0'
 cases hd1'
 rw[hch]at hf1
 simp only at hf1
 cases hf1
 obtain⟨i0,hi0,hsz,hbytes,zv,hzv,hds,_⟩:=(hT e te hte).info
 have hz':te.zero=[z]:=by
  unfold zero1 at hz
  split at hz
  ·rename_i z' hz';cases hz;exact hz'
  ·cases hz
 rw[hz']at hds
 simp only[Dens]at hds
 obtain⟨zv1,r,hzl,hdz,rfl⟩:=hds
 have hb:(i0.bytes:Int)*c<=281474976710656:=by
  rw[hbytes]
  have:(te.bytes:Int)*c<=100*1000000000000:=by
   exact Int.mul_le_mul (by omega) g2 (by omega) (by omega)
  omega
 have hrun:=run_make (P:=P) w t e i0 zv (desc_slice hT htt hkind) hi0 hzv kx ky n c g0 g1 hb (by omega)
 rw[hsz,h1,Nat.mul_one]at hrun
 have hC:∀ o,o<c.toNat->(madeCells zv.cells c.toNat)[o]?=some zv1:=by
  intro o ho
  have:zv.cells=#[zv1]:=by apply Array.ext';simpa using hzl
  simp[madeCells,this,ho,Nat.mod_one]
 have hfc:ch.len=n.toNat/\ch.fits ⟨w.heap.size,0,false,c.toNat⟩/\ch.ext ⟨w.heap.size,0,false,c.toNat⟩=c.toNat/\∀ o,o<n.toNat->Den (ch.cell o) zv1:=by
  unfold rowRep at hch
  split at hch
  ·cases hch
   refine⟨by simp[Chunk.len],by simp[Chunk.fits];omega,rfl,fun o ho=>?_⟩
   simpa [Chunk.cell,List.getD_eq_getElem?_getD,ho]using hdz
  ·cases hch
   refine⟨by simp[Chunk.len],by simp[Chunk.fits];omega,rfl,fun o ho=>?_⟩
   simpa [Chunk.cell,List.getD_eq_getElem?_getD,ho]using hdz
  ·cases hch
 obtain⟨hm',hk'⟩:=made_ok hm hk k (madeCells zv.cells c.toNat) e ⟨w.heap.size,0,false,c.toNat⟩ ch rfl rfl
  (fun o ho=>⟨zv1,hC o (by rw[hfc.1]at ho;omega),hfc.2.2.2 o (by rw[hfc.1]at ho;exact ho)⟩)
  (by rw[hfc.2.2.1];simp[madeCells]) hfc.2.1 (fun _ _ _ hrw=>by
   unfold rowRep at hch
   split at hch<;>cases hch<;>exact hrw.elim)
 refine⟨_,_,_,_,.slice (some ⟨w.heap.size,0,none⟩) n.toNat c.toNat,_,h',hp,.inl ?_,?_,by simpa [apU]using hm',hk'⟩
 ·simp only[Sem.run_bind,hd0,hd1,hrun,Result.andThen,Sem.run_pure]
 ·simp only[Den]
  refine⟨by omega,g0,by simp;omega,by simp,some ⟨w.heap.size,0,none⟩,by simp,by simp,fun _=>by simp[Loc.ad]⟩
theorem done_allocI (hT:∀ t tt,tab t=some tt->TtOk P t tt) (hm:MemSat w0 W m w) (hk:Kept b1 w0 W w) {t:TypeId} {tt:TT} {k n:Nat} {ik:IntKind} (htt:tab t=some tt)
  (hz:tt.zero=List.replicate n (.int ik 0))
  (hx:∀ x,∃ p v u,stepF sp spP no x sl (lk m) (.allocI k ik n)=some (p,v,u)/\p) :
  Done P sp spP no sl m b1 w0 W (.allocI k ik n) ((do pure (Next.value (<-Instr.alloc t true (.tuple #[]))):Sem Next).run P w):=by
 obtain⟨p,v,u,h,hp⟩:=hx (fun _=>⟨w.heap.size,0,false,0⟩)
 have h0:=h
 simp only[stepF]at h
 cases h
 obtain⟨i0,hi0,hsz,_,z,hzv,hds,_⟩:=(hT t tt htt).info
 rw[hz]at hds
 have hl:=hds.length
 simp at hl
 obtain⟨hm',hk'⟩:=made_ok hm hk k z.cells t ⟨w.heap.size,0,false,n⟩ (.ints ik (intsZ n)) rfl rfl
  (fun o ho=>by
   simp only[Chunk.len,intsZ_eq,List.length_replicate]at ho
   obtain⟨v,hv,hd⟩:=hds.get (i:=o) (c:=.int ik 0) (by simp[ho])
   exact⟨v,by simpa using hv,by simpa [Chunk.cell,intsZ_eq,List.getD_eq_getElem?_getD,ho]using hd⟩)
  (by simp only[Chunk.ext];omega) (by simp[Chunk.fits,intsZ_eq]) (fun _ _ _ h=>h.elim)
 refine⟨_,_,_,_,.pointer (some ⟨w.heap.size,0,none⟩),_,h0,hp,.inl ?_,by simp[Den,Loc.ad],by simpa [apU]using hm',hk'⟩
 simp[Instr.alloc,newVar,newRow,zero_run hi0 hzv,Result.andThen]
theorem inOrder_eval:∀ (l:List (Nat×Operand)) (n:Nat) (xs:List Operand),inOrder n l=some xs->l.map (fun(i,x)=>(i,a.eval x))=((xs.map a.eval).zipIdx n).map fun(v,i)=>(i,v)
 | [],n,xs,h=>by simp only[inOrder]at h;cases h;simp
 | (i,x)::l,n,xs,h=>by
  simp only[inOrder]at h
  by_cases e:i=n
  ·subst e
   rw[show(i==i)=true by simp]at h
   try simp only[cond_true]at h
   split at h
   ·rename_i r hr
    cases h
    simp[inOrder_eval l (i+1) r hr]
   ·cases h
  ·have e':(i==n)=false:=by simpa using e
   rw[e']at h
   cases h
theorem fill_row:∀ (vs:List Value) (n:Nat) (acc:Array Value),n+vs.length=acc.size->(∀ v∈vs,v.cells=#[v]) ->
  ∃ acc',Instr.fill (fun i=>some (i*1,1)) acc ((vs.zipIdx n).map fun(v,i)=>(i,v))=some acc'/\acc'.toList=acc.toList.take n++vs
 | [],n,acc,hn,_=>⟨acc,by simp[Instr.fill],by simp at hn;rw[List.take_of_length_le (by simp;omega)];simp⟩
 | v::vs,n,acc,hn,h1=>by
  simp only[List.length_cons]at hn
  have hv:=h1 v (by simp)
  obtain⟨acc',h2,h3⟩:=fill_row vs (n+1) (acc.setIfInBounds n v) (by simp;omega) (fun u hu=>h1 u (by simp[hu]))
  refine⟨acc',?_,?_⟩
  ·simp only[List.zipIdx_cons,List.map_cons,Instr.fill]
   have e1:¬ (v.cells.size≠1):=by rw[hv];simp
   have e2:¬ (n*1+v.cells.size>acc.size):=by rw[hv];simp;omega
   simp only[e1,e2,decide_false,Bool.or_self,Bool.false_eq_true,if_false]
   rw[<-h2,hv]
   simp
  ·rw[h3]
   have:n<acc.toList.length:=by simp;omega
   simp only[Array.toList_setIfInBounds]
   rw[List.take_succ_eq_append_getElem (by simpa using this)]
   simp[List.take_set_of_le]
theorem row_cells {vs:List SV} {ch:Chunk} (h:rowOf vs=some ch):ch.len=vs.length/\(∀ o c,vs[o]?=some c->ch.cell o=c/\size1 c=true)/\(∀ L,ch.ext L=L.cap)/\∀ L:Loc,vs.length<=L.cap->L.nil=false->ch.fits L:=by
 unfold rowOf at h
 split at h
 ·split at h
  ·cases h
  ·rename_i r hr
   cases h
   have hg:=asBools_get hr
   refine⟨by simpa [Chunk.len]using hg.1,fun o c hc=>?_,fun _=>rfl,fun L h1 h2=>⟨by rw[hg.1];exact h1,by simp[h2]⟩⟩
   have hlt:o<_:=(List.getElem?_eq_some_iff.1 hc).1
   have:=hg.2 o hlt
   rw[hc]at this;cases this
   exact⟨rfl,rfl⟩
 ·split at h
  ·cases h
  ·rename_i r hr
   cases h
   have hg:=asInts_get hr
   refine⟨by simpa [Chunk.len]using hg.1,fun o c hc=>?_,fun _=>rfl,fun L h1 h2=>⟨by rw[hg.1];exact h1,by simp[h2]⟩⟩
   have hlt:o<_:=(List.getElem?_eq_some_iff.1 hc).1
   have:=hg.2 o hlt
   rw[hc]at this;cases this
   exact⟨rfl,rfl⟩
 ·cases h
  exact⟨rfl,by simp,fun _=>rfl,fun L h1 h2=>⟨by simp,by simp[h2]⟩⟩
 ·cases h
theorem done_bslice (hT:∀ t tt,tab t=some tt->TtOk P t tt) (hs:SlotsOk sl a) (hm:MemSat w0 W m w) (hk:Kept b1 w0 W w)
  {t e:TypeId} {tt te:TT} (htt:tab t=some tt) (hkind:tt.kind=.slice e) (hte:tab e=some te) (h1:te.size=1)
  {k len:Nat} {ps:Array (Nat×Operand)} {xs:List Operand} {as:List Opd} (hio:inOrder 0 ps.toList=some xs) (has:opds xs=some as) (hlen:ps.size=len) (hsmall:len<=16777216)
  (hx:∀ x,∃ p v u,stepF sp spP no x sl (lk m) (.bslice k as)=some (p,v,u)/\p) :
  Done P sp spP no sl m b1 w0 W (.bslice k as) ((do pure (Next.value (<-Instr.buildSlice t len (ps.map fun(i,x)=>(i,a.eval x)))):Sem Next).run P w):=by
 obtain⟨p,v,u,h,hp⟩:=hx (fun _=>⟨w.heap.size,0,false,len⟩)
 have h':=h
 simp only[stepF]at h
 obtain⟨vs,p',hds,hf,hp'⟩:=ons_den hs has h hp
 split at hf
 ·cases hf
 rename_i ch hch
 cases hf
 have hev:=inOrder_eval (a:=a) ps.toList 0 xs hio
 have hxl:xs.length=len:=by
  have:=congrArg List.length hev
  simp at this;omega
 have hvl:vs.length=len:=by have:=hds.length;simp at this;omega
 obtain⟨g1,g2,g3,g4⟩:=row_cells hch
 have hone:∀ v∈xs.map a.eval,v.cells=#[v]:=by
  intro v hv
  obtain⟨i,hi⟩:=List.getElem?_of_mem hv
  have hlt:i<vs.length:=by
   have:=(List.getElem?_eq_some_iff.1 hi).1
   simp at this;omega
  obtain⟨c,hc⟩:∃ c,vs[i]?=some c:=⟨_,List.getElem?_eq_getElem hlt⟩
  obtain⟨v',hv',hd⟩:=hds.get hc
  rw[hi]at hv';cases hv'
  exact(hd.one (g2 i c hc).2).2
 obtain⟨i0,hi0,hsz,hby,zv,hzv,hdz,_⟩:=(hT e te hte).info
 obtain⟨acc',hfill,hacc⟩:=fill_row (xs.map a.eval) 0 ((Array.range (len*1)).map fun x=>(if len*1=0 then #[]else zv.cells)[x % (if len*1=0 then #[]else zv.cells).size]!) (by simp[hxl]) hone
 simp only[List.take_zero,List.nil_append]at hacc
 obtain⟨hm',hk'⟩:=made_ok hm hk k acc' e ⟨w.heap.size,0,false,len⟩ ch rfl rfl
  (fun o ho=>by
   rw[g1]at ho
   obtain⟨c,hc⟩:∃ c,vs[o]?=some c:=⟨_,List.getElem?_eq_getElem ho⟩
   obtain⟨v',hv',hd⟩:=hds.get hc
   refine⟨v',?_,by rw[(g2 o c hc).1];exact hd⟩
   rw[<-hacc]at hv'
   simpa using hv')
  (by rw[g3];have:=congrArg List.length hacc;simp at this;simp only;omega) (g4 _ (by simp only;omega) rfl) (fun _ _ _ hrw=>by
   unfold rowOf at hch
   repeat' split at hch
   all_goals first | (cases hch;done) | (cases hch;exact hrw.elim))
 refine⟨_,_,_,_,.slice (some ⟨w.heap.size,0,none⟩) len len,_,h',hp,.inl ?_,?_,by simpa [apU]using hm',hk'⟩
 ·have hnot:¬ (len*1>2^24):=by omega
  have hpl:(ps.map fun(i,x)=>(i,a.eval x)).toList=((xs.map a.eval).zipIdx 0).map fun(v,i)=>(i,v):=by
   rw[<-hev];simp
  simp only[Instr.buildSlice,Sem.run_bind,run_underlying (desc_slice hT htt hkind),Result.andThen,sizeOf_run hT hte,h1,hnot,if_false,Sem.run_pure,hpl]
  by_cases hz:len*1=0
  ·simp only[hz,if_true]at hfill ⊢
   simp only[Sem.run_pure,hfill,newRow,Sem.run_bind,newObj,Sem.run,Result.andThen]
   rfl
  ·simp only[hz,if_false]at hfill ⊢
   simp only[Sem.run_bind,zero_run hi0 hzv,Result.andThen,Sem.run_pure,hfill,newRow,newObj,Sem.run]
   rfl
 ·simp only[Den]
  refine⟨by omega,by omega,by simp;omega,by simp,some ⟨w.heap.size,0,none⟩,by simp[hvl],by simp,fun _=>by simp[Loc.ad]⟩
theorem zeroR_ok {nk:IntKind}:∀ {l:List SV} {r:List RC},zeroR nk l=some r->r.length=l.length/\(∀ xs,Dens l xs->Dens (r.map RC.sv) xs)/\(∀ L k xs,RC.row L k xs∈r->L=nilLoc0/\xs=[])
 | [],r,h=>by simp only[zeroR]at h;cases h;exact⟨rfl,fun _ h=>h,fun _ _ _ h=>by simp at h⟩
 | c::l,r,h=>by
  unfold zeroR at h
  split at h
  ·rename_i e;cases e
  ·rename_i e;cases e
   split at h
   case h_2=>cases h
   rename_i r' hr
   cases h
   obtain⟨h1,h2,h3⟩:=zeroR_ok hr
   refine⟨by simp[h1],fun xs hx=>?_,fun L k xs hx=>h3 L k xs (by simpa using hx)⟩
   simp only[Dens,List.map_cons,RC.sv]at hx ⊢
   obtain⟨v,vs,e,g1,g2⟩:=hx
   exact⟨v,vs,e,g1,h2 vs g2⟩
  ·rename_i e;cases e
   split at h
   case h_2=>cases h
   rename_i r' hr
   cases h
   obtain⟨h1,h2,h3⟩:=zeroR_ok hr
   refine⟨by simp[h1],fun xs hx=>?_,fun L k xs hx=>h3 L k xs (by simpa using hx)⟩
   simp only[Dens,List.map_cons,RC.sv]at hx ⊢
   obtain⟨v,vs,e,g1,g2⟩:=hx
   exact⟨v,vs,e,g1,h2 vs g2⟩
  ·rename_i e;cases e
   split at h
   case h_2=>cases h
   rename_i r' hr
   cases h
   obtain⟨h1,h2,h3⟩:=zeroR_ok hr
   refine⟨by simp[h1],fun xs hx=>?_,fun L k xs hx=>?_⟩
   ·simp only[Dens,List.map_cons,RC.sv]at hx ⊢
    obtain⟨v,vs,e,g1,g2⟩:=hx
    refine⟨v,vs,e,?_,h2 vs g2⟩
    simpa only[Den,nilLoc0,List.length_nil,Int.natCast_zero,Int.ofNat_zero]using g1
   ·rcases List.mem_cons.1 hx with hx | hx
    ·cases hx;exact⟨rfl,rfl⟩
    ·exact h3 L k xs hx
  ·cases h
theorem Dens.sv {cs:List RC} {us:List Value} (h:Dens (cs.map RC.sv) us):us.length=cs.length/\∀ f,f<cs.length->∃ v,us[f]?=some v/\Den (cs.getD f (.int .i64 0)).sv v:=by
 refine⟨by simpa using h.length,fun f hf=>?_⟩
 obtain⟨v,hv,hd⟩:=h.get (i:=f) (c:=(cs[f]).sv) (by simp[hf])
 exact⟨v,hv,by simpa [List.getD_eq_getElem?_getD,hf]using hd⟩
theorem done_mksR (hT:∀ t tt,tab t=some tt->TtOk P t tt) (hs:SlotsOk sl a) (hm:MemSat w0 W m w) (hk:Kept b1 w0 W w)
  {t e:TypeId} {tt te:TT} (htt:tab t=some tt) (hkind:tt.kind=.slice e) (hte:tab e=some te) (h1:0<te.size) (hby:te.bytes<=100000) {nk:IntKind} {z:List RC} (hz:zeroR nk te.zero=some z)
  {k:Nat} {X Y:Operand} {ax ay:Opd} (hax:opd X=some ax) (hay:opd Y=some ay)
  (hx:∀ x,∃ p v u,stepF sp spP no x sl (lk m) (.mksR k z te.bytes ax ay)=some (p,v,u)/\p) :
  Done P sp spP no sl m b1 w0 W (.mksR k z te.bytes ax ay) ((do pure (Next.value (<-Instr.makeSlice t (a.eval X) (a.eval Y))):Sem Next).run P w):=by
 obtain⟨p0,v0,u0,h0,hp0⟩:=hx (fun _=>default)
 simp only[stepF]at h0
 obtain⟨s0,q0,hd0,hf0,hq0⟩:=o1_den h0 hp0 hax hs
 obtain⟨s1,q1,hd1,hf1,hq1⟩:=o1_den hf0 hq0 hay hs
 cases s0<;>cases s1<;>simp only at hf1<;>first | (cases hf1;done) | skip
 rename_i kx n ky c
 cases hf1
 obtain⟨g0,g1,g2⟩:=hq1
 simp only[Den]at hd0 hd1
 obtain⟨p,v,u,h,hp⟩:=hx (fun _=>⟨w.heap.size,0,false,c.toNat⟩)
 have h':=h
 simp only[stepF]at h
 obtain⟨s0,q0,hd0',hf0,hq0⟩:=o1_den h hp hax hs
 obtain⟨s1,q1,hd1',hf1,hq1⟩:=o1_den hf0 hq0 hay hs
 cases s0<;>cases s1<;>simp only at hf1<;>first | (cases hf1;done) | skip
 simp only[Den]at hd0' hd1'
 rw[hd0]at hd0'
 rw[hd1]at hd1'
 cases hd0'
 cases hd1'
 cases hf1
 obtain⟨i0,hi0,hsz,hbytes,zv,hzv,hds,_⟩:=(hT e te hte).info
 obtain⟨z1,z2,z3⟩:=zeroR_ok hz
 obtain⟨y1,y2⟩:=(z2 _ hds).sv
 have hzs:zv.cells.size=te.size:=by
  have:=hds.length
  have e2:te.zero.length=te.size:=by
   have:=(hT e te hte).len
   exact this
  simp at this;omega
 simp at y1
 have hb:(i0.bytes:Int)*c<=281474976710656:=by
  rw[hbytes]
  have:(te.bytes:Int)*c<=100000*1000000000:=by
   exact Int.mul_le_mul (by omega) g2 (by omega) (by omega)
  omega
 have hrun:=run_make (P:=P) w t e i0 zv (desc_slice hT htt hkind) hi0 hzv kx ky n c g0 g1 hb (by omega)
 rw[hsz]at hrun
 have hzl:z.length=te.size:=by omega
 obtain⟨hm',hk'⟩:=made_ok hm hk k (madeCells zv.cells (c.toNat*te.size)) e ⟨w.heap.size,0,false,c.toNat⟩ (.recs z.length true z (List.replicate n.toNat z)) rfl rfl
  (fun o ho=>by
   simp only[Chunk.len,List.length_replicate,hzl]at ho
   have hlt:o<c.toNat*te.size:=Nat.lt_of_lt_of_le ho (Nat.mul_le_mul_right _ (by omega))
   have hmod:o % te.size<te.size:=Nat.mod_lt _ h1
   obtain⟨v,hv,hd⟩:=y2 (o % te.size) (by omega)
   refine⟨v,?_,?_⟩
   ·have hv':zv.cells[o % te.size]?=some v:=by simpa using hv
    have:zv.cells[o % te.size]! = v:=by rw[getElem!_def,hv']
    simp[madeCells,hlt,hzs,this]
   ·have hdiv:o / te.size<n.toNat:=Nat.div_lt_of_lt_mul (by rw[Nat.mul_comm];exact ho)
    have e1:(List.replicate n.toNat z).getD (o / te.size) []=z:=by
     rw[List.getD_eq_getElem?_getD,List.getElem?_replicate,if_pos hdiv];rfl
    simp only[Chunk.cell,rcAt,hzl,e1]
    exact hd)
  (by simp[Chunk.ext,madeCells,hzl]) ⟨by simp;omega,by simp,by omega,fun r hr=>by rw[List.eq_of_mem_replicate hr]⟩
  (fun L k xs ⟨r,hr,hx⟩=>by
   rw[List.eq_of_mem_replicate hr]at hx
   obtain⟨rfl,rfl⟩:=z3 L k xs hx
   exact shown_nil k)
 refine⟨_,_,_,_,.slice (some ⟨w.heap.size,0,none⟩) n.toNat c.toNat,_,h',hp,.inl ?_,?_,by simpa [apU]using hm',hk'⟩
 ·simp only[Sem.run_bind,hd0,hd1,hrun,Result.andThen,Sem.run_pure]
 ·simp only[Den]
  refine⟨by omega,g0,by simp;omega,by simp,some ⟨w.heap.size,0,none⟩,by simp,by simp,fun _=>by simp[Loc.ad]⟩
theorem fold_get (off:Nat):∀ (l:List Value) (n:Nat) (acc:Array Value),off+n+l.length<=acc.size ->
  ((l.zipIdx n).foldl (fun cs (c,j)=>cs.setIfInBounds (off+j) c) acc).size=acc.size /\
  ∀ o,((l.zipIdx n).foldl (fun cs (c,j)=>cs.setIfInBounds (off+j) c) acc)[o]?=if off+n<=o/\o<off+n+l.length then l[o-(off+n)]? else acc[o]?
 | [],n,acc,h=>⟨rfl,fun o=>by simp;intro h1 h2;omega⟩
 | v::l,n,acc,h=>by
  simp only[List.length_cons]at h
  obtain⟨h1,h2⟩:=fold_get off l (n+1) (acc.setIfInBounds (off+n) v) (by simp;omega)
  simp only[List.zipIdx_cons,List.foldl_cons]
  refine⟨by rw[h1];simp,fun o=>?_⟩
  rw[h2]
  by_cases e:o=off+n
  ·subst e
   have:off+n<acc.size:=by omega
   rw[if_neg (by omega),if_pos (by simp)]
   simp[this]
  ·by_cases e2:off+(n+1)<=o/\o<off+(n+1)+l.length
   ·rw[if_pos e2,if_pos (by simp;omega)]
    rw[show o-(off+n)=o-(off+(n+1))+1 by omega]
    simp
   ·rw[if_neg e2,if_neg (by simp;omega)]
    simp[Ne.symm e]
theorem fill_recs {s:Nat} (hs0:0<s):∀ (l:List (List RC)) (vs:List Value) (n:Nat) (acc:Array Value),vs.length=l.length->(∀ (i:Nat) (v:Value),vs[i]?=some v->∃ r:List RC,l[i]?=some r/\r.length=s/\Dens (r.map RC.sv) v.cells.toList) ->
  (n+vs.length)*s<=acc.size ->
  ∃ acc',Instr.fill (fun i=>some (i*s,s)) acc ((vs.zipIdx n).map fun(v,i)=>(i,v))=some acc'/\acc'.size=acc.size/\(∀ o,o<n*s->acc'[o]?=acc[o]?) /\
   ∀ o,o<l.length*s->∃ v,acc'[n*s+o]?=some v/\Den (rcAt l s o).sv v
 | [],[],n,acc,_,_,_=>⟨acc,rfl,rfl,fun _ _=>rfl,fun o ho=>by simp at ho⟩
 | [],_::_,n,acc,h,_,_=>by simp at h
 | _::_,[],n,acc,h,_,_=>by simp at h
 | r::l,v::vs,n,acc,hl,hd,hn=>by
  simp only[List.length_cons]at hl hn
  obtain⟨r0,e0,hr,hdr⟩:=hd 0 v rfl
  simp at e0;subst e0
  have hsv:=hdr.sv
  have hvs:v.cells.size=s:=by have:=hsv.1;simp at this;omega
  have hle:n*s+s<=acc.size:=by
   have:(n+1)*s<=(n+(vs.length+1))*s:=Nat.mul_le_mul_right _ (by omega)
   rw[Nat.add_mul,Nat.one_mul]at this
   omega
  obtain⟨f1,f2⟩:=fold_get (n*s) v.cells.toList 0 acc (by simp;omega)
  obtain⟨acc',g1,g2,g3,g4⟩:=fill_recs hs0 l vs (n+1) _ (by omega) (fun i u hu=>by
   obtain⟨r',h1,h2⟩:=hd (i+1) u (by simpa using hu)
   exact⟨r',by simpa using h1,h2⟩) (by rw[f1];rw[show n+1+vs.length=n+(vs.length+1) by omega];exact hn)
  refine⟨acc',?_,by rw[g2,f1],fun o ho=>?_,fun o ho=>?_⟩
  ·simp only[List.zipIdx_cons,List.map_cons,Instr.fill]
   have e1:¬ (v.cells.size≠s):=by omega
   have e2:¬ (n*s+v.cells.size>acc.size):=by omega
   simp only[e1,e2,decide_false,Bool.or_self,Bool.false_eq_true,if_false]
   rw[<-g1]
   congr 1
   rw[<-Array.foldl_toList]
   simp
  ·rw[g3 o (by rw[Nat.add_mul];omega),f2,if_neg (by omega)]
  ·simp only[List.length_cons]at ho
   by_cases h:o<s
   ·obtain⟨x,hx,hdx⟩:=hsv.2 o (by omega)
    refine⟨x,?_,?_⟩
    ·rw[g3 _ (by rw[Nat.add_mul];omega),f2,if_pos (by simp;omega)]
     simpa using hx
    ·have e1:o / s=0:=Nat.div_eq_of_lt h
     have e2:o % s=o:=Nat.mod_eq_of_lt h
     simpa [rcAt,e1,e2]using hdx
   ·obtain⟨x,hx,hdx⟩:=g4 (o-s) (by rw[Nat.add_mul]at ho;omega)
    refine⟨x,?_,?_⟩
    ·rw[<-hx];congr 1;rw[Nat.add_mul];omega
    ·have e1:o / s=(o-s) / s+1:=by rw[<-Nat.add_div_right _ hs0];congr 1;omega
     have e2:o % s=(o-s) % s:=by
      have h3:o-s+s=o:=by omega
      conv=>lhs;rw[<-h3]
      exact Nat.add_mod_right _ _
     simpa [rcAt,e1,e2]using hdx
theorem recsOf_ok {m0:Mem} {no:Lim} {nk:IntKind} {s:Nat}:∀ {vs:List SV} {m:Mem} {p:Prop} {l:List (List RC)} {u:Upd} {f:Bool},MemSat w0 W m w->Dem m0 m->recsOf (lkN no (lk m0)) nk s vs=some (p,l,u,f)->p ->
  MemSat w0 W (apU m u) w/\Dem m0 (apU m u)/\(∀ fr M k xs,Shown w0 fr m w M k xs->Shown w0 fr (apU m u) w M k xs)/\(∀ r∈l,∀ M k xs,RC.row M k xs∈r->Shown w0 f (apU m u) w M k xs)/\l.length=vs.length/\(∀ r∈l,r.length=s) /\
   (∀ xs,Dens vs xs->∀ (i:Nat) (v:Value),xs[i]?=some v->∃ r:List RC,l[i]?=some r/\r.length=s/\Dens (r.map RC.sv) v.cells.toList)
 | [],m,p,l,u,f,hm,hd,h,hp=>by
  simp only[recsOf]at h
  cases h
  exact⟨hm,hd,fun _ _ _ _ h=>h,fun _ h=>(by simp at h),rfl,fun _ h=>(by simp at h),fun xs hx i v hv=>by simp only[Dens]at hx;subst hx;simp at hv⟩
 | v::vs,m,p,l,u,f,hm,hd,h,hp=>by
  simp only[recsOf]at h
  split at h
  case h_2=>cases h
  rename_i p1 r1 u1 f1 p2 r2 u2 f2 h1 h2
  cases h
  obtain⟨a1,a2,a3,a4,a5,a6⟩:=recOf_ok hm hd h1 hp.1
  obtain⟨b1,b2,b3,b4,b5,b6,b7⟩:=recsOf_ok a1 a2 h2 hp.2
  rw[apU_append]
  refine⟨b1,b2,fun fr M k xs h=>b3 _ _ _ _ (a3 _ _ _ _ h),fun r hr M k xs h=>?_,by simp[b5],fun r hr=>?_,fun xs hx i x hi=>?_⟩
  ·rcases List.mem_cons.1 hr with rfl | hr
   ·exact(b3 _ _ _ _ (a4 _ _ _ h)).le (fun hh=>by simp only[Bool.and_eq_true]at hh;exact hh.1)
   ·exact(b4 r hr _ _ _ h).le (fun hh=>by simp only[Bool.and_eq_true]at hh;exact hh.2)
  ·rcases List.mem_cons.1 hr with rfl | hr
   ·exact a6
   ·exact b6 r hr
  ·simp only[Dens]at hx
   obtain⟨x0,xs',rfl,hx0,hxs⟩:=hx
   cases i with
   | zero=>simp at hi;subst hi;exact⟨r1,rfl,a6,a5 _ hx0⟩
   | succ i=>simpa using b7 xs' hxs i x (by simpa using hi)
theorem done_brecs (hT:∀ t tt,tab t=some tt->TtOk P t tt) (hs:SlotsOk sl a) (hm:MemSat w0 W m w) (hk:Kept b1 w0 W w)
  {t e:TypeId} {tt te:TT} (htt:tab t=some tt) (hkind:tt.kind=.slice e) (hte:tab e=some te) (h1:0<te.size) {nk:IntKind}
  {k len:Nat} {ps:Array (Nat×Operand)} {xs:List Operand} {as:List Opd} (hio:inOrder 0 ps.toList=some xs) (has:opds xs=some as) (hlen:ps.size=len) (hsmall:te.size*len<=16777216)
  (hx:∀ x,∃ p v u,stepF sp spP no x sl (lk m) (.brecs k te.size nk as)=some (p,v,u)/\p) :
  Done P sp spP no sl m b1 w0 W (.brecs k te.size nk as) ((do pure (Next.value (<-Instr.buildSlice t len (ps.map fun(i,x)=>(i,a.eval x)))):Sem Next).run P w):=by
 obtain⟨p,v,u,h,hp⟩:=hx (fun _=>⟨w.heap.size,0,false,len⟩)
 have h':=h
 simp only[stepF]at h
 obtain⟨vs,p',hds,hf,hp'⟩:=ons_den hs has h hp
 have hev:=inOrder_eval (a:=a) ps.toList 0 xs hio
 have hxl:xs.length=len:=by
  have:=congrArg List.length hev
  simp at this;omega
 have hvl:vs.length=len:=by have:=hds.length;simp at this;omega
 cases hnk:decide (nk=.u64)with
 | true=>
  rw[hnk]at hf
  simp only[cond_true]at hf
  unfold brecC at hf
  split at hf
  case h_2=>cases hf
  rename_i cs
  obtain rfl:len=1:=by simpa using hvl.symm
  cases hb:(decide (cs.length=te.size)&&cs.all size1)with
  | false=>rw[hb]at hf;cases hf
  | true=>
   rw[hb]at hf
   cases hf
   simp only[Bool.and_eq_true,decide_eq_true_eq,List.all_eq_true]at hb
   obtain⟨hb1,hb2⟩:=hb
   obtain⟨X,rfl⟩:∃ X,xs=[X]:=by
    match xs,hxl with
    | [X],_=>exact⟨X,rfl⟩
   obtain⟨v,vs',hv,hdv,hvs'⟩:=hds
   simp only[List.map_cons,List.map_nil,List.cons.injEq]at hv
   obtain⟨rfl,_⟩:=hv
   simp only[Den]at hdv
   obtain⟨us,hus,hd⟩:=hdv
   have hul:us.length=te.size:=by rw[hd.length,hb1]
   have hcl:(a.eval X).cells=us.toArray:=by rw[hus];rfl
   obtain⟨i0,hi0,hsz,hby,zv,hzv,hdz,_⟩:=(hT e te hte).info
   have hfill:∀ acc:Array Value,acc.size=te.size->∃ acc',Instr.fill (fun i=>some (i*te.size,te.size)) acc [(0,a.eval X)]=some acc'/\acc'.toList=us:=fun acc ha=>by
    obtain⟨f1,f2⟩:=fold_get 0 us 0 acc (by omega)
    refine⟨(us.zipIdx 0).foldl (fun cs (c,j)=>cs.setIfInBounds (0+j) c) acc,?_,?_⟩
    ·simp only[Instr.fill]
     have e1:¬ ((a.eval X).cells.size≠te.size):=by rw[hcl];simpa using hul
     have e2:¬ (0*te.size+(a.eval X).cells.size>acc.size):=by rw[hcl];simp;omega
     simp only[e1,e2,decide_false,Bool.or_self,Bool.false_eq_true,if_false]
     rw[hcl,Nat.zero_mul,<-Array.foldl_toList]
     simp
    ·apply List.ext_getElem?
     intro o
     have:=f2 o
     simp only[Nat.add_zero,Nat.zero_le,true_and,Nat.zero_add,Nat.sub_zero]at this
     simp only[Array.getElem?_toList,Nat.zero_add]
     rw[this]
     by_cases ho:o<us.length
     ·rw[if_pos ho]
     ·rw[if_neg ho,List.getElem?_eq_none (by omega),Array.getElem?_eq_none (by omega)]
   have hnot:¬ (1*te.size>2^24):=by omega
   have hpl:(ps.map fun(i,x)=>(i,a.eval x)).toList=[(0,a.eval X)]:=by
    have:(ps.map fun(i,x)=>(i,a.eval x)).toList=(([X].map a.eval).zipIdx 0).map fun(v,i)=>(i,v):=by rw[<-hev];simp
    simpa using this
   obtain⟨acc',hf',hacc⟩:=hfill ((Array.range (1*te.size)).map fun x=>(if 1*te.size=0 then #[]else zv.cells)[x % (if 1*te.size=0 then #[]else zv.cells).size]!) (by simp)
   obtain⟨hm',hk'⟩:=made_ok hm hk k acc' e ⟨w.heap.size,0,false,1⟩ (.cells cs) rfl rfl
    (fun o ho=>by
     simp only[Chunk.len]at ho
     obtain⟨x,hx,hdx⟩:=hd.get (i:=o) (c:=cs[o]) (by simp[ho])
     refine⟨x,?_,by simpa [Chunk.cell,List.getD_eq_getElem?_getD,ho]using hdx⟩
     rw[<-hacc]at hx
     simpa using hx)
    (by have:=congrArg List.length hacc;simp only[Chunk.ext];simp at this;omega) rfl (fun _ _ _ h=>h.elim)
   refine⟨_,_,_,_,.slice (some ⟨w.heap.size,0,none⟩) 1 1,_,h',hp,.inl ?_,?_,by simpa [apU]using hm',hk'⟩
   ·have hz:¬ (1*te.size=0):=by omega
    simp only[Instr.buildSlice,Sem.run_bind,run_underlying (desc_slice hT htt hkind),Result.andThen,sizeOf_run hT hte,hnot,if_false,Sem.run_pure,hpl]
    simp only[hz,if_false]at hf' ⊢
    simp only[Sem.run_bind,zero_run hi0 hzv,Result.andThen,Sem.run_pure,hf',newRow,newObj,Sem.run]
    rfl
   ·simp only[Den]
    refine⟨by omega,by omega,by simp,by simp,some ⟨w.heap.size,0,none⟩,by simp,by simp,fun _=>by simp[Loc.ad]⟩
 | false=>
 rw[hnk]at hf
 simp only[cond_false]at hf
 split at hf
 ·cases hf
 rename_i q l d fr hrec
 cases hf
 obtain⟨r1,r2,r3,r4,r5,r6,r7⟩:=recsOf_ok hm (Dem.refl m) hrec hp'
 obtain⟨i0,hi0,hsz,hby,zv,hzv,hdz,_⟩:=(hT e te hte).info
 obtain⟨acc',hfill,hacc,_,hcells⟩:=fill_recs h1 l (xs.map a.eval) 0 ((Array.range (len*te.size)).map fun x=>(if len*te.size=0 then #[]else zv.cells)[x % (if len*te.size=0 then #[]else zv.cells).size]!) (by simp;omega) (r7 _ hds) (by simp[hxl])
 have hll:l.length=len:=by omega
 obtain⟨hm',hk'⟩:=made_ok r1 hk k acc' e ⟨w.heap.size,0,false,len⟩ (.recs te.size fr [] l) rfl rfl
  (fun o ho=>by
   simp only[Chunk.len]at ho
   obtain⟨x,hx,hdx⟩:=hcells o ho
   exact⟨x,by simpa using hx,hdx⟩)
  (by rw[hacc];simp[Chunk.ext]) ⟨by simp only;omega,by simp,h1,r6⟩ (fun L kk ys ⟨r,hr,hx⟩=>r4 r hr L kk ys hx)
 refine⟨_,_,_,_,.slice (some ⟨w.heap.size,0,none⟩) len len,_,h',hp,.inl ?_,?_,by rw[apU_append];simpa [apU]using hm',hk'⟩
 ·have hnot:¬ (len*te.size>2^24):=by rw[Nat.mul_comm];omega
  have hpl:(ps.map fun(i,x)=>(i,a.eval x)).toList=((xs.map a.eval).zipIdx 0).map fun(v,i)=>(i,v):=by
   rw[<-hev];simp
  simp only[Instr.buildSlice,Sem.run_bind,run_underlying (desc_slice hT htt hkind),Result.andThen,sizeOf_run hT hte,hnot,if_false,Sem.run_pure,hpl]
  by_cases hz:len*te.size=0
  ·simp only[hz,if_true]at hfill ⊢
   simp only[Sem.run_pure,hfill,newRow,Sem.run_bind,newObj,Sem.run,Result.andThen]
   rfl
  ·simp only[hz,if_false]at hfill ⊢
   simp only[Sem.run_bind,zero_run hi0 hzv,Result.andThen,Sem.run_pure,hfill,newRow,newObj,Sem.run]
   rfl
 ·simp only[Den]
  refine⟨by omega,by omega,by simp;omega,by simp,some ⟨w.heap.size,0,none⟩,by simp[hvl],by simp,fun _=>by simp[Loc.ad]⟩
end Go.Proofs.YtaofjnkpkocgjaaGreat.Xf
end
