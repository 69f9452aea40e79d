import Derived.Test.YtaofjnkpkocgjaaGreatPA2
import Derived.Test.YtaofjnkpkocgjaaGreatKc
import Derived.Test.YtaofjnkpkocgjaaGreatProg
import Derived.Test.YtaofjnkpkocgjaaGreatChecked
import Derived.ProofKit
import Derived.ChangeArms
import Derived.ChangeSlices
import Derived.SizedLaws
import Derived.OpenShut
import Derived.ChangeOld
import Derived.Below
import Derived.JoinedCond
import Derived.Deep.CondSized
set_option linter.unusedVariables false
set_option linter.unusedSimpArgs false
set_option maxRecDepth 1000
namespace Go.Proofs.YtaofjnkpkocgjaaGreat
open Xf
def flatBy (P:Program) (t:TypeId):Bool:=
 match P.underlying t with
 | some (.slice e)=>match P.underlying e with
  | some (.slice b)=>(match P.underlying b with | some (.int .u8)=>true | _=>false)&&decide (P.cellsOf e=1)&&decide (0<P.bytesOf e)&&decide (P.cellsOf b=1)&&decide (0<P.bytesOf b)
  | _=>false
 | _=>false
theorem weightsAll_mem {H:Type} {P:Program} {e:TypeId}:∀ {l:List (DataW H)} {d:DataW H},d∈l->∀ n∈d.weights P e,n∈DataW.weightsAll P e l
 | d::l,x,h,n,hn=>by
  unfold DataW.weightsAll
  rcases List.mem_cons.1 h with rfl | h
  ·exact List.mem_append_left _ hn
  ·exact List.mem_append_right _ (weightsAll_mem h n hn)
section 
variable {H:Type} {enc:TypeId×Value->H} {P:Program} {w:World} {held:Bool}
theorem rcAt_by {l:List (Xf.Loc×List Int)} {o:Nat} (ho:o<l.length):rcAt (l.map byRc) 1 o=.row (l[o]).1 .u8 (l[o]).2:=by
 unfold rcAt byRc
 simp[Nat.div_one,Nat.mod_one,ho]
def rowD (n:Nat) (d:DataW H):Prop:=n=0∨∃ e s,d=.slice e s/\e.length=n
theorem row_len {t e:TypeId} {k:IntKind} {fuel:Nat} {v:Value} {x:DataW H×List MemPlace} {L:Xf.Loc} {xs:List Int} (ht:P.underlying t=some (.slice e)) (he:P.underlying e=some (.int k)) (hc:P.cellsOf e=1)
  (h:DataW.trod enc P w 0 (fun _=>true) held fuel t [v]=some x) (hl:LeafOk w (.row k) (.row L k xs) v):rowD xs.length x.1:=by
 have hd:=hl.2.1 0
 simp only[Den]at hd
 obtain⟨_,_,_,_,A,hA,_⟩:=hd
 rcases Go.ChangeShapes.open_ints ht he hc h with ⟨h1,_⟩ | ⟨a,len,cap,zs,h1,_,h2,h3,h4,h5,_⟩
 ·obtain rfl:v=.slice none 0 0:=by simpa using h1
  injection hA with _ h6 _
  exact .inl (by omega)
 ·obtain rfl:v=.slice (some a) len cap:=by simpa using h1
  injection hA with _ h6 _
  simp only[if_true]at h4
  exact .inr ⟨_,_,by rw[h5],by unfold Go.ChangeShapes.lits;rw[List.length_map,List.length_take];omega⟩
def rowsD (l:List (Xf.Loc×List Int)) (d:DataW H):Prop:=l=[]∨∃ e s,d=.slice e s/\e.length=l.length/\∀ (i:Nat) (h:i<l.length) (h2:i<e.length),rowD (l[i]).2.length e[i]
theorem rows_open_t {fuel:Nat} {t:TypeId} {v:Value} {d:DataW H} {p:List MemPlace} (hf:flatBy P t=true) (hx:DataW.trod enc P w 0 (fun _=>true) held fuel t [v]=some (d,p)) (hw:∀ n∈d.weights P t,n<=reachBytes) :
  ∃ (L:Xf.Loc) (l:List (Xf.Loc×List Int)),(∀ c,Den (.sl c L 1 0 (l.length:Nat)) v)/\(∀ W,ChunkSat w W (.ro,L,.recs 1 false [] (l.map byRc)) w)/\l.length<=140737488355328/\(∀ r∈l,byAll r.2/\r.2.length<=140737488355328)/\rowsD l d:=by
 unfold flatBy at hf
 split at hf
 case h_2=>cases hf
 rename_i e ht
 split at hf
 case h_2=>cases hf
 rename_i u he
 simp only[Bool.and_eq_true,decide_eq_true_eq]at hf
 obtain⟨⟨⟨⟨hu,hc⟩,hb⟩,hcu⟩,hbu⟩:=hf
 split at hu
 case h_2=>cases hu
 rename_i hq
 rcases DataW.trod_slice ht hx with ⟨hcs,hxe⟩ | ⟨a,len,cap,elems,rest,m,_,hcs,hxe,hbs,hl,hm,hlen,hel,hsp,hns⟩
 ·obtain rfl:v=.slice none 0 0:=by simpa using hcs
  refine⟨Xf.nilLoc,[],fun c=>?_,fun W=>?_,by simp,by simp,.inl rfl⟩
  ·simp only[Den,nilLoc0]
   refine⟨by omega,by simp,by simp,by simp,none,by simp,by simp,by simp⟩
  ·refine⟨fun o ho=>(by simp[Chunk.len]at ho),fun _ _ _ h=>(by obtain⟨r,hr,_⟩:=h;simp at hr),fun a ha=>(by have h0:=ha.1;cases h0),fun h=>(by cases h),⟨by simp,by simp[nilLoc0],by decide,by simp⟩,fun _ _=>trivial⟩
 ·obtain rfl:v=.slice (some a) len cap:=by simpa using hcs
  obtain⟨hrl,hsp'⟩:=hsp rfl
  have hx1:d=.slice (elems.map (·.1)) (rest.map (·.1)):=(Prod.ext_iff.1 hxe).1
  rw[hx1]at hw
  unfold DataW.weights at hw
  rw[ht]at hw
  have hcap:cap<=140737488355328:=by
   have h1:=hw _ (List.mem_cons_self ..)
   simp only[List.length_map]at h1
   rw[show elems.length+rest.length=cap by omega]at h1
   have h3:cap<=cap*P.bytesOf e:=Nat.le_mul_of_pos_right _ hb
   have h4:reachBytes<=140737488355328:=by decide
   omega
  have hall:∀ i,∃ q:Xf.Loc×List Int,i<len->∃ x,w.cell? (a.add i)=some x/\LeafOk w (.row .u8) (.row q.1 .u8 q.2) x/\∀ (h:i<elems.length),rowD q.2.length (elems[i]).1:=fun i=>by
   by_cases hi:i<len
   ·have hk:=hel i hi
    have hie:i<elems.length:=by omega
    rw[List.getElem?_eq_getElem hie,Option.bind_eq_some_iff]at hk
    obtain⟨cs',hcs',hy⟩:=hk
    obtain⟨_,hcl,hcell⟩:=World.cells?_some hcs'
    obtain⟨l,x,rfl,hlo⟩:=row_open he hq hcu hbu hy (fun n hn=>hw n (List.mem_cons_of_mem _ (List.mem_append_left _ (weightsAll_mem (List.mem_map.2 ⟨_,List.getElem_mem hie,rfl⟩) n hn))))
    have h0:=hcell 0 (by omega)
    rw[hc,Nat.mul_one]at h0
    have h0':w.cell? (a.add i)=some x:=by
     have e0:(a.add i).add 0=a.add i:=by simp[Addr.add]
     rw[e0]at h0
     rw[h0];rfl
    cases l with
    | int k n=>exact hlo.elim
    | bool b=>exact hlo.elim
    | row L k xs=>
     have hk:k=.u8:=hlo.1
     subst hk
     exact⟨(L,xs),fun _=>⟨x,h0',hlo,fun _=>row_len he hq hcu hy hlo⟩⟩
   ·exact⟨(nilLoc,[]),fun h=>absurd h hi⟩
  obtain⟨f,hf⟩:=Classical.axiomOfChoice hall
  obtain⟨b,o,spot⟩:=a
  have hspot:cap≠0->spot=none:=by
   intro hc0
   by_cases h0:0<len
   ·obtain⟨x,hx,_⟩:=hf 0 h0
    simpa [Addr.add]using World.cell?_spot hx
   ·have hk:=hsp' 0 (by omega)
    rw[List.getElem?_eq_getElem (by omega),Option.bind_eq_some_iff]at hk
    obtain⟨cs',hcs',hy⟩:=hk
    obtain⟨_,hcl,hcell⟩:=World.cells?_some hcs'
    have:=hcell 0 (by omega)
    rw[List.getElem?_eq_getElem (by omega),show len+0=0 by omega]at this
    simpa [Addr.add]using World.cell?_spot this
  have hmem:∀ r∈(List.range len).map f,∃ x,LeafOk w (.row .u8) (.row r.1 .u8 r.2) x:=fun r hr=>by
   obtain⟨i,hi,rfl⟩:=List.mem_map.1 hr
   obtain⟨x,_,hx,_⟩:=hf i (by simpa using hi)
   exact⟨x,hx⟩
  refine⟨(⟨b,o,false,cap⟩:Xf.Loc),(List.range len).map f,fun c=>?_,fun W=>?_,by simp;omega,fun r hr=>?_,.inr ⟨_,_,hx1,by simp;omega,fun i h h2=>?_⟩⟩
  ·simp only[Den,List.length_map,List.length_range]
   refine⟨by omega,by omega,by omega,by simp,some ⟨b,o,spot⟩,by simp,by simp,fun h=>?_⟩
   have:spot=none:=hspot (by simpa using h)
   subst this
   simp[Xf.Loc.ad]
  ·refine⟨fun o' ho=>?_,fun L k xs h=>?_,fun a ha=>(by have h0:=ha.1;cases h0),fun h=>(by cases h),⟨by simp;omega,by simp,by decide,fun r hr=>?_⟩,fun _ _=>trivial⟩
   ·simp only[Chunk.len,List.length_map,List.length_range,Nat.mul_one]at ho
    have hs:spot=none:=hspot (by omega)
    subst hs
    obtain⟨x,hx,hl,_⟩:=hf o' ho
    have e2:(⟨b,o,none⟩:Addr).add o'=⟨b,o+o',none⟩:=by by_cases h0:o'=0<;>simp[Addr.add,h0]
    rw[e2]at hx
    refine⟨_,hx,?_⟩
    simp only[Chunk.cell]
    rw[rcAt_by (by simpa using ho)]
    simp only[List.getElem_map,List.getElem_range,RC.sv]
    exact hl.2.1 4095
   ·obtain⟨r,hr,hm⟩:=h
    obtain⟨q,hq,rfl⟩:=List.mem_map.1 hr
    simp only[byRc,List.mem_singleton,RC.row.injEq]at hm
    obtain⟨rfl,rfl,rfl⟩:=hm
    obtain⟨x,hx⟩:=hmem q hq
    have hcs:=hx.2.2.1 W
    have hfit:q.2.length<=q.1.cap/\(q.1.nil=true->q.1.cap=0):=hcs.fits
    refine⟨hfit.1,hfit.2,fun o' ho=>?_,fun h=>(by cases h)⟩
    obtain⟨y,hy,hd⟩:=hcs.cell o' ho
    simp only[Chunk.cell,Den]at hd
    rw[hy,hd]
   ·obtain⟨q,hq,rfl⟩:=List.mem_map.1 hr
    rfl
  ·obtain⟨x,hx⟩:=hmem r hr
   refine⟨fun n hn=>?_,hx.2.2.2.1⟩
   have:=hx.2.2.2.2 n hn
   simp[Lit.wf,IntKind.min,IntKind.max,IntKind.bits,IntKind.signed]at this
   omega
  ·simp only[List.length_map,List.length_range]at h
   obtain⟨x,_,_,hr⟩:=hf i h
   simp only[List.getElem_map,List.getElem_range]
   exact hr (by simpa using h2)
theorem rows_open {r:Reach} {b0:Nat} {t:TypeId} {v:Value} {d:DataW H} {p:List MemPlace} (hf:flatBy P t=true) (hv:Value.okWide P w r b0 t v) (h:DataW.Trod enc P w 0 (fun _=>true) held t v d p) (hw:∀ n∈d.weights P t,n<=reachBytes) :
  ∃ (L:Xf.Loc) (l:List (Xf.Loc×List Int)),(∀ c,Den (.sl c L 1 0 (l.length:Nat)) v)/\(∀ W,ChunkSat w W (.ro,L,.recs 1 false [] (l.map byRc)) w)/\l.length<=140737488355328/\(∀ r∈l,byAll r.2/\r.2.length<=140737488355328):=by
 obtain⟨fuel,hx⟩:=h
 have hvc:v.cells.toList=[v]:=by
  unfold flatBy at hf
  split at hf
  case h_2=>cases hf
  rename_i e ht
  obtain⟨a,n,c,rfl⟩:=WideShapes.okWide_slice ht hv
  rfl
 rw[hvc]at hx
 obtain⟨L,l,h1,h2,h3,h4,_⟩:=rows_open_t hf hx hw
 exact⟨L,l,h1,h2,h3,h4⟩
end
def b34_1:IR:=
 .seq (r_ [b_ 20 .lss 19 18] []) (.seq (.cond (.t 20) (.skip) (.exit 1)) (.seq (.block 2 (.seq (r_ [i_ 21 17 19 1,o_ 22 (.ld true none 10 1 (.t 21)),m_ 9 22] [20,21,22]) (.seq (.seq (r_ [m_ 23 7,m_ 24 9,h_ 25 24,b_ 26 .add 23 25,m_ 7 26] [9,23,24,25,26]) (.seq (r_ [m_ 27 7,m_ 28 1,b_ 29 .gtr 27 28] [27,28]) (.cond (.t 29) (.exit 1) (.skip)))) (r_ [m_ 30 6,a_ 31 30 1,m_ 6 31] [29,30,31])))) (r_ [a_ 32 19 1,m_ 19 32] [32])))
def r34_2:IR:=
 .seq (r_ [m_ 33 6,o_ 34 (.mx (.t 33) (Z_ 1)),m_ 4 34,z_ 5 0] [1,6,7,17,18,19,33,34]) (.ret)
def ir34:IR:=
 .seq (r_ [z_ 4 0,z_ 5 0] [4,5]) (.seq (.block 0 (.seq (r_ [m_ 11 0,h_ 12 11,c_ 13 .eql 12 0,m_ 10 13] [11,12,13]) (.cond (.t 10) (.seq (r_ [z_ 4 0,z_ 5 80] [0,1,10]) (.ret)) (.seq (r_ [m_ 15 1,c_ 16 .lss 15 0,m_ 14 16] [10,15,16]) (.cond (.t 14) (.seq (r_ [z_ 4 0,z_ 5 2] [0,1,14]) (.ret)) (.skip)))))) (.seq (r_ [z_ 6 0,z_ 7 0] [4,5,14]) (.seq (.seq (r_ [m_ 17 0,h_ 18 17,z_ 19 0] [0]) (.block 1 (.loop b34_1))) (r34_2))))
def kp34_1:List Nat:=[1,6,7,17,18,19]
def kl34_1:List Nat:=[10]
attribute [push_cast] kp34_1 kl34_1
set_option maxRecDepth 4000 in
theorem comp34:(Tryz.f34.body.bind fun c=>compC tab isP chkAll ir34 c)=some ir34:=by kernel_rfl
def b35_1:IR:=
 .seq (.seq (r_ [m_ 12 6,m_ 13 0,h_ 14 13,b_ 15 .lss 12 14,m_ 16 15,p_ 16 (m_ 17 0),p_ 16 (m_ 18 6),p_ 16 (i_ 19 17 18 1),p_ 16 (o_ 20 (.ld true none 10 1 (.t 19))),p_ 16 (h_ 21 20),p_ 16 (m_ 22 1),p_ 16 (b_ 23 .leq 21 22),K_ 24 16 23] [12,13,14,15,16,17,18,19,20,21,22,23]) (.cond (.t 24) (.skip) (.exit 0))) (.block 1 (.seq (r_ [m_ 25 1,m_ 26 0,m_ 27 6,i_ 28 26 27 1,o_ 29 (.ld true none 11 1 (.t 28)),h_ 30 29,b_ 31 .sub 25 30,m_ 1 31] [24,25,26,27,28,29,30,31]) (r_ [m_ 32 6,a_ 33 32 1,m_ 6 33] [32,33])))
def r35_2:IR:=
 .seq (r_ [m_ 34 6,o_ 35 (.mx (.t 34) (Z_ 1)),m_ 4 35,z_ 5 0] [0,1,6,34,35]) (.ret)
def ir35:IR:=
 .seq (r_ [z_ 4 0,z_ 5 0] [4,5]) (.seq (.seq (r_ [m_ 7 0,h_ 8 7,c_ 9 .eql 8 0] [7,8]) (.cond (.t 9) (.seq (r_ [z_ 4 0,z_ 5 80] [0,1,9]) (.ret)) (.skip))) (.seq (.seq (r_ [m_ 10 1,c_ 11 .lss 10 0] [4,5,9,10]) (.cond (.t 11) (.seq (r_ [z_ 4 0,z_ 5 2] [0,1,11]) (.ret)) (.skip))) (.seq (r_ [z_ 6 0] [4,5,11]) (.seq (.block 0 (.loop b35_1)) (r35_2)))))
def kp35_1:List Nat:=[0,1,6]
def kl35_1:List Nat:=[10,11]
attribute [push_cast] kp35_1 kl35_1
set_option maxRecDepth 4000 in
theorem comp35:(Tryz.f35.body.bind fun c=>compC tab isP chkAll ir35 c)=some ir35:=by kernel_rfl
def b21_1:IR:=
 .seq (.seq (r_ [m_ 5 4,m_ 6 0,h_ 7 6,b_ 8 .lss 5 7] [5,6,7]) (.cond (.t 8) (.skip) (.exit 0))) (.seq (.block 1 (r_ [m_ 11 3,a_ 12 11 1,m_ 13 0,m_ 14 4,i_ 15 13 14 1,o_ 16 (.ld true none 10 1 (.t 15)),h_ 17 16,b_ 18 .add 12 17,m_ 3 18] [8,11,12,13,14,15,16,17,18])) (r_ [m_ 9 4,a_ 10 9 1,m_ 4 10] [9,10]))
def r21_2:IR:=
 .seq (r_ [m_ 19 3,c_ 20 .gtr 19 2500,m_ 2 20] [0,3,4,19,20]) (.ret)
def ir21:IR:=
 .seq (r_ [o_ 2 (.mov (.k (.bool false)))] [2]) (.seq (r_ [z_ 3 0] []) (.seq (.seq (r_ [z_ 4 0] []) (.block 0 (.loop b21_1))) (r21_2)))
def kp21_1:List Nat:=[0,3,4]
def kl21_1:List Nat:=[10]
attribute [push_cast] kp21_1 kl21_1
set_option maxRecDepth 4000 in
theorem comp21:(Tryz.f21.body.bind fun c=>compC tab isP chkAll ir21 c)=some ir21:=by kernel_rfl
def b38_1:IR:=
 .seq (.seq (r_ [m_ 11 5,m_ 12 0,h_ 13 12,b_ 14 .lss 11 13] [11,12,13]) (.cond (.t 14) (.skip) (.exit 0))) (.seq (.block 1 (.seq (R_ [m_ 17 0,m_ 18 5,i_ 19 17 18 1,L_ 20 19,m_ 21 1,m_ 22 5,i_ 23 21 22 1,L_ 24 23,b_ 25 .neq 20 24] [14,17,18,19,20,21,22,23,24]) (.cond (.t 25) (.seq (r_ [o_ 4 (.mov (.k (.bool false)))] [0,1,5,25]) (.ret)) (.skip)))) (r_ [m_ 15 5,a_ 16 15 1,m_ 5 16] [4,15,16,25]))
def r38_2:IR:=
 .seq (r_ [o_ 4 (.mov (.k (.bool true)))] [0,1,5]) (.ret)
def ir38:IR:=
 .seq (r_ [o_ 4 (.mov (.k (.bool false)))] [4]) (.seq (.seq (r_ [m_ 6 0,h_ 7 6,m_ 8 1,h_ 9 8,b_ 10 .neq 7 9] [6,7,8,9]) (.cond (.t 10) (.seq (r_ [o_ 4 (.mov (.k (.bool false)))] [0,1,10]) (.ret)) (.skip))) (.seq (.seq (r_ [z_ 5 0] [4,10]) (.block 0 (.loop b38_1))) (r38_2)))
def kp38_1:List Nat:=[0,1,5]
def kl38_1:List Nat:=[]
attribute [push_cast] kp38_1 kl38_1
set_option maxRecDepth 4000 in
theorem comp38:(Tryz.f38.body.bind fun c=>compC tab isP chkAll ir38 c)=some ir38:=by kernel_rfl
def smL:List (Xf.Loc×List Int)->Int
 | []=>0
 | r::l=>r.2.length+smL l
theorem smL_nn:∀ l,0<=smL l
 | []=>Int.le_refl _
 | r::l=>by
  have:=smL_nn l
  rw[smL];omega
theorem smL_app:∀ a b,smL (a++b)=smL a+smL b
 | [],b=>by rw[List.nil_append,smL,Int.zero_add]
 | r::a,b=>by rw[List.cons_append,smL,smL,smL_app a b];omega
theorem smL_take (l:List (Xf.Loc×List Int)) {i:Nat} (h:i<l.length):smL (l.take (i+1))=smL (l.take i)+l[i].2.length:=by
 rw[List.take_succ_eq_append_getElem h,smL_app]
 show _+(((l[i].2.length:Nat):Int)+0)=_
 omega
theorem smL_le (l:List (Xf.Loc×List Int)) (i:Nat):smL (l.take i)<=smL l:=by
 have h:=smL_app (l.take i) (l.drop i)
 rw[List.take_append_drop]at h
 have:=smL_nn (l.drop i)
 omega
def bgC:List (Xf.Loc×List Int)->Int->Nat
 | [],_=>0
 | r::l,n=>if (r.2.length:Int)<=n then bgC l (n-r.2.length)+1 else 0
structure BuA where
 L:Xf.Loc
 rows:List (Xf.Loc×List Int)
 n:Int
def invBu:List SV->Look->Option (BuA×List Nat)
 | [.sl d _ 1 0 _,.int .i64 n],look=>match rowBy look d with
  | some (L,rows)=>some (⟨L,rows,n⟩,[d])
  | none=>none
 | _,_=>none
attribute [push_cast] invBu
def bgE (rows:List (Xf.Loc×List Int)) (n:Int):Int:=if rows.length=0 then 80 else if n<0 then 2 else 0
def bgK (rows:List (Xf.Loc×List Int)) (n:Int):Int:=if bgE rows n=0 then max ((bgC rows n:Nat):Int) 1 else 0
def smOk (rows:List (Xf.Loc×List Int)):Prop:=smL rows<=1000000000/\rows.length<=1000000000
def fs34:FS where
 A:=BuA
 args:=fun a=>[.sl 0 a.L 1 0 a.rows.length,.int .i64 a.n]
 mem:=fun a=>[some (.ro,a.L,.recs 1 false [] (a.rows.map byRc))]
 pre:=fun a=>smOk a.rows/\a.n<=9223372036854775807
 res:=fun a _=>.tup [.int .i64 (bgK a.rows a.n),.int .i64 (bgE a.rows a.n)]
theorem bgC_split (n:Int):∀ (l:List (Xf.Loc×List Int)) (i:Nat),i<=l.length->smL (l.take i)<=n->bgC l n=i+bgC (l.drop i) (n-smL (l.take i))
 | l,0,_,_=>by
  show bgC l n=0+bgC l (n-0)
  rw[Int.sub_zero,Nat.zero_add]
 | [],i+1,h,_=>absurd h (Nat.not_succ_le_zero _)
 | r::l,i+1,h,hs=>by
  have e:smL ((r::l).take (i+1))=r.2.length+smL (l.take i):=rfl
  have h0:=smL_nn (l.take i)
  rw[e]at hs
  have hr:(r.2.length:Int)<=n:=by omega
  have ih:=bgC_split (n-r.2.length) l i (Nat.le_of_succ_le_succ h) (by omega)
  rw[e,bgC,if_pos hr,ih,show n-(r.2.length:Int)-smL (l.take i)=n-(r.2.length+smL (l.take i)) by omega]
  show i+_+1=i+1+bgC (l.drop i) _
  omega
theorem bgC_stop {l:List (Xf.Loc×List Int)} {i:Nat} (hi:i<l.length) {n:Int} (h:n<(l[i].2.length:Int)):bgC (l.drop i) n=0:=by
 rw[List.drop_eq_getElem_cons hi,bgC,if_neg (by omega)]
theorem bgC_end (l:List (Xf.Loc×List Int)) (n:Int):bgC (l.drop l.length) n=0:=by
 rw[List.drop_length];rfl
theorem ok34:FSOk Tryz.prog 34 fs34:=by
 refine hd_ (fk_ Tryz.func34) fun a hp=>?_
 obtain⟨L,rows,n⟩:=a
 obtain⟨⟨h1,h2⟩,hnm⟩:(smL rows<=1000000000/\rows.length<=1000000000)/\n<=9223372036854775807:=hp
 change Tri Tryz.prog 34 [.sl 0 L 1 0 rows.length,.int .i64 n] [some (.ro,L,.recs 1 false [] (rows.map byRc))] (postF fs34 _)
 refine tri_evS (hyp (l:=[]) (lp:=[]) trivial trivial) Tryz.func34 comp34 (rs:=[.tmp 4,.tmp 5]) (by rfl) Tryz.ntmps34 11 ?_
 have hmapl:((rows.map byRc).length:Int)=rows.length:=by rw[List.length_map]
 obtain⟨E,hE⟩:∃ e,bgE rows n=e:=⟨_,rfl⟩
 obtain⟨C,hC⟩:∃ e,bgK rows n=e:=⟨_,rfl⟩
 have dE:E=if rows.length=0 then 80 else if n<0 then 2 else 0:=hE.symm
 have dC:C=if E=0 then max ((bgC rows n:Nat):Int) 1 else 0:=by rw[<-hE];exact hC.symm
 by_cases c1:rows.length=0
 ·rw[if_pos c1]at dE
  subst dE
  obtain rfl:C=0:=dC
  have c1i:(rows.length:Int)=0:=by omega
  simp -implicitDefEqProofs only[push_cast,zz,seval,ir34,c1i]
  refine postF.mk' (fun _=>default) [some 0] ?_
  simp -implicitDefEqProofs only[push_cast,zz,seval,fs34,hE,hC,c1i]
 have c1i:¬ (rows.length:Int)=0:=by omega
 rw[if_neg c1]at dE
 by_cases c2:n<0
 ·rw[if_pos c2]at dE
  subst dE
  obtain rfl:C=0:=dC
  simp -implicitDefEqProofs only[push_cast,zz,seval,ir34,c1i,c2]
  refine postF.mk' (fun _=>default) [some 0] ?_
  simp -implicitDefEqProofs only[push_cast,zz,seval,fs34,hE,hC]
 rw[if_neg c2]at dE
 subst dE
 rw[if_pos rfl]at dC
 simp -implicitDefEqProofs only[push_cast,zz,seval,ir34,c1i,c2]
 refine evS_loopU (A:=Nat) kp34_1 kl34_1 (fun i=>[(6,.int .i64 i),(7,.int .i64 (smL (rows.take i))),(19,.int .i64 i)]) (fun _=>[]) (fun i=>i<=rows.length/\smL (rows.take i)<=n) (fun i=>rows.length-i) 0 ⟨Nat.zero_le _,show(0:Int)<=n by omega⟩ (Sub.pt ?_) ?_
 ·have z:smL (rows.take 0)=0:=rfl
  simp -implicitDefEqProofs only[push_cast,zz,seval,z]
 intro i ⟨(hi:i<=rows.length),(hs:smL (rows.take i)<=n)⟩ K hK
 have hsp:=bgC_split n rows i hi hs
 have hle:=smL_le rows i
 have hnn:=smL_nn (rows.take i)
 by_cases hi2:i<rows.length
 ·have hi3:(i:Int)<rows.length:=by omega
  have q1:=fun z=>recAt_By (l:=rows) hi2 z
  have hst:=smL_take rows hi2
  have hle2:=smL_le rows (i+1)
  have hstop:=fun h=>bgC_stop (l:=rows) hi2 (n:=n-smL (rows.take i)) h
  obtain⟨⟨M,c⟩,hr⟩:∃ r,rows[i]=r:=⟨_,rfl⟩
  rw[hr]at q1 hst
  simp only[hr]at hstop
  simp only at q1 hst
  obtain⟨s,hse⟩:∃ s,smL (rows.take i)=s:=⟨_,rfl⟩
  rw[hse]at hsp hs hle hnn hst
  simp only[hse]at hstop
  rw[hse]
  by_cases h3:n<s+c.length
  ·rw[hstop (by omega)]at hsp
   have hCi:C=max (i:Int) 1:=by rw[dC,hsp];simp
   clear hK
   simp -implicitDefEqProofs only[push_cast,zz,seval,b34_1,hi3,q1,hmapl,h3,r34_2]
   repeat refine om_ ?_
   refine postF.mk' (fun _=>default) [some 0] ?_
   simp -implicitDefEqProofs only[push_cast,zz,seval,fs34,hE,hC,hCi]
  ·simp -implicitDefEqProofs only[push_cast,zz,seval,b34_1,hi3,q1,hmapl,h3]
   repeat refine om_ ?_
   refine hK (i+1) ⟨hi2,by rw[hst];omega⟩ (show rows.length-(i+1)<rows.length-i by omega) _ _ (Sub.pt ?_)
   simp -implicitDefEqProofs only[push_cast,zz,seval,hst]
 ·obtain rfl:i=rows.length:=by omega
  rw[bgC_end]at hsp
  have hCi:C=max (rows.length:Int) 1:=by rw[dC,hsp];simp
  clear hK
  simp -implicitDefEqProofs only[push_cast,zz,seval,b34_1,r34_2,Int.lt_irrefl]
  refine postF.mk' (fun _=>default) [some 0] ?_
  simp -implicitDefEqProofs only[push_cast,zz,seval,fs34,hE,hC,hCi]
def ent34:Entry:=spOf fs34 invBu
theorem e34:EntryOk Tryz.prog 34 ent34:=entry_of ok34 invBu
@[push_cast] theorem ent34_a u l x k:ent34 u l x k=spOf fs34 invBu u l x k:=rfl
theorem ok35:FSOk Tryz.prog 35 fs34:=by
 refine hd_ (fk_ Tryz.func35) fun a hp=>?_
 obtain⟨L,rows,n⟩:=a
 obtain⟨⟨h1,h2⟩,hnm⟩:(smL rows<=1000000000/\rows.length<=1000000000)/\n<=9223372036854775807:=hp
 change Tri Tryz.prog 35 [.sl 0 L 1 0 rows.length,.int .i64 n] [some (.ro,L,.recs 1 false [] (rows.map byRc))] (postF fs34 _)
 refine tri_evS (hyp (l:=[]) (lp:=[]) trivial trivial) Tryz.func35 comp35 (rs:=[.tmp 4,.tmp 5]) (by rfl) Tryz.ntmps35 12 ?_
 have hmapl:((rows.map byRc).length:Int)=rows.length:=by rw[List.length_map]
 obtain⟨E,hE⟩:∃ e,bgE rows n=e:=⟨_,rfl⟩
 obtain⟨C,hC⟩:∃ e,bgK rows n=e:=⟨_,rfl⟩
 have dE:E=if rows.length=0 then 80 else if n<0 then 2 else 0:=hE.symm
 have dC:C=if E=0 then max ((bgC rows n:Nat):Int) 1 else 0:=by rw[<-hE];exact hC.symm
 by_cases c1:rows.length=0
 ·rw[if_pos c1]at dE
  subst dE
  obtain rfl:C=0:=dC
  have c1i:(rows.length:Int)=0:=by omega
  simp -implicitDefEqProofs only[push_cast,zz,seval,ir35,c1i]
  refine postF.mk' (fun _=>default) [some 0] ?_
  simp -implicitDefEqProofs only[push_cast,zz,seval,fs34,hE,hC,c1i]
 have c1i:¬ (rows.length:Int)=0:=by omega
 rw[if_neg c1]at dE
 by_cases c2:n<0
 ·rw[if_pos c2]at dE
  subst dE
  obtain rfl:C=0:=dC
  simp -implicitDefEqProofs only[push_cast,zz,seval,ir35,c1i,c2]
  refine postF.mk' (fun _=>default) [some 0] ?_
  simp -implicitDefEqProofs only[push_cast,zz,seval,fs34,hE,hC]
 rw[if_neg c2]at dE
 subst dE
 rw[if_pos rfl]at dC
 simp -implicitDefEqProofs only[push_cast,zz,seval,ir35,c1i,c2]
 refine evS_loopU (A:=Nat) kp35_1 kl35_1 (fun i=>[(1,.int .i64 (n-smL (rows.take i))),(6,.int .i64 i)]) (fun _=>[]) (fun i=>i<=rows.length/\smL (rows.take i)<=n) (fun i=>rows.length-i) 0 ⟨Nat.zero_le _,show(0:Int)<=n by omega⟩ (Sub.pt ?_) ?_
 ·have z:smL (rows.take 0)=0:=rfl
  simp -implicitDefEqProofs only[push_cast,zz,seval,z,Int.sub_zero]
 intro i ⟨(hi:i<=rows.length),(hs:smL (rows.take i)<=n)⟩ K hK
 have hsp:=bgC_split n rows i hi hs
 have hle:=smL_le rows i
 have hnn:=smL_nn (rows.take i)
 by_cases hi2:i<rows.length
 ·have hi3:(i:Int)<rows.length:=by omega
  have q1:=fun z=>recAt_By (l:=rows) hi2 z
  have hst:=smL_take rows hi2
  have hstop:=fun h=>bgC_stop (l:=rows) hi2 (n:=n-smL (rows.take i)) h
  obtain⟨⟨M,c⟩,hr⟩:∃ r,rows[i]=r:=⟨_,rfl⟩
  rw[hr]at q1 hst
  simp only[hr]at hstop
  simp only at q1 hst
  obtain⟨s,hse⟩:∃ s,smL (rows.take i)=s:=⟨_,rfl⟩
  rw[hse]at hsp hs hle hnn hst
  simp only[hse]at hstop
  rw[hse]
  by_cases h3:(c.length:Int)<=n-s
  ·simp -implicitDefEqProofs only[push_cast,zz,seval,b35_1,hi3,q1,hmapl,h3]
   repeat refine om_ ?_
   refine hK (i+1) ⟨hi2,by rw[hst];omega⟩ (show rows.length-(i+1)<rows.length-i by omega) _ _ (Sub.pt ?_)
   simp -implicitDefEqProofs only[push_cast,zz,seval,hst,Int.sub_sub]
  ·rw[hstop (by omega)]at hsp
   have hCi:C=max (i:Int) 1:=by rw[dC,hsp];simp
   clear hK
   simp -implicitDefEqProofs only[push_cast,zz,seval,b35_1,hi3,q1,hmapl,h3,r35_2]
   repeat refine om_ ?_
   refine postF.mk' (fun _=>default) [some 0] ?_
   simp -implicitDefEqProofs only[push_cast,zz,seval,fs34,hE,hC,hCi]
 ·obtain rfl:i=rows.length:=by omega
  rw[bgC_end]at hsp
  have hCi:C=max (rows.length:Int) 1:=by rw[dC,hsp];simp
  have qe:recAt (rows.length:Int) [] (rows.map byRc)=[]:=by unfold recAt;simp
  clear hK
  simp -implicitDefEqProofs only[push_cast,zz,seval,b35_1,r35_2,Int.lt_irrefl,qe]
  refine postF.mk' (fun _=>default) [some 0] ?_
  simp -implicitDefEqProofs only[push_cast,zz,seval,fs34,hE,hC,hCi]
def ent35:Entry:=spOf fs34 invBu
theorem e35:EntryOk Tryz.prog 35 ent35:=entry_of ok35 invBu
@[push_cast] theorem ent35_a u l x k:ent35 u l x k=spOf fs34 invBu u l x k:=rfl
structure LoA where
 L:Xf.Loc
 rows:List (Xf.Loc×List Int)
def invLo:List SV->Look->Option (LoA×List Nat)
 | [.sl d _ 1 0 _],look=>match rowBy look d with
  | some (L,rows)=>some (⟨L,rows⟩,[d])
  | none=>none
 | _,_=>none
attribute [push_cast] invLo
def fs21:FS where
 A:=LoA
 args:=fun a=>[.sl 0 a.L 1 0 a.rows.length]
 mem:=fun a=>[some (.ro,a.L,.recs 1 false [] (a.rows.map byRc))]
 pre:=fun a=>smOk a.rows
 res:=fun a _=>.bool (decide (2500<(a.rows.length:Int)+smL a.rows))
theorem ok21:FSOk Tryz.prog 21 fs21:=by
 refine hd_ (fk_ Tryz.func21) fun a hp=>?_
 obtain⟨L,rows⟩:=a
 obtain⟨h1,h2⟩:smL rows<=1000000000/\rows.length<=1000000000:=hp
 change Tri Tryz.prog 21 [.sl 0 L 1 0 rows.length] [some (.ro,L,.recs 1 false [] (rows.map byRc))] (postF fs21 _)
 refine tri_evS (hyp (l:=[]) (lp:=[]) trivial trivial) Tryz.func21 comp21 (rs:=[.tmp 2]) (by rfl) Tryz.ntmps21 11 ?_
 have hmapl:((rows.map byRc).length:Int)=rows.length:=by rw[List.length_map]
 simp -implicitDefEqProofs only[push_cast,zz,seval,ir21]
 refine evS_loopU (A:=Nat) kp21_1 kl21_1 (fun i=>[(3,.int .i64 (i+smL (rows.take i))),(4,.int .i64 i)]) (fun _=>[]) (fun i=>i<=rows.length) (fun i=>rows.length-i) 0 (Nat.zero_le _) (Sub.pt ?_) ?_
 ·have z:smL (rows.take 0)=0:=rfl
  simp -implicitDefEqProofs only[push_cast,zz,seval,z]
 intro i (hi:i<=rows.length) K hK
 have hle:=smL_le rows i
 have hnn:=smL_nn (rows.take i)
 by_cases hi2:i<rows.length
 ·have hi3:(i:Int)<rows.length:=by omega
  have q1:=fun z=>recAt_By (l:=rows) hi2 z
  have hst:=smL_take rows hi2
  have hle2:=smL_le rows (i+1)
  obtain⟨⟨M,c⟩,hr⟩:∃ r,rows[i]=r:=⟨_,rfl⟩
  rw[hr]at q1 hst
  simp only at q1 hst
  obtain⟨s,hse⟩:∃ s,smL (rows.take i)=s:=⟨_,rfl⟩
  rw[hse]at hle hnn hst
  rw[hse]
  have hfin:(i:Int)+1+(s+c.length)=i+s+1+c.length:=by omega
  simp -implicitDefEqProofs only[push_cast,zz,seval,b21_1,hi3,q1,hmapl]
  repeat refine om_ ?_
  refine hK (i+1) hi2 (show rows.length-(i+1)<rows.length-i by omega) _ _ (Sub.pt ?_)
  simp -implicitDefEqProofs only[push_cast,zz,seval,hst,hfin]
 ·obtain rfl:i=rows.length:=by omega
  clear hK
  have htk:rows.take rows.length=rows:=List.take_length
  rw[htk]
  simp -implicitDefEqProofs only[push_cast,zz,seval,b21_1,r21_2,Int.lt_irrefl]
  refine postF.mk' (fun _=>default) [some 0] ?_
  simp -implicitDefEqProofs only[push_cast,zz,seval,fs21]
def ent21:Entry:=spOf fs21 invLo
theorem e21:EntryOk Tryz.prog 21 ent21:=entry_of ok21 invLo
@[push_cast] theorem ent21_a u l x k:ent21 u l x k=spOf fs21 invLo u l x k:=rfl
theorem ok38:FSOk Tryz.prog 38 fs107:=by
 refine hd_ (fk_ Tryz.func38) fun a hp=>?_
 obtain⟨L,xs,M,ys⟩:=a
 obtain⟨h1,h2⟩:xs.length<=140737488355328/\ys.length<=140737488355328:=hp
 change Tri Tryz.prog 38 [.sl 0 L 1 0 xs.length,.sl 1 M 1 0 ys.length] [some (.ro,L,.ints .i64 xs),some (.ro,M,.ints .i64 ys)] (postF fs107 _)
 refine tri_evS (hyp (l:=[]) (lp:=[]) trivial trivial) Tryz.func38 comp38 (rs:=[.tmp 4]) (by rfl) Tryz.ntmps38 10 ?_
 by_cases hl:xs.length=ys.length
 rotate_left
 ·have hne:¬ xs=ys:=fun h=>hl (by rw[h])
  have hli:¬ (xs.length:Int)=ys.length:=by omega
  simp -implicitDefEqProofs only[push_cast,zz,seval,ir38,hli]
  refine postF.mk' (fun _=>default) [some 0,some 1] ?_
  simp -implicitDefEqProofs only[push_cast,zz,seval,fs107,hne]
 have hli:(ys.length:Int)=xs.length:=by omega
 rw[hli]
 simp -implicitDefEqProofs only[push_cast,zz,seval,ir38]
 refine evS_loopU (A:=Nat) kp38_1 kl38_1 (fun i=>[(5,.int .i64 i)]) (fun _=>[]) (fun i=>i<=xs.length/\∀ j:Nat,j<i->rd xs j=rd ys j) (fun i=>xs.length-i) 0 ⟨Nat.zero_le _,fun j h=>absurd h (Nat.not_lt_zero _)⟩ (Sub.pt ?_) ?_
 ·simp -implicitDefEqProofs only[push_cast,zz,seval]
 intro i ⟨(hi:i<=xs.length),hj⟩ K hK
 by_cases hi2:i<xs.length
 ·have hi3:(i:Int)<xs.length:=by omega
  by_cases he:rd xs (i:Int)=rd ys (i:Int)
  ·simp -implicitDefEqProofs only[push_cast,zz,seval,b38_1,hi3,hli,he]
   repeat refine om_ ?_
   refine hK (i+1) ⟨hi2,fun j h=>?_⟩ (show xs.length-(i+1)<xs.length-i by omega) _ _ (Sub.pt ?_)
   ·rcases Nat.lt_or_ge j i with g | g
    ·exact hj j g
    ·obtain rfl:j=i:=by omega
     exact he
   simp -implicitDefEqProofs only[push_cast,zz,seval]
  ·have hne:¬ xs=ys:=fun h=>he (by rw[h])
   clear hK
   simp -implicitDefEqProofs only[push_cast,zz,seval,b38_1,hi3,hli,he]
   repeat refine om_ ?_
   refine postF.mk' (fun _=>default) [some 0,some 1] ?_
   simp -implicitDefEqProofs only[push_cast,zz,seval,fs107,hne,hli]
 ·obtain rfl:i=xs.length:=by omega
  have he:xs=ys:=eq_of_rd hl hj
  clear hK
  simp -implicitDefEqProofs only[push_cast,zz,seval,b38_1,r38_2,Int.lt_irrefl]
  refine postF.mk' (fun _=>default) [some 0,some 1] ?_
  simp -implicitDefEqProofs only[push_cast,zz,seval,fs107,he]
def ent38:Entry:=spOf fs107 inv107
theorem e38:EntryOk Tryz.prog 38 ent38:=entry_of ok38 inv107
@[push_cast] theorem ent38_a u l x k:ent38 u l x k=spOf fs107 inv107 u l x k:=rfl
def b64_1:IR:=
 .seq (.seq (r_ [m_ 7 6,c_ 8 .lss 7 51] [7]) (.cond (.t 8) (.skip) (.exit 0))) (.seq (.block 1 (.seq (.seq (r_ [m_ 11 6,o_ 12 (.idxP (.t 3) (Z_ 0) 3 1),l_ 13 12,b_ 14 .lss 11 13] [8,11,12,13]) (.cond (.t 14) (r_ [m_ 15 5,o_ 16 (.bslice 12 [Z_ 0]),o_ 17 (.app 13 1 8 (.t 15) (.t 16)),m_ 5 17] [14,15,16,17]) (.skip))) (.seq (.seq (r_ [m_ 18 6,f_ 19 2 5,l_ 20 19,b_ 21 .geq 18 20,m_ 22 21,p_ 22 (m_ 23 6),p_ 22 (f_ 24 2 5),p_ 22 (l_ 25 24),p_ 22 (b_ 26 .sub 23 25),p_ 22 (o_ 27 (.idxP (.t 3) (Z_ 1) 3 1)),p_ 22 (l_ 28 27),p_ 22 (b_ 29 .lss 26 28),K_ 30 22 29] [14,18,19,20,21,22,23,24,25,26,27,28,29]) (.cond (.t 30) (r_ [m_ 31 5,o_ 32 (.bslice 14 [Z_ 1]),o_ 33 (.app 15 1 8 (.t 31) (.t 32)),m_ 5 33] [30,31,32,33]) (.skip))) (.seq (r_ [m_ 34 6,f_ 35 2 5,l_ 36 35,b_ 37 .geq 34 36,m_ 38 37,p_ 38 (m_ 39 6),p_ 38 (f_ 40 2 5),p_ 38 (l_ 41 40),p_ 38 (b_ 42 .sub 39 41),p_ 38 (o_ 43 (.idxP (.t 3) (Z_ 2) 3 1)),p_ 38 (l_ 44 43),p_ 38 (b_ 45 .lss 42 44),K_ 46 38 45] [30,34,35,36,37,38,39,40,41,42,43,44,45]) (.cond (.t 46) (r_ [m_ 47 5,o_ 48 (.bslice 16 [Z_ 2]),o_ 49 (.app 17 1 8 (.t 47) (.t 48)),m_ 5 49] [46,47,48,49]) (.skip)))))) (r_ [m_ 9 6,a_ 10 9 1,m_ 6 10] [9,10,46]))
def r64_2:IR:=
 .seq (r_ [m_ 50 5,m_ 4 50] [2,3,5,6,50]) (.ret)
def ir64:IR:=
 .seq (r_ [o_ 2 (.box 10 (.t 0)),o_ 3 (.box 11 (.t 1)),o_ 4 (.mov (.k nilSV))] [0,1,4]) (.seq (r_ [o_ 5 (.mov (.k nilSV))] []) (.seq (.seq (r_ [z_ 6 0] []) (.block 0 (.loop b64_1))) (r64_2)))
def kp64_1:List Nat:=[2,3,5,6]
def kl64_1:List Nat:=[12,13,14,15,16,17]
attribute [push_cast] kp64_1 kl64_1
set_option maxRecDepth 4000 in
theorem comp64:(Tryz.f64.body.bind fun c=>compC tab isP chkAll ir64 c)=some ir64:=by kernel_rfl
set_option maxHeartbeats 1000000 in
theorem ok64:FSOk Tryz.prog 64 fs64:=by
 refine hd_ (fk_ Tryz.func64) fun a hp=>?_
 obtain⟨wv,lv,kd,gr,hf,d,a,b,c⟩:=a
 obtain⟨d0,d1,a0,a1,b0,b1,c0,c1⟩:0<=d/\d<=25/\0<=a/\a<=25/\0<=b/\b<=25/\0<=c/\c<=25:=hp
 change Tri Tryz.prog 64 [.agg [.int .i64 wv,.int .i64 lv,.int .i64 kd,.bool gr,.bool hf,.int .i64 d],.agg [.int .i64 a,.int .i64 b,.int .i64 c]] [] (postF fs64 ⟨wv,lv,kd,gr,hf,d,a,b,c⟩)
 refine tri_evS (hyp (l:=[]) (lp:=[]) trivial trivial) Tryz.func64 comp64 (rs:=[.tmp 4]) (by rfl) Tryz.ntmps64 18 ?_
 simp -implicitDefEqProofs only[push_cast,zz,seval,ir64]
 intro X
 repeat refine om_ ?_
 have hll:∀ (l:List Int) (x:Int),((l++[x]).length:Int)=l.length+1:=fun l x=>by simp
 refine evS_loopU (A:=Nat×Xf.Loc) kp64_1 kl64_1 (fun y=>[(5,.sl 17 y.2 1 0 (odN d a b c y.1).length),(6,.int .i64 y.1)]) (fun y=>[(17,.mine,y.2,.ints .i64 (odN d a b c y.1))]) (fun y=>y.1<=51) (fun y=>51-y.1) (0,nilLoc) (Nat.zero_le _) (Sub.of (mkG 18 [(10,10),(11,11)]) ?_) ?_
 ·simp -implicitDefEqProofs only[push_cast,zz,seval,odN]
 intro ⟨r,M⟩ hr K hK
 have hr:r<=51:=hr
 have hlen:=odN_len d a b c r
 by_cases hr':r<51
 ·have hr1:(r:Int)<51:=by omega
  by_cases ha:(r:Int)<a
  ·by_cases hd:d<=(r:Int)
   ·by_cases hb:(r:Int)-d<b
    ·by_cases hc:(r:Int)-d<c
     ·have hs:odN d a b c (r+1)=odN d a b c r++[0,1,2]:=by rw[odN];unfold odR;rw[if_pos ha,if_pos (by omega),if_pos (by omega)];rfl
      simp -implicitDefEqProofs only[push_cast,zz,seval,b64_1,hll,hr1,ha,hd,hb,hc]
      repeat refine om_ ?_
      intro X1
      repeat refine om_ ?_
      intro X2
      repeat refine om_ ?_
      intro X3
      repeat refine om_ ?_
      refine hK (r+1,X3 2 17) (show r+1<=51 by omega) (show 51-(r+1)<51-r by omega) _ _ (Sub.of (mkG 18 [(10,10),(11,11),(17,17)]) ?_)
      simp -implicitDefEqProofs only[push_cast,zz,seval,hs,List.length_append,List.append_assoc]
     ·have hs:odN d a b c (r+1)=odN d a b c r++[0,1]:=by rw[odN];unfold odR;rw[if_pos ha,if_pos (by omega),if_neg (by omega)];rfl
      simp -implicitDefEqProofs only[push_cast,zz,seval,b64_1,hll,hr1,ha,hd,hb,hc]
      repeat refine om_ ?_
      intro X1
      repeat refine om_ ?_
      intro X2
      repeat refine om_ ?_
      refine hK (r+1,X2 2 15) (show r+1<=51 by omega) (show 51-(r+1)<51-r by omega) _ _ (Sub.of (mkG 18 [(10,10),(11,11),(17,15)]) ?_)
      simp -implicitDefEqProofs only[push_cast,zz,seval,hs,List.length_append,List.append_assoc]
    ·by_cases hc:(r:Int)-d<c
     ·have hs:odN d a b c (r+1)=odN d a b c r++[0,2]:=by rw[odN];unfold odR;rw[if_pos ha,if_neg (by omega),if_pos (by omega)];rfl
      simp -implicitDefEqProofs only[push_cast,zz,seval,b64_1,hll,hr1,ha,hd,hb,hc]
      repeat refine om_ ?_
      intro X1
      repeat refine om_ ?_
      intro X2
      repeat refine om_ ?_
      refine hK (r+1,X2 2 17) (show r+1<=51 by omega) (show 51-(r+1)<51-r by omega) _ _ (Sub.of (mkG 18 [(10,10),(11,11),(17,17)]) ?_)
      simp -implicitDefEqProofs only[push_cast,zz,seval,hs,List.length_append,List.append_assoc]
     ·have hs:odN d a b c (r+1)=odN d a b c r++[0]:=by rw[odN];unfold odR;rw[if_pos ha,if_neg (by omega),if_neg (by omega)];rfl
      simp -implicitDefEqProofs only[push_cast,zz,seval,b64_1,hll,hr1,ha,hd,hb,hc]
      repeat refine om_ ?_
      intro X1
      repeat refine om_ ?_
      refine hK (r+1,X1 2 13) (show r+1<=51 by omega) (show 51-(r+1)<51-r by omega) _ _ (Sub.of (mkG 18 [(10,10),(11,11),(17,13)]) ?_)
      simp -implicitDefEqProofs only[push_cast,zz,seval,hs,List.length_append,List.append_assoc]
   ·have hs:odN d a b c (r+1)=odN d a b c r++[0]:=by rw[odN];unfold odR;rw[if_pos ha,if_neg (by omega),if_neg (by omega)];rfl
    simp -implicitDefEqProofs only[push_cast,zz,seval,b64_1,hll,hr1,ha,hd]
    repeat refine om_ ?_
    intro X1
    repeat refine om_ ?_
    refine hK (r+1,X1 2 13) (show r+1<=51 by omega) (show 51-(r+1)<51-r by omega) _ _ (Sub.of (mkG 18 [(10,10),(11,11),(17,13)]) ?_)
    simp -implicitDefEqProofs only[push_cast,zz,seval,hs,List.length_append,List.append_assoc]
  ·by_cases hd:d<=(r:Int)
   ·by_cases hb:(r:Int)-d<b
    ·by_cases hc:(r:Int)-d<c
     ·have hs:odN d a b c (r+1)=odN d a b c r++[1,2]:=by rw[odN];unfold odR;rw[if_neg ha,if_pos (by omega),if_pos (by omega)];rfl
      simp -implicitDefEqProofs only[push_cast,zz,seval,b64_1,hll,hr1,ha,hd,hb,hc]
      repeat refine om_ ?_
      intro X1
      repeat refine om_ ?_
      intro X2
      repeat refine om_ ?_
      refine hK (r+1,X2 2 17) (show r+1<=51 by omega) (show 51-(r+1)<51-r by omega) _ _ (Sub.of (mkG 18 [(10,10),(11,11),(17,17)]) ?_)
      simp -implicitDefEqProofs only[push_cast,zz,seval,hs,List.length_append,List.append_assoc]
     ·have hs:odN d a b c (r+1)=odN d a b c r++[1]:=by rw[odN];unfold odR;rw[if_neg ha,if_pos (by omega),if_neg (by omega)];rfl
      simp -implicitDefEqProofs only[push_cast,zz,seval,b64_1,hll,hr1,ha,hd,hb,hc]
      repeat refine om_ ?_
      intro X1
      repeat refine om_ ?_
      refine hK (r+1,X1 2 15) (show r+1<=51 by omega) (show 51-(r+1)<51-r by omega) _ _ (Sub.of (mkG 18 [(10,10),(11,11),(17,15)]) ?_)
      simp -implicitDefEqProofs only[push_cast,zz,seval,hs,List.length_append,List.append_assoc]
    ·by_cases hc:(r:Int)-d<c
     ·have hs:odN d a b c (r+1)=odN d a b c r++[2]:=by rw[odN];unfold odR;rw[if_neg ha,if_neg (by omega),if_pos (by omega)];rfl
      simp -implicitDefEqProofs only[push_cast,zz,seval,b64_1,hll,hr1,ha,hd,hb,hc]
      repeat refine om_ ?_
      intro X1
      repeat refine om_ ?_
      refine hK (r+1,X1 2 17) (show r+1<=51 by omega) (show 51-(r+1)<51-r by omega) _ _ (Sub.of (mkG 18 [(10,10),(11,11),(17,17)]) ?_)
      simp -implicitDefEqProofs only[push_cast,zz,seval,hs,List.length_append,List.append_assoc]
     ·have hs:odN d a b c (r+1)=odN d a b c r++[]:=by rw[odN];unfold odR;rw[if_neg ha,if_neg (by omega),if_neg (by omega)];rfl
      simp -implicitDefEqProofs only[push_cast,zz,seval,b64_1,hll,hr1,ha,hd,hb,hc]
      repeat refine om_ ?_
      refine hK (r+1,M) (show r+1<=51 by omega) (show 51-(r+1)<51-r by omega) _ _ (Sub.of (mkG 18 [(10,10),(11,11),(17,17)]) ?_)
      simp -implicitDefEqProofs only[push_cast,zz,seval,hs,List.length_append,List.append_assoc]
   ·have hs:odN d a b c (r+1)=odN d a b c r++[]:=by rw[odN];unfold odR;rw[if_neg ha,if_neg (by omega),if_neg (by omega)];rfl
    simp -implicitDefEqProofs only[push_cast,zz,seval,b64_1,hll,hr1,ha,hd]
    repeat refine om_ ?_
    refine hK (r+1,M) (show r+1<=51 by omega) (show 51-(r+1)<51-r by omega) _ _ (Sub.of (mkG 18 [(10,10),(11,11),(17,17)]) ?_)
    simp -implicitDefEqProofs only[push_cast,zz,seval,hs,List.length_append,List.append_assoc]
 ·obtain rfl:r=51:=by omega
  clear hK
  have h51:odN d a b c 51=ordP d a b c:=rfl
  have h51':¬ ((51:Nat):Int)<51:=by decide
  obtain⟨l,hl⟩:∃ l,ordP d a b c=l:=⟨_,rfl⟩
  rw[hl]at h51
  simp -implicitDefEqProofs only[push_cast,zz,seval,b64_1,r64_2,h51,h51']
  refine postF.mk' (fun _=>M) [some 17] ?_
  simp -implicitDefEqProofs only[push_cast,zz,seval,fs64,hl]
def ent64:Entry:=spOf fs64 invOd
theorem e64:EntryOk Tryz.prog 64 ent64:=entry_of ok64 invOd
@[push_cast] theorem ent64_a u l x k:ent64 u l x k=spOf fs64 invOd u l x k:=rfl
def b36_1:IR:=
 .seq (r_ [c_ 10 .lss 9 3] []) (.seq (.cond (.t 10) (.skip) (.exit 0)) (.seq (.block 1 (.seq (r_ [m_ 11 9,o_ 12 (.idxV (.t 8) (.t 9) 3),m_ 6 11,m_ 7 12] [10,11,12]) (.seq (r_ [m_ 13 7,c_ 14 .lss 13 0,m_ 15 14,q_ 15 (m_ 16 7),q_ 15 (c_ 17 .gtr 16 25),k_ 18 15 17,m_ 19 18,q_ 19 (m_ 20 6),q_ 19 (c_ 21 .gtr 20 0),q_ 19 (m_ 22 21),p_ 22 (f_ 23 2 3),p_ 22 (l_ 24 23),q_ 19 (K_ 25 22 24),q_ 19 (m_ 26 25),p_ 26 (m_ 27 7),p_ 26 (c_ 28 .neq 27 0),q_ 19 (K_ 29 26 28),k_ 30 19 29] [6,7,13,14,15,16,17,18,19,20,21,22,23,24,25,26,27,28,29]) (.cond (.t 30) (.seq (r_ [o_ 4 (.mov (.k nilSV)),z_ 5 2] [2,3,8,9,30]) (.ret)) (.skip))))) (r_ [a_ 31 9 1,m_ 9 31] [4,5,30,31])))
def r36_2:IR:=
 .seq (.seq (r_ [o_ 32 (.ld false (some 6) 0 0 (.t 2)),o_ 33 (.call (some 4) 12 17 [.t 32]),o_ 34 (.not (.t 33))] [8,9,32,33]) (.cond (.t 34) (.seq (r_ [o_ 4 (.mov (.k nilSV)),z_ 5 2] [2,3,34]) (.ret)) (.skip))) (.seq (r_ [o_ 35 (.ld false (some 6) 0 0 (.t 2)),o_ 36 (.ld false (some 3) 0 0 (.t 3)),o_ 37 (.call (some 4) 16 55 [.t 35,.t 36]),m_ 4 37,z_ 5 0] [2,3,34,35,36,37]) (.ret))
def ir36:IR:=
 .seq (r_ [o_ 2 (.box 10 (.t 0)),o_ 3 (.box 11 (.t 1)),o_ 4 (.mov (.k nilSV)),z_ 5 0] [0,1,4,5]) (.seq (.seq (r_ [o_ 8 (.ld false (some 3) 0 0 (.t 3)),z_ 9 0] []) (.block 0 (.loop b36_1))) (r36_2))
def kp36_1:List Nat:=[2,3,8,9]
def kl36_1:List Nat:=[]
attribute [push_cast] kp36_1 kl36_1
set_option maxRecDepth 4000 in
theorem comp36:(Tryz.f36.body.bind fun c=>compC tab isP chkAll ir36 c)=some ir36:=by kernel_rfl
def b37_1:IR:=
 .seq (.seq (r_ [m_ 10 6,c_ 11 .lss 10 3] [10]) (.cond (.t 11) (.skip) (.exit 0))) (.seq (.block 1 (.seq (r_ [m_ 14 6,o_ 15 (.idxP (.t 3) (.t 14) 3 1),l_ 16 15,c_ 17 .lss 16 0,m_ 18 17,q_ 18 (m_ 19 6),q_ 18 (o_ 20 (.idxP (.t 3) (.t 19) 3 1)),q_ 18 (l_ 21 20),q_ 18 (c_ 22 .gtr 21 25),k_ 23 18 22,m_ 24 23,q_ 24 (m_ 25 6),q_ 24 (c_ 26 .gtr 25 0),q_ 24 (m_ 27 26),p_ 27 (f_ 28 2 3),p_ 27 (l_ 29 28),q_ 24 (K_ 30 27 29),q_ 24 (m_ 31 30),p_ 31 (m_ 32 6),p_ 31 (o_ 33 (.idxP (.t 3) (.t 32) 3 1)),p_ 31 (l_ 34 33),p_ 31 (c_ 35 .neq 34 0),q_ 24 (K_ 36 31 35),k_ 37 24 36] [11,14,15,16,17,18,19,20,21,22,23,24,25,26,27,28,29,30,31,32,33,34,35,36]) (.cond (.t 37) (.seq (r_ [o_ 4 (.mov (.k nilSV)),z_ 5 2] [2,3,6,37]) (.ret)) (.skip)))) (r_ [m_ 12 6,a_ 13 12 1,m_ 6 13] [4,5,12,13,37]))
def r37_2:IR:=
 .seq (r_ [o_ 38 (.ld false (some 6) 0 0 (.t 2)),o_ 39 (.ld false (some 3) 0 0 (.t 3)),o_ 40 (.call (some 4) 16 64 [.t 38,.t 39]),m_ 4 40,z_ 5 0] [2,3,6,38,39,40]) (.ret)
def ir37:IR:=
 .seq (r_ [o_ 2 (.box 10 (.t 0)),o_ 3 (.box 11 (.t 1)),o_ 4 (.mov (.k nilSV)),z_ 5 0] [0,1,4,5]) (.seq (.seq (r_ [o_ 7 (.ld false (some 6) 0 0 (.t 2)),o_ 8 (.call (some 4) 12 18 [.t 7]),o_ 9 (.not (.t 8))] [7,8]) (.cond (.t 9) (.seq (r_ [o_ 4 (.mov (.k nilSV)),z_ 5 2] [2,3,9]) (.ret)) (.skip))) (.seq (.seq (r_ [z_ 6 0] [4,5,9]) (.block 0 (.loop b37_1))) (r37_2)))
def kp37_1:List Nat:=[2,3,6]
def kl37_1:List Nat:=[]
attribute [push_cast] kp37_1 kl37_1
set_option maxRecDepth 4000 in
theorem comp37:(Tryz.f37.body.bind fun c=>compC tab isP chkAll ir37 c)=some ir37:=by kernel_rfl
def odC (a:OdA):Int:=if odV a then 0 else 2
def odL (a:OdA):List Int:=if odV a then ordP a.d a.a a.b a.c else []
def fs36:FS where
 A:=OdA
 args:=fun a=>[.agg [.int .i64 a.wv,.int .i64 a.lv,.int .i64 a.kd,.bool a.gr,.bool a.hf,.int .i64 a.d],.agg [.int .i64 a.a,.int .i64 a.b,.int .i64 a.c]]
 res:=fun a x=>.tup [.sl 0 (x 0) 1 0 (odL a).length,.int .i64 (odC a)]
 new:=fun a x=>[(x 0,.ints .i64 (odL a))]
set_option maxHeartbeats 1000000 in
theorem ok36:FSOk Tryz.prog 36 fs36:=by
 refine hd_ (fk_ Tryz.func36) fun a hp=>?_
 obtain⟨wv,lv,kd,gr,hf,d,a,b,c⟩:=a
 change Tri Tryz.prog 36 [.agg [.int .i64 wv,.int .i64 lv,.int .i64 kd,.bool gr,.bool hf,.int .i64 d],.agg [.int .i64 a,.int .i64 b,.int .i64 c]] [] (postF fs36 ⟨wv,lv,kd,gr,hf,d,a,b,c⟩)
 refine tri_evS (hyp (l:=[(17,ent17),(55,ent55)]) (lp:=[]) ⟨e17,e55,trivial⟩ trivial) Tryz.func36 comp36 (rs:=[.tmp 4,.tmp 5]) (by rfl) Tryz.ntmps36 20 ?_
 simp -implicitDefEqProofs only[push_cast,zz,seval,ir36]
 have bad:¬ odV ⟨wv,lv,kd,gr,hf,d,a,b,c⟩->odL ⟨wv,lv,kd,gr,hf,d,a,b,c⟩=[]:=fun h=>if_neg h
 have bdc:¬ odV ⟨wv,lv,kd,gr,hf,d,a,b,c⟩->odC ⟨wv,lv,kd,gr,hf,d,a,b,c⟩=2:=fun h=>if_neg h
 have r0:rd [a,b,c] 0=a:=rfl
 have r1:rd [a,b,c] 1=b:=rfl
 have r2:rd [a,b,c] 2=c:=rfl
 intro X
 repeat refine om_ ?_
 refine evS_loopU (A:=Nat) kp36_1 kl36_1 (fun k=>[(9,.int .i64 k)]) (fun _=>[]) (fun k=>k<=3/\(0<k->0<=a/\a<=25)/\(1<k->(0<=b/\b<=25)/\(gr=true->b=0))/\(2<k->(0<=c/\c<=25)/\(gr=true->c=0))) (fun k=>3-k) 0 ⟨by decide,fun h=>absurd h (by decide),fun h=>absurd h (by decide),fun h=>absurd h (by decide)⟩ (Sub.pt ?_) ?_
 ·simp -implicitDefEqProofs only[push_cast,zz,seval]
 intro k ⟨hk,p1,p2,p3⟩ K hK
 obtain rfl | rfl | rfl | rfl:k=0∨k=1∨k=2∨k=3:=by omega
 ·by_cases e1:a<0
  ·have hV:¬ odV ⟨wv,lv,kd,gr,hf,d,a,b,c⟩:=fun h=>by have:=h.2.1;simp only at this;omega
   have hb:=bad hV
   have hbc:=bdc hV
   clear hK
   simp -implicitDefEqProofs only[push_cast,zz,seval,b36_1,r0,r1,r2,e1]
   refine postF.mk' (fun _=>nilLoc) [none] ?_
   simp -implicitDefEqProofs only[push_cast,zz,seval,fs36,hb,hbc]
  by_cases e2:25<a
  ·have hV:¬ odV ⟨wv,lv,kd,gr,hf,d,a,b,c⟩:=fun h=>by have:=h.2.1;simp only at this;omega
   have hb:=bad hV
   have hbc:=bdc hV
   clear hK
   simp -implicitDefEqProofs only[push_cast,zz,seval,b36_1,r0,r1,r2,e1,e2]
   refine postF.mk' (fun _=>nilLoc) [none] ?_
   simp -implicitDefEqProofs only[push_cast,zz,seval,fs36,hb,hbc]
  simp -implicitDefEqProofs only[push_cast,zz,seval,b36_1,r0,r1,r2,e1,e2]
  repeat refine om_ ?_
  refine hK 1 ⟨by decide,fun _=>by omega,fun h=>absurd h (by decide),fun h=>absurd h (by decide)⟩ (show 3-1<3-0 by decide) _ _ (Sub.pt ?_)
  simp -implicitDefEqProofs only[push_cast,zz,seval]
 ·by_cases e1:b<0
  ·have hV:¬ odV ⟨wv,lv,kd,gr,hf,d,a,b,c⟩:=fun h=>by have:=h.2.2.1;simp only at this;omega
   have hb:=bad hV
   have hbc:=bdc hV
   clear hK
   simp -implicitDefEqProofs only[push_cast,zz,seval,b36_1,r0,r1,r2,e1]
   refine postF.mk' (fun _=>nilLoc) [none] ?_
   simp -implicitDefEqProofs only[push_cast,zz,seval,fs36,hb,hbc]
  by_cases e2:25<b
  ·have hV:¬ odV ⟨wv,lv,kd,gr,hf,d,a,b,c⟩:=fun h=>by have:=h.2.2.1;simp only at this;omega
   have hb:=bad hV
   have hbc:=bdc hV
   clear hK
   simp -implicitDefEqProofs only[push_cast,zz,seval,b36_1,r0,r1,r2,e1,e2]
   refine postF.mk' (fun _=>nilLoc) [none] ?_
   simp -implicitDefEqProofs only[push_cast,zz,seval,fs36,hb,hbc]
  cases gr with
  | false=>
   simp -implicitDefEqProofs only[push_cast,zz,seval,b36_1,r0,r1,r2,e1,e2]
   repeat refine om_ ?_
   refine hK 2 ⟨by decide,fun _=>p1 (by decide),fun _=>⟨by omega,fun h=>by cases h⟩,fun h=>absurd h (by decide)⟩ (show 3-2<3-1 by decide) _ _ (Sub.pt ?_)
   simp -implicitDefEqProofs only[push_cast,zz,seval]
  | true=>
   by_cases e3:b=0
   ·subst e3
    simp -implicitDefEqProofs only[push_cast,zz,seval,b36_1,r0,r1,r2]
    repeat refine om_ ?_
    refine hK 2 ⟨by decide,fun _=>p1 (by decide),fun _=>⟨by omega,fun _=>rfl⟩,fun h=>absurd h (by decide)⟩ (show 3-2<3-1 by decide) _ _ (Sub.pt ?_)
    simp -implicitDefEqProofs only[push_cast,zz,seval]
   ·have hV:¬ odV ⟨wv,lv,kd,true,hf,d,a,b,c⟩:=fun h=>by have:=h.2.2.2.2 rfl;simp only at this;omega
    have hb:=bad hV
    have hbc:=bdc hV
    clear hK
    simp -implicitDefEqProofs only[push_cast,zz,seval,b36_1,r0,r1,r2,e1,e2,e3]
    refine postF.mk' (fun _=>nilLoc) [none] ?_
    simp -implicitDefEqProofs only[push_cast,zz,seval,fs36,hb,hbc]
 ·by_cases e1:c<0
  ·have hV:¬ odV ⟨wv,lv,kd,gr,hf,d,a,b,c⟩:=fun h=>by have:=h.2.2.2.1;simp only at this;omega
   have hb:=bad hV
   have hbc:=bdc hV
   clear hK
   simp -implicitDefEqProofs only[push_cast,zz,seval,b36_1,r0,r1,r2,e1]
   refine postF.mk' (fun _=>nilLoc) [none] ?_
   simp -implicitDefEqProofs only[push_cast,zz,seval,fs36,hb,hbc]
  by_cases e2:25<c
  ·have hV:¬ odV ⟨wv,lv,kd,gr,hf,d,a,b,c⟩:=fun h=>by have:=h.2.2.2.1;simp only at this;omega
   have hb:=bad hV
   have hbc:=bdc hV
   clear hK
   simp -implicitDefEqProofs only[push_cast,zz,seval,b36_1,r0,r1,r2,e1,e2]
   refine postF.mk' (fun _=>nilLoc) [none] ?_
   simp -implicitDefEqProofs only[push_cast,zz,seval,fs36,hb,hbc]
  cases gr with
  | false=>
   simp -implicitDefEqProofs only[push_cast,zz,seval,b36_1,r0,r1,r2,e1,e2]
   repeat refine om_ ?_
   refine hK 3 ⟨by decide,fun _=>p1 (by decide),fun _=>p2 (by decide),fun _=>⟨by omega,fun h=>by cases h⟩⟩ (show 3-3<3-2 by decide) _ _ (Sub.pt ?_)
   simp -implicitDefEqProofs only[push_cast,zz,seval]
  | true=>
   by_cases e3:c=0
   ·subst e3
    simp -implicitDefEqProofs only[push_cast,zz,seval,b36_1,r0,r1,r2]
    repeat refine om_ ?_
    refine hK 3 ⟨by decide,fun _=>p1 (by decide),fun _=>p2 (by decide),fun _=>⟨by omega,fun _=>rfl⟩⟩ (show 3-3<3-2 by decide) _ _ (Sub.pt ?_)
    simp -implicitDefEqProofs only[push_cast,zz,seval]
   ·have hV:¬ odV ⟨wv,lv,kd,true,hf,d,a,b,c⟩:=fun h=>by have:=h.2.2.2.2 rfl;simp only at this;omega
    have hb:=bad hV
    have hbc:=bdc hV
    clear hK
    simp -implicitDefEqProofs only[push_cast,zz,seval,b36_1,r0,r1,r2,e1,e2,e3]
    refine postF.mk' (fun _=>nilLoc) [none] ?_
    simp -implicitDefEqProofs only[push_cast,zz,seval,fs36,hb,hbc]
 ·have q1:=p1 (by decide)
  have q2:=p2 (by decide)
  have q3:=p3 (by decide)
  clear hK
  by_cases hs:syOk ⟨wv,lv,kd,gr,hf,d⟩
  ·have hV:odV ⟨wv,lv,kd,gr,hf,d,a,b,c⟩:=⟨hs,q1,q2.1,q3.1,fun h=>⟨q2.2 h,q3.2 h⟩⟩
   have hok:=hV.ok
   have hl:odL ⟨wv,lv,kd,gr,hf,d,a,b,c⟩=ordP d a b c:=if_pos hV
   have hlc:odC ⟨wv,lv,kd,gr,hf,d,a,b,c⟩=0:=if_pos hV
   simp only at hok
   simp -implicitDefEqProofs only[push_cast,zz,seval,b36_1,r36_2,fs17,SyA.sv,fs64,hs,hok]
   repeat refine om_ ?_
   intro X1
   repeat refine om_ ?_
   refine postF.mk' (fun _=>X1 2 16) [some 16] ?_
   simp -implicitDefEqProofs only[push_cast,zz,seval,fs36,hl,hlc]
  ·have hV:¬ odV ⟨wv,lv,kd,gr,hf,d,a,b,c⟩:=fun h=>hs h.1
   have hb:=bad hV
   have hbc:=bdc hV
   simp -implicitDefEqProofs only[push_cast,zz,seval,b36_1,r36_2,fs17,SyA.sv,hs]
   repeat refine om_ ?_
   refine postF.mk' (fun _=>nilLoc) [none] ?_
   simp -implicitDefEqProofs only[push_cast,zz,seval,fs36,hb,hbc]
def ent36:Entry:=spOf fs36 invOd
theorem e36:EntryOk Tryz.prog 36 ent36:=entry_of ok36 invOd
@[push_cast] theorem ent36_a u l x k:ent36 u l x k=spOf fs36 invOd u l x k:=rfl
set_option maxHeartbeats 1000000 in
theorem ok37:FSOk Tryz.prog 37 fs36:=by
 refine hd_ (fk_ Tryz.func37) fun a hp=>?_
 obtain⟨wv,lv,kd,gr,hf,d,a,b,c⟩:=a
 change Tri Tryz.prog 37 [.agg [.int .i64 wv,.int .i64 lv,.int .i64 kd,.bool gr,.bool hf,.int .i64 d],.agg [.int .i64 a,.int .i64 b,.int .i64 c]] [] (postF fs36 ⟨wv,lv,kd,gr,hf,d,a,b,c⟩)
 refine tri_evS (hyp (l:=[(18,ent18),(64,ent64)]) (lp:=[]) ⟨e18,e64,trivial⟩ trivial) Tryz.func37 comp37 (rs:=[.tmp 4,.tmp 5]) (by rfl) Tryz.ntmps37 20 ?_
 have bad:¬ odV ⟨wv,lv,kd,gr,hf,d,a,b,c⟩->odL ⟨wv,lv,kd,gr,hf,d,a,b,c⟩=[]:=fun h=>if_neg h
 have bdc:¬ odV ⟨wv,lv,kd,gr,hf,d,a,b,c⟩->odC ⟨wv,lv,kd,gr,hf,d,a,b,c⟩=2:=fun h=>if_neg h
 have r0:rd [a,b,c] 0=a:=rfl
 have r1:rd [a,b,c] 1=b:=rfl
 have r2:rd [a,b,c] 2=c:=rfl
 by_cases hs:syOk ⟨wv,lv,kd,gr,hf,d⟩
 rotate_left
 ·have hV:¬ odV ⟨wv,lv,kd,gr,hf,d,a,b,c⟩:=fun h=>hs h.1
  have hb:=bad hV
  have hbc:=bdc hV
  simp -implicitDefEqProofs only[push_cast,zz,seval,ir37,fs17,SyA.sv,hs]
  intro X
  repeat refine om_ ?_
  refine postF.mk' (fun _=>nilLoc) [none] ?_
  simp -implicitDefEqProofs only[push_cast,zz,seval,fs36,hb,hbc]
 simp -implicitDefEqProofs only[push_cast,zz,seval,ir37,fs17,SyA.sv,hs]
 intro X
 repeat refine om_ ?_
 refine evS_loopU (A:=Nat) kp37_1 kl37_1 (fun k=>[(6,.int .i64 k)]) (fun _=>[]) (fun k=>k<=3/\(0<k->0<=a/\a<=25)/\(1<k->(0<=b/\b<=25)/\(gr=true->b=0))/\(2<k->(0<=c/\c<=25)/\(gr=true->c=0))) (fun k=>3-k) 0 ⟨by decide,fun h=>absurd h (by decide),fun h=>absurd h (by decide),fun h=>absurd h (by decide)⟩ (Sub.pt ?_) ?_
 ·simp -implicitDefEqProofs only[push_cast,zz,seval]
 intro k ⟨hk,p1,p2,p3⟩ K hK
 obtain rfl | rfl | rfl | rfl:k=0∨k=1∨k=2∨k=3:=by omega
 ·by_cases e1:a<0
  ·have hV:¬ odV ⟨wv,lv,kd,gr,hf,d,a,b,c⟩:=fun h=>by have:=h.2.1;simp only at this;omega
   have hb:=bad hV
   have hbc:=bdc hV
   clear hK
   simp -implicitDefEqProofs only[push_cast,zz,seval,b37_1,r0,r1,r2,e1]
   refine postF.mk' (fun _=>nilLoc) [none] ?_
   simp -implicitDefEqProofs only[push_cast,zz,seval,fs36,hb,hbc]
  by_cases e2:25<a
  ·have hV:¬ odV ⟨wv,lv,kd,gr,hf,d,a,b,c⟩:=fun h=>by have:=h.2.1;simp only at this;omega
   have hb:=bad hV
   have hbc:=bdc hV
   clear hK
   simp -implicitDefEqProofs only[push_cast,zz,seval,b37_1,r0,r1,r2,e1,e2]
   refine postF.mk' (fun _=>nilLoc) [none] ?_
   simp -implicitDefEqProofs only[push_cast,zz,seval,fs36,hb,hbc]
  simp -implicitDefEqProofs only[push_cast,zz,seval,b37_1,r0,r1,r2,e1,e2]
  repeat refine om_ ?_
  refine hK 1 ⟨by decide,fun _=>by omega,fun h=>absurd h (by decide),fun h=>absurd h (by decide)⟩ (show 3-1<3-0 by decide) _ _ (Sub.pt ?_)
  simp -implicitDefEqProofs only[push_cast,zz,seval]
 ·by_cases e1:b<0
  ·have hV:¬ odV ⟨wv,lv,kd,gr,hf,d,a,b,c⟩:=fun h=>by have:=h.2.2.1;simp only at this;omega
   have hb:=bad hV
   have hbc:=bdc hV
   clear hK
   simp -implicitDefEqProofs only[push_cast,zz,seval,b37_1,r0,r1,r2,e1]
   refine postF.mk' (fun _=>nilLoc) [none] ?_
   simp -implicitDefEqProofs only[push_cast,zz,seval,fs36,hb,hbc]
  by_cases e2:25<b
  ·have hV:¬ odV ⟨wv,lv,kd,gr,hf,d,a,b,c⟩:=fun h=>by have:=h.2.2.1;simp only at this;omega
   have hb:=bad hV
   have hbc:=bdc hV
   clear hK
   simp -implicitDefEqProofs only[push_cast,zz,seval,b37_1,r0,r1,r2,e1,e2]
   refine postF.mk' (fun _=>nilLoc) [none] ?_
   simp -implicitDefEqProofs only[push_cast,zz,seval,fs36,hb,hbc]
  cases gr with
  | false=>
   simp -implicitDefEqProofs only[push_cast,zz,seval,b37_1,r0,r1,r2,e1,e2]
   repeat refine om_ ?_
   refine hK 2 ⟨by decide,fun _=>p1 (by decide),fun _=>⟨by omega,fun h=>by cases h⟩,fun h=>absurd h (by decide)⟩ (show 3-2<3-1 by decide) _ _ (Sub.pt ?_)
   simp -implicitDefEqProofs only[push_cast,zz,seval]
  | true=>
   by_cases e3:b=0
   ·subst e3
    simp -implicitDefEqProofs only[push_cast,zz,seval,b37_1,r0,r1,r2]
    repeat refine om_ ?_
    refine hK 2 ⟨by decide,fun _=>p1 (by decide),fun _=>⟨by omega,fun _=>rfl⟩,fun h=>absurd h (by decide)⟩ (show 3-2<3-1 by decide) _ _ (Sub.pt ?_)
    simp -implicitDefEqProofs only[push_cast,zz,seval]
   ·have hV:¬ odV ⟨wv,lv,kd,true,hf,d,a,b,c⟩:=fun h=>by have:=h.2.2.2.2 rfl;simp only at this;omega
    have hb:=bad hV
    have hbc:=bdc hV
    clear hK
    simp -implicitDefEqProofs only[push_cast,zz,seval,b37_1,r0,r1,r2,e1,e2,e3]
    refine postF.mk' (fun _=>nilLoc) [none] ?_
    simp -implicitDefEqProofs only[push_cast,zz,seval,fs36,hb,hbc]
 ·by_cases e1:c<0
  ·have hV:¬ odV ⟨wv,lv,kd,gr,hf,d,a,b,c⟩:=fun h=>by have:=h.2.2.2.1;simp only at this;omega
   have hb:=bad hV
   have hbc:=bdc hV
   clear hK
   simp -implicitDefEqProofs only[push_cast,zz,seval,b37_1,r0,r1,r2,e1]
   refine postF.mk' (fun _=>nilLoc) [none] ?_
   simp -implicitDefEqProofs only[push_cast,zz,seval,fs36,hb,hbc]
  by_cases e2:25<c
  ·have hV:¬ odV ⟨wv,lv,kd,gr,hf,d,a,b,c⟩:=fun h=>by have:=h.2.2.2.1;simp only at this;omega
   have hb:=bad hV
   have hbc:=bdc hV
   clear hK
   simp -implicitDefEqProofs only[push_cast,zz,seval,b37_1,r0,r1,r2,e1,e2]
   refine postF.mk' (fun _=>nilLoc) [none] ?_
   simp -implicitDefEqProofs only[push_cast,zz,seval,fs36,hb,hbc]
  cases gr with
  | false=>
   simp -implicitDefEqProofs only[push_cast,zz,seval,b37_1,r0,r1,r2,e1,e2]
   repeat refine om_ ?_
   refine hK 3 ⟨by decide,fun _=>p1 (by decide),fun _=>p2 (by decide),fun _=>⟨by omega,fun h=>by cases h⟩⟩ (show 3-3<3-2 by decide) _ _ (Sub.pt ?_)
   simp -implicitDefEqProofs only[push_cast,zz,seval]
  | true=>
   by_cases e3:c=0
   ·subst e3
    simp -implicitDefEqProofs only[push_cast,zz,seval,b37_1,r0,r1,r2]
    repeat refine om_ ?_
    refine hK 3 ⟨by decide,fun _=>p1 (by decide),fun _=>p2 (by decide),fun _=>⟨by omega,fun _=>rfl⟩⟩ (show 3-3<3-2 by decide) _ _ (Sub.pt ?_)
    simp -implicitDefEqProofs only[push_cast,zz,seval]
   ·have hV:¬ odV ⟨wv,lv,kd,true,hf,d,a,b,c⟩:=fun h=>by have:=h.2.2.2.2 rfl;simp only at this;omega
    have hb:=bad hV
    have hbc:=bdc hV
    clear hK
    simp -implicitDefEqProofs only[push_cast,zz,seval,b37_1,r0,r1,r2,e1,e2,e3]
    refine postF.mk' (fun _=>nilLoc) [none] ?_
    simp -implicitDefEqProofs only[push_cast,zz,seval,fs36,hb,hbc]
 ·have q1:=p1 (by decide)
  have q2:=p2 (by decide)
  have q3:=p3 (by decide)
  clear hK
  have hV:odV ⟨wv,lv,kd,gr,hf,d,a,b,c⟩:=⟨hs,q1,q2.1,q3.1,fun h=>⟨q2.2 h,q3.2 h⟩⟩
  have hok:=hV.ok
  have hl:odL ⟨wv,lv,kd,gr,hf,d,a,b,c⟩=ordP d a b c:=if_pos hV
  have hlc:odC ⟨wv,lv,kd,gr,hf,d,a,b,c⟩=0:=if_pos hV
  simp only at hok
  simp -implicitDefEqProofs only[push_cast,zz,seval,b37_1,r37_2,fs64,hok]
  repeat refine om_ ?_
  intro X1
  repeat refine om_ ?_
  refine postF.mk' (fun _=>X1 2 16) [some 16] ?_
  simp -implicitDefEqProofs only[push_cast,zz,seval,fs36,hl,hlc]
def ent37:Entry:=spOf fs36 invOd
theorem e37:EntryOk Tryz.prog 37 ent37:=entry_of ok37 invOd
@[push_cast] theorem ent37_a u l x k:ent37 u l x k=spOf fs36 invOd u l x k:=rfl
def inv21S:List SV->Look->Option (Unit×List Nat)
 | [],_=>some ((),[])
 | _,_=>none
attribute [push_cast] inv21S
def ent13:Entry:=spOf fs13 inv21S
theorem e13:EntryOk Tryz.prog 13 ent13:=entry_of ok13 inv21S
@[push_cast] theorem ent13_a u l x k:ent13 u l x k=spOf fs13 inv21S u l x k:=rfl
def ir9:IR:=
 .seq (r_ [o_ 1 (.box 10 (.t 0)),o_ 2 (.mov (.k (.bool false)))] [0,2]) (.seq (R_ [f_ 15 1 0,⟨some 16,none,⟨[11,12],[]⟩,.ld false none 0 0 (.t 15)⟩,f_ 17 1 1,⟨some 18,none,⟨[11,12],[]⟩,.ld false none 0 0 (.t 17)⟩,f_ 19 1 2,⟨some 20,none,⟨[11,12],[]⟩,.ld false (some 6) 0 0 (.t 19)⟩,f_ 21 1 8,⟨some 22,none,⟨[11,12],[]⟩,.ld false (some 3) 0 0 (.t 21)⟩,o_ 5 (.alloc 11 [y_,y_,y_,.bool false,.bool false,y_]),o_ 6 (.allocI 12 .i64 3),m_ 3 16,m_ 4 18,⟨none,none,⟨[],[11]⟩,.sto false 6 .i64 (.t 5) (.t 20)⟩,S_ 3 .i64 6 22] [1,15,16,17,18,19,20,21,22]) (.seq (.seq (r_ [m_ 23 3,o_ 24 (.call (some 4) 13 21 [.t 23])] [23]) (.cond (.t 24) (.seq (r_ [o_ 25 (.call (some 4) 17 13 []),m_ 2 25] [3,4,5,6,24,25]) (.ret)) (.skip))) (.seq (r_ [m_ 27 3,m_ 28 4,o_ 29 (.call (some 4) 21 34 [.t 27,.t 28]),m_ 26 29,e_ 30 26 0,e_ 31 26 1,m_ 7 30,m_ 8 31] [2,24,26,27,28,29,30,31]) (.seq (r_ [m_ 33 3,m_ 34 4,o_ 35 (.call (some 4) 25 35 [.t 33,.t 34]),m_ 32 35,e_ 36 32 0,e_ 37 32 1,m_ 9 36,m_ 10 37] [3,4,32,33,34,35,36,37]) (.seq (r_ [o_ 39 (.ld false (some 6) 0 0 (.t 5)),o_ 40 (.ld true (some 3) 0 0 (.t 6)),o_ 41 (.call (some 4) 29 36 [.t 39,.t 40]),m_ 38 41,e_ 42 38 0,e_ 43 38 1,m_ 11 42,m_ 12 43] [38,39,40,41,42,43]) (.seq (r_ [o_ 45 (.ld false (some 6) 0 0 (.t 5)),o_ 46 (.ld true (some 3) 0 0 (.t 6)),o_ 47 (.call (some 4) 33 37 [.t 45,.t 46]),m_ 44 47,e_ 48 44 0,e_ 49 44 1,m_ 13 48,m_ 14 49] [5,6,44,45,46,47,48,49]) (.seq (r_ [m_ 50 7,m_ 51 9,b_ 52 .eql 50 51,m_ 53 52,p_ 53 (m_ 54 8),p_ 53 (m_ 55 10),p_ 53 (b_ 56 .eql 54 55),K_ 57 53 56,m_ 58 57,p_ 58 (m_ 59 12),p_ 58 (m_ 60 14),p_ 58 (b_ 61 .eql 59 60),K_ 62 58 61,m_ 63 62,p_ 63 (m_ 64 11),p_ 63 (m_ 65 13),p_ 63 (o_ 66 (.call (some 4) 37 38 [.t 64,.t 65])),K_ 67 63 66,m_ 68 67,p_ 68 (o_ 69 (.call (some 4) 41 13 [])),K_ 70 68 69,m_ 2 70] [7,8,9,10,11,12,13,14,50,51,52,53,54,55,56,57,58,59,60,61,62,63,64,65,66,67,68,69,70]) (.ret))))))))
set_option maxRecDepth 4000 in
theorem comp9:(Tryz.f9.body.bind fun c=>compC tab isP chkAll ir9 c)=some ir9:=by kernel_rfl
set_option maxHeartbeats 1000000 in
theorem tri9 (L:Xf.Loc) (rows:List (Xf.Loc×List Int)) (hs:smOk rows) (n wv lv kd d a b c:Int) (gr hf:Bool) (hn:n<=9223372036854775807):Tri Tryz.prog 9 [.agg [.sl 0 L 1 0 rows.length,.int .i64 n,.int .i64 wv,.int .i64 lv,.int .i64 kd,.bool gr,.bool hf,.int .i64 d,.int .i64 a,.int .i64 b,.int .i64 c]]
  [some (.ro,L,.recs 1 false [] (rows.map byRc))] (fun v _=>v=.bool true):=by
 have s3:∀ x y z w:Int,([x,y,z].set 0 w=[w,y,z]/\[x,y,z].set 1 w=[x,w,z])/\[x,y,z].set 2 w=[x,y,w]:=fun _ _ _ _=>⟨⟨rfl,rfl⟩,rfl⟩
 have t3:∀ x y z w:Int,([x,y,z].getD 0 w=x/\[x,y,z].getD 1 w=y)/\[x,y,z].getD 2 w=z:=fun _ _ _ _=>⟨⟨rfl,rfl⟩,rfl⟩
 refine tri_evS (hyp (l:=[(21,ent21),(13,ent13),(34,ent34),(35,ent35),(36,ent36),(37,ent37),(38,ent38)]) (lp:=[]) ⟨e21,e13,e34,e35,e36,e37,e38,trivial⟩ trivial) Tryz.func9 comp9 (rs:=[.tmp 2]) (by rfl) Tryz.ntmps9 45 ?_
 by_cases hb:2500<(rows.length:Int)+smL rows
 ·simp -implicitDefEqProofs only[push_cast,zz,seval,ir9,fs21,fs13,hs,hb,s3,t3]
 have hl:(odL ⟨wv,lv,kd,gr,hf,d,a,b,c⟩).length<=140737488355328:=by
  unfold odL
  split
  ·exact Nat.le_trans (ord_len d a b c) (by decide)
  ·exact Nat.zero_le _
 simp -implicitDefEqProofs only[push_cast,zz,seval,ir9,fs21,fs13,fs34,fs36,fs107,hs,hn,hb,hl,s3,t3]
section 
variable {H:Type} {enc:TypeId×Value->H} {P:Program} {w:World} {held:Bool}
theorem bu_open {r:Reach} {b0:Nat} {t e:TypeId} {f0 f1 f2 f3:Field} {v:Value} {d:DataW H} {p:List MemPlace} (ht:P.underlying t=some (.struct #[f0,f1,f2,f3]))
  (ho:[f0.offset,f1.offset,f2.offset,f3.offset,P.cellsOf f0.type,P.cellsOf f1.type,P.cellsOf f2.type,P.cellsOf f3.type,P.cellsOf t,P.cellsOf e]=[0,1,2,8,1,1,6,3,11,1])
  (hr:flatBy P f0.type=true) (hi:P.underlying f1.type=some (.int .i64)) (hs:flatF P 6 f2.type=some [.int .i64,.int .i64,.int .i64,.bool,.bool,.int .i64]) (ha:P.underlying f3.type=some (.array 3 e)) (he:P.underlying e=some (.int .i64))
  (hv:Value.okWide P w r b0 t v) (h:DataW.Trod enc P w 0 (fun _=>true) held t v d p) (hw:∀ n∈d.weights P t,n<=reachBytes) :
  ∃ (L:Xf.Loc) (l:List (Xf.Loc×List Int)) (n wv lv kd:Int) (gr hf:Bool) (dd a b c:Int),(∀ k,Den (.agg [.sl k L 1 0 (l.length:Nat),.int .i64 n,.int .i64 wv,.int .i64 lv,.int .i64 kd,.bool gr,.bool hf,.int .i64 dd,.int .i64 a,.int .i64 b,.int .i64 c]) v) /\
   (∀ W,ChunkSat w W (.ro,L,.recs 1 false [] (l.map byRc)) w)/\(∀ r∈l,byAll r.2/\r.2.length<=140737488355328)/\n<=9223372036854775807/\∃ d0 d1 d2 d3,d=.agg [d0,d1,d2,d3]/\rowsD l d0:=by
 simp only[List.cons.injEq,and_true]at ho
 obtain⟨o0,o1,o2,o3,k0,k1,k2,k3,kt,ke⟩:=ho
 obtain⟨cs,rfl,_⟩:=WideShapes.okWide_struct ht hv
 obtain⟨fuel,hx⟩:=h
 have hx:DataW.trod enc P w 0 (fun _=>true) held fuel t cs.toList=some (d,p):=by simpa [Value.cells]using hx
 obtain⟨xs,m,_,hxe,hlen,hxl,hf⟩:=DataW.trod_struct ht hx
 have hxl:xs.length=4:=by simpa using hxl
 obtain⟨y0,y1,y2,y3,rfl⟩:∃ y0 y1 y2 y3,xs=[y0,y1,y2,y3]:=by
  match xs,hxl with
  | [y0,y1,y2,y3],_=>exact⟨y0,y1,y2,y3,rfl⟩
 rw[kt]at hlen
 obtain⟨c0,c1,c2,c3,c4,c5,c6,c7,c8,c9,c10,hC⟩:∃ c0 c1 c2 c3 c4 c5 c6 c7 c8 c9 c10,cs.toList=[c0,c1,c2,c3,c4,c5,c6,c7,c8,c9,c10]:=by
  match cs.toList,hlen with
  | [c0,c1,c2,c3,c4,c5,c6,c7,c8,c9,c10],_=>exact⟨c0,c1,c2,c3,c4,c5,c6,c7,c8,c9,c10,rfl⟩
 have g0:DataW.trod enc P w 0 (fun _=>true) held m f0.type [c0]=some y0:=by have:=hf 0 f0 rfl;rw[o0,k0,hC]at this;exact this
 have g1:DataW.trod enc P w 0 (fun _=>true) held m f1.type [c1]=some y1:=by have:=hf 1 f1 rfl;rw[o1,k1,hC]at this;exact this
 have g2:DataW.trod enc P w 0 (fun _=>true) held m f2.type [c2,c3,c4,c5,c6,c7]=some y2:=by have:=hf 2 f2 rfl;rw[o2,k2,hC]at this;exact this
 have g3:DataW.trod enc P w 0 (fun _=>true) held m f3.type [c8,c9,c10]=some y3:=by have:=hf 3 f3 rfl;rw[o3,k3,hC]at this;exact this
 have hd:d=.agg [y0.1,y1.1,y2.1,y3.1]:=(Prod.ext_iff.1 hxe).1
 have hwd:∀ (j:Nat) (f:Field) (y:DataW H×List MemPlace),(#[f0,f1,f2,f3]:Array Field).toList[j]?=some f->[y0,y1,y2,y3][j]?=some y->∀ n∈y.1.weights P f.type,n<=reachBytes:=fun j f y hj hy n hn=>hw n (by
  rw[hd]
  unfold DataW.weights
  rw[ht]
  refine DataW.weights_mem_each (j:=j) (t:=f.type) (d:=y.1) ?_ ?_ n hn
  ·rw[List.getElem?_map,hj];rfl
  ·have:([y0.1,y1.1,y2.1,y3.1]:List (DataW H))=[y0,y1,y2,y3].map (·.1):=rfl
   rw[this,List.getElem?_map,hy];rfl)
 obtain⟨y00,p00⟩:=y0
 obtain⟨L,l,q1,q2,q3,q4,q5⟩:=rows_open_t hr g0 (hwd 0 f0 _ rfl rfl)
 obtain⟨n,hn,_,hnw⟩:=DataW.trod_int hi g1
 obtain rfl:c1=.int .i64 n:=by simpa using hn
 obtain⟨ls,hl⟩:=flat_open 6 f2.type _ hs m _ y2 g2 (hwd 2 f2 _ rfl rfl)
 obtain⟨wv,_,_,rfl,e2,_,hl⟩:=hl.int
 obtain⟨rfl,rfl⟩:c2=.int .i64 wv/\_=_:=by simpa using e2
 obtain⟨lv,_,_,rfl,e3,_,hl⟩:=hl.int
 obtain⟨rfl,rfl⟩:c3=.int .i64 lv/\_=_:=by simpa using e3
 obtain⟨kd,_,_,rfl,e4,_,hl⟩:=hl.int
 obtain⟨rfl,rfl⟩:c4=.int .i64 kd/\_=_:=by simpa using e4
 obtain⟨gr,_,_,rfl,e5,hl⟩:=hl.bool
 obtain⟨rfl,rfl⟩:c5=.bool gr/\_=_:=by simpa using e5
 obtain⟨hf',_,_,rfl,e6,hl⟩:=hl.bool
 obtain⟨rfl,rfl⟩:c6=.bool hf'/\_=_:=by simpa using e6
 obtain⟨dd,_,_,rfl,e7,_,hl⟩:=hl.int
 obtain⟨rfl,rfl⟩:c7=.int .i64 dd/\_=_:=by simpa using e7
 obtain⟨zs,m',_,_,_,hz,hg⟩:=DataW.trod_array ha g3
 have each:∀ (i:Nat) (c:Value),i<3->([c8,c9,c10].drop (i*1)).take 1=[c]->∃ a,c=.int .i64 a:=fun i c h3 hc=>by
  have h:=hg i h3
  rw[ke,hc,List.getElem?_eq_getElem (by omega)]at h
  obtain⟨a,h4,_⟩:=DataW.trod_int he h
  exact⟨a,by simpa using h4⟩
 obtain⟨a,rfl⟩:=each 0 c8 (by decide) rfl
 obtain⟨b,rfl⟩:=each 1 c9 (by decide) rfl
 obtain⟨c,rfl⟩:=each 2 c10 (by decide) rfl
 refine⟨L,l,n,wv,lv,kd,gr,hf',dd,a,b,c,fun k=>?_,q2,q4,by simp only[Lit.wf,Bool.and_eq_true,decide_eq_true_eq]at hnw;exact Int.le_trans hnw.2 (by decide),_,_,_,_,hd,q5⟩
 have hcs:cs=[c0,.int .i64 n,.int .i64 wv,.int .i64 lv,.int .i64 kd,.bool gr,.bool hf',.int .i64 dd,.int .i64 a,.int .i64 b,.int .i64 c].toArray:=by rw[<-hC]
 rw[hcs]
 exact Den.agg (Dens.cons (q1 k) (Dens.cons (Den.int _ n) (Dens.cons (Den.int _ wv) (Dens.cons (Den.int _ lv) (Dens.cons (Den.int _ kd) (Dens.cons (Den.bool' gr) (Dens.cons (Den.bool' hf') (Dens.cons (Den.int _ dd) (Dens.cons (Den.int _ a) (Dens.cons (Den.int _ b) (Dens.cons (Den.int _ c) Dens.nil)))))))))))
end
end Go.Proofs.YtaofjnkpkocgjaaGreat
