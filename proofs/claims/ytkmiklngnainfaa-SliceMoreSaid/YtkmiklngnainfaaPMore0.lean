import Derived.Test.YtkmiklngnainfaaPA1
import Derived.Test.YtkmiklngnainfaaKc
import Derived.Test.YtkmiklngnainfaaProg
import Derived.Test.YtkmiklngnainfaaChecked
import Derived.ProofKit
import Derived.ChangeArms
import Derived.ChangeSlices
import Derived.SizedLaws
import Derived.OpenShut
import Derived.ChangeOld
import Derived.Below
set_option linter.unusedVariables false
set_option linter.unusedSimpArgs false
set_option maxRecDepth 1000
namespace Go.Proofs.Ytkmiklngnainfaa
open Xf
def inv8:List SV->Look->Option (Unit×List Nat)
 | [],_=>some ((),[])
 | _,_=>none
attribute [push_cast] inv8
def ent8:Entry:=spOf fs8 inv8
theorem e8:EntryOk Try.prog 8 ent8:=entry_of ok8 inv8
@[push_cast] theorem ent8_app (us:List SV) (look:Look) (x:Nat->Xf.Loc) (k:Nat):ent8 us look x k=spOf fs8 inv8 us look x k:=rfl
def flatBy (P:Program) (t:TypeId):Bool:=
 match P.underlying t with
 | some (.slice e)=>match P.underlying e with
  | some (.slice b)=>(match P.underlying b with | some (.int .u8)=>true | _=>false)&&decide (P.cellsOf e=1)&&decide (0<P.bytesOf e)&&decide (P.cellsOf b=1)&&decide (0<P.bytesOf b)
  | _=>false
 | _=>false
theorem weightsAll_mem {H:Type} {P:Program} {e:TypeId}:∀ {l:List (DataW H)} {d:DataW H},d∈l->∀ n∈d.weights P e,n∈DataW.weightsAll P e l
 | d::l,x,h,n,hn=>by
  unfold DataW.weightsAll
  rcases List.mem_cons.1 h with rfl | h
  ·exact List.mem_append_left _ hn
  ·exact List.mem_append_right _ (weightsAll_mem h n hn)
section 
variable {H:Type} {enc:TypeId×Value->H} {P:Program} {w:World} {held:Bool}
theorem rcAt_by {l:List (Xf.Loc×List Int)} {o:Nat} (ho:o<l.length):rcAt (l.map byRc) 1 o=.row (l[o]).1 .u8 (l[o]).2:=by
 unfold rcAt byRc
 simp[Nat.div_one,Nat.mod_one,ho]
theorem rows_open {r:Reach} {b0:Nat} {t:TypeId} {v:Value} {d:DataW H} {p:List MemPlace} (hf:flatBy P t=true) (hv:Value.okWide P w r b0 t v) (h:DataW.Trod enc P w 0 (fun _=>true) held t v d p) (hw:∀ n∈d.weights P t,n<=reachBytes) :
  ∃ (L:Xf.Loc) (l:List (Xf.Loc×List Int)),(∀ c,Den (.sl c L 1 0 (l.length:Nat)) v)/\(∀ W,ChunkSat w W (.ro,L,.recs 1 false [] (l.map byRc)) w)/\l.length<=140737488355328/\(∀ r∈l,byAll r.2/\r.2.length<=140737488355328):=by
 unfold flatBy at hf
 split at hf
 case h_2=>cases hf
 rename_i e ht
 split at hf
 case h_2=>cases hf
 rename_i u he
 simp only[Bool.and_eq_true,decide_eq_true_eq]at hf
 obtain⟨⟨⟨⟨hu,hc⟩,hb⟩,hcu⟩,hbu⟩:=hf
 split at hu
 case h_2=>cases hu
 rename_i hq
 obtain⟨fuel,hx⟩:=h
 have hvc:v.cells.toList=[v]:=by obtain⟨a,n,c,rfl⟩:=WideShapes.okWide_slice ht hv;rfl
 rw[hvc]at hx
 rcases DataW.trod_slice ht hx with ⟨hcs,hxe⟩ | ⟨a,len,cap,elems,rest,m,_,hcs,hxe,hbs,hl,hm,hlen,hel,hsp,hns⟩
 ·obtain rfl:v=.slice none 0 0:=by simpa using hcs
  refine⟨Xf.nilLoc,[],fun c=>?_,fun W=>?_,by simp,by simp⟩
  ·simp only[Den,nilLoc0]
   refine⟨by omega,by simp,by simp,by simp,none,by simp,by simp,by simp⟩
  ·refine⟨fun o ho=>(by simp[Chunk.len]at ho),fun _ _ _ h=>(by obtain⟨r,hr,_⟩:=h;simp at hr),fun a ha=>(by have h0:=ha.1;cases h0),fun h=>(by cases h),⟨by simp,by simp[nilLoc0],by decide,by simp⟩,fun _ _=>trivial⟩
 ·obtain rfl:v=.slice (some a) len cap:=by simpa using hcs
  obtain⟨hrl,hsp'⟩:=hsp rfl
  have hx1:d=.slice (elems.map (·.1)) (rest.map (·.1)):=(Prod.ext_iff.1 hxe).1
  rw[hx1]at hw
  unfold DataW.weights at hw
  rw[ht]at hw
  have hcap:cap<=140737488355328:=by
   have h1:=hw _ (List.mem_cons_self ..)
   simp only[List.length_map]at h1
   rw[show elems.length+rest.length=cap by omega]at h1
   have h3:cap<=cap*P.bytesOf e:=Nat.le_mul_of_pos_right _ hb
   have h4:reachBytes<=140737488355328:=by decide
   omega
  have hall:∀ i,∃ q:Xf.Loc×List Int,i<len->∃ x,w.cell? (a.add i)=some x/\LeafOk w (.row .u8) (.row q.1 .u8 q.2) x:=fun i=>by
   by_cases hi:i<len
   ·have hk:=hel i hi
    have hie:i<elems.length:=by omega
    rw[List.getElem?_eq_getElem hie,Option.bind_eq_some_iff]at hk
    obtain⟨cs',hcs',hy⟩:=hk
    obtain⟨_,hcl,hcell⟩:=World.cells?_some hcs'
    obtain⟨l,x,rfl,hlo⟩:=row_open he hq hcu hbu hy (fun n hn=>hw n (List.mem_cons_of_mem _ (List.mem_append_left _ (weightsAll_mem (List.mem_map.2 ⟨_,List.getElem_mem hie,rfl⟩) n hn))))
    have h0:=hcell 0 (by omega)
    rw[hc,Nat.mul_one]at h0
    have h0':w.cell? (a.add i)=some x:=by
     have e0:(a.add i).add 0=a.add i:=by simp[Addr.add]
     rw[e0]at h0
     rw[h0];rfl
    cases l with
    | int k n=>exact hlo.elim
    | bool b=>exact hlo.elim
    | row L k xs=>
     have hk:k=.u8:=hlo.1
     subst hk
     exact⟨(L,xs),fun _=>⟨x,h0',hlo⟩⟩
   ·exact⟨(nilLoc,[]),fun h=>absurd h hi⟩
  obtain⟨f,hf⟩:=Classical.axiomOfChoice hall
  obtain⟨b,o,spot⟩:=a
  have hspot:cap≠0->spot=none:=by
   intro hc0
   by_cases h0:0<len
   ·obtain⟨x,hx,_⟩:=hf 0 h0
    simpa [Addr.add]using World.cell?_spot hx
   ·have hk:=hsp' 0 (by omega)
    rw[List.getElem?_eq_getElem (by omega),Option.bind_eq_some_iff]at hk
    obtain⟨cs',hcs',hy⟩:=hk
    obtain⟨_,hcl,hcell⟩:=World.cells?_some hcs'
    have:=hcell 0 (by omega)
    rw[List.getElem?_eq_getElem (by omega),show len+0=0 by omega]at this
    simpa [Addr.add]using World.cell?_spot this
  have hmem:∀ r∈(List.range len).map f,∃ x,LeafOk w (.row .u8) (.row r.1 .u8 r.2) x:=fun r hr=>by
   obtain⟨i,hi,rfl⟩:=List.mem_map.1 hr
   obtain⟨x,_,hx⟩:=hf i (by simpa using hi)
   exact⟨x,hx⟩
  refine⟨(⟨b,o,false,cap⟩:Xf.Loc),(List.range len).map f,fun c=>?_,fun W=>?_,by simp;omega,fun r hr=>?_⟩
  ·simp only[Den,List.length_map,List.length_range]
   refine⟨by omega,by omega,by omega,by simp,some ⟨b,o,spot⟩,by simp,by simp,fun h=>?_⟩
   have:spot=none:=hspot (by simpa using h)
   subst this
   simp[Xf.Loc.ad]
  ·refine⟨fun o' ho=>?_,fun L k xs h=>?_,fun a ha=>(by have h0:=ha.1;cases h0),fun h=>(by cases h),⟨by simp;omega,by simp,by decide,fun r hr=>?_⟩,fun _ _=>trivial⟩
   ·simp only[Chunk.len,List.length_map,List.length_range,Nat.mul_one]at ho
    have hs:spot=none:=hspot (by omega)
    subst hs
    obtain⟨x,hx,hl⟩:=hf o' ho
    have e2:(⟨b,o,none⟩:Addr).add o'=⟨b,o+o',none⟩:=by by_cases h0:o'=0<;>simp[Addr.add,h0]
    rw[e2]at hx
    refine⟨_,hx,?_⟩
    simp only[Chunk.cell]
    rw[rcAt_by (by simpa using ho)]
    simp only[List.getElem_map,List.getElem_range,RC.sv]
    exact hl.2.1 4095
   ·obtain⟨r,hr,hm⟩:=h
    obtain⟨q,hq,rfl⟩:=List.mem_map.1 hr
    simp only[byRc,List.mem_singleton,RC.row.injEq]at hm
    obtain⟨rfl,rfl,rfl⟩:=hm
    obtain⟨x,hx⟩:=hmem q hq
    have hcs:=hx.2.2.1 W
    have hfit:q.2.length<=q.1.cap/\(q.1.nil=true->q.1.cap=0):=hcs.fits
    refine⟨hfit.1,hfit.2,fun o' ho=>?_,fun h=>(by cases h)⟩
    obtain⟨y,hy,hd⟩:=hcs.cell o' ho
    simp only[Chunk.cell,Den]at hd
    rw[hy,hd]
   ·obtain⟨q,hq,rfl⟩:=List.mem_map.1 hr
    rfl
  ·obtain⟨x,hx⟩:=hmem r hr
   refine⟨fun n hn=>?_,hx.2.2.2.1⟩
   have:=hx.2.2.2.2 n hn
   simp[Lit.wf,IntKind.min,IntKind.max,IntKind.bits,IntKind.signed]at this
   omega
end
def ir6:IR:=
 .seq (r_ [o_ 12 (.mov (.k (.bool false)))] [12]) (.seq (.seq (r_ [m_ 17 5,h_ 18 17,c_ 19 .gtr 18 30,m_ 20 19,q_ 20 (m_ 21 5),q_ 20 (h_ 22 21),q_ 20 (c_ 23 .eql 22 0),k_ 24 20 23] [17,18,19,20,21,22,23]) (.cond (.t 24) (.seq (r_ [o_ 25 (.call (some 4) 10 8 []),m_ 12 25] [0,1,2,3,4,5,24,25]) (.ret)) (.skip))) (.seq (r_ [m_ 27 0,m_ 28 1,m_ 29 2,m_ 30 3,m_ 31 4,m_ 32 5,o_ 33 (.call (some 4) 14 11 [.t 27,.t 28,.t 29,.t 30,.t 31,.t 32]),m_ 26 33,e_ 34 26 0,e_ 35 26 1,o_ 13 (.alloc 18 [y_,y_,nilSV]),s_ 3 .i64 13 34,m_ 14 35] [12,13,24,26,27,28,29,30,31,32,33,34,35]) (.seq (r_ [m_ 37 0,m_ 38 1,m_ 39 2,m_ 40 3,m_ 41 4,m_ 42 5,m_ 43 5,h_ 44 43,c_ 45 .sub 44 1,o_ 46 (.slc (.t 42) 1 none (some (.t 45))),o_ 47 (.call (some 4) 19 11 [.t 37,.t 38,.t 39,.t 40,.t 41,.t 46]),m_ 36 47,e_ 48 36 0,e_ 49 36 1,o_ 15 (.alloc 23 [y_,y_,nilSV]),s_ 3 .i64 15 48,m_ 16 49] [0,1,2,3,15,36,37,38,39,40,41,42,43,44,45,46,47,48,49]) (.seq (.seq (r_ [m_ 50 14,c_ 51 .eql 50 0] [50]) (.cond (.t 51) (.seq (r_ [m_ 52 16,c_ 53 .eql 52 0,m_ 54 53,p_ 54 (o_ 55 (.call (some 4) 24 8 [])),K_ 56 54 55,m_ 12 56] [4,5,14,16,51,52,53,54,55,56]) (.ret)) (.skip))) (.seq (r_ [m_ 57 14,m_ 58 16,b_ 59 .eql 57 58,m_ 60 59,q_ 60 (m_ 61 16),q_ 60 (c_ 62 .eql 61 0),k_ 63 60 62,m_ 64 63,q_ 64 (m_ 65 14),q_ 64 (c_ 66 .eql 65 2),q_ 64 (m_ 67 66),p_ 67 (m_ 68 5),p_ 67 (h_ 69 68),p_ 67 (m_ 70 4),p_ 67 (b_ 71 .gtr 69 70),q_ 64 (K_ 72 67 71),k_ 73 64 72,m_ 74 73,p_ 74 (o_ 75 (.call (some 4) 28 8 [])),K_ 76 74 75,m_ 12 76] [4,5,14,16,51,57,58,59,60,61,62,63,64,65,66,67,68,69,70,71,72,73,74,75,76]) (.ret))))))
set_option maxRecDepth 4000 in
theorem comp6:(Try.f6.body.bind fun c=>compC tab isP chkAll ir6 c)=some ir6:=by kernel_rfl
theorem decG_snoc (f:List Int) (c:List Int):∀ (l:List (List Int)) (t:Int) (s:StS) (st:List Int),(decG f l t s st).2=0∨(decG f (l++[c]) t s st).2=(decG f l t s st).2
 | [],t,s,st=>.inl rfl
 | b::l,t,s,st=>by
  rw[List.cons_append,decG,decG]
  split
  ·exact decG_snoc f c l _ _ _
  ·exact .inr rfl
theorem decE_snoc (w h lv kd P:Int) (l:List (List Int)) (c:List Int):(decE w h lv kd P (l++[c])=0->decE w h lv kd P l=0) /\
  (decE w h lv kd P (l++[c])=decE w h lv kd P l∨decE w h lv kd P l=0∨decE w h lv kd P (l++[c])=2/\P<((l++[c]).length:Int)):=by
 have hs:=decG_snoc (List.replicate (w*h).toNat 0) c l (P-1) (st00 ⟨w,h,lv,kd⟩) (List.replicate 12 0)
 have e1:(decR w h lv kd P l)=decG (List.replicate (w*h).toNat 0) l (P-1) (st00 ⟨w,h,lv,kd⟩) (List.replicate 12 0):=rfl
 have e2:(decR w h lv kd P (l++[c]))=decG (List.replicate (w*h).toNat 0) (l++[c]) (P-1) (st00 ⟨w,h,lv,kd⟩) (List.replicate 12 0):=rfl
 rw[<-e1,<-e2]at hs
 unfold decE
 by_cases h1:decOk w h lv kd P (l++[c]).length
 ·have h2:decOk w h lv kd P l.length:=by
   obtain⟨a,b,d,e,g⟩:=h1
   rw[List.length_append,List.length_singleton]at g
   exact⟨a,b,d,e,by omega⟩
  rw[if_pos h1,if_pos h2]
  rcases hs with hs | hs
  ·exact⟨fun _=>hs,.inr (.inl hs)⟩
  ·rw[hs]
   exact⟨id,.inl rfl⟩
 ·rw[if_neg h1]
  refine⟨fun h=>(by cases h),?_⟩
  by_cases h2:decOk w h lv kd P l.length
  ·refine .inr (.inr ⟨rfl,?_⟩)
   obtain⟨a,b,d,e,g⟩:=h2
   rcases Int.lt_or_le P ((l++[c]).length:Int)with h3 | h3
   ·exact h3
   ·exact absurd ⟨a,b,d,e,h3⟩ h1
  ·rw[if_neg h2]
   exact .inl rfl
set_option maxHeartbeats 1000000 in
theorem tri6 (w h lv kd P:Int) (L:Xf.Loc) (rows:List (Xf.Loc×List Int)) (hl:rows.length<=140737488355328) (hw:∀ r∈rows,byAll r.2/\r.2.length<=140737488355328):Tri Try.prog 6 [.int .i64 w,.int .i64 h,.int .i64 lv,.int .i64 kd,.int .i64 P,.sl 0 L 1 0 rows.length]
  [some (.ro,L,.recs 1 false [] (rows.map byRc))] (fun v _=>v=.bool true):=by
 have hmapl:(rows.map byRc).length=rows.length:=List.length_map _
 refine tri_evS (hyp (l:=[(11,ent11),(8,ent8)]) (lp:=[]) ⟨e11,e8,trivial⟩ trivial) Try.func6 comp6 (rs:=[.tmp 12]) (by rfl) Try.ntmps6 32 ?_
 by_cases c1:30<(rows.length:Int)
 ·simp -implicitDefEqProofs only[push_cast,zz,seval,ir6,fs8,c1]
 by_cases c2:(rows.length:Int)=0
 ·simp -implicitDefEqProofs only[push_cast,zz,seval,ir6,fs8,c1,c2]
 obtain⟨m,hm⟩:∃ m:Nat,rows.length=m+1:=⟨rows.length-1,by omega⟩
 have hwf:rowsWf rows:=⟨by omega,hw⟩
 have hm1:(rows.length:Int)-1=(m:Int):=by omega
 have hc1:(⟨w,h,lv,kd,P,L,rows,rows.length⟩:DcA).cs=rows.map (·.2):=by unfold DcA.cs;simp only;rw[List.take_length]
 have hc2:(⟨w,h,lv,kd,P,L,rows,m⟩:DcA).cs=(rows.take m).map (·.2):=rfl
 have hsn:rows.map (·.2)=(rows.take m).map (·.2)++[(rows[m]'(by omega)).2]:=by
  have e:rows=rows.take m++[rows[m]'(by omega)]:=by rw[<-List.take_succ_eq_append_getElem (by omega),<-hm,List.take_length]
  exact(congrArg (List.map (·.2)) e).trans (by rw[List.map_append];first | done | rfl)
 have hlen:(rows.map (·.2)).length=rows.length:=List.length_map _
 obtain⟨h1,h2⟩:=decE_snoc w h lv kd P ((rows.take m).map (·.2)) (rows[m]'(by omega)).2
 rw[<-hsn]at h1 h2
 rw[hlen]at h2
 obtain⟨C1,hC1⟩:∃ c,rows.map (·.2)=c:=⟨_,rfl⟩
 obtain⟨C2,hC2⟩:∃ c,(rows.take m).map (·.2)=c:=⟨_,rfl⟩
 rw[hC1]at hc1 h1 h2
 rw[hC2]at hc2 h1 h2
 clear hsn hlen
 obtain⟨E1,hE1⟩:∃ E,decE w h lv kd P C1=E:=⟨_,rfl⟩
 obtain⟨E2,hE2⟩:∃ E,decE w h lv kd P C2=E:=⟨_,rfl⟩
 rw[hE1,hE2]at h1 h2
 have hmle:m<=rows.length:=by omega
 by_cases a:E1=0
 ·have b:=h1 a
  subst a
  subst b
  simp -implicitDefEqProofs only[push_cast,zz,seval,ir6,fs11,fs8,c1,c2,hmapl,hm1,hwf,hc1,hc2,hE1,hE2,hmle,Int.toNat_natCast,Int.sub_zero,Nat.le_refl]
  repeat refine om_ ?_
  all_goals omega
 by_cases b:E2=0
 ·simp -implicitDefEqProofs only[push_cast,zz,seval,ir6,fs11,fs8,c1,c2,hmapl,hm1,hwf,hc1,hc2,hE1,hE2,hmle,Int.toNat_natCast,Int.sub_zero,Nat.le_refl,a,b]
  repeat refine om_ ?_
  all_goals omega
 by_cases c:E1=E2
 ·subst c
  simp -implicitDefEqProofs only[push_cast,zz,seval,ir6,fs11,fs8,c1,c2,hmapl,hm1,hwf,hc1,hc2,hE1,hE2,hmle,Int.toNat_natCast,Int.sub_zero,Nat.le_refl,a]
  repeat refine om_ ?_
  all_goals omega
 ·obtain⟨d,hP⟩:E1=2/\P<(rows.length:Int):=by
   rcases h2 with h2 | h2 | h2
   ·exact absurd h2 c
   ·exact absurd h2 b
   ·exact h2
  subst d
  simp -implicitDefEqProofs only[push_cast,zz,seval,ir6,fs11,fs8,c1,c2,hmapl,hm1,hwf,hc1,hc2,hE1,hE2,hmle,Int.toNat_natCast,Int.sub_zero,Nat.le_refl,b,c,hP]
  repeat refine om_ ?_
  all_goals omega
end Go.Proofs.Ytkmiklngnainfaa
