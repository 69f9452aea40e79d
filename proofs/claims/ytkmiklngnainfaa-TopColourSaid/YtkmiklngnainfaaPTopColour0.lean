import Derived.Test.YtkmiklngnainfaaPA1
import Derived.Test.YtkmiklngnainfaaKc
import Derived.Test.YtkmiklngnainfaaProg
import Derived.Test.YtkmiklngnainfaaChecked
import Derived.ProofKit
import Derived.OpenShut
import Derived.SizedLaws
import Derived.ChangeOld
import Derived.Below
set_option linter.unusedVariables false
set_option linter.unusedSimpArgs false
set_option maxRecDepth 1000
namespace Go.Proofs.Ytkmiklngnainfaa
open Xf
def ir92:IR:=
 .seq (r_ [o_ 4 (.mov (.k (.bool false)))] [4]) (.seq (r_ [m_ 5 0,c_ 6 .geq 5 0,m_ 7 6,p_ 7 (m_ 8 1),p_ 7 (c_ 9 .geq 8 0),K_ 10 7 9,m_ 11 10,p_ 11 (m_ 12 0),p_ 11 (c_ 13 .leq 12 200),K_ 14 11 13,m_ 15 14,p_ 15 (m_ 16 1),p_ 15 (c_ 17 .leq 16 200),K_ 18 15 17,m_ 19 18,p_ 19 (m_ 20 0),p_ 19 (m_ 21 1),p_ 19 (b_ 22 .mul 20 21),p_ 19 (c_ 23 .leq 22 8192),K_ 24 19 23,m_ 4 24] [0,1,5,6,7,8,9,10,11,12,13,14,15,16,17,18,19,20,21,22,23,24]) (.ret))
set_option maxRecDepth 4000 in
theorem comp92:(Try.f92.body.bind fun c=>compC tab isP chkAll ir92 c)=some ir92:=by kernel_rfl
def ir46:IR:=
 .seq (r_ [o_ 4 (.mov (.k (.bool false)))] [4]) (.seq (r_ [m_ 5 0,c_ 6 .geq 5 0,m_ 7 6,p_ 7 (m_ 8 1),p_ 7 (c_ 9 .geq 8 0),K_ 10 7 9,m_ 11 10,p_ 11 (m_ 12 0),p_ 11 (c_ 13 .leq 12 200),K_ 14 11 13,m_ 15 14,p_ 15 (m_ 16 1),p_ 15 (c_ 17 .leq 16 200),K_ 18 15 17,m_ 19 18,p_ 19 (m_ 20 0),p_ 19 (m_ 21 1),p_ 19 (b_ 22 .mul 20 21),p_ 19 (c_ 23 .leq 22 8192),K_ 24 19 23,m_ 4 24] [0,1,5,6,7,8,9,10,11,12,13,14,15,16,17,18,19,20,21,22,23,24]) (.ret))
set_option maxRecDepth 4000 in
theorem comp46:(Try.f46.body.bind fun c=>compC tab isP chkAll ir46 c)=some ir46:=by kernel_rfl
def ir121:IR:=
 .seq (r_ [o_ 2 (.mov (.k (.bool false)))] [2]) (.seq (r_ [m_ 3 0,c_ 4 .geq 3 0,m_ 5 4,p_ 5 (m_ 6 0),p_ 5 (c_ 7 .leq 6 255),K_ 8 5 7,m_ 2 8] [0,3,4,5,6,7,8]) (.ret))
set_option maxRecDepth 4000 in
theorem comp121:(Try.f121.body.bind fun c=>compC tab isP chkAll ir121 c)=some ir121:=by kernel_rfl
def ir47:IR:=
 .seq (r_ [o_ 2 (.mov (.k (.bool false)))] [2]) (.seq (r_ [m_ 3 0,c_ 4 .geq 3 0,m_ 5 4,p_ 5 (m_ 6 0),p_ 5 (c_ 7 .leq 6 255),K_ 8 5 7,m_ 2 8] [0,3,4,5,6,7,8]) (.ret))
set_option maxRecDepth 4000 in
theorem comp47:(Try.f47.body.bind fun c=>compC tab isP chkAll ir47 c)=some ir47:=by kernel_rfl
def ir120:IR:=
 .seq (r_ [o_ 2 (.mov (.k (.bool false)))] [2]) (.seq (r_ [m_ 3 0,o_ 4 (.callp 121 [.t 3]),o_ 5 (.not (.t 4)),m_ 2 5] [0,3,4,5]) (.ret))
set_option maxRecDepth 4000 in
theorem comp120:(Try.f120.body.bind fun c=>compC tab isP chkAll ir120 c)=some ir120:=by kernel_rfl
theorem hypI {l:List (FuncId×Entry)} {li:List (FuncId×ITS)} {lp:List (FuncId×EntryP)} (h:allOk Try.prog l) (hi:allIt Try.prog li) (hp:allPOk Try.prog lp):Hyp Try.prog tab isP (spListI l li) (spPList lp) chkAll:=
 ⟨hT,spPList_ok hp,spListI_ok h hi,draw_ok mixed hT (spPList_ok hp) (spListI_ok h hi)⟩
def sidesF:EntryP
 | [.int .i64 w,.int .i64 h]=>some (True,.bool (decide (SidesOk w h)))
 | _=>none
def valF:EntryP
 | [.int .i64 n]=>some (True,.bool (decide (ValOk n)))
 | _=>none
def nvalF:EntryP
 | [.int .i64 n]=>some (True,.bool (decide (¬ ValOk n)))
 | _=>none
attribute [push_cast] sidesF valF nvalF
theorem p92:EntryPOk Try.prog 92 sidesF:=by
 refine⟨⟨_,Try.func92,by kernel_rfl,by kernel_rfl⟩,fun us p v h hp=>?_⟩
 unfold sidesF at h
 split at h<;>cases h
 refine tri_evS (hyp (l:=[]) (lp:=[]) trivial trivial) Try.func92 comp92 (rs:=[.tmp 4]) (by rfl) Try.ntmps92 10 ?_
 simp -implicitDefEqProofs only[push_cast,zz,seval,ir92,sidesF]
 refine⟨fun h=>?_,by simp only[SidesOk,and_assoc]⟩
 have:=mul_bd h.1 h.2.2.1 h.2.1 h.2.2.2
 omega
theorem p46:EntryPOk Try.prog 46 sidesF:=by
 refine⟨⟨_,Try.func46,by kernel_rfl,by kernel_rfl⟩,fun us p v h hp=>?_⟩
 unfold sidesF at h
 split at h<;>cases h
 refine tri_evS (hyp (l:=[]) (lp:=[]) trivial trivial) Try.func46 comp46 (rs:=[.tmp 4]) (by rfl) Try.ntmps46 10 ?_
 simp -implicitDefEqProofs only[push_cast,zz,seval,ir46,sidesF]
 refine⟨fun h=>?_,by simp only[SidesOk,and_assoc]⟩
 have:=mul_bd h.1 h.2.2.1 h.2.1 h.2.2.2
 omega
theorem p121:EntryPOk Try.prog 121 valF:=by
 refine⟨⟨_,Try.func121,by kernel_rfl,by kernel_rfl⟩,fun us p v h hp=>?_⟩
 unfold valF at h
 split at h<;>cases h
 refine tri_evS (hyp (l:=[]) (lp:=[]) trivial trivial) Try.func121 comp121 (rs:=[.tmp 2]) (by rfl) Try.ntmps121 10 ?_
 simp -implicitDefEqProofs only[push_cast,zz,seval,ir121,valF]
 rfl
theorem p47:EntryPOk Try.prog 47 valF:=by
 refine⟨⟨_,Try.func47,by kernel_rfl,by kernel_rfl⟩,fun us p v h hp=>?_⟩
 unfold valF at h
 split at h<;>cases h
 refine tri_evS (hyp (l:=[]) (lp:=[]) trivial trivial) Try.func47 comp47 (rs:=[.tmp 2]) (by rfl) Try.ntmps47 10 ?_
 simp -implicitDefEqProofs only[push_cast,zz,seval,ir47,valF]
 rfl
theorem p120:EntryPOk Try.prog 120 nvalF:=by
 refine⟨⟨_,Try.func120,by kernel_rfl,by kernel_rfl⟩,fun us p v h hp=>?_⟩
 unfold nvalF at h
 split at h<;>cases h
 refine tri_evS (hyp (l:=[]) (lp:=[(121,valF)]) trivial ⟨p121,trivial⟩) Try.func120 comp120 (rs:=[.tmp 2]) (by rfl) Try.ntmps120 10 ?_
 simp -implicitDefEqProofs only[push_cast,zz,seval,ir120,nvalF]
def ir93:IR:=
 .seq (r_ [o_ 4 (.mov (.k (.bool false)))] [4]) (.seq (r_ [m_ 5 0,h_ 6 5,m_ 7 1,b_ 8 .eql 6 7,m_ 9 8,p_ 9 (m_ 10 0),p_ 9 (o_ 11 (.call (some 4) 10 62 [.t 10,.k (.fn 120 [])])),p_ 9 (o_ 12 (.not (.t 11))),K_ 13 9 12,m_ 4 13] [0,1,5,6,7,8,9,10,11,12,13]) (.ret))
set_option maxRecDepth 4000 in
theorem comp93:(Try.f93.body.bind fun c=>compC tab isP chkAll ir93 c)=some ir93:=by kernel_rfl
def ir50:IR:=
 .seq (r_ [o_ 1 (.box 10 (.t 0)),o_ 2 (.mov (.k (.bool false)))] [0,2]) (.seq (r_ [f_ 4 1 0,l_ 5 4,f_ 6 1 1,l_ 7 6,o_ 8 (.bin 1 .mul (.t 5) (.t 7)),m_ 3 8] [4,5,6,7,8]) (.seq (r_ [f_ 9 1 0,l_ 10 9,f_ 11 1 1,l_ 12 11,o_ 13 (.callp 92 [.t 10,.t 12]),m_ 14 13,p_ 14 (f_ 15 1 2),p_ 14 (l_ 16 15),p_ 14 (m_ 17 3),p_ 14 (o_ 18 (.call (some 4) 11 93 [.t 16,.t 17])),K_ 19 14 18,m_ 20 19,p_ 20 (f_ 21 1 3),p_ 20 (l_ 22 21),p_ 20 (m_ 23 3),p_ 20 (o_ 24 (.call (some 4) 15 93 [.t 22,.t 23])),K_ 25 20 24,m_ 26 25,p_ 26 (f_ 27 1 4),p_ 26 (l_ 28 27),p_ 26 (m_ 29 3),p_ 26 (o_ 30 (.call (some 4) 19 93 [.t 28,.t 29])),K_ 31 26 30,m_ 2 31] [1,3,9,10,11,12,13,14,15,16,17,18,19,20,21,22,23,24,25,26,27,28,29,30,31]) (.ret)))
set_option maxRecDepth 4000 in
theorem comp50:(Try.f50.body.bind fun c=>compC tab isP chkAll ir50 c)=some ir50:=by kernel_rfl
def rowM (a:RowA):Mem:=[some (.ro,a.L,.ints .i64 a.xs)]
attribute [push_cast] rowM
def firstBad (xs:List Int):Int:=if (xs.findIdx fun n=>decide (¬ ValOk n))<xs.length then (xs.findIdx fun n=>decide (¬ ValOk n))else -1
theorem firstBad_at {xs:List Int} {i:Nat} (h:i<xs.length) (hb:¬ ValOk (rd xs i)) (hj:∀ j,j<i->ValOk (rd xs (j:Nat))):firstBad xs=i:=by
 have:(xs.findIdx fun n=>decide (¬ ValOk n))=i:=by
  rw[List.findIdx_eq h]
  refine⟨by rw[rd_lt xs i h]at hb;simpa using hb,fun j hji=>?_⟩
  have:=hj j hji
  rw[rd_lt xs j (by omega)]at this
  simpa using this
 unfold firstBad
 rw[this,if_pos h]
theorem firstBad_no {xs:List Int} (hj:∀ j,j<xs.length->ValOk (rd xs (j:Nat))):firstBad xs=-1:=by
 unfold firstBad
 rw[if_neg]
 intro h
 have:=List.findIdx_getElem (w:=h)
 have h2:=hj _ h
 rw[rd_lt xs _ h]at h2
 simp only[decide_eq_true_eq]at this
 exact this h2
theorem firstBad_iff (xs:List Int):0<=firstBad xs↔¬ AllVal xs:=by
 unfold firstBad AllVal
 have h:=List.findIdx_lt_length (xs:=xs) (p:=fun n=>decide (¬ ValOk n))
 by_cases hh:(xs.findIdx fun n=>decide (¬ ValOk n))<xs.length
 ·rw[if_pos hh]
  obtain⟨x,hx,hb⟩:=h.1 hh
  constructor
  ·intro _ H;simp[H x hx]at hb
  ·intro _;omega
 ·rw[if_neg hh]
  constructor
  ·intro h;omega
  ·intro H
   exfalso
   apply hh
   apply h.2
   simp only[Classical.not_forall]at H
   obtain⟨x,hx,hb⟩:=H
   exact⟨x,hx,by simpa using hb⟩
def fs104:FS where
 A:=RowA
 args:=fun a=>[.sl 0 a.L 1 0 a.xs.length,.fn 120 []]
 mem:=rowM
 pre:=fun a=>a.xs.length<=140737488355328
 res:=fun a _=>.int .i64 (firstBad a.xs)
 out:=fun _ _=>[]
 new:=fun _ _=>[]
def inv104:List SV->Look->Option (RowA×List Nat)
 | [.sl c _ 1 0 _,.fn 120 []],look=>match rowI (look c)with
  | some (L,.i64,xs)=>some (⟨L,xs⟩,[c])
  | _=>none
 | _,_=>none
attribute [push_cast] inv104
def I104 (L:Xf.Loc) (xs:List Int) (i:Nat):List Ent×Mem:=([some (true,.sl 0 L 1 0 xs.length),some (true,.fn 120 []),none,none,none,none,none,some (true,.int .i64 xs.length),some (true,.int .i64 i),none,none,none,none,none,none,none,none,none,none],
  [some (.ro,L,.ints .i64 xs),none,none,none,none,none,none,none,none,none,none,none,none,none])
def lp104 (L:Xf.Loc) (xs:List Int):LoopS where
 A:=Nat
 I:=I104 L xs
 R:=fun i=>i<=xs.length/\∀ j,j<i->ValOk (rd xs (j:Nat))
 mu:=fun i=>xs.length-i
theorem ok104:FSOk Try.prog 104 fs104:=by
 refine⟨⟨_,Try.func104,by kernel_rfl,by kernel_rfl⟩,fun a=>⟨by simp[fs104,rowM,push_cast,noMine,argOwn,Chunk.frArg],by simp[fs104,rowM,push_cast,outOk,Chunk.ext],fun x=>.inl (by simp[fs104,rowM,push_cast,frNew,frOut,Chunk.fr])⟩,fun a hp=>?_⟩
 obtain⟨L,xs⟩:=a
 change xs.length<=140737488355328 at hp
 change Tri Try.prog 104 [.sl 0 L 1 0 xs.length,.fn 120 []] [some (.ro,L,.ints .i64 xs)] (postF fs104 ⟨L,xs⟩)
 refine tri_evS (hyp (l:=[(120,liftP nvalF)]) (lp:=[]) ⟨p120.lift,trivial⟩ trivial) Try.func104 comp104 (rs:=[.tmp 4]) (by rfl) Try.ntmps104 13 ?_
 simp -implicitDefEqProofs only[push_cast,zz,seval,ir104]
 refine evS_loop _ _ _ (lp104 L xs) (0:Nat) ⟨by omega,by omega⟩ (Sub.refl _ _) ?_
 intro (i:Nat) hi
 change evS _ _ _ _ (I104 L xs i).1 (I104 L xs i).2
 obtain⟨h1,h2⟩:i<=xs.length/\∀ j,j<i->ValOk (rd xs (j:Nat)):=hi
 simp -implicitDefEqProofs only[push_cast,zz,seval,I104,b104_1,r104_2]
 refine⟨fun h=>⟨by omega,h,by omega,h,fun hb=>?_,fun hb=>⟨by omega,by omega,?_⟩⟩,fun h=>?_⟩
 ·have e:=firstBad_at (by omega) hb h2
  exact postF.mk' (fun _=>default) [some 0] (by simp -implicitDefEqProofs only[push_cast,zz,seval,fs104,e])
 ·refine lpK_mk (i+1:Nat) ⟨by omega,?_⟩ (show xs.length-(i+1)<xs.length-i by omega) (Sub.refl _ _)
  intro j hj
  by_cases e:j=i
  ·subst e;exact hb
  ·exact h2 j (by omega)
 ·have e:=firstBad_no (xs:=xs) (fun j hj=>h2 j (by omega))
  exact postF.mk' (fun _=>default) [some 0] (by simp -implicitDefEqProofs only[push_cast,zz,seval,fs104,e])
def ent104:Entry:=spOf fs104 inv104
theorem e104:EntryOk Try.prog 104 ent104:=entry_of ok104 inv104
@[push_cast] theorem ent104_app (us:List SV) (look:Look) (x:Nat->Xf.Loc) (k:Nat):ent104 us look x k=spOf fs104 inv104 us look x k:=rfl
def fs62:FS:={ fs104 with res:=fun a _=>.bool (decide (¬ AllVal a.xs)) }
theorem ok62:FSOk Try.prog 62 fs62:=by
 refine⟨⟨_,Try.func62,by kernel_rfl,by kernel_rfl⟩,fun a=>⟨by simp[fs62,fs104,rowM,push_cast,noMine,argOwn,Chunk.frArg],by simp[fs62,fs104,rowM,push_cast,outOk,Chunk.ext],fun x=>.inl (by simp[fs62,fs104,rowM,push_cast,frNew,frOut,Chunk.fr])⟩,fun a hp=>?_⟩
 obtain⟨L,xs⟩:=a
 change xs.length<=140737488355328 at hp
 change Tri Try.prog 62 [.sl 0 L 1 0 xs.length,.fn 120 []] [some (.ro,L,.ints .i64 xs)] (postF fs62 ⟨L,xs⟩)
 refine tri_evS (hyp (l:=[(104,ent104)]) (lp:=[]) ⟨e104,trivial⟩ trivial) Try.func62 comp62 (rs:=[.tmp 4]) (by rfl) Try.ntmps62 13 ?_
 simp -implicitDefEqProofs only[push_cast,zz,seval,ir62,fs104]
 exact⟨hp,postF.mk' (fun _=>default) [some 0] (by simp -implicitDefEqProofs only[push_cast,zz,seval,fs62,fs104,firstBad_iff])⟩
def ent62:Entry:=spOf fs62 inv104
theorem e62:EntryOk Try.prog 62 ent62:=entry_of ok62 inv104
@[push_cast] theorem ent62_app (us:List SV) (look:Look) (x:Nat->Xf.Loc) (k:Nat):ent62 us look x k=spOf fs62 inv104 us look x k:=rfl
def fs93:FS where
 A:=RowN
 args:=fun a=>[.sl 0 a.L 1 0 a.xs.length,.int .i64 a.n]
 mem:=fun a=>[some (.ro,a.L,.ints .i64 a.xs)]
 pre:=fun a=>a.xs.length<=140737488355328
 res:=fun a _=>.bool (decide (a.xs.length=a.n/\AllVal a.xs))
 out:=fun _ _=>[]
 new:=fun _ _=>[]
def inv93:List SV->Look->Option (RowN×List Nat)
 | [.sl c _ 1 0 _,.int .i64 n],look=>match rowI (look c)with
  | some (L,.i64,xs)=>some (⟨L,xs,n⟩,[c])
  | _=>none
 | _,_=>none
attribute [push_cast] inv93
theorem ok93:FSOk Try.prog 93 fs93:=by
 refine⟨⟨_,Try.func93,by kernel_rfl,by kernel_rfl⟩,fun a=>⟨by simp[fs93,push_cast,noMine,argOwn,Chunk.frArg],by simp[fs93,push_cast,outOk,Chunk.ext],fun x=>.inl (by simp[fs93,push_cast,frNew,frOut,Chunk.fr])⟩,fun a hp=>?_⟩
 obtain⟨L,xs,n⟩:=a
 change xs.length<=140737488355328 at hp
 change Tri Try.prog 93 [.sl 0 L 1 0 xs.length,.int .i64 n] [some (.ro,L,.ints .i64 xs)] (postF fs93 ⟨L,xs,n⟩)
 refine tri_evS (hyp (l:=[(62,ent62)]) (lp:=[]) ⟨e62,trivial⟩ trivial) Try.func93 comp93 (rs:=[.tmp 4]) (by rfl) Try.ntmps93 14 ?_
 simp -implicitDefEqProofs only[push_cast,zz,seval,ir93,fs62,fs104,hp]
 exact postF.mk' (fun _=>default) [some 0] (by simp -implicitDefEqProofs only[push_cast,zz,seval,fs93])
def ent93:Entry:=spOf fs93 inv93
theorem e93:EntryOk Try.prog 93 ent93:=entry_of ok93 inv93
@[push_cast] theorem ent93_app (us:List SV) (look:Look) (x:Nat->Xf.Loc) (k:Nat):ent93 us look x k=spOf fs93 inv93 us look x k:=rfl
def imM (i:Im) (L1 L2 L3:Xf.Loc):Mem:=[some (.ro,L1,.ints .i64 i.R),some (.ro,L2,.ints .i64 i.G),some (.ro,L3,.ints .i64 i.B)]
def fs50:FS where
 A:=ImA
 args:=fun a=>[imV a.i a.L1 a.L2 a.L3 0]
 mem:=fun a=>imM a.i a.L1 a.L2 a.L3
 pre:=fun a=>a.i.small
 res:=fun a _=>.bool (decide a.i.Ok)
 out:=fun _ _=>[]
 new:=fun _ _=>[]
def inv50:List SV->Look->Option (ImA×List Nat)
 | [v],look=>getI look v
 | _,_=>none
attribute [push_cast] inv50 imM
theorem ok50:FSOk Try.prog 50 fs50:=by
 refine⟨⟨_,Try.func50,by kernel_rfl,by kernel_rfl⟩,fun a=>⟨by simp[fs50,imM,push_cast,noMine,argOwn,Chunk.frArg],by simp[fs50,imM,push_cast,outOk,Chunk.ext],fun x=>.inl (by simp[fs50,imM,push_cast,frNew,frOut,Chunk.fr])⟩,fun a hp=>?_⟩
 obtain⟨⟨w,h,R,G,B⟩,L1,L2,L3⟩:=a
 obtain⟨h1,h2,h3⟩:R.length<=140737488355328/\G.length<=140737488355328/\B.length<=140737488355328:=hp
 change Tri Try.prog 50 [imV ⟨w,h,R,G,B⟩ L1 L2 L3 0] (imM ⟨w,h,R,G,B⟩ L1 L2 L3) (postF fs50 ⟨⟨w,h,R,G,B⟩,L1,L2,L3⟩)
 refine tri_evS (hyp (l:=[(93,ent93)]) (lp:=[(92,sidesF)]) ⟨e93,trivial⟩ ⟨p92,trivial⟩) Try.func50 comp50 (rs:=[.tmp 2]) (by rfl) Try.ntmps50 30 ?_
 simp -implicitDefEqProofs only[push_cast,zz,seval,ir50,fs93,h1,h2,h3]
 intro X
 refine⟨fun h=>?_,fun h=>?_,postF.mk' (fun _=>default) [some 0,some 1,some 2] ?_⟩
 ·obtain⟨a,b,c⟩:=h;exact⟨a,b,c,a,b,c⟩
 ·obtain⟨a,b,c,d,e⟩:=h;exact⟨a,b,c,d,e,a,b,c,d,e⟩
 ·have e:(SidesOk w h/\R.length=IntKind.i64.wrap (w*h)/\AllVal R/\G.length=IntKind.i64.wrap (w*h)/\AllVal G/\B.length=IntKind.i64.wrap (w*h)/\AllVal B)↔(⟨w,h,R,G,B⟩:Im).Ok:=by
   unfold Im.Ok
   by_cases hs:SidesOk w h
   ·have:=hs.bd
    rw[inR_wrap (k:=.i64) ⟨by omega,by omega⟩]
    simp only[and_assoc]
   ·simp only[hs,false_and]
  simp -implicitDefEqProofs only[push_cast,zz,seval,fs50,e]
def ent50:Entry:=spOf fs50 inv50
theorem e50:EntryOk Try.prog 50 ent50:=entry_of ok50 inv50
@[push_cast] theorem ent50_app (us:List SV) (look:Look) (x:Nat->Xf.Loc) (k:Nat):ent50 us look x k=spOf fs50 inv50 us look x k:=rfl
def b14_1:IR:=
 .seq (.seq (r_ [m_ 35 4,m_ 36 3,b_ 37 .lss 35 36] [35,36]) (.cond (.t 37) (.skip) (.exit 0))) (.seq (.block 1 (.seq (r_ [f_ 40 1 2,l_ 41 40,m_ 42 4,i_ 43 41 42 1,L_ 44 43,o_ 45 (.callp 47 [.t 44]),o_ 46 (.not (.t 45)),m_ 47 46,q_ 47 (f_ 48 1 3),q_ 47 (l_ 49 48),q_ 47 (m_ 50 4),q_ 47 (i_ 51 49 50 1),q_ 47 (L_ 52 51),q_ 47 (o_ 53 (.callp 47 [.t 52])),q_ 47 (o_ 54 (.not (.t 53))),k_ 55 47 54,m_ 56 55,q_ 56 (f_ 57 1 4),q_ 56 (l_ 58 57),q_ 56 (m_ 59 4),q_ 56 (i_ 60 58 59 1),q_ 56 (L_ 61 60),q_ 56 (o_ 62 (.callp 47 [.t 61])),q_ 56 (o_ 63 (.not (.t 62))),k_ 64 56 63] [37,40,41,42,43,44,45,46,47,48,49,50,51,52,53,54,55,56,57,58,59,60,61,62,63]) (.cond (.t 64) (.seq (r_ [o_ 2 (.mov (.k (.bool false)))] [1,3,4,64]) (.ret)) (.skip)))) (r_ [m_ 38 4,a_ 39 38 1,m_ 4 39] [2,38,39,64]))
def r14_2:IR:=
 .seq (r_ [o_ 2 (.mov (.k (.bool true)))] [1,3,4]) (.ret)
def ir14:IR:=
 .seq (r_ [o_ 1 (.box 10 (.t 0)),o_ 2 (.mov (.k (.bool false)))] [0,2]) (.seq (.seq (r_ [f_ 5 1 0,l_ 6 5,f_ 7 1 1,l_ 8 7,o_ 9 (.callp 46 [.t 6,.t 8]),o_ 10 (.not (.t 9))] [5,6,7,8,9]) (.cond (.t 10) (.seq (r_ [o_ 2 (.mov (.k (.bool false)))] [1,10]) (.ret)) (.skip))) (.seq (r_ [f_ 11 1 0,l_ 12 11,f_ 13 1 1,l_ 14 13,b_ 15 .mul 12 14,m_ 3 15] [2,10,11,12,13,14,15]) (.seq (.seq (r_ [f_ 16 1 2,l_ 17 16,h_ 18 17,m_ 19 3,b_ 20 .neq 18 19,m_ 21 20,q_ 21 (f_ 22 1 3),q_ 21 (l_ 23 22),q_ 21 (h_ 24 23),q_ 21 (m_ 25 3),q_ 21 (b_ 26 .neq 24 25),k_ 27 21 26,m_ 28 27,q_ 28 (f_ 29 1 4),q_ 28 (l_ 30 29),q_ 28 (h_ 31 30),q_ 28 (m_ 32 3),q_ 28 (b_ 33 .neq 31 32),k_ 34 28 33] [16,17,18,19,20,21,22,23,24,25,26,27,28,29,30,31,32,33]) (.cond (.t 34) (.seq (r_ [o_ 2 (.mov (.k (.bool false)))] [1,3,34]) (.ret)) (.skip))) (.seq (.seq (r_ [z_ 4 0] [2,34]) (.block 0 (.loop b14_1))) (r14_2)))))
set_option maxRecDepth 4000 in
theorem comp14:(Try.f14.body.bind fun c=>compC tab isP chkAll ir14 c)=some ir14:=by kernel_rfl
def I14 (w h:Int) (R G B:List Int) (L1 L2 L3 L0:Xf.Loc) (i:Nat):List Ent×Mem:=
 (mkS 65 [(1,.ptr 10 L0 0 0 0),(3,.int .i64 (w*h)),(4,.int .i64 i)],
  mkM 17 [(0,.ro,L1,.ints .i64 R),(1,.ro,L2,.ints .i64 G),(2,.ro,L3,.ints .i64 B),(10,.mine,L0,.cells [.int .i64 w,.int .i64 h,.sl 0 L1 1 0 R.length,.sl 1 L2 1 0 G.length,.sl 2 L3 1 0 B.length])])
def lp14 (w h:Int) (R G B:List Int) (L1 L2 L3 L0:Xf.Loc):LoopS where
 A:=Nat
 I:=I14 w h R G B L1 L2 L3 L0
 R:=fun i=>i<=(w*h).toNat/\∀ j,j<i->ValOk (rd R (j:Nat))/\ValOk (rd G (j:Nat))/\ValOk (rd B (j:Nat))
 mu:=fun i=>(w*h).toNat-i
theorem ok14:FSOk Try.prog 14 fs50:=by
 refine⟨⟨_,Try.func14,by kernel_rfl,by kernel_rfl⟩,fun a=>⟨by simp[fs50,imM,push_cast,noMine,argOwn,Chunk.frArg],by simp[fs50,imM,push_cast,outOk,Chunk.ext],fun x=>.inl (by simp[fs50,imM,push_cast,frNew,frOut,Chunk.fr])⟩,fun a hp=>?_⟩
 obtain⟨⟨w,h,R,G,B⟩,L1,L2,L3⟩:=a
 change Tri Try.prog 14 [imV ⟨w,h,R,G,B⟩ L1 L2 L3 0] (imM ⟨w,h,R,G,B⟩ L1 L2 L3) (postF fs50 ⟨⟨w,h,R,G,B⟩,L1,L2,L3⟩)
 refine tri_evS (hyp (l:=[]) (lp:=[(46,sidesF),(47,valF)]) trivial ⟨p46,p47,trivial⟩) Try.func14 comp14 (rs:=[.tmp 2]) (by rfl) Try.ntmps14 14 ?_
 simp -implicitDefEqProofs only[push_cast,zz,seval,ir14]
 intro X
 have fin:∀ p:Prop,[Decidable p]->(p↔(⟨w,h,R,G,B⟩:Im).Ok)->decide p=decide (⟨w,h,R,G,B⟩:Im).Ok:=fun p _ e=>decide_eq_decide.2 e
 refine⟨fun hn=>?_,fun hs=>?_⟩
 ·have e:¬ (⟨w,h,R,G,B⟩:Im).Ok:=fun H=>hn H.1
  refine postF.mk' (fun _=>default) [some 0,some 1,some 2] ?_
  simp -implicitDefEqProofs only[push_cast,zz,seval,fs50,e,decide_false]
 ·have hm:=hs.bd
  refine⟨by omega,by omega,fun hn=>?_,fun hy=>?_⟩
  ·have e:¬ (⟨w,h,R,G,B⟩:Im).Ok:=fun H=>by
    obtain⟨_,⟨a,_⟩,⟨b,_⟩,⟨c,_⟩⟩:=H
    simp only at a b c
    omega
   refine postF.mk' (fun _=>default) [some 0,some 1,some 2] ?_
   simp -implicitDefEqProofs only[push_cast,zz,seval,fs50,e,decide_false]
  ·obtain⟨a,b,c⟩:R.length=w*h/\G.length=w*h/\B.length=w*h:=by omega
   refine evS_loop _ _ _ (lp14 w h R G B L1 L2 L3 (X 0 10)) (0:Nat) ⟨Nat.zero_le _,fun j hj=>absurd hj (Nat.not_lt_zero _)⟩ ?_ ?_
   ·change Sub _ _ (I14 w h R G B L1 L2 L3 (X 0 10) 0).1 (I14 w h R G B L1 L2 L3 (X 0 10) 0).2
    simp -implicitDefEqProofs only[push_cast,zz,seval,I14]
    exact Sub.refl _ _
   ·intro (i:Nat) ⟨(hi:i<=(w*h).toNat),(hj:∀ j,j<i->ValOk (rd R (j:Nat))/\ValOk (rd G (j:Nat))/\ValOk (rd B (j:Nat)))⟩
    change evS _ _ _ _ (I14 w h R G B L1 L2 L3 (X 0 10) i).1 (I14 w h R G B L1 L2 L3 (X 0 10) i).2
    simp -implicitDefEqProofs only[push_cast,zz,seval,I14,b14_1,r14_2]
    refine⟨fun hl=>⟨by omega,by omega,by omega,by omega,fun h=>⟨h,h,by omega,by omega⟩,fun h=>⟨h,by omega,by omega⟩,fun h=>⟨h,h,by omega,by omega⟩,fun h=>⟨h,by omega,by omega⟩,fun hb=>?_,fun hg=>⟨by omega,by omega,?_⟩⟩,fun hl=>?_⟩
    ·have e:¬ (⟨w,h,R,G,B⟩:Im).Ok:=fun H=>by
      obtain⟨_,⟨_,x⟩,⟨_,y⟩,⟨_,z⟩⟩:=H
      rcases hb with (hb | hb) | hb
      ·exact hb (allVal_rd.1 x i (show i<R.length by omega))
      ·exact hb (allVal_rd.1 y i (show i<G.length by omega))
      ·exact hb (allVal_rd.1 z i (show i<B.length by omega))
     refine postF.mk' (fun _=>default) [some 0,some 1,some 2] ?_
     simp -implicitDefEqProofs only[push_cast,zz,seval,fs50,e,decide_false]
    ·refine lpK_mk (i+1:Nat) ⟨by omega,fun j h=>?_⟩ (show(w*h).toNat-(i+1)<(w*h).toNat-i by omega) ?_
     ·by_cases e:j=i
      ·subst e;simp only[not_or,Classical.not_not]at hg;exact⟨hg.1.1,hg.1.2,hg.2⟩
      ·exact hj j (by omega)
     ·change Sub _ _ (I14 w h R G B L1 L2 L3 (X 0 10) (i+1)).1 (I14 w h R G B L1 L2 L3 (X 0 10) (i+1)).2
      simp -implicitDefEqProofs only[push_cast,zz,seval,I14]
      exact Sub.refl _ _
    ·have e:(⟨w,h,R,G,B⟩:Im).Ok:=⟨hs,⟨a,allVal_rd.2 fun j h=>(hj j (by simp only at h;omega)).1⟩,⟨b,allVal_rd.2 fun j h=>(hj j (by simp only at h;omega)).2.1⟩,⟨c,allVal_rd.2 fun j h=>(hj j (by simp only at h;omega)).2.2⟩⟩
     refine postF.mk' (fun _=>default) [some 0,some 1,some 2] ?_
     simp -implicitDefEqProofs only[push_cast,zz,seval,fs50,e,decide_true]
def ent14:Entry:=spOf fs50 inv50
theorem e14:EntryOk Try.prog 14 ent14:=entry_of ok14 inv50
@[push_cast] theorem ent14_app (us:List SV) (look:Look) (x:Nat->Xf.Loc) (k:Nat):ent14 us look x k=spOf fs50 inv50 us look x k:=rfl
def ir51:IR:=
 .seq (r_ [o_ 4 (.alloc 10 [y_,y_,nilSV])] []) (.seq (r_ [m_ 5 0,m_ 6 1,m_ 7 0,m_ 8 1,b_ 9 .mul 7 8,o_ 10 (.mks 11 (.int .i64 0) 8 (.t 9) (.t 9)),o_ 11 (.build [y_,y_,nilSV] [(0,1,.t 5),(1,1,.t 6),(2,1,.t 10)]),s_ 3 .i64 4 11] [0,1,5,6,7,8,9,10,11]) (.ret))
set_option maxRecDepth 4000 in
theorem comp51:(Try.f51.body.bind fun c=>compC tab isP chkAll ir51 c)=some ir51:=by kernel_rfl
def b16_1:IR:=
 .seq (r_ [b_ 32 .lss 31 30] []) (.seq (.cond (.t 32) (.skip) (.exit 0)) (.seq (.block 1 (.seq (r_ [m_ 33 31,m_ 6 33] [32,33]) (.seq (R_ [f_ 34 2 2,l_ 35 34,m_ 36 6,f_ 37 1 2,l_ 38 37,m_ 39 6,i_ 40 38 39 1,L_ 41 40,f_ 42 1 3,l_ 43 42,m_ 44 6,i_ 45 43 44 1,L_ 46 45,o_ 47 (.bin 0 .mul (Z_ 2) (.t 46)),b_ 48 .add 41 47,f_ 49 1 4,l_ 50 49,m_ 51 6,i_ 52 50 51 1,L_ 53 52,b_ 54 .add 48 53,c_ 55 .quo 54 4,i_ 56 35 36 1,S_ 1 .i64 56 55] [34,35,36,37,38,39,40,41,42,43,44,45,46,47,48,49,50,51,52,53,54,55,56]) (.seq (R_ [f_ 57 3 2,l_ 58 57,m_ 59 6,f_ 60 1 4,l_ 61 60,m_ 62 6,i_ 63 61 62 1,L_ 64 63,f_ 65 1 3,l_ 66 65,m_ 67 6,i_ 68 66 67 1,L_ 69 68,b_ 70 .sub 64 69,i_ 71 58 59 1,S_ 1 .i64 71 70] [57,58,59,60,61,62,63,64,65,66,67,68,69,70,71]) (R_ [f_ 72 4 2,l_ 73 72,m_ 74 6,f_ 75 1 2,l_ 76 75,m_ 77 6,i_ 78 76 77 1,L_ 79 78,f_ 80 1 3,l_ 81 80,m_ 82 6,i_ 83 81 82 1,L_ 84 83,b_ 85 .sub 79 84,i_ 86 73 74 1,S_ 1 .i64 86 85] [6,72,73,74,75,76,77,78,79,80,81,82,83,84,85,86]))))) (r_ [a_ 87 31 1,m_ 31 87] [87])))
def r16_2:IR:=
 .seq (R_ [o_ 88 (.ld false (some 3) 0 0 (.t 2)),⟨some 89,none,⟨[11],[]⟩,.ld false (some 3) 0 0 (.t 3)⟩,⟨some 90,none,⟨[11,12],[]⟩,.ld false (some 3) 0 0 (.t 4)⟩,⟨none,none,⟨[],[11]⟩,.sto false 3 .i64 (.t 2) (.t 88)⟩,⟨none,none,⟨[],[12]⟩,.sto false 3 .i64 (.t 3) (.t 89)⟩,s_ 3 .i64 4 90,z_ 5 0] [1,30,31,88,89,90]) (.ret)
def ir16:IR:=
 .seq (r_ [o_ 1 (.box 10 (.t 0)),o_ 2 (.alloc 11 [y_,y_,nilSV]),o_ 3 (.alloc 12 [y_,y_,nilSV]),o_ 4 (.alloc 13 [y_,y_,nilSV]),z_ 5 0] [0,5]) (.seq (.seq (r_ [o_ 7 (.ld false (some 5) 0 0 (.t 1)),o_ 8 (.call (some 4) 14 50 [.t 7]),o_ 9 (.not (.t 8))] [7,8]) (.cond (.t 9) (.seq (R_ [o_ 10 (.ld false (some 3) 0 0 (.t 2)),⟨some 11,none,⟨[11],[]⟩,.ld false (some 3) 0 0 (.t 3)⟩,⟨some 12,none,⟨[11,12],[]⟩,.ld false (some 3) 0 0 (.t 4)⟩,⟨none,none,⟨[],[11]⟩,.sto false 3 .i64 (.t 2) (.t 10)⟩,⟨none,none,⟨[],[12]⟩,.sto false 3 .i64 (.t 3) (.t 11)⟩,s_ 3 .i64 4 12,z_ 5 75] [1,9,10,11,12]) (.ret)) (.skip))) (.seq (R_ [f_ 13 1 0,l_ 14 13,f_ 15 1 1,l_ 16 15,o_ 17 (.call (some 4) 18 51 [.t 14,.t 16]),f_ 18 1 0,⟨some 19,none,⟨[18,19,20,21],[]⟩,.ld false none 0 0 (.t 18)⟩,f_ 20 1 1,⟨some 21,none,⟨[18,19,20,21],[]⟩,.ld false none 0 0 (.t 20)⟩,o_ 22 (.call (some 4) 22 51 [.t 19,.t 21]),f_ 23 1 0,⟨some 24,none,⟨[18,19,20,21,22,23,24,25],[]⟩,.ld false none 0 0 (.t 23)⟩,f_ 25 1 1,⟨some 26,none,⟨[18,19,20,21,22,23,24,25],[]⟩,.ld false none 0 0 (.t 25)⟩,o_ 27 (.call (some 4) 26 51 [.t 24,.t 26]),s_ 3 .i64 2 17,s_ 3 .i64 3 22,s_ 3 .i64 4 27] [5,9,13,14,15,16,17,18,19,20,21,22,23,24,25,26,27]) (.seq (.seq (r_ [f_ 28 1 2,l_ 29 28,h_ 30 29,z_ 31 0] [28,29]) (.block 0 (.loop b16_1))) (r16_2))))
set_option maxRecDepth 4000 in
theorem comp16:(Try.f16.body.bind fun c=>compC tab isP chkAll ir16 c)=some ir16:=by kernel_rfl
def fs51:FS where
 A:=WH
 args:=fun a=>[.int .i64 a.w,.int .i64 a.h]
 mem:=fun _=>[]
 pre:=fun a=>SidesOk a.w a.h
 res:=fun a x=>.agg [.int .i64 a.w,.int .i64 a.h,.sl 0 (x 0) 1 0 (a.w*a.h)]
 out:=fun _ _=>[]
 new:=fun a x=>[(x 0,.ints .i64 (zs (a.w*a.h)))]
theorem ok51:FSOk Try.prog 51 fs51:=by
 refine⟨⟨_,Try.func51,by kernel_rfl,by kernel_rfl⟩,fun a=>⟨by simp[fs51,push_cast,noMine,argOwn,Chunk.frArg],by simp[fs51,push_cast,outOk,Chunk.ext],fun x=>.inl (by simp[fs51,push_cast,frNew,frOut,Chunk.fr])⟩,fun a hp=>?_⟩
 obtain⟨w,h⟩:=a
 change SidesOk w h at hp
 change Tri Try.prog 51 [.int .i64 w,.int .i64 h] [] (postF fs51 ⟨w,h⟩)
 refine tri_evS (hyp (l:=[]) (lp:=[]) trivial trivial) Try.func51 comp51 (rs:=[.cell 4 (some 3)]) (by rfl) Try.ntmps51 14 ?_
 simp -implicitDefEqProofs only[push_cast,zz,seval,ir51]
 have hm:=hp.bd
 intro X X1
 refine⟨by omega,by omega,by omega,by omega,by omega,postF.mk' (locs [X1 5 11]) [some 11] ?_⟩
 simp -implicitDefEqProofs only[push_cast,zz,seval,fs51,zs]
def ent51:Entry:=spOf fs51 inv52
theorem e51:EntryOk Try.prog 51 ent51:=entry_of ok51 inv52
@[push_cast] theorem ent51_app (us:List SV) (look:Look) (x:Nat->Xf.Loc) (k:Nat):ent51 us look x k=spOf fs51 inv52 us look x k:=rfl
def tY (i:Im):Nat->Int:=fun k=>(rd i.R (k:Nat)+2*rd i.G (k:Nat)+rd i.B (k:Nat)) / 4
def tU (i:Im):Nat->Int:=fun k=>rd i.B (k:Nat)-rd i.G (k:Nat)
def tV (i:Im):Nat->Int:=fun k=>rd i.R (k:Nat)-rd i.G (k:Nat)
def turn (f:Im->Nat->Int) (i:Im):Pl:=if i.Ok then ⟨i.w,i.h,tabl i.R.length (f i)⟩else pl0
def fs16:FS where
 A:=ImA
 args:=fun a=>[imV a.i a.L1 a.L2 a.L3 0]
 mem:=fun a=>imM a.i a.L1 a.L2 a.L3
 pre:=fun a=>a.i.small
 res:=fun a x=>.tup [plV (turn tY a.i) (lx a.i.Ok x 0) 3,plV (turn tU a.i) (lx a.i.Ok x 1) 4,plV (turn tV a.i) (lx a.i.Ok x 2) 5,.int .i64 (if a.i.Ok then 0 else 75)]
 out:=fun _ _=>[]
 new:=fun a x=>[(lx a.i.Ok x 0,.ints .i64 (turn tY a.i).xs),(lx a.i.Ok x 1,.ints .i64 (turn tU a.i).xs),(lx a.i.Ok x 2,.ints .i64 (turn tV a.i).xs)]
def I16 (i:Im) (L1 L2 L3 L0 M1 M2 M3 N1 N2 N3:Xf.Loc) (k:Nat):List Ent×Mem:=
 (mkS 91 [(1,.ptr 10 L0 0 0 0),(2,.ptr 11 M1 0 0 0),(3,.ptr 12 M2 0 0 0),(4,.ptr 13 M3 0 0 0),(30,.int .i64 i.R.length),(31,.int .i64 k)],
  mkM 35 [(0,.ro,L1,.ints .i64 i.R),(1,.ro,L2,.ints .i64 i.G),(2,.ro,L3,.ints .i64 i.B),(10,.mine,L0,.cells [.int .i64 i.w,.int .i64 i.h,.sl 0 L1 1 0 i.R.length,.sl 1 L2 1 0 i.G.length,.sl 2 L3 1 0 i.B.length]),
   (11,.mine,M1,.cells [.int .i64 i.w,.int .i64 i.h,.sl 18 N1 1 0 (i.w*i.h)]),(12,.mine,M2,.cells [.int .i64 i.w,.int .i64 i.h,.sl 22 N2 1 0 (i.w*i.h)]),(13,.mine,M3,.cells [.int .i64 i.w,.int .i64 i.h,.sl 26 N3 1 0 (i.w*i.h)]),
   (18,.mine,N1,.ints .i64 (prt i.R.length k (tY i))),(22,.mine,N2,.ints .i64 (prt i.R.length k (tU i))),(26,.mine,N3,.ints .i64 (prt i.R.length k (tV i)))])
def lp16 (i:Im) (L1 L2 L3 L0 M1 M2 M3 N1 N2 N3:Xf.Loc):LoopS where
 A:=Nat
 I:=I16 i L1 L2 L3 L0 M1 M2 M3 N1 N2 N3
 R:=fun k=>k<=i.R.length
 mu:=fun k=>i.R.length-k
theorem ok16:FSOk Try.prog 16 fs16:=by
 refine⟨⟨_,Try.func16,by kernel_rfl,by kernel_rfl⟩,fun a=>⟨by simp[fs16,imM,push_cast,noMine,argOwn,Chunk.frArg],by simp[fs16,imM,push_cast,outOk,Chunk.ext],fun x=>.inl (by simp[fs16,imM,push_cast,frNew,frOut,Chunk.fr])⟩,fun a hp=>?_⟩
 obtain⟨⟨w,h,R,G,B⟩,L1,L2,L3⟩:=a
 change (⟨w,h,R,G,B⟩:Im).small at hp
 change Tri Try.prog 16 [imV ⟨w,h,R,G,B⟩ L1 L2 L3 0] (imM ⟨w,h,R,G,B⟩ L1 L2 L3) (postF fs16 ⟨⟨w,h,R,G,B⟩,L1,L2,L3⟩)
 refine tri_evS (hyp (l:=[(50,ent50),(51,ent51)]) (lp:=[]) ⟨e50,e51,trivial⟩ trivial) Try.func16 comp16 (rs:=[.cell 2 (some 3),.cell 3 (some 3),.cell 4 (some 3),.tmp 5]) (by rfl) Try.ntmps16 32 ?_
 simp -implicitDefEqProofs only[push_cast,zz,seval,ir16,fs50,fs51]
 intro X
 refine⟨hp,fun hn=>?_,fun hy X1=>⟨hy.1,?_⟩⟩
 ·refine postF.mk' (fun _=>default) [some 0,some 1,some 2,none,none,none] ?_
  simp -implicitDefEqProofs only[push_cast,zz,seval,fs16,turn,hn,if_false,lx,pl0]
 have hs:SidesOk w h:=hy.1
 have hm:=hs.bd
 have hl:(R.length:Int)=w*h:=hy.2.1.1
 obtain⟨e1,e2,hv⟩:=hy.val
 simp only at e1 e2 hv
 refine evS_loop _ _ _ (lp16 ⟨w,h,R,G,B⟩ L1 L2 L3 (X 0 10) (X 1 11) (X 2 12) (X 3 13) (X1 4 18) (X1 9 22) (X1 14 26)) (0:Nat) (Nat.zero_le _) ?_ ?_
 ·refine Sub.of (mkG 35 [(0,0),(1,1),(2,2),(10,10),(11,11),(12,12),(13,13),(18,18),(22,22),(26,26)]) ?_
  have ez:(w*h).toNat=R.length:=by omega
  simp -implicitDefEqProofs only[push_cast,zz,seval,lp16,I16,zs,prt_zero,ez]
 intro (k:Nat) (hk:k<=R.length)
 change evS _ _ _ _ (I16 ⟨w,h,R,G,B⟩ L1 L2 L3 (X 0 10) (X 1 11) (X 2 12) (X 3 13) (X1 4 18) (X1 9 22) (X1 14 26) k).1 (I16 ⟨w,h,R,G,B⟩ L1 L2 L3 (X 0 10) (X 1 11) (X 2 12) (X 3 13) (X1 4 18) (X1 9 22) (X1 14 26) k).2
 simp -implicitDefEqProofs only[push_cast,zz,seval,I16,b16_1,r16_2]
 refine⟨fun hk1=>?_,fun hk1=>?_⟩
 ·have hk':k<R.length:=by omega
  obtain⟨v1,v2,v3⟩:=hv k hk'
  have lY:=prt_length hk (tY (⟨w,h,R,G,B⟩:Im))
  have lU:=prt_length hk (tU (⟨w,h,R,G,B⟩:Im))
  have lV:=prt_length hk (tV (⟨w,h,R,G,B⟩:Im))
  repeat (refine⟨by omega,?_⟩)
  refine lpK_mk (k+1:Nat) hk' (show R.length-(k+1)<R.length-k by omega) ?_
  have q1:(prt R.length k (tY (⟨w,h,R,G,B⟩:Im))).set k ((rd R k+2*rd G k+rd B k) / 4)=prt R.length (k+1) (tY (⟨w,h,R,G,B⟩:Im)):=prt_set hk' _
  have q2:(prt R.length k (tU (⟨w,h,R,G,B⟩:Im))).set k (rd B k-rd G k)=prt R.length (k+1) (tU (⟨w,h,R,G,B⟩:Im)):=prt_set hk' _
  have q3:(prt R.length k (tV (⟨w,h,R,G,B⟩:Im))).set k (rd R k-rd G k)=prt R.length (k+1) (tV (⟨w,h,R,G,B⟩:Im)):=prt_set hk' _
  refine Sub.of (mkG 35 [(0,0),(1,1),(2,2),(10,10),(11,11),(12,12),(13,13),(18,18),(22,22),(26,26)]) ?_
  simp -implicitDefEqProofs only[push_cast,zz,seval,lp16,I16,Int.toNat_natCast,q1,q2,q3]
 ·obtain rfl:k=R.length:=by omega
  refine postF.mk' (locs [X1 4 18,X1 9 22,X1 14 26]) [some 0,some 1,some 2,some 18,some 22,some 26] ?_
  simp -implicitDefEqProofs only[push_cast,zz,seval,fs16,turn,hy,if_true,lx,prt_all,tabl_length,hl]
def ent16:Entry:=spOf fs16 inv50
theorem e16:EntryOk Try.prog 16 ent16:=entry_of ok16 inv50
@[push_cast] theorem ent16_app (us:List SV) (look:Look) (x:Nat->Xf.Loc) (k:Nat):ent16 us look x k=spOf fs16 inv50 us look x k:=rfl
def b17_1:IR:=
 .seq (.seq (r_ [m_ 27 5,f_ 28 2 2,l_ 29 28,h_ 30 29,b_ 31 .lss 27 30] [27,28,29,30]) (.cond (.t 31) (.skip) (.exit 0))) (.seq (.block 1 (.seq (R_ [f_ 34 2 2,l_ 35 34,m_ 36 5,i_ 37 35 36 1,L_ 38 37,f_ 39 3 2,l_ 40 39,m_ 41 5,i_ 42 40 41 1,L_ 43 42,b_ 44 .neq 38 43] [31,34,35,36,37,38,39,40,41,42,43]) (.cond (.t 44) (.seq (r_ [o_ 4 (.mov (.k (.bool false)))] [2,3,5,44]) (.ret)) (.skip)))) (r_ [m_ 32 5,a_ 33 32 1,m_ 5 33] [4,32,33,44]))
def r17_2:IR:=
 .seq (r_ [o_ 4 (.mov (.k (.bool true)))] [2,3,5]) (.ret)
def ir17:IR:=
 .seq (r_ [o_ 2 (.box 10 (.t 0)),o_ 3 (.box 11 (.t 1)),o_ 4 (.mov (.k (.bool false)))] [0,1,4]) (.seq (.seq (r_ [f_ 6 2 0,l_ 7 6,f_ 8 3 0,l_ 9 8,b_ 10 .neq 7 9,m_ 11 10,q_ 11 (f_ 12 2 1),q_ 11 (l_ 13 12),q_ 11 (f_ 14 3 1),q_ 11 (l_ 15 14),q_ 11 (b_ 16 .neq 13 15),k_ 17 11 16,m_ 18 17,q_ 18 (f_ 19 2 2),q_ 18 (l_ 20 19),q_ 18 (h_ 21 20),q_ 18 (f_ 22 3 2),q_ 18 (l_ 23 22),q_ 18 (h_ 24 23),q_ 18 (b_ 25 .neq 21 24),k_ 26 18 25] [6,7,8,9,10,11,12,13,14,15,16,17,18,19,20,21,22,23,24,25]) (.cond (.t 26) (.seq (r_ [o_ 4 (.mov (.k (.bool false)))] [2,3,26]) (.ret)) (.skip))) (.seq (.seq (r_ [z_ 5 0] [4,26]) (.block 0 (.loop b17_1))) (r17_2)))
def kp17_1:List Nat:=[2,3,5]
def kl17_1:List Nat:=[]
attribute [push_cast] kp17_1 kl17_1
set_option maxRecDepth 4000 in
theorem comp17:(Try.f17.body.bind fun c=>compC tab isP chkAll ir17 c)=some ir17:=by kernel_rfl
def fs17:FS where
 A:=Pl2
 args:=fun a=>[plV a.a.p a.a.L 0,plV a.b.p a.b.L 1]
 mem:=fun a=>[some (.ro,a.a.L,.ints .i64 a.a.p.xs),some (.ro,a.b.L,.ints .i64 a.b.p.xs)]
 pre:=fun a=>a.a.p.xs.length<=140737488355328/\a.b.p.xs.length<=140737488355328
 res:=fun a _=>.bool (decide (a.a.p.Eq a.b.p))
 out:=fun _ _=>[]
 new:=fun _ _=>[]
def inv17:List SV->Look->Option (Pl2×List Nat)
 | [v,u],look=>match getP look v,getP look u with
  | some (a,g),some (b,g')=>some (⟨a,b⟩,g++g')
  | _,_=>none
 | _,_=>none
attribute [push_cast] inv17
theorem ok17:FSOk Try.prog 17 fs17:=by
 refine⟨⟨_,Try.func17,by kernel_rfl,by kernel_rfl⟩,fun a=>⟨by simp[fs17,push_cast,noMine,argOwn,Chunk.frArg],by simp[fs17,push_cast,outOk,Chunk.ext],fun x=>.inl (by simp[fs17,push_cast,frNew,frOut,Chunk.fr])⟩,fun a hp=>?_⟩
 obtain⟨⟨⟨w,h,xs⟩,L⟩,⟨⟨w',h',ys⟩,M⟩⟩:=a
 obtain⟨hp1,hp2⟩:xs.length<=140737488355328/\ys.length<=140737488355328:=hp
 change Tri Try.prog 17 [plV ⟨w,h,xs⟩ L 0,plV ⟨w',h',ys⟩ M 1] [some (.ro,L,.ints .i64 xs),some (.ro,M,.ints .i64 ys)] (postF fs17 ⟨⟨⟨w,h,xs⟩,L⟩,⟨⟨w',h',ys⟩,M⟩⟩)
 refine tri_evS (hyp (l:=[]) (lp:=[]) trivial trivial) Try.func17 comp17 (rs:=[.tmp 4]) (by rfl) Try.ntmps17 12 ?_
 simp -implicitDefEqProofs only[push_cast,zz,seval,ir17]
 refine fun X=>⟨fun hn=>?_,fun hy=>?_⟩
 ·have e:¬ (⟨w,h,xs⟩:Pl).Eq ⟨w',h',ys⟩:=fun H=>by
   obtain⟨a,b,c⟩:=H
   simp only at a b c
   subst a b c
   simp at hn
  refine postF.mk' (fun _=>default) [some 0,some 1] ?_
  simp -implicitDefEqProofs only[push_cast,zz,seval,fs17,e,decide_false]
 obtain⟨q1,q2,q3⟩:w=w'/\h=h'/\xs.length=ys.length:=by omega
 refine evS_loopU (A:=Nat) kp17_1 kl17_1 (fun i=>[(5,.int .i64 i)]) (fun _=>[])
  (fun i=>i<=xs.length/\∀ j,j<i->rd xs (j:Nat)=rd ys (j:Nat)) (fun i=>xs.length-i) 0 ⟨by omega,by omega⟩ (Sub.pt ?_) ?_
 ·simp -implicitDefEqProofs only[push_cast,zz,seval]
 intro i ⟨h1,h2⟩ K hK
 simp -implicitDefEqProofs only[push_cast,zz,seval,b17_1,r17_2]
 refine⟨fun hl=>⟨by omega,by omega,by omega,by omega,by omega,by omega,by omega,by omega,fun hb=>?_,fun hg=>⟨by omega,by omega,?_⟩⟩,fun hl=>?_⟩
 ·have e:¬ (⟨w,h,xs⟩:Pl).Eq ⟨w',h',ys⟩:=fun H=>by
   obtain⟨a,b,c⟩:=H
   simp only at a b c
   subst a b c
   simp at hb
  refine postF.mk' (fun _=>default) [some 0,some 1] ?_
  simp -implicitDefEqProofs only[push_cast,zz,seval,fs17,e,decide_false]
 ·refine hK (i+1) ⟨by omega,fun j hj=>?_⟩ (show xs.length-(i+1)<xs.length-i by omega) _ _ (Sub.pt ?_)
  ·by_cases e:j=i
   ·subst e;exact hg
   ·exact h2 j (by omega)
  ·simp -implicitDefEqProofs only[push_cast,zz,seval]
 ·have e:(⟨w,h,xs⟩:Pl).Eq ⟨w',h',ys⟩:=⟨q1,q2,eq_of_rd q3 fun(j:Nat) (hj:j<xs.length)=>h2 j (by omega)⟩
  refine postF.mk' (fun _=>default) [some 0,some 1] ?_
  simp -implicitDefEqProofs only[push_cast,zz,seval,fs17,e,decide_true]
def ent17:Entry:=spOf fs17 inv17
theorem e17:EntryOk Try.prog 17 ent17:=entry_of ok17 inv17
@[push_cast] theorem ent17_app (us:List SV) (look:Look) (x:Nat->Xf.Loc) (k:Nat):ent17 us look x k=spOf fs17 inv17 us look x k:=rfl
def ir23:IR:=
 .seq (r_ [o_ 2 (.mov (.k nilSV))] [2]) (.seq (.seq (r_ [m_ 3 0,o_ 4 (.binS .eql (.t 3) (.k nilSV))] [3]) (.cond (.t 4) (.seq (r_ [o_ 2 (.mov (.k nilSV))] [0,4]) (.ret)) (.skip))) (.seq (r_ [o_ 5 (.bslice 10 []),m_ 6 0,o_ 7 (.app 11 1 8 (.t 5) (.t 6)),m_ 2 7] [0,4,5,6,7]) (.ret)))
set_option maxRecDepth 4000 in
theorem comp23:(Try.f23.body.bind fun c=>compC tab isP chkAll ir23 c)=some ir23:=by kernel_rfl
theorem Tri.ofNil {P:Program} {f:FuncId} {args:List SV} {m:Mem} {post:SV->Mem->Prop} {c:Nat} {L:Xf.Loc} {s:Nat} {n:Int} (hm:SV.sl c L s 0 n∈args) (h:(L.nil=true->n=0)->Tri P f args m post):Tri P f args m post:=by
 intro w vs hd hw
 refine h ?_ w vs hd hw
 intro hn
 obtain⟨v,hv⟩:=Dens.mem hd hm
 simp only[Den]at hv
 obtain⟨h1,h2,h3,h4,_⟩:=hv
 have:=h4 hn
 omega
def fs23:FS where
 A:=RowA
 args:=fun a=>[.sl 0 a.L 1 0 a.xs.length]
 mem:=rowM
 pre:=fun a=>a.xs.length<=1000000000000
 res:=fun a x=>.sl 1 (x 0) 1 0 a.xs.length
 out:=fun _ _=>[]
 new:=fun a x=>[(x 0,.ints .i64 a.xs)]
def inv23:List SV->Look->Option (RowA×List Nat)
 | [.sl c _ 1 0 _],look=>match rowI (lkZ look (.ints .i64 []) c)with
  | some (L,.i64,xs)=>some (⟨L,xs⟩,[c])
  | _=>none
 | _,_=>none
attribute [push_cast] inv23
theorem ok23:FSOk Try.prog 23 fs23:=by
 refine⟨⟨_,Try.func23,by kernel_rfl,by kernel_rfl⟩,fun a=>⟨by simp[fs23,rowM,push_cast,noMine,argOwn,Chunk.frArg],by simp[fs23,rowM,push_cast,outOk,Chunk.ext],fun x=>.inl (by simp[fs23,rowM,push_cast,frNew,frOut,Chunk.fr])⟩,fun a hp=>?_⟩
 obtain⟨L,xs⟩:=a
 change xs.length<=1000000000000 at hp
 change Tri Try.prog 23 [.sl 0 L 1 0 xs.length] [some (.ro,L,.ints .i64 xs)] (postF fs23 ⟨L,xs⟩)
 refine Tri.ofNil (List.mem_singleton.2 rfl) fun hn=>?_
 cases hL:L.nil
 ·refine tri_evS (hyp (l:=[]) (lp:=[]) trivial trivial) Try.func23 comp23 (rs:=[.tmp 2]) (by rfl) Try.ntmps23 12 ?_
  simp -implicitDefEqProofs only[push_cast,zz,seval,ir23,hL]
  exact⟨rfl,fun X=>⟨by omega,postF.mk' (fun _=>X 2 11) [some 0,some 11] (by simp -implicitDefEqProofs only[push_cast,zz,seval,fs23])⟩⟩
 ·obtain rfl:xs=[]:=List.eq_nil_of_length_eq_zero (by have:=hn hL;omega)
  refine tri_evS (hyp (l:=[]) (lp:=[]) trivial trivial) Try.func23 comp23 (rs:=[.tmp 2]) (by rfl) Try.ntmps23 12 ?_
  simp -implicitDefEqProofs only[push_cast,zz,seval,ir23,hL]
  exact⟨rfl,postF.mk' (fun _=>nilLoc0) [some 0,none] (by simp -implicitDefEqProofs only[push_cast,zz,seval,fs23,List.length_nil])⟩
def ent23:Entry:=spOf fs23 inv23
theorem e23:EntryOk Try.prog 23 ent23:=entry_of ok23 inv23
@[push_cast] theorem ent23_app (us:List SV) (look:Look) (x:Nat->Xf.Loc) (k:Nat):ent23 us look x k=spOf fs23 inv23 us look x k:=rfl
theorem tabl_set {n i:Nat} (hi:i<n) (f:Nat->Int) (c:Int):(tabl n f).set i c=tabl n (fun j=>if j=i then c else f j):=by
 apply List.ext_getElem (by simp[tabl])
 intro j h1 h2
 simp only[tabl,List.getElem_set,List.getElem_map,List.getElem_range]
 by_cases e:j=i
 ·subst e;simp
 ·simp[e,Ne.symm e]
def ir61:IR:=
 .seq (r_ [o_ 2 (.mov (.k (.bool false)))] [2]) (.seq (r_ [m_ 3 0,c_ 4 .eql 3 0,m_ 5 4,q_ 5 (m_ 6 0),q_ 5 (c_ 7 .eql 6 1),k_ 8 5 7,m_ 2 8] [0,3,4,5,6,7,8]) (.ret))
set_option maxRecDepth 4000 in
theorem comp61:(Try.f61.body.bind fun c=>compC tab isP chkAll ir61 c)=some ir61:=by kernel_rfl
def ir63:IR:=
 .seq (r_ [o_ 3 (.mov (.k (.bool false)))] [3]) (.seq (r_ [m_ 4 0,l_ 5 1,o_ 6 (.neg 0 (.t 5)),b_ 7 .lss 4 6,m_ 8 7,q_ 8 (m_ 9 0),q_ 8 (l_ 10 1),q_ 8 (b_ 11 .gtr 9 10),k_ 12 8 11,m_ 3 12] [0,1,4,5,6,7,8,9,10,11,12]) (.ret))
set_option maxRecDepth 4000 in
theorem comp63:(Try.f63.body.bind fun c=>compC tab isP chkAll ir63 c)=some ir63:=by kernel_rfl
def ir22:IR:=
 .seq (r_ [o_ 3 (.box 10 (.t 1)),o_ 4 (.mov (.k (.bool false)))] [1,4]) (.seq (r_ [m_ 5 0,o_ 6 (.mkf 63 [.t 3]),o_ 7 (.call (some 4) 11 62 [.t 5,.t 6]),o_ 8 (.not (.t 7)),m_ 4 8] [0,3,5,6,7,8]) (.ret))
set_option maxRecDepth 4000 in
theorem comp22:(Try.f22.body.bind fun c=>compC tab isP chkAll ir22 c)=some ir22:=by kernel_rfl
def kindF:EntryP
 | [.int .i64 k]=>some (True,.bool (decide (k=0∨k=1)))
 | _=>none
attribute [push_cast] kindF
theorem p61:EntryPOk Try.prog 61 kindF:=by
 refine⟨⟨_,Try.func61,by kernel_rfl,by kernel_rfl⟩,fun us p v h hp=>?_⟩
 unfold kindF at h
 split at h<;>cases h
 refine tri_evS (hyp (l:=[]) (lp:=[]) trivial trivial) Try.func61 comp61 (rs:=[.tmp 2]) (by rfl) Try.ntmps61 10 ?_
 simp -implicitDefEqProofs only[push_cast,zz,seval,ir61,kindF]
def fs63:FS where
 A:=OutU
 args:=fun a=>[.int .i64 a.n,.ptr 0 a.L1 0 0 0]
 mem:=fun a=>[some (.ro,a.L1,.cells [.int .i64 a.m])]
 pre:=fun a=>0<=a.m/\a.m<=1099511627776
 res:=fun a _=>.bool (outB (-a.m) a.m a.n)
 out:=fun _ _=>[]
 new:=fun _ _=>[]
def inv63:List SV->Look->Option (OutU×List Nat)
 | [.int .i64 n,.ptr c1 _ 0 0 0],look=>match rowC (look c1)with
  | some (L1,[.int .i64 m])=>some (⟨L1,n,m⟩,[c1])
  | _=>none
 | _,_=>none
attribute [push_cast] inv63
theorem ok63:FSOk Try.prog 63 fs63:=by
 refine⟨⟨_,Try.func63,by kernel_rfl,by kernel_rfl⟩,fun a=>⟨by simp[fs63,push_cast,noMine,argOwn,Chunk.frArg],by simp[fs63,push_cast,outOk,Chunk.ext],fun x=>.inl (by simp[fs63,push_cast,frNew,frOut,Chunk.fr])⟩,fun a hp=>?_⟩
 obtain⟨L1,n,m⟩:=a
 obtain⟨h1,h2⟩:0<=m/\m<=1099511627776:=hp
 change Tri Try.prog 63 [.int .i64 n,.ptr 0 L1 0 0 0] [some (.ro,L1,.cells [.int .i64 m])] (postF fs63 ⟨L1,n,m⟩)
 refine tri_evS (hyp (l:=[]) (lp:=[]) trivial trivial) Try.func63 comp63 (rs:=[.tmp 3]) (by rfl) Try.ntmps63 10 ?_
 simp -implicitDefEqProofs only[push_cast,zz,seval,ir63]
 repeat refine om_ ?_
 refine postF.mk' (fun _=>default) [some 0] ?_
 simp -implicitDefEqProofs only[push_cast,zz,seval,fs63,outB]
def ent63:Entry:=spOf fs63 inv63
theorem e63:EntryOk Try.prog 63 ent63:=entry_of ok63 inv63
@[push_cast] theorem ent63_app (us:List SV) (look:Look) (x:Nat->Xf.Loc) (k:Nat):ent63 us look x k=spOf fs63 inv63 us look x k:=rfl
def fs104u:FS where
 A:=OutV
 args:=fun a=>[.sl 0 a.L 1 0 a.xs.length,.fn 63 [.ptr 1 a.L1 0 0 0]]
 mem:=fun a=>[some (.ro,a.L,.ints .i64 a.xs),some (.ro,a.L1,.cells [.int .i64 a.m])]
 pre:=fun a=>a.xs.length<=140737488355328/\0<=a.m/\a.m<=1099511627776
 res:=fun a _=>.int .i64 (firstB (outB (-a.m) a.m) a.xs)
 out:=fun _ _=>[]
 new:=fun _ _=>[]
def inv104u:List SV->Look->Option (OutV×List Nat)
 | [.sl c _ 1 0 _,.fn 63 [.ptr c1 _ 0 0 0]],look=>match rowI (lkZ look (.ints .i64 []) c),rowC (look c1)with
  | some (L,.i64,xs),some (L1,[.int .i64 m])=>some (⟨L,xs,L1,m⟩,[c,c1])
  | _,_=>none
 | _,_=>none
attribute [push_cast] inv104u
theorem ok104u:FSOk Try.prog 104 fs104u:=by
 refine⟨⟨_,Try.func104,by kernel_rfl,by kernel_rfl⟩,fun a=>⟨by simp[fs104u,push_cast,noMine,argOwn,Chunk.frArg],by simp[fs104u,push_cast,outOk,Chunk.ext],fun x=>.inl (by simp[fs104u,push_cast,frNew,frOut,Chunk.fr])⟩,fun a hp=>?_⟩
 obtain⟨L,xs,L1,m⟩:=a
 obtain⟨hp,hm1,hm2⟩:xs.length<=140737488355328/\0<=m/\m<=1099511627776:=hp
 change Tri Try.prog 104 [.sl 0 L 1 0 xs.length,.fn 63 [.ptr 1 L1 0 0 0]] [some (.ro,L,.ints .i64 xs),some (.ro,L1,.cells [.int .i64 m])] (postF fs104u ⟨L,xs,L1,m⟩)
 refine tri_evS (hyp (l:=[(63,ent63)]) (lp:=[]) ⟨e63,trivial⟩ trivial) Try.func104 comp104 (rs:=[.tmp 4]) (by rfl) Try.ntmps104 14 ?_
 simp -implicitDefEqProofs only[push_cast,zz,seval,ir104]
 refine evS_loopU (A:=Nat) kp104_1 kl104_1 (fun i=>[(8,.int .i64 i)]) (fun _=>[])
  (fun i=>i<=xs.length/\∀ j,j<i->outB (-m) m (rd xs (j:Nat))=false) (fun i=>xs.length-i) 0 ⟨by omega,by omega⟩ (Sub.pt ?_) ?_
 ·simp -implicitDefEqProofs only[push_cast,zz,seval]
 intro i ⟨h1,h2⟩ K hK
 simp -implicitDefEqProofs only[push_cast,zz,seval,b104_1,r104_2,fs63]
 refine⟨fun h=>?_,fun h=>?_⟩
 ·repeat refine om_ ?_
  refine⟨fun hb=>?_,fun hb=>⟨by omega,by omega,?_⟩⟩
  ·have e:=firstB_at (by omega) hb h2
   exact postF.mk' (fun _=>default) [some 0,some 1] (by simp -implicitDefEqProofs only[push_cast,zz,seval,fs104u,e])
  ·refine hK (i+1) ⟨by omega,?_⟩ (show xs.length-(i+1)<xs.length-i by omega) _ _ (Sub.pt ?_)
   ·intro j hj
    by_cases e:j=i
    ·subst e;exact hb
    ·exact h2 j (by omega)
   ·simp -implicitDefEqProofs only[push_cast,zz,seval]
 ·have e:=firstB_no (p:=outB (-m) m) (xs:=xs) (fun j hj=>h2 j (by omega))
  exact postF.mk' (fun _=>default) [some 0,some 1] (by simp -implicitDefEqProofs only[push_cast,zz,seval,fs104u,e])
def ent104u:Entry:=spOf fs104u inv104u
theorem e104u:EntryOk Try.prog 104 ent104u:=entry_of ok104u inv104u
@[push_cast] theorem ent104u_app (us:List SV) (look:Look) (x:Nat->Xf.Loc) (k:Nat):ent104u us look x k=spOf fs104u inv104u us look x k:=rfl
def fs62u:FS:={ fs104u with res:=fun a _=>.bool (decide (¬ AllIn (-a.m) a.m a.xs)) }
theorem ok62u:FSOk Try.prog 62 fs62u:=by
 refine⟨⟨_,Try.func62,by kernel_rfl,by kernel_rfl⟩,fun a=>⟨by simp[fs62u,fs104u,push_cast,noMine,argOwn,Chunk.frArg],by simp[fs62u,fs104u,push_cast,outOk,Chunk.ext],fun x=>.inl (by simp[fs62u,fs104u,push_cast,frNew,frOut,Chunk.fr])⟩,fun a hp=>?_⟩
 obtain⟨L,xs,L1,m⟩:=a
 change Tri Try.prog 62 [.sl 0 L 1 0 xs.length,.fn 63 [.ptr 1 L1 0 0 0]] [some (.ro,L,.ints .i64 xs),some (.ro,L1,.cells [.int .i64 m])] (postF fs62u ⟨L,xs,L1,m⟩)
 refine tri_evS (hyp (l:=[(104,ent104u)]) (lp:=[]) ⟨e104u,trivial⟩ trivial) Try.func62 comp62 (rs:=[.tmp 4]) (by rfl) Try.ntmps62 14 ?_
 obtain⟨h1,h2,h3⟩:=hp
 simp -implicitDefEqProofs only[push_cast,zz,seval,ir62,fs104u]
 exact⟨h1,h2,h3,postF.mk' (fun _=>default) [some 0,some 1] (by simp -implicitDefEqProofs only[push_cast,zz,seval,fs62u,fs104u,allIn_iff])⟩
def ent62u:Entry:=spOf fs62u inv104u
theorem e62u:EntryOk Try.prog 62 ent62u:=entry_of ok62u inv104u
@[push_cast] theorem ent62u_app (us:List SV) (look:Look) (x:Nat->Xf.Loc) (k:Nat):ent62u us look x k=spOf fs62u inv104u us look x k:=rfl
def fs22:FS where
 A:=RowM
 args:=fun a=>[.sl 0 a.L 1 0 a.xs.length,.int .i64 a.m]
 mem:=fun a=>[some (.ro,a.L,.ints .i64 a.xs)]
 pre:=fun a=>a.xs.length<=140737488355328/\0<=a.m/\a.m<=1099511627776
 res:=fun a _=>.bool (decide (AllIn (-a.m) a.m a.xs))
 out:=fun _ _=>[]
 new:=fun _ _=>[]
def inv22:List SV->Look->Option (RowM×List Nat)
 | [.sl c _ 1 0 _,.int .i64 m],look=>match rowI (lkZ look (.ints .i64 []) c)with
  | some (L,.i64,xs)=>some (⟨L,xs,m⟩,[c])
  | _=>none
 | _,_=>none
attribute [push_cast] inv22
theorem ok22:FSOk Try.prog 22 fs22:=by
 refine⟨⟨_,Try.func22,by kernel_rfl,by kernel_rfl⟩,fun a=>⟨by simp[fs22,push_cast,noMine,argOwn,Chunk.frArg],by simp[fs22,push_cast,outOk,Chunk.ext],fun x=>.inl (by simp[fs22,push_cast,frNew,frOut,Chunk.fr])⟩,fun a hp=>?_⟩
 obtain⟨L,xs,m⟩:=a
 obtain⟨h1,h2,h3⟩:xs.length<=140737488355328/\0<=m/\m<=1099511627776:=hp
 change Tri Try.prog 22 [.sl 0 L 1 0 xs.length,.int .i64 m] [some (.ro,L,.ints .i64 xs)] (postF fs22 ⟨L,xs,m⟩)
 refine tri_evS (hyp (l:=[(62,ent62u)]) (lp:=[]) ⟨e62u,trivial⟩ trivial) Try.func22 comp22 (rs:=[.tmp 4]) (by rfl) Try.ntmps22 14 ?_
 simp -implicitDefEqProofs only[push_cast,zz,seval,ir22,fs62u,fs104u,h1,h2,h3]
 exact fun X=>postF.mk' (fun _=>default) [some 0] (by simp -implicitDefEqProofs only[push_cast,zz,seval,fs22])
def ent22:Entry:=spOf fs22 inv22
theorem e22:EntryOk Try.prog 22 ent22:=entry_of ok22 inv22
@[push_cast] theorem ent22_app (us:List SV) (look:Look) (x:Nat->Xf.Loc) (k:Nat):ent22 us look x k=spOf fs22 inv22 us look x k:=rfl
def ir65:IR:=
 .seq (r_ [z_ 6 0] [6]) (.seq (.block 0 (.seq (r_ [m_ 8 1,h_ 9 8,c_ 10 .eql 9 0,m_ 11 10,q_ 11 (m_ 12 0),q_ 11 (c_ 13 .eql 12 1),q_ 11 (m_ 14 13),p_ 14 (m_ 15 2),p_ 14 (m_ 16 1),p_ 14 (h_ 17 16),p_ 14 (b_ 18 .geq 15 17),q_ 11 (K_ 19 14 18),k_ 20 11 19,m_ 7 20] [8,9,10,11,12,13,14,15,16,17,18,19,20]) (.cond (.t 7) (.seq (r_ [z_ 6 0] [0,1,2,7]) (.ret)) (.seq (r_ [m_ 22 0,c_ 23 .eql 22 1,m_ 21 23] [0,7,22,23]) (.cond (.t 21) (.seq (r_ [m_ 24 1,m_ 25 2,i_ 26 24 25 1,L_ 27 26,o_ 28 (.bin 0 .shr (.t 27) (.k (.int .u64 1))),m_ 6 28] [1,2,21,24,25,26,27,28]) (.ret)) (.skip)))))) (.seq (R_ [m_ 29 1,m_ 30 2,c_ 31 .sub 30 1,o_ 32 (.mx (.t 31) (Z_ 0)),i_ 33 29 32 1,L_ 34 33,m_ 35 1,m_ 36 2,m_ 37 1,h_ 38 37,c_ 39 .sub 38 1,o_ 40 (.mn (.t 36) (.t 39)),i_ 41 35 40 1,L_ 42 41,b_ 43 .add 34 42,a_ 44 43 2,o_ 45 (.bin 0 .shr (.t 44) (.k (.int .u64 2))),m_ 6 45] [1,2,21,29,30,31,32,33,34,35,36,37,38,39,40,41,42,43,44,45]) (.ret)))
set_option maxRecDepth 4000 in
theorem comp65:(Try.f65.body.bind fun c=>compC tab isP chkAll ir65 c)=some ir65:=by kernel_rfl
def b26_1:IR:=
 .seq (r_ [b_ 22 .lss 21 20] []) (.seq (.cond (.t 22) (.skip) (.exit 0)) (.seq (.block 1 (.seq (r_ [m_ 23 21,m_ 8 23] [22,23]) (.seq (R_ [m_ 24 7,m_ 25 8,m_ 26 1,m_ 27 8,o_ 28 (.bin 0 .mul (Z_ 2) (.t 27)),a_ 29 28 1,i_ 30 26 29 1,L_ 31 30,m_ 32 1,m_ 33 8,o_ 34 (.bin 0 .mul (Z_ 2) (.t 33)),i_ 35 32 34 1,L_ 36 35,b_ 37 .sub 31 36,i_ 38 24 25 1,S_ 1 .i64 38 37] [24,25,26,27,28,29,30,31,32,33,34,35,36,37,38]) (.seq (r_ [m_ 39 0,c_ 40 .eql 39 0] [39]) (.cond (.t 40) (.seq (r_ [m_ 41 1,m_ 42 8,o_ 43 (.bin 0 .mul (Z_ 2) (.t 42)),i_ 44 41 43 1,L_ 45 44,m_ 9 45] [40,41,42,43,44,45]) (.seq (.seq (r_ [m_ 46 8,o_ 47 (.bin 0 .mul (Z_ 2) (.t 46)),a_ 48 47 2,m_ 49 5,b_ 50 .lss 48 49] [46,47,48,49]) (.cond (.t 50) (r_ [m_ 51 1,m_ 52 8,o_ 53 (.bin 0 .mul (Z_ 2) (.t 52)),a_ 54 53 2,i_ 55 51 54 1,L_ 56 55,m_ 9 56] [50,51,52,53,54,55,56]) (.skip))) (R_ [m_ 57 7,m_ 58 8,m_ 59 1,m_ 60 8,o_ 61 (.bin 0 .mul (Z_ 2) (.t 60)),a_ 62 61 1,i_ 63 59 62 1,L_ 64 63,m_ 65 1,m_ 66 8,o_ 67 (.bin 0 .mul (Z_ 2) (.t 66)),i_ 68 65 67 1,L_ 69 68,m_ 70 9,b_ 71 .add 69 70,o_ 72 (.bin 0 .shr (.t 71) (.k (.int .u64 1))),b_ 73 .sub 64 72,i_ 74 57 58 1,S_ 1 .i64 74 73] [8,9,50,57,58,59,60,61,62,63,64,65,66,67,68,69,70,71,72,73,74]))) (.skip)))))) (r_ [a_ 75 21 1,m_ 21 75] [8,40,75])))
def b26_2:IR:=
 .seq (r_ [b_ 82 .lss 81 80] []) (.seq (.cond (.t 82) (.skip) (.exit 2)) (.seq (.block 3 (.seq (r_ [m_ 83 81,m_ 11 83] [82,83]) (R_ [m_ 84 10,m_ 85 1,m_ 86 11,o_ 87 (.bin 0 .mul (Z_ 2) (.t 86)),i_ 88 85 87 1,⟨some 89,none,⟨[12,13,14,15],[]⟩,.ld true none 0 0 (.t 88)⟩,m_ 90 0,m_ 91 7,m_ 92 11,o_ 93 (.call (some 4) 12 65 [.t 90,.t 91,.t 92]),b_ 94 .add 89 93,o_ 95 (.bslice 16 [.t 94]),o_ 96 (.app 17 1 8 (.t 84) (.t 95)),m_ 10 96] [11,84,85,86,87,88,89,90,91,92,93,94,95,96]))) (r_ [a_ 97 81 1,m_ 81 97] [97])))
def r26_3:IR:=
 .seq (r_ [m_ 98 10,m_ 99 7,o_ 100 (.app 18 1 8 (.t 98) (.t 99)),m_ 4 100] [0,1,7,10,80,81,98,99,100]) (.ret)
def r26_4:IR:=
 .seq (r_ [m_ 76 5,o_ 77 (.mks 11 (.int .i64 0) 8 (Z_ 0) (.t 76)),m_ 10 77] [20,21,76,77]) (.seq (.seq (r_ [m_ 78 5,m_ 79 6,b_ 80 .sub 78 79,z_ 81 0] [5,6,78,79]) (.block 2 (.loop b26_2))) (r26_3))
def ir26:IR:=
 .seq (r_ [o_ 4 (.mov (.k nilSV))] [4]) (.seq (r_ [m_ 12 1,h_ 13 12,m_ 14 1,h_ 15 14,c_ 16 .quo 15 2,m_ 5 13,m_ 6 16] [12,13,14,15,16]) (.seq (r_ [m_ 17 6,o_ 18 (.mks 10 (.int .i64 0) 8 (.t 17) (.t 17)),m_ 7 18] [17,18]) (.seq (.seq (r_ [m_ 19 7,h_ 20 19,z_ 21 0] [19]) (.block 0 (.loop b26_1))) (r26_4))))
def kp26_1:List Nat:=[0,1,5,6,7,20,21]
def kl26_1:List Nat:=[]
attribute [push_cast] kp26_1 kl26_1
def kp26_2:List Nat:=[0,1,7,10,80,81]
def kl26_2:List Nat:=[12,13,14,15,16,17]
attribute [push_cast] kp26_2 kl26_2
set_option maxRecDepth 4000 in
theorem comp26:(Try.f26.body.bind fun c=>compC tab isP chkAll ir26 c)=some ir26:=by kernel_rfl
def liftG (kind:Int) (g:Int->Int) (n i:Int):Int:=
 if n=0∨kind=1/\n<=i then 0 else if kind=1 then g i / 2 else (g (max (i-1) 0)+g (min i (n-1))+2) / 4
def fs65:FS where
 A:=LiftA
 args:=fun a=>[.int .i64 a.kind,.sl 0 a.L 1 a.lo a.n,.int .i64 a.i]
 mem:=fun a=>[some (.ro,a.L,.ints .i64 a.xs)]
 pre:=fun a=>a.xs.length<=140737488355328/\0<=a.lo/\0<=a.n/\a.lo+a.n<=a.xs.length/\0<=a.i/\a.i<=a.n/\AllIn (-4503599627370496) 4503599627370496 a.xs
 res:=fun a _=>.int .i64 (liftG a.kind (fun j=>rd a.xs (a.lo+j)) a.n a.i)
 out:=fun _ _=>[]
 new:=fun _ _=>[]
def inv65:List SV->Look->Option (LiftA×List Nat)
 | [.int .i64 k,.sl c _ 1 lo n,.int .i64 i],look=>match rowI (lkZ look (.ints .i64 []) c)with
  | some (L,.i64,xs)=>some (⟨k,L,xs,lo,n,i⟩,[c])
  | _=>none
 | _,_=>none
attribute [push_cast] inv65
theorem ok65:FSOk Try.prog 65 fs65:=by
 refine⟨⟨_,Try.func65,by kernel_rfl,by kernel_rfl⟩,fun a=>⟨by simp[fs65,push_cast,noMine,argOwn,Chunk.frArg],by simp[fs65,push_cast,outOk,Chunk.ext],fun x=>.inl (by simp[fs65,push_cast,frNew,frOut,Chunk.fr])⟩,fun a hp=>?_⟩
 obtain⟨kind,L,xs,lo,n,i⟩:=a
 obtain⟨h1,h2,h3,h4,h5,h6,h7⟩:xs.length<=140737488355328/\0<=lo/\0<=n/\lo+n<=xs.length/\0<=i/\i<=n/\AllIn (-4503599627370496) 4503599627370496 xs:=hp
 change Tri Try.prog 65 [.int .i64 kind,.sl 0 L 1 lo n,.int .i64 i] [some (.ro,L,.ints .i64 xs)] (postF fs65 ⟨kind,L,xs,lo,n,i⟩)
 have b1:=rd_bd h7 (by omega) (by omega) (lo+i)
 have b2:=rd_bd h7 (by omega) (by omega) (lo+max (i-1) 0)
 have b3:=rd_bd h7 (by omega) (by omega) (lo+min i (n-1))
 refine tri_evS (hyp (l:=[]) (lp:=[]) trivial trivial) Try.func65 comp65 (rs:=[.tmp 6]) (by rfl) Try.ntmps65 10 ?_
 simp -implicitDefEqProofs only[push_cast,zz,seval,ir65]
 have e1:(2:Int)^1=2:=rfl
 have e2:(2:Int)^2=4:=rfl
 refine⟨fun H=>⟨H.1,H.2,H⟩,fun H=>⟨H,fun q=>⟨H,q⟩⟩,fun h=>?_,fun h=>⟨fun hk=>?_,fun hk=>?_⟩⟩
 ·refine postF.mk' (fun _=>default) [some 0] ?_
  simp -implicitDefEqProofs only[push_cast,zz,seval,fs65,liftG,h,if_true]
 ·repeat refine om_ ?_
  refine postF.mk' (fun _=>default) [some 0] ?_
  simp -implicitDefEqProofs only[push_cast,zz,seval,fs65,liftG,h,if_false,hk,if_true,e1]
  rw[if_neg (by omega)]
 ·repeat refine om_ ?_
  refine postF.mk' (fun _=>default) [some 0] ?_
  simp -implicitDefEqProofs only[push_cast,zz,seval,fs65,e2]
  unfold liftG
  rw[if_neg h,if_neg hk]
def ent65:Entry:=spOf fs65 inv65
theorem e65:EntryOk Try.prog 65 ent65:=entry_of ok65 inv65
@[push_cast] theorem ent65_app (us:List SV) (look:Look) (x:Nat->Xf.Loc) (k:Nat):ent65 us look x k=spOf fs65 inv65 us look x k:=rfl
def nxt (n:Int) (f:Int->Int) (i:Int):Int:=if 2*i+2<n then f (2*i+2)else f (2*i)
def hiF (kind:Int) (n:Nat) (f:Int->Int) (i:Nat):Int:=if kind=1 then f (2*i+1)-f (2*i)else f (2*i+1)-(f (2*i)+nxt n f i) / 2
def hiL (kind:Int) (n:Nat) (f:Int->Int):List Int:=tabl (n / 2) (hiF kind n f)
def loF (kind:Int) (n:Nat) (f:Int->Int) (i:Nat):Int:=f (2*i)+liftG kind (fun j=>rd (hiL kind n f) j) (n / 2:Nat) i
def lineL (kind:Int) (n:Nat) (f:Int->Int):List Int:=tabl (n-n / 2) (loF kind n f)++hiL kind n f
theorem lineL_length (kind:Int) (n:Nat) (f:Int->Int):(lineL kind n f).length=n:=by simp[lineL,hiL,tabl_length];omega
theorem hiF_bd {kind:Int} {n:Nat} {f:Int->Int} {B:Int} (h:BdF B f) (i:Nat):-(2*B)<=hiF kind n f i/\hiF kind n f i<=2*B:=by
 have h1:=h (2*i)
 have h2:=h (2*i+1)
 have h3:=h (2*i+2)
 unfold hiF nxt
 split
 ·omega
 ·split<;>omega
theorem hiL_bd {kind:Int} {n:Nat} {f:Int->Int} {B:Int} (h:BdF B f):AllIn (-(2*B)) (2*B) (hiL kind n f):=by
 rw[allIn_rd]
 intro j hj
 unfold hiL at hj ⊢
 rw[tabl_length]at hj
 rw[rd_tabl hj]
 exact hiF_bd h j
theorem liftG_bd {kind:Int} {g:Int->Int} {B:Int} (h:BdF B g) (h0:0<=B) (n i:Int):-(B+1)<=liftG kind g n i/\liftG kind g n i<=B+1:=by
 have h1:=h i
 have h2:=h (max (i-1) 0)
 have h3:=h (min i (n-1))
 unfold liftG
 split
 ·omega
 ·split<;>omega
theorem BdF.rd0 {xs:List Int} {B:Int} (h:AllIn (-B) B xs) (h0:0<=B):BdF B (fun j=>Xf.rd xs j):=fun j=>rd_bd h (by omega) h0 _
def fs26:FS where
 A:=LineA
 args:=fun a=>[.int .i64 a.kind,.sl 0 a.L 1 a.lo a.n]
 mem:=fun a=>[some (.ro,a.L,.ints .i64 a.xs)]
 pre:=fun a=>(a.kind=0∨a.kind=1)/\a.xs.length<=140737488355328/\0<=a.lo/\a.lo+a.n<=a.xs.length/\a.n<=1000000/\AllIn (-1073741824) 1073741824 a.xs
 res:=fun a x=>.sl 1 (x 0) 1 0 a.n
 out:=fun _ _=>[]
 new:=fun a x=>[(x 0,.ints .i64 (lineL a.kind a.n (fun j=>rd a.xs (a.lo+j))))]
def inv26:List SV->Look->Option (LineA×List Nat)
 | [.int .i64 k,.sl c _ 1 lo n],look=>match rowI (lkZ look (.ints .i64 []) c)with
  | some (L,.i64,xs)=>some (⟨k,L,xs,lo,n.toNat⟩,[c])
  | _=>none
 | _,_=>none
attribute [push_cast] inv26
theorem ok26:FSOk Try.prog 26 fs26:=by
 refine⟨⟨_,Try.func26,by kernel_rfl,by kernel_rfl⟩,fun a=>⟨by simp[fs26,push_cast,noMine,argOwn,Chunk.frArg],by simp[fs26,push_cast,outOk,Chunk.ext],fun x=>.inl (by simp[fs26,push_cast,frNew,frOut,Chunk.fr])⟩,fun a hp=>?_⟩
 obtain⟨kind,L,xs,lo,n⟩:=a
 obtain⟨hk,h1,h2,h3,h4,h5⟩:(kind=0∨kind=1)/\xs.length<=140737488355328/\0<=lo/\lo+n<=xs.length/\n<=1000000/\AllIn (-1073741824) 1073741824 xs:=hp
 change Tri Try.prog 26 [.int .i64 kind,.sl 0 L 1 lo n] [some (.ro,L,.ints .i64 xs)] (postF fs26 ⟨kind,L,xs,lo,n⟩)
 obtain⟨f,hf⟩:∃ f:Int->Int,(fun j=>rd xs (lo+j))=f:=⟨_,rfl⟩
 have hfj:∀ j,rd xs (lo+j)=f j:=fun j=>by rw[<-hf]
 have hB:BdF 1073741824 f:=by rw[<-hf];exact BdF.rd h5 (by omega) lo
 obtain⟨m,hm⟩:∃ m,n / 2=m:=⟨_,rfl⟩
 have en:((n:Int) / 2)=(m:Int):=by omega
 refine tri_evS (hyp (l:=[(65,ent65)]) (lp:=[]) ⟨e65,trivial⟩ trivial) Try.func26 comp26 (rs:=[.tmp 4]) (by rfl) Try.ntmps26 19 ?_
 simp -implicitDefEqProofs only[push_cast,zz,seval,ir26]
 rw[en]
 repeat refine om_ ?_
 intro X
 repeat refine om_ ?_
 have ez:(m:Int).toNat=m:=Int.toNat_natCast _
 refine evS_loopU (A:=Nat) kp26_1 kl26_1 (fun i=>[(21,.int .i64 i)]) (fun i=>[(10,.mine,X 1 10,.ints .i64 (prt m i (hiF kind n f)))]) (fun i=>i<=m) (fun i=>m-i) 0 (by omega) (Sub.pt ?_) ?_
 ·simp -implicitDefEqProofs only[push_cast,zz,seval,prt_zero,ez]
 intro i (hi:i<=m) K hK
 simp -implicitDefEqProofs only[push_cast,zz,seval,b26_1,r26_4]
 refine⟨fun hl=>?_,fun hl=>?_⟩
 ·have hi':i<m:=by omega
  have lP:=prt_length hi (hiF kind n f)
  have q:(prt m i (hiF kind n f)).set i (hiF kind n f i)=prt m (i+1) (hiF kind n f):=prt_set hi' _
  have b0:=hB (2*i)
  have b1:=hB (2*i+1)
  have b2:=hB (2*i+2)
  have e2:(2:Int)^1=2:=rfl
  simp only[hfj,List.length_set,e2]
  repeat refine om_ ?_
  refine⟨fun hk0=>?_,fun hk0=>?_⟩
  ·repeat refine om_ ?_
   refine⟨fun hr=>?_,fun hr=>?_⟩
   ·repeat refine om_ ?_
    refine hK (i+1) (by omega) (by omega) _ _ (Sub.pt ?_)
    have e:f (2*i+1)-(f (2*i)+f (2*i+2)) / 2=hiF kind n f i:=by simp[hiF,nxt,hk0,hr]
    simp -implicitDefEqProofs only[push_cast,zz,seval,Int.toNat_natCast,List.set_set,e,q]
   ·repeat refine om_ ?_
    refine hK (i+1) (by omega) (by omega) _ _ (Sub.pt ?_)
    have e:f (2*i+1)-(f (2*i)+f (2*i)) / 2=hiF kind n f i:=by simp[hiF,nxt,hk0,hr]
    simp -implicitDefEqProofs only[push_cast,zz,seval,Int.toNat_natCast,List.set_set,e,q]
  ·repeat refine om_ ?_
   refine hK (i+1) (by omega) (by omega) _ _ (Sub.pt ?_)
   have e:f (2*i+1)-f (2*i)=hiF kind n f i:=by simp[hiF,hk.resolve_left hk0]
   simp -implicitDefEqProofs only[push_cast,zz,seval,Int.toNat_natCast,e,q]
 ·obtain rfl:i=m:=by omega
  rw[prt_all]
  have hh:tabl i (hiF kind n f)=hiL kind n f:=by unfold hiL;rw[hm]
  rw[hh]
  have hHB:=hiL_bd (kind:=kind) (n:=n) hB
  have hHl:(hiL kind n f).length=i:=by unfold hiL;rw[tabl_length,hm]
  have hAl:AllIn (-4503599627370496) 4503599627370496 (hiL kind n f):=fun q hq=>by have:=hHB q hq;omega
  have hLB:=fun j=>liftG_bd (kind:=kind) (BdF.rd0 (B:=2147483648) (fun q hq=>by have:=hHB q hq;omega:AllIn (-2147483648) 2147483648 (hiL kind n f)) (by omega)) (by omega) i j
  intro X1
  repeat refine om_ ?_
  refine evS_loopU (A:=Nat×Xf.Loc) kp26_2 (11::kl26_2) (fun y=>[(10,.sl 17 y.2 1 0 y.1),(81,.int .i64 y.1)]) (fun y=>[(17,.mine,y.2,.ints .i64 (tabl y.1 (loF kind n f)))]) (fun y=>y.1<=n-i) (fun y=>n-i-y.1) (0,X1 1 11) (Nat.zero_le _) (Sub.of (mkG 20 [(0,0),(10,10),(17,11)]) ?_) ?_
  ·simp -implicitDefEqProofs only[push_cast,zz,seval,tabl_zero]
  intro ⟨j,N⟩ (hj:j<=n-i) K hK
  simp -implicitDefEqProofs only[push_cast,zz,seval,b26_2,r26_3,fs65]
  refine⟨fun hl=>?_,fun hl=>?_⟩
  ·have b0:=hB (2*j)
   have b3:=hLB j
   simp only[hfj,tabl_length,hHl]
   intro X2
   repeat refine om_ ?_
   refine hK (j+1,X2 12 17) (show j+1<=n-i by omega) (show n-i-(j+1)<n-i-j by omega) _ _ (Sub.pt ?_)
   have q:tabl j (loF kind n f)++[f (2*j)+liftG kind (fun j=>rd (hiL kind n f) j) i j]=tabl (j+1) (loF kind n f):=by
    rw[<-tabl_snoc];unfold loF;rw[hm]
   simp -implicitDefEqProofs only[push_cast,zz,seval,q]
  ·have hj2:j=n-i:=by omega
   have ee:((n-i:Nat):Int)=n-i:=by omega
   simp only[tabl_length,hHl]
   intro X2
   repeat refine om_ ?_
   refine postF.mk' (fun _=>X2 2 18) [some 0,some 18] ?_
   have q:tabl j (loF kind n f)++hiL kind n f=lineL kind n (fun j=>rd xs (lo+j)):=by
    rw[hf,hj2];unfold lineL;rw[hm]
   simp -implicitDefEqProofs only[push_cast,zz,seval,fs26,q]
   omega
def ent26:Entry:=spOf fs26 inv26
theorem e26:EntryOk Try.prog 26 ent26:=entry_of ok26 inv26
@[push_cast] theorem ent26_app (us:List SV) (look:Look) (x:Nat->Xf.Loc) (k:Nat):ent26 us look x k=spOf fs26 inv26 us look x k:=rfl
def b44_1:IR:=
 .seq (r_ [b_ 33 .lss 32 31] []) (.seq (.cond (.t 33) (.skip) (.exit 0)) (.seq (.block 1 (.seq (r_ [m_ 34 32,m_ 10 34] [33,34]) (R_ [m_ 35 9,m_ 36 10,o_ 37 (.bin 0 .mul (Z_ 2) (.t 36)),m_ 38 7,m_ 39 10,i_ 40 38 39 1,⟨some 41,none,⟨[11,12,13,14],[]⟩,.ld true none 0 0 (.t 40)⟩,m_ 42 0,m_ 43 8,m_ 44 10,o_ 45 (.call (some 4) 11 65 [.t 42,.t 43,.t 44]),b_ 46 .sub 41 45,i_ 47 35 37 1,S_ 1 .i64 47 46] [10,35,36,37,38,39,40,41,42,43,44,45,46,47]))) (r_ [a_ 48 32 1,m_ 32 48] [48])))
def b44_2:IR:=
 .seq (r_ [b_ 52 .lss 51 50] []) (.seq (.cond (.t 52) (.skip) (.exit 2)) (.seq (.block 3 (.seq (r_ [m_ 53 51,m_ 11 53] [52,53]) (.seq (R_ [m_ 54 9,m_ 55 11,o_ 56 (.bin 0 .mul (Z_ 2) (.t 55)),a_ 57 56 1,m_ 58 8,m_ 59 11,i_ 60 58 59 1,L_ 61 60,m_ 62 9,m_ 63 11,o_ 64 (.bin 0 .mul (Z_ 2) (.t 63)),i_ 65 62 64 1,L_ 66 65,b_ 67 .add 61 66,i_ 68 54 57 1,S_ 1 .i64 68 67] [54,55,56,57,58,59,60,61,62,63,64,65,66,67,68]) (.seq (r_ [m_ 69 0,c_ 70 .eql 69 0] [69]) (.cond (.t 70) (.seq (r_ [m_ 71 9,m_ 72 11,o_ 73 (.bin 0 .mul (Z_ 2) (.t 72)),i_ 74 71 73 1,L_ 75 74,m_ 12 75] [70,71,72,73,74,75]) (.seq (.seq (r_ [m_ 76 11,o_ 77 (.bin 0 .mul (Z_ 2) (.t 76)),a_ 78 77 2,m_ 79 5,b_ 80 .lss 78 79] [76,77,78,79]) (.cond (.t 80) (r_ [m_ 81 9,m_ 82 11,o_ 83 (.bin 0 .mul (Z_ 2) (.t 82)),a_ 84 83 2,i_ 85 81 84 1,L_ 86 85,m_ 12 86] [80,81,82,83,84,85,86]) (.skip))) (R_ [m_ 87 9,m_ 88 11,o_ 89 (.bin 0 .mul (Z_ 2) (.t 88)),a_ 90 89 1,m_ 91 8,m_ 92 11,i_ 93 91 92 1,L_ 94 93,m_ 95 9,m_ 96 11,o_ 97 (.bin 0 .mul (Z_ 2) (.t 96)),i_ 98 95 97 1,L_ 99 98,m_ 100 12,b_ 101 .add 99 100,o_ 102 (.bin 0 .shr (.t 101) (.k (.int .u64 1))),b_ 103 .add 94 102,i_ 104 87 90 1,S_ 1 .i64 104 103] [11,12,80,87,88,89,90,91,92,93,94,95,96,97,98,99,100,101,102,103,104]))) (.skip)))))) (r_ [a_ 105 51 1,m_ 51 105] [11,70,105])))
def r44_3:IR:=
 .seq (r_ [m_ 106 9,m_ 4 106] [0,5,8,9,50,51,106]) (.ret)
def r44_4:IR:=
 .seq (.seq (r_ [m_ 49 8,h_ 50 49,z_ 51 0] [7,31,32,49]) (.block 2 (.loop b44_2))) (r44_3)
def ir44:IR:=
 .seq (r_ [o_ 4 (.mov (.k nilSV))] [4]) (.seq (r_ [m_ 13 1,h_ 14 13,m_ 15 1,h_ 16 15,c_ 17 .quo 16 2,m_ 5 14,m_ 6 17] [13,14,15,16,17]) (.seq (R_ [m_ 18 1,m_ 19 5,m_ 20 6,b_ 21 .sub 19 20,o_ 22 (.slc (.t 18) 1 none (some (.t 21))),m_ 23 1,m_ 24 5,m_ 25 6,b_ 26 .sub 24 25,o_ 27 (.slc (.t 23) 1 (some (.t 26)) none),m_ 7 22,m_ 8 27] [1,6,18,19,20,21,22,23,24,25,26,27]) (.seq (r_ [m_ 28 5,o_ 29 (.mks 10 (.int .i64 0) 8 (.t 28) (.t 28)),m_ 9 29] [28,29]) (.seq (.seq (r_ [m_ 30 7,h_ 31 30,z_ 32 0] [30]) (.block 0 (.loop b44_1))) (r44_4)))))
def kp44_1:List Nat:=[0,5,7,8,9,31,32]
def kl44_1:List Nat:=[11,12,13,14]
attribute [push_cast] kp44_1 kl44_1
def kp44_2:List Nat:=[0,5,8,9,50,51]
def kl44_2:List Nat:=[]
attribute [push_cast] kp44_2 kl44_2
set_option maxRecDepth 4000 in
theorem comp44:(Try.f44.body.bind fun c=>compC tab isP chkAll ir44 c)=some ir44:=by kernel_rfl
def evF (kind:Int) (n:Nat) (f:Int->Int) (i:Nat):Int:=f i-liftG kind (fun j=>f ((n:Int)-(n / 2:Nat)+j)) (n / 2:Nat) i
def odF (kind:Int) (n:Nat) (f:Int->Int) (i:Nat):Int:=
 if kind=1 then f ((n:Int)-(n / 2:Nat)+i)+evF kind n f i else f ((n:Int)-(n / 2:Nat)+i)+(evF kind n f i+(if 2*i+2<n then evF kind n f (i+1)else evF kind n f i)) / 2
def unF1 (kind:Int) (n:Nat) (f:Int->Int) (i k:Nat):Int:=if k % 2=0/\k / 2<i then evF kind n f (k / 2)else 0
def unF2 (kind:Int) (n:Nat) (f:Int->Int) (i k:Nat):Int:=if k % 2=0 then evF kind n f (k / 2)else if k / 2<i then odF kind n f (k / 2)else 0
def unL (kind:Int) (n:Nat) (f:Int->Int):List Int:=tabl n (unF2 kind n f (n / 2))
theorem unL_length (kind:Int) (n:Nat) (f:Int->Int):(unL kind n f).length=n:=tabl_length _ _
theorem unF1_zero (kind:Int) (n:Nat) (f:Int->Int):tabl n (unF1 kind n f 0)=List.replicate n 0:=by
 refine eq_of_rd (by rw[tabl_length,List.length_replicate]) fun j hj=>?_
 rw[tabl_length]at hj
 rw[rd_tabl hj,rd_lt _ _ (by rw[List.length_replicate];exact hj)]
 simp[unF1]
theorem unF1_set {kind:Int} {n:Nat} {f:Int->Int} {i:Nat} (h:2*i<n):(tabl n (unF1 kind n f i)).set (2*i) (evF kind n f i)=tabl n (unF1 kind n f (i+1)):=by
 rw[tabl_set h]
 refine tabl_congr fun j hj=>?_
 unfold unF1
 by_cases e:j=2*i
 ·subst e;rw[if_pos rfl,if_pos (by omega),show 2*i / 2=i by omega]
 ·rw[if_neg e]
  by_cases h2:j % 2=0/\j / 2<i
  ·rw[if_pos h2,if_pos (by omega)]
  ·rw[if_neg h2,if_neg (by omega)]
theorem unF1_all (kind:Int) (n:Nat) (f:Int->Int):tabl n (unF1 kind n f (n-n / 2))=tabl n (unF2 kind n f 0):=by
 refine tabl_congr fun j hj=>?_
 unfold unF1 unF2
 by_cases h2:j % 2=0
 ·rw[if_pos (by omega),if_pos h2]
 ·rw[if_neg (by omega),if_neg h2,if_neg (by omega)]
theorem unF2_set {kind:Int} {n:Nat} {f:Int->Int} {i:Nat} (h:2*i+1<n):(tabl n (unF2 kind n f i)).set (2*i+1) (odF kind n f i)=tabl n (unF2 kind n f (i+1)):=by
 rw[tabl_set h]
 refine tabl_congr fun j hj=>?_
 unfold unF2
 by_cases e:j=2*i+1
 ·subst e;rw[if_pos rfl,if_neg (by omega),if_pos (by omega),show(2*i+1) / 2=i by omega]
 ·rw[if_neg e]
  by_cases h2:j % 2=0
  ·rw[if_pos h2,if_pos h2]
  ·rw[if_neg h2,if_neg h2]
   by_cases h3:j / 2<i
   ·rw[if_pos h3,if_pos (by omega)]
   ·rw[if_neg h3,if_neg (by omega)]
theorem unF2_rd {kind:Int} {n:Nat} {f:Int->Int} {i k:Nat} (h:2*k<n):rd (tabl n (unF2 kind n f i)) (2*(k:Int))=evF kind n f k:=by
 have:=rd_tabl (f:=unF2 kind n f i) h
 rw[show((2*k:Nat):Int)=2*(k:Int) by omega]at this
 rw[this];unfold unF2;rw[if_pos (by omega),show 2*k / 2=k by omega]
theorem rd_set_ne {xs:List Int} {i:Nat} {j:Int} (v:Int) (h:j.toNat≠i):rd (xs.set i v) j=rd xs j:=by
 unfold rd
 simp[List.getElem?_set,Ne.symm h]
theorem evF_bd {kind:Int} {n:Nat} {f:Int->Int} {B:Int} (h:BdF B f) (h0:0<=B) (i:Nat):-(2*B+1)<=evF kind n f i/\evF kind n f i<=2*B+1:=by
 have h1:=h i
 have h2:=liftG_bd (kind:=kind) (g:=fun j=>f ((n:Int)-(n / 2:Nat)+j)) (fun j=>h _) h0 (n / 2:Nat) i
 unfold evF
 omega
def fs44:FS where
 A:=LineA
 args:=fun a=>[.int .i64 a.kind,.sl 0 a.L 1 a.lo a.n]
 mem:=fun a=>[some (.ro,a.L,.ints .i64 a.xs)]
 pre:=fun a=>(a.kind=0∨a.kind=1)/\a.xs.length<=140737488355328/\0<=a.lo/\a.lo+a.n<=a.xs.length/\a.n<=1000000/\AllIn (-1125899906842624) 1125899906842624 a.xs
 res:=fun a x=>.sl 1 (x 0) 1 0 a.n
 out:=fun _ _=>[]
 new:=fun a x=>[(x 0,.ints .i64 (unL a.kind a.n (fun j=>rd a.xs (a.lo+j))))]
theorem ok44:FSOk Try.prog 44 fs44:=by
 refine⟨⟨_,Try.func44,by kernel_rfl,by kernel_rfl⟩,fun a=>⟨by simp[fs44,push_cast,noMine,argOwn,Chunk.frArg],by simp[fs44,push_cast,outOk,Chunk.ext],fun x=>.inl (by simp[fs44,push_cast,frNew,frOut,Chunk.fr])⟩,fun a hp=>?_⟩
 obtain⟨kind,L,xs,lo,n⟩:=a
 obtain⟨hk,h1,h2,h3,h4,h5⟩:(kind=0∨kind=1)/\xs.length<=140737488355328/\0<=lo/\lo+n<=xs.length/\n<=1000000/\AllIn (-1125899906842624) 1125899906842624 xs:=hp
 change Tri Try.prog 44 [.int .i64 kind,.sl 0 L 1 lo n] [some (.ro,L,.ints .i64 xs)] (postF fs44 ⟨kind,L,xs,lo,n⟩)
 have h52:AllIn (-4503599627370496) 4503599627370496 xs:=fun n hn=>by have:=h5 n hn;omega
 obtain⟨f,hf⟩:∃ f:Int->Int,(fun j=>rd xs (lo+j))=f:=⟨_,rfl⟩
 have hfj:∀ j,rd xs (lo+j)=f j:=fun j=>by rw[<-hf]
 have hB:BdF 1125899906842624 f:=by rw[<-hf];exact BdF.rd h5 (by omega) lo
 obtain⟨m,hm⟩:∃ m,n / 2=m:=⟨_,rfl⟩
 have en:((n:Int) / 2)=(m:Int):=by omega
 refine tri_evS (hyp (l:=[(65,ent65)]) (lp:=[]) ⟨e65,trivial⟩ trivial) Try.func44 comp44 (rs:=[.tmp 4]) (by rfl) Try.ntmps44 15 ?_
 simp -implicitDefEqProofs only[push_cast,zz,seval,ir44]
 rw[en]
 repeat refine om_ ?_
 have ed:(n:Int)-(n-m)=m:=by omega
 have hgj:∀ j,rd xs (lo+((n:Int)-m)+j)=f ((n:Int)-m+j):=fun j=>by rw[<-hf];simp only[Int.add_assoc]
 simp only[ed,Int.sub_zero]
 intro X
 repeat refine om_ ?_
 have hev:∀ i:Nat,f i-liftG kind (fun j=>f ((n:Int)-m+j)) m i=evF kind n f i:=fun i=>by unfold evF;rw[hm]
 have hbe:=fun i=>evF_bd (kind:=kind) (n:=n) hB (by omega) i
 have hLB:=fun i=>liftG_bd (kind:=kind) (g:=fun j=>f ((n:Int)-m+j)) (fun j=>hB _) (by omega) (m:Int) i
 refine evS_loopU (A:=Nat) kp44_1 kl44_1 (fun i=>[(32,.int .i64 i)]) (fun i=>[(10,.mine,X 1 10,.ints .i64 (tabl n (unF1 kind n f i)))]) (fun i=>i<=n-m) (fun i=>n-m-i) 0 (by omega) (Sub.pt ?_) ?_
 ·simp -implicitDefEqProofs only[push_cast,zz,seval,unF1_zero,Int.toNat_natCast]
 intro i (hi:i<=n-m) K hK
 simp -implicitDefEqProofs only[push_cast,zz,seval,b44_1,r44_4,fs65]
 refine⟨fun hl=>?_,fun hl=>?_⟩
 ·have hi':2*i<n:=by omega
  have b0:=hB i
  have b1:=hbe i
  have b2:=hLB i
  have et:(2*(i:Int)).toNat=2*i:=by omega
  have q:=unF1_set (kind:=kind) (f:=f) hi'
  simp only[hfj,hgj,tabl_length]
  repeat refine om_ ?_
  refine hK (i+1) (by omega) (by omega) _ _ (Sub.pt ?_)
  simp -implicitDefEqProofs only[push_cast,zz,seval,et,hev,q]
 ·obtain rfl:i=n-m:=by omega
  clear hK
  have q:=unF1_all kind n f
  rw[hm]at q
  rw[q]
  repeat refine om_ ?_
  refine evS_loopU (A:=Nat) kp44_2 kl44_2 (fun i=>[(51,.int .i64 i)]) (fun i=>[(10,.mine,X 1 10,.ints .i64 (tabl n (unF2 kind n f i)))]) (fun i=>i<=m) (fun i=>m-i) 0 (by omega) (Sub.pt ?_) ?_
  ·simp -implicitDefEqProofs only[push_cast,zz,seval]
  intro i (hi:i<=m) K hK
  simp -implicitDefEqProofs only[push_cast,zz,seval,b44_2,r44_3]
  refine⟨fun hl=>?_,fun hl=>?_⟩
  ·have hi':2*i+1<n:=by omega
   have b0:=hB ((n:Int)-m+i)
   have b1:=hbe i
   have b2:=hbe (i+1)
   have et:(2*(i:Int)+1).toNat=2*i+1:=by omega
   have q:=unF2_set (kind:=kind) (f:=f) hi'
   have r0:=unF2_rd (kind:=kind) (f:=f) (i:=i) (k:=i) (n:=n) (by omega)
   have r1:2*(i:Int)+2<n->rd (tabl n (unF2 kind n f i)) (2*(i:Int)+2)=evF kind n f (i+1):=fun hh=>by
    have:=unF2_rd (kind:=kind) (f:=f) (i:=i) (k:=i+1) (n:=n) (by omega)
    rwa [show 2*((i+1:Nat):Int)=2*(i:Int)+2 by omega]at this
   have w0:∀ v,rd ((tabl n (unF2 kind n f i)).set (2*i+1) v) (2*(i:Int))=evF kind n f i:=fun v=>by rw[rd_set_ne v (by omega),r0]
   have w1:2*(i:Int)+2<n->∀ v,rd ((tabl n (unF2 kind n f i)).set (2*i+1) v) (2*(i:Int)+2)=evF kind n f (i+1):=fun hh v=>by rw[rd_set_ne v (by omega),r1 hh]
   have e2:(2:Int)^1=2:=rfl
   simp only[hgj,tabl_length,et,r0,w0,e2,List.length_set,List.set_set]
   repeat refine om_ ?_
   refine⟨fun hk0=>?_,fun hk0=>?_⟩
   ·repeat refine om_ ?_
    refine⟨fun hr=>?_,fun hr=>?_⟩
    ·simp only[w1 hr]
     repeat refine om_ ?_
     refine hK (i+1) (by omega) (by omega) _ _ (Sub.pt ?_)
     have e:odF kind n f i=f ((n:Int)-m+i)+(evF kind n f i+evF kind n f (i+1)) / 2:=by
      unfold odF;rw[hm,if_neg (by omega),if_pos (by omega)]
     rw[e]at q
     simp -implicitDefEqProofs only[push_cast,zz,seval,q]
    ·repeat refine om_ ?_
     refine hK (i+1) (by omega) (by omega) _ _ (Sub.pt ?_)
     have e:odF kind n f i=f ((n:Int)-m+i)+(evF kind n f i+evF kind n f i) / 2:=by
      unfold odF;rw[hm,if_neg (by omega),if_neg (by omega)]
     rw[e]at q
     simp -implicitDefEqProofs only[push_cast,zz,seval,q]
   ·repeat refine om_ ?_
    refine hK (i+1) (by omega) (by omega) _ _ (Sub.pt ?_)
    have e:odF kind n f i=f ((n:Int)-m+i)+evF kind n f i:=by
     unfold odF;rw[hm,if_pos (by omega)]
    rw[e]at q
    simp -implicitDefEqProofs only[push_cast,zz,seval,q]
  ·obtain rfl:i=m:=by omega
   refine postF.mk' (fun _=>X 1 10) [some 0,some 10] ?_
   have q2:tabl n (unF2 kind n f i)=unL kind n (fun j=>rd xs (lo+j)):=by rw[hf];unfold unL;rw[hm]
   simp -implicitDefEqProofs only[push_cast,zz,seval,fs44,q2]
def ent44:Entry:=spOf fs44 inv26
theorem e44:EntryOk Try.prog 44 ent44:=entry_of ok44 inv26
@[push_cast] theorem ent44_app (us:List SV) (look:Look) (x:Nat->Xf.Loc) (k:Nat):ent44 us look x k=spOf fs44 inv26 us look x k:=rfl
theorem rd_app1 {xs ys:List Int} {i:Nat} (h:i<xs.length):rd (xs++ys) (i:Int)=rd xs (i:Int):=by
 rw[rd_lt _ _ (by rw[List.length_append];omega),rd_lt _ _ h,List.getElem_append_left h]
theorem rd_app2 {xs ys:List Int} {i:Nat} (h:i<ys.length):rd (xs++ys) ((xs.length+i:Nat):Int)=rd ys (i:Int):=by
 rw[rd_lt _ _ (by rw[List.length_append];omega),rd_lt _ _ h,List.getElem_append_right (by omega)]
 congr 1;omega
theorem rd_line_lo {kind:Int} {n:Nat} {f:Int->Int} {i:Nat} (h:i<n-n / 2):rd (lineL kind n f) (i:Int)=loF kind n f i:=by
 unfold lineL;rw[rd_app1 (by rw[tabl_length];exact h),rd_tabl h]
theorem rd_line_hi {kind:Int} {n:Nat} {f:Int->Int} {i:Nat} (h:i<n / 2):rd (lineL kind n f) ((n:Int)-(n / 2:Nat)+i)=hiF kind n f i:=by
 have e:(n:Int)-(n / 2:Nat)+i=(((tabl (n-n / 2) (loF kind n f)).length+i:Nat):Int):=by rw[tabl_length];omega
 unfold lineL
 rw[e,rd_app2 (by unfold hiL;rw[tabl_length];exact h)]
 unfold hiL;rw[rd_tabl h]
theorem liftG_congr {kind:Int} {g g':Int->Int} {m i:Int} (h:∀ j,0<=j->j<m->g j=g' j) (h0:0<=i) (h1:i<=m) (hm:0<=m):liftG kind g m i=liftG kind g' m i:=by
 unfold liftG
 by_cases c:m=0∨kind=1/\m<=i
 ·rw[if_pos c,if_pos c]
 ·rw[if_neg c,if_neg c]
  by_cases d:kind=1
  ·rw[if_pos d,if_pos d,h i h0 (by omega)]
  ·rw[if_neg d,if_neg d,h (max (i-1) 0) (by omega) (by omega),h (min i (m-1)) (by omega) (by omega)]
theorem ev_line {kind:Int} {n:Nat} {f:Int->Int} {i:Nat} (h:i<n-n / 2):evF kind n (fun j=>rd (lineL kind n f) j) i=f (2*i):=by
 unfold evF
 try simp only
 rw[rd_line_lo h,liftG_congr (g':=fun j=>rd (hiL kind n f) j) ?_ (by omega) (by omega) (by omega)]
 ·unfold loF;omega
 ·intro j h0 h1
  obtain⟨j,rfl⟩:∃ q:Nat,j=(q:Int):=⟨j.toNat,by omega⟩
  try simp only
  rw[rd_line_hi (by omega)]
  unfold hiL;rw[rd_tabl (by omega)]
theorem un_line {kind:Int} {n:Nat} {f:Int->Int} {k:Nat} (h:k<n):unF2 kind n (fun j=>rd (lineL kind n f) j) (n / 2) k=f k:=by
 unfold unF2
 by_cases e:k % 2=0
 ·rw[if_pos e,ev_line (by omega)]
  congr 1;omega
 ·rw[if_neg e,if_pos (by omega)]
  unfold odF
  try simp only
  rw[rd_line_hi (by omega),ev_line (by omega)]
  have ek:(k:Int)=2*((k / 2:Nat):Int)+1:=by omega
  unfold hiF nxt
  by_cases c:kind=1
  ·rw[if_pos c,if_pos c,ek]
   have:((k / 2:Nat):Int)=(k:Int) / 2:=by omega
   rw[<-ek];omega
  ·rw[if_neg c,if_neg c]
   by_cases d:2*(k / 2)+2<n
   ·rw[if_pos d,if_pos (by omega),ev_line (by omega),<-ek]
    rw[show 2*((k / 2+1:Nat):Int)=2*((k / 2:Nat):Int)+2 by omega]
    omega
   ·rw[if_neg d,if_neg (by omega),<-ek]
    omega
theorem line_bd {kind:Int} {n:Nat} {f:Int->Int} {B:Int} (h:BdF B f) (h0:0<=B):AllIn (-(3*B+1)) (3*B+1) (lineL kind n f):=by
 intro v hv
 unfold lineL at hv
 rcases List.mem_append.1 hv with hv | hv
 ·obtain⟨j,hj,rfl⟩:=List.mem_map.1 hv
  have h1:=h (2*j)
  have h2:=liftG_bd (kind:=kind) (BdF.rd0 (hiL_bd (kind:=kind) (n:=n) h) (by omega)) (by omega) ((n / 2:Nat):Int) j
  simp only[loF]
  omega
 ·have:=hiL_bd h v hv
  omega
def b64_1:IR:=
 .seq (r_ [b_ 19 .lss 18 17] []) (.seq (.cond (.t 19) (.skip) (.exit 0)) (.seq (.block 1 (.seq (r_ [m_ 20 18,m_ 11 20] [19,20]) (r_ [m_ 21 10,m_ 22 11,m_ 23 0,n_ 24 23,f_ 25 24 1,l_ 26 25,m_ 27 1,m_ 28 11,m_ 29 2,b_ 30 .mul 28 29,b_ 31 .add 27 30,i_ 32 26 31 1,L_ 33 32,i_ 34 21 22 1,S_ 1 .i64 34 33] [11,21,22,23,24,25,26,27,28,29,30,31,32,33,34]))) (r_ [a_ 35 18 1,m_ 18 35] [35])))
def b64_2:IR:=
 .seq (r_ [b_ 45 .lss 44 43] []) (.seq (.cond (.t 45) (.skip) (.exit 2)) (.seq (.block 3 (.seq (r_ [m_ 46 44,i_ 47 42 44 1,L_ 48 47,m_ 12 46,m_ 13 48] [45,46,47,48]) (r_ [m_ 49 0,n_ 50 49,f_ 51 50 1,l_ 52 51,m_ 53 1,m_ 54 12,m_ 55 2,b_ 56 .mul 54 55,b_ 57 .add 53 56,m_ 58 13,i_ 59 52 57 1,S_ 1 .i64 59 58] [12,13,49,50,51,52,53,54,55,56,57,58,59]))) (r_ [a_ 60 44 1,m_ 44 60] [60])))
def r64_3:IR:=
 .seq (r_ [m_ 36 4,m_ 37 0,n_ 38 37,f_ 39 38 2,l_ 40 39,m_ 41 10,o_ 42 (.callv (some 4) 11 (.t 36) [.t 40,.t 41]),h_ 43 42,z_ 44 0] [4,10,17,18,36,37,38,39,40,41]) (.block 2 (.loop b64_2))
def ir64:IR:=
 .seq (r_ [m_ 14 3,o_ 15 (.mks 10 (.int .i64 0) 8 (.t 14) (.t 14)),m_ 10 15] [3,14,15]) (.seq (.seq (r_ [m_ 16 10,h_ 17 16,z_ 18 0] [16]) (.block 0 (.loop b64_1))) (r64_3))
def kp64_1:List Nat:=[0,1,2,4,10,17,18]
def kl64_1:List Nat:=[]
attribute [push_cast] kp64_1 kl64_1
def kp64_2:List Nat:=[0,1,2,42,43,44]
def kl64_2:List Nat:=[]
attribute [push_cast] kp64_2 kl64_2
set_option maxRecDepth 4000 in
theorem comp64:(Try.f64.body.bind fun c=>compC tab isP chkAll ir64 c)=some ir64:=by kernel_rfl
def alS (res ws:List Int) (a b:Int):Nat->List Int
 | 0=>ws
 | i+1=>(alS res ws a b i).set (a+i*b).toNat (rd res i)
theorem alS_length (res ws:List Int) (a b:Int):∀ i,(alS res ws a b i).length=ws.length
 | 0=>rfl
 | i+1=>by simp only[alS,List.length_set,alS_length res ws a b i]
def alG (ws:List Int) (a b:Int):Nat->Int:=fun k=>rd ws (a+k*b)
theorem alG_in {ws:List Int} {a b:Int} {n:Nat} {B:Int} (h:AllIn (-B) B ws) (h0:0<=B):AllIn (-B) B (tabl n (alG ws a b)):=by
 rw[allIn_rd]
 intro j hj
 rw[tabl_length]at hj
 rw[rd_tabl hj]
 exact rd_bd h (by omega) h0 _
def fs64f:FS where
 A:=AlA
 args:=fun a=>[.ptr 0 a.F 0 0 0,.int .i64 a.a,.int .i64 a.b,.int .i64 a.n,.fn 26 []]
 mem:=fun a=>[some (.ro,a.F,.cells [.int .i64 a.w,.sl 1 a.LP 1 0 a.ws.length,.int .i64 a.kind]),some (.lent,a.LP,.ints .i64 a.ws)]
 pre:=fun a=>(a.kind=0∨a.kind=1)/\a.ws.length<=8192/\0<=a.a/\0<=a.b/\a.b<=200/\a.n<=200/\(∀ i:Nat,i<a.n->a.a+i*a.b<a.ws.length)/\AllIn (-1073741824) 1073741824 a.ws
 res:=fun a x=>.tup []
 out:=fun a _=>[none,some (some (.ints .i64 (alS (lineL a.kind a.n (fun j=>rd (tabl a.n (alG a.ws a.a a.b)) j)) a.ws a.a a.b a.n)))]
 new:=fun _ _=>[]
def inv64f:List SV->Look->Option (AlA×List Nat)
 | [.ptr c _ _ _ _,.int .i64 a,.int .i64 b,.int .i64 n,.fn 26 []],look=>match rowC (look c)with
  | some (F,[.int .i64 w,.sl c1 _ 1 0 _,.int .i64 kind])=>match rowI (look c1)with
   | some (LP,.i64,ws)=>some (⟨F,LP,w,kind,ws,a,b,n.toNat⟩,[c,c1])
   | _=>none
  | _=>none
 | _,_=>none
attribute [push_cast] inv64f
theorem ok64f:FSOk Try.prog 64 fs64f:=by
 refine⟨⟨_,Try.func64,by kernel_rfl,by kernel_rfl⟩,fun a=>⟨by simp[fs64f,push_cast,noMine,argOwn,Chunk.frArg],by simp[fs64f,push_cast,outOk,Chunk.ext],fun x=>.inl (by simp[fs64f,push_cast,frNew,frOut,Chunk.fr])⟩,fun a hp=>?_⟩
 obtain⟨F,LP,w,kind,ws,a,b,n⟩:=a
 obtain⟨hk,h1,h2,h3,h4,h5,h6,h7⟩:(kind=0∨kind=1)/\ws.length<=8192/\0<=a/\0<=b/\b<=200/\n<=200/\(∀ i:Nat,i<n->a+i*b<ws.length)/\AllIn (-1073741824) 1073741824 ws:=hp
 change Tri Try.prog 64 [.ptr 0 F 0 0 0,.int .i64 a,.int .i64 b,.int .i64 n,.fn 26 []] [some (.ro,F,.cells [.int .i64 w,.sl 1 LP 1 0 ws.length,.int .i64 kind]),some (.lent,LP,.ints .i64 ws)] (postF fs64f ⟨F,LP,w,kind,ws,a,b,n⟩)
 obtain⟨g,hg⟩:∃ g,alG ws a b=g:=⟨_,rfl⟩
 have hgk:∀ k:Nat,rd ws (a+k*b)=g k:=fun k=>by rw[<-hg];rfl
 have hin:=alG_in (a:=a) (b:=b) (n:=n) h7 (by omega)
 rw[hg]at hin
 obtain⟨R,hR⟩:∃ R,lineL kind n (fun j=>rd (tabl n g) j)=R:=⟨_,rfl⟩
 refine tri_evS (hyp (l:=[(26,ent26)]) (lp:=[]) ⟨e26,trivial⟩ trivial) Try.func64 comp64 (rs:=[]) (by rfl) Try.ntmps64 15 ?_
 simp -implicitDefEqProofs only[push_cast,zz,seval,ir64]
 repeat refine om_ ?_
 intro X
 repeat refine om_ ?_
 refine evS_loopU (A:=Nat) kp64_1 kl64_1 (fun i=>[(18,.int .i64 i)]) (fun i=>[(10,.mine,X 1 10,.ints .i64 (prt n i g))]) (fun i=>i<=n) (fun i=>n-i) 0 (by omega) (Sub.pt ?_) ?_
 ·simp -implicitDefEqProofs only[push_cast,zz,seval,prt_zero,Int.toNat_natCast]
 intro i (hi:i<=n) K hK
 simp -implicitDefEqProofs only[push_cast,zz,seval,b64_1,r64_3,fs26]
 refine⟨fun hl=>?_,fun hl=>?_⟩
 ·have hi':i<n:=by omega
  have hib:=mul_bd (a:=(i:Int)) (b:=b) (A:=200) (B:=200) (by omega) (by omega) h3 h4
  have hlt:=h6 i hi'
  have lP:=prt_length hi g
  have q:(prt n i g).set i (g i)=prt n (i+1) g:=prt_set hi' _
  repeat refine om_ ?_
  refine hK (i+1) (by omega) (by omega) _ _ (Sub.pt ?_)
  simp -implicitDefEqProofs only[push_cast,zz,seval,Int.toNat_natCast,hgk,q]
 ·obtain rfl:i=n:=by omega
  clear hK
  rw[prt_all]
  simp only[Int.toNat_natCast,tabl_length,hR]
  intro X1
  repeat refine om_ ?_
  have hRl:R.length=i:=by rw[<-hR,lineL_length]
  refine evS_loopU (A:=Nat) kp64_2 kl64_2 (fun j=>[(44,.int .i64 j)]) (fun j=>[(1,.lent,LP,.ints .i64 (alS R ws a b j))]) (fun j=>j<=i) (fun j=>i-j) 0 (by omega) (Sub.pt ?_) ?_
  ·simp -implicitDefEqProofs only[push_cast,zz,seval,alS]
  intro j (hj:j<=i) K hK
  simp -implicitDefEqProofs only[push_cast,zz,seval,b64_2]
  refine⟨fun hl=>?_,fun hl=>?_⟩
  ·have hj':j<i:=by omega
   have hib:=mul_bd (a:=(j:Int)) (b:=b) (A:=200) (B:=200) (by omega) (by omega) h3 h4
   have hlt:=h6 j hj'
   simp only[alS_length,hRl]
   repeat refine om_ ?_
   refine hK (j+1) (by omega) (by omega) _ _ (Sub.pt ?_)
   simp -implicitDefEqProofs only[push_cast,zz,seval,alS]
  ·obtain rfl:j=i:=by omega
   refine postF.mk' (fun _=>default) [some 0,some 1] ?_
   simp -implicitDefEqProofs only[push_cast,zz,seval,fs64f,hg,hR]
def ent64f:Entry:=spOf fs64f inv64f
theorem e64f:EntryOk Try.prog 64 ent64f:=entry_of ok64f inv64f
@[push_cast] theorem ent64f_app (us:List SV) (look:Look) (x:Nat->Xf.Loc) (k:Nat):ent64f us look x k=spOf fs64f inv64f us look x k:=rfl
def fs64u:FS where
 A:=AlA
 args:=fun a=>[.ptr 0 a.F 0 0 0,.int .i64 a.a,.int .i64 a.b,.int .i64 a.n,.fn 44 []]
 mem:=fun a=>[some (.ro,a.F,.cells [.int .i64 a.w,.sl 1 a.LP 1 0 a.ws.length,.int .i64 a.kind]),some (.lent,a.LP,.ints .i64 a.ws)]
 pre:=fun a=>(a.kind=0∨a.kind=1)/\a.ws.length<=8192/\0<=a.a/\0<=a.b/\a.b<=200/\a.n<=200/\(∀ i:Nat,i<a.n->a.a+i*a.b<a.ws.length)/\AllIn (-1125899906842624) 1125899906842624 a.ws
 res:=fun a x=>.tup []
 out:=fun a _=>[none,some (some (.ints .i64 (alS (unL a.kind a.n (fun j=>rd (tabl a.n (alG a.ws a.a a.b)) j)) a.ws a.a a.b a.n)))]
 new:=fun _ _=>[]
def inv64u:List SV->Look->Option (AlA×List Nat)
 | [.ptr c _ _ _ _,.int .i64 a,.int .i64 b,.int .i64 n,.fn 44 []],look=>match rowC (look c)with
  | some (F,[.int .i64 w,.sl c1 _ 1 0 _,.int .i64 kind])=>match rowI (look c1)with
   | some (LP,.i64,ws)=>some (⟨F,LP,w,kind,ws,a,b,n.toNat⟩,[c,c1])
   | _=>none
  | _=>none
 | _,_=>none
attribute [push_cast] inv64u
theorem ok64u:FSOk Try.prog 64 fs64u:=by
 refine⟨⟨_,Try.func64,by kernel_rfl,by kernel_rfl⟩,fun a=>⟨by simp[fs64u,push_cast,noMine,argOwn,Chunk.frArg],by simp[fs64u,push_cast,outOk,Chunk.ext],fun x=>.inl (by simp[fs64u,push_cast,frNew,frOut,Chunk.fr])⟩,fun a hp=>?_⟩
 obtain⟨F,LP,w,kind,ws,a,b,n⟩:=a
 obtain⟨hk,h1,h2,h3,h4,h5,h6,h7⟩:(kind=0∨kind=1)/\ws.length<=8192/\0<=a/\0<=b/\b<=200/\n<=200/\(∀ i:Nat,i<n->a+i*b<ws.length)/\AllIn (-1125899906842624) 1125899906842624 ws:=hp
 change Tri Try.prog 64 [.ptr 0 F 0 0 0,.int .i64 a,.int .i64 b,.int .i64 n,.fn 44 []] [some (.ro,F,.cells [.int .i64 w,.sl 1 LP 1 0 ws.length,.int .i64 kind]),some (.lent,LP,.ints .i64 ws)] (postF fs64u ⟨F,LP,w,kind,ws,a,b,n⟩)
 obtain⟨g,hg⟩:∃ g,alG ws a b=g:=⟨_,rfl⟩
 have hgk:∀ k:Nat,rd ws (a+k*b)=g k:=fun k=>by rw[<-hg];rfl
 have hin:=alG_in (a:=a) (b:=b) (n:=n) h7 (by omega)
 rw[hg]at hin
 obtain⟨R,hR⟩:∃ R,unL kind n (fun j=>rd (tabl n g) j)=R:=⟨_,rfl⟩
 refine tri_evS (hyp (l:=[(44,ent44)]) (lp:=[]) ⟨e44,trivial⟩ trivial) Try.func64 comp64 (rs:=[]) (by rfl) Try.ntmps64 15 ?_
 simp -implicitDefEqProofs only[push_cast,zz,seval,ir64]
 repeat refine om_ ?_
 intro X
 repeat refine om_ ?_
 refine evS_loopU (A:=Nat) kp64_1 kl64_1 (fun i=>[(18,.int .i64 i)]) (fun i=>[(10,.mine,X 1 10,.ints .i64 (prt n i g))]) (fun i=>i<=n) (fun i=>n-i) 0 (by omega) (Sub.pt ?_) ?_
 ·simp -implicitDefEqProofs only[push_cast,zz,seval,prt_zero,Int.toNat_natCast]
 intro i (hi:i<=n) K hK
 simp -implicitDefEqProofs only[push_cast,zz,seval,b64_1,r64_3,fs44]
 refine⟨fun hl=>?_,fun hl=>?_⟩
 ·have hi':i<n:=by omega
  have hib:=mul_bd (a:=(i:Int)) (b:=b) (A:=200) (B:=200) (by omega) (by omega) h3 h4
  have hlt:=h6 i hi'
  have lP:=prt_length hi g
  have q:(prt n i g).set i (g i)=prt n (i+1) g:=prt_set hi' _
  repeat refine om_ ?_
  refine hK (i+1) (by omega) (by omega) _ _ (Sub.pt ?_)
  simp -implicitDefEqProofs only[push_cast,zz,seval,Int.toNat_natCast,hgk,q]
 ·obtain rfl:i=n:=by omega
  clear hK
  rw[prt_all]
  simp only[Int.toNat_natCast,tabl_length,hR]
  intro X1
  repeat refine om_ ?_
  have hRl:R.length=i:=by rw[<-hR,unL_length]
  refine evS_loopU (A:=Nat) kp64_2 kl64_2 (fun j=>[(44,.int .i64 j)]) (fun j=>[(1,.lent,LP,.ints .i64 (alS R ws a b j))]) (fun j=>j<=i) (fun j=>i-j) 0 (by omega) (Sub.pt ?_) ?_
  ·simp -implicitDefEqProofs only[push_cast,zz,seval,alS]
  intro j (hj:j<=i) K hK
  simp -implicitDefEqProofs only[push_cast,zz,seval,b64_2]
  refine⟨fun hl=>?_,fun hl=>?_⟩
  ·have hj':j<i:=by omega
   have hib:=mul_bd (a:=(j:Int)) (b:=b) (A:=200) (B:=200) (by omega) (by omega) h3 h4
   have hlt:=h6 j hj'
   simp only[alS_length,hRl]
   repeat refine om_ ?_
   refine hK (j+1) (by omega) (by omega) _ _ (Sub.pt ?_)
   simp -implicitDefEqProofs only[push_cast,zz,seval,alS]
  ·obtain rfl:j=i:=by omega
   refine postF.mk' (fun _=>default) [some 0,some 1] ?_
   simp -implicitDefEqProofs only[push_cast,zz,seval,fs64u,hg,hR]
def ent64u:Entry:=spOf fs64u inv64u
theorem e64u:EntryOk Try.prog 64 ent64u:=entry_of ok64u inv64u
@[push_cast] theorem ent64u_app (us:List SV) (look:Look) (x:Nat->Xf.Loc) (k:Nat):ent64u us look x k=spOf fs64u inv64u us look x k:=rfl
theorem rd_set_nat {xs:List Int} {i:Nat} (v:Int) (k:Nat):rd (xs.set i v) (k:Int)=if i=k/\k<xs.length then v else rd xs (k:Int):=by
 unfold rd
 simp only[Int.toNat_natCast,List.getD_eq_getElem?_getD,List.getElem?_set]
 by_cases e:i=k
 ·subst e
  by_cases h:i<xs.length
  ·simp[h]
  ·simp[h]
 ·simp[e]
theorem alS_miss {res ws:List Int} {a b:Int} {k:Nat}:∀ {n:Nat},(∀ i:Nat,i<n->(a+i*b).toNat≠k)->rd (alS res ws a b n) (k:Int)=rd ws (k:Int)
 | 0,_=>rfl
 | n+1,h=>by
  rw[alS,rd_set_nat,if_neg (fun e=>h n (by omega) e.1),alS_miss fun i hi=>h i (by omega)]
theorem alS_hit {res ws:List Int} {a b:Int} (ha:0<=a) (hb:1<=b) {i:Nat} (hl:(a+i*b).toNat<ws.length):∀ {n:Nat},i<n->rd (alS res ws a b n) (((a+i*b).toNat:Nat):Int)=rd res i
 | 0,h=>by omega
 | n+1,h=>by
  rw[alS,rd_set_nat,alS_length]
  by_cases e:i=n
  ·subst e;rw[if_pos ⟨rfl,hl⟩]
  ·rw[if_neg,alS_hit ha hb hl (by omega)]
   rintro⟨q,_⟩
   have h1:(0:Int)<=i*b:=Int.mul_nonneg (by omega) (by omega)
   have h2:((i:Int)+1)*b<=n*b:=Int.mul_le_mul_of_nonneg_right (by omega) (by omega)
   rw[Int.add_mul]at h2
   omega
def rowF (ws:List Int) (a b:Int) (n:Nat):Int->Int:=fun j=>rd (tabl n (alG ws a b)) j
def alL (T:LT) (kind:Int) (ws:List Int) (a b:Int) (n:Nat):List Int:=alS (T kind n (rowF ws a b n)) ws a b n
theorem alL_length (T:LT) (kind:Int) (ws:List Int) (a b:Int) (n:Nat):(alL T kind ws a b n).length=ws.length:=alS_length ..
theorem rowF_congr {ws vs:List Int} {a b:Int} {n:Nat} (h:∀ i:Nat,i<n->rd ws (a+i*b)=rd vs (a+i*b)):rowF ws a b n=rowF vs a b n:=by
 unfold rowF
 rw[tabl_congr (f:=alG ws a b) (g:=alG vs a b) fun j hj=>h j hj]
theorem rowF_at {ws:List Int} {a b:Int} {n j:Nat} (h:j<n):rowF ws a b n j=rd ws (a+j*b):=by
 unfold rowF;rw[rd_tabl h];rfl
theorem rowF_bd {ws:List Int} {a b:Int} {n:Nat} {B:Int} (h:AllIn (-B) B ws) (h0:0<=B):BdF B (rowF ws a b n):=BdF.rd0 (alG_in h h0) h0
theorem lineL_congr (kind:Int) (n:Nat) (f g:Int->Int) (h:∀ j:Nat,j<n->f j=g j):lineL kind n f=lineL kind n g:=by
 have h1:hiL kind n f=hiL kind n g:=by
  unfold hiL
  refine tabl_congr fun j hj=>?_
  have e0:=h (2*j) (by omega)
  have e1:=h (2*j+1) (by omega)
  simp only[Int.natCast_add,Int.natCast_mul,Int.cast_ofNat_Int]at e0 e1
  unfold hiF nxt
  rw[e0,e1]
  by_cases c:2*(j:Int)+2<n
  ·have e2:=h (2*j+2) (by omega)
   simp only[Int.natCast_add,Int.natCast_mul,Int.cast_ofNat_Int]at e2
   rw[e2]
  ·rw[if_neg c,if_neg c]
 unfold lineL
 rw[h1]
 congr 1
 refine tabl_congr fun j hj=>?_
 have e0:=h (2*j) (by omega)
 simp only[Int.natCast_mul,Int.cast_ofNat_Int]at e0
 unfold loF
 rw[h1,e0]
theorem evF_congr {kind:Int} {n:Nat} {f g:Int->Int} (h:∀ j:Nat,j<n->f j=g j) {i:Nat} (hi:i<n-n / 2):evF kind n f i=evF kind n g i:=by
 unfold evF
 rw[h i (by omega)]
 rw[liftG_congr (g':=fun j=>g ((n:Int)-(n / 2:Nat)+j)) ?_ (by omega) (by omega) (by omega)]
 intro j h0 h1
 have:=h (n-n / 2+j.toNat) (by omega)
 rw[show((n-n / 2+j.toNat:Nat):Int)=(n:Int)-(n / 2:Nat)+j by omega]at this
 exact this
theorem unL_congr (kind:Int) (n:Nat) (f g:Int->Int) (h:∀ j:Nat,j<n->f j=g j):unL kind n f=unL kind n g:=by
 unfold unL
 refine tabl_congr fun k hk=>?_
 unfold unF2
 by_cases c:k % 2=0
 ·rw[if_pos c,if_pos c,evF_congr h (by omega)]
 ·rw[if_neg c,if_neg c]
  by_cases d:k / 2<n / 2
  ·rw[if_pos d,if_pos d]
   have e1:=h (n-n / 2+k / 2) (by omega)
   rw[show((n-n / 2+k / 2:Nat):Int)=(n:Int)-(n / 2:Nat)+(k / 2:Nat) by omega]at e1
   unfold odF
   rw[e1,evF_congr h (by omega)]
   by_cases q:2*(k / 2)+2<n
   ·rw[if_pos q,if_pos q,evF_congr h (by omega)]
   ·rw[if_neg q,if_neg q]
  ·rw[if_neg d,if_neg d]
theorem trn_line:Trn lineL:=⟨lineL_length,fun k n f B h h0=>line_bd h h0,lineL_congr⟩
theorem trn_unline:Trn unL:=by
 refine⟨unL_length,fun k n f B h h0=>?_,unL_congr⟩
 rw[allIn_rd]
 intro j hj
 rw[unL_length]at hj
 unfold unL
 rw[rd_tabl hj]
 have key:∀ i:Nat,-(2*B+1)<=evF k n f i/\evF k n f i<=2*B+1:=evF_bd h h0
 unfold unF2
 have k1:=key (j / 2)
 have k2:=key (j / 2+1)
 have k3:=h ((n:Int)-(n / 2:Nat)+(j / 2:Nat))
 split
 ·omega
 ·split
  ·unfold odF
   split
   ·omega
   ·split<;>omega
  ·omega
def rwL (T:LT) (kind:Int) (W:Nat) (w:Nat) (ws:List Int):Nat->List Int
 | 0=>ws
 | y+1=>alL T kind (rwL T kind W w ws y) ((y:Int)*W) 1 w
def clL (T:LT) (kind:Int) (W:Nat) (h:Nat) (ws:List Int):Nat->List Int
 | 0=>ws
 | x+1=>alL T kind (clL T kind W h ws x) x W h
theorem rwL_length (T:LT) (kind:Int) (W w:Nat) (ws:List Int):∀ m,(rwL T kind W w ws m).length=ws.length
 | 0=>rfl
 | m+1=>by rw[rwL,alL_length,rwL_length T kind W w ws m]
theorem clL_length (T:LT) (kind:Int) (W h:Nat) (ws:List Int):∀ m,(clL T kind W h ws m).length=ws.length
 | 0=>rfl
 | m+1=>by rw[clL,alL_length,clL_length T kind W h ws m]
theorem place {W k:Nat}:k=k / W*W+k % W:=by
 have:=Nat.div_add_mod k W
 rw[Nat.mul_comm]at this;exact this.symm
theorem row_le {W k m:Nat} (h:k / W<m) (h2:k % W<W):k<m*W:=by
 have e:=place (W:=W) (k:=k)
 have:(k / W+1)*W<=m*W:=Nat.mul_le_mul_right _ h
 rw[Nat.add_mul]at this
 omega
theorem rwL_at {T:LT} (hT:Trn T) {kind:Int} {W w:Nat} (hw:w<=W) (ws:List Int):∀ (m:Nat),m*W<=ws.length->∀ k:Nat,
  rd (rwL T kind W w ws m) (k:Int)=if k / W<m/\k % W<w then rd (T kind w (rowF ws (((k / W*W:Nat)):Int) 1 w)) ((k % W:Nat):Int)else rd ws (k:Int)
 | 0,_,k=>by rw[if_neg (fun q=>absurd q.1 (Nat.not_lt_zero _))];rfl
 | m+1,hm,k=>by
  have hm':m*W+W<=ws.length:=by rw[Nat.add_mul]at hm;omega
  have ih:=rwL_at hT (kind:=kind) hw ws m (by omega)
  have eR:rowF (rwL T kind W w ws m) ((m:Int)*W) 1 w=rowF ws ((m*W:Nat):Int) 1 w:=by
   have ec:((m*W:Nat):Int)=(m:Int)*W:=by simp
   rw[ec]
   refine rowF_congr fun i hi=>?_
   have e:(m:Int)*W+i*1=((m*W+i:Nat):Int):=by simp
   rw[e,ih,if_neg]
   rintro⟨q,_⟩
   have:(m*W+i) / W=m:=by
    rw[Nat.mul_comm,Nat.mul_add_div (by omega),Nat.div_eq_of_lt (by omega),Nat.add_zero]
   omega
  rw[rwL,alL,eR]
  by_cases hh:k / W=m/\k % W<w
  ·obtain⟨h1,h2⟩:=hh
   have ep:=place (W:=W) (k:=k)
   rw[h1]at ep
   have e:((m:Int)*W+((k % W:Nat):Int)*1).toNat=k:=by
    have:((m*W:Nat):Int)=(m:Int)*W:=by simp
    omega
   have hkl:k<ws.length:=by omega
   have hp:(0:Int)<=(m:Int)*W:=Int.mul_nonneg (by omega) (by omega)
   have:=alS_hit (res:=T kind w (rowF ws ((m*W:Nat):Int) 1 w)) (ws:=rwL T kind W w ws m) (a:=(m:Int)*W) (b:=1) hp (by omega) (i:=k % W) (by rw[e,rwL_length];exact hkl) (n:=w) h2
   rw[e]at this
   rw[this,if_pos ⟨by omega,h2⟩,h1]
  ·rw[alS_miss,ih]
   ·by_cases c:k / W<m/\k % W<w
    ·rw[if_pos c,if_pos ⟨by omega,c.2⟩]
    ·rw[if_neg c,if_neg]
     rintro⟨q1,q2⟩
     by_cases e:k / W=m
     ·exact hh ⟨e,q2⟩
     ·exact c ⟨by omega,q2⟩
   ·intro i hi e
    have:((m*W:Nat):Int)=(m:Int)*W:=by simp
    have ek:k=m*W+i:=by omega
    apply hh
    have hd:(m*W+i) / W=m:=by
     rw[Nat.mul_comm,Nat.mul_add_div (by omega),Nat.div_eq_of_lt (by omega),Nat.add_zero]
    have hr:(m*W+i) % W=i:=by
     rw[Nat.mul_comm,Nat.mul_add_mod,Nat.mod_eq_of_lt (by omega)]
    rw[ek]
    exact⟨hd,by omega⟩
theorem clL_at {T:LT} (hT:Trn T) {kind:Int} {W h:Nat} (ws:List Int) (hh:h*W<=ws.length):∀ (m:Nat),m<=W->∀ k:Nat,
  rd (clL T kind W h ws m) (k:Int)=if k % W<m/\k / W<h then rd (T kind h (rowF ws ((k % W:Nat):Int) W h)) ((k / W:Nat):Int)else rd ws (k:Int)
 | 0,_,k=>by rw[if_neg (fun q=>absurd q.1 (Nat.not_lt_zero _))];rfl
 | m+1,hm,k=>by
  have ih:=clL_at hT (kind:=kind) ws hh m (by omega)
  have hd:∀ i:Nat,(m+i*W) / W=i/\(m+i*W) % W=m:=fun i=>by
   rw[Nat.add_mul_div_right _ _ (by omega),Nat.div_eq_of_lt (by omega),Nat.zero_add,Nat.add_mul_mod_self_right,Nat.mod_eq_of_lt (by omega)]
   exact⟨rfl,rfl⟩
  have eR:rowF (clL T kind W h ws m) (m:Int) W h=rowF ws ((m:Nat):Int) W h:=by
   refine rowF_congr fun i hi=>?_
   have e:(m:Int)+i*W=((m+i*W:Nat):Int):=by simp
   rw[e,ih,if_neg]
   rintro⟨q,_⟩
   rw[(hd i).2]at q
   omega
  rw[clL,alL,eR]
  by_cases hc:k % W=m/\k / W<h
  ·obtain⟨h1,h2⟩:=hc
   have ep:=place (W:=W) (k:=k)
   rw[h1]at ep
   have e:((m:Int)+((k / W:Nat):Int)*W).toNat=k:=by
    have:((k / W*W:Nat):Int)=((k / W:Nat):Int)*W:=by simp
    omega
   have hkl:k<ws.length:=Nat.lt_of_lt_of_le (row_le h2 (by omega)) hh
   have:=alS_hit (res:=T kind h (rowF ws ((m:Nat):Int) W h)) (ws:=clL T kind W h ws m) (a:=(m:Int)) (b:=W) (by omega) (by omega) (i:=k / W) (by rw[e,clL_length];exact hkl) (n:=h) h2
   rw[e]at this
   rw[this,if_pos ⟨by omega,h2⟩,h1]
  ·rw[alS_miss,ih]
   ·by_cases c:k % W<m/\k / W<h
    ·rw[if_pos c,if_pos ⟨by omega,c.2⟩]
    ·rw[if_neg c,if_neg]
     rintro⟨q1,q2⟩
     by_cases e:k % W=m
     ·exact hc ⟨e,q2⟩
     ·exact c ⟨by omega,q2⟩
   ·intro i hi e
    have ek:k=m+i*W:=by
     have:((i*W:Nat):Int)=(i:Int)*W:=by simp
     omega
    apply hc
    rw[ek]
    exact⟨(hd i).2,by rw[(hd i).1];exact hi⟩
theorem rwL_bd {T:LT} (hT:Trn T) {kind:Int} {W w:Nat} (hw:w<=W) {ws:List Int} {m:Nat} (hm:m*W<=ws.length) {B:Int} (hB:AllIn (-B) B ws) (h0:0<=B):AllIn (-(3*B+1)) (3*B+1) (rwL T kind W w ws m):=by
 rw[allIn_rd]
 intro k hk
 rw[rwL_at hT hw ws m hm]
 split
 ·exact rd_bd (hT.bd _ _ _ B (rowF_bd hB h0) h0) (by omega) (by omega) _
 ·have:=rd_bd hB (by omega) h0 (k:Int);omega
theorem clL_bd {T:LT} (hT:Trn T) {kind:Int} {W h:Nat} {ws:List Int} (hh:h*W<=ws.length) {m:Nat} (hm:m<=W) {B:Int} (hB:AllIn (-B) B ws) (h0:0<=B):AllIn (-(3*B+1)) (3*B+1) (clL T kind W h ws m):=by
 rw[allIn_rd]
 intro k hk
 rw[clL_at hT ws hh m hm]
 split
 ·exact rd_bd (hT.bd _ _ _ B (rowF_bd hB h0) h0) (by omega) (by omega) _
 ·have:=rd_bd hB (by omega) h0 (k:Int);omega
def stF (T:LT) (kind:Int) (W:Nat) (ws:List Int) (w h:Nat):List Int:=clL T kind W h (rwL T kind W w ws h) w
def stI (T:LT) (kind:Int) (W:Nat) (ws:List Int) (w h:Nat):List Int:=rwL T kind W w (clL T kind W h ws w) h
def fwd (T:LT) (kind:Int) (W h:Nat) (ws:List Int):Nat->List Int
 | 0=>ws
 | i+1=>stF T kind W (fwd T kind W h ws i) (hlf W i) (hlf h i)
def bwd (T:LT) (kind:Int) (W h n:Nat) (ws:List Int):Nat->List Int
 | 0=>ws
 | i+1=>stI T kind W (bwd T kind W h n ws i) (hlf W (n-1-i)) (hlf h (n-1-i))
theorem stF_length (T:LT) (kind:Int) (W:Nat) (ws:List Int) (w h:Nat):(stF T kind W ws w h).length=ws.length:=by rw[stF,clL_length,rwL_length]
theorem stI_length (T:LT) (kind:Int) (W:Nat) (ws:List Int) (w h:Nat):(stI T kind W ws w h).length=ws.length:=by rw[stI,rwL_length,clL_length]
theorem fwd_length (T:LT) (kind:Int) (W h:Nat) (ws:List Int):∀ i,(fwd T kind W h ws i).length=ws.length
 | 0=>rfl
 | i+1=>by rw[fwd,stF_length,fwd_length T kind W h ws i]
theorem bwd_length (T:LT) (kind:Int) (W h n:Nat) (ws:List Int):∀ i,(bwd T kind W h n ws i).length=ws.length
 | 0=>rfl
 | i+1=>by rw[bwd,stI_length,bwd_length T kind W h n ws i]
theorem stF_bd {T:LT} (hT:Trn T) {kind:Int} {W w h:Nat} (hw:w<=W) {ws:List Int} (hh:h*W<=ws.length) {B:Int} (hB:AllIn (-B) B ws) (h0:0<=B):AllIn (-(9*B+4)) (9*B+4) (stF T kind W ws w h):=by
 have h1:=clL_bd hT (kind:=kind) (by rw[rwL_length];exact hh) hw (rwL_bd hT (kind:=kind) hw hh hB h0) (by omega)
 unfold stF
 rw[show 9*B+4=3*(3*B+1)+1 by omega];exact h1
theorem stI_bd {T:LT} (hT:Trn T) {kind:Int} {W w h:Nat} (hw:w<=W) {ws:List Int} (hh:h*W<=ws.length) {B:Int} (hB:AllIn (-B) B ws) (h0:0<=B):AllIn (-(9*B+4)) (9*B+4) (stI T kind W ws w h):=by
 have h1:=rwL_bd hT (kind:=kind) hw (by rw[clL_length];exact hh) (clL_bd hT (kind:=kind) hh hw hB h0) (by omega)
 unfold stI
 rw[show 9*B+4=3*(3*B+1)+1 by omega];exact h1
def bnd (B:Int):Nat->Int
 | 0=>B
 | i+1=>9*bnd B i+4
theorem bnd_pos {B:Int} (h:0<=B):∀ i,0<=bnd B i
 | 0=>h
 | i+1=>by have:=bnd_pos h i;simp only[bnd];omega
theorem hh_len {W h n:Nat} (hn:h*W<=n) (i:Nat):hlf h i*W<=n:=Nat.le_trans (Nat.mul_le_mul_right _ (hlf_le h i)) hn
theorem fwd_bd {T:LT} (hT:Trn T) {kind:Int} {W h:Nat} {ws:List Int} (hh:h*W<=ws.length) {B:Int} (hB:AllIn (-B) B ws) (h0:0<=B):∀ i,AllIn (-(bnd B i)) (bnd B i) (fwd T kind W h ws i)
 | 0=>hB
 | i+1=>stF_bd hT (hlf_le W i) (by rw[fwd_length];exact hh_len hh i) (fwd_bd hT hh hB h0 i) (bnd_pos h0 i)
theorem bwd_bd {T:LT} (hT:Trn T) {kind:Int} {W h n:Nat} {ws:List Int} (hh:h*W<=ws.length) {B:Int} (hB:AllIn (-B) B ws) (h0:0<=B):∀ i,AllIn (-(bnd B i)) (bnd B i) (bwd T kind W h n ws i)
 | 0=>hB
 | i+1=>stI_bd hT (hlf_le W _) (by rw[bwd_length];exact hh_len hh _) (bwd_bd hT hh hB h0 i) (bnd_pos h0 i)
def b25_1:IR:=
 .seq (r_ [b_ 11 .lss 10 9] []) (.seq (.cond (.t 11) (.skip) (.exit 0)) (.seq (.block 1 (.seq (r_ [m_ 12 10,m_ 8 12] [11,12]) (r_ [m_ 13 0,m_ 14 8,m_ 15 0,n_ 16 15,f_ 17 16 0,l_ 18 17,b_ 19 .mul 14 18,m_ 20 1,m_ 21 3,o_ 22 (.call none 10 64 [.t 13,.t 19,Z_ 1,.t 20,.t 21])] [8,13,14,15,16,17,18,19,20,21,22]))) (r_ [a_ 23 10 1,m_ 10 23] [23])))
def ir25:IR:=
 .seq (r_ [m_ 9 2,z_ 10 0] [2]) (.block 0 (.loop b25_1))
def kp25_1:List Nat:=[0,1,3,9,10]
def kl25_1:List Nat:=[10,11,12,13]
attribute [push_cast] kp25_1 kl25_1
set_option maxRecDepth 4000 in
theorem comp25:(Try.f25.body.bind fun c=>compC tab isP chkAll ir25 c)=some ir25:=by kernel_rfl
def b27_1:IR:=
 .seq (r_ [b_ 11 .lss 10 9] []) (.seq (.cond (.t 11) (.skip) (.exit 0)) (.seq (.block 1 (.seq (r_ [m_ 12 10,m_ 8 12] [11,12]) (r_ [m_ 13 0,m_ 14 8,m_ 15 0,n_ 16 15,f_ 17 16 0,l_ 18 17,m_ 19 2,m_ 20 3,o_ 21 (.call none 10 64 [.t 13,.t 14,.t 18,.t 19,.t 20])] [8,13,14,15,16,17,18,19,20,21]))) (r_ [a_ 22 10 1,m_ 10 22] [22])))
def ir27:IR:=
 .seq (r_ [m_ 9 1,z_ 10 0] [1]) (.block 0 (.loop b27_1))
def kp27_1:List Nat:=[0,2,3,9,10]
def kl27_1:List Nat:=[10,11,12,13]
attribute [push_cast] kp27_1 kl27_1
set_option maxRecDepth 4000 in
theorem comp27:(Try.f27.body.bind fun c=>compC tab isP chkAll ir27 c)=some ir27:=by kernel_rfl
def fs25f:FS where
 A:=RwA
 args:=fun a=>[.ptr 0 a.F 0 0 0,.int .i64 a.w,.int .i64 a.h,.fn 26 []]
 mem:=fun a=>[some (.ro,a.F,.cells [.int .i64 a.W,.sl 1 a.LP 1 0 a.ws.length,.int .i64 a.kind]),some (.lent,a.LP,.ints .i64 a.ws)]
 pre:=fun a=>(a.kind=0∨a.kind=1)/\a.ws.length<=8192/\a.W<=200/\a.w<=a.W/\a.h<=200/\a.h*a.W<=a.ws.length/\AllIn (-357913941) 357913941 a.ws
 res:=fun a x=>.tup []
 out:=fun a _=>[none,some (some (.ints .i64 (rwL lineL a.kind a.W a.w a.ws a.h)))]
 new:=fun _ _=>[]
def inv25f:List SV->Look->Option (RwA×List Nat)
 | [.ptr c _ _ _ _,.int .i64 w,.int .i64 h,.fn 26 []],look=>match rowC (look c)with
  | some (F,[.int .i64 W,.sl c1 _ 1 0 _,.int .i64 kind])=>match rowI (look c1)with
   | some (LP,.i64,ws)=>some (⟨F,LP,W.toNat,kind,ws,w.toNat,h.toNat⟩,[c,c1])
   | _=>none
  | _=>none
 | _,_=>none
attribute [push_cast] inv25f
theorem ok25f:FSOk Try.prog 25 fs25f:=by
 refine⟨⟨_,Try.func25,by kernel_rfl,by kernel_rfl⟩,fun a=>⟨by simp[fs25f,push_cast,noMine,argOwn,Chunk.frArg],by simp[fs25f,push_cast,outOk,Chunk.ext],fun x=>.inl (by simp[fs25f,push_cast,frNew,frOut,Chunk.fr])⟩,fun a hp=>?_⟩
 obtain⟨F,LP,W,kind,ws,w,h⟩:=a
 obtain⟨hk,h1,h2,h3,h4,h5,h6⟩:(kind=0∨kind=1)/\ws.length<=8192/\W<=200/\w<=W/\h<=200/\h*W<=ws.length/\AllIn (-357913941) 357913941 ws:=hp
 change Tri Try.prog 25 [.ptr 0 F 0 0 0,.int .i64 w,.int .i64 h,.fn 26 []] [some (.ro,F,.cells [.int .i64 W,.sl 1 LP 1 0 ws.length,.int .i64 kind]),some (.lent,LP,.ints .i64 ws)] (postF fs25f ⟨F,LP,W,kind,ws,w,h⟩)
 refine tri_evS (hyp (l:=[(64,ent64f)]) (lp:=[]) ⟨e64f,trivial⟩ trivial) Try.func25 comp25 (rs:=[]) (by rfl) Try.ntmps25 14 ?_
 simp -implicitDefEqProofs only[push_cast,zz,seval,ir25]
 refine evS_loopU (A:=Nat) kp25_1 kl25_1 (fun y=>[(10,.int .i64 y)]) (fun y=>[(1,.lent,LP,.ints .i64 (rwL lineL kind W w ws y))]) (fun y=>y<=h) (fun y=>h-y) 0 (by omega) (Sub.pt ?_) ?_
 ·simp -implicitDefEqProofs only[push_cast,zz,seval,rwL]
 intro y (hy:y<=h) K hK
 have lQ:(rwL lineL kind W w ws y).length=ws.length:=rwL_length ..
 have hB:=rwL_bd trn_line (kind:=kind) h3 (m:=y) (Nat.le_trans (Nat.mul_le_mul_right _ hy) h5) h6 (by omega)
 rw[show(3*357913941+1:Int)=1073741824 by decide]at hB
 simp -implicitDefEqProofs only[push_cast,zz,seval,b25_1,fs64f,lQ]
 refine⟨fun hl=>?_,fun hl=>?_⟩
 ·have hy':y<h:=by omega
  have hm:=mul_bd (a:=(y:Int)) (b:=(W:Int)) (A:=200) (B:=200) (by omega) (by omega) (by omega) (by omega)
  have hyW:((y:Int)+1)*W<=ws.length:=by
   have h7:(y+1)*W<=ws.length:=Nat.le_trans (Nat.mul_le_mul_right _ hy') h5
   have h8:(((y+1)*W:Nat):Int)=((y:Int)+1)*W:=by simp
   omega
  rw[Int.add_mul]at hyW
  have q:alS (lineL kind w (fun j=>rd (tabl w (alG (rwL lineL kind W w ws y) ((y:Int)*W) 1)) j)) (rwL lineL kind W w ws y) ((y:Int)*W) 1 w=rwL lineL kind W w ws (y+1):=rfl
  simp only[Int.toNat_natCast,q]
  repeat refine om_ ?_
  refine hK (y+1) (by omega) (by omega) _ _ (Sub.pt ?_)
  simp -implicitDefEqProofs only[push_cast,zz,seval]
 ·obtain rfl:y=h:=by omega
  refine postF.mk' (fun _=>default) [some 0,some 1] ?_
  simp -implicitDefEqProofs only[push_cast,zz,seval,fs25f]
def ent25f:Entry:=spOf fs25f inv25f
theorem e25f:EntryOk Try.prog 25 ent25f:=entry_of ok25f inv25f
@[push_cast] theorem ent25f_app (us:List SV) (look:Look) (x:Nat->Xf.Loc) (k:Nat):ent25f us look x k=spOf fs25f inv25f us look x k:=rfl
def fs25u:FS where
 A:=RwA
 args:=fun a=>[.ptr 0 a.F 0 0 0,.int .i64 a.w,.int .i64 a.h,.fn 44 []]
 mem:=fun a=>[some (.ro,a.F,.cells [.int .i64 a.W,.sl 1 a.LP 1 0 a.ws.length,.int .i64 a.kind]),some (.lent,a.LP,.ints .i64 a.ws)]
 pre:=fun a=>(a.kind=0∨a.kind=1)/\a.ws.length<=8192/\a.W<=200/\a.w<=a.W/\a.h<=200/\a.h*a.W<=a.ws.length/\AllIn (-375299968947541) 375299968947541 a.ws
 res:=fun a x=>.tup []
 out:=fun a _=>[none,some (some (.ints .i64 (rwL unL a.kind a.W a.w a.ws a.h)))]
 new:=fun _ _=>[]
def inv25u:List SV->Look->Option (RwA×List Nat)
 | [.ptr c _ _ _ _,.int .i64 w,.int .i64 h,.fn 44 []],look=>match rowC (look c)with
  | some (F,[.int .i64 W,.sl c1 _ 1 0 _,.int .i64 kind])=>match rowI (look c1)with
   | some (LP,.i64,ws)=>some (⟨F,LP,W.toNat,kind,ws,w.toNat,h.toNat⟩,[c,c1])
   | _=>none
  | _=>none
 | _,_=>none
attribute [push_cast] inv25u
theorem ok25u:FSOk Try.prog 25 fs25u:=by
 refine⟨⟨_,Try.func25,by kernel_rfl,by kernel_rfl⟩,fun a=>⟨by simp[fs25u,push_cast,noMine,argOwn,Chunk.frArg],by simp[fs25u,push_cast,outOk,Chunk.ext],fun x=>.inl (by simp[fs25u,push_cast,frNew,frOut,Chunk.fr])⟩,fun a hp=>?_⟩
 obtain⟨F,LP,W,kind,ws,w,h⟩:=a
 obtain⟨hk,h1,h2,h3,h4,h5,h6⟩:(kind=0∨kind=1)/\ws.length<=8192/\W<=200/\w<=W/\h<=200/\h*W<=ws.length/\AllIn (-375299968947541) 375299968947541 ws:=hp
 change Tri Try.prog 25 [.ptr 0 F 0 0 0,.int .i64 w,.int .i64 h,.fn 44 []] [some (.ro,F,.cells [.int .i64 W,.sl 1 LP 1 0 ws.length,.int .i64 kind]),some (.lent,LP,.ints .i64 ws)] (postF fs25u ⟨F,LP,W,kind,ws,w,h⟩)
 refine tri_evS (hyp (l:=[(64,ent64u)]) (lp:=[]) ⟨e64u,trivial⟩ trivial) Try.func25 comp25 (rs:=[]) (by rfl) Try.ntmps25 14 ?_
 simp -implicitDefEqProofs only[push_cast,zz,seval,ir25]
 refine evS_loopU (A:=Nat) kp25_1 kl25_1 (fun y=>[(10,.int .i64 y)]) (fun y=>[(1,.lent,LP,.ints .i64 (rwL unL kind W w ws y))]) (fun y=>y<=h) (fun y=>h-y) 0 (by omega) (Sub.pt ?_) ?_
 ·simp -implicitDefEqProofs only[push_cast,zz,seval,rwL]
 intro y (hy:y<=h) K hK
 have lQ:(rwL unL kind W w ws y).length=ws.length:=rwL_length ..
 have hB:=rwL_bd trn_unline (kind:=kind) h3 (m:=y) (Nat.le_trans (Nat.mul_le_mul_right _ hy) h5) h6 (by omega)
 rw[show(3*375299968947541+1:Int)=1125899906842624 by decide]at hB
 simp -implicitDefEqProofs only[push_cast,zz,seval,b25_1,fs64u,lQ]
 refine⟨fun hl=>?_,fun hl=>?_⟩
 ·have hy':y<h:=by omega
  have hm:=mul_bd (a:=(y:Int)) (b:=(W:Int)) (A:=200) (B:=200) (by omega) (by omega) (by omega) (by omega)
  have hyW:((y:Int)+1)*W<=ws.length:=by
   have h7:(y+1)*W<=ws.length:=Nat.le_trans (Nat.mul_le_mul_right _ hy') h5
   have h8:(((y+1)*W:Nat):Int)=((y:Int)+1)*W:=by simp
   omega
  rw[Int.add_mul]at hyW
  have q:alS (unL kind w (fun j=>rd (tabl w (alG (rwL unL kind W w ws y) ((y:Int)*W) 1)) j)) (rwL unL kind W w ws y) ((y:Int)*W) 1 w=rwL unL kind W w ws (y+1):=rfl
  simp only[Int.toNat_natCast,q]
  repeat refine om_ ?_
  refine hK (y+1) (by omega) (by omega) _ _ (Sub.pt ?_)
  simp -implicitDefEqProofs only[push_cast,zz,seval]
 ·obtain rfl:y=h:=by omega
  refine postF.mk' (fun _=>default) [some 0,some 1] ?_
  simp -implicitDefEqProofs only[push_cast,zz,seval,fs25u]
def ent25u:Entry:=spOf fs25u inv25u
theorem e25u:EntryOk Try.prog 25 ent25u:=entry_of ok25u inv25u
@[push_cast] theorem ent25u_app (us:List SV) (look:Look) (x:Nat->Xf.Loc) (k:Nat):ent25u us look x k=spOf fs25u inv25u us look x k:=rfl
def fs27f:FS where
 A:=RwA
 args:=fun a=>[.ptr 0 a.F 0 0 0,.int .i64 a.w,.int .i64 a.h,.fn 26 []]
 mem:=fun a=>[some (.ro,a.F,.cells [.int .i64 a.W,.sl 1 a.LP 1 0 a.ws.length,.int .i64 a.kind]),some (.lent,a.LP,.ints .i64 a.ws)]
 pre:=fun a=>(a.kind=0∨a.kind=1)/\a.ws.length<=8192/\a.W<=200/\a.w<=a.W/\a.h<=200/\a.h*a.W<=a.ws.length/\AllIn (-357913941) 357913941 a.ws
 res:=fun a x=>.tup []
 out:=fun a _=>[none,some (some (.ints .i64 (clL lineL a.kind a.W a.h a.ws a.w)))]
 new:=fun _ _=>[]
def inv27f:List SV->Look->Option (RwA×List Nat)
 | [.ptr c _ _ _ _,.int .i64 w,.int .i64 h,.fn 26 []],look=>match rowC (look c)with
  | some (F,[.int .i64 W,.sl c1 _ 1 0 _,.int .i64 kind])=>match rowI (look c1)with
   | some (LP,.i64,ws)=>some (⟨F,LP,W.toNat,kind,ws,w.toNat,h.toNat⟩,[c,c1])
   | _=>none
  | _=>none
 | _,_=>none
attribute [push_cast] inv27f
theorem ok27f:FSOk Try.prog 27 fs27f:=by
 refine⟨⟨_,Try.func27,by kernel_rfl,by kernel_rfl⟩,fun a=>⟨by simp[fs27f,push_cast,noMine,argOwn,Chunk.frArg],by simp[fs27f,push_cast,outOk,Chunk.ext],fun x=>.inl (by simp[fs27f,push_cast,frNew,frOut,Chunk.fr])⟩,fun a hp=>?_⟩
 obtain⟨F,LP,W,kind,ws,w,h⟩:=a
 obtain⟨hk,h1,h2,h3,h4,h5,h6⟩:(kind=0∨kind=1)/\ws.length<=8192/\W<=200/\w<=W/\h<=200/\h*W<=ws.length/\AllIn (-357913941) 357913941 ws:=hp
 change Tri Try.prog 27 [.ptr 0 F 0 0 0,.int .i64 w,.int .i64 h,.fn 26 []] [some (.ro,F,.cells [.int .i64 W,.sl 1 LP 1 0 ws.length,.int .i64 kind]),some (.lent,LP,.ints .i64 ws)] (postF fs27f ⟨F,LP,W,kind,ws,w,h⟩)
 refine tri_evS (hyp (l:=[(64,ent64f)]) (lp:=[]) ⟨e64f,trivial⟩ trivial) Try.func27 comp27 (rs:=[]) (by rfl) Try.ntmps27 14 ?_
 simp -implicitDefEqProofs only[push_cast,zz,seval,ir27]
 refine evS_loopU (A:=Nat) kp27_1 kl27_1 (fun y=>[(10,.int .i64 y)]) (fun y=>[(1,.lent,LP,.ints .i64 (clL lineL kind W h ws y))]) (fun y=>y<=w) (fun y=>w-y) 0 (by omega) (Sub.pt ?_) ?_
 ·simp -implicitDefEqProofs only[push_cast,zz,seval,clL]
 intro y (hy:y<=w) K hK
 have lQ:(clL lineL kind W h ws y).length=ws.length:=clL_length ..
 have hB:=clL_bd trn_line (kind:=kind) h5 (m:=y) (Nat.le_trans hy h3) h6 (by omega)
 rw[show(3*357913941+1:Int)=1073741824 by decide]at hB
 simp -implicitDefEqProofs only[push_cast,zz,seval,b27_1,fs64f,lQ]
 refine⟨fun hl=>?_,fun hl=>?_⟩
 ·have hy':y<w:=by omega
  have hin:∀ i:Nat,i<h->(y:Int)+i*W<ws.length:=fun i hi=>by
   have h7:(i+1)*W<=ws.length:=Nat.le_trans (Nat.mul_le_mul_right _ hi) h5
   have h8:(((i+1)*W:Nat):Int)=(i:Int)*W+W:=by rw[Nat.add_mul];simp
   omega
  have q:alS (lineL kind h (fun j=>rd (tabl h (alG (clL lineL kind W h ws y) (y:Int) W)) j)) (clL lineL kind W h ws y) (y:Int) W h=clL lineL kind W h ws (y+1):=rfl
  simp only[Int.toNat_natCast,q]
  repeat refine om_ ?_
  refine hK (y+1) (by omega) (by omega) _ _ (Sub.pt ?_)
  simp -implicitDefEqProofs only[push_cast,zz,seval]
 ·obtain rfl:y=w:=by omega
  refine postF.mk' (fun _=>default) [some 0,some 1] ?_
  simp -implicitDefEqProofs only[push_cast,zz,seval,fs27f]
def ent27f:Entry:=spOf fs27f inv27f
theorem e27f:EntryOk Try.prog 27 ent27f:=entry_of ok27f inv27f
@[push_cast] theorem ent27f_app (us:List SV) (look:Look) (x:Nat->Xf.Loc) (k:Nat):ent27f us look x k=spOf fs27f inv27f us look x k:=rfl
def fs27u:FS where
 A:=RwA
 args:=fun a=>[.ptr 0 a.F 0 0 0,.int .i64 a.w,.int .i64 a.h,.fn 44 []]
 mem:=fun a=>[some (.ro,a.F,.cells [.int .i64 a.W,.sl 1 a.LP 1 0 a.ws.length,.int .i64 a.kind]),some (.lent,a.LP,.ints .i64 a.ws)]
 pre:=fun a=>(a.kind=0∨a.kind=1)/\a.ws.length<=8192/\a.W<=200/\a.w<=a.W/\a.h<=200/\a.h*a.W<=a.ws.length/\AllIn (-375299968947541) 375299968947541 a.ws
 res:=fun a x=>.tup []
 out:=fun a _=>[none,some (some (.ints .i64 (clL unL a.kind a.W a.h a.ws a.w)))]
 new:=fun _ _=>[]
def inv27u:List SV->Look->Option (RwA×List Nat)
 | [.ptr c _ _ _ _,.int .i64 w,.int .i64 h,.fn 44 []],look=>match rowC (look c)with
  | some (F,[.int .i64 W,.sl c1 _ 1 0 _,.int .i64 kind])=>match rowI (look c1)with
   | some (LP,.i64,ws)=>some (⟨F,LP,W.toNat,kind,ws,w.toNat,h.toNat⟩,[c,c1])
   | _=>none
  | _=>none
 | _,_=>none
attribute [push_cast] inv27u
theorem ok27u:FSOk Try.prog 27 fs27u:=by
 refine⟨⟨_,Try.func27,by kernel_rfl,by kernel_rfl⟩,fun a=>⟨by simp[fs27u,push_cast,noMine,argOwn,Chunk.frArg],by simp[fs27u,push_cast,outOk,Chunk.ext],fun x=>.inl (by simp[fs27u,push_cast,frNew,frOut,Chunk.fr])⟩,fun a hp=>?_⟩
 obtain⟨F,LP,W,kind,ws,w,h⟩:=a
 obtain⟨hk,h1,h2,h3,h4,h5,h6⟩:(kind=0∨kind=1)/\ws.length<=8192/\W<=200/\w<=W/\h<=200/\h*W<=ws.length/\AllIn (-375299968947541) 375299968947541 ws:=hp
 change Tri Try.prog 27 [.ptr 0 F 0 0 0,.int .i64 w,.int .i64 h,.fn 44 []] [some (.ro,F,.cells [.int .i64 W,.sl 1 LP 1 0 ws.length,.int .i64 kind]),some (.lent,LP,.ints .i64 ws)] (postF fs27u ⟨F,LP,W,kind,ws,w,h⟩)
 refine tri_evS (hyp (l:=[(64,ent64u)]) (lp:=[]) ⟨e64u,trivial⟩ trivial) Try.func27 comp27 (rs:=[]) (by rfl) Try.ntmps27 14 ?_
 simp -implicitDefEqProofs only[push_cast,zz,seval,ir27]
 refine evS_loopU (A:=Nat) kp27_1 kl27_1 (fun y=>[(10,.int .i64 y)]) (fun y=>[(1,.lent,LP,.ints .i64 (clL unL kind W h ws y))]) (fun y=>y<=w) (fun y=>w-y) 0 (by omega) (Sub.pt ?_) ?_
 ·simp -implicitDefEqProofs only[push_cast,zz,seval,clL]
 intro y (hy:y<=w) K hK
 have lQ:(clL unL kind W h ws y).length=ws.length:=clL_length ..
 have hB:=clL_bd trn_unline (kind:=kind) h5 (m:=y) (Nat.le_trans hy h3) h6 (by omega)
 rw[show(3*375299968947541+1:Int)=1125899906842624 by decide]at hB
 simp -implicitDefEqProofs only[push_cast,zz,seval,b27_1,fs64u,lQ]
 refine⟨fun hl=>?_,fun hl=>?_⟩
 ·have hy':y<w:=by omega
  have hin:∀ i:Nat,i<h->(y:Int)+i*W<ws.length:=fun i hi=>by
   have h7:(i+1)*W<=ws.length:=Nat.le_trans (Nat.mul_le_mul_right _ hi) h5
   have h8:(((i+1)*W:Nat):Int)=(i:Int)*W+W:=by rw[Nat.add_mul];simp
   omega
  have q:alS (unL kind h (fun j=>rd (tabl h (alG (clL unL kind W h ws y) (y:Int) W)) j)) (clL unL kind W h ws y) (y:Int) W h=clL unL kind W h ws (y+1):=rfl
  simp only[Int.toNat_natCast,q]
  repeat refine om_ ?_
  refine hK (y+1) (by omega) (by omega) _ _ (Sub.pt ?_)
  simp -implicitDefEqProofs only[push_cast,zz,seval]
 ·obtain rfl:y=w:=by omega
  refine postF.mk' (fun _=>default) [some 0,some 1] ?_
  simp -implicitDefEqProofs only[push_cast,zz,seval,fs27u]
def ent27u:Entry:=spOf fs27u inv27u
theorem e27u:EntryOk Try.prog 27 ent27u:=entry_of ok27u inv27u
@[push_cast] theorem ent27u_app (us:List SV) (look:Look) (x:Nat->Xf.Loc) (k:Nat):ent27u us look x k=spOf fs27u inv27u us look x k:=rfl
def ir21:IR:=
 .seq (r_ [o_ 3 (.box 10 (.t 0)),z_ 6 0] [0,6]) (.seq (.block 0 (.seq (r_ [o_ 8 (.ld false (some 3) 0 0 (.t 3)),o_ 9 (.call (some 4) 11 28 [.t 8]),o_ 10 (.not (.t 9)),m_ 7 10] [3,8,9,10]) (.cond (.t 7) (.seq (r_ [z_ 6 70] [1,2,7]) (.ret)) (.seq (r_ [m_ 12 1,o_ 13 (.callp 61 [.t 12]),o_ 14 (.not (.t 13)),m_ 15 14,q_ 15 (m_ 16 2),q_ 15 (c_ 17 .lss 16 0),k_ 18 15 17,m_ 19 18,q_ 19 (m_ 20 2),q_ 19 (c_ 21 .gtr 20 6),k_ 22 19 21,m_ 11 22] [1,2,7,12,13,14,15,16,17,18,19,20,21,22]) (.cond (.t 11) (.seq (r_ [z_ 6 2] [11]) (.ret)) (.skip)))))) (.seq (r_ [z_ 6 0] [11]) (.ret)))
set_option maxRecDepth 4000 in
theorem comp21:(Try.f21.body.bind fun c=>compC tab isP chkAll ir21 c)=some ir21:=by kernel_rfl
def b7_1:IR:=
 .seq (r_ [b_ 41 .lss 40 39] []) (.seq (.cond (.t 41) (.skip) (.exit 0)) (.seq (.block 1 (.seq (r_ [i_ 42 38 40 2,o_ 43 (.ld true (some 2) 0 0 (.t 42)),o_ 11 (.allocI 29 .i64 2),S_ 2 .i64 11 43] [41,42,43]) (.seq (r_ [m_ 44 9,o_ 45 (.idxP (.t 11) (Z_ 0) 2 1),L_ 46 45,o_ 47 (.idxP (.t 11) (Z_ 1) 2 1),L_ 48 47,o_ 49 (.call none 30 25 [.t 44,.t 46,.t 48,.k (.fn 26 [])])] [44,45,46,47,48,49]) (r_ [m_ 50 9,o_ 51 (.idxP (.t 11) (Z_ 0) 2 1),L_ 52 51,o_ 53 (.idxP (.t 11) (Z_ 1) 2 1),L_ 54 53,o_ 55 (.call none 34 27 [.t 50,.t 52,.t 54,.k (.fn 26 [])])] [11,50,51,52,53,54,55])))) (r_ [a_ 56 40 1,m_ 40 56] [56])))
def r7_2:IR:=
 .seq (R_ [f_ 57 3 0,l_ 58 57,f_ 59 3 1,l_ 60 59,m_ 61 9,n_ 62 61,f_ 63 62 1,l_ 64 63,o_ 65 (.build [y_,y_,nilSV] [(0,1,.t 58),(1,1,.t 60),(2,1,.t 64)]),s_ 3 .i64 6 65,z_ 7 0] [3,9,38,39,40,57,58,59,60,61,62,63,64,65]) (.ret)
def ir7:IR:=
 .seq (r_ [o_ 3 (.box 10 (.t 0)),o_ 6 (.alloc 11 [y_,y_,nilSV]),z_ 7 0] [0,7]) (.seq (.seq (r_ [o_ 12 (.ld false (some 3) 0 0 (.t 3)),m_ 13 1,m_ 14 2,o_ 15 (.call (some 4) 12 21 [.t 12,.t 13,.t 14]),m_ 8 15] [12,13,14,15]) (.seq (r_ [m_ 16 8,c_ 17 .neq 16 0] [16]) (.cond (.t 17) (.seq (r_ [o_ 18 (.build [y_,y_,nilSV] []),m_ 19 8,s_ 3 .i64 6 18,m_ 7 19] [1,2,3,8,17,18,19]) (.ret)) (.skip)))) (.seq (.seq (r_ [f_ 20 3 2,l_ 21 20,o_ 22 (.call (some 4) 16 22 [.t 21,Z_ 1024]),o_ 23 (.not (.t 22))] [7,8,17,20,21,22]) (.cond (.t 23) (.seq (r_ [o_ 24 (.build [y_,y_,nilSV] []),s_ 3 .i64 6 24,z_ 7 2] [1,2,3,23,24]) (.ret)) (.skip))) (.seq (R_ [f_ 25 3 0,⟨some 26,none,⟨[20,21,22,23],[]⟩,.ld false none 0 0 (.t 25)⟩,f_ 27 3 2,l_ 28 27,o_ 29 (.call (some 4) 20 23 [.t 28]),m_ 30 1,o_ 31 (.build [y_,nilSV,y_] [(0,1,.t 26),(1,1,.t 29),(2,1,.t 30)]),o_ 32 (.box 24 (.t 31)),m_ 9 32] [1,7,23,25,26,27,28,29,30,31,32]) (.seq (.seq (r_ [f_ 33 3 0,l_ 34 33,f_ 35 3 1,l_ 36 35,m_ 37 2,o_ 38 (.call (some 4) 25 24 [.t 34,.t 36,.t 37]),h_ 39 38,z_ 40 0] [2,33,34,35,36,37]) (.block 0 (.loop b7_1))) (r7_2)))))
def kp7_1:List Nat:=[3,6,9,38,39,40]
def kl7_1:List Nat:=[29,30,31,32,33,34,35,36,37]
attribute [push_cast] kp7_1 kl7_1
set_option maxRecDepth 4000 in
theorem comp7:(Try.f7.body.bind fun c=>compC tab isP chkAll ir7 c)=some ir7:=by kernel_rfl
def stOk (kind n:Int):Prop:=(kind=0∨kind=1)/\0<=n/\n<=6
instance (kind n:Int):Decidable (stOk kind n):=by unfold stOk;infer_instance
def askE (p:Pl) (kind n:Int):Int:=if p.Ok then if stOk kind n then 0 else 2 else 70
def fs21:FS where
 A:=AskA
 args:=fun a=>[plV a.a.p a.a.L 0,.int .i64 a.kind,.int .i64 a.n]
 mem:=fun a=>[some (.ro,a.a.L,.ints .i64 a.a.p.xs)]
 pre:=fun a=>a.a.p.xs.length<=140737488355328
 res:=fun a x=>.int .i64 (askE a.a.p a.kind a.n)
 out:=fun _ _=>[]
 new:=fun _ _=>[]
def inv21:List SV->Look->Option (AskA×List Nat)
 | [v,.int .i64 k,.int .i64 n],look=>match getP look v with
  | some (a,g)=>some (⟨a,k,n⟩,g)
  | _=>none
 | _,_=>none
attribute [push_cast] inv21
theorem ok21:FSOk Try.prog 21 fs21:=by
 refine⟨⟨_,Try.func21,by kernel_rfl,by kernel_rfl⟩,fun a=>⟨by simp[fs21,push_cast,noMine,argOwn,Chunk.frArg],by simp[fs21,push_cast,outOk,Chunk.ext],fun x=>.inl (by simp[fs21,push_cast,frNew,frOut,Chunk.fr])⟩,fun a hp=>?_⟩
 obtain⟨⟨⟨w,h,xs⟩,L⟩,kind,n⟩:=a
 change xs.length<=140737488355328 at hp
 change Tri Try.prog 21 [plV ⟨w,h,xs⟩ L 0,.int .i64 kind,.int .i64 n] [some (.ro,L,.ints .i64 xs)] (postF fs21 ⟨⟨⟨w,h,xs⟩,L⟩,kind,n⟩)
 refine tri_evS (hyp (l:=[(28,ent28)]) (lp:=[(61,kindF)]) ⟨e28,trivial⟩ ⟨p61,trivial⟩) Try.func21 comp21 (rs:=[.tmp 6]) (by rfl) Try.ntmps21 15 ?_
 simp -implicitDefEqProofs only[push_cast,zz,seval,ir21,fs28]
 refine fun X=>⟨hp,fun hn=>?_,fun hy=>⟨fun hb=>?_,fun hg=>?_⟩⟩
 ·refine postF.mk' (fun _=>default) [some 0] ?_
  simp -implicitDefEqProofs only[push_cast,zz,seval,fs21,askE,hn,if_false]
 ·have e:¬ stOk kind n:=fun H=>by obtain⟨q1,q2,q3⟩:=H;simp[q1]at hb;omega
  refine postF.mk' (fun _=>default) [some 0] ?_
  simp -implicitDefEqProofs only[push_cast,zz,seval,fs21,askE,hy,e,if_false,if_true]
 ·have e:stOk kind n:=⟨Classical.byContradiction fun q=>hg (.inl (.inl q)),Classical.byContradiction fun q=>hg (.inl (.inr (by omega))),Classical.byContradiction fun q=>hg (.inr (by omega))⟩
  refine postF.mk' (fun _=>default) [some 0] ?_
  simp -implicitDefEqProofs only[push_cast,zz,seval,fs21,askE,hy,e,if_true]
def ent21:Entry:=spOf fs21 inv21
theorem e21:EntryOk Try.prog 21 ent21:=entry_of ok21 inv21
@[push_cast] theorem ent21_app (us:List SV) (look:Look) (x:Nat->Xf.Loc) (k:Nat):ent21 us look x k=spOf fs21 inv21 us look x k:=rfl
def fwOk (p:Pl) (kind n:Int):Prop:=p.Ok/\stOk kind n/\AllIn (-1024) 1024 p.xs
instance (p:Pl) (kind n:Int):Decidable (fwOk p kind n):=by unfold fwOk;infer_instance
def fwP (p:Pl) (kind n:Int):Pl:=if fwOk p kind n then ⟨p.w,p.h,fwd lineL kind p.w.toNat p.h.toNat p.xs n.toNat⟩else pl0
def fwE (p:Pl) (kind n:Int):Int:=if fwOk p kind n then 0 else if p.Ok then 2 else 70
theorem Pl.nat {w h:Int} {xs:List Int} (hs:SidesOk w h) (hl:(xs.length:Int)=w*h):∃ W H:Nat,w=W/\h=H/\W<=200/\H<=200/\xs.length=H*W/\xs.length<=8192:=by
 obtain⟨a1,a2,a3,a4,a5⟩:=id hs
 obtain⟨W,rfl⟩:∃ n:Nat,w=(n:Int):=⟨w.toNat,by omega⟩
 obtain⟨H,rfl⟩:∃ n:Nat,h=(n:Int):=⟨h.toNat,by omega⟩
 refine⟨W,H,rfl,rfl,by omega,by omega,?_,by omega⟩
 rw[Nat.mul_comm,<-Int.ofNat_inj];simp only[Int.natCast_mul];exact hl
theorem fwd_bd6 {kind:Int} {W H:Nat} {xs:List Int} (hl:xs.length=H*W) (h:AllIn (-1024) 1024 xs) {i:Nat} (hi:i<=5):AllIn (-357913941) 357913941 (fwd lineL kind W H xs i) /\
  ∀ (w h:Nat),w<=W->h<=H->AllIn (-357913941) 357913941 (rwL lineL kind W w (fwd lineL kind W H xs i) h):=by
 have hB:=fwd_bd trn_line (kind:=kind) (W:=W) (h:=H) (by omega) h (by omega) i
 have h0:(0:Int)<=bnd 1024 i:=bnd_pos (by omega) i
 have key:∀ i:Nat,i<=5->3*bnd 1024 i+1<=357913941:=by
  intro i hi
  have:i=0∨i=1∨i=2∨i=3∨i=4∨i=5:=by omega
  rcases this with rfl | rfl | rfl | rfl | rfl | rfl<;>decide
 have k:=key i hi
 have up:∀ (B:Int) (ys:List Int),B<=357913941->AllIn (-B) B ys->AllIn (-357913941) 357913941 ys:=fun B ys hB h n hn=>by have:=h n hn;omega
 refine⟨up _ _ (by omega) hB,fun w h hw hh=>up _ _ k (rwL_bd trn_line hw (by rw[fwd_length,hl];exact Nat.mul_le_mul_right _ hh) hB h0)⟩
def fs7:FS where
 A:=AskA
 args:=fun a=>[plV a.a.p a.a.L 0,.int .i64 a.kind,.int .i64 a.n]
 mem:=fun a=>[some (.ro,a.a.L,.ints .i64 a.a.p.xs)]
 pre:=fun a=>a.a.p.xs.length<=140737488355328
 res:=fun a x=>.tup [plV (fwP a.a.p a.kind a.n) (lx (fwOk a.a.p a.kind a.n) x 0) 1,.int .i64 (fwE a.a.p a.kind a.n)]
 out:=fun _ _=>[]
 new:=fun a x=>[(lx (fwOk a.a.p a.kind a.n) x 0,.ints .i64 (fwP a.a.p a.kind a.n).xs)]
theorem ok7:FSOk Try.prog 7 fs7:=by
 refine⟨⟨_,Try.func7,by kernel_rfl,by kernel_rfl⟩,fun a=>⟨by simp[fs7,push_cast,noMine,argOwn,Chunk.frArg],by simp[fs7,push_cast,outOk,Chunk.ext],fun x=>.inl (by simp[fs7,push_cast,frNew,frOut,Chunk.fr])⟩,fun a hp=>?_⟩
 obtain⟨⟨⟨w,h,xs⟩,L⟩,kind,n⟩:=a
 change xs.length<=140737488355328 at hp
 change Tri Try.prog 7 [plV ⟨w,h,xs⟩ L 0,.int .i64 kind,.int .i64 n] [some (.ro,L,.ints .i64 xs)] (postF fs7 ⟨⟨⟨w,h,xs⟩,L⟩,kind,n⟩)
 refine tri_evS (hyp (l:=[(21,ent21),(22,ent22),(23,ent23),(24,ent24),(25,ent25f),(27,ent27f)]) (lp:=[])
  ⟨e21,e22,e23,e24,e25f,e27f,trivial⟩ trivial) Try.func7 comp7 (rs:=[.cell 6 (some 3),.tmp 7]) (by rfl) Try.ntmps7 37 ?_
 simp -implicitDefEqProofs only[push_cast,zz,seval,ir7,fs21,fs22]
 by_cases hO:(⟨w,h,xs⟩:Pl).Ok/\stOk kind n
 ·obtain⟨hO,hS⟩:=hO
  have hE:askE ⟨w,h,xs⟩ kind n=0:=by unfold askE;rw[if_pos hO,if_pos hS]
  simp -implicitDefEqProofs only[push_cast,zz,seval,hE,hp]
  intro X
  repeat refine om_ ?_
  refine⟨fun hb=>?_,fun hg X1=>?_⟩
  ·have e:¬ fwOk ⟨w,h,xs⟩ kind n:=fun H=>hb H.2.2
   refine postF.mk' (fun _=>default) [some 0,none] ?_
   simp -implicitDefEqProofs only[push_cast,zz,seval,fs7,fwP,fwE,e,hO,if_false,if_true,lx,pl0]
  have e:fwOk ⟨w,h,xs⟩ kind n:=⟨hO,hS,hg⟩
  obtain⟨hs,hl,ha⟩:SidesOk w h/\(xs.length:Int)=w*h/\AllIn (-16777216) 16777216 xs:=id hO
  obtain⟨W,H,rfl,rfl,hW,hH,hl2,hl3⟩:=Pl.nat hs hl
  obtain⟨hk,hn0,hn6⟩:=id hS
  obtain⟨n,rfl⟩:∃ m:Nat,n=(m:Int):=⟨n.toNat,by omega⟩
  simp -implicitDefEqProofs only[push_cast,zz,seval,fs23,fs24,Int.toNat_natCast]
  repeat refine om_ ?_
  intro X2
  repeat refine om_ ?_
  refine evS_loopU (A:=Nat) kp7_1 kl7_1 (fun i=>[(40,.int .i64 i)]) (fun i=>[(20,.mine,X1 4 20,.ints .i64 (fwd lineL kind W H xs i))]) (fun i=>i<=n) (fun i=>n-i) 0 (by omega) (Sub.pt ?_) ?_
  ·simp -implicitDefEqProofs only[push_cast,zz,seval,fwd]
  intro i (hi:i<=n) K hK
  have hL:=fwd_length lineL kind W H xs i
  have b1:=hlf_le W i
  have b2:=hlf_le H i
  by_cases hi':i<n
  ·obtain⟨f1,f2⟩:=fwd_bd6 (kind:=kind) hl2 hg (i:=i) (by omega)
   have f2:=f2 (hlf W i) (hlf H i) b1 b2
   have hR:=rwL_length lineL kind W (hlf W i) (fwd lineL kind W H xs i) (hlf H i)
   have q:clL lineL kind W (hlf H i) (rwL lineL kind W (hlf W i) (fwd lineL kind W H xs i) (hlf H i)) (hlf W i)=fwd lineL kind W H xs (i+1):=rfl
   have hm:hlf H i*W<=xs.length:=by rw[hl2];exact Nat.mul_le_mul_right _ b2
   have r1:=recAt_tabR hi' (sdR W H) []
   have r2:esz 2 n=2:=esz_pos (by omega)
   have e0:rd [(hlf W i:Int),(hlf H i:Int)] 0=hlf W i:=rfl
   have e1:rd [(hlf W i:Int),(hlf H i:Int)] 1=hlf H i:=rfl
   simp -implicitDefEqProofs only[push_cast,zz,seval,b7_1,r7_2,e0,e1,fs25f,fs27f,r1,r2,sdR,tabR_length,hL,hR,hi',hk,f1,f2,q,Int.toNat_natCast]
   refine⟨fun _ X3=>?_,fun hl=>by omega⟩
   repeat refine om_ ?_
   refine hK (i+1) (by omega) (by omega) _ _ (Sub.pt ?_)
   simp -implicitDefEqProofs only[push_cast,zz,seval,r2]
  ·obtain rfl:i=n:=by omega
   clear hK
   simp -implicitDefEqProofs only[push_cast,zz,seval,b7_1,r7_2,hL,Int.lt_irrefl,true_implies,true_and]
   refine postF.mk' (locs [X1 4 20]) [some 0,some 20] ?_
   simp -implicitDefEqProofs only[push_cast,zz,seval,fs7,fwP,fwE,e,hL,Int.toNat_natCast,if_true,lx]
 ·have e:¬ fwOk ⟨w,h,xs⟩ kind n:=fun H=>hO ⟨H.1,H.2.1⟩
  obtain⟨c,hcc,hc0,hc1⟩:∃ c:Int,askE ⟨w,h,xs⟩ kind n=c/\¬ c=0/\(if (⟨w,h,xs⟩:Pl).Ok then (2:Int)else 70)=c:=by
   refine⟨_,rfl,?_,?_⟩
   ·unfold askE;split
    ·rename_i hq;rw[if_neg (fun q=>hO ⟨hq,q⟩)];decide
    ·decide
   ·unfold askE;split
    ·rename_i hq;rw[if_neg (fun q=>hO ⟨hq,q⟩)]
    ·rfl
  simp -implicitDefEqProofs only[push_cast,zz,seval,hcc,hp,hc0]
  refine fun X=>postF.mk' (fun _=>default) [some 0,none] ?_
  simp -implicitDefEqProofs only[push_cast,zz,seval,fs7,fwP,fwE,e,hc1,if_false,lx,pl0]
def ent7:Entry:=spOf fs7 inv21
theorem e7:EntryOk Try.prog 7 ent7:=entry_of ok7 inv21
@[push_cast] theorem ent7_app (us:List SV) (look:Look) (x:Nat->Xf.Loc) (k:Nat):ent7 us look x k=spOf fs7 inv21 us look x k:=rfl
def inBd (b:Bd) (r c:Int):Bool:=decide (b.x<=c/\c<b.x+b.w/\b.y<=r/\r<b.y+b.h)
def cov (l:List Bd) (r c:Int):Nat:=l.countP fun b=>inBd b r c
theorem cov_app (l m:List Bd) (r c:Int):cov (l++m) r c=cov l r c+cov m r c:=List.countP_append
theorem cov_one (b:Bd) (r c:Int):cov [b] r c=if b.x<=c/\c<b.x+b.w/\b.y<=r/\r<b.y+b.h then 1 else 0:=by
 unfold cov inBd
 by_cases h:b.x<=c/\c<b.x+b.w/\b.y<=r/\r<b.y+b.h<;>simp[h]
theorem cov_three (a b d:Bd) (r c:Int):cov [a,b,d] r c=cov [a] r c+(cov [b] r c+cov [d] r c):=by
 rw[<-cov_app,<-cov_app];rfl
theorem three_sum {W H w h r c:Int} (h1:0<=w) (h2:w<=W) (h3:0<=h) (h4:h<=H) (hr:0<=r) (hc:0<=c) :
  (if r<h/\c<w then 1 else 0)+((if w<=c/\c<w+(W-w)/\0<=r/\r<0+h then 1 else 0)+((if 0<=c/\c<0+w/\h<=r/\r<h+(H-h)then 1 else 0)+(if w<=c/\c<w+(W-w)/\h<=r/\r<h+(H-h)then 1 else 0)))=if r<H/\c<W then 1 else (0:Nat):=by
 by_cases a:c<w<;>by_cases b:r<h<;>by_cases A:c<W<;>by_cases B:r<H <;>
  simp[a,b,A,B,hr,hc,show w<=c↔¬ c<w by omega,show h<=r↔¬ r<h by omega,show w+(W-w)=W by omega,show h+(H-h)=H by omega]<;>omega
theorem cov_down (w h n:Nat) (r c:Int) (hr:0<=r) (hc:0<=c):∀ k,k<=n->cov (bdD w h n k) r c=if r<hlf h (n-k)/\c<hlf w (n-k)then 1 else 0
 | 0,_=>by
  rw[bdD,cov_one]
  simp only[bd0,Nat.sub_zero,Int.zero_add,hr,hc,true_and]
  by_cases a:c<hlf w n<;>by_cases b:r<hlf h n<;>simp[a,b]
 | k+1,hk=>by
  obtain⟨i,hi⟩:∃ i,n-k=i+1:=⟨n-k-1,by omega⟩
  have hi2:n-(k+1)=i:=by omega
  rw[bdD,cov_app,cov_down w h n r c hr hc k (by omega),hi,hi2,bd3,cov_three,cov_one,cov_one,cov_one]
  simp only[Nat.add_sub_cancel]
  exact three_sum (by omega) (by have:=hlf_mono w i;omega) (by omega) (by have:=hlf_mono h i;omega) hr hc
theorem gone_out {b:Bd} (h:b.gone=true) (hk:b.ok) (r c:Int):inBd b r c=false:=by
 obtain⟨h1,h2,h3,h4⟩:=hk
 unfold Bd.gone at h
 rw[decide_eq_true_eq,Int.mul_eq_zero]at h
 unfold inBd
 rw[decide_eq_false_iff_not]
 omega
theorem cov_kept {l:List Bd} (hl:∀ x∈l,x.ok) (r c:Int):cov (keptBd l) r c=cov l r c:=by
 unfold cov keptBd
 rw[List.countP_filter]
 refine List.countP_congr fun b hb=>?_
 cases hg:b.gone with
 | false=>simp
 | true=>simp[gone_out hg (hl b hb) r c]
theorem cov_all {w h n:Nat} (hw:w<=200) (hh:h<=200) (r c:Nat) (hr:r<h) (hc:c<w):cov (keptBd (bdD w h n n)) r c=1:=by
 rw[cov_kept (bdD_ok hw hh n (Nat.le_refl n)),cov_down w h n r c (by omega) (by omega) n (Nat.le_refl n),Nat.sub_self,if_pos]
 simp only[hlf];omega
theorem rdB_lt (xs:List Bool) (k:Nat) (h:k<xs.length):rdB xs (k:Nat)=xs[k]:=by simp[rdB,h]
theorem bkOf_at (f:Nat->Xf.Loc) {l:List Pb} {i:Nat} (h:i<l.length):rdBk (bkOf f l) i=⟨f i,l.getD i default,false⟩:=by
 rw[rdBk_nat (by rw[bkOf_len];exact h)]
 unfold bkOf
 simp
def v4 (code:List Int) (o:Int):Int:=bytA code o*16777216+bytA code (o+1)*65536+bytA code (o+2)*256+bytA code (o+3)
theorem v4_shift {code:List Int} (h:byAll code) {o:Int} (h0:0<=o):shiftV code (o+4) (v4 code o)=v4 code (o+1):=by
 have b0:=bytA_bd h h0
 have b1:=bytA_bd h (i:=o+1) (by omega)
 have b2:=bytA_bd h (i:=o+2) (by omega)
 have b3:=bytA_bd h (i:=o+3) (by omega)
 have b4:=bytA_bd h (i:=o+4) (by omega)
 unfold shiftV v4
 rw[show o+1+1=o+2 by omega,show o+1+2=o+3 by omega,show o+1+3=o+4 by omega]
 omega
theorem v4_div {code:List Int} (h:byAll code) {o:Int} (h0:0<=o):v4 code o=bytA code o*16777216+v4 code (o+1) / 256/\0<=v4 code (o+1)/\v4 code (o+1)<4294967296:=by
 have b0:=bytA_bd h h0
 have b1:=bytA_bd h (i:=o+1) (by omega)
 have b2:=bytA_bd h (i:=o+2) (by omega)
 have b3:=bytA_bd h (i:=o+3) (by omega)
 have b4:=bytA_bd h (i:=o+4) (by omega)
 unfold v4
 rw[show o+1+1=o+2 by omega,show o+1+2=o+3 by omega,show o+1+3=o+4 by omega]
 omega
theorem vN_v4 {code:List Int} (h:byAll code):vN code 4=v4 code 0:=by
 have b0:=bytA_bd h (i:=0) (by omega)
 have b1:=bytA_bd h (i:=1) (by omega)
 have b2:=bytA_bd h (i:=2) (by omega)
 have b3:=bytA_bd h (i:=3) (by omega)
 have e:vN code 4=shiftV code 3 (shiftV code 2 (shiftV code 1 (shiftV code 0 0))):=rfl
 have e1:(0:Int)+1=1:=rfl
 have e2:(0:Int)+2=2:=rfl
 have e3:(0:Int)+3=3:=rfl
 rw[e]
 unfold shiftV v4
 rw[e1,e2,e3]
 omega
theorem norm_fut {code:List Int} (hb:byAll code):∀ (n:Nat) (l h o:Int),0<=o->nrm n l h->(∀ j:Nat,j<(normP n l h).1.length->bytA code (o+j)=rd (normP n l h).1 j) ->
  (normP n l h).2.1<=v4 code (o+(normP n l h).1.length)->v4 code (o+(normP n l h).1.length)<=(normP n l h).2.2->l<=v4 code o/\v4 code o<=h
 | n,l,h,o,ho,H,hj,h1,h2=>by
  by_cases e:l / 16777216=h / 16777216
  ·cases n with
   | zero=>exact absurd e (nrm_0 H)
   | succ n=>
    rw[norm_yes e]at hj h1 h2
    simp only[List.length_cons]at hj h1 h2
    have ih:=norm_fut hb n (l % 16777216*256) (h % 16777216*256+255) (o+1) (by omega) (nrm_step H e) (fun j hj'=>by
     have:=hj (j+1) (by omega)
     rw[show o+1+(j:Int)=o+((j+1:Nat):Int) by omega,this]
     simp[rd]) (by rw[show o+1+((normP n (l % 16777216*256) (h % 16777216*256+255)).1.length:Int)=o+(((normP n (l % 16777216*256) (h % 16777216*256+255)).1.length+1:Nat):Int) by omega];exact h1)
     (by rw[show o+1+((normP n (l % 16777216*256) (h % 16777216*256+255)).1.length:Int)=o+(((normP n (l % 16777216*256) (h % 16777216*256+255)).1.length+1:Nat):Int) by omega];exact h2)
    have h0:=hj 0 (by omega)
    simp only[rd]at h0
    have hd:=v4_div hb ho
    have h0':bytA code o=l / 16777216:=by
     have e0:o+((0:Nat):Int)=o:=by omega
     rw[e0]at h0
     rw[h0];rfl
    rw[h0']at hd
    obtain⟨_,g1,g2,g3,_,_⟩:=H
    omega
  ·rw[norm_no n e]at h1 h2
   simp only[List.length_nil]at h1 h2
   have e0:o+((0:Nat):Int)=o:=by omega
   rw[e0]at h1 h2
   exact⟨h1,h2⟩
theorem normD_v4 {code:List Int} (hb:byAll code):∀ (n:Nat) (l h o:Int),0<=o->normD code n l h (o+4) (v4 code o)=((normP n l h).2.1,(normP n l h).2.2,o+(normP n l h).1.length+4,v4 code (o+(normP n l h).1.length))
 | 0,l,h,o,ho=>by simp[normD,normP]
 | n+1,l,h,o,ho=>by
  by_cases e:l / 16777216=h / 16777216
  ·rw[normD,if_pos e,norm_yes e,v4_shift hb ho,show o+4+1=o+1+4 by omega,normD_v4 hb n _ _ (o+1) (by omega)]
   simp only[List.length_cons]
   have e1:o+1+((normP n (l % 16777216*256) (h % 16777216*256+255)).1.length:Int)=o+(((normP n (l % 16777216*256) (h % 16777216*256+255)).1.length+1:Nat):Int):=by omega
   rw[e1]
  ·rw[normD_no code (n+1) e,norm_no (n+1) e]
   simp
def Fut (code:List Int) (e:EnS):Prop:=(∃ r,code=e.out++r)/\e.low<=v4 code e.out.length/\v4 code e.out.length<=e.high
theorem byt_app {a r:List Int} {j:Nat} (h:j<a.length):bytA (a++r) (j:Nat)=rd a j:=by
 unfold bytA
 rw[if_pos (by rw[List.length_append];omega),rd_lt _ j (by rw[List.length_append];omega),rd_lt _ j h,List.getElem_append_left h]
theorem fut_norm {code:List Int} (hb:byAll code) {e:EnS} {ctx bit:Int} (H:e.ok) (h0:0<=ctx) (h1:ctx<e.st.length) (hf:Fut code (putP e ctx bit)) :
  (∃ r,code=e.out++r)/\lowP e.kind e.st e.low e.high ctx bit<=v4 code e.out.length/\v4 code e.out.length<=highP e.kind e.st e.low e.high ctx bit:=by
 obtain⟨⟨r,hr⟩,f1,f2⟩:=hf
 have hn:=nrm_part (bit:=bit) H h0 h1
 unfold putP at hr f1 f2
 simp only[List.length_append]at hr f1 f2
 refine⟨⟨_,by rw[hr,List.append_assoc]⟩,?_⟩
 refine norm_fut hb 4 _ _ e.out.length (by omega) hn (fun j hj=>?_) ?_ ?_
 ·rw[hr,show(e.out.length:Int)+j=((e.out.length+j:Nat):Int) by omega,byt_app (by rw[List.length_append];omega)]
  rw[rd_lt _ _ (by rw[List.length_append];omega),rd_lt _ j hj,List.getElem_append_right (by omega)]
  congr 1
  omega
 ·rw[show(e.out.length:Int)+((normP 4 (lowP e.kind e.st e.low e.high ctx bit) (highP e.kind e.st e.low e.high ctx bit)).1.length:Int)=((e.out.length+(normP 4 (lowP e.kind e.st e.low e.high ctx bit) (highP e.kind e.st e.low e.high ctx bit)).1.length:Nat):Int) by omega]
  exact f1
 ·rw[show(e.out.length:Int)+((normP 4 (lowP e.kind e.st e.low e.high ctx bit) (highP e.kind e.st e.low e.high ctx bit)).1.length:Int)=((e.out.length+(normP 4 (lowP e.kind e.st e.low e.high ctx bit) (highP e.kind e.st e.low e.high ctx bit)).1.length:Nat):Int) by omega]
  exact f2
theorem fut_back {code:List Int} (hb:byAll code) {e:EnS} {ctx:Int} {w:Bool} (H:e.ok) (h0:0<=ctx) (h1:ctx<e.st.length) (hf:Fut code (putP e ctx (b2i w))):Fut code e:=by
 obtain⟨h2,h3,h4⟩:=fut_norm hb H h0 h1 hf
 obtain⟨a1,a2,a3,a4,a5,a6⟩:=H
 have hc:=chP_bd (a1.at h0 h1)
 have hm:=midP_bd a3 (Int.le_of_lt a4) a5 hc.1 hc.2
 refine⟨h2,?_,?_⟩
 ·unfold lowP at h3
  split at h3<;>omega
 ·unfold highP at h4
  split at h4<;>omega
def Rel (code:List Int) (e:EnS) (d:DeS):Prop:=d=⟨e.kind,e.st,e.low,e.high,code,e.out.length+4,v4 code e.out.length,beyP code (e.out.length+4),false⟩
theorem get_put {code:List Int} (hb:byAll code) {e:EnS} {d:DeS} {ctx:Int} (w:Bool) (H:e.ok) (h0:0<=ctx) (h1:ctx<e.st.length) (hr:Rel code e d) (hf:Fut code (putP e ctx (b2i w))) :
  gotE d ctx=0/\decide (gotB d ctx=1)=w/\Rel code (putP e ctx (b2i w)) (gotS d ctx):=by
 obtain⟨g1,g2,g3⟩:=fut_norm hb H h0 h1 hf
 obtain⟨⟨r,hcr⟩,f1,f2⟩:=hf
 unfold Rel at hr
 subst hr
 have hbit:bitD ⟨e.kind,e.st,e.low,e.high,code,e.out.length+4,v4 code e.out.length,beyP code (e.out.length+4),false⟩ ctx=b2i w:=by
  unfold bitD lowP highP at *
  simp only
  cases w with
  | true=>rw[show b2i true=1 from rfl,if_pos rfl]at g3;rw[if_pos g3];rfl
  | false=>rw[show b2i false=0 from rfl,if_neg (by decide)]at g2;rw[if_neg (by omega)];rfl
 have hrun:runD ⟨e.kind,e.st,e.low,e.high,code,e.out.length+4,v4 code e.out.length,beyP code (e.out.length+4),false⟩ ctx =
   ((putP e ctx (b2i w)).low,(putP e ctx (b2i w)).high,((putP e ctx (b2i w)).out.length:Int)+4,v4 code (putP e ctx (b2i w)).out.length):=by
  unfold runD
  rw[hbit]
  simp only
  rw[normD_v4 hb 4 _ _ _ (by omega)]
  unfold putP
  simp only[List.length_append]
  push_cast
 have hlen:((putP e ctx (b2i w)).out.length:Int)<=code.length:=by rw[hcr,List.length_append];omega
 have hE:gotE ⟨e.kind,e.st,e.low,e.high,code,e.out.length+4,v4 code e.out.length,beyP code (e.out.length+4),false⟩ ctx=0:=by
  unfold gotE
  rw[hrun]
  simp only
  unfold beyP
  rw[if_neg (by decide),if_neg (by omega)]
 refine⟨hE,?_,?_⟩
 ·unfold gotB
  rw[hE,if_pos rfl,hbit]
  cases w<;>rfl
 ·unfold gotS Rel
  rw[hE,if_pos rfl,hrun,hbit]
  rfl
theorem num_fut {code:List Int} (hb:byAll code) {s:StS} {e:EnS} {i t:Int} {on dig neg:Bool} (H:e.ok) (h12:e.st.length=12) (hf:Fut code (numG putG s e i t on dig neg).2.1):Fut code e:=by
 by_cases ho:oldP s i
 ·rw[numG_enc_old ho]at hf
  have:=dctxP_bd s i
  exact fut_back hb H this.1 (by omega) hf
 ·cases on with
  | false=>rw[numG_off ho]at hf;exact hf
  | true=>
   rw[numG_enc_new ho]at hf
   have hc:=nctxP_bd s i
   split at hf
   ·have h1:=putAft H h12 hc dig
    exact fut_back hb H hc.1 (by omega) (fut_back hb h1.1 (by decide) (by rw[h1.2.2.1,h12];decide) hf)
   ·exact fut_back hb H hc.1 (by omega) hf
theorem num_sim {code:List Int} (hb:byAll code) {s:StS} {e:EnS} {d:DeS} {i t:Int} {on dig neg:Bool} (dig' neg':Bool) (H:e.ok) (h12:e.st.length=12) (hr:Rel code e d) (hf:Fut code (numG putG s e i t on dig neg).2.1) :
  (numG getG s d i t on dig' neg').1=(numG putG s e i t on dig neg).1/\(numG getG s d i t on dig' neg').2.2=0/\Rel code (numG putG s e i t on dig neg).2.1 (numG getG s d i t on dig' neg').2.1:=by
 by_cases ho:oldP s i
 ·rw[numG_enc_old ho]at hf ⊢
  rw[numG_dec_old ho]
  have hc:=dctxP_bd s i
  obtain⟨g1,g2,g3⟩:=get_put hb dig H hc.1 (by omega) hr hf
  rw[if_pos g1]
  refine⟨?_,rfl,g3⟩
  cases dig with
  | true=>rw[if_pos (of_decide_eq_true g2),if_pos rfl]
  | false=>rw[if_neg (of_decide_eq_false g2),if_neg (by decide)]
 ·cases on with
  | false=>
   rw[numG_off ho,numG_off ho]
   exact⟨rfl,rfl,hr⟩
  | true=>
   rw[numG_enc_new ho]at hf ⊢
   rw[numG_dec_new ho]
   have hc:=nctxP_bd s i
   cases dig with
   | true=>
    rw[if_pos rfl]at hf ⊢
    have h1:=putAft H h12 hc true
    have hf1:=fut_back hb h1.1 (by decide) (by rw[h1.2.2.1,h12];decide) hf
    obtain⟨g1,g2,g3⟩:=get_put hb true H hc.1 (by omega) hr hf1
    obtain⟨k1,k2,k3⟩:=get_put hb neg h1.1 (by decide) (by rw[h1.2.2.1,h12];decide) g3 hf
    rw[if_pos g1,if_pos (of_decide_eq_true g2),if_pos k1]
    refine⟨?_,rfl,k3⟩
    rw[k2]
   | false=>
    rw[if_neg (show ¬ (false=true) by decide)]at hf ⊢
    obtain⟨g1,g2,g3⟩:=get_put hb false H hc.1 (by omega) hr hf
    rw[if_pos g1,if_neg (of_decide_eq_false g2)]
    exact⟨rfl,rfl,g3⟩
theorem pls_fut {code:List Int} (hb:byAll code) (f:List Int) (t:Int) (on:Bool):∀ (l:List Int) (s:StS) (e:EnS),e.ok->e.st.length=12->Fut code (plsG putG f t on l s e).2.1->Fut code e
 | [],s,e,H,h12,hf=>hf
 | i::l,s,e,H,h12,hf=>by
  obtain⟨a1,a2⟩:=numE_aft s i t on (digP f i t) (decide (rd f i<0)) H h12
  rw[plsG,if_pos a2]at hf
  exact num_fut hb H h12 (pls_fut hb f t on l _ _ a1.1 (by rw[a1.2.2.1,h12]) hf)
theorem pls_sim {code:List Int} (hb:byAll code) (f g:List Int) (t:Int) (on:Bool):∀ (l:List Int) (s:StS) (e:EnS) (d:DeS),e.ok->e.st.length=12->Rel code e d->Fut code (plsG putG f t on l s e).2.1 ->
  (plsG getG g t on l s d).1=(plsG putG f t on l s e).1/\(plsG getG g t on l s d).2.2=0/\Rel code (plsG putG f t on l s e).2.1 (plsG getG g t on l s d).2.1
 | [],s,e,d,H,h12,hr,hf=>⟨rfl,rfl,hr⟩
 | i::l,s,e,d,H,h12,hr,hf=>by
  obtain⟨a1,a2⟩:=numE_aft s i t on (digP f i t) (decide (rd f i<0)) H h12
  have e1:plsG putG f t on (i::l) s e=plsG putG f t on l (numG putG s e i t on (digP f i t) (decide (rd f i<0))).1 (numG putG s e i t on (digP f i t) (decide (rd f i<0))).2.1:=by rw[plsG,if_pos a2]
  rw[e1]at hf ⊢
  have h12':(numG putG s e i t on (digP f i t) (decide (rd f i<0))).2.1.st.length=12:=by rw[a1.2.2.1,h12]
  have hf1:=pls_fut hb f t on l _ _ a1.1 h12' hf
  obtain⟨b1,b2,b3⟩:=num_sim hb (digP g i t) (decide (rd g i<0)) H h12 hr hf1
  rw[plsG,if_pos b2,b1]
  exact pls_sim hb f g t on l _ _ _ a1.1 h12' b3 hf
theorem bktG_put (f:List Int) (t:Int) (i:Nat) (s:StS) (e:EnS):bktG putG f t i s e=if allP s (rdBk s.list i).b.places=true then plsG putG f t false (rdBk s.list i).b.places (setOn s i false) e
 else plsG putG f t (onP s (rdBk s.list i).b.places f t) (rdBk s.list i).b.places (setOn s i (onP s (rdBk s.list i).b.places f t)) (putP e (bctxP (setOn s i false) (rdBk s.list i).b) (b2i (onP s (rdBk s.list i).b.places f t))):=by
 unfold bktG putG
 simp only[if_true]
theorem bkt_fut {code:List Int} (hb:byAll code) (f:List Int) (t:Int) (i:Nat) (s:StS) (e:EnS) (H:e.ok) (h12:e.st.length=12) (hf:Fut code (bktG putG f t i s e).2.1):Fut code e:=by
 rw[bktG_put]at hf
 split at hf
 ·exact pls_fut hb f t _ _ _ _ H h12 hf
 ·have hc:=bctxP_bd (setOn s i false) (rdBk s.list i).b
  have h1:=putAft H h12 hc (onP s (rdBk s.list i).b.places f t)
  exact fut_back hb H hc.1 (by omega) (pls_fut hb f t _ _ _ _ h1.1 (by rw[h1.2.2.1,h12]) hf)
theorem bkt_sim {code:List Int} (hb:byAll code) (f g:List Int) (t:Int) (i:Nat) (s:StS) (e:EnS) (d:DeS) (H:e.ok) (h12:e.st.length=12) (hr:Rel code e d) (hf:Fut code (bktG putG f t i s e).2.1) :
  (bktG getG g t i s d).1=(bktG putG f t i s e).1/\(bktG getG g t i s d).2.2=0/\Rel code (bktG putG f t i s e).2.1 (bktG getG g t i s d).2.1:=by
 rw[bktG_put]at hf ⊢
 rw[bktG_get]
 by_cases ha:allP s (rdBk s.list i).b.places=true
 ·rw[if_pos ha]at hf ⊢
  rw[if_pos ha]
  exact pls_sim hb f g t _ _ _ _ _ H h12 hr hf
 ·rw[if_neg ha]at hf ⊢
  rw[if_neg ha]
  have hc:=bctxP_bd (setOn s i false) (rdBk s.list i).b
  have h1:=putAft H h12 hc (onP s (rdBk s.list i).b.places f t)
  have h12':(putP e (bctxP (setOn s i false) (rdBk s.list i).b) (b2i (onP s (rdBk s.list i).b.places f t))).st.length=12:=by rw[h1.2.2.1,h12]
  have hf1:=pls_fut hb f t _ _ _ _ h1.1 h12' hf
  obtain⟨g1,g2,g3⟩:=get_put hb _ H hc.1 (by omega) hr hf1
  rw[if_pos g1,g2]
  exact pls_sim hb f g t _ _ _ _ _ h1.1 h12' g3 hf
theorem slc_fut {code:List Int} (hb:byAll code) (f:List Int) (t:Int) (t0:0<=t) (t1:t<=30) (n:Nat):∀ (k i:Nat) (s:StS) (e:EnS),stWf s n->szWf s->e.ok->e.st.length=12->i+k=s.list.length->Fut code (slcG putG f t k i s e).2.1->Fut code e
 | 0,i,s,e,_,_,_,_,_,hf=>hf
 | k+1,i,s,e,hs,hz,H,h12,hik,hf=>by
  obtain⟨k1,k2,k3,k4⟩:=bktE_inv f t t0 t1 i s e n hs hz H h12 (by omega)
  rw[slcG,if_pos k4]at hf
  exact bkt_fut hb f t i s e H h12 (slc_fut hb f t t0 t1 n k (i+1) _ _ (k1.wf hs) k2 k3.1 (by rw[k3.2.2.1,h12]) (by rw[k1.2.2.2.2.1.len];omega) hf)
theorem slc_sim {code:List Int} (hb:byAll code) (f g:List Int) (t:Int) (t0:0<=t) (t1:t<=30) (n:Nat):∀ (k i:Nat) (s:StS) (e:EnS) (d:DeS),stWf s n->szWf s->e.ok->e.st.length=12->i+k=s.list.length->Rel code e d->Fut code (slcG putG f t k i s e).2.1 ->
  (slcG getG g t k i s d).1=(slcG putG f t k i s e).1/\(slcG getG g t k i s d).2.2=0/\Rel code (slcG putG f t k i s e).2.1 (slcG getG g t k i s d).2.1
 | 0,i,s,e,d,_,_,_,_,_,hr,hf=>⟨rfl,rfl,hr⟩
 | k+1,i,s,e,d,hs,hz,H,h12,hik,hr,hf=>by
  obtain⟨k1,k2,k3,k4⟩:=bktE_inv f t t0 t1 i s e n hs hz H h12 (by omega)
  have e1:slcG putG f t (k+1) i s e=slcG putG f t k (i+1) (bktG putG f t i s e).1 (bktG putG f t i s e).2.1:=by rw[slcG,if_pos k4]
  rw[e1]at hf ⊢
  have h12':(bktG putG f t i s e).2.1.st.length=12:=by rw[k3.2.2.1,h12]
  have hik':i+1+k=(bktG putG f t i s e).1.list.length:=by rw[k1.2.2.2.2.1.len];omega
  have hf1:=slc_fut hb f t t0 t1 n k (i+1) _ _ (k1.wf hs) k2 k3.1 h12' hik' hf
  obtain⟨b1,b2,b3⟩:=bkt_sim hb f g t i s e d H h12 hr hf1
  rw[slcG,if_pos b2,b1]
  exact slc_sim hb f g t t0 t1 n k (i+1) _ _ _ (k1.wf hs) k2 k3.1 h12' hik' b3 hf
theorem wrap8 (x:Int):IntKind.u8.wrap x=x % 256:=by
 unfold IntKind.wrap
 simp[IntKind.bits,IntKind.signed]
theorem bytP_eq {g:Int} (i:Nat):bytP g i=g / 2^(24-8*(i:Int)).toNat % 256:=wrap8 _
theorem endP_rd {l g:Int} {j:Nat} (h:j<endN l g):rd (endP l g) (j:Nat)=bytP g j:=by
 rw[rd_lt _ j (by unfold endP;simpa using h)]
 simp[endP]
theorem endP_len (l g:Int):(endP l g).length=endN l g:=by simp[endP]
theorem encEnd_by {e:EnS} (h:byAll e.out):byAll (encEnd e):=fun b hb=>by
 unfold encEnd at hb
 rcases List.mem_append.1 hb with hb | hb
 ·exact h b hb
 ·unfold endP at hb
  obtain⟨i,_,rfl⟩:=List.mem_map.1 hb
  rw[bytP_eq]
  omega
theorem end_fut {e:EnS} (H:e.ok):Fut (encEnd e) e:=by
 obtain⟨a1,a2,a3,a4,a5,a6⟩:=H
 have hb:∀ j:Nat,bytA (encEnd e) ((e.out.length:Int)+j)=if j<endN e.low e.high then e.high / 2^(24-8*(j:Int)).toNat % 256 else 0:=fun j=>by
  unfold bytA encEnd
  rw[List.length_append,endP_len]
  by_cases hj:j<endN e.low e.high
  ·rw[if_pos (by omega),if_pos hj,<-bytP_eq,<-endP_rd hj,show(e.out.length:Int)+j=((e.out.length+j:Nat):Int) by omega]
   rw[rd_lt _ _ (by rw[List.length_append,endP_len];omega),rd_lt _ j (by rw[endP_len];exact hj),List.getElem_append_right (by omega)]
   congr 1
   omega
  ·rw[if_neg (by omega),if_neg hj]
 have h0:=hb 0
 have h1:=hb 1
 have h2:=hb 2
 have h3:=hb 3
 have e0:(24-8*((0:Nat):Int)).toNat=24:=rfl
 have e1:(24-8*((1:Nat):Int)).toNat=16:=rfl
 have e2:(24-8*((2:Nat):Int)).toNat=8:=rfl
 have e3:(24-8*((3:Nat):Int)).toNat=0:=rfl
 rw[e0,pw24]at h0
 rw[e1,pw16]at h1
 rw[e2,pw8]at h2
 rw[e3]at h3
 have c0:cutP e.high 0=e.high / 4294967296*4294967296:=rfl
 have c1:cutP e.high 1=e.high / 16777216*16777216:=rfl
 have c2:cutP e.high 2=e.high / 65536*65536:=rfl
 have c3:cutP e.high 3=e.high / 256*256:=rfl
 refine⟨⟨_,rfl⟩,?_⟩
 have hv:v4 (encEnd e) e.out.length=bytA (encEnd e) ((e.out.length:Int)+(0:Nat))*16777216+bytA (encEnd e) ((e.out.length:Int)+(1:Nat))*65536+bytA (encEnd e) ((e.out.length:Int)+(2:Nat))*256+bytA (encEnd e) ((e.out.length:Int)+(3:Nat)):=by
  unfold v4
  simp
 rw[hv,h0,h1,h2,h3]
 have p1:(2:Int)^0=1:=rfl
 rw[p1]
 unfold endN
 rw[c0,c1,c2,c3]
 split
 ·simp;omega
 split
 ·simp;omega
 split
 ·simp;omega
 split
 ·simp;omega
 ·simp;omega
theorem new_rel {kind:Int} {st code:List Int} (hb:byAll code):Rel code (newEn kind st) (newDe kind st code):=by
 unfold Rel newEn newDe
 simp only[List.length_nil]
 rw[vN_v4 hb]
 rfl
def tv (k:Nat) (c:Int):Int:=max c (-c) / 2^k*2^k
theorem or_even {y:Nat}:2*y ||| 1=2*y+1:=by
 have:=Nat.two_pow_add_eq_or_of_lt (i:=1) (b:=1) (by decide) y
 simpa using this.symm
theorem or_odd {y:Nat}:(2*y+1) ||| 1=2*y+1:=by
 rw[<-or_even,Nat.or_assoc,Nat.or_self]
theorem or_mul (y k:Nat):y*2^k ||| 2^k=(y ||| 1)*2^k:=by
 have h1:y*2^k=y <<< k:=(Nat.shiftLeft_eq y k).symm
 have h2:2^k=1 <<< k:=by rw[Nat.shiftLeft_eq,Nat.one_mul]
 have h3:(y ||| 1)*2^k=(y ||| 1) <<< k:=(Nat.shiftLeft_eq _ k).symm
 rw[h3,h1]
 conv=>lhs;rhs;rw[h2]
 rw[Nat.shiftLeft_or_distrib]
theorem tv_q (k:Nat) (c:Int):∃ q:Nat,max c (-c) / 2^k=q/\tv k c=((q*2^k:Nat):Int)/\tv (k+1) c=((q / 2*2*2^k:Nat):Int):=by
 obtain⟨a,ha⟩:∃ a:Nat,max c (-c)=a:=⟨(max c (-c)).toNat,by omega⟩
 have e:∀ j:Nat,(2:Int)^j=((2^j:Nat):Int):=fun j=>by simp
 refine⟨a / 2^k,?_,?_,?_⟩
 ·rw[ha,e];simp
 ·unfold tv;rw[ha,e];simp
 ·unfold tv;rw[ha,e]
  rw[show(2:Nat)^(k+1)=2^k*2 from Nat.pow_succ 2 k]
  have:a / (2^k*2)=a / 2^k / 2:=by rw[Nat.div_div_eq_div_mul]
  have e2:(((a:Int)) / ((2^k*2:Nat):Int))=((a / (2^k*2):Nat):Int):=by simp
  rw[e2,this,<-Int.natCast_mul,Nat.mul_assoc,Nat.mul_comm 2 (2^k)]
theorem orP_nat (x k:Nat):orP (x:Int) (k:Int)=((x ||| 2^k:Nat):Int):=by unfold orP;rw[Int.toNat_natCast,Int.toNat_natCast]
theorem digP_q {f:List Int} {x:Int} {k q:Nat} (h:max (rd f x) (-rd f x) / 2^k=(q:Int)):digP f x (k:Int)=decide (q % 2=1):=by
 unfold digP absI
 rw[Int.toNat_natCast,h]
 by_cases e:q % 2=1
 ·rw[decide_eq_true e,decide_eq_true];omega
 ·rw[decide_eq_false e,decide_eq_false];omega
def okAt (s:StS) (f:List Int) (k i:Nat):Prop:=
 rd s.size i=tv k (rd f i)/\(0<rd s.since i↔rd s.size i≠0)/\rd s.since i<=s.now/\0<=rd s.since i/\rdB s.minus i=(decide (0<rd s.since i)&&decide (rd f i<0))
def preAt (s0 s:StS) (i:Nat):Prop:=rd s.size i=rd s0.size i/\rd s.since i=rd s0.since i/\rdB s.minus i=rdB s0.minus i
def snc (s0:StS) (f:List Int) (k i:Nat):Int:=if 0<rd s0.since i then rd s0.since i else if tv k (rd f i)=0 then 0 else s0.now+1
def postAt (s0 s:StS) (f:List Int) (k i:Nat):Prop:=rd s.size i=tv k (rd f i)/\rd s.since i=snc s0 f k i/\rdB s.minus i=(decide (0<snc s0 f k i)&&decide (rd f i<0))
def inv1 (s0 s:StS) (f:List Int) (k n:Nat):Prop:=s.now=s0.now/\s.size.length=n/\s.since.length=n/\s.minus.length=n/\∀ i,i<n->preAt s0 s i∨postAt s0 s f k i
theorem rd_st_same {xs:List Int} {i:Nat} (h:i<xs.length) (v:Int):rd (xs.set i v) i=v:=by simp[rd,h]
theorem rd_st_ne {xs:List Int} {i j:Nat} (h:i≠j) (v:Int):rd (xs.set i v) j=rd xs j:=by simp[rd,List.getElem?_set_ne h]
theorem rdB_st_same {xs:List Bool} {i:Nat} (h:i<xs.length) (v:Bool):rdB (xs.set i v) i=v:=by simp[rdB,h]
theorem rdB_st_ne {xs:List Bool} {i j:Nat} (h:i≠j) (v:Bool):rdB (xs.set i v) j=rdB xs j:=by simp[rdB,List.getElem?_set_ne h]
theorem old_iff {s0 s:StS} {f:List Int} {k n x:Nat} (h0:okAt s0 f (k+1) x) (hx:x<n) (H:inv1 s0 s f k n) (hn:0<=s0.now):oldP s x↔0<rd s0.since x:=by
 obtain⟨a1,a2,a3,a4,a5⟩:=h0
 obtain⟨b1,_,_,_,b2⟩:=H
 unfold oldP
 rw[b1]
 rcases b2 x hx with ⟨c1,c2,c3⟩ | ⟨c1,c2,c3⟩
 ·rw[c2];omega
 ·rw[c2]
  unfold snc
  split
  ·omega
  ·split<;>omega
theorem num_post {s0 s:StS} {f:List Int} {k n x:Nat} (e:EnS) {on:Bool} (h0:okAt s0 f (k+1) x) (hx:x<n) (H:inv1 s0 s f k n) (hn:0<=s0.now)
  (hon:on=true∨0<rd s0.since x∨digP f x k=false) :
  inv1 s0 (numG putG s e x k on (digP f x k) (decide (rd f x<0))).1 f k n/\postAt s0 (numG putG s e x k on (digP f x k) (decide (rd f x<0))).1 f k x /\
  ∀ y,y≠x->(preAt s0 s y->preAt s0 (numG putG s e x k on (digP f x k) (decide (rd f x<0))).1 y)/\(postAt s0 s f k y->postAt s0 (numG putG s e x k on (digP f x k) (decide (rd f x<0))).1 f k y):=by
 have hold:=old_iff h0 hx H hn
 obtain⟨b1,b2,b3,b4,b5⟩:=id H
 obtain⟨a1,a2,a3,a4,a5⟩:=h0
 obtain⟨q,q1,q2,q3⟩:=tv_q k (rd f x)
 have hdig:=digP_q q1
 have hpos:0<2^k:=Nat.pow_pos (by decide)
 have key:∀ s':StS,s'.now=s.now->(∃ a b c,s'.size=s.size.set x a/\s'.since=s.since.set x b/\s'.minus=s.minus.set x c/\a=tv k (rd f x)/\b=snc s0 f k x/\c=(decide (0<snc s0 f k x)&&decide (rd f x<0))) ->
   inv1 s0 s' f k n/\postAt s0 s' f k x/\∀ y,y≠x->(preAt s0 s y->preAt s0 s' y)/\(postAt s0 s f k y->postAt s0 s' f k y):=fun s' hnow ⟨a,b,c,ha,hb,hc,va,vb,vc⟩=>by
  have hp:postAt s0 s' f k x:=by
   refine⟨?_,?_,?_⟩
   ·rw[ha,rd_st_same (by omega),va]
   ·rw[hb,rd_st_same (by omega),vb]
   ·rw[hc,rdB_st_same (by omega),vc]
  have hne:∀ y,y≠x->(preAt s0 s y->preAt s0 s' y)/\(postAt s0 s f k y->postAt s0 s' f k y):=fun y hy=>by
   unfold preAt postAt
   rw[ha,hb,hc,rd_st_ne (Ne.symm hy),rd_st_ne (Ne.symm hy),rdB_st_ne (Ne.symm hy)]
   exact⟨id,id⟩
  refine⟨⟨by rw[hnow,b1],by rw[ha,List.length_set,b2],by rw[hb,List.length_set,b3],by rw[hc,List.length_set,b4],fun i hi=>?_⟩,hp,hne⟩
  by_cases e:i=x
  ·rw[e];exact .inr hp
  ·rcases b5 i hi with h | h
   ·exact .inl ((hne i e).1 h)
   ·exact .inr ((hne i e).2 h)
 have hself:∀ {xs:List Int},x<xs.length->xs.set x (rd xs x)=xs:=fun {xs} h=>by
  rw[rd_lt xs x h,List.set_getElem_self]
 have hselfB:∀ {xs:List Bool},x<xs.length->xs.set x (rdB xs x)=xs:=fun {xs} h=>by
  rw[rdB_lt xs x h,List.set_getElem_self]
 have z1:=hself (xs:=s.size) (by omega)
 have z2:=hself (xs:=s.since) (by omega)
 have z3:=hselfB (xs:=s.minus) (by omega)
 by_cases ho:0<rd s0.since x
 ·have hsn:snc s0 f k x=rd s0.since x:=by unfold snc;rw[if_pos ho]
  have hsince:rd s.since x=rd s0.since x:=by
   rcases b5 x hx with ⟨_,c2,_⟩ | ⟨_,c2,_⟩
   ·exact c2
   ·rw[c2,hsn]
  have hminus:rdB s.minus x=(decide (0<rd s0.since x)&&decide (rd f x<0)):=by
   rcases b5 x hx with ⟨_,_,c3⟩ | ⟨_,_,c3⟩
   ·rw[c3,a5]
   ·rw[c3,hsn]
  have hsize:rd s.size x=((q / 2*2*2^k:Nat):Int)∨rd s.size x=((q*2^k:Nat):Int):=by
   rcases b5 x hx with ⟨c1,_,_⟩ | ⟨c1,_,_⟩
   ·left;rw[c1,a1,q3]
   ·right;rw[c1,q2]
  rw[numG_enc_old (hold.2 ho),hdig]
  by_cases hq:q % 2=1
  ·rw[decide_eq_true hq,if_pos rfl]
   refine key _ rfl ⟨_,_,_,by rw[Int.toNat_natCast],z2.symm,z3.symm,?_,by rw[hsince,hsn],by rw[hminus,hsn]⟩
   rw[q2]
   rcases hsize with h | h
   ·rw[h,orP_nat,or_mul]
    have:q=2*(q / 2)+1:=by omega
    rw[Nat.mul_comm (q / 2) 2,or_even,<-this]
   ·rw[h,orP_nat,or_mul]
    have:q=2*(q / 2)+1:=by omega
    rw[this,or_odd]
  ·rw[decide_eq_false hq,if_neg (by decide)]
   refine key _ rfl ⟨_,_,_,z1.symm,z2.symm,z3.symm,?_,by rw[hsince,hsn],by rw[hminus,hsn]⟩
   rw[q2]
   have:q / 2*2=q:=by omega
   rcases hsize with h | h
   ·rw[h,this]
   ·exact h
 ·have hz:rd s0.since x=0:=by omega
  have hnz:rd s0.size x=0:=by
   rcases Int.lt_trichotomy (rd s0.size x) 0 with h | h | h
   ·exact absurd (a2.2 (by omega)) ho
   ·exact h
   ·exact absurd (a2.2 (by omega)) ho
  have hq2:q / 2=0:=by
   rw[a1,q3]at hnz
   rcases Nat.eq_zero_or_pos (q / 2)with h | h
   ·exact h
   ·have:0<q / 2*2*2^k:=Nat.mul_pos (Nat.mul_pos h (by decide)) hpos
    omega
  have hm0:rdB s0.minus x=false:=by rw[a5,hz];rfl
  have hno:¬ oldP s x:=fun h=>ho (hold.1 h)
  by_cases hq:q % 2=1
  ·have hon1:on=true:=by
    rcases hon with h | h | h
    ·exact h
    ·exact absurd h ho
    ·rw[hdig,decide_eq_true hq]at h;cases h
   subst hon1
   have hq1:q=1:=by omega
   have htv:tv k (rd f x)=((2^k:Nat):Int):=by rw[q2,hq1,Nat.one_mul]
   have hsn:snc s0 f k x=s0.now+1:=by unfold snc;rw[if_neg ho,if_neg (by rw[htv];omega)]
   rw[numG_enc_new hno,hdig,decide_eq_true hq,if_pos rfl]
   refine key _ rfl ⟨_,_,_,by rw[Int.toNat_natCast],by rw[Int.toNat_natCast],by rw[Int.toNat_natCast],?_,by rw[hsn,b1],?_⟩
   ·have hsize:rd s.size x=((0*2^k:Nat):Int)∨rd s.size x=((1*2^k:Nat):Int):=by
     rcases b5 x hx with ⟨c1,_,_⟩ | ⟨c1,_,_⟩
     ·left;rw[c1,hnz];simp
     ·right;rw[c1,htv];simp
    rcases hsize with h | h
    ·rw[h,orP_nat,or_mul,htv];simp
    ·rw[h,orP_nat,or_mul,htv];simp
   ·rw[hsn,decide_eq_true (show 0<s0.now+1 by omega),Bool.true_and]
  ·have hq0:q=0:=by omega
   have htv:tv k (rd f x)=0:=by rw[q2,hq0];simp
   have hsn:snc s0 f k x=0:=by unfold snc;rw[if_neg ho,if_pos htv]
   have hsize:rd s.size x=0:=by
    rcases b5 x hx with ⟨c1,_,_⟩ | ⟨c1,_,_⟩
    ·rw[c1,hnz]
    ·rw[c1,htv]
   have hsince:rd s.since x=0:=by
    rcases b5 x hx with ⟨_,c2,_⟩ | ⟨_,c2,_⟩
    ·rw[c2,hz]
    ·rw[c2,hsn]
   have hminus:rdB s.minus x=false:=by
    rcases b5 x hx with ⟨_,_,c3⟩ | ⟨_,_,c3⟩
    ·rw[c3,hm0]
    ·rw[c3,hsn];rfl
   have hs':(numG putG s e x k on (digP f x k) (decide (rd f x<0))).1=s:=by
    rw[hdig,decide_eq_false hq]
    cases on with
    | true=>rw[numG_enc_new hno,if_neg (by decide)]
    | false=>rw[numG_off hno]
   rw[hs']
   refine key s rfl ⟨_,_,_,z1.symm,z2.symm,z3.symm,by rw[hsize,htv],by rw[hsince,hsn],by rw[hminus,hsn];rfl⟩
theorem pls_post {s0:StS} {f:List Int} {k n:Nat} {on:Bool} (hn:0<=s0.now) (h0:∀ x,x<n->okAt s0 f (k+1) x):∀ (l:List Int) (s:StS) (e:EnS),e.ok->e.st.length=12->(∀ x∈l,0<=x/\x<n)->inv1 s0 s f k n ->
  (∀ x∈l,on=true∨0<rd s0.since x∨digP f x k=false) ->
  inv1 s0 (plsG putG f k on l s e).1 f k n/\(∀ x:Nat,(x:Int)∈l->postAt s0 (plsG putG f k on l s e).1 f k x)/\∀ y,postAt s0 s f k y->postAt s0 (plsG putG f k on l s e).1 f k y
 | [],s,e,H,h12,hl,hI,hon=>⟨hI,fun x hx=>(by cases hx),fun y h=>h⟩
 | i::l,s,e,H,h12,hl,hI,hon=>by
  obtain⟨i0,i1⟩:=hl i List.mem_cons_self
  obtain⟨x,rfl⟩:∃ x:Nat,i=x:=⟨i.toNat,by omega⟩
  have hx:x<n:=by omega
  obtain⟨a1,a2⟩:=numE_aft s x k on (digP f x k) (decide (rd f x<0)) H h12
  obtain⟨b1,b2,b3⟩:=num_post e (h0 x hx) hx hI hn (hon _ List.mem_cons_self)
  rw[plsG,if_pos a2]
  obtain⟨c1,c2,c3⟩:=pls_post hn h0 l _ _ a1.1 (by rw[a1.2.2.1,h12]) (fun y hy=>hl y (List.mem_cons_of_mem _ hy)) b1 (fun y hy=>hon y (List.mem_cons_of_mem _ hy))
  refine⟨c1,fun y hy=>?_,fun y hy=>?_⟩
  ·rcases List.mem_cons.1 hy with h | h
   ·have:y=x:=by omega
    subst this
    exact c3 y b2
   ·exact c2 y h
  ·by_cases e:y=x
   ·subst e;exact c3 y b2
   ·exact c3 y ((b3 y e).2 hy)
theorem setOn_inv {s0 s:StS} {f:List Int} {k n i:Nat} (b:Bool) (h:inv1 s0 s f k n):inv1 s0 (setOn s i b) f k n:=h
theorem bkt_post {s0:StS} {f:List Int} {k n:Nat} (hn:0<=s0.now) (h0:∀ x,x<n->okAt s0 f (k+1) x) (i:Nat) (s:StS) (e:EnS) (H:e.ok) (h12:e.st.length=12) (hl:∀ x∈(rdBk s.list i).b.places,0<=x/\x<n) (hI:inv1 s0 s f k n) :
  inv1 s0 (bktG putG f k i s e).1 f k n/\(∀ x:Nat,(x:Int)∈(rdBk s.list i).b.places->postAt s0 (bktG putG f k i s e).1 f k x)/\∀ y,postAt s0 s f k y->postAt s0 (bktG putG f k i s e).1 f k y:=by
 have hold:∀ x∈(rdBk s.list i).b.places,oldP s x↔0<rd s0.since x:=fun x hx=>by
  obtain⟨i0,i1⟩:=hl x hx
  obtain⟨y,rfl⟩:∃ y:Nat,x=y:=⟨x.toNat,by omega⟩
  exact old_iff (h0 y (by omega)) (by omega) hI hn
 rw[bktG_put]
 split
 ·rename_i hall
  refine pls_post hn h0 _ _ _ H h12 hl (setOn_inv _ hI) fun x hx=>.inr (.inl ?_)
  unfold allP at hall
  exact(hold x hx).1 (of_decide_eq_true (List.all_eq_true.1 hall x hx))
 ·have h1:=putAft H h12 (bctxP_bd (setOn s i false) (rdBk s.list i).b) (onP s (rdBk s.list i).b.places f k)
  refine pls_post hn h0 _ _ _ h1.1 (by rw[h1.2.2.1,h12]) hl (setOn_inv _ hI) fun x hx=>?_
  cases hon:onP s (rdBk s.list i).b.places f k with
  | true=>exact .inl rfl
  | false=>
   refine .inr ?_
   unfold onP at hon
   have:=List.any_eq_false.1 hon x hx
   by_cases ho:oldP s x
   ·exact .inl ((hold x hx).1 ho)
   ·rw[decide_eq_false ho]at this
    right
    cases hd:digP f x k with
    | true=>rw[hd]at this;simp at this
    | false=>rfl
theorem slc_post {s0:StS} {f:List Int} {k n:Nat} (hk:k<=30) (hn:0<=s0.now) (h0:∀ x,x<n->okAt s0 f (k+1) x):∀ (m i:Nat) (s:StS) (e:EnS),stWf s n->szWf s->e.ok->e.st.length=12->i+m=s.list.length->inv1 s0 s f k n ->
  (∀ x,x<n->preAt s0 (slcG putG f k m i s e).1 x∨postAt s0 (slcG putG f k m i s e).1 f k x)/\(∀ j,i<=j->j<s.list.length->∀ x:Nat,(x:Int)∈(rdBk s.list j).b.places->postAt s0 (slcG putG f k m i s e).1 f k x)/\∀ y,postAt s0 s f k y->postAt s0 (slcG putG f k m i s e).1 f k y
 | 0,i,s,e,hs,hz,H,h12,hik,hI=>⟨hI.2.2.2.2,fun j hj hj2=>by omega,fun y h=>h⟩
 | m+1,i,s,e,hs,hz,H,h12,hik,hI=>by
  have hbki:=hs.2.2.2.2.2.2.2.2.2.2 _ (by rw[rdBk_nat (show i<s.list.length by omega)];exact List.getElem_mem _:rdBk s.list i∈s.list)
  obtain⟨k1,k2,k3,k4⟩:=bktE_inv f (k:Int) (by omega) (by omega) i s e n hs hz H h12 (by omega)
  obtain⟨b1,b2,b3⟩:=bkt_post hn h0 i s e H h12 hbki.2.2.2 hI
  rw[slcG,if_pos k4]
  obtain⟨c1,c2,c3⟩:=slc_post hk hn h0 m (i+1) _ _ (k1.wf hs) k2 k3.1 (by rw[k3.2.2.1,h12]) (by rw[k1.2.2.2.2.1.len];omega) b1
  refine⟨c1,fun j hj hj2 x hx=>?_,fun y hy=>c3 y (b3 y hy)⟩
  by_cases e:j=i
  ·subst e;exact c3 x (b2 x hx)
  ·refine c2 j (by omega) (by rw[k1.2.2.2.2.1.len];exact hj2) x ?_
   rw[(k1.2.2.2.2.1.at (by rw[k1.2.2.2.2.1.len];exact hj2)).1]
   exact hx
theorem slc_ok {s:StS} {f:List Int} {k n:Nat} {e:EnS} (hk:k<=30) (hs:stWf s n) (hz:szWf s) (H:e.ok) (h12:e.st.length=12) (h0:∀ x,x<n->okAt s f (k+1) x) (hc:∀ x:Nat,x<n->∃ j,j<s.list.length/\(x:Int)∈(rdBk s.list j).b.places) :
  ∀ x,x<n->okAt (slcG putG f k s.list.length 0 s e).1 f k x:=fun x hx=>by
 have hn:0<=s.now:=hs.2.2.2.2.2.1
 have hI:inv1 s s f k n:=⟨rfl,hs.1,hs.2.2.1,hs.2.1,fun i hi=>.inl ⟨rfl,rfl,rfl⟩⟩
 obtain⟨c1,c2,c3⟩:=slc_post hk hn h0 s.list.length 0 s e hs hz H h12 (by omega) hI
 obtain⟨j,hj,hm⟩:=hc x hx
 obtain⟨p1,p2,p3⟩:=c2 j (Nat.zero_le _) hj x hm
 obtain⟨i1,_,_,_⟩:=slcE_inv f (k:Int) (by omega) (by omega) n s.list.length 0 s e hs hz H h12 (by omega)
 obtain⟨a1,a2,a3,a4,a5⟩:=h0 x hx
 have hnow:(slcG putG f k s.list.length 0 s e).1.now=s.now+1:=i1.2.2.2.1
 obtain⟨q,q1,q2,q3⟩:=tv_q k (rd f x)
 refine⟨p1,?_,?_,?_,by rw[p2];exact p3⟩
 ·rw[p2,p1]
  unfold snc
  split
  ·rename_i ho
   have:=a2.1 ho
   rw[a1,q3]at this
   refine⟨fun _=>?_,fun _=>ho⟩
   rw[q2]
   intro hz'
   have h1:q*2^k=0:=by omega
   rcases Nat.mul_eq_zero.1 h1 with h | h
   ·rw[h]at this;simp at this
   ·rw[h]at this;simp at this
  ·split
   ·rename_i ho ht
    rw[ht];simp
   ·rename_i ho ht
    exact⟨fun _=>ht,fun _=>by omega⟩
 ·rw[p2,hnow]
  unfold snc
  split
  ·omega
  ·split<;>omega
 ·rw[p2]
  unfold snc
  split
  ·omega
  ·split<;>omega
theorem bk_in (W:Int) {l:List Bd} {b:Bd} (hb:b∈l) {r c:Nat} (hr:(r:Int)<rowsB b) (hc:(c:Int)<colsB b):∃ G,bkAt W G b r c∈(bkFold W l).1:=by
 have key:∀ i,i<=l.length->∀ b∈l.take i,∀ r c:Nat,(r:Int)<rowsB b->(c:Int)<colsB b->∃ G,bkAt W G b r c∈(bkFold W (l.take i)).1:=by
  intro i
  induction i with
  | zero=>intro _ b hb;simp at hb
  | succ i ih=>
   intro hi b hb r c hr hc
   rw[bkFold_succ W (by omega)]
   unfold bkStep
   simp only
   rw[List.take_succ_eq_append_getElem (by omega)]at hb
   rcases List.mem_append.1 hb with hb | hb
   ·obtain⟨G,h⟩:=ih (by omega) b hb r c hr hc
    exact⟨G,List.mem_append_left _ h⟩
   ·rw[List.mem_singleton]at hb
    have e:rdBd l i=b:=by rw[rdBd_nat (by omega),hb]
    rw[e]
    refine⟨_,List.mem_append_right _ (List.mem_flatMap.2 ⟨r,List.mem_range.2 (by omega),List.mem_map.2 ⟨c,List.mem_range.2 (by omega),rfl⟩⟩)⟩
 have:=key l.length (Nat.le_refl _) b (by rw[List.take_length];exact hb) r c hr hc
 rw[List.take_length]at this
 exact this
theorem bkts_cover {w h n:Int} (hb:bnOk w h n) {x:Nat} (hx:(x:Int)<w*h):∃ b∈bkts w h n,(x:Int)∈b.places:=by
 obtain⟨q1,q2,q3,q4,q5,q6⟩:=id hb
 obtain⟨w,rfl⟩:∃ k:Nat,w=k:=⟨w.toNat,by omega⟩
 obtain⟨h,rfl⟩:∃ k:Nat,h=k:=⟨h.toNat,by omega⟩
 obtain⟨n,rfl⟩:∃ k:Nat,n=k:=⟨n.toNat,by omega⟩
 have hxn:x<w*h:=by exact_mod_cast hx
 have hw0:0<w:=by
  rcases Nat.eq_zero_or_pos w with h0 | h0
  ·subst h0;simp at hxn
  ·exact h0
 have hr:x / w<h:=Nat.div_lt_of_lt_mul hxn
 have hc:x % w<w:=Nat.mod_lt _ hw0
 have hcov:=cov_all (w:=w) (h:=h) (n:=n) (by omega) (by omega) (x / w) (x % w) hr hc
 have hbn:bnL (w:Int) h n=keptBd (bdD w h n n):=by unfold bnL bnA;rw[if_pos hb];simp
 rw[<-hbn]at hcov
 have hex:∃ b∈bnL (w:Int) h n,inBd b ((x / w:Nat):Int) ((x % w:Nat):Int)=true:=by
  unfold cov at hcov
  have:0<(bnL (w:Int) h n).countP fun b=>inBd b ((x / w:Nat):Int) ((x % w:Nat):Int):=by omega
  obtain⟨b,h1,h2⟩:=List.countP_pos_iff.1 this
  exact⟨b,h1,h2⟩
 obtain⟨b,hbm,hin⟩:=hex
 unfold inBd at hin
 rw[decide_eq_true_eq]at hin
 obtain⟨i1,i2,i3,i4,i5,i6,_⟩:=bnL_in hb hbm
 obtain⟨R,hR⟩:∃ R:Nat,((x / w:Nat):Int)-b.y=R:=⟨(((x / w:Nat):Int)-b.y).toNat,by omega⟩
 obtain⟨C,hC⟩:∃ C:Nat,((x % w:Nat):Int)-b.x=C:=⟨(((x % w:Nat):Int)-b.x).toNat,by omega⟩
 obtain⟨G,hG⟩:=bk_in (w:Int) hbm (r:=R / 4) (c:=C / 4) (by unfold rowsB;omega) (by unfold colsB;omega)
 refine⟨_,hG,?_⟩
 unfold bkAt plAll plRow
 simp only
 refine List.mem_flatMap.2 ⟨R % 4,List.mem_range.2 ?_,List.mem_map.2 ⟨C % 4,List.mem_range.2 ?_,?_⟩⟩
 ·unfold khB;omega
 ·unfold kwB;omega
 ·unfold plF
  have e1:b.y+(((R / 4:Nat):Int)*4+((R % 4:Nat):Int))=((x / w:Nat):Int):=by omega
  have e2:((C / 4:Nat):Int)*4+((C % 4:Nat):Int)=C:=by omega
  rw[e1,e2]
  have e3:x / w*w+x % w=x:=Nat.div_add_mod' x w
  have e4:((x / w:Nat):Int)*(w:Int)+((x % w:Nat):Int)=x:=by exact_mod_cast e3
  omega
theorem st0_cover {a:BgA} (hb:bnOk a.w a.h a.n) (f:Nat->Xf.Loc):∀ x:Nat,x<(a.w*a.h).toNat->∃ j,j<(st0 a f).list.length/\(x:Int)∈(rdBk (st0 a f).list j).b.places:=fun x hx=>by
 obtain⟨b,hb1,hb2⟩:=bkts_cover hb (x:=x) (by omega)
 obtain⟨j,hj,rfl⟩:=List.mem_iff_getElem.1 hb1
 refine⟨j,by simp only[st0,bkOf_len];exact hj,?_⟩
 simp only[st0]
 rw[bkOf_at f hj]
 simp only[List.getD_eq_getElem?_getD,List.getElem?_eq_getElem hj,Option.getD_some]
 exact hb2
theorem norm_by:∀ (n:Nat) {l h:Int},nrm n l h->byAll (normP n l h).1
 | n,l,h,H=>by
  by_cases e:l / 16777216=h / 16777216
  ·cases n with
   | zero=>exact absurd e (nrm_0 H)
   | succ n=>
    have ih:=norm_by n (nrm_step H e)
    obtain⟨_,g1,g2,g3,_,_⟩:=H
    rw[norm_yes e]
    intro b hb
    rcases List.mem_cons.1 hb with rfl | hb
    ·omega
    ·exact ih b hb
  ·rw[norm_no n e]
   intro b hb
   cases hb
theorem byAll_app {a b:List Int} (ha:byAll a) (hb:byAll b):byAll (a++b):=fun x hx=>by
 rcases List.mem_append.1 hx with h | h
 ·exact ha x h
 ·exact hb x h
theorem put_by {e:EnS} {ctx bit:Int} (H:e.ok) (h0:0<=ctx) (h1:ctx<e.st.length) (h:byAll e.out):byAll (putP e ctx bit).out:=
 byAll_app h (norm_by 4 (nrm_part (bit:=bit) H h0 h1))
theorem num_by {s:StS} {e:EnS} {i t:Int} {on dig neg:Bool} (H:e.ok) (h12:e.st.length=12) (h:byAll e.out):byAll (numG putG s e i t on dig neg).2.1.out:=by
 by_cases ho:oldP s i
 ·rw[numG_enc_old ho]
  have:=dctxP_bd s i
  exact put_by H this.1 (by omega) h
 ·cases on with
  | false=>rw[numG_off ho];exact h
  | true=>
   rw[numG_enc_new ho]
   have hc:=nctxP_bd s i
   have h1:=putAft H h12 hc dig
   have h2:=put_by (bit:=b2i dig) H hc.1 (by omega) h
   split
   ·exact put_by h1.1 (by decide) (by rw[h1.2.2.1,h12];decide) h2
   ·exact h2
theorem pls_by (f:List Int) (t:Int) (on:Bool):∀ (l:List Int) (s:StS) (e:EnS),e.ok->e.st.length=12->byAll e.out->byAll (plsG putG f t on l s e).2.1.out
 | [],s,e,H,h12,h=>h
 | i::l,s,e,H,h12,h=>by
  obtain⟨a1,a2⟩:=numE_aft s i t on (digP f i t) (decide (rd f i<0)) H h12
  rw[plsG,if_pos a2]
  exact pls_by f t on l _ _ a1.1 (by rw[a1.2.2.1,h12]) (num_by H h12 h)
theorem slc_by (f:List Int) (t:Int) (t0:0<=t) (t1:t<=30) (n:Nat):∀ (k i:Nat) (s:StS) (e:EnS),stWf s n->szWf s->e.ok->e.st.length=12->i+k=s.list.length->byAll e.out->byAll (slcG putG f t k i s e).2.1.out
 | 0,i,s,e,_,_,_,_,_,h=>h
 | k+1,i,s,e,hs,hz,H,h12,hik,h=>by
  obtain⟨k1,k2,k3,k4⟩:=bktE_inv f t t0 t1 i s e n hs hz H h12 (by omega)
  rw[slcG,if_pos k4]
  refine slc_by f t t0 t1 n k (i+1) _ _ (k1.wf hs) k2 k3.1 (by rw[k3.2.2.1,h12]) (by rw[k1.2.2.2.2.1.len];omega) ?_
  rw[bktG_put]
  split
  ·exact pls_by f t _ _ _ _ H h12 h
  ·have hc:=bctxP_bd (setOn s i false) (rdBk s.list i).b
   have h1:=putAft H h12 hc (onP s (rdBk s.list i).b.places f t)
   exact pls_by f t _ _ _ _ h1.1 (by rw[h1.2.2.1,h12]) (put_by H hc.1 (by omega) h)
structure SgA where
 p:Pl
 L:Xf.Loc
 t:Int
def tOk (t:Int):Prop:=0<=t/\t<=25
instance tOk_dec (t:Int):Decidable (tOk t):=by unfold tOk;infer_instance
def sgE (p:Pl) (t:Int):Int:=if p.Ok then (if tOk t then 0 else 2)else 70
def ctF (t c:Int):Int:=if c<0 then-(max c (-c) / 2^t.toNat*2^t.toNat)else max c (-c) / 2^t.toNat*2^t.toNat
def ctP (p:Pl) (t:Int):Pl:=if sgE p t=0 then ⟨p.w,p.h,p.xs.map (ctF t)⟩else pl0
def encN (f:List Int):Nat->Nat->StS->List Int->StS×List Int
 | m+1,k+1,s,st=>encN f m k (encStep f k s st).1 (encStep f k s st).2.1.st
 | 0,_,s,st=>(s,st)
 | _+1,0,s,st=>(s,st)
def slStOk (f:List Int) (N k:Nat) (kd:Int) (s:StS) (st:List Int):Prop:=stWf s N/\szWf s/\s.kind=kd/\s.now+k<=100/\mdOk kd st/\st.length=12/\(∀ x,x<N->okAt s f k x)/\∀ x:Nat,x<N->∃ j,j<s.list.length/\(x:Int)∈(rdBk s.list j).b.places
theorem step_ok {f:List Int} {N k:Nat} {kd:Int} {s:StS} {st:List Int} (hk:k+1<=25) (H:slStOk f N (k+1) kd s st) :
  slStOk f N k kd (encStep f k s st).1 (encStep f k s st).2.1.st/\byAll (encEnd (encStep f k s st).2.1)/\(encEnd (encStep f k s st).2.1).length<=10000000 /\
  ∀ g,(decStep g k s st (encEnd (encStep f k s st).2.1)).1=(encStep f k s st).1/\(decStep g k s st (encEnd (encStep f k s st).2.1)).2.2=0/\(decStep g k s st (encEnd (encStep f k s st).2.1)).2.1.st=(encStep f k s st).2.1.st:=by
 obtain⟨h1,h2,h3,h4,h5,h6,h7,h8⟩:=H
 have hnew:=newEn_ok h5
 have hl:s.list.length<=50000:=h1.2.2.2.2.2.2.2.1
 rw[<-h3]at hnew h5
 obtain⟨i1,i2,i3,i4⟩:=slcE_inv f (k:Int) (by omega) (by omega) N s.list.length 0 s (newEn s.kind st) h1 h2 hnew h6 (by omega)
 have hok:=slc_ok (by omega) h1 h2 hnew h6 h7 h8
 have hby:=slc_by f (k:Int) (by omega) (by omega) N s.list.length 0 s (newEn s.kind st) h1 h2 hnew h6 (by omega) (fun b hb=>by cases hb)
 have hcode:byAll (encEnd (encStep f k s st).2.1):=encEnd_by hby
 have hfut:=end_fut i3.1
 have hsim:=fun g=>slc_sim hcode f g (k:Int) (by omega) (by omega) N s.list.length 0 s (newEn s.kind st) (newDe s.kind st (encEnd (encStep f k s st).2.1)) h1 h2 hnew h6 (by omega) (new_rel hcode) hfut
 have e12:(encStep f k s st).2.1.st.length=12:=i3.2.2.1.trans h6
 have ekd:(encStep f k s st).2.1.kind=s.kind:=i3.2.2.2
 have hmd:=EnS.ok.md i3.1 e12
 have hmd':mdOk s.kind (encStep f k s st).2.1.st:=by
  have:=hmd
  rw[show(slcG putG f (k:Int) s.list.length 0 s (newEn s.kind st)).2.1.kind=s.kind from ekd]at this
  exact this
 have hnow:(encStep f k s st).1.now=s.now+1:=i1.2.2.2.1
 have h40:=h1.2.2.2.2.2.2.1
 have h41:=h1.2.2.2.2.2.1
 have hwf:stWf (encStep f k s st).1 N:=i1.wf (by
  obtain⟨o1,o2,o3,o4,o5,o6,o7,o8,o9,o10,o11⟩:=h1
  exact⟨o1,o2,o3,o4,o5,by simp only;omega,by simp only;omega,o8,o9,o10,o11⟩)
 refine⟨⟨hwf,i2,?_,by rw[hnow];omega,by rw[<-h3];exact hmd',e12,hok,fun x hx=>?_⟩,hcode,?_,fun g=>?_⟩
 ·exact i1.2.2.2.2.2.1.trans h3
 ·obtain⟨j,hj,hm⟩:=h8 x hx
  have hk2:sameK (encStep f k s st).1.list s.list:=i1.2.2.2.2.1
  refine⟨j,by rw[hk2.len];exact hj,?_⟩
  rw[(hk2.at (by rw[hk2.len];exact hj)).1]
  exact hm
 ·have:=i3.2.1
  unfold encEnd
  rw[List.length_append,endP_len]
  have h4:endN (encStep f k s st).2.1.low (encStep f k s st).2.1.high<=4:=by
   unfold endN
   repeat' split
   all_goals decide
  have h0:(newEn s.kind st).out.length=0:=rfl
  have h5:(encStep f k s st).2.1.out.length<=(newEn s.kind st).out.length+132*s.list.length:=i3.2.1
  omega
 ·obtain⟨g1,g2,g3⟩:=hsim g
  refine⟨g1,g2,?_⟩
  unfold Rel at g3
  show(slcG getG g (k:Int) s.list.length 0 s (newDe s.kind st (encEnd (encStep f k s st).2.1))).2.1.st=_
  rw[g3]
  rfl
theorem encG_len (f:List Int):∀ (k:Nat) (s:StS) (st:List Int),(encG f k s st).length=k
 | 0,_,_=>rfl
 | k+1,s,st=>by rw[encG,List.length_cons,encG_len f k]
theorem encG_by {f:List Int} {N:Nat} {kd:Int}:∀ (k:Nat) (s:StS) (st:List Int),k<=25->slStOk f N k kd s st->∀ c∈encG f k s st,byAll c/\c.length<=10000000
 | 0,_,_,_,_,c,hc=>by cases hc
 | k+1,s,st,hk,H,c,hc=>by
  obtain⟨a1,a2,a3,a4⟩:=step_ok hk H
  rw[encG]at hc
  rcases List.mem_cons.1 hc with rfl | hc
  ·exact⟨a2,a3⟩
  ·exact encG_by k _ _ (by omega) a1 c hc
theorem decG_take {f:List Int} {N:Nat} {kd:Int} (g:List Int):∀ (m k:Nat) (s:StS) (st:List Int),k<=25->m<=k->slStOk f N k kd s st ->
  decG g ((encG f k s st).take m) ((k:Int)-1) s st=((encN f m k s st).1,0)/\slStOk f N (k-m) kd (encN f m k s st).1 (encN f m k s st).2
 | 0,k,s,st,hk,hm,H=>by
  rw[List.take_zero,decG]
  cases k<;>exact⟨rfl,H⟩
 | m+1,0,s,st,hk,hm,H=>by omega
 | m+1,k+1,s,st,hk,hm,H=>by
  obtain⟨a1,a2,a3,a4⟩:=step_ok hk H
  obtain⟨b1,b2,b3⟩:=a4 g
  rw[encG,List.take_succ_cons,decG,encN]
  rw[show((k+1:Nat):Int)-1=(k:Int) by omega,if_pos b2,b1,b3]
  have ih:=decG_take g m k _ _ (by omega) (by omega) a1
  rw[show k+1-(m+1)=k-m by omega]
  exact ih
theorem tv_max {f:List Int} (h:AllIn (-16777216) 16777216 f) (x:Nat):tv (planesP f).toNat (rd f x)=0:=by
 have hmx:=maxA_bd (B:=16777216) (by decide) h
 have hall:∀ k,k<=f.length->∀ j:Nat,j<k->max (rd f j) (- rd f j)<=maxA (f.take k):=by
  intro k
  induction k with
  | zero=>intro _ j hj;omega
  | succ k ih=>
   intro hk j hj
   rw[maxA_take (by omega)]
   by_cases e:j=k
   ·subst e;omega
   ·have:=ih (by omega) j (by omega);omega
 have h2:=hall f.length (Nat.le_refl _)
 have h3:=hmx f.length (Nat.le_refl _)
 rw[List.take_length]at h2 h3
 have hle:max (rd f x) (- rd f x)<=maxA f:=by
  by_cases hx:x<f.length
  ·exact h2 x hx
  ·have:rd f x=0:=by simp[rd,List.getElem?_eq_none (by omega:f.length<=x)]
   rw[this];omega
 have h5:=(lenN_bd (maxA f).toNat).1
 have e:(2:Int)^(planesP f).toNat=((2^lenN (maxA f).toNat:Nat):Int):=by
  unfold planesP lenP
  rw[Int.toNat_natCast]
  simp
 unfold tv
 rw[e,Int.ediv_eq_zero_of_lt (by omega) (by omega),Int.zero_mul]
theorem st0_ok {p:Pl} {lv kd:Int} (hok:p.Ok) (hag:argsOk lv kd):slStOk p.xs (p.w*p.h).toNat (planesP p.xs).toNat kd (st00 ⟨p.w,p.h,lv,kd⟩) (List.replicate 12 0):=by
 obtain⟨⟨a1,a2,a3,a4,a5⟩,b1,hall⟩:=id hok
 have hbn:bnOk p.w p.h lv:=⟨hag.1,hag.2.1,by omega,by omega,by omega,by omega⟩
 obtain⟨w1,w2,w3⟩:=st0_wf (a:=⟨p.w,p.h,lv,kd⟩) hbn (by simp only;omega) (fun _=>nilLoc)
 have hpb:=planesP_bd hall
 refine⟨w1,w2,rfl,by simp only[st00,st0];omega,zero12_ok hag.2.2,List.length_replicate,fun x hx=>?_,st0_cover (a:=⟨p.w,p.h,lv,kd⟩) hbn (fun _=>nilLoc)⟩
 have hz:∀ n:Nat,rd (List.replicate n (0:Int)) x=0:=fun n=>by
  unfold rd
  simp only[List.getD_eq_getElem?_getD,List.getElem?_replicate]
  split<;>rfl
 have hzb:∀ n:Nat,rdB (List.replicate n false) x=false:=fun n=>by
  unfold rdB
  simp only[List.getD_eq_getElem?_getD,List.getElem?_replicate]
  split<;>rfl
 have e1:rd (st00 ⟨p.w,p.h,lv,kd⟩).size x=0:=hz _
 have e2:rd (st00 ⟨p.w,p.h,lv,kd⟩).since x=0:=hz _
 have e3:rdB (st00 ⟨p.w,p.h,lv,kd⟩).minus x=false:=hzb _
 have e4:(st00 ⟨p.w,p.h,lv,kd⟩).now=0:=rfl
 refine⟨e1.trans (tv_max hall x).symm,by rw[e1,e2];simp,by rw[e2,e4];exact Int.le_refl 0,by rw[e2];exact Int.le_refl 0,?_⟩
 rw[e3]
 simp[e2]
theorem encP_take {p:Pl} {lv kd:Int} (hok:p.Ok) (hag:argsOk lv kd) {m:Nat} (hm:(m:Int)<=planesP p.xs) :
  decE p.w p.h lv kd (planesP p.xs) ((encP p lv kd).take m)=0/\decP p.w p.h lv kd (planesP p.xs) ((encP p lv kd).take m)=ctP p (planesP p.xs-m):=by
 have H:=st0_ok hok hag
 obtain⟨⟨a1,a2,a3,a4,a5⟩,b1,hall⟩:=id hok
 have hpb:=planesP_bd hall
 have hP:encP p lv kd=encG p.xs (planesP p.xs).toNat (st00 ⟨p.w,p.h,lv,kd⟩) (List.replicate 12 0):=by unfold encP;rw[if_pos ⟨hok,hag⟩]
 obtain⟨P,hPP⟩:∃ P:Nat,planesP p.xs=P:=⟨(planesP p.xs).toNat,by omega⟩
 rw[hPP]at hpb hm H hP ⊢
 rw[Int.toNat_natCast]at H hP
 have hlen:((encP p lv kd).take m).length=m:=by rw[hP,List.length_take,encG_len];omega
 have hd:decOk p.w p.h lv kd P ((encP p lv kd).take m).length:=⟨⟨a1,a2,a3,a4,a5⟩,hag,by omega,by omega,by rw[hlen];exact hm⟩
 obtain⟨t1,t2⟩:=decG_take (List.replicate (p.w*p.h).toNat 0) m P _ _ (by omega) (by omega) H
 have hR:decR p.w p.h lv kd P ((encP p lv kd).take m)=((encN p.xs m P (st00 ⟨p.w,p.h,lv,kd⟩) (List.replicate 12 0)).1,0):=by
  unfold decR
  rw[hP]
  exact t1
 have hE:decE p.w p.h lv kd P ((encP p lv kd).take m)=0:=by
  unfold decE
  rw[if_pos hd,hR]
 refine⟨hE,?_⟩
 unfold decP ctP sgE
 rw[hE,if_pos rfl,if_pos hok,if_pos (show tOk ((P:Int)-m) from ⟨by omega,by omega⟩),if_pos rfl,hR]
 obtain⟨s',hs'⟩:∃ s,(encN p.xs m P (st00 ⟨p.w,p.h,lv,kd⟩) (List.replicate 12 0)).1=s:=⟨_,rfl⟩
 rw[hs']at t2
 rw[hs']
 obtain⟨h1,h2,h3,h4,h5,h6,h7,h8⟩:=t2
 have hsl:s'.size.length=p.xs.length:=by rw[h1.1];omega
 congr 1
 unfold plL
 refine List.ext_getElem (by simp[hsl]) fun i q1 q2=>?_
 simp only[List.getElem_map,List.getElem_range]
 have hi:i<p.xs.length:=by simpa using q2
 obtain⟨k1,k2,k3,k4,k5⟩:=h7 i (by omega)
 have hrd:rd p.xs i=p.xs[i]:=rd_lt p.xs i hi
 unfold pixF ctF
 rw[k5,<-hrd,show((P:Int)-m).toNat=P-m by omega]
 have htv:max (rd p.xs i) (- rd p.xs i) / 2^(P-m)*2^(P-m)=tv (P-m) (rd p.xs i):=rfl
 rw[htv,<-k1]
 by_cases hneg:rd p.xs i<0
 ·rw[if_pos hneg]
  by_cases hs:0<rd s'.since i
  ·rw[decide_eq_true hs,decide_eq_true hneg];simp
  ·rw[decide_eq_false hs]
   have:rd s'.size i=0:=by
    rcases Int.lt_trichotomy (rd s'.size i) 0 with h | h | h
    ·exact absurd (k2.2 (by omega)) hs
    ·exact h
    ·exact absurd (k2.2 (by omega)) hs
   rw[this];simp
 ·rw[if_neg hneg,decide_eq_false hneg,Bool.and_false];simp
theorem encP_len {p:Pl} {lv kd:Int} (hok:p.Ok) (hag:argsOk lv kd):((encP p lv kd).length:Int)=planesP p.xs:=by
 have hpb:=planesP_bd hok.2.2
 unfold encP
 rw[if_pos ⟨hok,hag⟩,encG_len]
 omega
theorem encP_wf {p:Pl} {lv kd:Int} (hok:p.Ok) (hag:argsOk lv kd) (f:Nat->Xf.Loc):rowsWf (byL f (encP p lv kd)):=by
 have hpb:=planesP_bd hok.2.2
 have hl:=encP_len hok hag
 refine⟨by rw[byL_len];omega,fun r hr=>?_⟩
 have hm:=byL_mem hr
 unfold encP at hm
 rw[if_pos ⟨hok,hag⟩]at hm
 have:=encG_by _ _ _ (by omega) (st0_ok hok hag) _ hm
 exact⟨this.1,by have:=this.2;omega⟩
theorem ctF_0 (c:Int):ctF 0 c=c:=by
 have h1:ctF 0 c=if c<0 then-tv 0 c else tv 0 c:=rfl
 have h2:tv 0 c=max c (-c):=by unfold tv;rw[show(2:Int)^0=1 from rfl];omega
 rw[h1,h2]
 split<;>omega
def ir43:IR:=
 .seq (r_ [o_ 1 (.box 10 (.t 0)),o_ 2 (.mov (.k (.val .nilFunc)))] [0,2]) (.seq (r_ [o_ 3 (.mkf 89 [.t 1]),m_ 2 3] [1,3]) (.ret))
set_option maxRecDepth 4000 in
theorem comp43:(Try.f43.body.bind fun c=>compC tab isP chkAll ir43 c)=some ir43:=by kernel_rfl
def b89_1:IRG:=
 .seq (.seq (.reg false [m_ 7 3,c_ 8 .geq 7 0] [7]) (.cond (.t 8) (.skip) (.exit 0))) (.seq (.block 1 (.seq (.yl [m_ 11 0,m_ 12 3,l_ 13 1,m_ 14 3,i_ 15 13 14 2,o_ 16 (.ld true (some 2) 0 0 (.t 15))] (some 17) (.t 11) [.t 12,.t 16] [o_ 18 (.not (.t 17))] [8,11,12,13,14,15,16,17]) (.cond (.t 18) (.ret) (.skip)))) (.reg false [m_ 9 3,c_ 10 .sub 9 1,m_ 3 10] [9,10,18]))
def ir89:IRG:=
 .seq (.reg false [l_ 4 1,h_ 5 4,c_ 6 .sub 5 1,m_ 3 6] [4,5,6]) (.block 0 (.loop b89_1))
def kp89_1:List Nat:=[0,1,3]
attribute [push_cast] kp89_1
set_option maxRecDepth 4000 in
theorem comp89:(Try.f89.body.bind fun c=>compGd tab isP chkAll ir89 c)=some ir89:=by kernel_rfl
structure BwA where
 L:Xf.Loc
 s:Nat
 l:List (List RC)
def fs43:FS where
 A:=BwA
 args:=fun a=>[.sl 0 a.L a.s 0 a.l.length]
 mem:=fun a=>[some (.ro,a.L,.recs 2 false [] a.l)]
 pre:=fun a=>True
 res:=fun a x=>.fn 89 [.ptr 1 (x 0) 0 0 0]
 out:=fun _ _=>[]
 new:=fun a x=>[(x 0,.cells [.sl 0 a.L a.s 0 a.l.length])]
def inv43:List SV->Look->Option (BwA×List Nat)
 | [.sl c _ s 0 _],look=>match rowR (look c)with
  | some (L,2,_,l)=>some (⟨L,s,l⟩,[c])
  | _=>none
 | _,_=>none
attribute [push_cast] inv43
theorem ok43:FSOk Try.prog 43 fs43:=by
 refine⟨⟨_,Try.func43,by kernel_rfl,by kernel_rfl⟩,fun a=>⟨by simp[fs43,push_cast,noMine,argOwn,Chunk.frArg],by simp[fs43,push_cast,outOk,Chunk.ext],fun x=>.inl (by simp[fs43,push_cast,frNew,frOut,Chunk.fr])⟩,fun a hp=>?_⟩
 obtain⟨L,s,l⟩:=a
 change Tri Try.prog 43 [.sl 0 L s 0 l.length] [some (.ro,L,.recs 2 false [] l)] (postF fs43 ⟨L,s,l⟩)
 refine tri_evS (hyp (l:=[]) (lp:=[]) trivial trivial) Try.func43 comp43 (rs:=[.tmp 2]) (by rfl) Try.ntmps43 11 ?_
 simp -implicitDefEqProofs only[push_cast,zz,seval,ir43]
 intro X
 refine postF.mk' (fun _=>X 0 10) [some 0,some 10] ?_
 simp -implicitDefEqProofs only[push_cast,zz,seval,fs43]
def ent43:Entry:=spOf fs43 inv43
theorem e43:EntryOk Try.prog 43 ent43:=entry_of ok43 inv43
@[push_cast] theorem ent43_app (us:List SV) (look:Look) (x:Nat->Xf.Loc) (k:Nat):ent43 us look x k=spOf fs43 inv43 us look x k:=rfl
structure BwI where
 F:Xf.Loc
 L:Xf.Loc
 s:Nat
 w:Nat
 h:Nat
 n:Nat
def bwX (w h n k:Nat):List SV:=[.int .i64 ((n-1-k:Nat):Int),.agg [.int .i64 (hlf w (n-1-k)),.int .i64 (hlf h (n-1-k))]]
def its89:ITS where
 A:=BwI
 cs:=fun a=>[.ptr 0 a.F 0 0 0]
 mem:=fun a=>[some (.ro,a.F,.cells [.sl 1 a.L a.s 0 a.n]),some (.ro,a.L,.recs 2 false [] (tabR a.n (sdR a.w a.h)))]
 n:=fun a=>a.n
 xs:=fun a=>bwX a.w a.h a.n
 pre:=fun a=>a.n<=7/\(0<a.n->a.s=2)
theorem it89:ItOk Try.prog 89 its89:=by
 refine⟨⟨_,Try.func89,by kernel_rfl,by kernel_rfl⟩,fun a hp=>?_⟩
 obtain⟨F,L,s,w,h,n⟩:=a
 obtain⟨h1,h2⟩:n<=7/\(0<n->s=2):=hp
 change IterOk Try.prog 89 [.ptr 0 F 0 0 0] [some (.ro,F,.cells [.sl 1 L s 0 n]),some (.ro,L,.recs 2 false [] (tabR n (sdR w h)))] n (bwX w h n)
 refine iter_of (hyp (l:=[]) (lp:=[]) trivial trivial) Try.func89 comp89 (by rfl) Try.ntmps89 fun l=>?_
 simp -implicitDefEqProofs only[push_cast,zz,seval,ir89]
 repeat refine om_ ?_
 refine evY_loopU (A:=Nat) _ _ _ _ _ _ _ kp89_1 (fun k=>k) (fun k=>[(3,.int .i64 ((n:Int)-1-k))]) (fun k=>k<=n) (fun k=>n-k) 0 (Nat.zero_le _) rfl ?_ ?_
 ·have e0:(n:Int)-1-0=n-1:=by omega
  simp -implicitDefEqProofs only[push_cast,zz,seval,e0]
 intro k (hk:k<=n) K hK
 by_cases hk':k<n
 ·obtain⟨i,hi⟩:∃ i:Nat,i=n-1-k:=⟨_,rfl⟩
  have e1:(n:Int)-1-k=(i:Int):=by omega
  obtain rfl:=h2 (by omega)
  have r1:=recAt_tabR (n:=n) (i:=i) (by omega) (sdR w h) []
  simp only[e1]
  simp -implicitDefEqProofs only[push_cast,zz,seval,b89_1,r1,sdR,bwX,tabR_length,<-hi,Option.some.injEq,exists_eq_left',hk']
  refine⟨fun _=>?_,fun h=>by omega⟩
  repeat refine om_ ?_
  refine hK (k+1) (by omega) (by omega) _ _ rfl ?_
  have e2:(n:Int)-1-((k+1:Nat):Int)=i-1:=by omega
  simp only[e2]
  simp -implicitDefEqProofs only[push_cast,zz,seval]
 ·obtain rfl:k=n:=by omega
  have e1:(k:Int)-1-k=-1:=by omega
  simp only[e1]
  simp -implicitDefEqProofs only[push_cast,zz,seval,b89_1]
  all_goals (intro h;omega)
def b12_1:IR:=
 .block 1 (.seq (r_ [l_ 37 9,o_ 38 (.idxP (.t 11) (Z_ 0) 2 1),L_ 39 38,o_ 40 (.idxP (.t 11) (Z_ 1) 2 1),L_ 41 40,o_ 42 (.call none 31 27 [.t 37,.t 39,.t 41,.k (.fn 44 [])])] [37,38,39,40,41,42]) (r_ [l_ 43 9,o_ 44 (.idxP (.t 11) (Z_ 0) 2 1),L_ 45 44,o_ 46 (.idxP (.t 11) (Z_ 1) 2 1),L_ 47 46,o_ 48 (.call none 35 25 [.t 43,.t 45,.t 47,.k (.fn 44 [])])] [9,11,43,44,45,46,47,48]))
def r12_2:IR:=
 .seq (.seq (r_ [l_ 49 9,n_ 50 49,f_ 51 50 1,l_ 52 51,o_ 53 (.call (some 4) 39 22 [.t 52,Z_ 16777216]),o_ 54 (.not (.t 53))] [49,50,51,52,53]) (.cond (.t 54) (.seq (r_ [o_ 55 (.build [y_,y_,nilSV] []),s_ 3 .i64 6 55,z_ 7 4] [3,9,54,55]) (.ret)) (.skip))) (.seq (R_ [f_ 56 3 0,l_ 57 56,f_ 58 3 1,l_ 59 58,l_ 60 9,n_ 61 60,f_ 62 61 1,l_ 63 62,o_ 64 (.build [y_,y_,nilSV] [(0,1,.t 57),(1,1,.t 59),(2,1,.t 63)]),s_ 3 .i64 6 64,z_ 7 0] [3,9,54,56,57,58,59,60,61,62,63,64]) (.ret))
def ir12:IR:=
 .seq (r_ [o_ 3 (.box 10 (.t 0)),o_ 6 (.alloc 11 [y_,y_,nilSV]),z_ 7 0] [0,7]) (.seq (.seq (r_ [o_ 12 (.ld false (some 3) 0 0 (.t 3)),m_ 13 1,m_ 14 2,o_ 15 (.call (some 4) 12 21 [.t 12,.t 13,.t 14]),m_ 8 15] [12,13,14,15]) (.seq (r_ [m_ 16 8,c_ 17 .neq 16 0] [16]) (.cond (.t 17) (.seq (r_ [o_ 18 (.build [y_,y_,nilSV] []),m_ 19 8,s_ 3 .i64 6 18,m_ 7 19] [1,2,3,8,17,18,19]) (.ret)) (.skip)))) (.seq (R_ [f_ 20 3 0,⟨some 21,none,⟨[16,17,18,19,21],[]⟩,.ld false none 0 0 (.t 20)⟩,f_ 22 3 2,⟨some 23,none,⟨[21],[]⟩,.ld false none 0 0 (.t 22)⟩,⟨some 24,none,⟨[21],[]⟩,.call (some 4) 16 23 [.t 23]⟩,m_ 25 1,o_ 26 (.build [y_,nilSV,y_] [(0,1,.t 21),(1,1,.t 24),(2,1,.t 25)]),o_ 27 (.box 20 (.t 26)),o_ 9 (.alloc 21 [.val (.pointer none)]),s_ 1 .i64 9 27] [1,7,8,17,20,21,22,23,24,25,26,27]) (.seq (.seq (r_ [f_ 28 3 0,l_ 29 28,f_ 30 3 1,l_ 31 30,m_ 32 2,o_ 33 (.call (some 4) 22 24 [.t 29,.t 31,.t 32]),o_ 34 (.call (some 4) 26 43 [.t 33])] [2,28,29,30,31,32,33]) (.block 0 (.rf (.t 34) [35,36] (r_ [o_ 11 (.allocI 30 .i64 2),S_ 2 .i64 11 36] [3,6,34,35,36]) (b12_1) [34] []))) (r12_2))))
set_option maxRecDepth 4000 in
theorem comp12:(Try.f12.body.bind fun c=>compC tab isP chkAll ir12 c)=some ir12:=by kernel_rfl
def ivL (p:Pl) (kind n:Int):List Int:=bwd unL kind p.w.toNat p.h.toNat n.toNat p.xs n.toNat
def ivOk (p:Pl) (kind n:Int):Prop:=p.Ok/\stOk kind n/\AllIn (-16777216) 16777216 (ivL p kind n)
instance (p:Pl) (kind n:Int):Decidable (ivOk p kind n):=by unfold ivOk;infer_instance
def ivP (p:Pl) (kind n:Int):Pl:=if ivOk p kind n then ⟨p.w,p.h,ivL p kind n⟩else pl0
def ivE (p:Pl) (kind n:Int):Int:=if ivOk p kind n then 0 else if p.Ok then if stOk kind n then 4 else 2 else 70
theorem bwd_bd6 {kind:Int} {W H:Nat} {xs:List Int} (hl:xs.length=H*W) (h:AllIn (-16777216) 16777216 xs) {n i:Nat} (hi:i<=5):AllIn (-375299968947541) 375299968947541 (bwd unL kind W H n xs i) /\
  ∀ (w h:Nat),w<=W->h<=H->AllIn (-375299968947541) 375299968947541 (clL unL kind W h (bwd unL kind W H n xs i) w):=by
 have hB:=bwd_bd trn_unline (kind:=kind) (W:=W) (h:=H) (n:=n) (by omega) h (by omega) i
 have h0:(0:Int)<=bnd 16777216 i:=bnd_pos (by omega) i
 have key:∀ i:Nat,i<=5->3*bnd 16777216 i+1<=375299968947541:=by
  intro i hi
  have:i=0∨i=1∨i=2∨i=3∨i=4∨i=5:=by omega
  rcases this with rfl | rfl | rfl | rfl | rfl | rfl<;>decide
 have k:=key i hi
 have up:∀ (B:Int) (ys:List Int),B<=375299968947541->AllIn (-B) B ys->AllIn (-375299968947541) 375299968947541 ys:=fun B ys hB h n hn=>by have:=h n hn;omega
 refine⟨up _ _ (by omega) hB,fun w h hw hh=>up _ _ k (clL_bd trn_unline (by rw[bwd_length,hl];exact Nat.mul_le_mul_right _ hh) hw hB h0)⟩
def fs12:FS where
 A:=AskA
 args:=fun a=>[plV a.a.p a.a.L 0,.int .i64 a.kind,.int .i64 a.n]
 mem:=fun a=>[some (.ro,a.a.L,.ints .i64 a.a.p.xs)]
 pre:=fun a=>a.a.p.xs.length<=140737488355328
 res:=fun a x=>.tup [plV (ivP a.a.p a.kind a.n) (lx (ivOk a.a.p a.kind a.n) x 0) 1,.int .i64 (ivE a.a.p a.kind a.n)]
 out:=fun _ _=>[]
 new:=fun a x=>[(lx (ivOk a.a.p a.kind a.n) x 0,.ints .i64 (ivP a.a.p a.kind a.n).xs)]
set_option maxHeartbeats 1000000 in
theorem ok12:FSOk Try.prog 12 fs12:=by
 refine⟨⟨_,Try.func12,by kernel_rfl,by kernel_rfl⟩,fun a=>⟨by simp[fs12,push_cast,noMine,argOwn,Chunk.frArg],by simp[fs12,push_cast,outOk,Chunk.ext],fun x=>.inl (by simp[fs12,push_cast,frNew,frOut,Chunk.fr])⟩,fun a hp=>?_⟩
 obtain⟨⟨⟨w,h,xs⟩,L⟩,kind,n⟩:=a
 change xs.length<=140737488355328 at hp
 change Tri Try.prog 12 [plV ⟨w,h,xs⟩ L 0,.int .i64 kind,.int .i64 n] [some (.ro,L,.ints .i64 xs)] (postF fs12 ⟨⟨⟨w,h,xs⟩,L⟩,kind,n⟩)
 refine tri_evS (hypI (l:=[(21,ent21),(22,ent22),(23,ent23),(24,ent24),(43,ent43),(25,ent25u),(27,ent27u)]) (li:=[(89,its89)]) (lp:=[])
  ⟨e21,e22,e23,e24,e43,e25u,e27u,trivial⟩ ⟨it89,trivial⟩ trivial) Try.func12 comp12 (rs:=[.cell 6 (some 3),.tmp 7]) (by rfl) Try.ntmps12 43 ?_
 simp -implicitDefEqProofs only[push_cast,zz,seval,ir12,fs21]
 by_cases hO:(⟨w,h,xs⟩:Pl).Ok/\stOk kind n
 ·obtain⟨hO,hS⟩:=hO
  have hE:askE ⟨w,h,xs⟩ kind n=0:=by unfold askE;rw[if_pos hO,if_pos hS]
  simp -implicitDefEqProofs only[push_cast,zz,seval,hE,hp]
  obtain⟨hs,hl,ha⟩:SidesOk w h/\(xs.length:Int)=w*h/\AllIn (-16777216) 16777216 xs:=id hO
  obtain⟨W,H,rfl,rfl,hW,hH,hl2,hl3⟩:=Pl.nat hs hl
  obtain⟨hk,hn0,hn6⟩:=id hS
  obtain⟨n,rfl⟩:∃ m:Nat,n=(m:Int):=⟨n.toNat,by omega⟩
  simp -implicitDefEqProofs only[push_cast,zz,seval,fs23,fs24,fs43,tabR_length,Int.toNat_natCast]
  intro X X1
  repeat refine om_ ?_
  intro X2
  refine⟨hW,hH,by omega,?_⟩
  obtain⟨LS,hLS⟩:∃ LS,lx (0<n) (fun j=>X2 5 (22+j)) 0=LS:=⟨_,rfl⟩
  rw[hLS]
  refine evS_rf its89 ⟨X2 6 26,LS,esz 2 n,W,H,n⟩ rfl ⟨show n<=7 by omega,fun h=>esz_pos h⟩ ⟨by kernel_rfl,by kernel_rfl⟩ rfl ?_ (fun _ _=>rfl) (A:=Unit)
   (fun k _=>[(16,.mine,X1 4 16,.ints .i64 (bwd unL kind W H n xs k)),(22,.mine,LS,.recs 2 false [] (tabR n (sdR W H)))]) (fun k _=>k<=n) () (Nat.zero_le _) ?_ [some 26,some 22] ?_ ?_ ?_ ?_
  ·simp -implicitDefEqProofs only[push_cast,zz,seval,its89]
  ·simp -implicitDefEqProofs only[push_cast,zz,seval,bwd]
  ·simp -implicitDefEqProofs only[push_cast,zz,seval,its89]
  ·intro k _ _
   simp -implicitDefEqProofs only[push_cast,zz,seval,its89]
  ·intro k _ (hk1:k<n) _ K hK
   obtain⟨i,hi⟩:∃ i:Nat,i=n-1-k:=⟨_,rfl⟩
   have b1:=hlf_le W i
   have b2:=hlf_le H i
   obtain⟨f1,f2⟩:=bwd_bd6 (kind:=kind) (n:=n) hl2 ha (i:=k) (by omega)
   have f2:=f2 (hlf W i) (hlf H i) b1 b2
   have hL:=bwd_length unL kind W H n xs k
   have hR:=clL_length unL kind W (hlf H i) (bwd unL kind W H n xs k) (hlf W i)
   have hm:hlf H i*W<=xs.length:=by rw[hl2];exact Nat.mul_le_mul_right _ b2
   have q:rwL unL kind W (hlf W i) (clL unL kind W (hlf H i) (bwd unL kind W H n xs k) (hlf W i)) (hlf H i)=bwd unL kind W H n xs (k+1):=by rw[hi];rfl
   have e0:rd [(hlf W i:Int),(hlf H i:Int)] 0=hlf W i:=rfl
   have e1:rd [(hlf W i:Int),(hlf H i:Int)] 1=hlf H i:=rfl
   change evS _ _ _ _ (putsE _ [35,36] (bwX W H n k)) _
   simp -implicitDefEqProofs only[push_cast,zz,seval,bwX,<-hi]
   intro X3
   simp -implicitDefEqProofs only[push_cast,zz,seval,b12_1,e0,e1,fs25u,fs27u,hL,hR,hk,f1,f2,q,Int.toNat_natCast]
   repeat refine om_ ?_
   refine hK () (by omega) _ _ ?_
   simp -implicitDefEqProofs only[push_cast,zz,seval]
  ·intro _ _
   have hL:=bwd_length unL kind W H n xs n
   have hI:ivL ⟨W,H,xs⟩ kind n=bwd unL kind W H n xs n:=by unfold ivL;simp only[Int.toNat_natCast]
   simp -implicitDefEqProofs only[push_cast,zz,seval,its89,r12_2,fs22,hL]
   repeat refine om_ ?_
   refine⟨fun hb=>?_,fun hg=>?_⟩
   ·have e:¬ ivOk ⟨W,H,xs⟩ kind n:=fun H=>hb (by rw[<-hI];exact H.2.2)
    refine postF.mk' (fun _=>default) [some 0,none] ?_
    simp -implicitDefEqProofs only[push_cast,zz,seval,fs12,ivP,ivE,e,hO,hS,if_false,if_true,lx,pl0]
   ·have e:ivOk ⟨W,H,xs⟩ kind n:=⟨hO,hS,by rw[hI];exact hg⟩
    refine postF.mk' (locs [X1 4 16]) [some 0,some 16] ?_
    simp -implicitDefEqProofs only[push_cast,zz,seval,fs12,ivP,ivE,e,hI,hL,if_true,lx]
 ·have e:¬ ivOk ⟨w,h,xs⟩ kind n:=fun H=>hO ⟨H.1,H.2.1⟩
  obtain⟨c,hcc,hc0,hc1⟩:∃ c:Int,askE ⟨w,h,xs⟩ kind n=c/\¬ c=0/\(if (⟨w,h,xs⟩:Pl).Ok then if stOk kind n then 4 else 2 else 70)=c:=by
   refine⟨_,rfl,?_,?_⟩
   ·unfold askE;split
    ·rename_i hq;rw[if_neg (fun q=>hO ⟨hq,q⟩)];decide
    ·decide
   ·unfold askE;split
    ·rename_i hq;rw[if_neg (fun q=>hO ⟨hq,q⟩),if_neg (fun q=>hO ⟨hq,q⟩)]
    ·rfl
  simp -implicitDefEqProofs only[push_cast,zz,seval,hcc,hp,hc0]
  refine fun X=>postF.mk' (fun _=>default) [some 0,none] ?_
  simp -implicitDefEqProofs only[push_cast,zz,seval,fs12,ivP,ivE,e,hc1,if_false,lx,pl0]
def ent12:Entry:=spOf fs12 inv21
theorem e12:EntryOk Try.prog 12 ent12:=entry_of ok12 inv21
@[push_cast] theorem ent12_app (us:List SV) (look:Look) (x:Nat->Xf.Loc) (k:Nat):ent12 us look x k=spOf fs12 inv21 us look x k:=rfl
theorem rd_unL {kind:Int} {n k:Nat} (h:k<n) (f:Int->Int):rd (unL kind n f) (k:Int)=unF2 kind n f (n / 2) k:=by unfold unL;rw[rd_tabl h]
theorem rows_back {kind:Int} {W w h:Nat} (hw:w<=W) {ws:List Int} (hh:h*W<=ws.length):rwL unL kind W w (rwL lineL kind W w ws h) h=ws:=by
 refine eq_of_rd (by rw[rwL_length,rwL_length]) fun k hk=>?_
 rw[rwL_at trn_unline hw _ h (by rw[rwL_length];exact hh)]
 split
 ·rename_i hc
  obtain⟨h1,h2⟩:=hc
  have e:∀ j:Nat,j<w->rowF (rwL lineL kind W w ws h) ((k / W*W:Nat):Int) 1 w j=(fun j=>rd (lineL kind w (rowF ws ((k / W*W:Nat):Int) 1 w)) j) j:=fun j hj=>by
   have hd:(k / W*W+j) / W=k / W:=by rw[Nat.mul_comm,Nat.mul_add_div (by omega),Nat.div_eq_of_lt (show j<W by omega),Nat.add_zero]
   have hr:(k / W*W+j) % W=j:=by rw[Nat.mul_comm,Nat.mul_add_mod,Nat.mod_eq_of_lt (by omega)]
   rw[rowF_at hj]
   have e1:((k / W*W:Nat):Int)+j*1=((k / W*W+j:Nat):Int):=by omega
   rw[e1,rwL_at trn_line hw ws h hh,if_pos ⟨by rw[hd];exact h1,by rw[hr];exact hj⟩,hd,hr]
  rw[trn_unline.congr kind w _ _ e,rd_unL h2,un_line h2,rowF_at h2]
  congr 1
  have:=place (W:=W) (k:=k)
  omega
 ·rename_i hc
  rw[rwL_at trn_line hw ws h hh,if_neg hc]
theorem cols_back {kind:Int} {W w h:Nat} (hw:w<=W) {ws:List Int} (hh:h*W<=ws.length):clL unL kind W h (clL lineL kind W h ws w) w=ws:=by
 refine eq_of_rd (by rw[clL_length,clL_length]) fun k hk=>?_
 rw[clL_at trn_unline _ (by rw[clL_length];exact hh) w hw]
 split
 ·rename_i hc
  obtain⟨h1,h2⟩:=hc
  have e:∀ j:Nat,j<h->rowF (clL lineL kind W h ws w) ((k % W:Nat):Int) W h j=(fun j=>rd (lineL kind h (rowF ws ((k % W:Nat):Int) W h)) j) j:=fun j hj=>by
   have hlt:k % W<W:=by omega
   have hd:(k % W+j*W) / W=j:=by rw[Nat.add_mul_div_right _ _ (by omega),Nat.div_eq_of_lt hlt,Nat.zero_add]
   have hr:(k % W+j*W) % W=k % W:=by rw[Nat.add_mul_mod_self_right,Nat.mod_mod]
   rw[rowF_at hj]
   have e1:((k % W:Nat):Int)+j*W=((k % W+j*W:Nat):Int):=by simp
   rw[e1,clL_at trn_line ws hh w hw,if_pos ⟨by rw[hr];exact h1,by rw[hd];exact hj⟩,hd,hr]
  rw[trn_unline.congr kind h _ _ e,rd_unL h2,un_line h2,rowF_at h2]
  congr 1
  have:=place (W:=W) (k:=k)
  have e2:((k / W*W:Nat):Int)=((k / W:Nat):Int)*W:=by simp
  omega
 ·rename_i hc
  rw[clL_at trn_line ws hh w hw,if_neg hc]
theorem st_back {kind:Int} {W w h:Nat} (hw:w<=W) {ws:List Int} (hh:h*W<=ws.length):stI unL kind W (stF lineL kind W ws w h) w h=ws:=by
 unfold stI stF
 rw[cols_back hw (by rw[rwL_length];exact hh),rows_back hw hh]
theorem bwd_fwd {kind:Int} {W H n:Nat} {xs:List Int} (hl:xs.length=H*W):∀ i,i<=n->bwd unL kind W H n (fwd lineL kind W H xs n) i=fwd lineL kind W H xs (n-i)
 | 0,_=>rfl
 | i+1,hi=>by
  rw[bwd,bwd_fwd hl i (by omega)]
  have e:n-i=(n-1-i)+1:=by omega
  rw[e,fwd,st_back (hlf_le W _) (by rw[fwd_length,hl];exact Nat.mul_le_mul_right _ (hlf_le H _))]
  congr 1;omega
theorem line_bd2 {kind:Int} {n:Nat} {f:Int->Int} {B:Int} (h:BdF B f) (h0:0<=B):AllIn (-(2*B+1)) (2*B+1) (lineL kind n f):=by
 intro v hv
 unfold lineL at hv
 rcases List.mem_append.1 hv with hv | hv
 ·obtain⟨j,hj,rfl⟩:=List.mem_map.1 hv
  have h1:=h (2*j)
  have hb:BdF (2*B) (fun j=>rd (hiL kind n f) j):=BdF.rd0 (hiL_bd (kind:=kind) (n:=n) h) (by omega)
  have h2:=hb (j:Nat)
  have h3:=hb (max ((j:Nat)-1) 0)
  have h4:=hb (min (j:Nat) (((n / 2:Nat):Int)-1))
  simp only[]at h2 h3 h4
  simp only[loF,liftG]
  split
  ·omega
  ·split<;>omega
 ·have:=hiL_bd h v hv
  omega
theorem rwL_bd2 {kind:Int} {W w:Nat} (hw:w<=W) {ws:List Int} {m:Nat} (hm:m*W<=ws.length) {B:Int} (hB:AllIn (-B) B ws) (h0:0<=B):AllIn (-(2*B+1)) (2*B+1) (rwL lineL kind W w ws m):=by
 rw[allIn_rd]
 intro k hk
 rw[rwL_at trn_line hw ws m hm]
 split
 ·exact rd_bd (line_bd2 (rowF_bd hB h0) h0) (by omega) (by omega) _
 ·have:=rd_bd hB (by omega) h0 (k:Int);omega
theorem clL_bd2 {kind:Int} {W h:Nat} {ws:List Int} (hh:h*W<=ws.length) {m:Nat} (hm:m<=W) {B:Int} (hB:AllIn (-B) B ws) (h0:0<=B):AllIn (-(2*B+1)) (2*B+1) (clL lineL kind W h ws m):=by
 rw[allIn_rd]
 intro k hk
 rw[clL_at trn_line ws hh m hm]
 split
 ·exact rd_bd (line_bd2 (rowF_bd hB h0) h0) (by omega) (by omega) _
 ·have:=rd_bd hB (by omega) h0 (k:Int);omega
def bnd2 (B:Int):Nat->Int
 | 0=>B
 | i+1=>4*bnd2 B i+3
theorem fwd_bd2 {kind:Int} {W H:Nat} {xs:List Int} (hl:xs.length=H*W) {B:Int} (h0:0<=B) (h:AllIn (-B) B xs):∀ i,0<=bnd2 B i/\AllIn (-(bnd2 B i)) (bnd2 B i) (fwd lineL kind W H xs i)
 | 0=>⟨h0,h⟩
 | i+1=>by
  obtain⟨p,q⟩:=fwd_bd2 (kind:=kind) hl h0 h i
  have hm:hlf H i*W<=(fwd lineL kind W H xs i).length:=by rw[fwd_length,hl];exact Nat.mul_le_mul_right _ (hlf_le H i)
  have r1:=rwL_bd2 (kind:=kind) (hlf_le W i) hm q p
  have r2:=clL_bd2 (kind:=kind) (by rw[rwL_length];exact hm) (hlf_le W i) r1 (by omega)
  refine⟨by simp only[bnd2];omega,?_⟩
  simp only[bnd2]
  rw[show 4*bnd2 B i+3=2*(2*bnd2 B i+1)+1 by omega]
  exact r2
theorem fwd_small {kind:Int} {W H n:Nat} {xs:List Int} (hl:xs.length=H*W) (h:AllIn (-1024) 1024 xs) (hn:n<=6):AllIn (-16777216) 16777216 (fwd lineL kind W H xs n):=by
 obtain⟨p,q⟩:=fwd_bd2 (kind:=kind) hl (B:=1024) (by omega) h n
 have key:bnd2 1024 n<=16777216:=by
  have:n=0∨n=1∨n=2∨n=3∨n=4∨n=5∨n=6:=by omega
  rcases this with rfl | rfl | rfl | rfl | rfl | rfl | rfl<;>decide
 intro v hv
 have:=q v hv
 omega
theorem fw_iv {p:Pl} {kind n:Int} (h:fwOk p kind n):ivOk (fwP p kind n) kind n/\ivP (fwP p kind n) kind n=p:=by
 obtain⟨w,h',xs⟩:=p
 obtain⟨hO,hS,hB⟩:=id h
 obtain⟨hs,hl,ha⟩:SidesOk w h'/\(xs.length:Int)=w*h'/\AllIn (-16777216) 16777216 xs:=id hO
 obtain⟨W,H,rfl,rfl,hW,hH,hl2,hl3⟩:=Pl.nat hs hl
 obtain⟨hk,hn0,hn6⟩:=id hS
 obtain⟨n,rfl⟩:∃ m:Nat,n=(m:Int):=⟨n.toNat,by omega⟩
 have hB:AllIn (-1024) 1024 xs:=hB
 have e:fwP ⟨W,H,xs⟩ kind n=⟨W,H,fwd lineL kind W H xs n⟩:=by unfold fwP;rw[if_pos h];simp only[Int.toNat_natCast]
 have e2:ivL ⟨W,H,fwd lineL kind W H xs n⟩ kind n=xs:=by
  unfold ivL
  simp only[Int.toNat_natCast]
  rw[bwd_fwd hl2 n (Nat.le_refl _),Nat.sub_self];rfl
 have e3:ivOk ⟨W,H,fwd lineL kind W H xs n⟩ kind n:=⟨⟨hs,by rw[fwd_length];exact hl,fwd_small hl2 hB (by omega)⟩,hS,by rw[e2];exact ha⟩
 rw[e]
 refine⟨e3,?_⟩
 unfold ivP
 rw[if_pos e3,e2]
theorem fwP_len' {p:Pl} {kind n:Int} (hp:p.xs.length<=140737488355328):(fwP p kind n).xs.length<=140737488355328:=by
 unfold fwP
 split
 ·simp only[fwd_length];exact hp
 ·exact Nat.zero_le _
theorem ct_all {p:Pl} (hok:p.Ok) {P:Nat} (hP:P<=25):ctP p ((P:Int)-P)=p:=by
 have e:((P:Int)-P)=((0:Nat):Int):=by omega
 rw[e]
 unfold ctP sgE
 rw[if_pos hok,if_pos (show tOk ((0:Nat):Int) from ⟨by omega,by omega⟩),if_pos rfl]
 obtain⟨w,h,xs⟩:=p
 simp only
 congr 1
 rw[show(ctF ((0:Nat):Int))=id from funext fun c=>ctF_0 c,List.map_id]
theorem fwP_wh {p:Pl} {kind n:Int} (h:fwOk p kind n):(fwP p kind n).w=p.w/\(fwP p kind n).h=p.h/\(fwP p kind n).xs.length=p.xs.length:=by
 unfold fwP
 rw[if_pos h]
 simp only[fwd_length]
 exact⟨trivial,trivial,trivial⟩
theorem DcA_take (w h lv kd P:Int) (L:Xf.Loc) (f:Nat->Xf.Loc) (CS:List (List Int)) (k:Nat):(⟨w,h,lv,kd,P,L,byL f CS,k⟩:DcA).cs=CS.take k:=by
 unfold DcA.cs
 simp only
 rw[List.map_take,byL_snd]
def ir90:IR:=
 .seq (r_ [o_ 1 (.box 10 (.t 0)),o_ 2 (.mov (.k (.bool false)))] [0,2]) (.seq (.seq (r_ [f_ 3 1 0,l_ 4 3] [3]) (.cond (.t 4) (.seq (r_ [f_ 5 1 1,l_ 6 5,c_ 7 .eql 6 0,m_ 2 7] [1,4,5,6,7]) (.ret)) (.skip))) (.seq (r_ [f_ 8 1 1,l_ 9 8,c_ 10 .geq 9 (-1048576),m_ 11 10,p_ 11 (f_ 12 1 1),p_ 11 (l_ 13 12),p_ 11 (c_ 14 .leq 13 1048576),K_ 15 11 14,m_ 2 15] [1,4,8,9,10,11,12,13,14,15]) (.ret)))
set_option maxRecDepth 4000 in
theorem comp90:(Try.f90.body.bind fun c=>compC tab isP chkAll ir90 c)=some ir90:=by kernel_rfl
def b91_1:IR:=
 .seq (r_ [b_ 34 .lss 33 32] []) (.seq (.cond (.t 34) (.skip) (.exit 0)) (.seq (.block 1 (.seq (r_ [m_ 35 33,m_ 8 35] [34,35]) (r_ [m_ 36 5,m_ 37 0,a_ 38 37 1,m_ 39 8,b_ 40 .add 38 39,o_ 41 (.build [y_,y_] [(0,1,.t 40),(1,1,Z_ 1)]),o_ 42 (.brecs 13 2 .i64 [.t 41]),o_ 43 (.app 14 2 16 (.t 36) (.t 42)),m_ 5 43] [8,36,37,38,39,40,41,42,43]))) (r_ [a_ 44 33 1,m_ 33 44] [44])))
def b91_2:IR:=
 .seq (.seq (r_ [m_ 58 10,c_ 59 .geq 58 0] [58]) (.cond (.t 59) (.skip) (.exit 2))) (.seq (.block 3 (.seq (r_ [m_ 62 7,o_ 63 (.bin 0 .add (Z_ 23) (.t 62)),m_ 11 63] [59,62,63]) (.seq (.seq (r_ [m_ 64 10,m_ 65 7,c_ 66 .sub 65 1,b_ 67 .lss 64 66] [64,65,66]) (.cond (.t 67) (r_ [o_ 68 (.call (some 4) 18 119 [.t 9]),m_ 11 68] [67,68]) (.skip))) (r_ [m_ 69 5,m_ 70 0,m_ 71 11,b_ 72 .add 70 71,m_ 73 6,m_ 74 10,b_ 75 .shr 73 74,c_ 76 .and 75 1,o_ 77 (.build [y_,y_] [(0,1,.t 72),(1,1,.t 76)]),o_ 78 (.brecs 22 2 .i64 [.t 77]),o_ 79 (.app 23 2 16 (.t 69) (.t 78)),m_ 5 79] [11,67,69,70,71,72,73,74,75,76,77,78,79])))) (r_ [m_ 60 10,c_ 61 .sub 60 1,m_ 10 61] [60,61]))
def r91_3:IR:=
 .seq (.seq (r_ [f_ 80 3 1,l_ 81 80,c_ 82 .neq 81 0] [6,7,9,10,80,81]) (.cond (.t 82) (.seq (r_ [m_ 83 0,a_ 84 83 22,o_ 85 (.build [y_,y_] [(0,1,.t 84)]),o_ 12 (.alloc 24 [y_,y_]),s_ 2 .i64 12 85] [0,82,83,84,85]) (.seq (.seq (r_ [f_ 86 3 1,l_ 87 86,c_ 88 .lss 87 0] [3,86,87]) (.cond (.t 88) (r_ [f_ 89 12 1,O_ (.sto false 1 .i64 (.t 89) (Z_ 1))] [88,89]) (.skip))) (r_ [m_ 90 5,o_ 91 (.ld false (some 2) 0 0 (.t 12)),o_ 92 (.brecs 25 2 .i64 [.t 91]),o_ 93 (.app 26 2 16 (.t 90) (.t 92)),m_ 5 93] [12,88,90,91,92,93]))) (.skip))) (.seq (r_ [m_ 94 5,m_ 4 94] [0,3,5,82,94]) (.ret))
def r91_4:IR:=
 .seq (.seq (r_ [m_ 45 7,c_ 46 .lss 45 20] [32,33,45]) (.cond (.t 46) (r_ [m_ 47 5,m_ 48 0,a_ 49 48 1,m_ 50 7,b_ 51 .add 49 50,o_ 52 (.build [y_,y_] [(0,1,.t 51)]),o_ 53 (.brecs 15 2 .i64 [.t 52]),o_ 54 (.app 16 2 16 (.t 47) (.t 53)),m_ 5 54] [46,47,48,49,50,51,52,53,54]) (.skip))) (.seq (r_ [o_ 55 (.build [y_] [(0,1,Z_ 44)]),o_ 9 (.alloc 17 [y_]),s_ 1 .i64 9 55] [46,55]) (.seq (.seq (r_ [m_ 56 7,c_ 57 .sub 56 1,m_ 10 57] [56,57]) (.block 2 (.loop b91_2))) (r91_3)))
def ir91:IR:=
 .seq (r_ [o_ 3 (.box 10 (.t 1)),o_ 4 (.mov (.k nilSV))] [1,4]) (.seq (.seq (r_ [f_ 13 3 0,l_ 14 13] [13]) (.cond (.t 14) (.seq (r_ [m_ 15 0,o_ 16 (.build [y_,y_] [(0,1,.t 15),(1,1,Z_ 1)]),o_ 17 (.brecs 11 2 .i64 [.t 16]),m_ 4 17] [0,3,14,15,16,17]) (.ret)) (.skip))) (.seq (r_ [m_ 18 0,o_ 19 (.build [y_,y_] [(0,1,.t 18)]),o_ 20 (.brecs 12 2 .i64 [.t 19]),m_ 5 20] [4,14,18,19,20]) (.seq (r_ [f_ 21 3 1,l_ 22 21,f_ 23 3 1,l_ 24 23,o_ 25 (.neg 0 (.t 24)),o_ 26 (.mx (.t 22) (.t 25)),a_ 27 26 1,m_ 6 27] [21,22,23,24,25,26,27]) (.seq (r_ [m_ 28 6,o_ 29 (.cvt 0 .u64 (.t 28)),o_ 30 (.callp 71 [.t 29]),c_ 31 .sub 30 1,m_ 7 31] [28,29,30,31]) (.seq (.seq (r_ [m_ 32 7,z_ 33 0] []) (.block 0 (.loop b91_1))) (r91_4))))))
def kp91_1:List Nat:=[0,3,5,6,7,32,33]
def kl91_1:List Nat:=[13,14]
attribute [push_cast] kp91_1 kl91_1
def kp91_2:List Nat:=[0,3,5,6,7,9,10]
def kl91_2:List Nat:=[18,19,20,21,22,23]
attribute [push_cast] kp91_2 kl91_2
set_option maxRecDepth 4000 in
theorem comp91:(Try.f91.body.bind fun c=>compC tab isP chkAll ir91 c)=some ir91:=by kernel_rfl
def ir48:IR:=
 .seq (r_ [o_ 3 (.box 10 (.t 1)),o_ 4 (.mov (.k nilSV)),z_ 5 0] [1,4,5]) (.seq (.seq (r_ [o_ 6 (.ld false (some 2) 0 0 (.t 3)),o_ 7 (.call (some 4) 11 90 [.t 6]),o_ 8 (.not (.t 7)),m_ 9 8,q_ 9 (m_ 10 0),q_ 9 (c_ 11 .lss 10 0),k_ 12 9 11,m_ 13 12,q_ 13 (m_ 14 0),q_ 13 (c_ 15 .gtr 14 8144),k_ 16 13 15] [6,7,8,9,10,11,12,13,14,15]) (.cond (.t 16) (.seq (r_ [o_ 4 (.mov (.k nilSV)),z_ 5 2] [0,3,16]) (.ret)) (.skip))) (.seq (r_ [m_ 17 0,o_ 18 (.ld false (some 2) 0 0 (.t 3)),o_ 19 (.call (some 4) 15 91 [.t 17,.t 18]),m_ 4 19,z_ 5 0] [0,3,16,17,18,19]) (.ret)))
set_option maxRecDepth 4000 in
theorem comp48:(Try.f48.body.bind fun c=>compC tab isP chkAll ir48 c)=some ir48:=by kernel_rfl
def b49_1:IR:=
 .seq (.seq (r_ [m_ 11 5,m_ 12 0,h_ 13 12,b_ 14 .lss 11 13] [11,12,13]) (.cond (.t 14) (.skip) (.exit 0))) (.seq (.block 1 (.seq (R_ [m_ 17 0,m_ 18 5,i_ 19 17 18 2,o_ 20 (.ld true (some 2) 0 0 (.t 19)),m_ 21 1,m_ 22 5,i_ 23 21 22 2,o_ 24 (.ld true (some 2) 0 0 (.t 23)),o_ 25 (.binA .neq [true,true] (.t 20) (.t 24))] [14,17,18,19,20,21,22,23,24]) (.cond (.t 25) (.seq (r_ [o_ 4 (.mov (.k (.bool false)))] [0,1,5,25]) (.ret)) (.skip)))) (r_ [m_ 15 5,a_ 16 15 1,m_ 5 16] [4,15,16,25]))
def r49_2:IR:=
 .seq (r_ [o_ 4 (.mov (.k (.bool true)))] [0,1,5]) (.ret)
def ir49:IR:=
 .seq (r_ [o_ 4 (.mov (.k (.bool false)))] [4]) (.seq (.seq (r_ [m_ 6 0,h_ 7 6,m_ 8 1,h_ 9 8,b_ 10 .neq 7 9] [6,7,8,9]) (.cond (.t 10) (.seq (r_ [o_ 4 (.mov (.k (.bool false)))] [0,1,10]) (.ret)) (.skip))) (.seq (.seq (r_ [z_ 5 0] [4,10]) (.block 0 (.loop b49_1))) (r49_2)))
def kp49_1:List Nat:=[0,1,5]
def kl49_1:List Nat:=[]
attribute [push_cast] kp49_1 kl49_1
set_option maxRecDepth 4000 in
theorem comp49:(Try.f49.body.bind fun c=>compC tab isP chkAll ir49 c)=some ir49:=by kernel_rfl
def ir15:IR:=
 .seq (r_ [o_ 0 (.mov (.k (.bool false)))] [0]) (.seq (r_ [o_ 4 (.build [.bool false,y_] [(1,1,Z_ 2)]),o_ 5 (.call (some 4) 10 48 [Z_ 0,.t 4]),m_ 3 5,e_ 6 3 0,e_ 7 3 1,m_ 1 6,m_ 2 7] [3,4,5,6,7]) (.seq (r_ [m_ 8 2,c_ 9 .eql 8 0,m_ 10 9,p_ 10 (m_ 11 1),p_ 10 (o_ 12 (.build [y_,y_] [(0,1,Z_ 0),(1,1,Z_ 0)])),p_ 10 (o_ 13 (.build [y_,y_] [(0,1,Z_ 1),(1,1,Z_ 1)])),p_ 10 (o_ 14 (.build [y_,y_] [(0,1,Z_ 2),(1,1,Z_ 0)])),p_ 10 (o_ 15 (.build [y_,y_] [(0,1,Z_ 24),(1,1,Z_ 1)])),p_ 10 (o_ 16 (.build [y_,y_] [(0,1,Z_ 22),(1,1,Z_ 0)])),p_ 10 (o_ 17 (.brecs 14 2 .i64 [.t 12,.t 13,.t 14,.t 15,.t 16])),p_ 10 (o_ 18 (.call (some 4) 15 49 [.t 11,.t 17])),K_ 19 10 18,m_ 0 19] [1,2,8,9,10,11,12,13,14,15,16,17,18,19]) (.ret)))
set_option maxRecDepth 4000 in
theorem comp15:(Try.f15.body.bind fun c=>compC tab isP chkAll ir15 c)=some ir15:=by kernel_rfl
structure NmA where
 base:Int
 none:Bool
 n:Int
def nmOk (a:NmA):Prop:=a.base=0/\a.none=false/\a.n=2
def evI (l:List (Int×Int)):List (List RC):=l.map fun p=>[.int .i64 p.1,.int .i64 p.2]
def evL:List (Int×Int):=[(0,0),(1,1),(2,0),(24,1),(22,0)]
def fs90:FS where
 A:=NmA
 args:=fun a=>[.agg [.bool a.none,.int .i64 a.n]]
 mem:=fun _=>[]
 pre:=fun a=>nmOk ⟨0,a.none,a.n⟩
 res:=fun _ _=>.bool true
 out:=fun _ _=>[]
 new:=fun _ _=>[]
def invNv:List SV->Look->Option (NmA×List Nat)
 | [.agg [.bool b,.int .i64 n]],look=>some (⟨0,b,n⟩,[])
 | _,_=>none
def invNe:List SV->Look->Option (NmA×List Nat)
 | [.int .i64 a,.agg [.bool b,.int .i64 n]],look=>some (⟨a,b,n⟩,[])
 | _,_=>none
attribute [push_cast] invNv invNe
theorem ok90:FSOk Try.prog 90 fs90:=by
 refine⟨⟨_,Try.func90,by kernel_rfl,by kernel_rfl⟩,fun a=>⟨by simp[fs90,push_cast,noMine,argOwn,Chunk.frArg],by simp[fs90,push_cast,outOk,Chunk.ext],fun x=>.inl (by simp[fs90,push_cast,frNew,frOut,Chunk.fr])⟩,fun a hp=>?_⟩
 obtain⟨base,b,n⟩:=a
 obtain⟨-,h1,h2⟩:(0:Int)=0/\b=false/\n=2:=hp
 subst h1
 subst h2
 change Tri Try.prog 90 [.agg [.bool false,.int .i64 2]] [] (postF fs90 ⟨base,false,2⟩)
 refine tri_evS (hyp (l:=[]) (lp:=[]) trivial trivial) Try.func90 comp90 (rs:=[.tmp 2]) (by rfl) Try.ntmps90 11 ?_
 simp -implicitDefEqProofs only[push_cast,zz,seval,ir90]
 intro X
 refine postF.mk' (fun _=>default) [] ?_
 simp -implicitDefEqProofs only[push_cast,zz,seval,fs90]
def ent90:Entry:=spOf fs90 invNv
theorem e90:EntryOk Try.prog 90 ent90:=entry_of ok90 invNv
@[push_cast] theorem ent90_app (us:List SV) (look:Look) (x:Nat->Xf.Loc) (k:Nat):ent90 us look x k=spOf fs90 invNv us look x k:=rfl
def evT:Nat->List (List RC)
 | 0=>[[.int .i64 0,.int .i64 0]]
 | _=>[[.int .i64 0,.int .i64 0],[.int .i64 1,.int .i64 1]]
def evN:Nat->Int
 | 0=>1
 | _=>2
def evU:Nat->List (List RC)
 | 0=>[[.int .i64 0,.int .i64 0],[.int .i64 1,.int .i64 1],[.int .i64 2,.int .i64 0]]
 | _=>[[.int .i64 0,.int .i64 0],[.int .i64 1,.int .i64 1],[.int .i64 2,.int .i64 0],[.int .i64 24,.int .i64 1]]
def evO:Nat->Int
 | 0=>3
 | _=>4
def evJ:Nat->Int
 | 0=>0
 | _=>-1
def fs91:FS where
 A:=NmA
 args:=fun a=>[.int .i64 a.base,.agg [.bool a.none,.int .i64 a.n]]
 mem:=fun _=>[]
 pre:=fun a=>nmOk a
 res:=fun _ x=>.sl 0 (x 0) 2 0 5
 out:=fun _ _=>[]
 new:=fun _ x=>[(x 0,.recs 2 true [] (evI evL))]
set_option maxHeartbeats 1000000 in
theorem ok91:FSOk Try.prog 91 fs91:=by
 refine⟨⟨_,Try.func91,by kernel_rfl,by kernel_rfl⟩,fun a=>⟨by simp[fs91,evI,evL,push_cast,noMine,argOwn,Chunk.frArg],by simp[fs91,evI,evL,push_cast,outOk,Chunk.ext],fun x=>.inl (by simp[fs91,evI,evL,push_cast,frNew,frOut,Chunk.fr])⟩,fun a hp=>?_⟩
 obtain⟨base,b,n⟩:=a
 obtain⟨h0,h1,h2⟩:base=0/\b=false/\n=2:=hp
 subst h0
 subst h1
 subst h2
 change Tri Try.prog 91 [.int .i64 0,.agg [.bool false,.int .i64 2]] [] (postF fs91 ⟨0,false,2⟩)
 refine tri_evS (hyp (l:=[]) (lp:=[(71,lenF)]) trivial ⟨p71,trivial⟩) Try.func91 comp91 (rs:=[.tmp 4]) (by rfl) Try.ntmps91 27 ?_
 have hmx:max (2:Int) (-2)=2:=rfl
 have hl:lenP 3=2:=by decide
 have hb:bitop .and .i64 3 1=1:=by decide
 simp -implicitDefEqProofs only[push_cast,zz,seval,ir91,hmx,hl]
 intro X
 repeat refine om_ ?_
 intro X0
 repeat refine om_ ?_
 refine evS_loopU (A:=Nat×Xf.Loc) kp91_1 kl91_1 (fun y=>[(5,.sl 12 y.2 2 0 (evN y.1)),(33,.int .i64 y.1)]) (fun y=>[(12,.mine,y.2,.recs 2 true [] (evT y.1))]) (fun y=>y.1=0∨y.1=1) (fun y=>1-y.1) (0,X0 2 12) (.inl rfl) (Sub.pt ?_) ?_
 ·simp -implicitDefEqProofs only[push_cast,zz,seval,evT,evN]
 intro ⟨i,M⟩ (hi:i=0∨i=1) K hK
 rcases hi with rfl | rfl
 ·simp -implicitDefEqProofs only[push_cast,zz,seval,b91_1,evT,evN]
  repeat refine om_ ?_
  intro X1
  repeat refine om_ ?_
  refine hK (1,X1 7 14) (.inr rfl) (show 1-1<1-0 by decide) _ _ (Sub.of (mkG 27 [(10,10),(12,14)]) ?_)
  simp -implicitDefEqProofs only[push_cast,zz,seval,evT,evN]
 clear hK
 simp -implicitDefEqProofs only[push_cast,zz,seval,b91_1,r91_4,evT,evN]
 repeat refine om_ ?_
 intro X1
 repeat refine om_ ?_
 intro X9
 repeat refine om_ ?_
 refine evS_loopU (A:=Nat×Xf.Loc) kp91_2 kl91_2 (fun y=>[(5,.sl 16 y.2 2 0 (evO y.1)),(10,.int .i64 (evJ y.1))]) (fun y=>[(16,.mine,y.2,.recs 2 true [] (evU y.1))]) (fun y=>y.1=0∨y.1=1) (fun y=>1-y.1) (0,X1 7 16) (.inl rfl) (Sub.pt ?_) ?_
 ·simp -implicitDefEqProofs only[push_cast,zz,seval,evU,evO,evJ]
 intro ⟨i,M2⟩ (hi:i=0∨i=1) K hK
 rcases hi with rfl | rfl
 ·simp -implicitDefEqProofs only[push_cast,zz,seval,b91_2,evU,evO,evJ,hb]
  repeat refine om_ ?_
  intro X2
  repeat refine om_ ?_
  refine hK (1,X2 10 23) (.inr rfl) (show 1-1<1-0 by decide) _ _ (Sub.of (mkG 27 [(10,10),(15,15),(16,23),(17,17)]) ?_)
  simp -implicitDefEqProofs only[push_cast,zz,seval,evU,evO,evJ]
 clear hK
 simp -implicitDefEqProofs only[push_cast,zz,seval,b91_2,r91_3,evU,evO,evJ]
 repeat refine om_ ?_
 intro X2
 repeat refine om_ ?_
 intro X3
 repeat refine om_ ?_
 refine postF.mk' (fun _=>X3 3 26) [some 26] ?_
 simp -implicitDefEqProofs only[push_cast,zz,seval,fs91,evI,evL]
def ent91:Entry:=spOf fs91 invNe
theorem e91:EntryOk Try.prog 91 ent91:=entry_of ok91 invNe
@[push_cast] theorem ent91_app (us:List SV) (look:Look) (x:Nat->Xf.Loc) (k:Nat):ent91 us look x k=spOf fs91 invNe us look x k:=rfl
def fs48:FS where
 A:=NmA
 args:=fun a=>[.int .i64 a.base,.agg [.bool a.none,.int .i64 a.n]]
 mem:=fun _=>[]
 pre:=fun a=>nmOk a
 res:=fun _ x=>.tup [.sl 0 (x 0) 2 0 5,.int .i64 0]
 out:=fun _ _=>[]
 new:=fun _ x=>[(x 0,.recs 2 true [] (evI evL))]
theorem ok48:FSOk Try.prog 48 fs48:=by
 refine⟨⟨_,Try.func48,by kernel_rfl,by kernel_rfl⟩,fun a=>⟨by simp[fs48,evI,evL,push_cast,noMine,argOwn,Chunk.frArg],by simp[fs48,evI,evL,push_cast,outOk,Chunk.ext],fun x=>.inl (by simp[fs48,evI,evL,push_cast,frNew,frOut,Chunk.fr])⟩,fun a hp=>?_⟩
 obtain⟨base,b,n⟩:=a
 obtain⟨h0,h1,h2⟩:base=0/\b=false/\n=2:=hp
 subst h0
 subst h1
 subst h2
 change Tri Try.prog 48 [.int .i64 0,.agg [.bool false,.int .i64 2]] [] (postF fs48 ⟨0,false,2⟩)
 have hk1:nmOk ⟨0,false,2⟩:=⟨rfl,rfl,rfl⟩
 refine tri_evS (hyp (l:=[(90,ent90),(91,ent91)]) (lp:=[]) ⟨e90,e91,trivial⟩ trivial) Try.func48 comp48 (rs:=[.tmp 4,.tmp 5]) (by rfl) Try.ntmps48 19 ?_
 simp -implicitDefEqProofs only[push_cast,zz,seval,ir48,fs90,fs91,hk1]
 intro X
 repeat refine om_ ?_
 intro X1
 refine postF.mk' (fun _=>X1 2 15) [some 15] ?_
 simp -implicitDefEqProofs only[push_cast,zz,seval,fs48]
def ent48:Entry:=spOf fs48 invNe
theorem e48:EntryOk Try.prog 48 ent48:=entry_of ok48 invNe
@[push_cast] theorem ent48_app (us:List SV) (look:Look) (x:Nat->Xf.Loc) (k:Nat):ent48 us look x k=spOf fs48 invNe us look x k:=rfl
structure SvA where
 L:Xf.Loc
 M:Xf.Loc
 a:List (List RC)
 b:List (List RC)
def rowRc (look:Look) (d:Nat):Option (Xf.Loc×List (List RC)):=
 match rowR (look d)with
  | some (L,2,_,r)=>some (L,r)
  | _=>none
def invSv:List SV->Look->Option (SvA×List Nat)
 | [.sl c _ 2 0 _,.sl d _ 2 0 _],look=>match rowRc look c,rowRc look d with
  | some (L,a),some (M,b)=>some (⟨L,M,a,b⟩,[c,d])
  | _,_=>none
 | _,_=>none
attribute [push_cast] rowRc invSv
def fs49:FS where
 A:=SvA
 args:=fun a=>[.sl 0 a.L 2 0 5,.sl 1 a.M 2 0 5]
 mem:=fun a=>[some (.ro,a.L,.recs 2 false [] a.a),some (.ro,a.M,.recs 2 false [] a.b)]
 pre:=fun a=>a.a=evI evL/\a.b=evI evL
 res:=fun _ _=>.bool true
 out:=fun _ _=>[]
 new:=fun _ _=>[]
theorem ev_at (i:Nat) (h:i<5):∃ a b:Int,recAt (i:Int) [] (evI evL)=[.int .i64 a,.int .i64 b]:=by
 have:i=0∨i=1∨i=2∨i=3∨i=4:=by omega
 rcases this with rfl | rfl | rfl | rfl | rfl<;>exact⟨_,_,rfl⟩
theorem ok49:FSOk Try.prog 49 fs49:=by
 refine⟨⟨_,Try.func49,by kernel_rfl,by kernel_rfl⟩,fun a=>⟨by simp[fs49,push_cast,noMine,argOwn,Chunk.frArg],by simp[fs49,push_cast,outOk,Chunk.ext],fun x=>.inl (by simp[fs49,push_cast,frNew,frOut,Chunk.fr])⟩,fun a hp=>?_⟩
 obtain⟨L,M,x,y⟩:=a
 obtain⟨h1,h2⟩:x=evI evL/\y=evI evL:=hp
 obtain⟨E,hE⟩:∃ E,evI evL=E:=⟨_,rfl⟩
 have hat:=ev_at
 have hl:E.length=5:=by rw[<-hE];rfl
 rw[hE]at h1 h2
 simp only[hE]at hat
 subst h1
 subst h2
 change Tri Try.prog 49 [.sl 0 L 2 0 5,.sl 1 M 2 0 5] [some (.ro,L,.recs 2 false [] y),some (.ro,M,.recs 2 false [] y)] (postF fs49 ⟨L,M,y,y⟩)
 refine tri_evS (hyp (l:=[]) (lp:=[]) trivial trivial) Try.func49 comp49 (rs:=[.tmp 4]) (by rfl) Try.ntmps49 10 ?_
 simp -implicitDefEqProofs only[push_cast,zz,seval,ir49]
 refine evS_loopU (A:=Nat) kp49_1 kl49_1 (fun i=>[(5,.int .i64 i)]) (fun _=>[]) (fun i=>i<=5) (fun i=>5-i) 0 (Nat.zero_le _) (Sub.pt ?_) ?_
 ·simp -implicitDefEqProofs only[push_cast,zz,seval]
 intro i hi K hK
 have hi:i<=5:=hi
 by_cases hi':i<5
 ·have hii:(i:Int)<5:=by omega
  obtain⟨a,b,hr⟩:=hat i hi'
  simp -implicitDefEqProofs only[push_cast,zz,seval,b49_1,hii,hr,hl]
  repeat refine om_ ?_
  refine hK (i+1) (show i+1<=5 by omega) (show 5-(i+1)<5-i by omega) _ _ (Sub.pt ?_)
  simp -implicitDefEqProofs only[push_cast,zz,seval]
 ·obtain rfl:i=5:=by omega
  clear hK
  simp -implicitDefEqProofs only[push_cast,zz,seval,b49_1,r49_2]
  refine postF.mk' (fun _=>default) [some 0,some 1] ?_
  simp -implicitDefEqProofs only[push_cast,zz,seval,fs49]
def ent49:Entry:=spOf fs49 invSv
theorem e49:EntryOk Try.prog 49 ent49:=entry_of ok49 invSv
@[push_cast] theorem ent49_app (us:List SV) (look:Look) (x:Nat->Xf.Loc) (k:Nat):ent49 us look x k=spOf fs49 invSv us look x k:=rfl
structure NoA where
 u:Unit
def fs15:FS where
 A:=Unit
 args:=fun _=>[]
 mem:=fun _=>[]
 pre:=fun _=>True
 res:=fun _ _=>.bool true
 out:=fun _ _=>[]
 new:=fun _ _=>[]
def invSn:List SV->Look->Option (Unit×List Nat)
 | [],_=>some ((),[])
 | _,_=>none
attribute [push_cast] invSn
theorem ok15:FSOk Try.prog 15 fs15:=by
 refine⟨⟨_,Try.func15,by kernel_rfl,by kernel_rfl⟩,fun a=>⟨by simp[fs15,push_cast,noMine,argOwn,Chunk.frArg],by simp[fs15,push_cast,outOk,Chunk.ext],fun x=>.inl (by simp[fs15,push_cast,frNew,frOut,Chunk.fr])⟩,fun a hp=>?_⟩
 change Tri Try.prog 15 [] [] (postF fs15 ())
 have hk1:nmOk ⟨0,false,2⟩:=⟨rfl,rfl,rfl⟩
 have hE:[[RC.int .i64 0,.int .i64 0],[.int .i64 1,.int .i64 1],[.int .i64 2,.int .i64 0],[.int .i64 24,.int .i64 1],[.int .i64 22,.int .i64 0]]=evI evL:=rfl
 refine tri_evS (hyp (l:=[(48,ent48),(49,ent49)]) (lp:=[]) ⟨e48,e49,trivial⟩ trivial) Try.func15 comp15 (rs:=[.tmp 0]) (by rfl) Try.ntmps15 19 ?_
 simp -implicitDefEqProofs only[push_cast,zz,seval,ir15,fs48,fs49,hk1,hE]
 repeat refine om_ ?_
 intro X
 repeat refine om_ ?_
 intro X1
 repeat refine om_ ?_
 refine postF.mk' (fun _=>default) [] ?_
 simp -implicitDefEqProofs only[push_cast,zz,seval,fs15]
def ent15:Entry:=spOf fs15 invSn
theorem e15:EntryOk Try.prog 15 ent15:=entry_of ok15 invSn
@[push_cast] theorem ent15_app (us:List SV) (look:Look) (x:Nat->Xf.Loc) (k:Nat):ent15 us look x k=spOf fs15 invSn us look x k:=rfl
theorem turn_back {i:Im} (h:i.Ok):((turn tY i).xs.length=i.R.length/\(turn tU i).xs.length=i.R.length/\(turn tV i).xs.length=i.R.length) /\
  ∀ L1 L2 L3,(⟨⟨turn tY i,L1⟩,⟨turn tU i,L2⟩,⟨turn tV i,L3⟩⟩:Bk).Ok/\backI ⟨⟨turn tY i,L1⟩,⟨turn tU i,L2⟩,⟨turn tV i,L3⟩⟩=i:=by
 have hs:=h.1
 have hl:=h.2.1.1
 obtain⟨e1,e2,hv⟩:=h.val
 have eY:turn tY i=⟨i.w,i.h,tabl i.R.length (tY i)⟩:=if_pos h
 have eU:turn tU i=⟨i.w,i.h,tabl i.R.length (tU i)⟩:=if_pos h
 have eV:turn tV i=⟨i.w,i.h,tabl i.R.length (tV i)⟩:=if_pos h
 rw[eY,eU,eV]
 refine⟨⟨tabl_length _ _,tabl_length _ _,tabl_length _ _⟩,fun L1 L2 L3=>?_⟩
 have key:∀ f:Nat->Int,(∀ k:Nat,k<i.R.length->-16777216<=f k/\f k<=16777216)->(⟨i.w,i.h,tabl i.R.length f⟩:Pl).Ok:=by
  intro f hf
  refine⟨hs,by simp only[tabl_length];exact hl,?_⟩
  rw[allIn_rd]
  intro j hj
  simp only[tabl_length]at hj ⊢
  rw[rd_tabl hj];exact hf j hj
 have hO:(⟨⟨⟨i.w,i.h,tabl i.R.length (tY i)⟩,L1⟩,⟨⟨i.w,i.h,tabl i.R.length (tU i)⟩,L2⟩,⟨⟨i.w,i.h,tabl i.R.length (tV i)⟩,L3⟩⟩:Bk).Ok:=by
  refine⟨⟨key _ ?_,key _ ?_,key _ ?_⟩,rfl,rfl,rfl,rfl⟩<;>intro k hk<;>have:=hv k hk<;>simp only[tY,tU,tV]<;>omega
 refine⟨hO,?_⟩
 unfold backI
 rw[if_pos hO]
 simp only[tabl_length]
 obtain⟨w,hh,R,G,B⟩:=i
 simp only at e1 e2 hv
 have qR:tabl R.length (bkR (tabl R.length (tY ⟨w,hh,R,G,B⟩)) (tabl R.length (tU ⟨w,hh,R,G,B⟩)) (tabl R.length (tV ⟨w,hh,R,G,B⟩)))=R:=by
  refine eq_of_rd (tabl_length _ _) fun j hj=>?_
  rw[tabl_length]at hj
  rw[rd_tabl hj];unfold bkR bG;rw[rd_tabl hj,rd_tabl hj,rd_tabl hj]
  have:=hv j hj
  simp only[tY,tU,tV,clampI];omega
 have qG:tabl R.length (bkG (tabl R.length (tY ⟨w,hh,R,G,B⟩)) (tabl R.length (tU ⟨w,hh,R,G,B⟩)) (tabl R.length (tV ⟨w,hh,R,G,B⟩)))=G:=by
  refine eq_of_rd (by rw[tabl_length,e1]) fun j hj=>?_
  rw[tabl_length]at hj
  rw[rd_tabl hj];unfold bkG bG;rw[rd_tabl hj,rd_tabl hj,rd_tabl hj]
  have:=hv j hj
  simp only[tY,tU,tV,clampI];omega
 have qB:tabl R.length (bkB (tabl R.length (tY ⟨w,hh,R,G,B⟩)) (tabl R.length (tU ⟨w,hh,R,G,B⟩)) (tabl R.length (tV ⟨w,hh,R,G,B⟩)))=B:=by
  refine eq_of_rd (by rw[tabl_length,e2]) fun j hj=>?_
  rw[tabl_length]at hj
  rw[rd_tabl hj];unfold bkB bG;rw[rd_tabl hj,rd_tabl hj,rd_tabl hj]
  have:=hv j hj
  simp only[tY,tU,tV,clampI];omega
 rw[qR,qG,qB]
theorem turn_small {i:Im} (h:i.Ok):∃ Y U V,turn tY i=⟨i.w,i.h,Y⟩/\turn tU i=⟨i.w,i.h,U⟩/\turn tV i=⟨i.w,i.h,V⟩/\Y.length=i.R.length/\U.length=i.R.length/\V.length=i.R.length /\
  AllIn (-1024) 1024 Y/\AllIn (-1024) 1024 U/\AllIn (-1024) 1024 V/\(⟨i.w,i.h,Y⟩:Pl).Ok/\(⟨i.w,i.h,U⟩:Pl).Ok/\(⟨i.w,i.h,V⟩:Pl).Ok:=by
 obtain⟨e1,e2,hv⟩:=h.val
 have eY:turn tY i=⟨i.w,i.h,tabl i.R.length (tY i)⟩:=if_pos h
 have eU:turn tU i=⟨i.w,i.h,tabl i.R.length (tU i)⟩:=if_pos h
 have eV:turn tV i=⟨i.w,i.h,tabl i.R.length (tV i)⟩:=if_pos h
 have key:∀ f:Nat->Int,(∀ k:Nat,k<i.R.length->-1024<=f k/\f k<=1024)->AllIn (-1024) 1024 (tabl i.R.length f):=by
  intro f hf
  rw[allIn_rd]
  intro j hj
  simp only[tabl_length]at hj
  rw[rd_tabl hj];exact hf j hj
 obtain⟨k1,-⟩:=(turn_back h).2 default default default
 obtain⟨⟨k1,k2,k3⟩,-⟩:=k1
 simp only[eY,eU,eV]at k1 k2 k3
 refine⟨_,_,_,eY,eU,eV,tabl_length _ _,tabl_length _ _,tabl_length _ _,key _ ?_,key _ ?_,key _ ?_,k1,k2,k3⟩<;>intro k hk<;>have:=hv k hk<;>simp only[tY,tU,tV]<;>omega
def b4_1:IR:=
 .seq (.seq (r_ [m_ 63 12,o_ 64 (.bin 1 .lss (.t 63) (Z_ 3))] [63]) (.cond (.t 64) (.skip) (.exit 0))) (.seq (.block 1 (.seq (r_ [m_ 68 11,m_ 69 12,i_ 70 68 69 3,o_ 71 (.ld true (some 3) 28 1 (.t 70)),m_ 72 4,m_ 73 5,o_ 74 (.call (some 4) 29 7 [.t 71,.t 72,.t 73]),m_ 67 74,e_ 75 67 0,e_ 76 67 1,o_ 13 (.alloc 33 [y_,y_,nilSV]),s_ 3 .i64 13 75,m_ 14 76] [64,67,68,69,70,71,72,73,74,75,76]) (.seq (.seq (r_ [m_ 77 14,o_ 78 (.bin 1 .neq (.t 77) (Z_ 0))] [14,77]) (.cond (.t 78) (.seq (r_ [o_ 2 (.mov (.k (.bool false)))] [3,4,5,6,11,12,13,78]) (.ret)) (.skip))) (.seq (r_ [o_ 80 (.ld false (some 3) 0 0 (.t 13)),o_ 81 (.call (some 4) 34 10 [.t 80]),m_ 79 81,e_ 82 79 0,e_ 83 79 1,m_ 15 82,m_ 14 83] [2,78,79,80,81,82,83]) (.seq (r_ [o_ 85 (.ld false (some 3) 0 0 (.t 13)),m_ 86 5,m_ 87 6,o_ 88 (.call (some 4) 38 9 [.t 85,.t 86,.t 87]),m_ 84 88,e_ 89 84 0,e_ 90 84 1,m_ 16 89,m_ 17 90] [84,85,86,87,88,89,90]) (.seq (.seq (r_ [m_ 91 14,o_ 92 (.bin 1 .neq (.t 91) (Z_ 0)),m_ 93 92,q_ 93 (m_ 94 17),q_ 93 (o_ 95 (.bin 1 .neq (.t 94) (Z_ 0))),k_ 96 93 95,m_ 97 96,q_ 97 (m_ 98 16),q_ 97 (h_ 99 98),q_ 97 (m_ 100 15),q_ 97 (o_ 101 (.bin 1 .neq (.t 99) (.t 100))),k_ 102 97 101] [14,17,91,92,93,94,95,96,97,98,99,100,101]) (.cond (.t 102) (.seq (r_ [o_ 2 (.mov (.k (.bool false)))] [3,4,5,6,11,12,13,15,16,102]) (.ret)) (.skip))) (.seq (r_ [f_ 104 3 0,l_ 105 104,f_ 106 3 1,l_ 107 106,m_ 108 5,m_ 109 6,m_ 110 15,m_ 111 16,o_ 112 (.call (some 4) 42 11 [.t 105,.t 107,.t 108,.t 109,.t 110,.t 111]),m_ 103 112,e_ 113 103 0,e_ 114 103 1,o_ 18 (.alloc 46 [y_,y_,nilSV]),s_ 3 .i64 18 113,m_ 14 114] [2,15,16,102,103,104,105,106,107,108,109,110,111,112,113,114]) (.seq (.seq (r_ [m_ 115 14,o_ 116 (.bin 1 .neq (.t 115) (Z_ 0)),m_ 117 116,q_ 117 (o_ 118 (.ld false (some 3) 0 0 (.t 18))),q_ 117 (o_ 119 (.ld false (some 3) 0 0 (.t 13))),q_ 117 (o_ 120 (.call (some 4) 47 17 [.t 118,.t 119])),q_ 117 (o_ 121 (.not (.t 120))),k_ 122 117 121] [13,14,115,116,117,118,119,120,121]) (.cond (.t 122) (.seq (r_ [o_ 2 (.mov (.k (.bool false)))] [3,4,5,6,11,12,18,122]) (.ret)) (.skip))) (.seq (r_ [m_ 124 11,m_ 125 12,o_ 126 (.ld false (some 3) 0 0 (.t 18)),m_ 127 4,m_ 128 5,o_ 129 (.call (some 4) 51 12 [.t 126,.t 127,.t 128]),m_ 123 129,e_ 130 123 0,e_ 131 123 1,i_ 132 124 125 3,S_ 3 .i64 132 130,m_ 14 131] [2,18,122,123,124,125,126,127,128,129,130,131,132]) (.seq (r_ [m_ 133 14,o_ 134 (.bin 1 .neq (.t 133) (Z_ 0))] [14,133]) (.cond (.t 134) (.seq (r_ [o_ 2 (.mov (.k (.bool false)))] [3,4,5,6,11,12,134]) (.ret)) (.skip)))))))))))) (r_ [m_ 65 12,o_ 66 (.bin 1 .add (.t 65) (Z_ 1)),m_ 12 66] [2,65,66,134]))
def r4_2:IR:=
 .seq (R_ [m_ 136 11,o_ 137 (.idxS (.t 136) (Z_ 0) 3),⟨some 138,none,⟨[56,57,62],[]⟩,.ld true (some 3) 55 1 (.t 137)⟩,m_ 139 11,o_ 140 (.idxS (.t 139) (Z_ 1) 3),⟨some 141,none,⟨[55,57,62],[]⟩,.ld true (some 3) 56 1 (.t 140)⟩,m_ 142 11,o_ 143 (.idxS (.t 142) (Z_ 2) 3),⟨some 144,none,⟨[55,56,62],[]⟩,.ld true (some 3) 57 1 (.t 143)⟩,⟨some 145,none,⟨[62],[]⟩,.call (some 4) 58 18 [.t 138,.t 141,.t 144]⟩,m_ 135 145,e_ 146 135 0,e_ 147 135 1,o_ 19 (.alloc 62 [y_,y_,nilSV,nilSV,nilSV]),s_ 5 .i64 19 146,m_ 10 147] [4,5,6,11,12,135,136,137,138,139,140,141,142,143,144,145,146,147]) (.seq (r_ [m_ 148 10,o_ 149 (.bin 1 .eql (.t 148) (Z_ 0)),m_ 150 149,p_ 150 (o_ 151 (.ld false (some 5) 0 0 (.t 19))),p_ 150 (o_ 152 (.ld false (some 5) 0 0 (.t 3))),p_ 150 (o_ 153 (.call (some 4) 63 19 [.t 151,.t 152])),K_ 154 150 153,m_ 155 154,p_ 155 (o_ 156 (.call (some 4) 67 15 [])),K_ 157 155 156,m_ 2 157] [3,10,19,148,149,150,151,152,153,154,155,156,157]) (.ret))
def ir4:IR:=
 .seq (r_ [o_ 1 (.box 10 (.t 0)),o_ 2 (.mov (.k (.bool false)))] [0,2]) (.seq (R_ [f_ 20 1 0,⟨some 21,none,⟨[11],[]⟩,.ld false (some 5) 0 0 (.t 20)⟩,f_ 22 1 5,⟨some 23,none,⟨[11],[]⟩,.ld false none 0 0 (.t 22)⟩,f_ 24 1 6,⟨some 25,none,⟨[11],[]⟩,.ld false none 0 0 (.t 24)⟩,f_ 26 1 7,⟨some 27,none,⟨[11],[]⟩,.ld false none 0 0 (.t 26)⟩,o_ 3 (.alloc 11 [y_,y_,nilSV,nilSV,nilSV]),⟨none,none,⟨[],[11]⟩,.sto false 5 .i64 (.t 3) (.t 21)⟩,m_ 4 23,m_ 5 25,m_ 6 27] [1,20,21,22,23,24,25,26,27]) (.seq (.seq (r_ [o_ 28 (.ld false (some 5) 0 0 (.t 3)),o_ 29 (.call (some 4) 12 14 [.t 28]),o_ 30 (.not (.t 29)),m_ 31 30,q_ 31 (f_ 32 3 2),q_ 31 (l_ 33 32),q_ 31 (h_ 34 33),q_ 31 (o_ 35 (.bin 1 .gtr (.t 34) (Z_ 300))),k_ 36 31 35] [28,29,30,31,32,33,34,35]) (.cond (.t 36) (.seq (r_ [o_ 37 (.call (some 4) 16 15 []),m_ 2 37] [3,4,5,6,36,37]) (.ret)) (.skip))) (.seq (r_ [m_ 38 4,o_ 39 (.bin 1 .rem (.t 38) (Z_ 2)),o_ 40 (.bin 1 .add (.t 39) (Z_ 2)),o_ 41 (.bin 1 .rem (.t 40) (Z_ 2)),m_ 42 6,o_ 43 (.bin 1 .rem (.t 42) (Z_ 2)),o_ 44 (.bin 1 .add (.t 43) (Z_ 2)),o_ 45 (.bin 1 .rem (.t 44) (Z_ 2)),m_ 46 5,o_ 47 (.bin 1 .rem (.t 46) (Z_ 7)),o_ 48 (.bin 1 .add (.t 47) (Z_ 7)),o_ 49 (.bin 1 .rem (.t 48) (Z_ 7)),m_ 4 41,m_ 6 45,m_ 5 49] [2,36,38,39,40,41,42,43,44,45,46,47,48,49]) (.seq (r_ [o_ 51 (.ld false (some 5) 0 0 (.t 3)),o_ 52 (.call (some 4) 20 16 [.t 51]),m_ 50 52,e_ 53 50 0,e_ 54 50 1,e_ 55 50 2,e_ 56 50 3,o_ 7 (.alloc 24 [y_,y_,nilSV]),o_ 8 (.alloc 25 [y_,y_,nilSV]),o_ 9 (.alloc 26 [y_,y_,nilSV]),s_ 3 .i64 7 53,s_ 3 .i64 8 54,s_ 3 .i64 9 55,m_ 10 56] [50,51,52,53,54,55,56]) (.seq (.seq (r_ [m_ 57 10,o_ 58 (.bin 1 .neq (.t 57) (Z_ 0))] [10,57]) (.cond (.t 58) (.seq (r_ [o_ 2 (.mov (.k (.bool false)))] [3,4,5,6,7,8,9,58]) (.ret)) (.skip))) (.seq (r_ [o_ 59 (.ld false (some 3) 0 0 (.t 7)),o_ 60 (.ld false (some 3) 0 0 (.t 8)),o_ 61 (.ld false (some 3) 0 0 (.t 9)),o_ 62 (.brecs 27 3 .i64 [.t 59,.t 60,.t 61]),m_ 11 62] [2,7,8,9,58,59,60,61,62]) (.seq (.seq (r_ [z_ 12 0] []) (.block 0 (.loop b4_1))) (r4_2))))))))
def kp4_1:List Nat:=[3,4,5,6,11,12]
def kl4_1:List Nat:=[28,29,30,31,32,33,34,35,36,37,38,39,40,41,42,43,44,45,46,47,48,49,50,51,52,53,54]
attribute [push_cast] kp4_1 kl4_1
set_option maxRecDepth 4000 in
theorem comp4:(Try.f4.body.bind fun c=>compC tab isP chkAll ir4 c)=some ir4:=by kernel_rfl
def rec3 (w h:Int) (N:Nat->Xf.Loc) (X:Nat->List Int):List (List RC):=[[.int .i64 w,.int .i64 h,.row (N 0) .i64 (X 0)],[.int .i64 w,.int .i64 h,.row (N 1) .i64 (X 1)],[.int .i64 w,.int .i64 h,.row (N 2) .i64 (X 2)]]
theorem rec3_at (w h:Int) (N:Nat->Xf.Loc) (X:Nat->List Int) {k:Nat} (hk:k<3) (z:List RC):recAt (k:Int) z (rec3 w h N X)=[.int .i64 w,.int .i64 h,.row (N k) .i64 (X k)]:=by
 have:k=0∨k=1∨k=2:=by omega
 rcases this with rfl | rfl | rfl<;>rfl
theorem rec3_set (w h:Int) (N:Nat->Xf.Loc) (X:Nat->List Int) {k:Nat} (hk:k<3) (M:Xf.Loc):(rec3 w h N X).set k [.int .i64 w,.int .i64 h,.row M .i64 (X k)]=rec3 w h (fun j=>if j=k then M else N j) X:=by
 have:k=0∨k=1∨k=2:=by omega
 rcases this with rfl | rfl | rfl<;>rfl
theorem rec3_len (w h:Int) (N:Nat->Xf.Loc) (X:Nat->List Int):(rec3 w h N X).length=3:=rfl
def pk3 (Y U V:List Int):Nat->List Int
 | 0=>Y
 | 1=>U
 | _=>V
def lk3 (a b c:Xf.Loc):Nat->Xf.Loc
 | 0=>a
 | 1=>b
 | _=>c
theorem pk3_ok {w h:Int} {Y U V:List Int} {k:Nat} (hk:k<3) (a1:AllIn (-1024) 1024 Y) (a2:AllIn (-1024) 1024 U) (a3:AllIn (-1024) 1024 V) (o1:(⟨w,h,Y⟩:Pl).Ok) (o2:(⟨w,h,U⟩:Pl).Ok) (o3:(⟨w,h,V⟩:Pl).Ok):(⟨w,h,pk3 Y U V k⟩:Pl).Ok/\AllIn (-1024) 1024 (pk3 Y U V k):=by
 have:k=0∨k=1∨k=2:=by omega
 rcases this with rfl | rfl | rfl
 ·exact⟨o1,a1⟩
 ·exact⟨o2,a2⟩
 ·exact⟨o3,a3⟩
def tm (a b:Int):Int:=(a.tmod b+b).tmod b
theorem tm_bd (a:Int) {b:Int} (h:0<b):0<=tm a b/\tm a b<b:=by
 have h1:=Int.tmod_lt_of_pos a h
 have h2:-b<a.tmod b:=by
  have:=Int.tmod_lt_of_pos (-a) h
  rw[Int.neg_tmod]at this
  omega
 have h3:=Int.tmod_nonneg b (show 0<=a.tmod b+b by omega)
 exact⟨h3,Int.tmod_lt_of_pos _ h⟩
theorem tm_wrap (a:Int) {b:Int} (h:0<b) (h2:b<=1000):(IntKind.i64.wrap (a.tmod b+b)).tmod b=tm a b:=by
 have h1:=Int.tmod_lt_of_pos a h
 have h2:-b<a.tmod b:=by
  have:=Int.tmod_lt_of_pos (-a) h
  rw[Int.neg_tmod]at this
  omega
 rw[inR_wrap (k:=.i64) ⟨by omega,by omega⟩]
 rfl
set_option maxRecDepth 8000 in
set_option maxHeartbeats 4000000 in
theorem tri4 (i:Im) (hi:i.small) (k0 l0 m0:Int) (L1 L2 L3:Xf.Loc):Tri Try.prog 4 [.agg [.int .i64 i.w,.int .i64 i.h,.sl 0 L1 1 0 i.R.length,.sl 1 L2 1 0 i.G.length,.sl 2 L3 1 0 i.B.length,.int .i64 k0,.int .i64 l0,.int .i64 m0]]
  (imM i L1 L2 L3) (fun v _=>v=.bool true):=by
 have hi2:=hi
 have hR:=hi.1
 by_cases hc:i.Ok
 rotate_left
 ·obtain⟨W,H,R,G,E⟩:=i
  refine tri_evS (hyp (l:=[(14,ent14),(15,ent15),(16,ent16),(7,ent7),(10,ent10),(9,ent9),(11,ent11),(17,ent17),(12,ent12),(18,ent18),(19,ent19)]) (lp:=[]) ⟨e14,e15,e16,e7,e10,e9,e11,e17,e12,e18,e19,trivial⟩ trivial) Try.func4 comp4 (rs:=[.tmp 2]) (by rfl) Try.ntmps4 71 ?_
  simp -implicitDefEqProofs only[push_cast,zz,seval,ir4,fs50,fs15,hi2,hc]
 obtain⟨Y,U,V,hA,hB,hC,l1,l2,l3,a1,a2,a3,o1,o2,o3⟩:=turn_small hc
 obtain⟨-,hb⟩:=turn_back hc
 have hr:=Im.Eq.refl i
 have k1:∀ L1 L2 L3,(⟨⟨turn tY i,L1⟩,⟨turn tU i,L2⟩,⟨turn tV i,L3⟩⟩:Bk).Ok:=fun L1 L2 L3=>(hb L1 L2 L3).1
 have k2:∀ L1 L2 L3,backI ⟨⟨turn tY i,L1⟩,⟨turn tU i,L2⟩,⟨turn tV i,L3⟩⟩=i:=fun L1 L2 L3=>(hb L1 L2 L3).2
 rw[hA,hB,hC]at k1 k2
 obtain⟨W,H,R,G,E⟩:=i
 simp only at l1 l2 l3 hR
 have c0:∀ xs:List Int,sub xs 0 (xs.length:Int)=xs:=fun xs=>by unfold sub;simp
 have q1:=tm_bd k0 (b:=2) (by decide)
 have q2:=tm_bd l0 (b:=7) (by decide)
 have q3:=tm_bd m0 (b:=2) (by decide)
 have u1:=tm_wrap k0 (b:=2) (by decide) (by decide)
 have u2:=tm_wrap l0 (b:=7) (by decide) (by decide)
 have u3:=tm_wrap m0 (b:=2) (by decide) (by decide)
 obtain⟨kd,hkd⟩:∃ v,tm k0 2=v:=⟨_,rfl⟩
 obtain⟨lv,hlv⟩:∃ v,tm l0 7=v:=⟨_,rfl⟩
 obtain⟨md,hmd⟩:∃ v,tm m0 2=v:=⟨_,rfl⟩
 rw[hkd]at q1 u1
 rw[hlv]at q2 u2
 rw[hmd]at q3 u3
 clear hkd hlv hmd
 refine tri_evS (hyp (l:=[(14,ent14),(15,ent15),(16,ent16),(7,ent7),(10,ent10),(9,ent9),(11,ent11),(17,ent17),(12,ent12),(18,ent18),(19,ent19)]) (lp:=[]) ⟨e14,e15,e16,e7,e10,e9,e11,e17,e12,e18,e19,trivial⟩ trivial) Try.func4 comp4 (rs:=[.tmp 2]) (by rfl) Try.ntmps4 71 ?_
 by_cases hs:300<(R.length:Int)
 ·simp -implicitDefEqProofs only[push_cast,zz,seval,ir4,fs50,fs15,hi2,hc,hs]
 simp -implicitDefEqProofs only[push_cast,zz,seval,ir4,fs50,fs16,hi2,hc,hs,hA,hB,hC,if_true,u1,u2,u3]
 intro X0 X1
 repeat refine om_ ?_
 intro X2 X3
 repeat refine om_ ?_
 obtain⟨LA,hLA⟩:∃ L,X3 3 27=L:=⟨_,rfl⟩
 rw[hLA]
 have hXf:=fun k (hk:k<3)=>pk3_ok (k:=k) hk a1 a2 a3 o1 o2 o3
 refine evS_loopU (A:=Nat×(Nat->Xf.Loc)) kp4_1 kl4_1 (fun y=>[(12,.int .i64 y.1)]) (fun y=>[(27,.mine,LA,.recs 3 true [] (rec3 W H y.2 (pk3 Y U V)))]) (fun y=>y.1<=3) (fun y=>3-y.1) (0,lk3 ((lx True (fun j=>X2 1 (20+j)) 0).fr 0) ((lx True (fun j=>X2 1 (20+j)) 1).fr 0) ((lx True (fun j=>X2 1 (20+j)) 2).fr 0)) (Nat.zero_le _) (Sub.pt ?_) ?_
 ·simp -implicitDefEqProofs only[push_cast,zz,seval,rec3,pk3,lk3,c0 Y,c0 U,c0 V]
 intro ⟨k,N⟩ hk K hK
 have hk:k<=3:=hk
 by_cases hk':k<3
 ·have hki:(k:Int)<3:=by omega
  have ew:IntKind.i64.wrap ((k:Int)+1)=k+1:=inR_wrap (k:=.i64) ⟨by omega,by omega⟩
  obtain⟨x1,x2⟩:=hXf k hk'
  have r1:=fun z=>rec3_at W H N (pk3 Y U V) hk' z
  have r2:=fun M=>rec3_set W H N (pk3 Y U V) hk' M
  have r3:=rec3_len W H N (pk3 Y U V)
  obtain⟨xs,hxs⟩:∃ x,pk3 Y U V k=x:=⟨_,rfl⟩
  rw[hxs]at x1 x2
  simp only[hxs]at r1 r2
  have hst:stOk kd lv:=⟨by omega,by omega,by omega⟩
  have hO:fwOk ⟨W,H,xs⟩ kd lv:=⟨x1,hst,x2⟩
  have hxl:xs.length<=140737488355328:=by have:=x1.len;simp only at this;omega
  obtain⟨b1,b2⟩:=fw_iv hO
  have b3:ivE (fwP ⟨W,H,xs⟩ kd lv) kd lv=0:=by unfold ivE;rw[if_pos b1]
  have b4:fwE ⟨W,H,xs⟩ kd lv=0:=by unfold fwE;rw[if_pos hO]
  have m1:=fwP_len' (p:=⟨W,H,xs⟩) (kind:=kd) (n:=lv) hxl
  obtain⟨w1,w2,w3⟩:=fwP_wh hO
  generalize hU:fwP ⟨W,H,xs⟩ kd lv=Q at m1 b1 b2 b3 w1 w2 w3
  obtain⟨uw,uh,us⟩:=Q
  change us.length<=140737488355328 at m1
  simp only at w1 w2 w3
  subst w1
  subst w2
  have hok:(⟨uw,uh,us⟩:Pl).Ok:=b1.1
  have hmd:md=0∨md=1:=by omega
  have hag:argsOk lv md:=⟨hst.2.1,hst.2.2,hmd⟩
  have hE:encE ⟨uw,uh,us⟩ lv md=0:=by unfold encE;rw[if_pos hok,if_pos hag]
  have hlen:=encP_len hok hag
  have hwf:=encP_wf hok hag
  have htk:=fun {m:Nat}=>encP_take (m:=m) hok hag
  have hpb:=planesP_bd hok.2.2
  have hctA:=fun(P:Nat) (h:P<=25)=>ct_all hok h
  simp only at hlen htk hpb hctA
  obtain⟨CS,hCS⟩:∃ c,encP ⟨uw,uh,us⟩ lv md=c:=⟨_,rfl⟩
  rw[hCS]at hlen
  simp only[hCS]at hwf htk
  obtain⟨P,hPP⟩:∃ P:Nat,planesP us=P:=⟨(planesP us).toNat,by omega⟩
  simp only[hPP]at hlen hpb htk
  have hctA:=hctA P (by omega)
  have hm:=fun f=>byOf_map f CS
  have hml:=fun f=>byL_len f CS
  have hmc:∀ f,((byL f CS).map byRc).length=CS.length:=fun f=>by rw[List.length_map,byL_len]
  obtain⟨t3,t4⟩:=htk (m:=P) (by omega)
  rw[hctA]at t4
  have hd:=fun f L=>DcA_take uw uh lv md P L f CS P
  have hPl:P<=CS.length:=by omega
  obtain⟨C3,hC3⟩:∃ c,CS.take P=c:=⟨_,rfl⟩
  simp only[hC3]at t3 t4 hd
  have hq:=Pl.Eq.refl (⟨uw,uh,us⟩:Pl)
  simp -implicitDefEqProofs only[push_cast,zz,seval,b4_1,hki,r1,r3,fs7,fs10,fs9,fs11,fs17,fs12,hxl,hU,b4,m1,hok,hPP,hE,hag,hlen,hCS,hm,hml,hmc,lx,hwf,hd,hPl,t3,t4,hq,b2,b3,c0 xs,ew,Int.toNat_natCast]
  intro X4
  repeat refine om_ ?_
  intro X5 X6 X7
  repeat refine om_ ?_
  rw[r2]
  refine hK (k+1,fun j=>if j=k then (if ivOk ⟨uw,uh,us⟩ kd lv then X7 5 51 else nilLoc0).fr 0 else N j) (show k+1<=3 by omega) (show 3-(k+1)<3-k by omega) _ _ (Sub.of (mkG 71 [(0,0),(1,1),(2,2),(10,10),(11,11),(20,20),(21,21),(22,22),(24,24),(25,25),(26,26),(27,27)]) ?_)
  simp -implicitDefEqProofs only[push_cast,zz,seval,lx]
 ·obtain rfl:k=3:=by omega
  clear hK
  have r0:∀ z,recAt 0 z (rec3 W H N (pk3 Y U V))=[.int .i64 W,.int .i64 H,.row (N 0) .i64 Y]:=fun _=>rfl
  have r1:∀ z,recAt 1 z (rec3 W H N (pk3 Y U V))=[.int .i64 W,.int .i64 H,.row (N 1) .i64 U]:=fun _=>rfl
  have r2:∀ z,recAt 2 z (rec3 W H N (pk3 Y U V))=[.int .i64 W,.int .i64 H,.row (N 2) .i64 V]:=fun _=>rfl
  have r3:=rec3_len W H N (pk3 Y U V)
  simp -implicitDefEqProofs only[push_cast,zz,seval,b4_1,r4_2,r0,r1,r2,r3,fs18,fs19,fs15,k1,k2,hr,hi2,if_true]
  repeat refine om_ ?_
  exact⟨show Y.length<=140737488355328 by omega,show U.length<=140737488355328 by omega,show V.length<=140737488355328 by omega⟩
end Go.Proofs.Ytkmiklngnainfaa
