import Derived.Test.YthicgkilfjjifaaPA2
import Derived.Test.YthicgkilfjjifaaKc
import Derived.Test.YthicgkilfjjifaaProg
import Derived.Test.YthicgkilfjjifaaChecked
import Derived.ProofKit
import Derived.OpenShut
import Derived.SizedLaws
import Derived.ChangeOld
import Derived.Below
set_option linter.unusedVariables false
set_option linter.unusedSimpArgs false
set_option maxRecDepth 1000
namespace Go.Proofs.Ythicgkilfjjifaa
open Xf
def inBd (b:Bd) (r c:Int):Bool:=decide (b.x≤c∧c < b.x + b.w∧b.y≤r∧r < b.y + b.h)
def cov (l:List Bd) (r c:Int):Nat:=l.countP fun b => inBd b r c
theorem cov_app (l m:List Bd) (r c:Int):cov (l++m) r c = cov l r c + cov m r c:=List.countP_append
theorem cov_one (b:Bd) (r c:Int):cov [b] r c = if b.x≤c∧c < b.x + b.w∧b.y≤r∧r < b.y + b.h then 1 else 0:=by
  unfold cov inBd
  by_cases h:b.x≤c∧c < b.x + b.w∧b.y≤r∧r < b.y + b.h <;> simp [h]
theorem cov_three (a b d:Bd) (r c:Int):cov [a,b,d] r c = cov [a] r c + (cov [b] r c + cov [d] r c):=by
  rw [← cov_app,← cov_app]; rfl
theorem three_sum {W H w h r c:Int} (h1:0≤w) (h2:w≤W) (h3:0≤h) (h4:h≤H) (hr:0≤r) (hc:0≤c) :
    (if r < h∧c < w then 1 else 0) + ((if w≤c∧c < w + (W - w)∧0≤r∧r < 0 + h then 1 else 0) + ((if 0≤c∧c < 0 + w∧h≤r∧r < h + (H - h) then 1 else 0) + (if w≤c∧c < w + (W - w)∧h≤r∧r < h + (H - h) then 1 else 0))) = if r < H∧c < W then 1 else (0:Nat):=by
  by_cases a:c < w <;> by_cases b:r < h <;> by_cases A:c < W <;> by_cases B:r < H <;>
    simp [a,b,A,B,hr,hc,show w≤c↔¬ c < w by omega,show h≤r↔¬ r < h by omega,show w + (W - w) = W by omega,show h + (H - h) = H by omega] <;> omega
theorem cov_down (w h n:Nat) (r c:Int) (hr:0≤r) (hc:0≤c):∀ k,k≤n→cov (bdD w h n k) r c = if r < hlf h (n - k)∧c < hlf w (n - k) then 1 else 0
  | 0,_ => by
    rw [bdD,cov_one]
    simp only [bd0,Nat.sub_zero,Int.zero_add,hr,hc,true_and]
    by_cases a:c < hlf w n <;> by_cases b:r < hlf h n <;> simp [a,b]
  | k + 1,hk => by
    obtain ⟨i,hi⟩:∃ i,n - k = i + 1:=⟨n - k - 1,by omega⟩
    have hi2:n - (k + 1) = i:=by omega
    rw [bdD,cov_app,cov_down w h n r c hr hc k (by omega),hi,hi2,bd3,cov_three,cov_one,cov_one,cov_one]
    simp only [Nat.add_sub_cancel]
    exact three_sum (by omega) (by have:=hlf_mono w i; omega) (by omega) (by have:=hlf_mono h i; omega) hr hc
theorem gone_out {b:Bd} (h:b.gone = true) (hk:b.ok) (r c:Int):inBd b r c = false:=by
  obtain ⟨h1,h2,h3,h4⟩:=hk
  unfold Bd.gone at h
  rw [decide_eq_true_eq,Int.mul_eq_zero] at h
  unfold inBd
  rw [decide_eq_false_iff_not]
  omega
theorem cov_kept {l:List Bd} (hl:∀ x ∈ l,x.ok) (r c:Int):cov (keptBd l) r c = cov l r c:=by
  unfold cov keptBd
  rw [List.countP_filter]
  refine List.countP_congr fun b hb => ?_
  cases hg:b.gone with
  | false => simp
  | true => simp [gone_out hg (hl b hb) r c]
theorem cov_all {w h n:Nat} (hw:w≤200) (hh:h≤200) (r c:Nat) (hr:r < h) (hc:c < w):cov (keptBd (bdD w h n n)) r c = 1:=by
  rw [cov_kept (bdD_ok hw hh n (Nat.le_refl n)),cov_down w h n r c (by omega) (by omega) n (Nat.le_refl n),Nat.sub_self,if_pos]
  simp only [hlf]; omega
theorem rdB_lt (xs:List Bool) (k:Nat) (h:k < xs.length):rdB xs (k:Nat) = xs[k]:=by simp [rdB,h]
theorem bkOf_at (f:Nat→Xf.Loc) {l:List Pb} {i:Nat} (h:i < l.length):rdBk (bkOf f l) i = ⟨f i,l.getD i default,false⟩:=by
  rw [rdBk_nat (by rw [bkOf_len]; exact h)]
  unfold bkOf
  simp
def v4 (code:List Int) (o:Int):Int:=bytA code o * 16777216 + bytA code (o + 1) * 65536 + bytA code (o + 2) * 256 + bytA code (o + 3)
theorem v4_shift {code:List Int} (h:byAll code) {o:Int} (h0:0≤o):shiftV code (o + 4) (v4 code o) = v4 code (o + 1):=by
  have b0:=bytA_bd h h0
  have b1:=bytA_bd h (i:=o + 1) (by omega)
  have b2:=bytA_bd h (i:=o + 2) (by omega)
  have b3:=bytA_bd h (i:=o + 3) (by omega)
  have b4:=bytA_bd h (i:=o + 4) (by omega)
  unfold shiftV v4
  rw [show o + 1 + 1 = o + 2 by omega,show o + 1 + 2 = o + 3 by omega,show o + 1 + 3 = o + 4 by omega]
  omega
theorem v4_div {code:List Int} (h:byAll code) {o:Int} (h0:0≤o):v4 code o = bytA code o * 16777216 + v4 code (o + 1) / 256∧0≤v4 code (o + 1)∧v4 code (o + 1) < 4294967296:=by
  have b0:=bytA_bd h h0
  have b1:=bytA_bd h (i:=o + 1) (by omega)
  have b2:=bytA_bd h (i:=o + 2) (by omega)
  have b3:=bytA_bd h (i:=o + 3) (by omega)
  have b4:=bytA_bd h (i:=o + 4) (by omega)
  unfold v4
  rw [show o + 1 + 1 = o + 2 by omega,show o + 1 + 2 = o + 3 by omega,show o + 1 + 3 = o + 4 by omega]
  omega
theorem vN_v4 {code:List Int} (h:byAll code):vN code 4 = v4 code 0:=by
  have b0:=bytA_bd h (i:=0) (by omega)
  have b1:=bytA_bd h (i:=1) (by omega)
  have b2:=bytA_bd h (i:=2) (by omega)
  have b3:=bytA_bd h (i:=3) (by omega)
  have e:vN code 4 = shiftV code 3 (shiftV code 2 (shiftV code 1 (shiftV code 0 0))):=rfl
  have e1:(0:Int) + 1 = 1:=rfl
  have e2:(0:Int) + 2 = 2:=rfl
  have e3:(0:Int) + 3 = 3:=rfl
  rw [e]
  unfold shiftV v4
  rw [e1,e2,e3]
  omega
theorem norm_fut {code:List Int} (hb:byAll code):∀ (n:Nat) (l h o:Int),0≤o→nrm n l h→(∀ j:Nat,j < (normP n l h).1.length→bytA code (o + j) = rd (normP n l h).1 j) →
    (normP n l h).2.1≤v4 code (o + (normP n l h).1.length)→v4 code (o + (normP n l h).1.length)≤(normP n l h).2.2→l≤v4 code o∧v4 code o≤h
  | n,l,h,o,ho,H,hj,h1,h2 => by
    by_cases e:l / 16777216 = h / 16777216
    · cases n with
      | zero => exact absurd e (nrm_0 H)
      | succ n =>
        rw [norm_yes e] at hj h1 h2
        simp only [List.length_cons] at hj h1 h2
        have ih:=norm_fut hb n (l % 16777216 * 256) (h % 16777216 * 256 + 255) (o + 1) (by omega) (nrm_step H e) (fun j hj' => by
          have:=hj (j + 1) (by omega)
          rw [show o + 1 + (j:Int) = o + ((j + 1:Nat):Int) by omega,this]
          simp [rd]) (by rw [show o + 1 + ((normP n (l % 16777216 * 256) (h % 16777216 * 256 + 255)).1.length:Int) = o + (((normP n (l % 16777216 * 256) (h % 16777216 * 256 + 255)).1.length + 1:Nat):Int) by omega]; exact h1)
          (by rw [show o + 1 + ((normP n (l % 16777216 * 256) (h % 16777216 * 256 + 255)).1.length:Int) = o + (((normP n (l % 16777216 * 256) (h % 16777216 * 256 + 255)).1.length + 1:Nat):Int) by omega]; exact h2)
        have h0:=hj 0 (by omega)
        simp only [rd] at h0
        have hd:=v4_div hb ho
        have h0':bytA code o = l / 16777216:=by
          have e0:o + ((0:Nat):Int) = o:=by omega
          rw [e0] at h0
          rw [h0]; rfl
        rw [h0'] at hd
        obtain ⟨_,g1,g2,g3,_,_⟩:=H
        omega
    · rw [norm_no n e] at h1 h2
      simp only [List.length_nil] at h1 h2
      have e0:o + ((0:Nat):Int) = o:=by omega
      rw [e0] at h1 h2
      exact ⟨h1,h2⟩
theorem normD_v4 {code:List Int} (hb:byAll code):∀ (n:Nat) (l h o:Int),0≤o→normD code n l h (o + 4) (v4 code o) = ((normP n l h).2.1,(normP n l h).2.2,o + (normP n l h).1.length + 4,v4 code (o + (normP n l h).1.length))
  | 0,l,h,o,ho => by simp [normD,normP]
  | n + 1,l,h,o,ho => by
    by_cases e:l / 16777216 = h / 16777216
    · rw [normD,if_pos e,norm_yes e,v4_shift hb ho,show o + 4 + 1 = o + 1 + 4 by omega,normD_v4 hb n _ _ (o + 1) (by omega)]
      simp only [List.length_cons]
      have e1:o + 1 + ((normP n (l % 16777216 * 256) (h % 16777216 * 256 + 255)).1.length:Int) = o + (((normP n (l % 16777216 * 256) (h % 16777216 * 256 + 255)).1.length + 1:Nat):Int):=by omega
      rw [e1]
    · rw [normD_no code (n + 1) e,norm_no (n + 1) e]
      simp
def Fut (code:List Int) (e:EnS):Prop:=(∃ r,code = e.out++r)∧e.low≤v4 code e.out.length∧v4 code e.out.length≤e.high
theorem byt_app {a r:List Int} {j:Nat} (h:j < a.length):bytA (a++r) (j:Nat) = rd a j:=by
  unfold bytA
  rw [if_pos (by rw [List.length_append]; omega),rd_lt _ j (by rw [List.length_append]; omega),rd_lt _ j h,List.getElem_append_left h]
theorem fut_norm {code:List Int} (hb:byAll code) {e:EnS} {ctx bit:Int} (H:e.ok) (h0:0≤ctx) (h1:ctx < e.st.length) (hf:Fut code (putP e ctx bit)) :
    (∃ r,code = e.out++r)∧lowP e.kind e.st e.low e.high ctx bit≤v4 code e.out.length∧v4 code e.out.length≤highP e.kind e.st e.low e.high ctx bit:=by
  obtain ⟨⟨r,hr⟩,f1,f2⟩:=hf
  have hn:=nrm_part (bit:=bit) H h0 h1
  unfold putP at hr f1 f2
  simp only [List.length_append] at hr f1 f2
  refine ⟨⟨_,by rw [hr,List.append_assoc]⟩,?_⟩
  refine norm_fut hb 4 _ _ e.out.length (by omega) hn (fun j hj => ?_) ?_ ?_
  · rw [hr,show (e.out.length:Int) + j = ((e.out.length + j:Nat):Int) by omega,byt_app (by rw [List.length_append]; omega)]
    rw [rd_lt _ _ (by rw [List.length_append]; omega),rd_lt _ j hj,List.getElem_append_right (by omega)]
    congr 1
    omega
  · rw [show (e.out.length:Int) + ((normP 4 (lowP e.kind e.st e.low e.high ctx bit) (highP e.kind e.st e.low e.high ctx bit)).1.length:Int) = ((e.out.length + (normP 4 (lowP e.kind e.st e.low e.high ctx bit) (highP e.kind e.st e.low e.high ctx bit)).1.length:Nat):Int) by omega]
    exact f1
  · rw [show (e.out.length:Int) + ((normP 4 (lowP e.kind e.st e.low e.high ctx bit) (highP e.kind e.st e.low e.high ctx bit)).1.length:Int) = ((e.out.length + (normP 4 (lowP e.kind e.st e.low e.high ctx bit) (highP e.kind e.st e.low e.high ctx bit)).1.length:Nat):Int) by omega]
    exact f2
theorem fut_back {code:List Int} (hb:byAll code) {e:EnS} {ctx:Int} {w:Bool} (H:e.ok) (h0:0≤ctx) (h1:ctx < e.st.length) (hf:Fut code (putP e ctx (b2i w))):Fut code e:=by
  obtain ⟨h2,h3,h4⟩:=fut_norm hb H h0 h1 hf
  obtain ⟨a1,a2,a3,a4,a5,a6⟩:=H
  have hc:=chP_bd (a1.at h0 h1)
  have hm:=midP_bd a3 (Int.le_of_lt a4) a5 hc.1 hc.2
  refine ⟨h2,?_,?_⟩
  · unfold lowP at h3
    split at h3 <;> omega
  · unfold highP at h4
    split at h4 <;> omega
def Rel (code:List Int) (e:EnS) (d:DeS):Prop:=d = ⟨e.kind,e.st,e.low,e.high,code,e.out.length + 4,v4 code e.out.length,beyP code (e.out.length + 4),false⟩
theorem get_put {code:List Int} (hb:byAll code) {e:EnS} {d:DeS} {ctx:Int} (w:Bool) (H:e.ok) (h0:0≤ctx) (h1:ctx < e.st.length) (hr:Rel code e d) (hf:Fut code (putP e ctx (b2i w))) :
    gotE d ctx = 0∧decide (gotB d ctx = 1) = w∧Rel code (putP e ctx (b2i w)) (gotS d ctx):=by
  obtain ⟨g1,g2,g3⟩:=fut_norm hb H h0 h1 hf
  obtain ⟨⟨r,hcr⟩,f1,f2⟩:=hf
  unfold Rel at hr
  subst hr
  have hbit:bitD ⟨e.kind,e.st,e.low,e.high,code,e.out.length + 4,v4 code e.out.length,beyP code (e.out.length + 4),false⟩ ctx = b2i w:=by
    unfold bitD lowP highP at *
    simp only
    cases w with
    | true => rw [show b2i true = 1 from rfl,if_pos rfl] at g3; rw [if_pos g3]; rfl
    | false => rw [show b2i false = 0 from rfl,if_neg (by decide)] at g2; rw [if_neg (by omega)]; rfl
  have hrun:runD ⟨e.kind,e.st,e.low,e.high,code,e.out.length + 4,v4 code e.out.length,beyP code (e.out.length + 4),false⟩ ctx =
      ((putP e ctx (b2i w)).low,(putP e ctx (b2i w)).high,((putP e ctx (b2i w)).out.length:Int) + 4,v4 code (putP e ctx (b2i w)).out.length):=by
    unfold runD
    rw [hbit]
    simp only
    rw [normD_v4 hb 4 _ _ _ (by omega)]
    unfold putP
    simp only [List.length_append]
    push_cast
  have hlen:((putP e ctx (b2i w)).out.length:Int)≤code.length:=by rw [hcr,List.length_append]; omega
  have hE:gotE ⟨e.kind,e.st,e.low,e.high,code,e.out.length + 4,v4 code e.out.length,beyP code (e.out.length + 4),false⟩ ctx = 0:=by
    unfold gotE
    rw [hrun]
    simp only
    unfold beyP
    rw [if_neg (by decide),if_neg (by omega)]
  refine ⟨hE,?_,?_⟩
  · unfold gotB
    rw [hE,if_pos rfl,hbit]
    cases w <;> rfl
  · unfold gotS Rel
    rw [hE,if_pos rfl,hrun,hbit]
    rfl
theorem num_fut {code:List Int} (hb:byAll code) {s:StS} {e:EnS} {i t:Int} {on dig neg:Bool} (H:e.ok) (h12:e.st.length = 12) (hf:Fut code (numG putG s e i t on dig neg).2.1):Fut code e:=by
  by_cases ho:oldP s i
  · rw [numG_enc_old ho] at hf
    have:=dctxP_bd s i
    exact fut_back hb H this.1 (by omega) hf
  · cases on with
    | false => rw [numG_off ho] at hf; exact hf
    | true =>
      rw [numG_enc_new ho] at hf
      have hc:=nctxP_bd s i
      split at hf
      · have h1:=putAft H h12 hc dig
        exact fut_back hb H hc.1 (by omega) (fut_back hb h1.1 (by decide) (by rw [h1.2.2.1,h12]; decide) hf)
      · exact fut_back hb H hc.1 (by omega) hf
theorem num_sim {code:List Int} (hb:byAll code) {s:StS} {e:EnS} {d:DeS} {i t:Int} {on dig neg:Bool} (dig' neg':Bool) (H:e.ok) (h12:e.st.length = 12) (hr:Rel code e d) (hf:Fut code (numG putG s e i t on dig neg).2.1) :
    (numG getG s d i t on dig' neg').1 = (numG putG s e i t on dig neg).1∧(numG getG s d i t on dig' neg').2.2 = 0∧Rel code (numG putG s e i t on dig neg).2.1 (numG getG s d i t on dig' neg').2.1:=by
  by_cases ho:oldP s i
  · rw [numG_enc_old ho] at hf ⊢
    rw [numG_dec_old ho]
    have hc:=dctxP_bd s i
    obtain ⟨g1,g2,g3⟩:=get_put hb dig H hc.1 (by omega) hr hf
    rw [if_pos g1]
    refine ⟨?_,rfl,g3⟩
    cases dig with
    | true => rw [if_pos (of_decide_eq_true g2),if_pos rfl]
    | false => rw [if_neg (of_decide_eq_false g2),if_neg (by decide)]
  · cases on with
    | false =>
      rw [numG_off ho,numG_off ho]
      exact ⟨rfl,rfl,hr⟩
    | true =>
      rw [numG_enc_new ho] at hf ⊢
      rw [numG_dec_new ho]
      have hc:=nctxP_bd s i
      cases dig with
      | true =>
        rw [if_pos rfl] at hf ⊢
        have h1:=putAft H h12 hc true
        have hf1:=fut_back hb h1.1 (by decide) (by rw [h1.2.2.1,h12]; decide) hf
        obtain ⟨g1,g2,g3⟩:=get_put hb true H hc.1 (by omega) hr hf1
        obtain ⟨k1,k2,k3⟩:=get_put hb neg h1.1 (by decide) (by rw [h1.2.2.1,h12]; decide) g3 hf
        rw [if_pos g1,if_pos (of_decide_eq_true g2),if_pos k1]
        refine ⟨?_,rfl,k3⟩
        rw [k2]
      | false =>
        rw [if_neg (show ¬ (false = true) by decide)] at hf ⊢
        obtain ⟨g1,g2,g3⟩:=get_put hb false H hc.1 (by omega) hr hf
        rw [if_pos g1,if_neg (of_decide_eq_false g2)]
        exact ⟨rfl,rfl,g3⟩
theorem pls_fut {code:List Int} (hb:byAll code) (f:List Int) (t:Int) (on:Bool):∀ (l:List Int) (s:StS) (e:EnS),e.ok→e.st.length = 12→Fut code (plsG putG f t on l s e).2.1→Fut code e
  | [],s,e,H,h12,hf => hf
  | i :: l,s,e,H,h12,hf => by
    obtain ⟨a1,a2⟩:=numE_aft s i t on (digP f i t) (decide (rd f i < 0)) H h12
    rw [plsG,if_pos a2] at hf
    exact num_fut hb H h12 (pls_fut hb f t on l _ _ a1.1 (by rw [a1.2.2.1,h12]) hf)
theorem pls_sim {code:List Int} (hb:byAll code) (f g:List Int) (t:Int) (on:Bool):∀ (l:List Int) (s:StS) (e:EnS) (d:DeS),e.ok→e.st.length = 12→Rel code e d→Fut code (plsG putG f t on l s e).2.1 →
    (plsG getG g t on l s d).1 = (plsG putG f t on l s e).1∧(plsG getG g t on l s d).2.2 = 0∧Rel code (plsG putG f t on l s e).2.1 (plsG getG g t on l s d).2.1
  | [],s,e,d,H,h12,hr,hf => ⟨rfl,rfl,hr⟩
  | i :: l,s,e,d,H,h12,hr,hf => by
    obtain ⟨a1,a2⟩:=numE_aft s i t on (digP f i t) (decide (rd f i < 0)) H h12
    have e1:plsG putG f t on (i :: l) s e = plsG putG f t on l (numG putG s e i t on (digP f i t) (decide (rd f i < 0))).1 (numG putG s e i t on (digP f i t) (decide (rd f i < 0))).2.1:=by rw [plsG,if_pos a2]
    rw [e1] at hf ⊢
    have h12':(numG putG s e i t on (digP f i t) (decide (rd f i < 0))).2.1.st.length = 12:=by rw [a1.2.2.1,h12]
    have hf1:=pls_fut hb f t on l _ _ a1.1 h12' hf
    obtain ⟨b1,b2,b3⟩:=num_sim hb (digP g i t) (decide (rd g i < 0)) H h12 hr hf1
    rw [plsG,if_pos b2,b1]
    exact pls_sim hb f g t on l _ _ _ a1.1 h12' b3 hf
theorem bktG_put (f:List Int) (t:Int) (i:Nat) (s:StS) (e:EnS):bktG putG f t i s e = if allP s (rdBk s.list i).b.places = true then plsG putG f t false (rdBk s.list i).b.places (setOn s i false) e
  else plsG putG f t (onP s (rdBk s.list i).b.places f t) (rdBk s.list i).b.places (setOn s i (onP s (rdBk s.list i).b.places f t)) (putP e (bctxP (setOn s i false) (rdBk s.list i).b) (b2i (onP s (rdBk s.list i).b.places f t))):=by
  unfold bktG putG
  simp only [if_true]
theorem bkt_fut {code:List Int} (hb:byAll code) (f:List Int) (t:Int) (i:Nat) (s:StS) (e:EnS) (H:e.ok) (h12:e.st.length = 12) (hf:Fut code (bktG putG f t i s e).2.1):Fut code e:=by
  rw [bktG_put] at hf
  split at hf
  · exact pls_fut hb f t _ _ _ _ H h12 hf
  · have hc:=bctxP_bd (setOn s i false) (rdBk s.list i).b
    have h1:=putAft H h12 hc (onP s (rdBk s.list i).b.places f t)
    exact fut_back hb H hc.1 (by omega) (pls_fut hb f t _ _ _ _ h1.1 (by rw [h1.2.2.1,h12]) hf)
theorem bkt_sim {code:List Int} (hb:byAll code) (f g:List Int) (t:Int) (i:Nat) (s:StS) (e:EnS) (d:DeS) (H:e.ok) (h12:e.st.length = 12) (hr:Rel code e d) (hf:Fut code (bktG putG f t i s e).2.1) :
    (bktG getG g t i s d).1 = (bktG putG f t i s e).1∧(bktG getG g t i s d).2.2 = 0∧Rel code (bktG putG f t i s e).2.1 (bktG getG g t i s d).2.1:=by
  rw [bktG_put] at hf ⊢
  rw [bktG_get]
  by_cases ha:allP s (rdBk s.list i).b.places = true
  · rw [if_pos ha] at hf ⊢
    rw [if_pos ha]
    exact pls_sim hb f g t _ _ _ _ _ H h12 hr hf
  · rw [if_neg ha] at hf ⊢
    rw [if_neg ha]
    have hc:=bctxP_bd (setOn s i false) (rdBk s.list i).b
    have h1:=putAft H h12 hc (onP s (rdBk s.list i).b.places f t)
    have h12':(putP e (bctxP (setOn s i false) (rdBk s.list i).b) (b2i (onP s (rdBk s.list i).b.places f t))).st.length = 12:=by rw [h1.2.2.1,h12]
    have hf1:=pls_fut hb f t _ _ _ _ h1.1 h12' hf
    obtain ⟨g1,g2,g3⟩:=get_put hb _ H hc.1 (by omega) hr hf1
    rw [if_pos g1,g2]
    exact pls_sim hb f g t _ _ _ _ _ h1.1 h12' g3 hf
theorem slc_fut {code:List Int} (hb:byAll code) (f:List Int) (t:Int) (t0:0≤t) (t1:t≤30) (n:Nat):∀ (k i:Nat) (s:StS) (e:EnS),stWf s n→szWf s→e.ok→e.st.length = 12→i + k = s.list.length→Fut code (slcG putG f t k i s e).2.1→Fut code e
  | 0,i,s,e,_,_,_,_,_,hf => hf
  | k + 1,i,s,e,hs,hz,H,h12,hik,hf => by
    obtain ⟨k1,k2,k3,k4⟩:=bktE_inv f t t0 t1 i s e n hs hz H h12 (by omega)
    rw [slcG,if_pos k4] at hf
    exact bkt_fut hb f t i s e H h12 (slc_fut hb f t t0 t1 n k (i + 1) _ _ (k1.wf hs) k2 k3.1 (by rw [k3.2.2.1,h12]) (by rw [k1.2.2.2.2.1.len]; omega) hf)
theorem slc_sim {code:List Int} (hb:byAll code) (f g:List Int) (t:Int) (t0:0≤t) (t1:t≤30) (n:Nat):∀ (k i:Nat) (s:StS) (e:EnS) (d:DeS),stWf s n→szWf s→e.ok→e.st.length = 12→i + k = s.list.length→Rel code e d→Fut code (slcG putG f t k i s e).2.1 →
    (slcG getG g t k i s d).1 = (slcG putG f t k i s e).1∧(slcG getG g t k i s d).2.2 = 0∧Rel code (slcG putG f t k i s e).2.1 (slcG getG g t k i s d).2.1
  | 0,i,s,e,d,_,_,_,_,_,hr,hf => ⟨rfl,rfl,hr⟩
  | k + 1,i,s,e,d,hs,hz,H,h12,hik,hr,hf => by
    obtain ⟨k1,k2,k3,k4⟩:=bktE_inv f t t0 t1 i s e n hs hz H h12 (by omega)
    have e1:slcG putG f t (k + 1) i s e = slcG putG f t k (i + 1) (bktG putG f t i s e).1 (bktG putG f t i s e).2.1:=by rw [slcG,if_pos k4]
    rw [e1] at hf ⊢
    have h12':(bktG putG f t i s e).2.1.st.length = 12:=by rw [k3.2.2.1,h12]
    have hik':i + 1 + k = (bktG putG f t i s e).1.list.length:=by rw [k1.2.2.2.2.1.len]; omega
    have hf1:=slc_fut hb f t t0 t1 n k (i + 1) _ _ (k1.wf hs) k2 k3.1 h12' hik' hf
    obtain ⟨b1,b2,b3⟩:=bkt_sim hb f g t i s e d H h12 hr hf1
    rw [slcG,if_pos b2,b1]
    exact slc_sim hb f g t t0 t1 n k (i + 1) _ _ _ (k1.wf hs) k2 k3.1 h12' hik' b3 hf
theorem wrap8 (x:Int):IntKind.u8.wrap x = x % 256:=by
  unfold IntKind.wrap
  simp [IntKind.bits,IntKind.signed]
theorem bytP_eq {g:Int} (i:Nat):bytP g i = g / 2 ^ (24 - 8 * (i:Int)).toNat % 256:=wrap8 _
theorem endP_rd {l g:Int} {j:Nat} (h:j < endN l g):rd (endP l g) (j:Nat) = bytP g j:=by
  rw [rd_lt _ j (by unfold endP; simpa using h)]
  simp [endP]
theorem endP_len (l g:Int):(endP l g).length = endN l g:=by simp [endP]
theorem encEnd_by {e:EnS} (h:byAll e.out):byAll (encEnd e):=fun b hb => by
  unfold encEnd at hb
  rcases List.mem_append.1 hb with hb | hb
  · exact h b hb
  · unfold endP at hb
    obtain ⟨i,_,rfl⟩:=List.mem_map.1 hb
    rw [bytP_eq]
    omega
theorem end_fut {e:EnS} (H:e.ok):Fut (encEnd e) e:=by
  obtain ⟨a1,a2,a3,a4,a5,a6⟩:=H
  have hb:∀ j:Nat,bytA (encEnd e) ((e.out.length:Int) + j) = if j < endN e.low e.high then e.high / 2 ^ (24 - 8 * (j:Int)).toNat % 256 else 0:=fun j => by
    unfold bytA encEnd
    rw [List.length_append,endP_len]
    by_cases hj:j < endN e.low e.high
    · rw [if_pos (by omega),if_pos hj,← bytP_eq,← endP_rd hj,show (e.out.length:Int) + j = ((e.out.length + j:Nat):Int) by omega]
      rw [rd_lt _ _ (by rw [List.length_append,endP_len]; omega),rd_lt _ j (by rw [endP_len]; exact hj),List.getElem_append_right (by omega)]
      congr 1
      omega
    · rw [if_neg (by omega),if_neg hj]
  have h0:=hb 0
  have h1:=hb 1
  have h2:=hb 2
  have h3:=hb 3
  have e0:(24 - 8 * ((0:Nat):Int)).toNat = 24:=rfl
  have e1:(24 - 8 * ((1:Nat):Int)).toNat = 16:=rfl
  have e2:(24 - 8 * ((2:Nat):Int)).toNat = 8:=rfl
  have e3:(24 - 8 * ((3:Nat):Int)).toNat = 0:=rfl
  rw [e0,pw24] at h0
  rw [e1,pw16] at h1
  rw [e2,pw8] at h2
  rw [e3] at h3
  have c0:cutP e.high 0 = e.high / 4294967296 * 4294967296:=rfl
  have c1:cutP e.high 1 = e.high / 16777216 * 16777216:=rfl
  have c2:cutP e.high 2 = e.high / 65536 * 65536:=rfl
  have c3:cutP e.high 3 = e.high / 256 * 256:=rfl
  refine ⟨⟨_,rfl⟩,?_⟩
  have hv:v4 (encEnd e) e.out.length = bytA (encEnd e) ((e.out.length:Int) + (0:Nat)) * 16777216 + bytA (encEnd e) ((e.out.length:Int) + (1:Nat)) * 65536 + bytA (encEnd e) ((e.out.length:Int) + (2:Nat)) * 256 + bytA (encEnd e) ((e.out.length:Int) + (3:Nat)):=by
    unfold v4
    simp
  rw [hv,h0,h1,h2,h3]
  have p1:(2:Int) ^ 0 = 1:=rfl
  rw [p1]
  unfold endN
  rw [c0,c1,c2,c3]
  split
  · simp; omega
  split
  · simp; omega
  split
  · simp; omega
  split
  · simp; omega
  · simp; omega
theorem new_rel {kind:Int} {st code:List Int} (hb:byAll code):Rel code (newEn kind st) (newDe kind st code):=by
  unfold Rel newEn newDe
  simp only [List.length_nil]
  rw [vN_v4 hb]
  rfl
def tv (k:Nat) (c:Int):Int:=max c (-c) / 2 ^ k * 2 ^ k
theorem or_even {y:Nat}:2 * y ||| 1 = 2 * y + 1:=by
  have:=Nat.two_pow_add_eq_or_of_lt (i:=1) (b:=1) (by decide) y
  simpa using this.symm
theorem or_odd {y:Nat}:(2 * y + 1) ||| 1 = 2 * y + 1:=by
  rw [← or_even,Nat.or_assoc,Nat.or_self]
theorem or_mul (y k:Nat):y * 2 ^ k ||| 2 ^ k = (y ||| 1) * 2 ^ k:=by
  have h1:y * 2 ^ k = y <<< k:=(Nat.shiftLeft_eq y k).symm
  have h2:2 ^ k = 1 <<< k:=by rw [Nat.shiftLeft_eq,Nat.one_mul]
  have h3:(y ||| 1) * 2 ^ k = (y ||| 1) <<< k:=(Nat.shiftLeft_eq _ k).symm
  rw [h3,h1]
  conv => lhs; rhs; rw [h2]
  rw [Nat.shiftLeft_or_distrib]
theorem tv_q (k:Nat) (c:Int):∃ q:Nat,max c (-c) / 2 ^ k = q∧tv k c = ((q * 2 ^ k:Nat):Int)∧tv (k + 1) c = ((q / 2 * 2 * 2 ^ k:Nat):Int):=by
  obtain ⟨a,ha⟩:∃ a:Nat,max c (-c) = a:=⟨(max c (-c)).toNat,by omega⟩
  have e:∀ j:Nat,(2:Int) ^ j = ((2 ^ j:Nat):Int):=fun j => by simp
  refine ⟨a / 2 ^ k,?_,?_,?_⟩
  · rw [ha,e]; simp
  · unfold tv; rw [ha,e]; simp
  · unfold tv; rw [ha,e]
    rw [show (2:Nat) ^ (k + 1) = 2 ^ k * 2 from Nat.pow_succ 2 k]
    have:a / (2 ^ k * 2) = a / 2 ^ k / 2:=by rw [Nat.div_div_eq_div_mul]
    have e2:(((a:Int)) / ((2 ^ k * 2:Nat):Int)) = ((a / (2 ^ k * 2):Nat):Int):=by simp
    rw [e2,this,← Int.natCast_mul,Nat.mul_assoc,Nat.mul_comm 2 (2 ^ k)]
theorem orP_nat (x k:Nat):orP (x:Int) (k:Int) = ((x ||| 2 ^ k:Nat):Int):=by unfold orP; rw [Int.toNat_natCast,Int.toNat_natCast]
theorem digP_q {f:List Int} {x:Int} {k q:Nat} (h:max (rd f x) (-rd f x) / 2 ^ k = (q:Int)):digP f x (k:Int) = decide (q % 2 = 1):=by
  unfold digP absI
  rw [Int.toNat_natCast,h]
  by_cases e:q % 2 = 1
  · rw [decide_eq_true e,decide_eq_true]; omega
  · rw [decide_eq_false e,decide_eq_false]; omega
def okAt (s:StS) (f:List Int) (k i:Nat):Prop :=
  rd s.size i = tv k (rd f i)∧(0 < rd s.since i↔rd s.size i ≠ 0)∧rd s.since i≤s.now∧0≤rd s.since i∧rdB s.minus i = (decide (0 < rd s.since i) && decide (rd f i < 0))
def preAt (s0 s:StS) (i:Nat):Prop:=rd s.size i = rd s0.size i∧rd s.since i = rd s0.since i∧rdB s.minus i = rdB s0.minus i
def snc (s0:StS) (f:List Int) (k i:Nat):Int:=if 0 < rd s0.since i then rd s0.since i else if tv k (rd f i) = 0 then 0 else s0.now + 1
def postAt (s0 s:StS) (f:List Int) (k i:Nat):Prop:=rd s.size i = tv k (rd f i)∧rd s.since i = snc s0 f k i∧rdB s.minus i = (decide (0 < snc s0 f k i) && decide (rd f i < 0))
def inv1 (s0 s:StS) (f:List Int) (k n:Nat):Prop:=s.now = s0.now∧s.size.length = n∧s.since.length = n∧s.minus.length = n∧∀ i,i < n→preAt s0 s i∨postAt s0 s f k i
theorem rd_st_same {xs:List Int} {i:Nat} (h:i < xs.length) (v:Int):rd (xs.set i v) i = v:=by simp [rd,h]
theorem rd_st_ne {xs:List Int} {i j:Nat} (h:i ≠ j) (v:Int):rd (xs.set i v) j = rd xs j:=by simp [rd,List.getElem?_set_ne h]
theorem rdB_st_same {xs:List Bool} {i:Nat} (h:i < xs.length) (v:Bool):rdB (xs.set i v) i = v:=by simp [rdB,h]
theorem rdB_st_ne {xs:List Bool} {i j:Nat} (h:i ≠ j) (v:Bool):rdB (xs.set i v) j = rdB xs j:=by simp [rdB,List.getElem?_set_ne h]
theorem old_iff {s0 s:StS} {f:List Int} {k n x:Nat} (h0:okAt s0 f (k + 1) x) (hx:x < n) (H:inv1 s0 s f k n) (hn:0≤s0.now):oldP s x↔0 < rd s0.since x:=by
  obtain ⟨a1,a2,a3,a4,a5⟩:=h0
  obtain ⟨b1,_,_,_,b2⟩:=H
  unfold oldP
  rw [b1]
  rcases b2 x hx with ⟨c1,c2,c3⟩ | ⟨c1,c2,c3⟩
  · rw [c2]; omega
  · rw [c2]
    unfold snc
    split
    · omega
    · split <;> omega
theorem num_post {s0 s:StS} {f:List Int} {k n x:Nat} (e:EnS) {on:Bool} (h0:okAt s0 f (k + 1) x) (hx:x < n) (H:inv1 s0 s f k n) (hn:0≤s0.now)
    (hon:on = true∨0 < rd s0.since x∨digP f x k = false) :
    inv1 s0 (numG putG s e x k on (digP f x k) (decide (rd f x < 0))).1 f k n∧postAt s0 (numG putG s e x k on (digP f x k) (decide (rd f x < 0))).1 f k x ∧
    ∀ y,y ≠ x→(preAt s0 s y→preAt s0 (numG putG s e x k on (digP f x k) (decide (rd f x < 0))).1 y)∧(postAt s0 s f k y→postAt s0 (numG putG s e x k on (digP f x k) (decide (rd f x < 0))).1 f k y):=by
  have hold:=old_iff h0 hx H hn
  obtain ⟨b1,b2,b3,b4,b5⟩:=id H
  obtain ⟨a1,a2,a3,a4,a5⟩:=h0
  obtain ⟨q,q1,q2,q3⟩:=tv_q k (rd f x)
  have hdig:=digP_q q1
  have hpos:0 < 2 ^ k:=Nat.pow_pos (by decide)
  have key:∀ s':StS,s'.now = s.now→(∃ a b c,s'.size = s.size.set x a∧s'.since = s.since.set x b∧s'.minus = s.minus.set x c∧a = tv k (rd f x)∧b = snc s0 f k x∧c = (decide (0 < snc s0 f k x) && decide (rd f x < 0))) →
      inv1 s0 s' f k n∧postAt s0 s' f k x∧∀ y,y ≠ x→(preAt s0 s y→preAt s0 s' y)∧(postAt s0 s f k y→postAt s0 s' f k y):=fun s' hnow ⟨a,b,c,ha,hb,hc,va,vb,vc⟩ => by
    have hp:postAt s0 s' f k x:=by
      refine ⟨?_,?_,?_⟩
      · rw [ha,rd_st_same (by omega),va]
      · rw [hb,rd_st_same (by omega),vb]
      · rw [hc,rdB_st_same (by omega),vc]
    have hne:∀ y,y ≠ x→(preAt s0 s y→preAt s0 s' y)∧(postAt s0 s f k y→postAt s0 s' f k y):=fun y hy => by
      unfold preAt postAt
      rw [ha,hb,hc,rd_st_ne (Ne.symm hy),rd_st_ne (Ne.symm hy),rdB_st_ne (Ne.symm hy)]
      exact ⟨id,id⟩
    refine ⟨⟨by rw [hnow,b1],by rw [ha,List.length_set,b2],by rw [hb,List.length_set,b3],by rw [hc,List.length_set,b4],fun i hi => ?_⟩,hp,hne⟩
    by_cases e:i = x
    · rw [e]; exact .inr hp
    · rcases b5 i hi with h | h
      · exact .inl ((hne i e).1 h)
      · exact .inr ((hne i e).2 h)
  have hself:∀ {xs:List Int},x < xs.length→xs.set x (rd xs x) = xs:=fun {xs} h => by
    rw [rd_lt xs x h,List.set_getElem_self]
  have hselfB:∀ {xs:List Bool},x < xs.length→xs.set x (rdB xs x) = xs:=fun {xs} h => by
    rw [rdB_lt xs x h,List.set_getElem_self]
  have z1:=hself (xs:=s.size) (by omega)
  have z2:=hself (xs:=s.since) (by omega)
  have z3:=hselfB (xs:=s.minus) (by omega)
  by_cases ho:0 < rd s0.since x
  · have hsn:snc s0 f k x = rd s0.since x:=by unfold snc; rw [if_pos ho]
    have hsince:rd s.since x = rd s0.since x:=by
      rcases b5 x hx with ⟨_,c2,_⟩ | ⟨_,c2,_⟩
      · exact c2
      · rw [c2,hsn]
    have hminus:rdB s.minus x = (decide (0 < rd s0.since x) && decide (rd f x < 0)):=by
      rcases b5 x hx with ⟨_,_,c3⟩ | ⟨_,_,c3⟩
      · rw [c3,a5]
      · rw [c3,hsn]
    have hsize:rd s.size x = ((q / 2 * 2 * 2 ^ k:Nat):Int)∨rd s.size x = ((q * 2 ^ k:Nat):Int):=by
      rcases b5 x hx with ⟨c1,_,_⟩ | ⟨c1,_,_⟩
      · left; rw [c1,a1,q3]
      · right; rw [c1,q2]
    rw [numG_enc_old (hold.2 ho),hdig]
    by_cases hq:q % 2 = 1
    · rw [decide_eq_true hq,if_pos rfl]
      refine key _ rfl ⟨_,_,_,by rw [Int.toNat_natCast],z2.symm,z3.symm,?_,by rw [hsince,hsn],by rw [hminus,hsn]⟩
      rw [q2]
      rcases hsize with h | h
      · rw [h,orP_nat,or_mul]
        have:q = 2 * (q / 2) + 1:=by omega
        rw [Nat.mul_comm (q / 2) 2,or_even,← this]
      · rw [h,orP_nat,or_mul]
        have:q = 2 * (q / 2) + 1:=by omega
        rw [this,or_odd]
    · rw [decide_eq_false hq,if_neg (by decide)]
      refine key _ rfl ⟨_,_,_,z1.symm,z2.symm,z3.symm,?_,by rw [hsince,hsn],by rw [hminus,hsn]⟩
      rw [q2]
      have:q / 2 * 2 = q:=by omega
      rcases hsize with h | h
      · rw [h,this]
      · exact h
  · have hz:rd s0.since x = 0:=by omega
    have hnz:rd s0.size x = 0:=by
      rcases Int.lt_trichotomy (rd s0.size x) 0 with h | h | h
      · exact absurd (a2.2 (by omega)) ho
      · exact h
      · exact absurd (a2.2 (by omega)) ho
    have hq2:q / 2 = 0:=by
      rw [a1,q3] at hnz
      rcases Nat.eq_zero_or_pos (q / 2) with h | h
      · exact h
      · have:0 < q / 2 * 2 * 2 ^ k:=Nat.mul_pos (Nat.mul_pos h (by decide)) hpos
        omega
    have hm0:rdB s0.minus x = false:=by rw [a5,hz]; rfl
    have hno:¬ oldP s x:=fun h => ho (hold.1 h)
    by_cases hq:q % 2 = 1
    · have hon1:on = true:=by
        rcases hon with h | h | h
        · exact h
        · exact absurd h ho
        · rw [hdig,decide_eq_true hq] at h; cases h
      subst hon1
      have hq1:q = 1:=by omega
      have htv:tv k (rd f x) = ((2 ^ k:Nat):Int):=by rw [q2,hq1,Nat.one_mul]
      have hsn:snc s0 f k x = s0.now + 1:=by unfold snc; rw [if_neg ho,if_neg (by rw [htv]; omega)]
      rw [numG_enc_new hno,hdig,decide_eq_true hq,if_pos rfl]
      refine key _ rfl ⟨_,_,_,by rw [Int.toNat_natCast],by rw [Int.toNat_natCast],by rw [Int.toNat_natCast],?_,by rw [hsn,b1],?_⟩
      · have hsize:rd s.size x = ((0 * 2 ^ k:Nat):Int)∨rd s.size x = ((1 * 2 ^ k:Nat):Int):=by
          rcases b5 x hx with ⟨c1,_,_⟩ | ⟨c1,_,_⟩
          · left; rw [c1,hnz]; simp
          · right; rw [c1,htv]; simp
        rcases hsize with h | h
        · rw [h,orP_nat,or_mul,htv]; simp
        · rw [h,orP_nat,or_mul,htv]; simp
      · rw [hsn,decide_eq_true (show 0 < s0.now + 1 by omega),Bool.true_and]
    · have hq0:q = 0:=by omega
      have htv:tv k (rd f x) = 0:=by rw [q2,hq0]; simp
      have hsn:snc s0 f k x = 0:=by unfold snc; rw [if_neg ho,if_pos htv]
      have hsize:rd s.size x = 0:=by
        rcases b5 x hx with ⟨c1,_,_⟩ | ⟨c1,_,_⟩
        · rw [c1,hnz]
        · rw [c1,htv]
      have hsince:rd s.since x = 0:=by
        rcases b5 x hx with ⟨_,c2,_⟩ | ⟨_,c2,_⟩
        · rw [c2,hz]
        · rw [c2,hsn]
      have hminus:rdB s.minus x = false:=by
        rcases b5 x hx with ⟨_,_,c3⟩ | ⟨_,_,c3⟩
        · rw [c3,hm0]
        · rw [c3,hsn]; rfl
      have hs':(numG putG s e x k on (digP f x k) (decide (rd f x < 0))).1 = s:=by
        rw [hdig,decide_eq_false hq]
        cases on with
        | true => rw [numG_enc_new hno,if_neg (by decide)]
        | false => rw [numG_off hno]
      rw [hs']
      refine key s rfl ⟨_,_,_,z1.symm,z2.symm,z3.symm,by rw [hsize,htv],by rw [hsince,hsn],by rw [hminus,hsn]; rfl⟩
theorem pls_post {s0:StS} {f:List Int} {k n:Nat} {on:Bool} (hn:0≤s0.now) (h0:∀ x,x < n→okAt s0 f (k + 1) x):∀ (l:List Int) (s:StS) (e:EnS),e.ok→e.st.length = 12→(∀ x ∈ l,0≤x∧x < n)→inv1 s0 s f k n →
    (∀ x ∈ l,on = true∨0 < rd s0.since x∨digP f x k = false) →
    inv1 s0 (plsG putG f k on l s e).1 f k n∧(∀ x:Nat,(x:Int) ∈ l→postAt s0 (plsG putG f k on l s e).1 f k x)∧∀ y,postAt s0 s f k y→postAt s0 (plsG putG f k on l s e).1 f k y
  | [],s,e,H,h12,hl,hI,hon => ⟨hI,fun x hx => (by cases hx),fun y h => h⟩
  | i :: l,s,e,H,h12,hl,hI,hon => by
    obtain ⟨i0,i1⟩:=hl i List.mem_cons_self
    obtain ⟨x,rfl⟩:∃ x:Nat,i = x:=⟨i.toNat,by omega⟩
    have hx:x < n:=by omega
    obtain ⟨a1,a2⟩:=numE_aft s x k on (digP f x k) (decide (rd f x < 0)) H h12
    obtain ⟨b1,b2,b3⟩:=num_post e (h0 x hx) hx hI hn (hon _ List.mem_cons_self)
    rw [plsG,if_pos a2]
    obtain ⟨c1,c2,c3⟩:=pls_post hn h0 l _ _ a1.1 (by rw [a1.2.2.1,h12]) (fun y hy => hl y (List.mem_cons_of_mem _ hy)) b1 (fun y hy => hon y (List.mem_cons_of_mem _ hy))
    refine ⟨c1,fun y hy => ?_,fun y hy => ?_⟩
    · rcases List.mem_cons.1 hy with h | h
      · have:y = x:=by omega
        subst this
        exact c3 y b2
      · exact c2 y h
    · by_cases e:y = x
      · subst e; exact c3 y b2
      · exact c3 y ((b3 y e).2 hy)
theorem setOn_inv {s0 s:StS} {f:List Int} {k n i:Nat} (b:Bool) (h:inv1 s0 s f k n):inv1 s0 (setOn s i b) f k n:=h
theorem bkt_post {s0:StS} {f:List Int} {k n:Nat} (hn:0≤s0.now) (h0:∀ x,x < n→okAt s0 f (k + 1) x) (i:Nat) (s:StS) (e:EnS) (H:e.ok) (h12:e.st.length = 12) (hl:∀ x ∈ (rdBk s.list i).b.places,0≤x∧x < n) (hI:inv1 s0 s f k n) :
    inv1 s0 (bktG putG f k i s e).1 f k n∧(∀ x:Nat,(x:Int) ∈ (rdBk s.list i).b.places→postAt s0 (bktG putG f k i s e).1 f k x)∧∀ y,postAt s0 s f k y→postAt s0 (bktG putG f k i s e).1 f k y:=by
  have hold:∀ x ∈ (rdBk s.list i).b.places,oldP s x↔0 < rd s0.since x:=fun x hx => by
    obtain ⟨i0,i1⟩:=hl x hx
    obtain ⟨y,rfl⟩:∃ y:Nat,x = y:=⟨x.toNat,by omega⟩
    exact old_iff (h0 y (by omega)) (by omega) hI hn
  rw [bktG_put]
  split
  · rename_i hall
    refine pls_post hn h0 _ _ _ H h12 hl (setOn_inv _ hI) fun x hx => .inr (.inl ?_)
    unfold allP at hall
    exact (hold x hx).1 (of_decide_eq_true (List.all_eq_true.1 hall x hx))
  · have h1:=putAft H h12 (bctxP_bd (setOn s i false) (rdBk s.list i).b) (onP s (rdBk s.list i).b.places f k)
    refine pls_post hn h0 _ _ _ h1.1 (by rw [h1.2.2.1,h12]) hl (setOn_inv _ hI) fun x hx => ?_
    cases hon:onP s (rdBk s.list i).b.places f k with
    | true => exact .inl rfl
    | false =>
      refine .inr ?_
      unfold onP at hon
      have:=List.any_eq_false.1 hon x hx
      by_cases ho:oldP s x
      · exact .inl ((hold x hx).1 ho)
      · rw [decide_eq_false ho] at this
        right
        cases hd:digP f x k with
        | true => rw [hd] at this; simp at this
        | false => rfl
theorem slc_post {s0:StS} {f:List Int} {k n:Nat} (hk:k≤30) (hn:0≤s0.now) (h0:∀ x,x < n→okAt s0 f (k + 1) x):∀ (m i:Nat) (s:StS) (e:EnS),stWf s n→szWf s→e.ok→e.st.length = 12→i + m = s.list.length→inv1 s0 s f k n →
    (∀ x,x < n→preAt s0 (slcG putG f k m i s e).1 x∨postAt s0 (slcG putG f k m i s e).1 f k x)∧(∀ j,i≤j→j < s.list.length→∀ x:Nat,(x:Int) ∈ (rdBk s.list j).b.places→postAt s0 (slcG putG f k m i s e).1 f k x)∧∀ y,postAt s0 s f k y→postAt s0 (slcG putG f k m i s e).1 f k y
  | 0,i,s,e,hs,hz,H,h12,hik,hI => ⟨hI.2.2.2.2,fun j hj hj2 => by omega,fun y h => h⟩
  | m + 1,i,s,e,hs,hz,H,h12,hik,hI => by
    have hbki:=hs.2.2.2.2.2.2.2.2.2.2 _ (by rw [rdBk_nat (show i < s.list.length by omega)]; exact List.getElem_mem _:rdBk s.list i ∈ s.list)
    obtain ⟨k1,k2,k3,k4⟩:=bktE_inv f (k:Int) (by omega) (by omega) i s e n hs hz H h12 (by omega)
    obtain ⟨b1,b2,b3⟩:=bkt_post hn h0 i s e H h12 hbki.2.2.2 hI
    rw [slcG,if_pos k4]
    obtain ⟨c1,c2,c3⟩:=slc_post hk hn h0 m (i + 1) _ _ (k1.wf hs) k2 k3.1 (by rw [k3.2.2.1,h12]) (by rw [k1.2.2.2.2.1.len]; omega) b1
    refine ⟨c1,fun j hj hj2 x hx => ?_,fun y hy => c3 y (b3 y hy)⟩
    by_cases e:j = i
    · subst e; exact c3 x (b2 x hx)
    · refine c2 j (by omega) (by rw [k1.2.2.2.2.1.len]; exact hj2) x ?_
      rw [(k1.2.2.2.2.1.at (by rw [k1.2.2.2.2.1.len]; exact hj2)).1]
      exact hx
theorem slc_ok {s:StS} {f:List Int} {k n:Nat} {e:EnS} (hk:k≤30) (hs:stWf s n) (hz:szWf s) (H:e.ok) (h12:e.st.length = 12) (h0:∀ x,x < n→okAt s f (k + 1) x) (hc:∀ x:Nat,x < n→∃ j,j < s.list.length∧(x:Int) ∈ (rdBk s.list j).b.places) :
    ∀ x,x < n→okAt (slcG putG f k s.list.length 0 s e).1 f k x:=fun x hx => by
  have hn:0≤s.now:=hs.2.2.2.2.2.1
  have hI:inv1 s s f k n:=⟨rfl,hs.1,hs.2.2.1,hs.2.1,fun i hi => .inl ⟨rfl,rfl,rfl⟩⟩
  obtain ⟨c1,c2,c3⟩:=slc_post hk hn h0 s.list.length 0 s e hs hz H h12 (by omega) hI
  obtain ⟨j,hj,hm⟩:=hc x hx
  obtain ⟨p1,p2,p3⟩:=c2 j (Nat.zero_le _) hj x hm
  obtain ⟨i1,_,_,_⟩:=slcE_inv f (k:Int) (by omega) (by omega) n s.list.length 0 s e hs hz H h12 (by omega)
  obtain ⟨a1,a2,a3,a4,a5⟩:=h0 x hx
  have hnow:(slcG putG f k s.list.length 0 s e).1.now = s.now + 1:=i1.2.2.2.1
  obtain ⟨q,q1,q2,q3⟩:=tv_q k (rd f x)
  refine ⟨p1,?_,?_,?_,by rw [p2]; exact p3⟩
  · rw [p2,p1]
    unfold snc
    split
    · rename_i ho
      have:=a2.1 ho
      rw [a1,q3] at this
      refine ⟨fun _ => ?_,fun _ => ho⟩
      rw [q2]
      intro hz'
      have h1:q * 2 ^ k = 0:=by omega
      rcases Nat.mul_eq_zero.1 h1 with h | h
      · rw [h] at this; simp at this
      · rw [h] at this; simp at this
    · split
      · rename_i ho ht
        rw [ht]; simp
      · rename_i ho ht
        exact ⟨fun _ => ht,fun _ => by omega⟩
  · rw [p2,hnow]
    unfold snc
    split
    · omega
    · split <;> omega
  · rw [p2]
    unfold snc
    split
    · omega
    · split <;> omega
theorem bk_in (W:Int) {l:List Bd} {b:Bd} (hb:b ∈ l) {r c:Nat} (hr:(r:Int) < rowsB b) (hc:(c:Int) < colsB b):∃ G,bkAt W G b r c ∈ (bkFold W l).1:=by
  have key:∀ i,i≤l.length→∀ b ∈ l.take i,∀ r c:Nat,(r:Int) < rowsB b→(c:Int) < colsB b→∃ G,bkAt W G b r c ∈ (bkFold W (l.take i)).1:=by
    intro i
    induction i with
    | zero => intro _ b hb; simp at hb
    | succ i ih =>
      intro hi b hb r c hr hc
      rw [bkFold_succ W (by omega)]
      unfold bkStep
      simp only
      rw [List.take_succ_eq_append_getElem (by omega)] at hb
      rcases List.mem_append.1 hb with hb | hb
      · obtain ⟨G,h⟩:=ih (by omega) b hb r c hr hc
        exact ⟨G,List.mem_append_left _ h⟩
      · rw [List.mem_singleton] at hb
        have e:rdBd l i = b:=by rw [rdBd_nat (by omega),hb]
        rw [e]
        refine ⟨_,List.mem_append_right _ (List.mem_flatMap.2 ⟨r,List.mem_range.2 (by omega),List.mem_map.2 ⟨c,List.mem_range.2 (by omega),rfl⟩⟩)⟩
  have:=key l.length (Nat.le_refl _) b (by rw [List.take_length]; exact hb) r c hr hc
  rw [List.take_length] at this
  exact this
theorem bkts_cover {w h n:Int} (hb:bnOk w h n) {x:Nat} (hx:(x:Int) < w * h):∃ b ∈ bkts w h n,(x:Int) ∈ b.places:=by
  obtain ⟨q1,q2,q3,q4,q5,q6⟩:=id hb
  obtain ⟨w,rfl⟩:∃ k:Nat,w = k:=⟨w.toNat,by omega⟩
  obtain ⟨h,rfl⟩:∃ k:Nat,h = k:=⟨h.toNat,by omega⟩
  obtain ⟨n,rfl⟩:∃ k:Nat,n = k:=⟨n.toNat,by omega⟩
  have hxn:x < w * h:=by exact_mod_cast hx
  have hw0:0 < w:=by
    rcases Nat.eq_zero_or_pos w with h0 | h0
    · subst h0; simp at hxn
    · exact h0
  have hr:x / w < h:=Nat.div_lt_of_lt_mul hxn
  have hc:x % w < w:=Nat.mod_lt _ hw0
  have hcov:=cov_all (w:=w) (h:=h) (n:=n) (by omega) (by omega) (x / w) (x % w) hr hc
  have hbn:bnL (w:Int) h n = keptBd (bdD w h n n):=by unfold bnL bnA; rw [if_pos hb]; simp
  rw [← hbn] at hcov
  have hex:∃ b ∈ bnL (w:Int) h n,inBd b ((x / w:Nat):Int) ((x % w:Nat):Int) = true:=by
    unfold cov at hcov
    have:0 < (bnL (w:Int) h n).countP fun b => inBd b ((x / w:Nat):Int) ((x % w:Nat):Int):=by omega
    obtain ⟨b,h1,h2⟩:=List.countP_pos_iff.1 this
    exact ⟨b,h1,h2⟩
  obtain ⟨b,hbm,hin⟩:=hex
  unfold inBd at hin
  rw [decide_eq_true_eq] at hin
  obtain ⟨i1,i2,i3,i4,i5,i6,_⟩:=bnL_in hb hbm
  obtain ⟨R,hR⟩:∃ R:Nat,((x / w:Nat):Int) - b.y = R:=⟨(((x / w:Nat):Int) - b.y).toNat,by omega⟩
  obtain ⟨C,hC⟩:∃ C:Nat,((x % w:Nat):Int) - b.x = C:=⟨(((x % w:Nat):Int) - b.x).toNat,by omega⟩
  obtain ⟨G,hG⟩:=bk_in (w:Int) hbm (r:=R / 4) (c:=C / 4) (by unfold rowsB; omega) (by unfold colsB; omega)
  refine ⟨_,hG,?_⟩
  unfold bkAt plAll plRow
  simp only
  refine List.mem_flatMap.2 ⟨R % 4,List.mem_range.2 ?_,List.mem_map.2 ⟨C % 4,List.mem_range.2 ?_,?_⟩⟩
  · unfold khB; omega
  · unfold kwB; omega
  · unfold plF
    have e1:b.y + (((R / 4:Nat):Int) * 4 + ((R % 4:Nat):Int)) = ((x / w:Nat):Int):=by omega
    have e2:((C / 4:Nat):Int) * 4 + ((C % 4:Nat):Int) = C:=by omega
    rw [e1,e2]
    have e3:x / w * w + x % w = x:=Nat.div_add_mod' x w
    have e4:((x / w:Nat):Int) * (w:Int) + ((x % w:Nat):Int) = x:=by exact_mod_cast e3
    omega
theorem st0_cover {a:BgA} (hb:bnOk a.w a.h a.n) (f:Nat→Xf.Loc):∀ x:Nat,x < (a.w * a.h).toNat→∃ j,j < (st0 a f).list.length∧(x:Int) ∈ (rdBk (st0 a f).list j).b.places:=fun x hx => by
  obtain ⟨b,hb1,hb2⟩:=bkts_cover hb (x:=x) (by omega)
  obtain ⟨j,hj,rfl⟩:=List.mem_iff_getElem.1 hb1
  refine ⟨j,by simp only [st0,bkOf_len]; exact hj,?_⟩
  simp only [st0]
  rw [bkOf_at f hj]
  simp only [List.getD_eq_getElem?_getD,List.getElem?_eq_getElem hj,Option.getD_some]
  exact hb2
theorem norm_by:∀ (n:Nat) {l h:Int},nrm n l h→byAll (normP n l h).1
  | n,l,h,H => by
    by_cases e:l / 16777216 = h / 16777216
    · cases n with
      | zero => exact absurd e (nrm_0 H)
      | succ n =>
        have ih:=norm_by n (nrm_step H e)
        obtain ⟨_,g1,g2,g3,_,_⟩:=H
        rw [norm_yes e]
        intro b hb
        rcases List.mem_cons.1 hb with rfl | hb
        · omega
        · exact ih b hb
    · rw [norm_no n e]
      intro b hb
      cases hb
theorem byAll_app {a b:List Int} (ha:byAll a) (hb:byAll b):byAll (a++b):=fun x hx => by
  rcases List.mem_append.1 hx with h | h
  · exact ha x h
  · exact hb x h
theorem put_by {e:EnS} {ctx bit:Int} (H:e.ok) (h0:0≤ctx) (h1:ctx < e.st.length) (h:byAll e.out):byAll (putP e ctx bit).out :=
  byAll_app h (norm_by 4 (nrm_part (bit:=bit) H h0 h1))
theorem num_by {s:StS} {e:EnS} {i t:Int} {on dig neg:Bool} (H:e.ok) (h12:e.st.length = 12) (h:byAll e.out):byAll (numG putG s e i t on dig neg).2.1.out:=by
  by_cases ho:oldP s i
  · rw [numG_enc_old ho]
    have:=dctxP_bd s i
    exact put_by H this.1 (by omega) h
  · cases on with
    | false => rw [numG_off ho]; exact h
    | true =>
      rw [numG_enc_new ho]
      have hc:=nctxP_bd s i
      have h1:=putAft H h12 hc dig
      have h2:=put_by (bit:=b2i dig) H hc.1 (by omega) h
      split
      · exact put_by h1.1 (by decide) (by rw [h1.2.2.1,h12]; decide) h2
      · exact h2
theorem pls_by (f:List Int) (t:Int) (on:Bool):∀ (l:List Int) (s:StS) (e:EnS),e.ok→e.st.length = 12→byAll e.out→byAll (plsG putG f t on l s e).2.1.out
  | [],s,e,H,h12,h => h
  | i :: l,s,e,H,h12,h => by
    obtain ⟨a1,a2⟩:=numE_aft s i t on (digP f i t) (decide (rd f i < 0)) H h12
    rw [plsG,if_pos a2]
    exact pls_by f t on l _ _ a1.1 (by rw [a1.2.2.1,h12]) (num_by H h12 h)
theorem slc_by (f:List Int) (t:Int) (t0:0≤t) (t1:t≤30) (n:Nat):∀ (k i:Nat) (s:StS) (e:EnS),stWf s n→szWf s→e.ok→e.st.length = 12→i + k = s.list.length→byAll e.out→byAll (slcG putG f t k i s e).2.1.out
  | 0,i,s,e,_,_,_,_,_,h => h
  | k + 1,i,s,e,hs,hz,H,h12,hik,h => by
    obtain ⟨k1,k2,k3,k4⟩:=bktE_inv f t t0 t1 i s e n hs hz H h12 (by omega)
    rw [slcG,if_pos k4]
    refine slc_by f t t0 t1 n k (i + 1) _ _ (k1.wf hs) k2 k3.1 (by rw [k3.2.2.1,h12]) (by rw [k1.2.2.2.2.1.len]; omega) ?_
    rw [bktG_put]
    split
    · exact pls_by f t _ _ _ _ H h12 h
    · have hc:=bctxP_bd (setOn s i false) (rdBk s.list i).b
      have h1:=putAft H h12 hc (onP s (rdBk s.list i).b.places f t)
      exact pls_by f t _ _ _ _ h1.1 (by rw [h1.2.2.1,h12]) (put_by H hc.1 (by omega) h)
def inv10:List SV→Look→Option (Unit × List Nat)
  | [],_ => some ((),[])
  | _,_ => none
attribute [push_cast] inv10
def ent10:Entry:=spOf fs10 inv10
theorem e10:EntryOk Try.prog 10 ent10:=entry_of ok10 inv10
@[push_cast] theorem ent10_app (us:List SV) (look:Look) (x:Nat→Xf.Loc) (k:Nat):ent10 us look x k = spOf fs10 inv10 us look x k:=rfl
structure SgA where
  p:Pl
  L:Xf.Loc
  t:Int
def tOk (t:Int):Prop:=0≤t∧t≤25
instance tOk_dec (t:Int):Decidable (tOk t):=by unfold tOk; infer_instance
def sgE (p:Pl) (t:Int):Int:=if p.Ok then (if tOk t then 0 else 2) else 70
theorem pw25 {t:Int} (h0:0≤t) (h1:t≤30):0 < (2:Int) ^ t.toNat∧(2:Int) ^ t.toNat≤1073741824:=by
  have:=pw_lt h0 h1
  have e:(2:Int) ^ t.toNat = ((2 ^ t.toNat:Nat):Int):=by simp
  omega
def ctF (t c:Int):Int:=if c < 0 then - (max c (-c) / 2 ^ t.toNat * 2 ^ t.toNat) else max c (-c) / 2 ^ t.toNat * 2 ^ t.toNat
def ctP (p:Pl) (t:Int):Pl:=if sgE p t = 0 then ⟨p.w,p.h,p.xs.map (ctF t)⟩ else pl0
def encN (f:List Int):Nat→Nat→StS→List Int→StS × List Int
  | m + 1,k + 1,s,st => encN f m k (encStep f k s st).1 (encStep f k s st).2.1.st
  | 0,_,s,st => (s,st)
  | _ + 1,0,s,st => (s,st)
def slStOk (f:List Int) (N k:Nat) (kd:Int) (s:StS) (st:List Int):Prop:=stWf s N∧szWf s∧s.kind = kd∧s.now + k≤100∧mdOk kd st∧st.length = 12∧(∀ x,x < N→okAt s f k x)∧∀ x:Nat,x < N→∃ j,j < s.list.length∧(x:Int) ∈ (rdBk s.list j).b.places
theorem step_ok {f:List Int} {N k:Nat} {kd:Int} {s:StS} {st:List Int} (hk:k + 1≤25) (H:slStOk f N (k + 1) kd s st) :
    slStOk f N k kd (encStep f k s st).1 (encStep f k s st).2.1.st∧byAll (encEnd (encStep f k s st).2.1)∧(encEnd (encStep f k s st).2.1).length≤10000000 ∧
    ∀ g,(decStep g k s st (encEnd (encStep f k s st).2.1)).1 = (encStep f k s st).1∧(decStep g k s st (encEnd (encStep f k s st).2.1)).2.2 = 0∧(decStep g k s st (encEnd (encStep f k s st).2.1)).2.1.st = (encStep f k s st).2.1.st:=by
  obtain ⟨h1,h2,h3,h4,h5,h6,h7,h8⟩:=H
  have hnew:=newEn_ok h5
  have hl:s.list.length≤50000:=h1.2.2.2.2.2.2.2.1
  rw [← h3] at hnew h5
  obtain ⟨i1,i2,i3,i4⟩:=slcE_inv f (k:Int) (by omega) (by omega) N s.list.length 0 s (newEn s.kind st) h1 h2 hnew h6 (by omega)
  have hok:=slc_ok (by omega) h1 h2 hnew h6 h7 h8
  have hby:=slc_by f (k:Int) (by omega) (by omega) N s.list.length 0 s (newEn s.kind st) h1 h2 hnew h6 (by omega) (fun b hb => by cases hb)
  have hcode:byAll (encEnd (encStep f k s st).2.1):=encEnd_by hby
  have hfut:=end_fut i3.1
  have hsim:=fun g => slc_sim hcode f g (k:Int) (by omega) (by omega) N s.list.length 0 s (newEn s.kind st) (newDe s.kind st (encEnd (encStep f k s st).2.1)) h1 h2 hnew h6 (by omega) (new_rel hcode) hfut
  have e12:(encStep f k s st).2.1.st.length = 12:=i3.2.2.1.trans h6
  have ekd:(encStep f k s st).2.1.kind = s.kind:=i3.2.2.2
  have hmd:=EnS.ok.md i3.1 e12
  have hmd':mdOk s.kind (encStep f k s st).2.1.st:=by
    have:=hmd
    rw [show (slcG putG f (k:Int) s.list.length 0 s (newEn s.kind st)).2.1.kind = s.kind from ekd] at this
    exact this
  have hnow:(encStep f k s st).1.now = s.now + 1:=i1.2.2.2.1
  have h40:=h1.2.2.2.2.2.2.1
  have h41:=h1.2.2.2.2.2.1
  have hwf:stWf (encStep f k s st).1 N:=i1.wf (by
    obtain ⟨o1,o2,o3,o4,o5,o6,o7,o8,o9,o10,o11⟩:=h1
    exact ⟨o1,o2,o3,o4,o5,by simp only; omega,by simp only; omega,o8,o9,o10,o11⟩)
  refine ⟨⟨hwf,i2,?_,by rw [hnow]; omega,by rw [← h3]; exact hmd',e12,hok,fun x hx => ?_⟩,hcode,?_,fun g => ?_⟩
  · exact i1.2.2.2.2.2.1.trans h3
  · obtain ⟨j,hj,hm⟩:=h8 x hx
    have hk2:sameK (encStep f k s st).1.list s.list:=i1.2.2.2.2.1
    refine ⟨j,by rw [hk2.len]; exact hj,?_⟩
    rw [(hk2.at (by rw [hk2.len]; exact hj)).1]
    exact hm
  · have:=i3.2.1
    unfold encEnd
    rw [List.length_append,endP_len]
    have h4:endN (encStep f k s st).2.1.low (encStep f k s st).2.1.high≤4:=by
      unfold endN
      repeat' split
      all_goals decide
    have h0:(newEn s.kind st).out.length = 0:=rfl
    have h5:(encStep f k s st).2.1.out.length≤(newEn s.kind st).out.length + 132 * s.list.length:=i3.2.1
    omega
  · obtain ⟨g1,g2,g3⟩:=hsim g
    refine ⟨g1,g2,?_⟩
    unfold Rel at g3
    show (slcG getG g (k:Int) s.list.length 0 s (newDe s.kind st (encEnd (encStep f k s st).2.1))).2.1.st = _
    rw [g3]
    rfl
theorem encG_len (f:List Int):∀ (k:Nat) (s:StS) (st:List Int),(encG f k s st).length = k
  | 0,_,_ => rfl
  | k + 1,s,st => by rw [encG,List.length_cons,encG_len f k]
theorem encG_by {f:List Int} {N:Nat} {kd:Int}:∀ (k:Nat) (s:StS) (st:List Int),k≤25→slStOk f N k kd s st→∀ c ∈ encG f k s st,byAll c∧c.length≤10000000
  | 0,_,_,_,_,c,hc => by cases hc
  | k + 1,s,st,hk,H,c,hc => by
    obtain ⟨a1,a2,a3,a4⟩:=step_ok hk H
    rw [encG] at hc
    rcases List.mem_cons.1 hc with rfl | hc
    · exact ⟨a2,a3⟩
    · exact encG_by k _ _ (by omega) a1 c hc
theorem decG_take {f:List Int} {N:Nat} {kd:Int} (g:List Int):∀ (m k:Nat) (s:StS) (st:List Int),k≤25→m≤k→slStOk f N k kd s st →
    decG g ((encG f k s st).take m) ((k:Int) - 1) s st = ((encN f m k s st).1,0)∧slStOk f N (k - m) kd (encN f m k s st).1 (encN f m k s st).2
  | 0,k,s,st,hk,hm,H => by
    rw [List.take_zero,decG]
    cases k <;> exact ⟨rfl,H⟩
  | m + 1,0,s,st,hk,hm,H => by omega
  | m + 1,k + 1,s,st,hk,hm,H => by
    obtain ⟨a1,a2,a3,a4⟩:=step_ok hk H
    obtain ⟨b1,b2,b3⟩:=a4 g
    rw [encG,List.take_succ_cons,decG,encN]
    rw [show ((k + 1:Nat):Int) - 1 = (k:Int) by omega,if_pos b2,b1,b3]
    have ih:=decG_take g m k _ _ (by omega) (by omega) a1
    rw [show k + 1 - (m + 1) = k - m by omega]
    exact ih
theorem tv_max {f:List Int} (h:AllIn (-16777216) 16777216 f) (x:Nat):tv (planesP f).toNat (rd f x) = 0:=by
  have hmx:=maxA_bd (B:=16777216) (by decide) h
  have hall:∀ k,k≤f.length→∀ j:Nat,j < k→max (rd f j) (- rd f j)≤maxA (f.take k):=by
    intro k
    induction k with
    | zero => intro _ j hj; omega
    | succ k ih =>
      intro hk j hj
      rw [maxA_take (by omega)]
      by_cases e:j = k
      · subst e; omega
      · have:=ih (by omega) j (by omega); omega
  have h2:=hall f.length (Nat.le_refl _)
  have h3:=hmx f.length (Nat.le_refl _)
  rw [List.take_length] at h2 h3
  have hle:max (rd f x) (- rd f x)≤maxA f:=by
    by_cases hx:x < f.length
    · exact h2 x hx
    · have:rd f x = 0:=by simp [rd,List.getElem?_eq_none (by omega:f.length≤x)]
      rw [this]; omega
  have h5:=(lenN_bd (maxA f).toNat).1
  have e:(2:Int) ^ (planesP f).toNat = ((2 ^ lenN (maxA f).toNat:Nat):Int):=by
    unfold planesP lenP
    rw [Int.toNat_natCast]
    simp
  unfold tv
  rw [e,Int.ediv_eq_zero_of_lt (by omega) (by omega),Int.zero_mul]
theorem st0_ok {p:Pl} {lv kd:Int} (hok:p.Ok) (hag:argsOk lv kd):slStOk p.xs (p.w * p.h).toNat (planesP p.xs).toNat kd (st00 ⟨p.w,p.h,lv,kd⟩) (List.replicate 12 0):=by
  obtain ⟨⟨a1,a2,a3,a4,a5⟩,b1,hall⟩:=id hok
  have hbn:bnOk p.w p.h lv:=⟨hag.1,hag.2.1,by omega,by omega,by omega,by omega⟩
  obtain ⟨w1,w2,w3⟩:=st0_wf (a:=⟨p.w,p.h,lv,kd⟩) hbn (by simp only; omega) (fun _ => nilLoc)
  have hpb:=planesP_bd hall
  refine ⟨w1,w2,rfl,by simp only [st00,st0]; omega,zero12_ok hag.2.2,List.length_replicate,fun x hx => ?_,st0_cover (a:=⟨p.w,p.h,lv,kd⟩) hbn (fun _ => nilLoc)⟩
  have hz:∀ n:Nat,rd (List.replicate n (0:Int)) x = 0:=fun n => by
    unfold rd
    simp only [List.getD_eq_getElem?_getD,List.getElem?_replicate]
    split <;> rfl
  have hzb:∀ n:Nat,rdB (List.replicate n false) x = false:=fun n => by
    unfold rdB
    simp only [List.getD_eq_getElem?_getD,List.getElem?_replicate]
    split <;> rfl
  have e1:rd (st00 ⟨p.w,p.h,lv,kd⟩).size x = 0:=hz _
  have e2:rd (st00 ⟨p.w,p.h,lv,kd⟩).since x = 0:=hz _
  have e3:rdB (st00 ⟨p.w,p.h,lv,kd⟩).minus x = false:=hzb _
  have e4:(st00 ⟨p.w,p.h,lv,kd⟩).now = 0:=rfl
  refine ⟨e1.trans (tv_max hall x).symm,by rw [e1,e2]; simp,by rw [e2,e4]; exact Int.le_refl 0,by rw [e2]; exact Int.le_refl 0,?_⟩
  rw [e3]
  simp [e2]
theorem encP_take {p:Pl} {lv kd:Int} (hok:p.Ok) (hag:argsOk lv kd) {m:Nat} (hm:(m:Int)≤planesP p.xs) :
    decE p.w p.h lv kd (planesP p.xs) ((encP p lv kd).take m) = 0∧decP p.w p.h lv kd (planesP p.xs) ((encP p lv kd).take m) = ctP p (planesP p.xs - m):=by
  have H:=st0_ok hok hag
  obtain ⟨⟨a1,a2,a3,a4,a5⟩,b1,hall⟩:=id hok
  have hpb:=planesP_bd hall
  have hP:encP p lv kd = encG p.xs (planesP p.xs).toNat (st00 ⟨p.w,p.h,lv,kd⟩) (List.replicate 12 0):=by unfold encP; rw [if_pos ⟨hok,hag⟩]
  obtain ⟨P,hPP⟩:∃ P:Nat,planesP p.xs = P:=⟨(planesP p.xs).toNat,by omega⟩
  rw [hPP] at hpb hm H hP ⊢
  rw [Int.toNat_natCast] at H hP
  have hlen:((encP p lv kd).take m).length = m:=by rw [hP,List.length_take,encG_len]; omega
  have hd:decOk p.w p.h lv kd P ((encP p lv kd).take m).length:=⟨⟨a1,a2,a3,a4,a5⟩,hag,by omega,by omega,by rw [hlen]; exact hm⟩
  obtain ⟨t1,t2⟩:=decG_take (List.replicate (p.w * p.h).toNat 0) m P _ _ (by omega) (by omega) H
  have hR:decR p.w p.h lv kd P ((encP p lv kd).take m) = ((encN p.xs m P (st00 ⟨p.w,p.h,lv,kd⟩) (List.replicate 12 0)).1,0):=by
    unfold decR
    rw [hP]
    exact t1
  have hE:decE p.w p.h lv kd P ((encP p lv kd).take m) = 0:=by
    unfold decE
    rw [if_pos hd,hR]
  refine ⟨hE,?_⟩
  unfold decP ctP sgE
  rw [hE,if_pos rfl,if_pos hok,if_pos (show tOk ((P:Int) - m) from ⟨by omega,by omega⟩),if_pos rfl,hR]
  obtain ⟨s',hs'⟩:∃ s,(encN p.xs m P (st00 ⟨p.w,p.h,lv,kd⟩) (List.replicate 12 0)).1 = s:=⟨_,rfl⟩
  rw [hs'] at t2
  rw [hs']
  obtain ⟨h1,h2,h3,h4,h5,h6,h7,h8⟩:=t2
  have hsl:s'.size.length = p.xs.length:=by rw [h1.1]; omega
  congr 1
  unfold plL
  refine List.ext_getElem (by simp [hsl]) fun i q1 q2 => ?_
  simp only [List.getElem_map,List.getElem_range]
  have hi:i < p.xs.length:=by simpa using q2
  obtain ⟨k1,k2,k3,k4,k5⟩:=h7 i (by omega)
  have hrd:rd p.xs i = p.xs[i]:=rd_lt p.xs i hi
  unfold pixF ctF
  rw [k5,← hrd,show ((P:Int) - m).toNat = P - m by omega]
  have htv:max (rd p.xs i) (- rd p.xs i) / 2 ^ (P - m) * 2 ^ (P - m) = tv (P - m) (rd p.xs i):=rfl
  rw [htv,← k1]
  by_cases hneg:rd p.xs i < 0
  · rw [if_pos hneg]
    by_cases hs:0 < rd s'.since i
    · rw [decide_eq_true hs,decide_eq_true hneg]; simp
    · rw [decide_eq_false hs]
      have:rd s'.size i = 0:=by
        rcases Int.lt_trichotomy (rd s'.size i) 0 with h | h | h
        · exact absurd (k2.2 (by omega)) hs
        · exact h
        · exact absurd (k2.2 (by omega)) hs
      rw [this]; simp
  · rw [if_neg hneg,decide_eq_false hneg,Bool.and_false]; simp
theorem encE_0 {p:Pl} {lv kd:Int} (h:encE p lv kd = 0):p.Ok∧argsOk lv kd:=by
  unfold encE at h
  split at h
  · split at h
    · exact ⟨by assumption,by assumption⟩
    · cases h
  · cases h
theorem encE_n {p:Pl} {lv kd:Int} (h:¬ encE p lv kd = 0):encP p lv kd = []:=by
  unfold encE at h
  unfold encP
  rw [if_neg]
  rintro ⟨h1,h2⟩
  rw [if_pos h1,if_pos h2] at h
  exact h rfl
theorem encP_len {p:Pl} {lv kd:Int} (hok:p.Ok) (hag:argsOk lv kd):((encP p lv kd).length:Int) = planesP p.xs:=by
  have hpb:=planesP_bd hok.2.2
  unfold encP
  rw [if_pos ⟨hok,hag⟩,encG_len]
  omega
theorem encP_wf {p:Pl} {lv kd:Int} (hok:p.Ok) (hag:argsOk lv kd) (f:Nat→Xf.Loc):rowsWf (byL f (encP p lv kd)):=by
  have hpb:=planesP_bd hok.2.2
  have hl:=encP_len hok hag
  refine ⟨by rw [byL_len]; omega,fun r hr => ?_⟩
  have hm:=byL_mem hr
  unfold encP at hm
  rw [if_pos ⟨hok,hag⟩] at hm
  have:=encG_by _ _ _ (by omega) (st0_ok hok hag) _ hm
  exact ⟨this.1,by have:=this.2; omega⟩
def ir17:IR :=
  .seq (.reg false [⟨some 4,none,⟨[],[]⟩,.mov (.k (.int .i64 0))⟩] [4] []) (.seq (.reg false [⟨some 5,none,⟨[],[]⟩,.mov (.t 0)⟩,
    ⟨some 6,none,⟨[],[]⟩,.mov (.t 1)⟩,
    ⟨some 7,none,⟨[],[]⟩,.bin 0 .sub (.t 5) (.t 6)⟩,
    ⟨some 8,none,⟨[],[]⟩,.mov (.t 1)⟩,
    ⟨some 9,none,⟨[],[]⟩,.mov (.t 0)⟩,
    ⟨some 10,none,⟨[],[]⟩,.bin 0 .sub (.t 8) (.t 9)⟩,
    ⟨some 11,none,⟨[],[]⟩,.mx (.t 7) (.t 10)⟩,
    ⟨some 4,none,⟨[],[]⟩,.mov (.t 11)⟩] [0,1,5,6,7,8,9,10,11] []) (.ret))
set_option maxRecDepth 4000 in
theorem comp17:(Try.f17.body.bind fun c => compC tab isP chkAll ir17 c) = some ir17:=by kernel_rfl
def b5_2:IR :=
  .seq (.reg false [⟨some 61,none,⟨[],[]⟩,.bin 0 .lss (.t 60) (.t 59)⟩] [] []) (.seq (.cond (.t 61) (.skip) (.exit 2)) (.seq (.block 3 (.seq (.reg false [⟨some 62,none,⟨[],[]⟩,.mov (.t 60)⟩,
    ⟨some 63,none,⟨[],[]⟩,.idxS (.t 58) (.t 60) 1⟩,
    ⟨some 64,none,⟨[],[]⟩,.ld true none 0 0 (.t 63)⟩,
    ⟨some 13,none,⟨[],[]⟩,.mov (.t 62)⟩,
    ⟨some 14,none,⟨[],[]⟩,.mov (.t 64)⟩] [61,62,63,64] []) (.seq (.reg true [⟨some 65,none,⟨[],[]⟩,.mov (.t 14)⟩,
    ⟨some 66,none,⟨[],[]⟩,.fld (.t 11) 2⟩,
    ⟨some 67,none,⟨[],[]⟩,.ld false none 0 0 (.t 66)⟩,
    ⟨some 68,none,⟨[],[]⟩,.mov (.t 13)⟩,
    ⟨some 69,none,⟨[],[]⟩,.idxS (.t 67) (.t 68) 1⟩,
    ⟨some 70,none,⟨[],[]⟩,.ld true none 0 0 (.t 69)⟩,
    ⟨some 71,none,⟨[],[]⟩,.callp 17 [.t 65,.t 70]⟩,
    ⟨some 72,none,⟨[],[]⟩,.mov (.t 7)⟩,
    ⟨some 73,none,⟨[],[]⟩,.len (.t 72)⟩,
    ⟨some 74,none,⟨[],[]⟩,.mov (.t 10)⟩,
    ⟨some 75,none,⟨[],[]⟩,.bin 0 .sub (.t 73) (.t 74)⟩,
    ⟨some 76,none,⟨[],[]⟩,.bin 0 .shl (.k (.int .i64 1)) (.t 75)⟩,
    ⟨some 77,none,⟨[],[]⟩,.bin 0 .geq (.t 71) (.t 76)⟩,
    ⟨some 78,none,⟨[],[]⟩,.mov (.t 77)⟩,
    ⟨some 79,some (78,false),⟨[],[]⟩,.mov (.t 10)⟩,
    ⟨some 80,some (78,false),⟨[],[]⟩,.bin 0 .gtr (.t 79) (.k (.int .i64 0))⟩,
    ⟨some 81,some (78,false),⟨[],[]⟩,.mov (.t 80)⟩,
    ⟨some 82,some (81,true),⟨[],[]⟩,.mov (.t 14)⟩,
    ⟨some 83,some (81,true),⟨[],[]⟩,.fld (.t 11) 2⟩,
    ⟨some 84,some (81,true),⟨[],[]⟩,.ld false none 0 0 (.t 83)⟩,
    ⟨some 85,some (81,true),⟨[],[]⟩,.mov (.t 13)⟩,
    ⟨some 86,some (81,true),⟨[],[]⟩,.idxS (.t 84) (.t 85) 1⟩,
    ⟨some 87,some (81,true),⟨[],[]⟩,.ld true none 0 0 (.t 86)⟩,
    ⟨some 88,some (81,true),⟨[],[]⟩,.callp 17 [.t 82,.t 87]⟩,
    ⟨some 89,some (81,true),⟨[],[]⟩,.mov (.t 14)⟩,
    ⟨some 90,some (81,true),⟨[],[]⟩,.fld (.t 9) 2⟩,
    ⟨some 91,some (81,true),⟨[],[]⟩,.ld false none 0 0 (.t 90)⟩,
    ⟨some 92,some (81,true),⟨[],[]⟩,.mov (.t 13)⟩,
    ⟨some 93,some (81,true),⟨[],[]⟩,.idxS (.t 91) (.t 92) 1⟩,
    ⟨some 94,some (81,true),⟨[],[]⟩,.ld true none 0 0 (.t 93)⟩,
    ⟨some 95,some (81,true),⟨[],[]⟩,.callp 17 [.t 89,.t 94]⟩,
    ⟨some 96,some (81,true),⟨[],[]⟩,.bin 0 .gtr (.t 88) (.t 95)⟩,
    ⟨some 97,some (78,false),⟨[],[]⟩,.pick (.t 81) (.t 96) (.k (.bool false))⟩,
    ⟨some 98,none,⟨[],[]⟩,.pick (.t 78) (.k (.bool true)) (.t 97)⟩] [13,14,65,66,67,68,69,70,71,72,73,74,75,76,77,78,79,80,81,82,83,84,85,86,87,88,89,90,91,92,93,94,95,96,97] []) (.cond (.t 98) (.seq (.reg false [⟨some 6,none,⟨[],[]⟩,.mov (.k (.bool false))⟩] [1,2,3,7,9,10,11,58,59,60,98] []) (.ret)) (.skip))))) (.reg false [⟨some 99,none,⟨[],[]⟩,.bin 0 .add (.t 60) (.k (.int .i64 1))⟩,
    ⟨some 60,none,⟨[],[]⟩,.mov (.t 99)⟩] [6,98,99] [])))
def r5_3:IR :=
  .reg false [⟨some 100,none,⟨[],[]⟩,.ld false (some 3) 0 0 (.t 11)⟩,
    ⟨none,none,⟨[],[]⟩,.sto false 3 .i64 (.t 9) (.t 100)⟩] [11,58,59,60,100] []
def r5_4:IR :=
  .reg false [⟨some 29,none,⟨[],[]⟩,.mov (.t 10)⟩,
    ⟨some 30,none,⟨[],[]⟩,.bin 0 .add (.t 29) (.k (.int .i64 1))⟩,
    ⟨some 10,none,⟨[],[]⟩,.mov (.t 30)⟩] [29,30] []
def b5_1:IR :=
  .seq (.seq (.reg false [⟨some 25,none,⟨[],[]⟩,.mov (.t 10)⟩,
    ⟨some 26,none,⟨[],[]⟩,.mov (.t 7)⟩,
    ⟨some 27,none,⟨[],[]⟩,.len (.t 26)⟩,
    ⟨some 28,none,⟨[],[]⟩,.bin 0 .leq (.t 25) (.t 27)⟩] [25,26,27] []) (.cond (.t 28) (.skip) (.exit 0))) (.seq (.block 1 (.seq (.reg true [⟨some 32,none,⟨[],[]⟩,.fld (.t 3) 0⟩,
    ⟨some 33,none,⟨[24],[]⟩,.ld false none 0 0 (.t 32)⟩,
    ⟨some 34,none,⟨[],[]⟩,.fld (.t 3) 1⟩,
    ⟨some 35,none,⟨[24],[]⟩,.ld false none 0 0 (.t 34)⟩,
    ⟨some 36,none,⟨[],[]⟩,.mov (.t 1)⟩,
    ⟨some 37,none,⟨[],[]⟩,.mov (.t 2)⟩,
    ⟨some 38,none,⟨[],[]⟩,.mov (.t 7)⟩,
    ⟨some 39,none,⟨[],[]⟩,.len (.t 38)⟩,
    ⟨some 40,none,⟨[],[]⟩,.mov (.t 7)⟩,
    ⟨some 41,none,⟨[],[]⟩,.mov (.t 10)⟩,
    ⟨some 42,none,⟨[],[]⟩,.slc (.t 40) 1 none (some (.t 41))⟩,
    ⟨some 43,none,⟨[24],[]⟩,.call (some 4) 20 11 [.t 33,.t 35,.t 36,.t 37,.t 39,.t 42]⟩,
    ⟨some 31,none,⟨[],[]⟩,.mov (.t 43)⟩,
    ⟨some 44,none,⟨[],[]⟩,.ext (.t 31) 0⟩,
    ⟨some 45,none,⟨[],[]⟩,.ext (.t 31) 1⟩,
    ⟨some 11,none,⟨[],[]⟩,.alloc 24 [.int .i64 0,.int .i64 0,nilSV]⟩,
    ⟨none,none,⟨[],[]⟩,.sto false 3 .i64 (.t 11) (.t 44)⟩,
    ⟨some 12,none,⟨[],[]⟩,.mov (.t 45)⟩] [28,31,32,33,34,35,36,37,38,39,40,41,42,43,44,45] []) (.seq (.seq (.reg false [⟨some 46,none,⟨[],[]⟩,.mov (.t 12)⟩,
    ⟨some 47,none,⟨[],[]⟩,.bin 0 .neq (.t 46) (.k (.int .i64 0))⟩,
    ⟨some 48,none,⟨[],[]⟩,.mov (.t 47)⟩,
    ⟨some 49,some (48,false),⟨[],[]⟩,.fld (.t 11) 2⟩,
    ⟨some 50,some (48,false),⟨[],[]⟩,.ld false none 0 0 (.t 49)⟩,
    ⟨some 51,some (48,false),⟨[],[]⟩,.len (.t 50)⟩,
    ⟨some 52,some (48,false),⟨[],[]⟩,.fld (.t 3) 2⟩,
    ⟨some 53,some (48,false),⟨[],[]⟩,.ld false none 0 0 (.t 52)⟩,
    ⟨some 54,some (48,false),⟨[],[]⟩,.len (.t 53)⟩,
    ⟨some 55,some (48,false),⟨[],[]⟩,.bin 0 .neq (.t 51) (.t 54)⟩,
    ⟨some 56,none,⟨[],[]⟩,.pick (.t 48) (.k (.bool true)) (.t 55)⟩] [12,46,47,48,49,50,51,52,53,54,55] []) (.cond (.t 56) (.seq (.reg false [⟨some 6,none,⟨[],[]⟩,.mov (.k (.bool false))⟩] [1,2,3,7,9,10,11,56] []) (.ret)) (.skip))) (.seq (.seq (.reg false [⟨some 57,none,⟨[],[]⟩,.fld (.t 3) 2⟩,
    ⟨some 58,none,⟨[],[]⟩,.ld false none 0 0 (.t 57)⟩,
    ⟨some 59,none,⟨[],[]⟩,.len (.t 58)⟩,
    ⟨some 60,none,⟨[],[]⟩,.mov (.k (.int .i64 0))⟩] [6,56,57] []) (.block 2 (.loop b5_2))) (r5_3))))) (r5_4))
def r5_5:IR :=
  .seq (.reg false [⟨some 101,none,⟨[],[]⟩,.ld false (some 3) 0 0 (.t 9)⟩,
    ⟨some 102,none,⟨[],[]⟩,.ld false (some 3) 0 0 (.t 3)⟩,
    ⟨some 103,none,⟨[],[]⟩,.call (some 4) 25 13 [.t 101,.t 102]⟩,
    ⟨some 104,none,⟨[],[]⟩,.mov (.t 103)⟩,
    ⟨some 105,some (104,true),⟨[],[]⟩,.call (some 4) 29 10 []⟩,
    ⟨some 106,none,⟨[],[]⟩,.pick (.t 104) (.t 105) (.k (.bool false))⟩,
    ⟨some 6,none,⟨[],[]⟩,.mov (.t 106)⟩] [1,2,3,7,9,10,101,102,103,104,105,106] []) (.ret)
def ir5:IR :=
  .seq (.reg false [⟨some 3,none,⟨[],[]⟩,.box 10 (.t 0)⟩,
    ⟨some 6,none,⟨[],[]⟩,.mov (.k (.bool false))⟩] [0,6] []) (.seq (.reg false [⟨some 16,none,⟨[],[]⟩,.ld false (some 3) 0 0 (.t 3)⟩,
    ⟨some 17,none,⟨[],[]⟩,.mov (.t 1)⟩,
    ⟨some 18,none,⟨[],[]⟩,.mov (.t 2)⟩,
    ⟨some 19,none,⟨[],[]⟩,.call (some 4) 11 14 [.t 16,.t 17,.t 18]⟩,
    ⟨some 15,none,⟨[],[]⟩,.mov (.t 19)⟩,
    ⟨some 20,none,⟨[],[]⟩,.ext (.t 15) 0⟩,
    ⟨some 21,none,⟨[],[]⟩,.ext (.t 15) 1⟩,
    ⟨some 7,none,⟨[],[]⟩,.mov (.t 20)⟩,
    ⟨some 8,none,⟨[],[]⟩,.mov (.t 21)⟩] [15,16,17,18,19,20,21] []) (.seq (.seq (.reg false [⟨some 22,none,⟨[],[]⟩,.mov (.t 8)⟩,
    ⟨some 23,none,⟨[],[]⟩,.bin 0 .neq (.t 22) (.k (.int .i64 0))⟩] [8,22] []) (.cond (.t 23) (.seq (.reg false [⟨some 24,none,⟨[],[]⟩,.call (some 4) 15 10 []⟩,
    ⟨some 6,none,⟨[],[]⟩,.mov (.t 24)⟩] [1,2,3,7,23,24] []) (.ret)) (.skip))) (.seq (.reg false [⟨some 9,none,⟨[],[]⟩,.alloc 19 [.int .i64 0,.int .i64 0,nilSV]⟩] [6,23] []) (.seq (.seq (.reg false [⟨some 10,none,⟨[],[]⟩,.mov (.k (.int .i64 0))⟩] [] []) (.block 0 (.loop b5_1))) (r5_5)))))
def kp5_2:List Nat:=[1,2,3,7,9,10,11,58,59,60]
def kl5_2:List Nat:=[]
attribute [push_cast] kp5_2 kl5_2
def kp5_1:List Nat:=[1,2,3,7,9,10]
def kl5_1:List Nat:=[20,21,22,23,24]
attribute [push_cast] kp5_1 kl5_1
set_option maxRecDepth 4000 in
theorem comp5:(Try.f5.body.bind fun c => compC tab isP chkAll ir5 c) = some ir5:=by kernel_rfl
def distF:EntryP
  | [.int .i64 a,.int .i64 b] => some (-1000000000≤a∧a≤1000000000∧-1000000000≤b∧b≤1000000000,.int .i64 (max (a - b) (b - a)))
  | _ => none
attribute [push_cast] distF
theorem p17:EntryPOk Try.prog 17 distF:=by
  refine ⟨⟨_,Try.func17,by kernel_rfl,by kernel_rfl⟩,fun us p v h hp => ?_⟩
  unfold distF at h
  split at h <;> cases h
  obtain ⟨h0,h1,h2,h3⟩:=hp
  refine tri_evS (hyp (l:=[]) (lp:=[]) trivial trivial) Try.func17 comp17 (rs:=[.tmp 4]) (by rfl) Try.ntmps17 10 ?_
  simp -implicitDefEqProofs only [push_cast,zz,BEq.rfl,ite_true,ite_false,List.append_nil,reduceCtorEq,Nat.reduceAdd,Nat.reduceSub,Nat.reduceMul,Nat.reduceLeDiff,Nat.reduceLT,Nat.reduceEqDiff,Nat.reduceBEq,Nat.reduceBNe,Int.reduceNeg,Int.reduceToNat,ir17]
  omega
theorem ctF_dist (k:Nat) (c:Int):max (c - ctF k c) (ctF k c - c) = max c (-c) - tv k c:=by
  have h1:ctF k c = if c < 0 then - tv k c else tv k c:=by unfold ctF tv; rw [Int.toNat_natCast]
  have hp:(0:Int) < 2 ^ k:=Int.pow_pos (by decide)
  have h2:tv k c≤max c (-c):=Int.ediv_mul_le _ (by omega)
  have h3:0≤tv k c:=Int.mul_nonneg (Int.ediv_nonneg (by omega) (by omega)) (by omega)
  rw [h1]
  split <;> omega
theorem tv_lt (k:Nat) (c:Int):max c (-c) - tv k c < 2 ^ k∧0≤tv k c∧tv k c≤max c (-c):=by
  have hp:(0:Int) < 2 ^ k:=Int.pow_pos (by decide)
  have h1:=Int.lt_ediv_add_one_mul_self (max c (-c)) hp
  have h2:tv k c≤max c (-c):=Int.ediv_mul_le _ (by omega)
  have h3:0≤tv k c:=Int.mul_nonneg (Int.ediv_nonneg (by omega) (by omega)) (by omega)
  refine ⟨?_,h3,h2⟩
  rw [Int.add_mul,Int.one_mul] at h1
  unfold tv
  omega
theorem tv_mono (k:Nat) (c:Int):tv (k + 1) c≤tv k c:=by
  obtain ⟨q,_,q2,q3⟩:=tv_q k c
  rw [q2,q3]
  have:q / 2 * 2 * 2 ^ k≤q * 2 ^ k:=Nat.mul_le_mul_right _ (by omega)
  omega
theorem ctF_bd (k:Nat) {c:Int} (h0:-16777216≤c) (h1:c≤16777216):-16777216≤ctF k c∧ctF k c≤16777216:=by
  have h:=tv_lt k c
  have h1:ctF k c = if c < 0 then - tv k c else tv k c:=by unfold ctF tv; rw [Int.toNat_natCast]
  rw [h1]
  split <;> omega
theorem ctF_0 (c:Int):ctF 0 c = c:=by
  have h1:ctF 0 c = if c < 0 then - tv 0 c else tv 0 c:=rfl
  have h2:tv 0 c = max c (-c):=by unfold tv; rw [show (2:Int) ^ 0 = 1 from rfl]; omega
  rw [h1,h2]
  split <;> omega
def lastP (p:Pl) (P k:Nat):Pl:=if k = 0 then pl0 else ctP p ((P:Int) - ((k:Int) - 1))
theorem rd_map {f:Int→Int} {xs:List Int} {i:Nat} (h:i < xs.length):rd (xs.map f) i = f (rd xs i):=by
  rw [rd_lt _ i (by simpa using h),rd_lt xs i h,List.getElem_map]
set_option maxHeartbeats 1000000 in
theorem tri5 (p:Pl) (hp:p.xs.length≤140737488355328) (lv kd:Int) (L:Xf.Loc):Tri Try.prog 5 [plV p L 0,.int .i64 lv,.int .i64 kd]
    [some (.ro,L,.ints .i64 p.xs)] (fun v _ => v = .bool true):=by
  obtain ⟨w,h,xs⟩:=p
  have hp:xs.length≤140737488355328:=hp
  change Tri Try.prog 5 [plV ⟨w,h,xs⟩ L 0,.int .i64 lv,.int .i64 kd] [some (.ro,L,.ints .i64 xs)] _
  refine tri_evS (hyp (l:=[(14,ent14),(11,ent11),(13,ent13),(10,ent10)]) (lp:=[(17,distF)]) ⟨e14,e11,e13,e10,trivial⟩ ⟨p17,trivial⟩) Try.func5 comp5 (rs:=[.tmp 6]) (by rfl) Try.ntmps5 33 ?_
  obtain ⟨E,hE⟩:∃ E,encE ⟨w,h,xs⟩ lv kd = E:=⟨_,rfl⟩
  by_cases hE0:E = 0
  · subst hE0
    obtain ⟨hok,hag⟩:=encE_0 hE
    have hlen:=encP_len hok hag
    have hwf:=encP_wf hok hag
    have htk:=fun {m:Nat} => encP_take (m:=m) hok hag
    have hpb:=planesP_bd hok.2.2
    have hall:=hok.2.2
    have hl8:=hok.len
    simp only at hlen htk hpb hall hl8
    obtain ⟨CS,hCS⟩:∃ c,encP ⟨w,h,xs⟩ lv kd = c:=⟨_,rfl⟩
    rw [hCS] at hlen
    simp only [hCS] at hwf htk
    obtain ⟨P,hPP⟩:∃ P:Nat,planesP xs = P:=⟨(planesP xs).toNat,by omega⟩
    simp only [hPP] at hlen hpb htk
    have hm:=fun f => byOf_map f CS
    have hml:=fun f => byL_len f CS
    have hmc:∀ f,((byL f CS).map byRc).length = CS.length:=fun f => by rw [List.length_map,byL_len]
    have hb64:=bits_i64
    have hct:∀ k:Nat,k≤P→ctP ⟨w,h,xs⟩ ((P:Int) - k) = ⟨w,h,xs.map (ctF ((P - k:Nat):Int))⟩:=fun k hk => by
      have e:((P - k:Nat):Int) = (P:Int) - k:=by omega
      rw [e]
      unfold ctP sgE
      rw [if_pos hok,if_pos (show tOk ((P:Int) - k) from ⟨by omega,by omega⟩),if_pos rfl]
    have hq0:=Pl.Eq.refl (⟨w,h,xs⟩:Pl)
    simp -implicitDefEqProofs only [push_cast,zz,BEq.rfl,ite_true,ite_false,List.append_nil,reduceCtorEq,Nat.reduceAdd,Nat.reduceSub,Nat.reduceMul,Nat.reduceLeDiff,Nat.reduceLT,Nat.reduceEqDiff,Nat.reduceBEq,Nat.reduceBNe,Int.reduceNeg,Int.reduceToNat,ir5,fs14,hp,hE,hok,hag,hlen,hCS,hm,lx]
    intro X X0 X1
    refine evS_loopU (A:=Nat × Xf.Loc) kp5_1 kl5_1 (fun y => [(10,.int .i64 y.1)]) (fun y => [(19,.mine,X1 0 19,.cells [.int .i64 (lastP ⟨w,h,xs⟩ P y.1).w,.int .i64 (lastP ⟨w,h,xs⟩ P y.1).h,.sl 15 y.2 1 0 (lastP ⟨w,h,xs⟩ P y.1).xs.length]),(15,.mine,y.2,.ints .i64 (lastP ⟨w,h,xs⟩ P y.1).xs)])
      (fun y => y.1≤P + 1) (fun y => P + 1 - y.1) (0,nilLoc) (Nat.zero_le _) (Sub.of (mkG 33 [(0,0),(10,10),(11,11),(19,19)]) ?_) ?_
    · have e0:lastP ⟨w,h,xs⟩ P 0 = pl0:=rfl
      simp -implicitDefEqProofs only [push_cast,zz,BEq.rfl,ite_true,ite_false,List.append_nil,reduceCtorEq,Nat.reduceAdd,Nat.reduceSub,Nat.reduceMul,Nat.reduceLeDiff,Nat.reduceLT,Nat.reduceEqDiff,Nat.reduceBEq,Nat.reduceBNe,Int.reduceNeg,Int.reduceToNat,e0,pl0,List.length_nil]
    intro ⟨k,M⟩ hk K hK
    have hk:k≤P + 1:=hk
    by_cases hk':k≤P
    · have hki:(k:Int)≤P:=by omega
      obtain ⟨t1,t2⟩:=htk (m:=k) (by omega)
      rw [hct k hk'] at t2
      have hc:∀ f L,(⟨w,h,lv,kd,P,L,byL f CS,k⟩:DcA).cs = CS.take k:=fun f L => by
        unfold DcA.cs
        simp only
        rw [List.map_take,byL_snd]
      have hkl:k≤CS.length:=by omega
      obtain ⟨C2,hC2⟩:∃ c,CS.take k = c:=⟨_,rfl⟩
      simp only [hC2] at t1 t2 hc
      have hnext:lastP ⟨w,h,xs⟩ P (k + 1) = ⟨w,h,xs.map (ctF ((P - k:Nat):Int))⟩:=by
        unfold lastP
        rw [if_neg (by omega),show ((k + 1:Nat):Int) - 1 = k by omega,hct k hk']
      have hprev:0 < k→lastP ⟨w,h,xs⟩ P k = ⟨w,h,xs.map (ctF ((P - k + 1:Nat):Int))⟩:=fun h0 => by
        unfold lastP
        rw [if_neg (by omega),show (P:Int) - ((k:Int) - 1) = (P:Int) - ((k - 1:Nat):Int) by omega,hct (k - 1) (by omega)]
        rw [show P - (k - 1) = P - k + 1 by omega]
      obtain ⟨LP,hLP⟩:∃ p,lastP ⟨w,h,xs⟩ P k = p:=⟨_,rfl⟩
      rw [hLP] at hprev
      have hXl:(xs.map (ctF ((P - k:Nat):Int))).length = xs.length:=List.length_map _
      have hXat:∀ i:Nat,i < xs.length→rd (xs.map (ctF ((P - k:Nat):Int))) i = ctF ((P - k:Nat):Int) (rd xs i):=fun i hi => rd_map hi
      obtain ⟨XX,hXX⟩:∃ x,xs.map (ctF ((P - k:Nat):Int)) = x:=⟨_,rfl⟩
      rw [hXX] at t2 hnext hXl
      simp only [hXX] at hXat
      obtain ⟨lw,lh,lxs⟩:=LP
      simp -implicitDefEqProofs only [push_cast,zz,BEq.rfl,ite_true,ite_false,List.append_nil,reduceCtorEq,Nat.reduceAdd,Nat.reduceSub,Nat.reduceMul,Nat.reduceLeDiff,Nat.reduceLT,Nat.reduceEqDiff,Nat.reduceBEq,Nat.reduceBNe,Int.reduceNeg,Int.reduceToNat,b5_1,hki,hLP,hlen,hml,hmc,fs11,lx,hwf,hc,hkl,t1,t2,hXl,Int.sub_zero,Int.toNat_natCast]
      intro X2
      repeat (refine And.intro (by first | omega | trivial | (intros; omega)) ?_)
      obtain ⟨d,hd⟩:∃ d,P - k = d:=⟨_,rfl⟩
      have hTk:((P:Int) - k).toNat = d:=by omega
      have hpw:=pw25 (t:=(d:Int)) (by omega) (by omega)
      rw [Int.toNat_natCast] at hpw
      obtain ⟨T,hT⟩:∃ T,(2:Int) ^ d = T:=⟨_,rfl⟩
      rw [hT] at hpw
      rw [hd] at hprev hXat
      refine evS_loopU (A:=Nat) kp5_2 kl5_2 (fun i => [(60,.int .i64 i)]) (fun _ => []) (fun i => i≤xs.length) (fun i => xs.length - i) 0 (Nat.zero_le _) (Sub.pt ?_) ?_
      · simp -implicitDefEqProofs only [push_cast,zz,BEq.rfl,ite_true,ite_false,List.append_nil,reduceCtorEq,Nat.reduceAdd,Nat.reduceSub,Nat.reduceMul,Nat.reduceLeDiff,Nat.reduceLT,Nat.reduceEqDiff,Nat.reduceBEq,Nat.reduceBNe,Int.reduceNeg,Int.reduceToNat]
      intro i hi K2 hK2
      have hi:i≤xs.length:=hi
      by_cases hi':i < xs.length
      · have hii:(i:Int) < xs.length:=by omega
        have hcb:=allIn_rd.1 hall i hi'
        have hxv:=hXat i hi'
        have hxb:=ctF_bd d hcb.1 hcb.2
        have hd1:=ctF_dist d (rd xs i)
        have hlt:=tv_lt d (rd xs i)
        have hlb:=ctF_bd (d + 1) hcb.1 hcb.2
        have hd2:=ctF_dist (d + 1) (rd xs i)
        have hmo:=tv_mono d (rd xs i)
        have hlv:0 < k→lxs.length = xs.length∧rd lxs i = ctF ((d + 1:Nat):Int) (rd xs i):=fun h0 => by
          have e:=hprev h0
          have e2:lxs = xs.map (ctF ((d + 1:Nat):Int)):=congrArg Pl.xs e
          rw [e2,List.length_map]
          exact ⟨rfl,rd_map hi'⟩
        obtain ⟨c,hc'⟩:∃ c,rd xs i = c:=⟨_,rfl⟩
        rw [hc'] at hcb hxv hxb hd1 hlt hlb hd2 hmo hlv
        obtain ⟨x,hx'⟩:∃ x,ctF (d:Int) c = x:=⟨_,rfl⟩
        rw [hx'] at hxv hxb hd1
        obtain ⟨l,hl'⟩:∃ l,ctF ((d + 1:Nat):Int) c = l:=⟨_,rfl⟩
        rw [hl'] at hlb hd2 hlv
        obtain ⟨D1,hD1⟩:∃ D,max (c - x) (x - c) = D:=⟨_,rfl⟩
        obtain ⟨D2,hD2⟩:∃ D,max (c - l) (l - c) = D:=⟨_,rfl⟩
        rw [hD1] at hd1
        rw [hD2] at hd2
        rw [hT] at hlt
        have g1:¬ T≤D1:=by omega
        have g2:¬ D2 < D1:=by omega
        have hK3:=hK2 (i + 1) (show i + 1≤xs.length by omega) (show xs.length - (i + 1) < xs.length - i by omega)
        clear hK hK2 hXat hprev
        by_cases hk0:0 < k
        · obtain ⟨m1,m2⟩:=hlv hk0
          have hki0:(0:Int) < k:=by omega
          clear hlv
          simp -implicitDefEqProofs only [push_cast,zz,BEq.rfl,ite_true,ite_false,List.append_nil,reduceCtorEq,Nat.reduceAdd,Nat.reduceSub,Nat.reduceMul,Nat.reduceLeDiff,Nat.reduceLT,Nat.reduceEqDiff,Nat.reduceBEq,Nat.reduceBNe,Int.reduceNeg,Int.reduceToNat,b5_2,hii,hc',hxv,hXl,m1,m2,hTk,Int.one_mul,hT,hD1,hD2,g1,g2,hki0]
          repeat (refine And.intro (by first | omega | trivial | (intros; omega)) ?_)
          refine hK3 _ _ (Sub.pt ?_)
          simp -implicitDefEqProofs only [push_cast,zz,BEq.rfl,ite_true,ite_false,List.append_nil,reduceCtorEq,Nat.reduceAdd,Nat.reduceSub,Nat.reduceMul,Nat.reduceLeDiff,Nat.reduceLT,Nat.reduceEqDiff,Nat.reduceBEq,Nat.reduceBNe,Int.reduceNeg,Int.reduceToNat,m1]
        · have hki0:¬ (0:Int) < k:=by omega
          clear hlv
          simp -implicitDefEqProofs only [push_cast,zz,BEq.rfl,ite_true,ite_false,List.append_nil,reduceCtorEq,Nat.reduceAdd,Nat.reduceSub,Nat.reduceMul,Nat.reduceLeDiff,Nat.reduceLT,Nat.reduceEqDiff,Nat.reduceBEq,Nat.reduceBNe,Int.reduceNeg,Int.reduceToNat,b5_2,hii,hc',hxv,hXl,hTk,Int.one_mul,hT,hD1,g1,hki0]
          repeat (refine And.intro (by first | omega | trivial | (intros; omega)) ?_)
          refine hK3 _ _ (Sub.pt ?_)
          simp -implicitDefEqProofs only [push_cast,zz,BEq.rfl,ite_true,ite_false,List.append_nil,reduceCtorEq,Nat.reduceAdd,Nat.reduceSub,Nat.reduceMul,Nat.reduceLeDiff,Nat.reduceLT,Nat.reduceEqDiff,Nat.reduceBEq,Nat.reduceBNe,Int.reduceNeg,Int.reduceToNat]
      · obtain rfl:i = xs.length:=by omega
        clear hK2
        simp -implicitDefEqProofs only [push_cast,zz,BEq.rfl,ite_true,ite_false,List.append_nil,reduceCtorEq,Nat.reduceAdd,Nat.reduceSub,Nat.reduceMul,Nat.reduceLeDiff,Nat.reduceLT,Nat.reduceEqDiff,Nat.reduceBEq,Nat.reduceBNe,Int.reduceNeg,Int.reduceToNat,b5_2,r5_3,r5_4,Int.lt_irrefl]
        repeat (refine And.intro (by first | omega | trivial | (intros; omega)) ?_)
        refine hK (k + 1,X2 11 20) (show k + 1≤P + 1 by omega) (show P + 1 - (k + 1) < P + 1 - k by omega) _ _ (Sub.of (mkG 33 [(0,0),(10,10),(11,11),(19,19),(15,20)]) ?_)
        simp -implicitDefEqProofs only [push_cast,zz,BEq.rfl,ite_true,ite_false,List.append_nil,reduceCtorEq,Nat.reduceAdd,Nat.reduceSub,Nat.reduceMul,Nat.reduceLeDiff,Nat.reduceLT,Nat.reduceEqDiff,Nat.reduceBEq,Nat.reduceBNe,Int.reduceNeg,Int.reduceToNat,hnext,hXl]
    · have hkP:k = P + 1:=by omega
      have hki:¬ (k:Int)≤P:=by omega
      have hlast:lastP ⟨w,h,xs⟩ P k = ⟨w,h,xs⟩:=by
        have:=hct P (Nat.le_refl P)
        unfold lastP
        rw [if_neg (by omega),hkP,show (P:Int) - (((P + 1:Nat):Int) - 1) = (P:Int) - P by omega,this,Nat.sub_self]
        congr 1
        rw [show (ctF ((0:Nat):Int)) = id from funext fun c => ctF_0 c,List.map_id]
      clear hK
      simp -implicitDefEqProofs only [push_cast,zz,BEq.rfl,ite_true,ite_false,List.append_nil,reduceCtorEq,Nat.reduceAdd,Nat.reduceSub,Nat.reduceMul,Nat.reduceLeDiff,Nat.reduceLT,Nat.reduceEqDiff,Nat.reduceBEq,Nat.reduceBNe,Int.reduceNeg,Int.reduceToNat,b5_1,hki,hlast,r5_5,fs13,fs10,hp,hq0]
  · have hP:=encE_n (p:=⟨w,h,xs⟩) (by rw [hE]; exact hE0)
    simp -implicitDefEqProofs only [push_cast,zz,BEq.rfl,ite_true,ite_false,List.append_nil,reduceCtorEq,Nat.reduceAdd,Nat.reduceSub,Nat.reduceMul,Nat.reduceLeDiff,Nat.reduceLT,Nat.reduceEqDiff,Nat.reduceBEq,Nat.reduceBNe,Int.reduceNeg,Int.reduceToNat,ir5,fs14,fs10,hp,hE,hP,hE0,List.length_nil]
end Go.Proofs.Ythicgkilfjjifaa
