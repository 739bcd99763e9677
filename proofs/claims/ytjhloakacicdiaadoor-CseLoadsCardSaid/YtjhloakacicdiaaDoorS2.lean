/-
  Walking through code with a list of known values and blocks;it holds of any program whose types are as told.
-/
import Derived.Below
import Derived.Deep.Slices
import Derived.Handed
import Derived.Laws.Small
import Derived.Test.YtjhloakacicdiaaDoorA1
import Derived.Test.YtjhloakacicdiaaDoorS1
import GoSem.ClaimChange
import GoSem.ClaimJoined
set_option linter.unusedVariables false
set_option linter.unusedSimpArgs false
namespace Go.AH
variable {P:Program}
def TE (P:Program) (g:FuncId) (B:Hp) (k0:Nat) (kp:List Nat) (args:(Nat→Nat)→List Value) (L:(Nat→Nat)→List (Nat × Option Blk)) (v:Value) (L':(Nat→Nat)→List (Nat × Option Blk)):Prop :=
 ∀ π,(⟨B,π,k0,L π⟩:SH).WF→∃ π',(⟨B,π',k0,L' π'⟩:SH).WF∧π k0≤π' k0∧(∀ i,i < k0→(i∈kp∧π' i=π i∧∃ b,lookB (L π) i=some b)∨(¬ i∈kp∧π k0≤π' i))∧TF P g ⟨args π⟩ (⟨B,π,k0,L π⟩:SH).den v (⟨B,π',k0,L' π'⟩:SH).den
def piE (π π':Nat→Nat) (k:Nat) (m:List Nat) (i:Nat):Nat:=if i < k then (match idx (fun j=>(nthL m j).getD 0) m.length i with|some j=>π' j|none=>π i) else π' m.length+(i - k)
def hidE (n0:Nat) (π:Nat→Nat) (k:Nat) (m:List Nat) (id:Nat):Bool:=if id < n0 then false else match idx π k id with|some a=>!memL a m|none=>false
section
variable {π π':Nat→Nat} {k:Nat} {m:List Nat}
theorem piE_own (hm:okM m k=true) {j a:Nat} (h:nthL m j=some a):piE π π' k m a=π' j:=by
 have hak:=okM_lt hm h
 have hj:=(nthL_mem h).2
 have:idx (fun j=>(nthL m j).getD 0) m.length ((fun j=>(nthL m j).getD 0) j)=some j:=idx_at (fun i i2 hi hi2 e=>by
  obtain ⟨b,hb⟩:=nthL_some hi
  obtain ⟨c,hc⟩:=nthL_some hi2
  simp only [hb,hc,Option.getD_some] at e
  subst e
  exact okM_inj hm hb hc) hj
 simp only [h,Option.getD_some] at this
 unfold piE
 rw [if_pos hak,this]
theorem piE_old {a:Nat} (hk:a < k) (h:¬ a∈m):piE π π' k m a=π a:=by
 unfold piE
 rw [if_pos hk,idx_none]
 intro i hi e
 obtain ⟨b,hb⟩:=nthL_some hi
 simp only [hb,Option.getD_some] at e
 exact h (e ▸ (nthL_mem hb).1)
theorem piE_new {i:Nat} (h:k≤i):piE π π' k m i=π' m.length+(i - k):=by unfold piE;rw [if_neg (by omega)]
theorem piE_reX {B:Hp} {l:List (Nat × Option Blk)} (w:(⟨B,π',m.length,l⟩:SH).WF) (hm:okM m k=true):reX (piE π π' k m) k m=π':=by
 funext i
 by_cases h:i < m.length
 ·obtain ⟨a,ha⟩:=nthL_some h
  rw [reX_some ha,piE_own hm ha]
 ·rw [reX_new (by omega),piE_new (by omega)]
  have:=w.mono (i - m.length)
  simp only at this
  rw [show m.length+(i - m.length)=i by omega] at this
  omega
end
section
variable {B:Hp} {π π':Nat→Nat} {k:Nat} {hl L L':List (Nat × Option Blk)} {m kp:List Nat} (w:(⟨B,π,k,hl⟩:SH).WF) (hm:okM m k=true) (hL:∀ i a,nthL m i=some a→lookB L i=lookB hl a)
include w hm
theorem hidE_before (hL:∀ i a,nthL m i=some a→lookB L i=lookB hl a):(⟨B,π,k,hl⟩:SH).den.hide (hidE B.n π k m)=(⟨B,reX π k m,m.length,L⟩:SH).den:=by
 have w2:=reX_wf w hm L 0
 refine Hp.eq (fun id=>?_) ?_
 ·simp only [Hp.hide,SH.den,hidE]
  by_cases hb:id < B.n
  ·simp [hb]
  ·simp only [hb,if_false]
   cases hx:idx (reX π k m) m.length id with
   | some i =>
    obtain ⟨h1,h2⟩:=idx_some hx
    obtain ⟨a,ha⟩:=nthL_some h1
    rw [reX_some ha] at h2
    subst h2
    rw [idx_at w.inj (okM_lt hm ha)]
    have:memL a m=true:=memL_iff.2 (nthL_mem ha).1
    simp only [this,Bool.not_true,Bool.false_eq_true,if_false,Option.bind_some]
    exact (hL i a ha).symm
   | none =>
    have hno:∀ i,i < m.length→reX π k m i≠id:=fun i hi e=>by
     have:=idx_at w2.inj (i:=i) (by simpa using hi)
     simp only [Nat.add_zero] at this
     rw [e] at this;rw [hx] at this;cases this
    cases hy:idx π k id with
    | none=>simp
    | some a =>
     obtain ⟨g1,g2⟩:=idx_some hy
     subst g2
     have hna:memL a m=false:=by
      cases hq:memL a m with
      | false=>rfl
      | true =>
       obtain ⟨i,hi⟩:=nthL_of_mem (memL_iff.1 hq)
       exact absurd (reX_some hi) (hno i (nthL_mem hi).2)
     simp [hna]
 ·show π k=reX π k m m.length
  rw [reX_new (Nat.le_refl _)];simp
variable (w':(⟨B,π',m.length,L'⟩:SH).WF) (hle:π k≤π' m.length) (hn:∀ i a,nthL m i=some a→π' i=π a∨π k≤π' i)
include w' hle hn
theorem piE_wf:(⟨B,piE π π' k m,k,ownO m L' 0++hl⟩:SH).WF:=by
 have hat:∀ {a},a∈m→∃ j,nthL m j=some a∧j < m.length:=fun h=>by obtain ⟨j,hj⟩:=nthL_of_mem h;exact ⟨j,hj,(nthL_mem hj).2⟩
 refine ⟨fun i hi=>?_,fun i hi=>?_,fun i hi=>?_,fun i j hi hj e=>?_,?_,w.bd,w.bo⟩
 ·simp only at hi ⊢
  rw [piE_new hi,piE_new (by omega)];omega
 ·simp only at hi ⊢
  by_cases h:i∈m
  ·obtain ⟨j,hj,hjl⟩:=hat h
   rw [piE_own hm hj];exact w'.lo j hjl
  ·rw [piE_old hi h];exact w.lo i hi
 ·simp only at hi ⊢
  rw [piE_new (Nat.le_refl k),Nat.sub_self,Nat.add_zero]
  by_cases h:i∈m
  ·obtain ⟨j,hj,hjl⟩:=hat h
   rw [piE_own hm hj];exact w'.hi j hjl
  ·rw [piE_old hi h];exact Nat.lt_of_lt_of_le (w.hi i hi) hle
 ·simp only at hi hj e
  have hcross:∀ {a b:Nat},a < k→b < k→a∈m→¬ b∈m→piE π π' k m a=piE π π' k m b→a=b:=by
   intro a b ha hb h1 h2 e
   obtain ⟨j,hj,hjl⟩:=hat h1
   rw [piE_own hm hj,piE_old hb h2] at e
   rcases hn j a hj with h3|h3
   ·rw [h3] at e;exact w.inj a b ha hb e
   ·have:=w.hi b hb;simp only at this;omega
  by_cases h1:i∈m<;>by_cases h2:j∈m
  ·obtain ⟨a,ha,hal⟩:=hat h1
   obtain ⟨b,hb,hbl⟩:=hat h2
   rw [piE_own hm ha,piE_own hm hb] at e
   have:=w'.inj a b hal hbl e
   subst this
   rw [ha] at hb;injection hb
  ·exact hcross hi hj h1 h2 e
  ·exact (hcross hj hi h2 h1 e.symm).symm
  ·rw [piE_old hi h1,piE_old hj h2] at e;exact w.inj i j hi hj e
 ·simp only;rw [piE_new (Nat.le_refl k)];have:=w'.bn;simp only at this;omega
theorem hidE_after:(⟨B,piE π π' k m,k,ownO m L' 0++hl⟩:SH).den.hide (hidE B.n π k m)=(⟨B,π',m.length,L'⟩:SH).den:=by
 have w2:=piE_wf w hm w' hle hn
 have hdis:distinctB m=true:=by unfold okM at hm;rw [Bool.and_eq_true] at hm;exact hm.1
 refine Hp.eq (fun id=>?_) ?_
 ·simp only [Hp.hide,SH.den,hidE]
  by_cases hb:id < B.n
  ·simp [hb]
  ·simp only [hb,if_false]
   cases hx:idx π' m.length id with
   | some j =>
    obtain ⟨h1,h2⟩:=idx_some hx
    obtain ⟨a,ha⟩:=nthL_some h1
    have hak:=okM_lt hm ha
    have e1:idx (piE π π' k m) k id=some a:=by
     have:=idx_at w2.inj (i:=a) hak
     simp only at this
     rw [piE_own hm ha,h2] at this;exact this
    have e2:(match idx π k id with|some a=>!memL a m|none=>false)=false:=by
     cases hy:idx π k id with
     | none=>rfl
     | some a' =>
      obtain ⟨g1,g2⟩:=idx_some hy
      have:a'=a:=by
       rcases hn j a ha with h3|h3
       ·exact w.inj a' a g1 hak (by simp only;rw [g2,← h2,h3])
       ·have:=w.hi a' g1;simp only at this;omega
      subst this
      simp [memL_iff.2 (nthL_mem ha).1]
    rw [e1,e2]
    simp only [Bool.false_eq_true,if_false,Option.bind_some]
    have:=ownO_look (L:=L') (l:=hl) (i:=0) hdis ha
    rw [Nat.zero_add] at this;exact this
   | none =>
    cases hy:idx (piE π π' k m) k id with
    | none=>simp
    | some a =>
     obtain ⟨g1,g2⟩:=idx_some hy
     by_cases ham:a∈m
     ·exfalso
      obtain ⟨j,hj⟩:=nthL_of_mem ham
      rw [piE_own hm hj] at g2
      have:=idx_at w'.inj (i:=j) (nthL_mem hj).2
      simp only at this
      rw [g2,hx] at this;cases this
     ·rw [piE_old g1 ham] at g2
      have:=idx_at w.inj (i:=a) g1
      simp only at this
      rw [g2] at this
      rw [this]
      have hna:memL a m=false:=by
       cases hq:memL a m with
       | false=>rfl
       | true=>exact absurd (memL_iff.1 hq) ham
      simp [hna]
 ·show piE π π' k m k=π' m.length
  rw [piE_new (Nat.le_refl k)];simp
theorem hidE_frame {id:Nat} (h:hidE B.n π k m id=true):(⟨B,piE π π' k m,k,ownO m L' 0++hl⟩:SH).den.m id=(⟨B,π,k,hl⟩:SH).den.m id:=by
 have w2:=piE_wf w hm w' hle hn
 unfold hidE at h
 split at h
 ·cases h
 ·split at h
  ·rename_i hb a ha
   obtain ⟨g1,g2⟩:=idx_some ha
   have hna:¬ a∈m:=fun hc=>by rw [memL_iff.2 hc] at h;cases h
   have e1:=SH.m_loc w (i:=a) g1
   have e2:=SH.m_loc w2 (i:=a) g1
   simp only at e1 e2
   rw [piE_old g1 hna] at e2
   rw [g2] at e1 e2
   rw [e1,e2,look_append_none fun p hp e=>hna (by rw [← e];exact ownO_mem hp)]
  ·cases h
theorem hidE_fresh (hL:∀ i a,nthL m i=some a→lookB L i=lookB hl a) (hf:∀ i a,nthL m i=some a→(∃ b,lookB L i=some b)∨π k≤π' i) {id:Nat} (hid:id < π k) (hno:(⟨B,π,k,hl⟩:SH).den.m id=none):(⟨B,piE π π' k m,k,ownO m L' 0++hl⟩:SH).den.m id=none:=by
 have w2:=piE_wf w hm w' hle hn
 have hx:=hno
 simp only [SH.den] at hno ⊢
 by_cases h0:id < B.n
 ·rw [if_pos h0] at hno ⊢;exact hno
 ·rw [if_neg h0] at hno ⊢
  cases hi:idx (piE π π' k m) k id with
  | none=>rfl
  | some a =>
   obtain ⟨g1,g2⟩:=idx_some hi
   by_cases ham:a∈m
   ·obtain ⟨j,hj⟩:=nthL_of_mem ham
    rw [piE_own hm hj] at g2
    rcases hf j a hj with ⟨b,hb⟩|h3
    ·rcases hn j a hj with h4|h4
     ·have:=SH.m_loc w (i:=a) g1
      simp only at this
      rw [← h4,g2,hx,← hL j a hj,hb] at this;cases this
     ·omega
    ·omega
   ·rw [piE_old g1 ham] at g2
    have:=SH.m_loc w (i:=a) g1
    simp only at this
    rw [g2,hx] at this
    simp only [Option.bind_some]
    rw [look_append_none fun p hp e=>ham (by rw [← e];exact ownO_mem hp)]
    exact this.symm
end
section
variable {ops:Array Oper} {rs:List Rk} {l:List Oper} {fl:List (Nat × Value)} {nt:Nat} {B:Hp} {π:Nat→Nat} {k:Nat} {hl:List (Nat × Option Blk)} {K:Fr→SH→Prop} {d:Tmp} {ty:TypeId} {pos:String} {af:Array Edge} {gd:Option (Nat × Bool)}
theorem RS.callE {g0:FuncId} {xs:Array Operand} {ts:Array TypeId} (m kp:List Nat) {args:(Nat→Nat)→List Value} {L L':(Nat→Nat)→List (Nat × Option Blk)} {v:Value} [hg:GF P g0]
 (hw:wantB ops ⟨some d,.call { callee:=.value (.func g0),args:=xs,argTypes:=ts },ty,pos,af,gd⟩ ⟨fl,nt⟩=some true) (hd:Nat.blt d nt=true) (ht:TE P g0 B m.length kp args L v L')
 (hx:evAll fl nt xs.toList=some (args (reX π k m))) (hm:okM m k=true) (hL:MatchL (L (reX π k m)) hl m 0)
 (hk:∀ π2:Nat→Nat,(∀ i,i < k→(∀ j,nthL m j=some i→j∈kp)→π2 i=π i)→RS P ops false (recP k false [] none::rs) l ⟨(d,v)::fl,nt⟩ ⟨B,π2,k,ownO m (L' (reX π2 k m)) 0++hl⟩ K):RS P ops false rs (⟨some d,.call { callee:=.value (.func g0),args:=xs,argTypes:=ts },ty,pos,af,gd⟩::l) ⟨fl,nt⟩ ⟨B,π,k,hl⟩ K:=by
 intro ys a0 h0 a p
 have w:=p.wf
 obtain ⟨π',w',hle,hnm,htf⟩:=ht (reX π k m) (reX_wf w hm _ 0)
 rw [show reX π k m m.length=π k by rw [reX_new (Nat.le_refl _)];simp] at hle hnm
 have hml:∀ i a,nthL m i=some a→lookB (L (reX π k m)) i=lookB hl a:=fun i a h=>by have:=hL.get h;rw [Nat.zero_add] at this;exact this
 have hn:∀ i a,nthL m i=some a→π' i=π a∨π k≤π' i:=fun i a h=>by
  rcases hnm i (nthL_mem h).2 with ⟨_,h1,_⟩|⟨_,h1⟩
  ·rw [reX_some h] at h1;exact .inl h1
  ·exact .inr h1
 have hf:∀ i a,nthL m i=some a→(∃ b,lookB (L (reX π k m)) i=some b)∨π k≤π' i:=fun i a h=>by
  rcases hnm i (nthL_mem h).2 with ⟨_,_,h1⟩|⟨_,h1⟩
  ·exact .inl h1
  ·exact .inr h1
 have w2:=piE_wf w hm w' hle hn
 have hre:=piE_reX (π:=π) w' hm
 let o:Oper:=⟨some d,.call { callee:=.value (.func g0),args:=xs,argTypes:=ts },ty,pos,af,gd⟩
 have hso:ops[ys.length]?=some o:=by
  rw [← Array.getElem?_toList,← p.os,List.getElem?_append_right (by simp)];simp [o]
 have hopk:=okOpsB_ok p.oks hso
 have htx0:TX P o a.eval (⟨B,reX π k m,m.length,L (reX π k m)⟩:SH).den v (⟨B,π',m.length,L' π'⟩:SH).den:=tx_call p.agr hx htf
 have htx:TX P o a.eval ((⟨B,π,k,hl⟩:SH).den.hide (hidE B.n π k m)) v ((⟨B,piE π π' k m,k,ownO m (L' π') 0++hl⟩:SH).den.hide (hidE B.n π k m)):=by
  rw [hidE_before w hm hml,hidE_after w hm w' hle hn];exact htx0
 have hfr:TX P o a.eval (⟨B,π,k,hl⟩:SH).den v (⟨B,piE π π' k m,k,ownO m (L' π') 0++hl⟩:SH).den:=htx.frame _ fun i hi=>hidE_frame w hm w' hle hn hi
 obtain ⟨s1,s2⟩:=TX.sat hfr hopk p.sat p.bnd
 have hmono:(⟨B,π,k,hl⟩:SH).den.n≤(⟨B,piE π π' k m,k,ownO m (L' π') 0++hl⟩:SH).den.n:=by
  show π k≤piE π π' k m k
  rw [piE_new (Nat.le_refl k)];omega
 have hput:Agr ((⟨fl,nt⟩:Fr).put o.dst v) (a.put o.dst v):=p.agr.put (show okDst nt o.dst=true from hd) v
 let x:Inf:={ o:=o,a:=a,h:=(⟨B,π,k,hl⟩:SH).den,v:=v,h':=(⟨B,piE π π' k m,k,ownO m (L' π') 0++hl⟩:SH).den,hid:=hidE B.n π k m,eff:=fun id=>!hidE B.n π k m id }
 have hk':=hk (piE π π' k m) fun i hi hj=>by
  by_cases him:i∈m
  ·obtain ⟨j,hjm⟩:=nthL_of_mem him
   rw [piE_own hm hjm]
   rcases hnm j (nthL_mem hjm).2 with ⟨_,h1,_⟩|⟨h1,_⟩
   ·rw [reX_some hjm] at h1;exact h1
   ·exact absurd (hj j hjm) h1
  ·exact piE_old hi him
 rw [hre] at hk'
 refine hk' (ys++[x]) a0 h0 (a.put o.dst v) ⟨chain_snoc p.chain rfl rfl,?_,?_,?_,?_,w2,s1,put_bnd (bndA_mono hmono p.bnd) _ s2,hput,p.oks⟩
 ·rw [List.map_append,List.append_assoc];exact p.os
 ·intro y hy
  rcases List.mem_append.1 hy with h2|h2
  ·exact p.ok y h2
  ·simp only [List.mem_singleton] at h2
   subst h2
   refine ⟨.inr ⟨wantB_ok p.agr hw,hopk,htx⟩,hmono,fun id hid hno=>hidE_fresh w hm w' hle hn hml hf hid hno,fun id he=>hidE_frame w hm w' hle hn ?_,fun id he=>?_⟩
   ·simpa [x] using he
   ·simpa [x] using he
 ·simp [p.len]
 ·intro hc;cases hc
end
def EqK (f g:Nat→Nat):List Nat→Prop
 | []=>True
 | i::l=>f i=g i∧EqK f g l
theorem EqK.get {f g:Nat→Nat}:∀ {l:List Nat} {i:Nat},EqK f g l→i∈l→f i=g i:=by
 intro l
 induction l with
 | nil=>intro i _ h;cases h
 | cons a l ih =>
  intro i h hi
  rcases List.mem_cons.1 hi with rfl|hi
  ·exact h.1
  ·exact ih h.2 hi
def HasK (L:List (Nat × Option Blk)):List Nat→Prop
 | []=>True
 | i::l=>(∃ b,lookB L i=some b)∧HasK L l
theorem HasK.get {L:List (Nat × Option Blk)}:∀ {l:List Nat} {i:Nat},HasK L l→i∈l→∃ b,lookB L i=some b:=by
 intro l
 induction l with
 | nil=>intro i _ h;cases h
 | cons a l ih =>
  intro i h hi
  rcases List.mem_cons.1 hi with rfl|hi
  ·exact h.1
  ·exact ih h.2 hi
def AtE (B:Hp) (π:Nat→Nat) (k0:Nat) (kp:List Nat) (L':(Nat→Nat)→List (Nat × Option Blk)) (v:Value) (vs:List Value) (h':SH):Prop :=
 ∃ m:List Nat,m.length=k0∧okM m h'.k=true∧h'.base=B∧EqK (reX h'.π h'.k m) π kp∧MatchL (L' (reX h'.π h'.k m)) h'.l m 0∧resultOf vs=v
theorem AtE.mk {B:Hp} {π:Nat→Nat} {k0:Nat} {kp:List Nat} {L':(Nat→Nat)→List (Nat × Option Blk)} {v:Value} {vs:List Value} {h':SH} (m:List Nat) (h1:m.length=k0) (h2:okM m h'.k=true) (h3:h'.base=B) (h4:EqK (reX h'.π h'.k m) π kp) (h5:MatchL (L' (reX h'.π h'.k m)) h'.l m 0) (h6:resultOf vs=v):AtE B π k0 kp L' v vs h':=⟨m,h1,h2,h3,h4,h5,h6⟩
def piK (π:Nat→Nat) (k0:Nat) (kp:List Nat) (N:Nat) (i:Nat):Nat:=if memL i kp=true∧i < k0 then π i else N+i
theorem piK_kp {π:Nat→Nat} {k0 N i:Nat} {kp:List Nat} (h:i∈kp) (hi:i < k0):piK π k0 kp N i=π i:=by unfold piK;rw [if_pos ⟨memL_iff.2 h,hi⟩]
theorem piK_no {π:Nat→Nat} {k0 N i:Nat} {kp:List Nat} (h:¬ i∈kp):piK π k0 kp N i=N+i:=by unfold piK;rw [if_neg (fun hc=>h (memL_iff.1 hc.1))]
theorem piK_up {π:Nat→Nat} {k0 N i:Nat} {kp:List Nat} (h:k0≤i):piK π k0 kp N i=N+i:=by unfold piK;rw [if_neg (fun hc=>by omega)]
theorem piK_wf {B:Hp} {π:Nat→Nat} {k0 N:Nat} {kp:List Nat} {l:List (Nat × Option Blk)} (w:(⟨B,π,k0,l⟩:SH).WF) (hN:π k0≤N) (l2:List (Nat × Option Blk)):(⟨B,piK π k0 kp N,k0,l2⟩:SH).WF:=by
 have hbn:=w.bn
 simp only at hbn
 refine ⟨fun i hi=>?_,fun i hi=>?_,fun i hi=>?_,fun i j hi hj e=>?_,?_,w.bd,w.bo⟩
 ·simp only at hi ⊢;rw [piK_up hi,piK_up (by omega)];omega
 ·simp only at hi ⊢
  by_cases h:i∈kp
  ·rw [piK_kp h hi];exact w.lo i hi
  ·rw [piK_no h];omega
 ·simp only at hi ⊢
  rw [piK_up (Nat.le_refl k0)]
  by_cases h:i∈kp
  ·rw [piK_kp h hi];have:=w.hi i hi;simp only at this;omega
  ·rw [piK_no h];omega
 ·simp only at hi hj e
  have h1:=w.hi i hi
  have h2:=w.hi j hj
  simp only at h1 h2
  by_cases h:i∈kp<;>by_cases g:j∈kp
  ·rw [piK_kp h hi,piK_kp g hj] at e;exact w.inj i j hi hj e
  ·rw [piK_kp h hi,piK_no g] at e;omega
  ·rw [piK_no h,piK_kp g hj] at e;omega
  ·rw [piK_no h,piK_no g] at e;omega
 ·simp only;rw [piK_up (Nat.le_refl k0)];omega
theorem TE.intro {g:FuncId} {fn:Func} {c:Code} {nt:Nat} {B:Hp} {k0:Nat} {kp:List Nat} {args:(Nat→Nat)→List Value} {L L':(Nat→Nat)→List (Nat × Option Blk)} {v:Value} (hf:P.funcs[g]?=some fn) (hb:fn.body=some c) (hnt:fn.ntmps=nt) (hna:∀ π,Nat.ble (args π).length nt=true)
 (hhas:∀ π,HasK (L π) kp) (par:ParL B.n k0 L' k0) (hv:bnd 0 v) (hw:∀ π,W P c ⟨enterL 0 (args π),nt⟩ ⟨B,π,k0,L π⟩ (endsK P fn (AtE B π k0 kp L' v))):TE P g B k0 kp args L v L':=by
 subst hnt
 intro π w
 have hnm:∀ N,π k0≤N→∀ i,i < k0→(i∈kp∧piK π k0 kp N i=π i∧∃ b,lookB (L π) i=some b)∨(¬ i∈kp∧π k0≤piK π k0 kp N i):=fun N hN i hi=>by
  by_cases h:i∈kp
  ·exact .inl ⟨h,piK_kp h hi,(hhas π).get h⟩
  ·exact .inr ⟨h,by rw [piK_no h];omega⟩
 have hbk:B.n≤π k0:=w.bn
 by_cases hs:Sat P (⟨B,π,k0,L π⟩:SH).den∧bndA (⟨B,π,k0,L π⟩:SH).den.n (enterAct fn ⟨args π⟩)
 ·obtain ⟨hs1,hs2⟩:=hs
  obtain ⟨e,f',h',a',k1,w1,s1,b1,g1,t1⟩:=hw π (enterAct fn ⟨args π⟩) w hs1 hs2 (enter_agr (ble_iff.1 (hna π)))
  have fin:∀ vs,(e=.ret∨e=.normal)→ResVs P f'.l h' fn.results.toList vs→AtE B π k0 kp L' v vs h'→∃ π',(⟨B,π',k0,L' π'⟩:SH).WF∧π k0≤π' k0∧(∀ i,i < k0→(i∈kp∧π' i=π i∧∃ b,lookB (L π) i=some b)∨(¬ i∈kp∧π k0≤π' i))∧TF P g ⟨args π⟩ (⟨B,π,k0,L π⟩:SH).den v (⟨B,π',k0,L' π'⟩:SH).den:=by
   intro vs he hr ⟨m,hml,hmk,hbase,heq,hmat,hres⟩
   obtain ⟨B',π',k',l'⟩:=h'
   simp only at hmk hbase heq hmat hres
   subst hbase
   have hbN:B'.n≤π' k':=w1.bn
   let N:=π' k'+π k0
   let q:=piK π k0 kp N
   have hN:π k0≤N:=Nat.le_add_left _ _
   have wq:(⟨B',q,k0,L' q⟩:SH).WF:=piK_wf w hN _
   have hqk:q k0=N+k0:=piK_up (Nat.le_refl k0)
   refine ⟨q,wq,by rw [hqk];omega,hnm N hN,?_⟩
   have wx:=reX_wf w1 hmk (L' (reX π' k' m)) 0
   simp only [Nat.add_zero] at wx
   have hat:∀ j,j < k0→∃ a,nthL m j=some a∧a < k'∧reX π' k' m j=π' a:=fun j hj=>by
    obtain ⟨a,ha⟩:=nthL_some (show j < m.length by omega)
    exact ⟨a,ha,okM_lt hmk ha,reX_some ha⟩
   have hbv:∀ n,bnd n v:=fun n=>bnd_mono (Nat.zero_le n) v hv
   have hsv:∀ τ,sub τ v=v:=fun τ=>sub_same (n:=0) (fun i hi=>by omega) v hv
   have ht1:TF P g ⟨args π⟩ (⟨B',π,k0,L π⟩:SH).den (resultOf vs) (⟨B',π',k',l'⟩:SH).den:=TF.intro hf hb he t1 g1.defers (fun _ _=>by rw [hres];exact hbv _) (hr.is w1 g1)
   let τ:Nat→Nat:=fun id=>if id < N then id else reX π' k' m (id - N)
   have hτ:∀ i,i < N→τ i=i:=fun i hi=>by show (if _ then _ else _)=_;rw [if_pos hi]
   have hfun:(fun j=>τ (q j))=reX π' k' m:=by
    funext j
    by_cases hj:j∈kp∧j < k0
    ·have h1:q j=π j:=piK_kp hj.1 hj.2
     have:=w.hi j hj.2
     simp only at this
     show τ (q j)=_
     rw [h1,hτ _ (by omega)];exact (heq.get hj.1).symm
    ·have h1:q j=N+j:=by
      by_cases h2:j < k0
      ·exact piK_no (fun hc=>hj ⟨hc,h2⟩)
      ·exact piK_up (by omega)
     show (if _ then _ else _)=_
     rw [h1,if_neg (by omega)];congr 1;omega
   have hτB:∀ i,i < B'.n→τ i=i:=fun i hi=>hτ i (by omega)
   have hn2:(⟨B',q,k0,L' q⟩:SH).den.n=N+k0:=hqk
   have hn0:(⟨B',π,k0,L π⟩:SH).den.n=π k0:=rfl
   have hcase:∀ i b,(⟨B',q,k0,L' q⟩:SH).den.m i=some b→(i < B'.n∧B'.m i=some b)∨∃ j,j < k0∧q j=i∧lookB (L' q) j=some b:=by
    intro i b hib
    simp only [SH.den] at hib
    by_cases h0:i < B'.n
    ·rw [if_pos h0] at hib;exact .inl ⟨h0,hib⟩
    ·rw [if_neg h0] at hib
     cases hi:idx q k0 i with
     | none=>rw [hi] at hib;cases hib
     | some j =>
      rw [hi] at hib
      obtain ⟨q1,q2⟩:=idx_some hi
      exact .inr ⟨j,q1,q2,hib⟩
   have hup:∀ j,j < k0→q j < N+k0:=fun j hj=>by have:=wq.hi j hj;simp only at this;rw [hqk] at this;exact this
   refine TF.leaveN ht1 (by rw [hn0,hn2];omega) (fun i hi=>hτ i (by rw [hn0] at hi;omega)) (fun i b hib=>?_) (fun i b hib u hu=>?_) (hbv _) (fun i b hib=>?_) (fun i b hib hi0 hr0=>?_) (fun i j b c hib hjc e=>?_) (by rw [hres,hsv])
   ·rw [hn2]
    rcases hcase i b hib with ⟨h0,_⟩|⟨j,hj,rfl,_⟩
    ·omega
    ·exact hup j hj
   ·rw [hn2]
    rcases hcase i b hib with ⟨h0,hB⟩|⟨j,hj,rfl,hl⟩
    ·obtain ⟨ρ,W,hok⟩:=hs1
     have:=hok.bd i b (SH.m_base w hB) u hu
     exact bnd_mono (by rw [hn0];omega) u this
    ·exact (par.get hj).2 q _ b (by omega) hup hl u hu
   ·rcases hcase i b hib with ⟨h0,hB⟩|⟨j,hj,rfl,hl⟩
    ·rw [hτB i h0]
     have h1:(⟨B',π',k',l'⟩:SH).den.m i=some b:=SH.m_base w1 hB
     rw [h1]
     have:subB τ b=b:=by
      unfold subB
      obtain ⟨ρ,W,hok⟩:=hs1
      have hc:b.cells.map (sub τ)=b.cells:=by
       conv=>rhs;rw [← Array.map_id b.cells]
       exact Array.map_congr_left fun u hu=>sub_same (n:=π k0) (fun i hi=>hτ i (by omega)) u (hok.bd i b (SH.m_base w hB) u hu)
      rw [hc]
     rw [this]
    ·obtain ⟨a,h1,h2,h3⟩:=hat j hj
     have e1:τ (q j)=π' a:=by have:=congrFun hfun j;rw [← h3,← this]
     rw [e1]
     have h4:(⟨B',π',k',l'⟩:SH).den.m (π' a)=lookB l' a:=SH.m_loc w1 h2
     rw [h4]
     have h5:=hmat.get h1
     rw [Nat.zero_add] at h5
     rw [← h5]
     have h6:=(par.get hj).1 τ q hτB
     simp only [hl,Option.map_some] at h6
     rw [h6,hfun]
   ·rcases hcase i b hib with ⟨h0,_⟩|⟨j,hj,rfl,hl⟩
    ·have:=w.bn;rw [hn0] at hi0;simp only at this;omega
    ·have e1:=congrFun hfun j
     rw [e1];exact Nat.le_trans w1.bo (wx.lo j (by simp only;omega))
   ·rcases hcase i b hib with ⟨h0,_⟩|⟨p,hp,rfl,_⟩<;>rcases hcase j c hjc with ⟨g0,_⟩|⟨r,hr,rfl,_⟩
    ·rw [hτB i h0,hτB j g0] at e;exact e
    ·exfalso
     have e1:=congrFun hfun r
     rw [hτB i h0,e1] at e
     have:=wx.lo r (by simp only;omega)
     simp only at this;omega
    ·exfalso
     have e1:=congrFun hfun p
     rw [hτB j g0,e1] at e
     have:=wx.lo p (by simp only;omega)
     simp only at this;omega
    ·have e1:=congrFun hfun p
     have e2:=congrFun hfun r
     rw [e1,e2] at e
     rw [wx.inj p r (by simp only;omega) (by simp only;omega) e]
  cases e with
  | ret=>obtain ⟨vs,h1,h2⟩:=k1;exact fin vs (.inl rfl) h1 h2
  | normal=>obtain ⟨vs,h1,h2⟩:=k1;exact fin vs (.inr rfl) h1 h2
  | _=>exact k1.elim
 ·refine ⟨piK π k0 kp (π k0),piK_wf w (Nat.le_refl _) _,by rw [piK_up (Nat.le_refl k0)];omega,hnm _ (Nat.le_refl _),?_⟩
  intro ha ρ W hok
  exact absurd ⟨⟨ρ,W,hok⟩,enterAct_bnd ha⟩ hs
end Go.AH
namespace Go.AH
variable {P:Program}
def rowC {α:Type} (w:α→List Value):List α→List Value
 | []=>[]
 | a::l=>rowC w l++w a
def rowBk {α:Type} (w:α→List Value) (e:TypeId):List α→Option Blk
 | []=>none
 | a::l=>some ⟨⟨rowC w l++w a⟩,e⟩
def rowVl {α:Type} (sz a:Nat):List α→Value
 | []=>.slice none 0 0
 | _::l=>.slice (some ⟨a,0,none⟩) (l.length+1) (capOf sz)
theorem rowC_len {α:Type} {w:α→List Value} {sz:Nat} (hw:∀ a,(w a).length=sz):∀ l:List α,(rowC w l).length=l.length * sz:=by
 intro l
 induction l with
 | nil=>simp [rowC]
 | cons a l ih=>rw [rowC,List.length_append,ih,hw,List.length_cons,Nat.succ_mul]
theorem kill_none {H:Hp} {i:Nat} (h:H.m i=none):H.kill i=H:=by
 refine Hp.eq (fun id=>?_) rfl
 show (if id=i then none else H.m id)=H.m id
 split
 ·rename_i e;rw [e,h]
 ·rfl
section
variable {ops:Array Oper} {draw:Bool} {rs:List Rk} {l:List Oper} {fl:List (Nat × Value)} {nt:Nat} {B:Hp} {π:Nat→Nat} {k:Nat} {hl:List (Nat × Option Blk)} {K:Fr→SH→Prop} {d:Tmp} {ty:TypeId} {pos:String} {af:Array Edge} {gd:Option (Nat × Bool)}
theorem RS.appendRow {α:Type} {w:α→List Value} {l0:List α} {q:α} {t e:TypeId} {x y:Operand} {i j off c sz by':Nat} {ds:List Value} {z:Value} {e2:TypeId} [hu:TyU P t (.slice e)] [hs:TySz P e sz] [hb:TyBy P e by'] [hz:TyZ P e z] (hw:wantB ops ⟨some d,.call { callee:=.builtin .append,args:=#[x,y],argTypes:=#[t,t] },ty,pos,af,gd⟩ ⟨fl,nt⟩=some true) (hd:Nat.blt d nt=true)
 (hx:Fr.ev ⟨fl,nt⟩ x=some (rowVl sz (π j) l0)) (hy:Fr.ev ⟨fl,nt⟩ y=some (.slice (some ⟨π i,off,none⟩) 1 c)) (hl0:Nat.beq (cellsV z).length sz=true) (hp0:Nat.blt 0 sz=true) (hjk:Nat.blt j k=true) (hbj:lookB hl j=rowBk w e l0)
 (hik:Nat.blt i k=true) (hbi:lookB hl i=some ⟨⟨ds⟩,e2⟩) (hds:takeV off (1 * sz) ds=w q) (hn:off+1 * sz≤ds.length) (hww:∀ a,(w a).length=sz) (hone:(w q).all (·.oneCell')=true) (hbig:(l0.length+1) * by'≤140737488355328) (h63:l0.length+1≤9223372036854775807)
 (hk:RS P ops draw (recG k false [i] j (some [k]) none::rs) l ⟨(d,rowVl sz (π k) (q::l0))::fl,nt⟩ ⟨B,π,k+1,(k,rowBk w e (q::l0))::(j,none)::hl⟩ K):RS P ops draw rs (⟨some d,.call { callee:=.builtin .append,args:=#[x,y],argTypes:=#[t,t] },ty,pos,af,gd⟩::l) ⟨fl,nt⟩ ⟨B,π,k,hl⟩ K:=by
 cases l0 with
 | cons q0 l1 =>
  have hcs:(rowC w l1++w q0).length=(l1.length+1) * sz:=by have:=rowC_len hww (q0::l1);exact this
  refine RS.appendGrow (i:=i) (j:=j) (off:=off) (len:=l1.length+1) (n:=1) (cs:=rowC w l1++w q0) (ds:=ds) hw hd hx hy hl0 hp0 hjk hbj hcs hik hbi hn (by rw [hds];exact hone) (by simpa using hbig) (by simpa using h63) ?_
  rw [hds];exact hk
 | nil =>
  have h1:=hz.eq
  have hsz:=hs.eq
  have hby:=hb.eq
  cases hi:P.info? e with
  | none=>rw [hi] at h1;cases h1
  | some ti =>
   rw [hi] at h1 hsz hby
   have h2:ti.zero=some z:=h1
   have h3:ti.size=sz:=by simpa using hsz
   have h4:ti.bytes=by':=by simpa using hby
   subst h3;subst h4
   have hzf:=freeB_bnd hz.fr
   have hl1:(cellsV z).length=ti.size:=Nat.eq_of_beq_eq_true hl0
   refine RS.step hw hd (One.grow (h:=⟨B,π,k,hl⟩) (vb:=false) (vl:=[i]) (b:=⟨⟨rowC w []++w q⟩,e⟩) (cn:=none) hjk (fun a g H hs=>?_) ?_ fun u hu=>trivial) hk
   ·have hm:H.m (π i)=some ⟨⟨ds⟩,e2⟩:=by have:=hs.l i (memL_iff.2 (by simp)) (blt_iff.1 hik);rw [this];exact hbi
    have hmj:H.m (π j)=none:=by have:=hs.l j (memL_iff.2 (by simp)) (blt_iff.1 hjk);rw [this];exact hbj
    have hsrc:srcCells H ti.size 1 (a.eval y)=some ⟨takeV off (1 * ti.size) ds⟩:=by
     rw [g.ev hy]
     simp only [srcCells,hm]
     rw [if_pos ⟨trivial,by simpa using hn⟩]
     congr 1
     apply Array.ext'
     rw [takeV_eq];simp [Array.toList_extract,List.extract_eq_take_drop]
    have hlen:(takeV off (1 * ti.size) ds).length=1 * ti.size:=by rw [takeV_eq];simp;omega
    have:=TX.appendNew (P:=P) (o:=⟨some d,.call { callee:=.builtin .append,args:=#[x,y],argTypes:=#[t,t] },ty,pos,af,gd⟩) (ev:=a.eval) (h:=H) (len:=0) (cap:=0) (n:=1) (old:=#[]) (new:=⟨takeV off (1 * ti.size) ds⟩) rfl hu.eq hu.eq rfl hi h2 hzf hu.ltE (by rw [cellsV_eq];exact hl1) (blt_iff.1 hp0) (g.ev hx) (by decide) rfl (by simp) (by rw [g.ev hy];rfl) hsrc (by simpa using hlen) (by omega) (by omega) (by simpa using hbig)
    rw [hs.n,Nat.zero_add,Array.empty_append,hds] at this
    show TX P _ a.eval H _ ((H.kill (π j)).push ⟨⟨[]++w q⟩,e⟩)
    rw [kill_none hmj]
    exact this
   ·show ment _ _
    unfold rowVl
    rw [ment];exact .inr ⟨k,by simp,rfl⟩
end
end Go.AH
namespace Go.AH
variable {P:Program}
section
variable {ops:Array Oper} {draw:Bool} {rs:List Rk} {l:List Oper} {fl:List (Nat × Value)} {nt:Nat} {h:SH} {K:Fr→SH→Prop} {d:Tmp} {ty:TypeId} {pos:String} {af:Array Edge} {gd:Option (Nat × Bool)}
theorem RS.sliceFrom {t e:TypeId} {x y:Operand} {b off len cap L sz:Nat} {k:IntKind} {i:Int} [hu:TyU P t (.slice e)] [hs:TySz P e sz] (hw:wantB ops ⟨some d,.slice t x (some y) none none,ty,pos,af,gd⟩ ⟨fl,nt⟩=some true) (hd:Nat.blt d nt=true) (hx:Fr.ev ⟨fl,nt⟩ x=some (.slice (some ⟨b,off,none⟩) len cap)) (hy:Fr.ev ⟨fl,nt⟩ y=some (.int k i))
 (hi:i=(L:Int)) (h1:L≤len) (h2:len≤cap) (h3:L < cap) (hc:cap < capMark)
 (hk:RS P ops draw (recP h.k false [] none::rs) l ⟨(d,.slice (some ⟨b,off+L * sz,none⟩) (len - L) (cap - L))::fl,nt⟩ h K):RS P ops draw rs (⟨some d,.slice t x (some y) none none,ty,pos,af,gd⟩::l) ⟨fl,nt⟩ h K:=by
 have hsz:=hs.eq
 cases hin:P.info? e with
 | none=>rw [hin] at hsz;cases hsz
 | some ti =>
  rw [hin] at hsz
  have h4:ti.size=sz:=by simpa using hsz
  subst h4
  refine RS.still (nv:=none) hw hd (fun a g H=>?_) trivial hk
  have:=TX.sliceS (P:=P) (o:=⟨some d,.slice t x (some y) none none,ty,pos,af,gd⟩) (ev:=a.eval) (h:=H) (lo:=some y) (hi:=none) (l:=L) (hh:=len) rfl hu.eq hin (g.ev hx) ⟨k,by rw [g.ev hy,hi]⟩ rfl h1 h2 hc
  rw [if_neg (by omega),add_plain] at this
  exact this
theorem RS.sliceUpto {t e:TypeId} {x y:Operand} {b off len cap L sz:Nat} {k:IntKind} {i:Int} [hu:TyU P t (.slice e)] [hs:TySz P e sz] (hw:wantB ops ⟨some d,.slice t x none (some y) none,ty,pos,af,gd⟩ ⟨fl,nt⟩=some true) (hd:Nat.blt d nt=true) (hx:Fr.ev ⟨fl,nt⟩ x=some (.slice (some ⟨b,off,none⟩) len cap)) (hy:Fr.ev ⟨fl,nt⟩ y=some (.int k i))
 (hi:i=(L:Int)) (h1:L≤cap) (hc:cap < capMark)
 (hk:RS P ops draw (recP h.k false [] none::rs) l ⟨(d,.slice (some ⟨b,off,none⟩) L cap)::fl,nt⟩ h K):RS P ops draw rs (⟨some d,.slice t x none (some y) none,ty,pos,af,gd⟩::l) ⟨fl,nt⟩ h K:=by
 have hsz:=hs.eq
 cases hin:P.info? e with
 | none=>rw [hin] at hsz;cases hsz
 | some ti =>
  rw [hin] at hsz
  have h4:ti.size=sz:=by simpa using hsz
  subst h4
  refine RS.still (nv:=none) hw hd (fun a g H=>?_) trivial hk
  have:=TX.sliceS (P:=P) (o:=⟨some d,.slice t x none (some y) none,ty,pos,af,gd⟩) (ev:=a.eval) (h:=H) (lo:=none) (hi:=some y) (l:=0) (hh:=L) rfl hu.eq hin (g.ev hx) rfl ⟨k,by rw [g.ev hy,hi]⟩ (Nat.zero_le _) h1 hc
  have ea:(if cap=0 then (⟨b,off,none⟩:Addr) else Addr.add ⟨b,off,none⟩ (0 * ti.size))=⟨b,off,none⟩:=by
   split
   ·rfl
   ·rw [add_plain,Nat.zero_mul];rfl
  rw [ea,Nat.sub_zero,Nat.sub_zero] at this
  exact this
end
end Go.AH
namespace Go.AH
variable {P:Program}
section
variable {ops:Array Oper} {draw:Bool} {rs:List Rk} {l:List Oper} {fl:List (Nat × Value)} {nt:Nat} {h:SH} {K:Fr→SH→Prop} {d:Tmp} {ty:TypeId} {pos:String} {af:Array Edge} {gd:Option (Nat × Bool)}
theorem RS.lenRow {α:Type} {sz a:Nat} {l0:List α} {t:TypeId} {x:Operand} {e:TypeId} [hu:TyU P t (.slice e)] (hw:wantB ops ⟨some d,.call { callee:=.builtin .len,args:=#[x],argTypes:=#[t] },ty,pos,af,gd⟩ ⟨fl,nt⟩=some true) (hd:Nat.blt d nt=true) (hx:Fr.ev ⟨fl,nt⟩ x=some (rowVl sz a l0))
 (hk:RS P ops draw (recP h.k false [] (some [])::rs) l ⟨(d,.int .i64 (l0.length:Int))::fl,nt⟩ h K):RS P ops draw rs (⟨some d,.call { callee:=.builtin .len,args:=#[x],argTypes:=#[t] },ty,pos,af,gd⟩::l) ⟨fl,nt⟩ h K:=by
 cases l0 with
 | nil=>exact RS.lenSl hw hd hx hk
 | cons q l1=>exact RS.lenSl hw hd hx hk
end
def keptB (m kp:List Nat) (i:Nat):Bool:=match m with
 | []=>true
 | a::m=>go (a::m) 0
where go:List Nat→Nat→Bool
 | [],_=>true
 | a::m,j=>(!Nat.beq a i || memL j kp) && go m (j+1)
theorem keptB_go {kp:List Nat} {i:Nat}:∀ {m:List Nat} {j0:Nat},keptB.go kp i m j0=true→∀ j,nthL m j=some i→(j0+j)∈kp:=by
 intro m
 induction m with
 | nil=>intro j0 _ j h;cases h
 | cons a m ih =>
  intro j0 h j hj
  simp only [keptB.go,Bool.and_eq_true,Bool.or_eq_true,Bool.not_eq_true'] at h
  cases j with
  | zero =>
   simp only [nthL,Option.some.injEq] at hj
   subst hj
   rcases h.1 with h1|h1
   ·simp at h1
   ·exact memL_iff.1 h1
  | succ j =>
   have:=ih h.2 j hj
   rw [show j0+(j+1)=j0+1+j by omega];exact this
theorem keepE {m kp:List Nat} {i:Nat} (h:keptB m kp i=true):∀ j,nthL m j=some i→j∈kp:=by
 intro j hj
 cases m with
 | nil=>cases hj
 | cons a m=>have:=keptB_go (m:=a::m) (j0:=0) h j hj;rwa [Nat.zero_add] at this
end Go.AH
namespace Go.AH
variable {P:Program}
theorem extract_list (ds:List Value) (a n:Nat):(⟨ds⟩:Array Value).extract a (a+n)=⟨takeV a n ds⟩:=by
 apply Array.ext'
 rw [takeV_eq];simp [Array.toList_extract,List.extract_eq_take_drop]
section
variable {ops:Array Oper} {draw:Bool} {rs:List Rk} {l:List Oper} {fl:List (Nat × Value)} {nt:Nat} {B:Hp} {π:Nat→Nat} {k:Nat} {hl:List (Nat × Option Blk)} {K:Fr→SH→Prop} {d:Tmp} {ty:TypeId} {pos:String} {af:Array Edge} {gd:Option (Nat × Bool)}
theorem RS.copyLB {t t' e:TypeId} {sz:Nat} {x y:Operand} {i off len cap b off2 m cap2:Nat} {cs ds cs':List Value} {e1 e2:TypeId} [hu:TyU P t (.slice e)] [hz:TySz P e sz] (hw:wantB ops ⟨some d,.call { callee:=.builtin .copy,args:=#[x,y],argTypes:=#[t,t'] },ty,pos,af,gd⟩ ⟨fl,nt⟩=some true) (hd:Nat.blt d nt=true)
 (hx:Fr.ev ⟨fl,nt⟩ x=some (.slice (some ⟨π i,off,none⟩) len cap)) (hy:Fr.ev ⟨fl,nt⟩ y=some (.slice (some ⟨b,off2,none⟩) m cap2)) (hi:Nat.blt i k=true) (hb:lookB hl i=some ⟨⟨cs⟩,e1⟩) (hbb:B.m b=some ⟨⟨ds⟩,e2⟩) (hbn:b < B.n)
 (hn:off+min m len * sz≤cs.length) (hm:off2+min m len * sz≤ds.length) (hone:(takeV off2 (min m len * sz) ds).all (·.oneCell')=true) (hc:setL cs off (takeV off2 (min m len * sz) ds)=cs')
 (hk:RS P ops draw (recW k true [] i (some []) none::rs) l ⟨(d,.int .i64 (min m len:Nat))::fl,nt⟩ ⟨B,π,k,(i,some ⟨⟨cs'⟩,e1⟩)::hl⟩ K):RS P ops draw rs (⟨some d,.call { callee:=.builtin .copy,args:=#[x,y],argTypes:=#[t,t'] },ty,pos,af,gd⟩::l) ⟨fl,nt⟩ ⟨B,π,k,hl⟩ K:=by
 have h2:=hz.eq
 cases hti:P.info? e with
 | none=>rw [hti] at h2;cases h2
 | some ti =>
  rw [hti] at h2
  simp only [Option.map_some,Option.some.injEq] at h2
  have hlen:(takeV off2 (min m len * sz) ds).length=min m len * sz:=by rw [takeV_eq];simp;omega
  refine RS.step hw hd (One.write (h:=⟨B,π,k,hl⟩) (b:=⟨⟨cs⟩,e1⟩) (b':=⟨⟨cs'⟩,e1⟩) (nv:=some []) (cn:=none) hi hb (fun a g H hs=>?_) (Nm_free (by simp)) (fun u _=>trivial)) hk
  have hm1:H.m (π i)=some ⟨⟨cs⟩,e1⟩:=by have:=hs.l i (memL_self i _) (blt_iff.1 hi);rw [this];exact hb
  have hm2:H.m b=some ⟨⟨ds⟩,e2⟩:=by rw [hs.b rfl b hbn];exact hbb
  have hsrc:srcCells H ti.size (min m len) (a.eval y)=some ⟨takeV off2 (min m len * sz) ds⟩:=by
   rw [g.ev hy,h2]
   simp only [srcCells,hm2]
   rw [if_pos ⟨trivial,by simpa using hm⟩,extract_list]
  have:=TX.copy (P:=P) (o:=⟨some d,.call { callee:=.builtin .copy,args:=#[x,y],argTypes:=#[t,t'] },ty,pos,af,gd⟩) (ev:=a.eval) (h:=H) (m:=m) rfl hu.eq hti (g.ev hx) (by rw [g.ev hy];rfl) hsrc rfl (hs.own i (blt_iff.1 hi)) hm1 (by simpa [hlen] using hn) (by simpa using hone)
  simp only [setFrom_eq,hc] at this
  exact this
theorem takeV_all (ds:List Value):takeV 0 ds.length ds=ds:=by rw [takeV_eq];simp
theorem RS.copyRow {α:Type} {w:α→List Value} {l0:List α} {t t' e:TypeId} {sz:Nat} {x y:Operand} {i off len cap j:Nat} {cs cs':List Value} {e1 e2:TypeId} [hu:TyU P t (.slice e)] [hz:TySz P e sz] (hw:wantB ops ⟨some d,.call { callee:=.builtin .copy,args:=#[x,y],argTypes:=#[t,t'] },ty,pos,af,gd⟩ ⟨fl,nt⟩=some true) (hd:Nat.blt d nt=true)
 (hx:Fr.ev ⟨fl,nt⟩ x=some (.slice (some ⟨π i,off,none⟩) len cap)) (hy:Fr.ev ⟨fl,nt⟩ y=some (rowVl sz (π j) l0)) (hi:Nat.blt i k=true) (hb:lookB hl i=some ⟨⟨cs⟩,e1⟩) (hj:Nat.blt j k=true) (hbj:lookB hl j=rowBk w e2 l0)
 (hww:∀ a,(w a).length=sz) (hl0:l0.length≤len) (hn:off+l0.length * sz≤cs.length) (hone:(rowC w l0).all (·.oneCell')=true) (hc:setL cs off (rowC w l0)=cs')
 (hk:RS P ops draw (recW k false [j] i (some []) none::rs) l ⟨(d,.int .i64 (l0.length:Nat))::fl,nt⟩ ⟨B,π,k,(i,some ⟨⟨cs'⟩,e1⟩)::hl⟩ K):RS P ops draw rs (⟨some d,.call { callee:=.builtin .copy,args:=#[x,y],argTypes:=#[t,t'] },ty,pos,af,gd⟩::l) ⟨fl,nt⟩ ⟨B,π,k,hl⟩ K:=by
 have h2:=hz.eq
 have hlen:=rowC_len hww l0
 cases hti:P.info? e with
 | none=>rw [hti] at h2;cases h2
 | some ti =>
  rw [hti] at h2
  simp only [Option.map_some,Option.some.injEq] at h2
  refine RS.step hw hd (One.write (h:=⟨B,π,k,hl⟩) (b:=⟨⟨cs⟩,e1⟩) (b':=⟨⟨cs'⟩,e1⟩) (nv:=some []) (cn:=none) hi hb (fun a g H hs=>?_) (Nm_free (by simp)) (fun u _=>trivial)) hk
  have hm1:H.m (π i)=some ⟨⟨cs⟩,e1⟩:=by have:=hs.l i (memL_self i _) (blt_iff.1 hi);rw [this];exact hb
  have hm2:H.m (π j)=rowBk w e2 l0:=by have:=hs.l j (memL_iff.2 (by simp)) (blt_iff.1 hj);rw [this];exact hbj
  have hmin:min l0.length len=l0.length:=Nat.min_eq_left hl0
  have hsrc:srcCells H ti.size (min l0.length len) (a.eval y)=some ⟨rowC w l0⟩:=by
   rw [g.ev hy,h2,hmin]
   cases l0 with
   | nil=>rfl
   | cons q l1 =>
    have hlen':(rowC w l1++w q).length=(l1.length+1) * sz:=hlen
    have hm3:H.m (π j)=some ⟨⟨rowC w l1++w q⟩,e2⟩:=hm2
    simp only [rowVl,srcCells,hm3]
    rw [if_pos ⟨trivial,by simp only [List.size_toArray,List.length_cons];omega⟩,extract_list]
    congr 2
    show takeV 0 ((l1.length+1) * sz) (rowC w l1++w q)=rowC w l1++w q
    rw [← hlen',takeV_all]
  have hml:srcLen (a.eval y)=some l0.length:=by
   rw [g.ev hy]
   cases l0<;>rfl
  have:=TX.copy (P:=P) (o:=⟨some d,.call { callee:=.builtin .copy,args:=#[x,y],argTypes:=#[t,t'] },ty,pos,af,gd⟩) (ev:=a.eval) (h:=H) (m:=l0.length) rfl hu.eq hti (g.ev hx) hml hsrc rfl (hs.own i (blt_iff.1 hi)) hm1 (by simpa [hlen] using hn) (by simpa using hone)
  simp only [setFrom_eq,hc,hmin] at this
  exact this
theorem RS.maxI {h:SH} {t t':TypeId} {x y:Operand} {k k':IntKind} {a b:Int} (hw:wantB ops ⟨some d,.call { callee:=.builtin .max,args:=#[x,y],argTypes:=#[t,t'] },ty,pos,af,gd⟩ ⟨fl,nt⟩=some true) (hd:Nat.blt d nt=true)
 (hx:Fr.ev ⟨fl,nt⟩ x=some (.int k a)) (hy:Fr.ev ⟨fl,nt⟩ y=some (.int k' b))
 (hk:RS P ops draw (recP h.k false [] (some [])::rs) l ⟨(d,.int k (if b > a then b else a))::fl,nt⟩ h K):RS P ops draw rs (⟨some d,.call { callee:=.builtin .max,args:=#[x,y],argTypes:=#[t,t'] },ty,pos,af,gd⟩::l) ⟨fl,nt⟩ h K :=
 RS.free hw hd (fun c g H=>tx_two (u:=.int k a) (w:=.int k' b) rfl (fun _ _=>by simp) (g.ev hx) (g.ev hy) (by simp) (by simp) (by simp) fun ev W hu hw'=>by
  have hu:ev x=.int k a:=hu
  have hw':ev y=.int k' b:=hw'
  simp only [execOp,resolve,invoke,builtin,Sem.run_bind,Sem.run_pure,Result.andThen_ok,List.map_toArray,List.map_cons,List.map_nil,hu,hw',run_max_int2]) (by simp) hk
end
end Go.AH
namespace Go.AH
variable {P:Program}
theorem TX.copy0 {d:Option Tmp} {ty:TypeId} {pos:String} {af:Array Edge} {gd:Option (Nat × Bool)} {ev:Operand→Value} {h:Hp} {x y:Operand} {t t' e:TypeId} {ei:TypeInfo} {A A':Option Addr} {len cap n c:Nat} (ht:P.underlying t=some (.slice e)) (hi:P.info? e=some ei)
 (hx:ev x=.slice A len cap) (hy:ev y=.slice A' n c) (h0:min n len=0) :
 TX P ⟨d,.call { callee:=.builtin .copy,args:=#[x,y],argTypes:=#[t,t'] },ty,pos,af,gd⟩ ev h (.int .i64 (0:Nat)) h :=
 .value fun hbd ρ W ev' hok he=>by
  have g1:=he x (by simp [Op.operands,Call.operands])
  have g2:=he y (by simp [Op.operands,Call.operands])
  refine ⟨ρ,W,?_,by simp,hok,Ext.refl _ _ _⟩
  have hren:∀ (A:Option Addr) (n c:Nat),∃ B c',ren ρ (.slice A n c)=.slice B n c':=by
   intro A n c
   cases A with
   | none=>exact ⟨none,c,by simp⟩
   | some b=>exact ⟨some (renAddr ρ b),renCap ρ b c,by simp⟩
  obtain ⟨B1,c1,r1⟩:=hren A len cap
  obtain ⟨B2,c2,r2⟩:=hren A' n c
  rw [hx,r1] at g1
  rw [hy,r2] at g2
  have hmin:Nat.min n len=0:=h0
  have hf:(Builtin.firstCells ei.size 0 (.slice B2 n c2)).run P W=.ok #[] W:=by cases B2<;>simp [Builtin.firstCells,loadCells,loadCellsFrom]
  simp only [execOp,resolve,invoke,builtin,Builtin.copy_,Sem.run_bind,Sem.run_pure,Result.andThen_ok,List.map_toArray,List.map_cons,List.map_nil,g1,g2]
  simp only [List.getElem?_toArray,List.getElem?_cons_zero,List.getElem?_cons_succ,Sem.run_bind,rU ht,Result.andThen_ok,Builtin.lenOf,Sem.run_pure,rS hi,hmin,hf]
  cases B1<;>simp [storeCells,goInt]
section
variable {ops:Array Oper} {draw:Bool} {rs:List Rk} {l:List Oper} {fl:List (Nat × Value)} {nt:Nat} {h:SH} {K:Fr→SH→Prop} {d:Tmp} {ty:TypeId} {pos:String} {af:Array Edge} {gd:Option (Nat × Bool)}
theorem RS.copy0 {t t' e:TypeId} {sz:Nat} {x y:Operand} {A A':Option Addr} {len cap n c:Nat} [hu:TyU P t (.slice e)] [hz:TySz P e sz] (hw:wantB ops ⟨some d,.call { callee:=.builtin .copy,args:=#[x,y],argTypes:=#[t,t'] },ty,pos,af,gd⟩ ⟨fl,nt⟩=some true) (hd:Nat.blt d nt=true)
 (hx:Fr.ev ⟨fl,nt⟩ x=some (.slice A len cap)) (hy:Fr.ev ⟨fl,nt⟩ y=some (.slice A' n c)) (h0:min n len=0)
 (hk:RS P ops draw (recP h.k false [] (some [])::rs) l ⟨(d,.int .i64 (0:Nat))::fl,nt⟩ h K):RS P ops draw rs (⟨some d,.call { callee:=.builtin .copy,args:=#[x,y],argTypes:=#[t,t'] },ty,pos,af,gd⟩::l) ⟨fl,nt⟩ h K:=by
 have h2:=hz.eq
 cases hti:P.info? e with
 | none=>rw [hti] at h2;cases h2
 | some ti=>exact RS.free hw hd (fun a g H=>TX.copy0 hu.eq hti (g.ev hx) (g.ev hy) h0) (by simp) hk
theorem RS.sliceSL {t e:TypeId} {x:Operand} {lo hi:Option Operand} {b off len cap L H sz off':Nat} [hu:TyU P t (.slice e)] [hs:TySz P e sz] (hw:wantB ops ⟨some d,.slice t x lo hi none,ty,pos,af,gd⟩ ⟨fl,nt⟩=some true) (hd:Nat.blt d nt=true) (hx:Fr.ev ⟨fl,nt⟩ x=some (.slice (some ⟨b,off,none⟩) len cap)) (hlo:bndS fl nt lo 0 L) (hhi:bndS fl nt hi len H)
 (h1:L≤H) (h2:H≤cap) (hc:cap < capMark) (ho:(if cap=L then off else off+L * sz)=off')
 (hk:RS P ops draw (recP h.k false [] none::rs) l ⟨(d,.slice (some ⟨b,off',none⟩) (H - L) (cap - L))::fl,nt⟩ h K):RS P ops draw rs (⟨some d,.slice t x lo hi none,ty,pos,af,gd⟩::l) ⟨fl,nt⟩ h K:=by
 have hsz:=hs.eq
 cases hin:P.info? e with
 | none=>rw [hin] at hsz;cases hsz
 | some ti =>
  rw [hin] at hsz
  have h4:ti.size=sz:=by simpa using hsz
  subst h4
  refine RS.still (nv:=none) hw hd (fun a g H=>?_) trivial hk
  have:=TX.sliceS (P:=P) (o:=⟨some d,.slice t x lo hi none,ty,pos,af,gd⟩) (ev:=a.eval) (h:=H) rfl hu.eq hin (g.ev hx) (bndS_ok g hlo) (bndS_ok g hhi) h1 h2 hc
  have e1:(if cap=L then (⟨b,off,none⟩:Addr) else (⟨b,off,none⟩:Addr).add (L * ti.size))=⟨b,off',none⟩:=by
   rw [← ho]
   split
   ·rfl
   ·rw [add_plain]
  rw [e1] at this
  exact this
theorem RS.sliceNil {t e:TypeId} {x:Operand} {lo hi:Option Operand} {sz:Nat} [hu:TyU P t (.slice e)] [hs:TySz P e sz] (hw:wantB ops ⟨some d,.slice t x lo hi none,ty,pos,af,gd⟩ ⟨fl,nt⟩=some true) (hd:Nat.blt d nt=true) (hx:Fr.ev ⟨fl,nt⟩ x=some (.slice none 0 0)) (hlo:bndS fl nt lo 0 0) (hhi:bndS fl nt hi 0 0)
 (hk:RS P ops draw (recP h.k false [] (some [])::rs) l ⟨(d,.slice none 0 0)::fl,nt⟩ h K):RS P ops draw rs (⟨some d,.slice t x lo hi none,ty,pos,af,gd⟩::l) ⟨fl,nt⟩ h K:=by
 have hsz:=hs.eq
 cases hin:P.info? e with
 | none=>rw [hin] at hsz;cases hsz
 | some ti =>
  exact RS.free hw hd (fun a g H=>TX.sliceNil (P:=P) (o:=⟨some d,.slice t x lo hi none,ty,pos,af,gd⟩) rfl hu.eq hin (g.ev hx) (bndS_ok g hlo) (bndS_ok g hhi)) (by simp) hk
end
end Go.AH
namespace Go.AH
variable {P:Program}
section
variable {ops:Array Oper} {draw:Bool} {rs:List Rk} {l:List Oper} {fl:List (Nat × Value)} {nt:Nat} {B:Hp} {π:Nat→Nat} {k:Nat} {hl:List (Nat × Option Blk)} {K:Fr→SH→Prop} {d:Tmp} {ty:TypeId} {pos:String} {af:Array Edge} {gd:Option (Nat × Bool)}
theorem RS.makeSliceF {t e:TypeId} {x y:Operand} {n sz by':Nat} {kx ky:IntKind} {z:Value} {cs:List Value} [hu:TyU P t (.slice e)] [hs:TySz P e sz] [hb:TyBy P e by'] [hz:TyZ P e z] (hw:wantB ops ⟨some d,.makeSlice t x y,ty,pos,af,gd⟩ ⟨fl,nt⟩=some true) (hd:Nat.blt d nt=true)
 (hx:Fr.ev ⟨fl,nt⟩ x=some (.int kx (n:Int))) (hy:Fr.ev ⟨fl,nt⟩ y=some (.int ky (n:Int))) (hl0:Nat.beq (cellsV z).length sz=true) (hp0:Nat.blt 0 sz=true) (hbig:n≤9223372036854775807∧by' * n≤281474976710656) (hc:repL (cellsV z) n=cs) (hfree:∀ u∈cs,bnd 0 u)
 (hk:RS P ops draw (recN k false [] (some [k]) (some [])::rs) l ⟨(d,.slice (some ⟨π k,0,none⟩) n n)::fl,nt⟩ ⟨B,π,k+1,(k,some ⟨⟨cs⟩,e⟩)::hl⟩ K):RS P ops draw rs (⟨some d,.makeSlice t x y,ty,pos,af,gd⟩::l) ⟨fl,nt⟩ ⟨B,π,k,hl⟩ K:=by
 have h1:=hz.eq
 have hsz:=hs.eq
 have hby:=hb.eq
 cases hi:P.info? e with
 | none=>rw [hi] at h1;cases h1
 | some ti =>
  rw [hi] at h1 hsz hby
  have h2:ti.zero=some z:=h1
  have h3:ti.size=sz:=by simpa using hsz
  have h4:ti.bytes=by':=by simpa using hby
  subst h3;subst h4
  have hzf:=freeB_bnd hz.fr
  have hl1:(cellsV z).length=ti.size:=Nat.eq_of_beq_eq_true hl0
  have hp1:=blt_iff.1 hp0
  refine RS.step hw hd (One.new (h:=⟨B,π,k,hl⟩) (b:=⟨⟨cs⟩,e⟩) (cn:=some []) (fun a g H hs=>?_) ?_ fun u hu=>Nm_free (hfree u (by simpa using hu))) hk
  ·have:=TX.makeSlice (P:=P) (o:=⟨some d,.makeSlice t x y,ty,pos,af,gd⟩) (ev:=a.eval) (h:=H) (l:=n) (c:=n) rfl hu.eq hi h2 hzf hu.ltE (g.ev hx) (g.ev hy) (Nat.le_refl _) hbig.1 (by simpa using hbig.2)
   rw [hs.n,cellsV_eq,← hl1,zeros_rep (by omega),hc] at this;exact this
  ·show ment _ _
   rw [ment];exact .inr ⟨k,by simp,rfl⟩
theorem RS.callNL {g0:FuncId} {xs:Array Operand} {ts:Array TypeId} {vs:List Value} {v:Value} {b:Blk} (vb:Bool) (vl:List Nat) [hg:GF P g0] (hw:wantB ops ⟨some d,.call { callee:=.value (.func g0),args:=xs,argTypes:=ts },ty,pos,af,gd⟩ ⟨fl,nt⟩=some true) (hd:Nat.blt d nt=true)
 (hx:evAll fl nt xs.toList=some vs) (ht:∀ H:Hp,Sees ⟨B,π,k,hl⟩ vb vl H→TF P g0 ⟨vs⟩ H v (H.push b))
 (hk:RS P ops draw (recN k vb vl none none::rs) l ⟨(d,v)::fl,nt⟩ ⟨B,π,k+1,(k,some b)::hl⟩ K):RS P ops draw rs (⟨some d,.call { callee:=.value (.func g0),args:=xs,argTypes:=ts },ty,pos,af,gd⟩::l) ⟨fl,nt⟩ ⟨B,π,k,hl⟩ K :=
 RS.callN vb vl hw hd hx ht hk
end
end Go.AH
namespace Go.AH
open Go.RowKit
variable {P:Program}
theorem Ext.below {h h':Hp} {ρ ρ':Env} {W W':World} {G:Nat} (hok:HOK G h ρ W) (hok':HOK G h' ρ' W') (hE:Ext h h' ρ ρ' W W') (hkeep:∀ i b,h.m i=some b→h'.m i=some b):Below W.heap.size W W':=by
 refine ⟨hE.os,hE.tape,hE.output,hE.size,fun k hk=>?_⟩
 by_cases hx:∃ i b,rwM≤i∧h.m i=some b∧ρ.loc i=k
 ·obtain ⟨i,b,hi0,hb,rfl⟩:=hx
  have hin:=hok.lt i b hb
  obtain ⟨c,hc,_,hal⟩:=hE.surv i b hin (hkeep i b hb)
  by_cases hcm:b.elem < mapM
  case neg =>
   rcases hok.fits i b hb with ⟨_,_,_,_,_,hw⟩|⟨m,he,_,h2,_⟩
   ·exact absurd (hw hi0).2.2.2.2 hcm
   ·have:=(hok'.fits i b (hkeep i b hb))
    obtain ⟨cs,el⟩:=b
    simp only at h2
    subst h2
    have h3:=(this.map hi0).1
    rw [(hE.agree i hin).1] at h3
    rw [he,h3]
  rcases hal with e|⟨d,d',t,fr,e1,e2,e3,e4⟩|⟨es,es',cl,cl',e1,e2⟩
  ·exact e
  ·obtain ⟨tail,fr1,g1,g2,_⟩:=(hok.fits i b hb).own hi0 (.inr hcm)
   obtain ⟨tail',fr1',k1,k2,_⟩:=(hok'.fits i b (hkeep i b hb)).own hi0 (.inr hcm)
   rw [(hE.agree i hin).1] at k1
   rw [g1] at e1
   rw [k1] at e2
   injection e1 with e1
   injection e1 with a1 a2 a3
   injection e2 with e2
   injection e2 with b1 b2 b3
   rw [g1,k1]
   congr 2
   ·rw [a1,b1]
    apply Array.ext'
    apply List.ext_getElem?
    intro j
    rw [Array.getElem?_toList,Array.getElem?_toList]
    by_cases hj:b.cells.size≤j
    ·exact e4 j hj
    ·have hj':j < b.cells.size:=by omega
     rw [← a1,← b1,Array.getElem?_append_left (by simpa using hj'),Array.getElem?_append_left (by simpa using hj')]
     rw [Array.map_congr_left fun v hv=>ren_agree hE.agree v (hok.bd i b hb v hv)]
   ·rw [a3,b3]
  ·obtain ⟨tail,fr1,g1,_⟩:=(hok.fits i b hb).own hi0 (.inr hcm)
   rw [g1] at e1;cases e1
 ·exact hE.kept k hk fun i b hi0 hb e=>hx ⟨i,b,hi0,hb,e⟩
theorem TF.below {f:FuncId} {args:Array Value} {h h':Hp} {v:Value} (ht:TF P f args h v h') (hkeep:∀ i b,h.m i=some b→h'.m i=some b) (ha:∀ x∈args,bnd h.n x) {ρ:Env} {W:World} (hok:HOK P.globals.size h ρ W) :
 Calls P f (args.map (ren ρ)) W fun e W'=>(∃ ρ',e=.returned (ren ρ' v))∧Below W.heap.size W W':=by
 refine (ht ha ρ W hok).mono ?_
 rintro e W' ⟨ρ',rfl,_,hok',hE⟩
 exact ⟨⟨ρ',rfl⟩,hE.below hok hok' hkeep⟩
def idE (c:Nat→Nat):Env:={ loc:=fun i=>i,cap:=c,sh:=fun _=>0 }
end Go.AH
namespace Go
variable {H:Type} {enc:TypeId × Value→H}
theorem handed_and_shaped {a:Assume} {C:Checked} {os:Os} {f:FuncId} {fn:Func} {s:ChangeSpec} {conds:List PathCond} {apart fresh handsOn again:Bool} {X:World→Array Value→Prop}
 (hX:∀ (w w':World) (args:Array Value),w.heap=w'.heap→X w args→X w' args)
 (own:ownKnob C.prog.godebug=none) (started:os.Started) (noInit:C.prog.inits.idxOf? f=none) (hfn:C.prog.funcs[f]?=some fn)
 (witness:∃ (w:World) (tape:Tape) (i:Input),w.os=os∧(w.forCall tape i).Shaped C.prog∧i.vars=[]∧Input.okWide C.prog (w.forCall tape i) .any w.heap.size f i ∧
  ((s.pre enc C.prog fn conds apart (w.forCall tape i).memory i.args∧X (w.forCall tape i).memory i.args)∧sizedMet enc C.prog fn (OpenSpec.ofChange s) apart (w.forCall tape i).memory i.args)∧a.holds C.prog (lone (Frame.enter C.prog f i.args .normal) [] (w.forCall tape i)))
 (contract:∀ (W:World) (base:Nat) (args:Array Value) (ds gs:List (DataW H)) (before:List MemPlace),
  (∀ (j:Nat) t v,fn.params[j]?=some t→args[j]?=some v→Value.okWide C.prog W .any base t v) →
  DataW.Whole enc C.prog fn.params.toList s.vars apart W args.toList ds gs before →
  conds.all (PathCond.test C.prog ⟨fn.params.toList,ds,s.plain.varTypes C.prog,gs⟩)=true →
  (DataW.weightsEach C.prog (fn.params.toList++s.plain.varTypes C.prog) (ds++gs)).all (·≤reachBytes)=true→X W args→W.ShapedOpen C.prog →
  a.holds C.prog (lone (Frame.enter C.prog f args .normal) [] W) →
  Calls C.prog f args W fun e W'=>∃ v,e=.returned v∧s.post enc C.prog fn apart fresh handsOn again W args v W') :
 ReturnsInHanded a C os f .any (fun w args=>(s.pre enc C.prog fn conds apart w args∧X w args)∧sizedMet enc C.prog fn (OpenSpec.ofChange s) apart w args) (s.post enc C.prog fn apart fresh handsOn again):=by
 refine returnsInHanded_of_calls own started noInit witness ?_
 intro w tape i _ hsh _ hok hpre hholds
 obtain ⟨_,_,_,fn',hfn',_,_,_,_,hval⟩:=hok
 have e:fn'=fn:=Option.some.inj (hfn'.symm.trans hfn)
 subst e
 obtain ⟨⟨⟨ds,gs,before,hw,hc⟩,hx⟩,hz⟩:=hpre
 have hw':=DataW.Whole.of_heap (w':=w.forCall tape i) (by rfl) hw
 refine (contract (w.forCall tape i) w.heap.size i.args ds gs before hval hw' hc (hz.weights hw) (hX _ _ _ (by rfl) hx) hsh hholds).mono fun e W' ⟨v,he,hp⟩=>?_
 subst he
 exact ChangeSpec.post_blind hp
end Go
namespace Go.AH
variable {P:Program}
structure Win where
 addr:Addr
 blk:Option Blk
def envW (G:Nat) (ws:List Win):Env where
 loc i:=if i < G then i else match ws[i - G]? with|some w=>w.addr.block|none=>i
 cap _:=0
 sh i:=if i < G then 0 else match ws[i - G]? with|some w=>w.addr.off|none=>0
def hpW (G:Nat) (g0:Nat→Option Blk) (ws:List Win):Hp where
 m i:=if i < G then g0 i else (ws[i - G]?).bind (·.blk)
 n:=rwM
structure Lay (G:Nat) (W:World) (ws:List Win):Prop where
 fits:∀ (i:Nat) (w:Win) (b:Blk),ws[i]?=some w→w.blk=some b→∃ (pre tail:Array Value) (fr:Nat × Nat),W.heap[w.addr.block]?=some (.cells (pre++b.cells.map (ren (envW G ws))++tail) b.elem fr)∧pre.size=w.addr.off
 bd:∀ (i:Nat) (w:Win) (b:Blk),ws[i]?=some w→w.blk=some b→∀ v∈b.cells,bnd (G+ws.length) v
def D (G:Nat) (g0:Nat→Option Blk) (W:World) (cs:List Value) (N:Nat) (Φ:Hp→List Value→Prop):Prop :=
 ∀ ws,Lay G W ws→∃ more acs,Lay G W (ws++more)∧more.length≤N∧acs.map (ren (envW G (ws++more)))=cs∧(∀ v∈acs,bnd (G+(ws++more).length) v)∧Φ (hpW G g0 (ws++more)) acs
def UpΦ (Φ:Hp→List Value→Prop):Prop:=∀ h H acs,(∀ i b,h.m i=some b→H.m i=some b)→Φ h acs→Φ H acs
variable {G:Nat} {g0:Nat→Option Blk} {W:World}
structure RowAt (h:Hp) (w:Nat) (accs:List (List Value)) (A:Option Addr) (Φ:Hp→List Value→Prop):Prop where
 all:∀ a∈accs,Φ h a∧a.length=w
 at_:accs≠[]→∃ b e,A=some ⟨b,0,none⟩∧h.m b=some ⟨⟨accs.flatten⟩,e⟩
def RowΦ (w M:Nat) (Φ:Hp→List Value→Prop) (H:Hp) (acs:List Value):Prop :=
 ∃ (A:Option Addr) (c:Nat) (accs:List (List Value)),acs=[.slice A accs.length c]∧RowAt H w accs A Φ∧accs.length≤M∧accs.length≤c∧c < capMark∧(A=none→c=0)
theorem flat_get {α:Type} {w:Nat}:∀ {css:List (List α)},(∀ c∈css,c.length=w)→∀ i j,j < w→css.flatten[i * w+j]?=(css[i]?).bind (·[j]?):=by
 intro css
 induction css with
 | nil=>intro _ i j _;simp
 | cons c css ih =>
  intro h i j hj
  have hc:=h c (by simp)
  rw [List.flatten_cons]
  cases i with
  | zero=>rw [List.getElem?_append_left (by omega)];simp
  | succ i =>
   rw [Nat.succ_mul,List.getElem?_append_right (by omega),show i * w+w+j - c.length=i * w+j by omega,ih (fun c' hc'=>h c' (by simp [hc'])) i j hj]
   simp
theorem flat_len {α:Type} {w:Nat}:∀ {css:List (List α)},(∀ c∈css,c.length=w)→css.flatten.length=css.length * w:=by
 intro css
 induction css with
 | nil=>intro _;simp
 | cons c css ih=>intro h;rw [List.flatten_cons,List.length_append,h c (by simp),ih fun c' hc'=>h c' (by simp [hc']),List.length_cons,Nat.succ_mul];omega
theorem hpW_n (G:Nat) (g0:Nat→Option Blk) (ws:List Win):(hpW G g0 ws).n=rwM:=by simp only [hpW]
theorem Lay.hok {ws:List Win} (hl:Lay G W ws) (hG:G+ws.length≤rwM) (hg0:∀ i b,i < G→g0 i=some b→(∃ (tail:Array Value) (fr:Nat × Nat),W.heap[i]?=some (.cells (b.cells++tail) b.elem fr))∧∀ v∈b.cells,bnd 0 v):HOK G (hpW G g0 ws) (envW G ws) W:=by
 refine ⟨fun i b hb=>?_,fun i b hb=>?_,fun i j b c hi0 hb=>?_,fun i b hb=>?_,fun g hg=>?_,Nat.le_of_eq (hpW_n _ _ _).symm,Nat.le_trans (Nat.le_add_right _ _) hG⟩
 ·unfold hpW at hb
  simp only at hb
  split at hb
  ·rename_i hi
   obtain ⟨⟨tail,fr,he⟩,hf⟩:=hg0 i b hi hb
   refine .inl ⟨#[],tail,fr,?_,?_,fun hr=>by omega⟩
   ·unfold envW;simp only [if_pos hi]
    rw [he]
    congr 2
    rw [Array.map_congr_left (g:=id) fun v hv=>ren_free _ v (hf v hv)];simp
   ·unfold envW;simp [hi]
  ·rename_i hi
   cases hw:ws[i - G]? with
   | none=>rw [hw] at hb;cases hb
   | some w =>
    rw [hw] at hb
    obtain ⟨pre,tail,fr,he,hp⟩:=hl.fits _ w b hw hb
    have hlt:=(List.getElem?_eq_some_iff.1 hw).1
    refine .inl ⟨pre,tail,fr,?_,?_,fun hr=>by omega⟩
    ·unfold envW;simp only [if_neg hi,hw];exact he
    ·unfold envW;simp only [if_neg hi,hw];exact hp
 ·unfold hpW at hb ⊢
  simp only at hb ⊢
  split at hb
  ·omega
  ·cases hw:ws[i - G]? with
   | none=>rw [hw] at hb;cases hb
   | some w=>have:=(List.getElem?_eq_some_iff.1 hw).1;omega
 ·exfalso
  unfold hpW at hb
  simp only at hb
  split at hb
  ·omega
  ·cases hw:ws[i - G]? with
   | none=>rw [hw] at hb;cases hb
   | some w=>have:=(List.getElem?_eq_some_iff.1 hw).1;omega
 ·intro v hv
  unfold hpW at hb ⊢
  simp only at hb ⊢
  split at hb
  ·rename_i hi
   exact bnd_mono (Nat.zero_le _) v ((hg0 i b hi hb).2 v hv)
  ·cases hw:ws[i - G]? with
   | none=>rw [hw] at hb;cases hb
   | some w =>
    rw [hw] at hb
    exact bnd_mono hG v (hl.bd _ w b hw hb v hv)
 ·unfold envW;simp [hg]
end Go.AH
namespace Go.AH
variable {P:Program}
def preVl {α:Type} (sz a n:Nat):List α→Value
 | []=>.slice none 0 0
 | _::_=>.slice (some ⟨a,0,none⟩) n (capOf sz)
theorem rowC_flat {α:Type} (w:α→List Value):∀ l:List α,rowC w l=(l.reverse.map w).flatten:=by
 intro l
 induction l with
 | nil=>rfl
 | cons a l ih=>rw [rowC,ih];simp
theorem rowBk_some {α:Type} {w:α→List Value} {e:TypeId} {l:List α} (h:l≠[]):rowBk w e l=some ⟨⟨(l.reverse.map w).flatten⟩,e⟩:=by
 cases l with
 | nil=>exact absurd rfl h
 | cons a l=>rw [← rowC_flat];rfl
theorem rowVl_eq {α:Type} (sz a:Nat) (l:List α):rowVl sz a l=.slice (if l=[] then none else some ⟨a,0,none⟩) l.length (if l=[] then 0 else capOf sz):=by
 cases l<;>simp [rowVl]
section
variable {ops:Array Oper} {draw:Bool} {rs:List Rk} {l:List Oper} {fl:List (Nat × Value)} {nt:Nat} {B:Hp} {π:Nat→Nat} {k:Nat} {hl:List (Nat × Option Blk)} {K:Fr→SH→Prop} {d:Tmp} {ty:TypeId} {pos:String} {af:Array Edge} {gd:Option (Nat × Bool)}
end
end Go.AH
namespace Go.AH
variable {P:Program}
structure Absb (h:SH) (B':Hp):Prop where
 dom:∀ i b,B'.m i=some b→i < B'.n
 old:∀ i,i < h.base.n→B'.m i=h.base.m i
 loc:∀ i,i < h.k→B'.m (h.π i)=lookB h.l i
 n:B'.n=h.π h.k
 lo:∀ i,i < h.k→h.base.n≤h.π i
 hi:∀ i,i < h.k→h.π i < B'.n
 inj:∀ i j,i < h.k→j < h.k→h.π i=h.π j→i=j
 le:h.base.n≤B'.n
 rw:rwM≤h.base.n
 bdom:∀ i b,h.base.m i=some b→i < h.base.n
 sat:Sat P B'
theorem Absb.of {h:SH} (w:h.WF) (s:Sat P h.den):Absb (P:=P) h h.den:=by
 obtain ⟨ρ,W,ho⟩:=s
 exact ⟨ho.lt,fun i hi=>by simp only [SH.den];rw [if_pos hi],fun i hi=>SH.m_loc w hi,rfl,w.lo,w.hi,w.inj,w.bn,w.bo,w.bd,⟨ρ,W,ho⟩⟩
theorem Absb.up {h:SH} {B':Hp} (a:Absb (P:=P) h B'):∀ i b,h.base.m i=some b→B'.m i=some b:=fun i b hb=>by rw [a.old i (a.bdom i b hb)];exact hb
theorem Sat.dom {h:Hp} (s:Sat P h):∀ i b,h.m i=some b→i < h.n:=by obtain ⟨ρ,W,ho⟩:=s;exact ho.lt
theorem Sat.rw {h:Hp} (s:Sat P h):rwM≤h.n:=by obtain ⟨ρ,W,ho⟩:=s;exact ho.gle
theorem Sat.wf {h:Hp} (s:Sat P h):(SH.of h).WF:=SH.of_wf s.rw s.dom
theorem Sat.den {h:Hp} (s:Sat P h):(SH.of h).den=h:=SH.of_den s.dom
theorem W.absorbX {c:Code} {f:Fr} {h:SH} {K:Exit→Fr→SH→Prop} (hw:∀ (B':Hp) (π:Nat→Nat),Absb (P:=P) h B'→W P c f ⟨B',π,0,[]⟩ K):W P c f h K:=by
 intro a w s b g
 have hden:=s.den
 obtain ⟨e,f1,h1,a1,k1,w1,s1,b1,g1,t1⟩:=hw _ (SH.of h.den).π (Absb.of w s) a s.wf (by show Sat P (SH.of h.den).den;rw [hden];exact s) (by show bndA (SH.of h.den).den.n a;rw [hden];exact b) g
 have t1:TC P c a (SH.of h.den).den e a1 h1.den:=t1
 rw [hden] at t1
 exact ⟨e,f1,h1,a1,k1,w1,s1,b1,g1,t1⟩
theorem RS.absorbX {ops:Array Oper} {rs:List Rk} {l:List Oper} {f:Fr} {h:SH} {K:Fr→SH→Prop} (hw:∀ (B':Hp) (π:Nat→Nat),Absb (P:=P) h B'→RS P ops false rs l f ⟨B',π,0,[]⟩ K):RS P ops false rs l f h K:=by
 intro xs a0 h0 a p
 have hden:=p.sat.den
 have pre:Pre P ops false rs l xs a0 h0 a f (SH.of h.den):=⟨by rw [hden];exact p.chain,p.os,p.ok,p.len,(fun hd=>by cases hd),p.sat.wf,by rw [hden];exact p.sat,by rw [hden];exact p.bnd,p.agr,p.oks⟩
 exact hw _ (SH.of h.den).π (Absb.of p.wf p.sat) xs a0 h0 a pre
theorem TX.more {o:Oper} {a:Act} {h h':Hp} {v:Value} (ht:TX P o a.eval h v h') (hk:∀ x∈o.op.operands,okOp P.globals.size x) (s:Sat P h) (hb:bndA h.n a):h.n≤h'.n∧∀ i b',i < h.n→h'.m i=some b'→∃ b,h.m i=some b:=by
 obtain ⟨ρ,W,ho⟩:=s
 have:=wp_outcome (ht (fun x hx=>eval_bnd ho.gn hb x (hk x hx)) ρ W ho (renA ρ a) (fun _ W'=>∃ ρ',Ext h h' ρ ρ' W W') (fun _ _ _=>False)
  (fun x hx=>eval_ren ho.glob _ x (hk x hx)) fun ρ' W' _ _ hE=>⟨ρ',hE⟩)
 obtain ⟨_,W',ρ',hE⟩:=this
 exact ⟨hE.mono,fun i b' hi hb'=>by obtain ⟨b,h1,_⟩:=hE.surv i b' hi hb';exact ⟨b,h1⟩⟩
theorem RS.stepN {ops:Array Oper} {rs:List Rk} {o:Oper} {l:List Oper} {f:Fr} {h:SH} {K:Fr→SH→Prop} (hw:wantB ops o f=some true) (hd:okDst f.nt o.dst=true)
 (h1:∀ a,Agr f a→h.WF→Sat P h.den→bndA h.den.n a→(∀ x∈o.op.operands,okOp P.globals.size x)→∃ v h',TX P o a.eval h.den v h'.den∧h'.WF∧RS P ops false (recP 0 false [] none::rs) l (f.put o.dst v) h' K):RS P ops false rs (o::l) f h K:=by
 intro xs a0 h0 a p
 have hso:ops[xs.length]?=some o:=by
  rw [← Array.getElem?_toList,← p.os,List.getElem?_append_right (by simp)];simp
 have hopk:=okOpsB_ok p.oks hso
 obtain ⟨v,h',htx,hwf,hk⟩:=h1 a p.agr p.wf p.sat p.bnd hopk
 obtain ⟨s1,s2⟩:=TX.sat htx hopk p.sat p.bnd
 obtain ⟨m1,m2⟩:=TX.more htx hopk p.sat p.bnd
 have hhide:∀ H:Hp,H.hide (fun _=>false)=H:=fun H=>Hp.eq (fun id=>by simp [Hp.hide]) rfl
 let x:Inf:={ o:=o,a:=a,h:=h.den,v:=v,h':=h'.den,hid:=fun _=>false,eff:=fun _=>true }
 refine hk (xs++[x]) a0 h0 (a.put o.dst v) ⟨chain_snoc p.chain rfl rfl,?_,?_,?_,(fun hd=>by cases hd),hwf,s1,put_bnd (bndA_mono m1 p.bnd) _ s2,p.agr.put hd v,p.oks⟩
 ·rw [List.map_append,List.append_assoc];exact p.os
 ·intro y hy
  rcases List.mem_append.1 hy with h2|h2
  ·exact p.ok y h2
  ·simp only [List.mem_singleton] at h2
   subst h2
   refine ⟨.inr ⟨wantB_ok p.agr hw,hopk,?_⟩,m1,fun id hid hn=>?_,(fun id he=>by cases he),fun id _=>rfl⟩
   ·show TX P o a.eval (h.den.hide fun _=>false) v (h'.den.hide fun _=>false)
    rw [hhide,hhide];exact htx
   ·show h'.den.m id=none
    cases hc:h'.den.m id with
    | none=>rfl
    | some b' =>
     obtain ⟨b,hb⟩:=m2 id b' hid hc
     have hn:h.den.m id=none:=hn
     rw [hn] at hb;cases hb
 ·simp [p.len]
def EX (P:Program) (g:FuncId) (args:List Value) (h:Hp) (Q:Value→Hp→Prop):Prop:=Sat P h→(∀ v∈args,bnd h.n v)→∃ v h',TF P g ⟨args⟩ h v h'∧Q v h'
theorem EX.mono {g:FuncId} {args:List Value} {h:Hp} {Q Q':Value→Hp→Prop} (he:EX P g args h Q) (hq:∀ v h',Sat P h→Q v h'→Q' v h'):EX P g args h Q':=by
 intro s b
 obtain ⟨v,h',t,q⟩:=he s b
 exact ⟨v,h',t,hq v h' s q⟩
theorem TF.ex {g:FuncId} {args:List Value} {h h':Hp} {v:Value} (ht:TF P g ⟨args⟩ h v h'):EX P g args h (fun v1 h1=>v1=v∧h1=h'):=fun _ _=>⟨v,h',ht,rfl,rfl⟩
section
variable {ops:Array Oper} {rs:List Rk} {l:List Oper} {fl:List (Nat × Value)} {nt:Nat} {h:SH} {K:Fr→SH→Prop} {d:Tmp} {ty:TypeId} {pos:String} {af:Array Edge} {gd:Option (Nat × Bool)}
theorem evAll_bnd {n:Nat} {a:Act} {f:Fr} (g:Agr f a) (hG:P.globals.size≤n) (hb:bndA n a):∀ {xs:List Operand} {vs:List Value},(∀ x∈xs,okOp P.globals.size x)→evAll f.l f.nt xs=some vs→∀ v∈vs,bnd n v:=by
 intro xs
 induction xs with
 | nil=>intro vs _ he v hv;simp only [evAll,Option.some.injEq] at he;subst he;cases hv
 | cons x xs ih =>
  intro vs hk he v hv
  have hall:=evAll_ok g he
  have:v∈(x::xs).map a.eval:=by rw [hall];exact hv
  obtain ⟨y,hy,rfl⟩:=List.mem_map.1 this
  exact eval_bnd hG hb y (hk y hy)
theorem RS.callEx {g0:FuncId} {xs:Array Operand} {ts:Array TypeId} {vs:List Value} [hg:GF P g0] (hw:wantB ops ⟨some d,.call { callee:=.value (.func g0),args:=xs,argTypes:=ts },ty,pos,af,gd⟩ ⟨fl,nt⟩=some true) (hd:Nat.blt d nt=true)
 (hx:evAll fl nt xs.toList=some vs) (ht:∀ B',Absb (P:=P) h B'→∃ Q,EX P g0 vs B' Q∧∀ v H' π,Q v H'→Sat P H'→B'.n≤H'.n→RS P ops false (recP 0 false [] none::rs) l ⟨(d,v)::fl,nt⟩ ⟨H',π,0,[]⟩ K) :
 RS P ops false rs (⟨some d,.call { callee:=.value (.func g0),args:=xs,argTypes:=ts },ty,pos,af,gd⟩::l) ⟨fl,nt⟩ h K:=by
 refine RS.stepN hw hd fun a g w s b hk=>?_
 obtain ⟨Q,he,hq⟩:=ht _ (Absb.of w s)
 have hgn:P.globals.size≤h.den.n:=by obtain ⟨ρ,W,ho⟩:=s;exact ho.gn
 obtain ⟨v,H',htf,q⟩:=he s (evAll_bnd g hgn b (fun x hx'=>hk x (by simp [Op.operands,Call.operands] at hx' ⊢;first|exact hx'|exact .inr hx'|exact .inl hx')) hx)
 have htx:=tx_call (ty:=ty) (pos:=pos) (af:=af) (gd:=gd) (d:=d) (ts:=ts) g hx htf
 have s1:=(TX.sat htx hk s b).1
 have m1:=(TX.more htx hk s b).1
 exact ⟨v,SH.of H',by rw [s1.den];exact htx,s1.wf,hq v H' _ q s1 m1⟩
theorem RS.callA {g0:FuncId} {xs:Array Operand} {ts:Array TypeId} {vs:List Value} {v:Value} [hg:GF P g0] (hw:wantB ops ⟨some d,.call { callee:=.value (.func g0),args:=xs,argTypes:=ts },ty,pos,af,gd⟩ ⟨fl,nt⟩=some true) (hd:Nat.blt d nt=true)
 (hx:evAll fl nt xs.toList=some vs) (ht:∀ B',Absb (P:=P) h B'→TF P g0 ⟨vs⟩ B' v B') (hk:RS P ops false (recP 0 false [] none::rs) l ⟨(d,v)::fl,nt⟩ h K) :
 RS P ops false rs (⟨some d,.call { callee:=.value (.func g0),args:=xs,argTypes:=ts },ty,pos,af,gd⟩::l) ⟨fl,nt⟩ h K :=
 RS.stepN hw hd fun _ g w s _ _=>⟨v,h,tx_call g hx (ht _ (Absb.of w s)),w,hk⟩
end
section
variable {ops:Array Oper} {rs:List Rk} {l:List Oper} {fl:List (Nat × Value)} {nt:Nat} {B:Hp} {π:Nat→Nat} {k:Nat} {hl:List (Nat × Option Blk)} {K:Fr→SH→Prop} {d:Tmp} {ty:TypeId} {pos:String} {af:Array Edge} {gd:Option (Nat × Bool)}
theorem RS.storeB {draw:Bool} {t:TypeId} {x y:Operand} {blk off size:Nat} {cs cs':List Value} {e:TypeId} {v:Value} [hu:TySz P t size] (hw:wantB ops ⟨none,.store t x y,ty,pos,af,gd⟩ ⟨fl,nt⟩=some true) (hx:Fr.ev ⟨fl,nt⟩ x=some (.pointer (some ⟨blk,off,none⟩))) (hy:Fr.ev ⟨fl,nt⟩ y=some v)
 (hb:B.m blk=some ⟨⟨cs⟩,e⟩) (hlt:blk < B.n) (hrw:rwM≤blk) (hn:off+size≤cs.length) (hsz:Nat.beq (cellsV v).length size=true) (hone:(cellsV v).all (·.oneCell')=true) (hc:setL cs off (cellsV v)=cs')
 (hk:RS P ops draw (recWB k [] (some [])::rs) l ⟨fl,nt⟩ ⟨B.set blk ⟨⟨cs'⟩,e⟩,π,k,hl⟩ K):RS P ops draw rs (⟨none,.store t x y,ty,pos,af,gd⟩::l) ⟨fl,nt⟩ ⟨B,π,k,hl⟩ K:=by
 have h2:=hu.eq
 cases hti:P.info? t with
 | none=>rw [hti] at h2;cases h2
 | some ti =>
  rw [hti] at h2
  have h3:ti.size=size:=by simpa using h2
  subst h3
  refine RS.step hw rfl (One.writeB (h:=⟨B,π,k,hl⟩) (vl:=[]) (nv:=some []) (b:=⟨⟨cs⟩,e⟩) (b':=⟨⟨cs'⟩,e⟩) hb (fun a g H hs=>?_) Nm_undef hlt) hk
  have hm:H.m blk=some ⟨⟨cs⟩,e⟩:=by rw [hs.b rfl blk hlt];exact hb
  have:=TX.store (P:=P) (o:=⟨none,.store t x y,ty,pos,af,gd⟩) (ev:=a.eval) (h:=H) rfl hti (g.ev hx) rfl hrw hm (by rw [g.ev hy,cellsV_eq];exact Nat.eq_of_beq_eq_true hsz) (by rw [g.ev hy];unfold oneCells;rw [cellsV_eq];simpa using hone) (by simpa using hn)
  rw [g.ev hy] at this
  simp only [setFrom_eq,cellsV_eq,hc] at this
  exact this
end
section
variable {ops:Array Oper} {draw:Bool} {rs:List Rk} {l:List Oper} {fl:List (Nat × Value)} {nt:Nat} {h:SH} {K:Fr→SH→Prop} {d:Tmp} {ty:TypeId} {pos:String} {af:Array Edge} {gd:Option (Nat × Bool)}
end
theorem ResV.bnd {fl:List (Nat × Value)} {nt:Nat} {h:SH} (w:h.WF) (s:Sat P h.den) {r:ResultVar} {v:Value} (hr:ResV P fl h r v) {a:Act} (hb:bndA h.den.n a) (g:Agr ⟨fl,nt⟩ a):Go.AH.bnd h.den.n v:=by
 cases hr with
 | tmp hv=>exact hb.1 _ (Array.mem_of_getElem? (g.get _ _ hv))
 | cell1 hx hi hbk hv =>
  have hm:=SH.m_loc w (blt_iff.1 hi)
  rw [hbk] at hm
  rw [nthV_eq] at hv
  exact s.bd _ _ hm _ (by simpa using List.mem_of_getElem? hv)
 | cellN hx hi hbk hn =>
  have hm:=SH.m_loc w (blt_iff.1 hi)
  rw [hbk] at hm
  rw [bnd_agg]
  intro u hu
  refine s.bd _ _ hm _ ?_
  simp only [List.mem_toArray,takeV_eq] at hu
  simpa using List.mem_of_mem_drop (List.mem_of_mem_take hu)
 | baseN hx hbk hn hv =>
  subst hv
  have hm:=SH.m_base w hbk
  rw [bnd_agg]
  intro u hu
  refine s.bd _ _ hm _ ?_
  simp only [List.mem_toArray,takeV_eq] at hu
  simpa using List.mem_of_mem_drop (List.mem_of_mem_take hu)
theorem ResVs.bnd {fl:List (Nat × Value)} {nt:Nat} {h:SH} (w:h.WF) (s:Sat P h.den) {rs:List ResultVar} {vs:List Value} (hr:ResVs P fl h rs vs) {a:Act} (hb:bndA h.den.n a) (g:Agr ⟨fl,nt⟩ a):Go.AH.bnd h.den.n (resultOf vs):=by
 have hall:∀ v∈vs,Go.AH.bnd h.den.n v:=by
  induction hr with
  | nil=>intro v hv;cases hv
  | cons h1 _ ih =>
   intro v hv
   rcases List.mem_cons.1 hv with e|e
   ·subst e;exact h1.bnd w s hb g
   ·exact ih v e
 match vs,hall with
 | [],_=>simp [resultOf]
 | [v],hall=>exact hall v (by simp)
 | u::v::l,hall =>
  simp only [resultOf,bnd_tuple]
  intro x hx
  exact hall x (by simpa using hx)
theorem EX.intro {g:FuncId} {fn:Func} {c:Code} {args:List Value} {nt:Nat} {h:Hp} {Q:Value→Hp→Prop} (hf:P.funcs[g]?=some fn) (hb:fn.body=some c) (ht:fn.ntmps=nt) (hn:Nat.ble args.length nt=true)
 (hw:∀ π:Nat→Nat,Sat P h→W P c ⟨enterL 0 args,nt⟩ ⟨h,π,0,[]⟩ (endsK P fn fun vs h'=>∀ B',Absb (P:=P) h' B'→Q (resultOf vs) B')):EX P g args h Q:=by
 subst ht
 intro s ha
 have hden:=s.den
 obtain ⟨e,f',h',a',k1,w1,s1,b1,g1,t1⟩:=hw (SH.of h).π s (enterAct fn ⟨args⟩) s.wf (by show Sat P (SH.of h).den;rw [hden];exact s) (by show bndA (SH.of h).den.n _;rw [hden];exact enterAct_bnd (fun x hx=>ha x (by simpa using hx))) (enter_agr (ble_iff.1 hn))
 have t1:TC P c (enterAct fn ⟨args⟩) (SH.of h).den e a' h'.den:=t1
 rw [hden] at t1
 have fin:∀ vs,(e=.ret∨e=.normal)→ResVs P f'.l h' fn.results.toList vs→(∀ B',Absb (P:=P) h' B'→Q (resultOf vs) B')→∃ v H,TF P g ⟨args⟩ h v H∧Q v H:=by
  intro vs he hr hq
  refine ⟨resultOf vs,h'.den,TF.intro hf hb he t1 g1.defers (fun hb1 hb2=>?_) (hr.is w1 g1),hq _ (Absb.of w1 s1)⟩
  exact hr.bnd w1 s1 b1 g1
 cases e with
 | ret=>obtain ⟨vs,h1,h2⟩:=k1;exact fin vs (.inl rfl) h1 h2
 | normal=>obtain ⟨vs,h1,h2⟩:=k1;exact fin vs (.inr rfl) h1 h2
 | _=>exact k1.elim
theorem TF.exact {g:FuncId} {fn:Func} {c:Code} {args:List Value} {nt:Nat} {h h2:Hp} {v:Value} (hf:P.funcs[g]?=some fn) (hb:fn.body=some c) (ht:fn.ntmps=nt) (hn:Nat.ble args.length nt=true)
 (hs:Sat P h→h.n≤h2.n∧bnd h2.n v∧∀ i b,h2.m i=some b→i < h2.n∧∀ u∈b.cells,bnd h2.n u)
 (hw:∀ π:Nat→Nat,Sat P h→W P c ⟨enterL 0 args,nt⟩ ⟨h,π,0,[]⟩ (endsK P fn fun vs h'=>∀ B',Absb (P:=P) h' B'→resultOf vs=v∧∀ i b,h2.m i=some b→B'.m i=some b)):TF P g ⟨args⟩ h v h2:=by
 intro ha ρ W hok
 have s:Sat P h:=⟨ρ,W,hok⟩
 obtain ⟨v1,h1,htf,hv,hm⟩:=EX.intro (Q:=fun u B'=>u=v∧∀ i b,h2.m i=some b→B'.m i=some b) hf hb ht hn hw s (fun x hx=>ha x (by simpa using hx))
 subst hv
 obtain ⟨g1,g2,g3⟩:=hs s
 refine (htf ha ρ W hok).mono ?_
 rintro e W' ⟨ρ',rfl,_,hok',hE⟩
 exact ⟨ρ',rfl,g2,⟨fun i b hb=>hok'.fits _ _ (hm i b hb),fun i b hb=>(g3 i b hb).1,fun i j b c hi0 hb hc hl=>hok'.inj _ _ _ _ hi0 (hm i b hb) (hm j c hc) hl,fun i b hb=>(g3 i b hb).2,hok'.glob,Nat.le_trans hok.gle g1,hok.gow⟩,
  ⟨hE.agree,g1,hE.kept,hE.size,fun i b hi0 hb hl=>hE.own i b hi0 (hm i b hb) hl,hE.tape,hE.os,hE.output,fun i b hin hb=>hE.surv i b hin (hm i b hb)⟩⟩
def roundN (P:Program) {X:Type} (F:X→List (Nat × Value)) (I:X→Hp→Prop) (μ:X→Nat) (nt:Nat) (x:X) (K:Exit→Fr→SH→Prop):Exit→Fr→SH→Prop
 | .normal,f,h=>∀ B',Absb (P:=P) h B'→∃ x':X,f.nt=nt∧AllV f.l (F x')∧I x' B'∧μ x' < μ x
 | e,f,h=>K e f h
theorem W.loopN {X:Type} {body:Code} {f:Fr} {h:SH} {K:Exit→Fr→SH→Prop} (F:X→List (Nat × Value)) (I:X→Hp→Prop) (μ:X→Nat)
 (h0:∀ B',Absb (P:=P) h B'→∃ x0,AllV f.l (F x0)∧I x0 B') (hr:∀ x B π,Sat P B→I x B→W P body ⟨F x,f.nt⟩ ⟨B,π,0,[]⟩ (roundN P F I μ f.nt x K)):W P (.loop body) f h K:=by
 intro a w s b g
 obtain ⟨x0,hf0,hI0⟩:=h0 _ (Absb.of w s)
 have key:∀ n (x:X) (B:Hp) (f1:Fr) (a1:Act),f1.nt=f.nt→μ x < n→I x B→Sat P B→bndA B.n a1→Agr f1 a1→AllV f1.l (F x) →
  ∃ e f' h' a',K e f' h'∧h'.WF∧Sat P h'.den∧bndA h'.den.n a'∧Agr f' a'∧TR P n body a1 B e a' h'.den:=by
  intro n
  induction n with
  | zero=>intro x B f1 a1 _ hm;omega
  | succ n ih =>
   intro x B f1 a1 hnt hm hI s1 b1 g1 ft
   have hden:=s1.den
   obtain ⟨e,f3,h3,a3,k3,w3,s3,b3,g3,t3⟩:=hr x B (SH.of B).π s1 hI a1 s1.wf (by show Sat P (SH.of B).den;rw [hden];exact s1) (by show bndA (SH.of B).den.n _;rw [hden];exact b1) (g1.weak (by simp [hnt]) fun t v hv=>ft.get t v hv)
   have t3:TC P body a1 (SH.of B).den e a3 h3.den:=t3
   rw [hden] at t3
   have outE:e≠.normal→K e f3 h3→∃ e f' h' a',K e f' h'∧h'.WF∧Sat P h'.den∧bndA h'.den.n a'∧Agr f' a'∧TR P (n+1) body a1 B e a' h'.den :=
    fun hne hk=>⟨e,f3,h3,a3,hk,w3,s3,b3,g3,TR.out t3 hne⟩
   cases e with
   | normal =>
    obtain ⟨x',hnt3,ft',hI',hμ⟩:=k3 _ (Absb.of w3 s3)
    obtain ⟨e,f4,h4,a4,k4,w4,s4,b4,g4,t4⟩:=ih x' _ f3 a3 hnt3 (by omega) hI' s3 b3 g3 ft'
    exact ⟨e,f4,h4,a4,k4,w4,s4,b4,g4,TR.next t3 t4⟩
   | _=>exact outE (by simp) k3
 obtain ⟨e,f',h',a',k1,w1,s1,b1,g1,t1⟩:=key (μ x0+1) x0 h.den f a rfl (by omega) hI0 s b g hf0
 exact ⟨e,f',h',a',k1,w1,s1,b1,g1,TR.loop t1⟩
section
variable {X:Type} {F:X→List (Nat × Value)} {I:X→Hp→Prop} {μ:X→Nat} {nt:Nat} {x:X} {K:Exit→Fr→SH→Prop} {f:Fr} {h:SH}
theorem roundN_n (hn:f.nt=nt) (hx:∀ B',Absb (P:=P) h B'→∃ x':X,AllV f.l (F x')∧I x' B'∧μ x' < μ x):roundN P F I μ nt x K .normal f h:=fun B' hB=>by
 obtain ⟨x',h1,h2,h3⟩:=hx B' hB
 exact ⟨x',hn,h1,h2,h3⟩
theorem roundN_e {i:Nat} (hk:K (.exit i) f h):roundN P F I μ nt x K (.exit i) f h:=hk
theorem roundN_r (hk:K .ret f h):roundN P F I μ nt x K .ret f h:=hk
def joinN (P:Program) (F:X→List (Nat × Value)) (I:X→Hp→Prop) (nt:Nat) (K:Exit→Fr→SH→Prop):Exit→Fr→SH→Prop
 | .normal,f,h=>∀ B',Absb (P:=P) h B'→∃ x:X,f.nt=nt∧AllV f.l (F x)∧I x B'
 | e,f,h=>K e f h
theorem joinN_n (hn:f.nt=nt) (hx:∀ B',Absb (P:=P) h B'→∃ x:X,AllV f.l (F x)∧I x B'):joinN P F I nt K .normal f h:=fun B' hB=>by
 obtain ⟨x',h1,h2⟩:=hx B' hB
 exact ⟨x',hn,h1,h2⟩
theorem joinN_imp {y:Code} (hy:∀ x B π,Sat P B→I x B→W P y ⟨F x,nt⟩ ⟨B,π,0,[]⟩ K):∀ e f h,joinN P F I nt K e f h→thenK P y K e f h:=by
 intro e f h hj
 cases e with
 | normal =>
  refine W.absorbX fun B' π hB=>?_
  obtain ⟨x,hn,ft,hI⟩:=hj B' hB
  exact W.weak (f':=⟨F x,nt⟩) hn.symm (fun t v hv=>ft.get t v hv) (hy x B' π hB.sat hI)
 | _=>exact hj
end
theorem W.joinNT {X:Type} {c y:Code} {f:Fr} {h:SH} {K:Exit→Fr→SH→Prop} (F:X→List (Nat × Value)) (I:X→Hp→Prop)
 (hx:W P c f h (joinN P F I f.nt K)) (hy:∀ x B π,Sat P B→I x B→W P y ⟨F x,f.nt⟩ ⟨B,π,0,[]⟩ K):W P c f h (thenK P y K):=W.mono hx (joinN_imp hy)
end Go.AH
namespace Go.AH
variable {P:Program}
inductive StkRow (h:Hp) (e:TypeId):Option Addr→Nat→List Value→Prop
 | nil:StkRow h e none 0 []
 | row {r cap:Nat} {vs t:List Value} (hm:h.m r=some ⟨⟨vs++t⟩,e⟩) (hr:rwM≤r) (hc:cap=capOf 1∨(cap=vs.length+t.length∧cap < capMark)):StkRow h e (some ⟨r,0,none⟩) cap vs
section
variable {ops:Array Oper} {rs:List Rk} {l:List Oper} {fl:List (Nat × Value)} {nt:Nat} {B:Hp} {K:Fr→SH→Prop} {d:Tmp} {ty:TypeId} {pos:String} {af:Array Edge} {gd:Option (Nat × Bool)}
theorem RS.appendNilB {draw:Bool} {π:Nat→Nat} {k:Nat} {hl:List (Nat × Option Blk)} {t e:TypeId} {x y:Operand} {i off n c sz by':Nat} {ds cs:List Value} {z:Value} {e2:TypeId} [hu:TyU P t (.slice e)] [hs:TySz P e sz] [hb:TyBy P e by'] [hz:TyZ P e z] (hw:wantB ops ⟨some d,.call { callee:=.builtin .append,args:=#[x,y],argTypes:=#[t,t] },ty,pos,af,gd⟩ ⟨fl,nt⟩=some true) (hd:Nat.blt d nt=true)
 (hx:Fr.ev ⟨fl,nt⟩ x=some (.slice none 0 0)) (hy:Fr.ev ⟨fl,nt⟩ y=some (.slice (some ⟨i,off,none⟩) n c)) (hl0:Nat.beq (cellsV z).length sz=true) (hp0:Nat.blt 0 sz=true) (hbi:B.m i=some ⟨⟨ds⟩,e2⟩) (hin:i < B.n) (hn:off+n * sz≤ds.length) (hn0:0 < n) (hbig:n * by'≤140737488355328) (h63:n≤9223372036854775807) (hcs:takeV off (n * sz) ds=cs)
 (hk:RS P ops draw (recN k true [] (some [k]) none::rs) l ⟨(d,.slice (some ⟨π k,0,none⟩) n (capOf sz))::fl,nt⟩ ⟨B,π,k+1,(k,some ⟨⟨cs⟩,e⟩)::hl⟩ K):RS P ops draw rs (⟨some d,.call { callee:=.builtin .append,args:=#[x,y],argTypes:=#[t,t] },ty,pos,af,gd⟩::l) ⟨fl,nt⟩ ⟨B,π,k,hl⟩ K:=by
 subst hcs
 have h1:=hz.eq
 have hsz:=hs.eq
 have hby:=hb.eq
 cases hi:P.info? e with
 | none=>rw [hi] at h1;cases h1
 | some ti =>
  rw [hi] at h1 hsz hby
  have h2:ti.zero=some z:=h1
  have h3:ti.size=sz:=by simpa using hsz
  have h4:ti.bytes=by':=by simpa using hby
  subst h3;subst h4
  have hzf:=freeB_bnd hz.fr
  have hl1:(cellsV z).length=ti.size:=Nat.eq_of_beq_eq_true hl0
  refine RS.step hw hd (One.new (h:=⟨B,π,k,hl⟩) (b:=⟨⟨takeV off (n * ti.size) ds⟩,e⟩) (cn:=none) (fun a g H hs=>?_) ?_ fun u hu=>trivial) hk
  ·have hm:H.m i=some ⟨⟨ds⟩,e2⟩:=by rw [hs.b rfl i hin];exact hbi
   have hsrc:srcCells H ti.size n (a.eval y)=some ⟨takeV off (n * ti.size) ds⟩:=by
    rw [g.ev hy]
    simp only [srcCells,hm]
    rw [if_pos ⟨trivial,by simpa using hn⟩]
    congr 1
    apply Array.ext'
    rw [takeV_eq];simp [Array.toList_extract,List.extract_eq_take_drop]
   have hlen:(takeV off (n * ti.size) ds).length=n * ti.size:=by rw [takeV_eq];simp;omega
   have:=TX.appendNew (P:=P) (o:=⟨some d,.call { callee:=.builtin .append,args:=#[x,y],argTypes:=#[t,t] },ty,pos,af,gd⟩) (ev:=a.eval) (h:=H) (len:=0) (cap:=0) (n:=n) (old:=#[]) (new:=⟨takeV off (n * ti.size) ds⟩) rfl hu.eq hu.eq rfl hi h2 hzf hu.ltE (by rw [cellsV_eq];exact hl1) (blt_iff.1 hp0) (g.ev hx) (by decide) rfl (by simp) (by rw [g.ev hy];rfl) hsrc (by simpa using hlen) (by omega) (by omega) (by rw [Nat.zero_add];exact hbig)
   rw [hs.n,Nat.zero_add,Array.empty_append] at this;exact this
  ·show ment _ _
   rw [ment];exact .inr ⟨k,by simp,rfl⟩
theorem TX.appendNil0 {d:Option Tmp} {ev:Operand→Value} {h:Hp} {x y:Operand} {t e:TypeId} {ei:TypeInfo} {A:Option Addr} {c:Nat} (ht:P.underlying t=some (.slice e)) (hi:P.info? e=some ei)
 (hx:ev x=.slice none 0 0) (hy:ev y=.slice A 0 c) :
 TX P ⟨d,.call { callee:=.builtin .append,args:=#[x,y],argTypes:=#[t,t] },ty,pos,af,gd⟩ ev h (.slice none 0 0) h :=
 .value fun hbd ρ W ev' hok he=>by
  have g1:=he x (by simp [Op.operands,Call.operands])
  have g2:=he y (by simp [Op.operands,Call.operands])
  rw [hx,ren_slice_none] at g1
  refine ⟨ρ,W,?_,by simp,hok,Ext.refl _ _ _⟩
  have hren:∃ A' c',ren ρ (.slice A 0 c)=.slice A' 0 c':=by
   cases A with
   | none=>exact ⟨none,c,by simp⟩
   | some b=>exact ⟨some (renAddr ρ b),renCap ρ b c,by simp⟩
  obtain ⟨A',c',hr⟩:=hren
  rw [hy,hr] at g2
  have hrun:=run_append_nil (P:=P) (W:=W) (ty:=ty) (len:=0) (cap:=0) (x:=.slice A' 0 c') (n:=0) (new:=#[]) ht ht rfl hi (by simp [Builtin.lenOf]) (by cases A'<;>simp [Builtin.firstCells,loadCells,loadCellsFrom]) (Nat.le_refl _)
  simp only [execOp,resolve,invoke,builtin,Sem.run_bind,Sem.run_pure,Result.andThen_ok,List.map_toArray,List.map_cons,List.map_nil,g1,g2,hrun,ren_slice_none,Nat.add_zero]
theorem RS.appendNil0 {draw:Bool} {h:SH} {t e:TypeId} {x y:Operand} {A:Option Addr} {n c:Nat} [hu:TyU P t (.slice e)] (hw:wantB ops ⟨some d,.call { callee:=.builtin .append,args:=#[x,y],argTypes:=#[t,t] },ty,pos,af,gd⟩ ⟨fl,nt⟩=some true) (hd:Nat.blt d nt=true)
 (hx:Fr.ev ⟨fl,nt⟩ x=some (.slice none 0 0)) (hy:Fr.ev ⟨fl,nt⟩ y=some (.slice A n c)) (hn:n=0) (hi:(P.info? e).isSome=true)
 (hk:RS P ops draw (recP h.k false [] none::rs) l ⟨(d,.slice none 0 0)::fl,nt⟩ h K):RS P ops draw rs (⟨some d,.call { callee:=.builtin .append,args:=#[x,y],argTypes:=#[t,t] },ty,pos,af,gd⟩::l) ⟨fl,nt⟩ h K:=by
 subst hn
 obtain ⟨ei,hi⟩:=Option.isSome_iff_exists.1 hi
 exact RS.still (nv:=none) hw hd (fun f g H=>TX.appendNil0 hu.eq hi (g.ev hx) (g.ev hy)) trivial hk
end
end Go.AH
namespace Go.AH
variable {P:Program}
def recX (k blk:Nat):Rk:={ vb:=false,vl:=[],k:=k,k':=k,w:=[],wb:=false,nv:=none,cn:=some [],sb:=some fun id=>id == blk }
def recGX (k j:Nat):Rk:={ vb:=true,vl:=[],k:=k,k':=k+1,w:=[],wb:=false,nv:=some [k],cn:=none,eb:=some fun id=>id == j }
def sideOK (j b:Nat):List Rk→Prop
 | []=>True
 | r::rs=>(r.eb=none∨r.eb=some fun id=>id == j)∧(r.sb=none∨r.sb=some fun id=>id == b)∧sideOK j b rs
section
variable {ops:Array Oper} {draw:Bool} {rs:List Rk} {l:List Oper} {fl:List (Nat × Value)} {nt:Nat} {B:Hp} {π:Nat→Nat} {k:Nat} {hl:List (Nat × Option Blk)} {K:Fr→SH→Prop} {d:Tmp} {ty:TypeId} {pos:String} {af:Array Edge} {gd:Option (Nat × Bool)}
theorem RS.load1X {t:TypeId} {x:Operand} {blk off:Nat} {cs:List Value} {e:TypeId} {v:Value} [hu:TyOne P t] (hw:wantB ops ⟨some d,.load t x,ty,pos,af,gd⟩ ⟨fl,nt⟩=some true) (hd:Nat.blt d nt=true) (hx:Fr.ev ⟨fl,nt⟩ x=some (.pointer (some ⟨blk,off,none⟩)))
 (hb:B.m blk=some ⟨⟨cs⟩,e⟩) (hlt:blk < B.n) (hv:cs[off]?=some v)
 (hk:RS P ops draw (recX k blk::rs) l ⟨(d,v)::fl,nt⟩ ⟨B,π,k,hl⟩ K):RS P ops draw rs (⟨some d,.load t x,ty,pos,af,gd⟩::l) ⟨fl,nt⟩ ⟨B,π,k,hl⟩ K:=by
 have h1:=hu.eq
 cases ht:P.underlying t with
 | none=>rw [ht] at h1;cases h1
 | some td =>
  rw [ht] at h1
  have h2:aggD td=false:=by simpa using h1
  have heff:∀ id,effR B.n π (recX k blk) id=false:=by
   intro id
   unfold effR recX
   by_cases h:id < B.n
   ·simp [h]
   ·simp only [h,if_false]
    cases hi:idx π k id with
    | none=>rfl
    | some i=>have:=(idx_some hi).1;simp [memL,this]
  refine RS.step hw hd (h':=⟨B,π,k,hl⟩) (v:=v) (r:=recX k blk) ⟨fun w a g=>?_,fun w=>w,rfl,rfl,rfl,rfl,Nat.le_refl _,fun _ _ _=>rfl,(fun _ id he=>by rw [heff] at he;cases he),fun _ _ _ hn=>hn,trivial,(fun _ id b he=>by rw [heff] at he;cases he)⟩ hk
  have hm:((⟨B,π,k,hl⟩:SH).den.hide (hidR B.n π (recX k blk))).m blk=some ⟨⟨cs⟩,e⟩:=by
   have:hidR B.n π (recX k blk) blk=false:=by simp [hidR,recX,hlt]
   simp only [Hp.hide,this]
   exact SH.m_base w hb
  exact TX.load1 (P:=P) (o:=⟨some d,.load t x,ty,pos,af,gd⟩) (ev:=a.eval) rfl ht h2 (g.ev hx) rfl hm (by show cs.toArray[off]?=_;rw [List.getElem?_toArray];exact hv)
theorem SH.kill_base {h:SH} (_w:h.WF) {i:Nat} (hi:i < h.base.n):h.den.kill i=({ h with base:=h.base.kill i }:SH).den:=by
 refine Hp.eq (fun id=>?_) rfl
 simp only [Hp.kill,SH.den]
 by_cases e:id=i
 ·subst e;simp [hi]
 ·simp only [if_neg e]
end
end Go.AH
namespace Go.AH
variable {P:Program}
section
variable {ops:Array Oper} {rs:List Rk} {l:List Oper} {fl:List (Nat × Value)} {nt:Nat} {K:Fr→SH→Prop} {d:Tmp} {ty:TypeId} {pos:String} {af:Array Edge} {gd:Option (Nat × Bool)}
theorem RS.pushRow {h:SH} {t e:TypeId} {x y:Operand} {r q c by' sz:Nat} {L:List (List Value)} {v:List Value} {z:Value} {e3:TypeId} [hu:TyU P t (.slice e)] [hs:TySz P e sz] [hb:TyBy P e by'] [hz:TyZ P e z] (hw:wantB ops ⟨some d,.call { callee:=.builtin .append,args:=#[x,y],argTypes:=#[t,t] },ty,pos,af,gd⟩ ⟨fl,nt⟩=some true) (hd:Nat.blt d nt=true)
 (hx:Fr.ev ⟨fl,nt⟩ x=some (rowVl sz r L)) (hy:Fr.ev ⟨fl,nt⟩ y=some (.slice (some ⟨q,0,none⟩) 1 c)) (hl0:Nat.beq (cellsV z).length sz=true) (hp0:Nat.blt 0 sz=true) (hq:∀ B,Absb (P:=P) h B→B.m q=some ⟨⟨v⟩,e3⟩∧(L≠[]→rwM≤r∧B.m r=some ⟨⟨L.flatten⟩,e⟩)) (hL:∀ c∈L,c.length=sz) (hv:v.length=sz) (hone:v.all (·.oneCell')=true) (hbig:(L.length+1) * by'≤140737488355328) (h63:L.length+1≤9223372036854775807)
 (hk:∀ B,Absb (P:=P) h B→∀ r' H' π,Sat P H'→B.n≤r'→H'.m r'=some ⟨⟨(L++[v]).flatten⟩,e⟩→B.n≤H'.n→(∀ i,i < B.n→(L≠[]→i≠r)→H'.m i=B.m i) →
  RS P ops false (recP 0 false [] none::rs) l ⟨(d,rowVl sz r' (L++[v]))::fl,nt⟩ ⟨H',π,0,[]⟩ K):RS P ops false rs (⟨some d,.call { callee:=.builtin .append,args:=#[x,y],argTypes:=#[t,t] },ty,pos,af,gd⟩::l) ⟨fl,nt⟩ h K:=by
 have h1:=hz.eq
 have hsz:=hs.eq
 have hby:=hb.eq
 cases hi:P.info? e with
 | none=>rw [hi] at h1;cases h1
 | some ti =>
  rw [hi] at h1 hsz hby
  have h2:ti.zero=some z:=h1
  have h3:ti.size=sz:=by simpa using hsz
  have h4:ti.bytes=by':=by simpa using hby
  subst h4;subst h3
  have hzf:=freeB_bnd hz.fr
  have hl1:(cellsV z).length=ti.size:=Nat.eq_of_beq_eq_true hl0
  refine RS.stepN hw hd fun a g w s b hok=>?_
  have ab:=Absb.of w s
  replace hk:=hk _ ab
  replace hq:=hq _ ab
  replace ⟨hq,hst⟩:=hq
  generalize h.den=B at *
  have hsrc:srcCells B ti.size 1 (a.eval y)=some ⟨v⟩:=by
   rw [g.ev hy]
   simp only [srcCells,hq]
   rw [if_pos ⟨trivial,by simp [hv]⟩]
   congr 1
   apply Array.ext'
   simp [← hv]
  have hvl:rowVl ti.size B.n (L++[v])=.slice (some ⟨B.n,0,none⟩) (L.length+1) (capOf ti.size):=by
   rw [rowVl_eq,if_neg (by simp),if_neg (by simp)];simp
  have fin:∀ H',TX P ⟨some d,.call { callee:=.builtin .append,args:=#[x,y],argTypes:=#[t,t] },ty,pos,af,gd⟩ a.eval B (.slice (some ⟨B.n,0,none⟩) (L.length+1) (capOf ti.size)) H'→H'.m B.n=some ⟨⟨(L++[v]).flatten⟩,e⟩→(∀ i,i < B.n→(L≠[]→i≠r)→H'.m i=B.m i) →
   ∃ u h',TX P ⟨some d,.call { callee:=.builtin .append,args:=#[x,y],argTypes:=#[t,t] },ty,pos,af,gd⟩ a.eval B u h'.den∧h'.WF∧RS P ops false (recP 0 false [] none::rs) l (Fr.put ⟨fl,nt⟩ (some d) u) h' K:=by
   intro H' htx hm hoff
   have s1:=(TX.sat htx hok s b).1
   have m1:=(TX.more htx hok s b).1
   have:=hk B.n H' (SH.of H').π s1 (Nat.le_refl _) hm m1 hoff
   rw [hvl] at this
   exact ⟨_,SH.of H',by rw [s1.den];exact htx,s1.wf,this⟩
  by_cases hLe:L=[]
  ·subst hLe
   refine fin (B.push ⟨⟨v⟩,e⟩) ?_ (by show (if B.n=B.n then _ else _)=_;rw [if_pos rfl];simp) (fun i hi _=>by show (if i=B.n then _ else B.m i)=_;rw [if_neg (by omega)])
   have:=TX.appendNew (P:=P) (o:=⟨some d,.call { callee:=.builtin .append,args:=#[x,y],argTypes:=#[t,t] },ty,pos,af,gd⟩) (ev:=a.eval) (h:=B) (len:=0) (cap:=0) (n:=1) (old:=#[]) (new:=⟨v⟩) rfl hu.eq hu.eq rfl hi h2 hzf hu.ltE (by rw [cellsV_eq];exact hl1) (blt_iff.1 hp0) (g.ev hx) (by decide) rfl (by simp) (by rw [g.ev hy];rfl) hsrc (by simp [hv]) (by omega) (by omega) (by simpa using hbig)
   simpa using this
  ·obtain ⟨hr,hm⟩:=hst hLe
   have hrn:=s.dom _ _ hm
   have hx':a.eval x=.slice (some ⟨r,0,none⟩) L.length (capOf ti.size):=by
    rw [g.ev hx,rowVl_eq,if_neg hLe,if_neg hLe]
   refine fin ((B.kill r).push ⟨⟨(L++[v]).flatten⟩,e⟩) ?_ (by show (if B.n=B.n then _ else _)=_;rw [if_pos rfl]) (fun i hi hne=>?_)
   ·have:=TX.appendGrow (P:=P) (o:=⟨some d,.call { callee:=.builtin .append,args:=#[x,y],argTypes:=#[t,t] },ty,pos,af,gd⟩) (ev:=a.eval) (h:=B) (i:=r) (len:=L.length) (n:=1) (b:=⟨⟨L.flatten⟩,e⟩) (new:=⟨v⟩) rfl hu.eq hu.eq rfl hi h2 hzf hu.ltE (by rw [cellsV_eq];exact hl1) (blt_iff.1 hp0) hx' hr hm rfl (by simp [flat_len hL]) (by rw [g.ev hy];rfl) hsrc (by simp [hv]) (by simpa using hone) h63 hbig
    rw [List.append_toArray] at this
    simpa using this
   ·show (if i=B.n then _ else (if i=r then none else B.m i))=_
    rw [if_neg (by omega),if_neg (hne hLe)]
end
end Go.AH
namespace Go.AH
variable {P:Program}
section
variable {ops:Array Oper} {rs:List Rk} {l:List Oper} {fl:List (Nat × Value)} {nt:Nat} {K:Fr→SH→Prop} {d:Tmp} {ty:TypeId} {pos:String} {af:Array Edge} {gd:Option (Nat × Bool)}
theorem RS.copyNil {h:SH} {t e:TypeId} {x y:Operand} {n c by' sz:Nat} {A:Option Addr} {z:Value} [hu:TyU P t (.slice e)] [hs:TySz P e sz] [hb:TyBy P e by'] [hz:TyZ P e z] (hw:wantB ops ⟨some d,.call { callee:=.builtin .append,args:=#[x,y],argTypes:=#[t,t] },ty,pos,af,gd⟩ ⟨fl,nt⟩=some true) (hd:Nat.blt d nt=true)
 (hx:Fr.ev ⟨fl,nt⟩ x=some (.slice none 0 0)) (hy:Fr.ev ⟨fl,nt⟩ y=some (.slice A n c)) (hl0:Nat.beq (cellsV z).length sz=true) (hp0:Nat.blt 0 sz=true) (vs:List Value)
 (hq:∀ B,Absb (P:=P) h B→n≠0→∃ b off cs e2,A=some ⟨b,off,none⟩∧B.m b=some ⟨⟨cs⟩,e2⟩∧off+n * sz≤cs.length∧takeV off (n * sz) cs=vs) (hbig:n * by'≤140737488355328) (h63:n≤9223372036854775807)
 (hk:∀ B,Absb (P:=P) h B→∀ A' c' H' π,Sat P H'→(n=0→A'=none∧c'=0)→(n≠0→∃ r,A'=some ⟨r,0,none⟩∧c'=capOf sz∧B.n≤r∧H'.m r=some ⟨⟨vs⟩,e⟩)→B.n≤H'.n→(∀ i,i < B.n→H'.m i=B.m i) →
  RS P ops false (recP 0 false [] none::rs) l ⟨(d,.slice A' n c')::fl,nt⟩ ⟨H',π,0,[]⟩ K):RS P ops false rs (⟨some d,.call { callee:=.builtin .append,args:=#[x,y],argTypes:=#[t,t] },ty,pos,af,gd⟩::l) ⟨fl,nt⟩ h K:=by
 have h1:=hz.eq
 have hsz:=hs.eq
 have hby:=hb.eq
 cases hi:P.info? e with
 | none=>rw [hi] at h1;cases h1
 | some ti =>
  rw [hi] at h1 hsz hby
  have h2:ti.zero=some z:=h1
  have h3:ti.size=sz:=by simpa using hsz
  have h4:ti.bytes=by':=by simpa using hby
  subst h4;subst h3
  have hzf:=freeB_bnd hz.fr
  have hl1:(cellsV z).length=ti.size:=Nat.eq_of_beq_eq_true hl0
  refine RS.stepN hw hd fun a g w s b hok=>?_
  have ab:=Absb.of w s
  replace hk:=hk _ ab
  replace hq:=hq _ ab
  generalize h.den=B at *
  have fin:∀ A' c' H',TX P ⟨some d,.call { callee:=.builtin .append,args:=#[x,y],argTypes:=#[t,t] },ty,pos,af,gd⟩ a.eval B (.slice A' n c') H'→(n=0→A'=none∧c'=0)→(n≠0→∃ r,A'=some ⟨r,0,none⟩∧c'=capOf ti.size∧B.n≤r∧H'.m r=some ⟨⟨vs⟩,e⟩)→(∀ i,i < B.n→H'.m i=B.m i) →
   ∃ u h',TX P ⟨some d,.call { callee:=.builtin .append,args:=#[x,y],argTypes:=#[t,t] },ty,pos,af,gd⟩ a.eval B u h'.den∧h'.WF∧RS P ops false (recP 0 false [] none::rs) l (Fr.put ⟨fl,nt⟩ (some d) u) h' K:=by
   intro A' c' H' htx h0 h1 hoff
   have s1:=(TX.sat htx hok s b).1
   have m1:=(TX.more htx hok s b).1
   exact ⟨_,SH.of H',by rw [s1.den];exact htx,s1.wf,hk A' c' H' (SH.of H').π s1 h0 h1 m1 hoff⟩
  by_cases hn:n=0
  ·subst hn
   exact fin none 0 B (TX.appendNil0 hu.eq hi (g.ev hx) (g.ev hy)) (fun _=>⟨rfl,rfl⟩) (fun h=>absurd rfl h) (fun _ _=>rfl)
  ·obtain ⟨q,off,cs,e2,hA,hm,hle,hvs⟩:=hq hn
   have hsrc:srcCells B ti.size n (a.eval y)=some ⟨vs⟩:=by
    rw [g.ev hy,hA]
    simp only [srcCells,hm]
    rw [if_pos ⟨trivial,by simpa using hle⟩,← hvs]
    congr 1
    apply Array.ext'
    rw [takeV_eq];simp [List.extract_eq_take_drop]
   have hlen:vs.length=n * ti.size:=by rw [← hvs,takeV_eq];simp;omega
   refine fin (some ⟨B.n,0,none⟩) (capOf ti.size) (B.push ⟨⟨vs⟩,e⟩) ?_ (fun h=>absurd h hn) (fun _=>⟨B.n,rfl,rfl,Nat.le_refl _,by show (if B.n=B.n then _ else _)=_;rw [if_pos rfl]⟩) (fun i hi=>by show (if i=B.n then _ else B.m i)=_;rw [if_neg (by omega)])
   have:=TX.appendNew (P:=P) (o:=⟨some d,.call { callee:=.builtin .append,args:=#[x,y],argTypes:=#[t,t] },ty,pos,af,gd⟩) (ev:=a.eval) (h:=B) (len:=0) (cap:=0) (n:=n) (old:=#[]) (new:=⟨vs⟩) rfl hu.eq hu.eq rfl hi h2 hzf hu.ltE (by rw [cellsV_eq];exact hl1) (blt_iff.1 hp0) (g.ev hx) (by decide) rfl (by simp) (by rw [g.ev hy];rfl) hsrc (by simpa using hlen) (by omega) (by omega) (by simpa using hbig)
   simpa using this
end
end Go.AH
namespace Go.AH
variable {P:Program}
section
variable {ops:Array Oper} {draw:Bool} {rs:List Rk} {l:List Oper} {fl:List (Nat × Value)} {nt:Nat} {B:Hp} {π:Nat→Nat} {k:Nat} {hl:List (Nat × Option Blk)} {K:Fr→SH→Prop} {d:Tmp} {ty:TypeId} {pos:String} {af:Array Edge} {gd:Option (Nat × Bool)}
theorem Nm_base {n0:Nat} {π:Nat→Nat} {v:Value} (hv:bnd n0 v):NmO n0 π (some []) v:=ment_of_bnd (n:=n0) (fun _ hi=>.inl hi) v hv
theorem RS.moveX {x:Operand} {v:Value} (hw:wantB ops ⟨some d,.move x,ty,pos,af,gd⟩ ⟨fl,nt⟩=some true) (hd:Nat.blt d nt=true) (hx:Fr.ev ⟨fl,nt⟩ x=some v) (hv:bnd B.n v)
 (hk:RS P ops draw (recP k false [] (some [])::rs) l ⟨(d,v)::fl,nt⟩ ⟨B,π,k,hl⟩ K):RS P ops draw rs (⟨some d,.move x,ty,pos,af,gd⟩::l) ⟨fl,nt⟩ ⟨B,π,k,hl⟩ K :=
 RS.still (nv:=some []) (h:=⟨B,π,k,hl⟩) hw hd (fun a g H=>by rw [← g.ev hx];exact TX.move rfl) (Nm_base hv) hk
theorem RS.nilCheckX {x:Operand} {A:Addr} (hw:wantB ops ⟨some d,.nilCheck x,ty,pos,af,gd⟩ ⟨fl,nt⟩=some true) (hd:Nat.blt d nt=true) (hx:Fr.ev ⟨fl,nt⟩ x=some (.pointer (some A))) (hv:A.block < B.n)
 (hk:RS P ops draw (recP k false [] (some [])::rs) l ⟨(d,.pointer (some A))::fl,nt⟩ ⟨B,π,k,hl⟩ K):RS P ops draw rs (⟨some d,.nilCheck x,ty,pos,af,gd⟩::l) ⟨fl,nt⟩ ⟨B,π,k,hl⟩ K :=
 RS.still (nv:=some []) (h:=⟨B,π,k,hl⟩) hw hd (fun a g H=>by
  have:=TX.nilCheck (P:=P) (o:=⟨some d,.nilCheck x,ty,pos,af,gd⟩) (ev:=a.eval) (h:=H) rfl (g.ev hx)
  rw [g.ev hx] at this;exact this) (Nm_base (by simpa using hv)) hk
theorem RS.fieldAddrX {t:TypeId} {x:Operand} {i off:Nat} {blk o0:Nat} [ho:FOff P t i off] (hw:wantB ops ⟨some d,.fieldAddr t x i,ty,pos,af,gd⟩ ⟨fl,nt⟩=some true) (hd:Nat.blt d nt=true) (hx:Fr.ev ⟨fl,nt⟩ x=some (.pointer (some ⟨blk,o0,none⟩))) (hv:blk < B.n)
 (hk:RS P ops draw (recP k false [] (some [])::rs) l ⟨(d,.pointer (some ⟨blk,o0+off,none⟩))::fl,nt⟩ ⟨B,π,k,hl⟩ K):RS P ops draw rs (⟨some d,.fieldAddr t x i,ty,pos,af,gd⟩::l) ⟨fl,nt⟩ ⟨B,π,k,hl⟩ K:=by
 refine RS.still (nv:=some []) (h:=⟨B,π,k,hl⟩) hw hd (fun a g H=>?_) (Nm_base (by simpa using hv)) hk
 have h1:=ho.eq
 unfold offOf at h1
 split at h1
 ·rename_i fs hu
  split at h1
  ·rename_i f hf
   split at h1
   ·rename_i fi hi
    cases hz:Nat.beq fi.size 0 with
    | true=>rw [hz] at h1;cases h1
    | false =>
     rw [hz] at h1
     simp only [cond_false,Option.some.injEq] at h1
     have:=TX.fieldAddr (P:=P) (o:=⟨some d,.fieldAddr t x i,ty,pos,af,gd⟩) (ev:=a.eval) (h:=H) rfl hu hf hi (fun e=>by rw [e] at hz;cases hz) (g.ev hx)
     rw [h1,add_eq] at this
     cases hb:Nat.beq off 0 with
     | true=>have:=Nat.eq_of_beq_eq_true hb;subst this;rw [hb] at *;exact this
     | false=>rw [hb] at this;exact this
   ·cases h1
  ·cases h1
 ·cases h1
theorem RS.load1BX {t:TypeId} {x:Operand} {blk off:Nat} {cs:List Value} {e:TypeId} {v:Value} [hu:TyOne P t] (hw:wantB ops ⟨some d,.load t x,ty,pos,af,gd⟩ ⟨fl,nt⟩=some true) (hd:Nat.blt d nt=true) (hx:Fr.ev ⟨fl,nt⟩ x=some (.pointer (some ⟨blk,off,none⟩)))
 (hb:B.m blk=some ⟨⟨cs⟩,e⟩) (hlt:blk < B.n) (hv:cs[off]?=some v) (hf:bnd B.n v)
 (hk:RS P ops draw (recP k true [] (some [])::rs) l ⟨(d,v)::fl,nt⟩ ⟨B,π,k,hl⟩ K):RS P ops draw rs (⟨some d,.load t x,ty,pos,af,gd⟩::l) ⟨fl,nt⟩ ⟨B,π,k,hl⟩ K:=by
 have h1:=hu.eq
 cases ht:P.underlying t with
 | none=>rw [ht] at h1;cases h1
 | some td =>
  rw [ht] at h1
  have h2:aggD td=false:=by simpa using h1
  refine RS.step hw hd (One.reads (h:=⟨B,π,k,hl⟩) (vb:=true) (vl:=[]) (nv:=some []) (fun a g H hs=>?_) (Nm_base hf)) hk
  exact TX.load1 (P:=P) (o:=⟨some d,.load t x,ty,pos,af,gd⟩) (ev:=a.eval) rfl ht h2 (g.ev hx) rfl (b:=⟨⟨cs⟩,e⟩) (by show H.m blk=_;rw [hs.b rfl blk hlt];exact hb) (by show cs.toArray[off]?=_;rw [List.getElem?_toArray];exact hv)
end
end Go.AH
namespace Go.AH
variable {P:Program}
theorem SH.WF.grow {h:SH} (w:h.WF) (l:List (Nat × Option Blk)):∀ d,({ h with k:=h.k+d,l:=l }:SH).WF:=by
 intro d
 induction d with
 | zero=>exact w.setL l
 | succ d ih=>exact ih.push l
def rowsOf (π:Nat→Nat) (H:Hp):Nat→List (Nat × Option Blk)
 | 0=>[]
 | k+1=>(k,H.m (π k))::rowsOf π H k
theorem rowsOf_at (π:Nat→Nat) (H:Hp):∀ k i,i < k→lookB (rowsOf π H k) i=H.m (π i):=by
 intro k
 induction k with
 | zero=>intro i hi;omega
 | succ k ih =>
  intro i hi
  rw [rowsOf,look_cons]
  by_cases e:k=i
  ·subst e;rw [if_pos rfl]
  ·rw [if_neg e];exact ih i (by omega)
theorem SH.part {h:SH} (w:h.WF) {H:Hp} (hle:h.den.n≤H.n) (hsv:∀ i b,i < h.den.n→H.m i=some b→∃ c,h.den.m i=some c) (hdom:∀ i b,H.m i=some b→i < H.n) (hold:∀ i,i < h.base.n→H.m i=h.base.m i) :
 ∃ d,H.n=h.den.n+d∧({ base:=h.base,π:=h.π,k:=h.k+d,l:=rowsOf h.π H (h.k+d) }:SH).den=H∧({ base:=h.base,π:=h.π,k:=h.k+d,l:=rowsOf h.π H (h.k+d) }:SH).WF:=by
 obtain ⟨D,hD⟩:∃ D,H.n=h.den.n+D:=⟨H.n - h.den.n,by omega⟩
 refine ⟨D,hD,?_,w.grow _ _⟩
 have hn:h.π (h.k+D)=H.n:=by rw [w.mono,hD];rfl
 refine Hp.eq (fun id=>?_) hn
 simp only [SH.den]
 by_cases hlt:id < h.base.n
 ·rw [if_pos hlt,hold id hlt]
 ·rw [if_neg hlt]
  cases hi:idx h.π (h.k+D) id with
  | some i =>
   obtain ⟨g1,g2⟩:=idx_some hi
   show lookB (rowsOf h.π H (h.k+D)) i=H.m id
   rw [rowsOf_at _ _ _ _ g1,g2]
  | none =>
   show none=H.m id
   cases hm:H.m id with
   | none=>rfl
   | some b =>
    exfalso
    have wg:=w.grow [] D
    have at':∀ i,i < h.k+D→h.π i≠id:=by
     intro i hlti e
     have:=idx_at (π:=h.π) (k:=h.k+D) wg.inj hlti
     rw [e,hi] at this
     cases this
    by_cases hl2:id < h.den.n
    ·obtain ⟨c,hc⟩:=hsv id b hl2 hm
     simp only [SH.den] at hc
     rw [if_neg hlt] at hc
     cases hj:idx h.π h.k id with
     | none=>rw [hj] at hc;cases hc
     | some j =>
      obtain ⟨q1,q2⟩:=idx_some hj
      exact at' j (by omega) q2
    ·have h3:=hdom id b hm
     have h4:=w.mono (id - h.den.n)
     refine at' (h.k+(id - h.den.n)) (by omega) ?_
     rw [h4]
     show h.den.n+(id - h.den.n)=id
     omega
def recY (k k':Nat):Rk:={ vb:=true,vl:=List.range k,k:=k,k':=k',w:=List.range k,wb:=false,nv:=none,cn:=none }
theorem hidY {n0:Nat} {π:Nat→Nat} {k k' id:Nat} (h:id < n0∨(idx π k' id).isSome=true):hidR n0 π (recY k k') id=false:=by
 unfold hidR recY
 by_cases hlt:id < n0
 ·simp [hlt]
 ·rcases h with h|h
  ·exact absurd h hlt
  ·simp only [hlt,if_false]
   cases hi:idx π k' id with
   | none=>rw [hi] at h;cases h
   | some i =>
    simp only
    by_cases hik:k≤i
    ·simp [hik]
    ·have:memL i (List.range k)=true:=memL_iff.2 (List.mem_range.2 (by omega))
     simp [this]
theorem effY {n0:Nat} {π:Nat→Nat} {k k' id:Nat}:effR n0 π (recY k k') id=true↔¬ id < n0∧(idx π k' id).isSome=true:=by
 unfold effR recY
 by_cases hlt:id < n0
 ·simp [hlt]
 ·simp only [hlt,if_false]
  cases hi:idx π k' id with
  | none=>simp
  | some i =>
   simp only [Option.isSome_some,not_false_eq_true,and_self,iff_true]
   by_cases hik:k≤i
   ·simp [hik]
   ·have:memL i (List.range k)=true:=memL_iff.2 (List.mem_range.2 (by omega))
    simp [this]
section
variable {ops:Array Oper} {draw:Bool} {rs:List Rk} {l:List Oper} {fl:List (Nat × Value)} {nt:Nat} {K:Fr→SH→Prop} {d:Tmp} {ty:TypeId} {pos:String} {af:Array Edge} {gd:Option (Nat × Bool)}
theorem RS.stepD {o:Oper} {f:Fr} {h:SH} (hw:wantB ops o f=some true) (hd:okDst f.nt o.dst=true)
 (h1:∀ a,Agr f a→h.WF→Sat P h.den→bndA h.den.n a→(∀ x∈o.op.operands,okOp P.globals.size x)→∃ v h' r,One P o f h v h' r∧RS P ops draw (r::rs) l (f.put o.dst v) h' K):RS P ops draw rs (o::l) f h K:=by
 intro xs a0 h0 a p
 have hso:ops[xs.length]?=some o:=by
  rw [← Array.getElem?_toList,← p.os,List.getElem?_append_right (by simp)];simp
 obtain ⟨v,h',r,hone,hk⟩:=h1 a p.agr p.wf p.sat p.bnd (okOpsB_ok p.oks hso)
 exact RS.step hw hd hone hk xs a0 h0 a p
theorem tx_callV {g0:FuncId} {c:Operand} {xs:Array Operand} {ts:Array TypeId} {vs:List Value} {v:Value} {a:Act} {H H':Hp} [hg:GF P g0] (g:Agr ⟨fl,nt⟩ a) (hc:Fr.ev ⟨fl,nt⟩ c=some (.func (.func g0) #[] #[])) (hx:evAll fl nt xs.toList=some vs) (ht:TF P g0 ⟨vs⟩ H v H') :
 TX P ⟨some d,.call { callee:=.value c,args:=xs,argTypes:=ts },ty,pos,af,gd⟩ a.eval H v H':=by
 have hok:=hg.ok
 cases hf:P.funcs[g0]? with
 | none=>rw [hf] at hok;cases hok
 | some fn =>
  rw [hf] at hok
  simp only [Option.map_some,Option.some.injEq,Bool.and_eq_true,Bool.not_eq_true'] at hok
  refine TX.call rfl (f:=g0) (first:=#[]) (captured:=#[]) (g.ev hc) hf hok.1 (by cases hb:fn.body<;>simp_all) ?_
  have:((#[]++xs.map a.eval)++#[]:Array Value)=⟨vs⟩:=by
   apply Array.ext'
   simp [evAll_ok g hx]
  rw [this];exact ht
theorem RS.callY {h:SH} {g0:FuncId} {c:Operand} {xs:Array Operand} {ts:Array TypeId} {vs:List Value} [hg:GF P g0] (hw:wantB ops ⟨some d,.call { callee:=.value c,args:=xs,argTypes:=ts },ty,pos,af,gd⟩ ⟨fl,nt⟩=some true) (hd:Nat.blt d nt=true)
 (hc:Fr.ev ⟨fl,nt⟩ c=some (.func (.func g0) #[] #[])) (hx:evAll fl nt xs.toList=some vs) (ht:∀ B',h.den=B'→Absb (P:=P) h B'→∃ Q,EX P g0 vs B' Q∧(∀ v H',Q v H'→∀ i,i < h.base.n→H'.m i=B'.m i) ∧
  ∀ v H' k' l',Q v H'→Sat P H'→B'.n≤H'.n→({ base:=h.base,π:=h.π,k:=k',l:=l' }:SH).den=H'→({ base:=h.base,π:=h.π,k:=k',l:=l' }:SH).WF→h.k≤k'→RS P ops draw (recY h.k k'::rs) l ⟨(d,v)::fl,nt⟩ { base:=h.base,π:=h.π,k:=k',l:=l' } K) :
 RS P ops draw rs (⟨some d,.call { callee:=.value c,args:=xs,argTypes:=ts },ty,pos,af,gd⟩::l) ⟨fl,nt⟩ h K:=by
 refine RS.stepD hw hd fun a g w s b hk=>?_
 obtain ⟨Q,he,hold,hq⟩:=ht _ rfl (Absb.of w s)
 have hgn:P.globals.size≤h.den.n:=by obtain ⟨ρ,W,ho⟩:=s;exact ho.gn
 obtain ⟨v,H',htf,q⟩:=he s (evAll_bnd g hgn b (fun x hx'=>hk x (by simp [Op.operands,Call.operands] at hx' ⊢;first|exact hx'|exact .inr hx'|exact .inl hx')) hx)
 have htx:=fun {a:Act} (g:Agr ⟨fl,nt⟩ a)=>tx_callV (ty:=ty) (pos:=pos) (af:=af) (gd:=gd) (d:=d) (ts:=ts) g hc hx htf
 have s1:=(TX.sat (htx g) hk s b).1
 obtain ⟨m1,m2⟩:=TX.more (htx g) hk s b
 have hbase:∀ i,i < h.base.n→H'.m i=h.base.m i:=fun i hi=>by rw [hold v H' q i hi];simp only [SH.den];rw [if_pos hi]
 obtain ⟨dd,_,hden,hwf⟩:=SH.part w m1 m2 s1.dom hbase
 have hpi:∀ {id:Nat} {bk:Blk},H'.m id=some bk→id < h.base.n∨(idx h.π (h.k+dd) id).isSome=true:=by
  intro id bk hb
  by_cases hlt:id < h.base.n
  ·exact .inl hlt
  ·right
   rw [← hden] at hb
   simp only [SH.den] at hb
   rw [if_neg hlt] at hb
   cases hi:idx h.π (h.k+dd) id with
   | none=>rw [hi] at hb;cases hb
   | some i=>rfl
 have hpi0:∀ {id:Nat} {bk:Blk},h.den.m id=some bk→id < h.base.n∨(idx h.π (h.k+dd) id).isSome=true:=by
  intro id bk hb
  by_cases hlt:id < h.base.n
  ·exact .inl hlt
  ·right
   simp only [SH.den] at hb
   rw [if_neg hlt] at hb
   cases hi:idx h.π h.k id with
   | none=>rw [hi] at hb;cases hb
   | some i =>
    obtain ⟨g1,g2⟩:=idx_some hi
    have:=idx_at (π:=h.π) (k:=h.k+dd) hwf.inj (show i < h.k+dd by omega)
    rw [g2] at this
    rw [this];rfl
 have hh0:h.den.hide (hidR h.base.n h.π (recY h.k (h.k+dd)))=h.den:=by
  refine Hp.eq (fun id=>?_) rfl
  simp only [Hp.hide]
  split
  ·rename_i he
   cases hb:h.den.m id with
   | none=>rfl
   | some bk=>rw [hidY (hpi0 hb)] at he;cases he
  ·rfl
 have hh1:H'.hide (hidR h.base.n h.π (recY h.k (h.k+dd)))=H':=by
  refine Hp.eq (fun id=>?_) rfl
  simp only [Hp.hide]
  split
  ·rename_i he
   cases hb:H'.m id with
   | none=>rfl
   | some bk=>rw [hidY (hpi hb)] at he;cases he
  ·rfl
 refine ⟨v,_,recY h.k (h.k+dd),⟨fun _ a g=>?_,fun _=>hwf,rfl,rfl,rfl,rfl,Nat.le_add_right _ _,fun _ id he=>?_,fun _ id he=>?_,fun _ id hid hn=>?_,trivial,fun _ id bk _ _ u _=>trivial⟩,hq v H' (h.k+dd) _ q s1 m1 hden hwf (Nat.le_add_right _ _)⟩
 ·rw [hden,hh0,hh1];exact htx g
 ·rw [hden]
  by_cases hlt:id < h.base.n
  ·rw [hbase id hlt];simp only [SH.den];rw [if_pos hlt]
  ·have hno:¬ (idx h.π (h.k+dd) id).isSome=true:=fun e=>by
    have:effR h.base.n h.π (recY h.k (h.k+dd)) id=true:=effY.2 ⟨hlt,e⟩
    rw [this] at he;cases he
   cases hb:H'.m id with
   | some bk => rcases hpi hb with h1 | h1
                ·exact absurd h1 hlt
                ·exact absurd h1 hno
   | none =>
    cases hb0:h.den.m id with
    | none=>rfl
    | some bk => rcases hpi0 hb0 with h1 | h1
                 ·exact absurd h1 hlt
                 ·exact absurd h1 hno
 ·exact hidY (.inr (effY.1 he).2)
 ·rw [hden]
  cases hb:H'.m id with
  | none=>rfl
  | some bk =>
   obtain ⟨c,hc⟩:=m2 id bk hid hb
   have hn:h.den.m id=none:=hn
   rw [hn] at hc;cases hc
end
end Go.AH
namespace Go.AH
variable {P:Program}
def freeOne (m j:Nat):Nat→List (Nat × Nat)
 | 0=>[]
 | i+1=>bif pairsOne.bitN m i then freeOne m j i else (i,j)::freeOne m j i
def freeAll:List Nat→Nat→List (Nat × Nat)
 | [],_=>[]
 | m::ms,j=>freeOne m j j++freeAll ms (j+1)
noncomputable def freeP (P:Program) (ops:Array Oper):Option (List (Nat × Nat)):=match planD P ops with
 | some l=>some (freeAll (l.map (·.2)) 0)
 | none=>none
theorem mem_freeOne {m j i:Nat}:∀ {n:Nat},i < n→pairsOne.bitN m i=false→(i,j)∈freeOne m j n:=by
 intro n
 induction n with
 | zero=>intro h;omega
 | succ n ih =>
  intro h hb
  rw [freeOne]
  by_cases e:i=n
  ·subst e;rw [hb];simp
  ·have:=ih (by omega) hb
   cases pairsOne.bitN m n with
   | true=>exact this
   | false=>exact List.mem_cons_of_mem _ this
theorem mem_freeAll {i:Nat}:∀ {ms:List Nat} {j0 q m:Nat},ms[q]?=some m→i < j0+q→pairsOne.bitN m i=false→(i,j0+q)∈freeAll ms j0:=by
 intro ms
 induction ms with
 | nil=>intro j0 q m h;simp at h
 | cons m0 ms ih =>
  intro j0 q m h hi hb
  rw [freeAll]
  cases q with
  | zero =>
   simp only [List.getElem?_cons_zero,Option.some.injEq] at h
   subst h
   exact List.mem_append.2 (.inl (mem_freeOne (by simpa using hi) hb))
  | succ q =>
   have:=ih (j0:=j0+1) (q:=q) (by simpa using h) (by omega) hb
   rw [show j0+1+q=j0+(q+1) by omega] at this
   exact List.mem_append.2 (.inr this)
theorem pairsOne_free {m:Nat} {y:Rk}:∀ {l:List Rk} {k:Nat},(∀ i x,l[i]?=some x→pairsOne.bitN m (k+i)=false→pairR x y=true)→pairsOne m y l k=true:=by
 intro l
 induction l with
 | nil=>intro k _;rfl
 | cons x l ih =>
  intro k h
  simp only [pairsOne,Bool.and_eq_true,Bool.or_eq_true]
  refine ⟨?_,ih fun i z hz hb=>h (i+1) z (by simpa using hz) (by rw [show k+(i+1)=k+1+i by omega];exact hb)⟩
  cases hb:pairsOne.bitN m k with
  | true=>exact .inl rfl
  | false=>exact .inr (h 0 x rfl hb)
theorem pairsAll_free {all:List Rk}:∀ {l:List Rk} {ms:List Nat} {j:Nat},(∀ i y m,l[i]?=some y→ms[i]?=some m→pairsOne m y (all.take (j+i)) 0=true)→pairsAll all l ms j=true:=by
 intro l
 induction l with
 | nil=>intro ms j _;cases ms<;>rfl
 | cons z l ih =>
  intro ms j h
  cases ms with
  | nil=>rfl
  | cons m ms =>
   simp only [pairsAll,Bool.and_eq_true]
   exact ⟨h 0 z m rfl rfl,ih fun i y m' hy hm=>by have:=h (i+1) y m' (by simpa using hy) (by simpa using hm);rwa [show j+(i+1)=j+1+i by omega] at this⟩
def pairsOK (rs:List Rk):List (Nat × Nat)→Prop
 | []=>True
 | (i,j)::L=>(∀ x y,rs[i]?=some x→rs[j]?=some y→pairR x y=true)∧pairsOK rs L
theorem pairsOK_mem {rs:List Rk} {i j:Nat}:∀ {L:List (Nat × Nat)},pairsOK rs L→(i,j)∈L→∀ x y,rs[i]?=some x→rs[j]?=some y→pairR x y=true:=by
 intro L
 induction L with
 | nil=>intro _ h;cases h
 | cons p L ih =>
  intro h hm
  rcases List.mem_cons.1 hm with e|e
  ·subst e;exact h.1
  ·exact ih h.2 e
theorem RS.nilP {ops:Array Oper} {rs:List Rk} {f:Fr} {h:SH} {K:Fr→SH→Prop} (hm:P.follows .mixedOrders=true) (L:List (Nat × Nat)) (hL:freeP P ops=some L) (hp:pairsOK rs.reverse L) (hs:plainR rs=true) (hk:K f h):RS P ops true rs [] f h K:=by
 refine RS.nilX hm (fun _=>?_) (fun _=>plainR_side hs) hk
 unfold freeP at hL
 unfold finalChk
 cases hpl:planD P ops with
 | none=>rw [hpl] at hL;cases hL
 | some l =>
  rw [hpl] at hL
  simp only [Option.some.injEq] at hL ⊢
  refine pairsAll_free fun j y m hy hmm=>pairsOne_free fun i x hx hb=>?_
  rw [Nat.zero_add] at hx hb
  have hi:i < j:=by
   have:=(List.getElem?_eq_some_iff.1 hx).1
   simp at this;omega
  rw [List.getElem?_take,if_pos hi] at hx
  have:=mem_freeAll (j0:=0) hmm (by omega) hb
  rw [Nat.zero_add,hL] at this
  exact pairsOK_mem hp this x y hx hy
theorem pairR_free {x y:Rk} (h1:x.k=x.k') (h2:x.w=[]) (h3:x.wb=false) (h4:x.eb=none) (h5:x.vl=[]) (h6:x.vb=false) (h7:y.wb=false) (h8:x.k'≤y.k) (h9:x.k'=0):pairR x y=true:=by
 have hb:Nat.beq x.k x.k'=true:=by rw [h1];simp
 have c1:crossB x y=true:=by
  unfold crossB
  rw [h2,h3,h4,hb]
  have hv:(y.vl.all fun j=>!memL j [] && (Nat.blt j x.k || Nat.ble x.k' j))=true:=by
   rw [List.all_eq_true]
   intro j _
   rw [h9]
   simp [memL]
  rw [hv]
  simp [noneB]
 have c2:crossB y x=true:=by
  unfold crossB
  rw [h5,h6,h7,hb]
  simp
 unfold pairR
 rw [c1,c2,hb,ble_iff.2 h8];rfl
def recGL (k q:Nat):Rk:={ vb:=true,vl:=[q],k:=k,k':=k+1,w:=[],wb:=true,nv:=none,cn:=none }
section
variable {ops:Array Oper} {draw:Bool} {rs:List Rk} {l:List Oper} {fl:List (Nat × Value)} {nt:Nat} {B:Hp} {π:Nat→Nat} {k:Nat} {hl:List (Nat × Option Blk)} {K:Fr→SH→Prop} {d:Tmp} {ty:TypeId} {pos:String} {af:Array Edge} {gd:Option (Nat × Bool)}
theorem RS.growL {t e:TypeId} {x y:Operand} {q j len n c sz by':Nat} {cs ds:List Value} {z:Value} {e2:TypeId} [hu:TyU P t (.slice e)] [hs:TySz P e sz] [hb:TyBy P e by'] [hz:TyZ P e z] (hw:wantB ops ⟨some d,.call { callee:=.builtin .append,args:=#[x,y],argTypes:=#[t,t] },ty,pos,af,gd⟩ ⟨fl,nt⟩=some true) (hd:Nat.blt d nt=true)
 (hx:Fr.ev ⟨fl,nt⟩ x=some (.slice (some ⟨j,0,none⟩) len (capOf sz))) (hy:Fr.ev ⟨fl,nt⟩ y=some (.slice (some ⟨π q,0,none⟩) n c)) (hl0:Nat.beq (cellsV z).length sz=true) (hp0:Nat.blt 0 sz=true) (hbj:B.m j=some ⟨⟨cs⟩,e⟩) (hjn:j < B.n) (hjr:rwM≤j) (hcs:cs.length=len * sz)
 (hqk:q < k) (hbq:lookB hl q=some ⟨⟨ds⟩,e2⟩) (hn:ds.length=n * sz) (hone:ds.all (·.oneCell')=true) (hbig:(len+n) * by'≤140737488355328) (h63:len+n≤9223372036854775807)
 (hk:RS P ops draw (recGL k q::rs) l ⟨(d,.slice (some ⟨π k,0,none⟩) (len+n) (capOf sz))::fl,nt⟩ ⟨B.kill j,π,k+1,(k,some ⟨⟨cs++ds⟩,e⟩)::hl⟩ K):RS P ops draw rs (⟨some d,.call { callee:=.builtin .append,args:=#[x,y],argTypes:=#[t,t] },ty,pos,af,gd⟩::l) ⟨fl,nt⟩ ⟨B,π,k,hl⟩ K:=by
 have h1:=hz.eq
 have hsz:=hs.eq
 have hby:=hb.eq
 cases hi:P.info? e with
 | none=>rw [hi] at h1;cases h1
 | some ti =>
  rw [hi] at h1 hsz hby
  have h2:ti.zero=some z:=h1
  have h3:ti.size=sz:=by simpa using hsz
  have h4:ti.bytes=by':=by simpa using hby
  subst h3;subst h4
  have hzf:=freeB_bnd hz.fr
  have hl1:(cellsV z).length=ti.size:=Nat.eq_of_beq_eq_true hl0
  let h:SH:=⟨B,π,k,hl⟩
  let b':Blk:=⟨⟨cs++ds⟩,e⟩
  let h':SH:=⟨B.kill j,π,k+1,(k,some b')::hl⟩
  have hwk:h.WF→(⟨B.kill j,π,k,hl⟩:SH).WF:=fun w=>⟨w.up,w.lo,w.hi,w.inj,w.bn,fun id b hb=>by
   have hb:(if id=j then none else B.m id)=some b:=hb
   split at hb
   ·cases hb
   ·exact w.bd id b hb,w.bo⟩
  have hden:h.WF→h'.den=(h.den.kill j).push b':=by
   intro w
   have h5:(⟨B.kill j,π,k,hl⟩:SH).den=h.den.kill j:=(SH.kill_base (h:=h) w hjn).symm
   rw [← h5]
   exact (SH.push_den (hwk w) b').symm
  have hm:∀ id,((h.den.kill j).push b').m id=if id=π k then some b' else if id=j then none else h.den.m id:=fun id=>rfl
  have hinj:h.WF→∀ a b,a < k+1→b < k+1→π a=π b→a=b:=fun w=>(w.push []).inj
  have hv1:h.WF→hidR B.n π (recGL k q) (π k)=false:=by
   intro w
   have hb0:¬ π k < B.n:=Nat.not_lt.2 w.bn
   simp only [hidR,recGL,if_neg hb0,idx_at (hinj w) (Nat.lt_succ_self _)]
   simp
  have hv2:hidR B.n π (recGL k q) j=false:=by simp [hidR,recGL,hjn]
  have hv3:h.WF→hidR B.n π (recGL k q) (π q)=false:=by
   intro w
   have hb0:¬ π q < B.n:=Nat.not_lt.2 (w.lo q hqk)
   simp only [hidR,recGL,if_neg hb0,idx_at (hinj w) (show q < k+1 by omega)]
   simp [memL]
  have heff:∀ {id:Nat},effR B.n π (recGL k q) id=true→id < B.n∨(¬ id < B.n∧id=π k):=by
   intro id he
   unfold effR recGL at he
   by_cases h0:id < B.n
   ·exact .inl h0
   ·simp only [h0,if_false] at he
    cases hx:idx π (k+1) id with
    | none=>rw [hx] at he;cases he
    | some p =>
     rw [hx] at he
     obtain ⟨g1,g2⟩:=idx_some hx
     simp only [Bool.or_eq_true,memL,Bool.false_eq_true,false_or,decide_eq_true_eq] at he
     have:p=k:=by omega
     subst this;exact .inr ⟨h0,g2.symm⟩
  refine RS.step hw hd (h':=h') (r:=recGL k q) (v:=.slice (some ⟨π k,0,none⟩) (len+n) (capOf ti.size)) ⟨fun w a g=>?_,fun w=>(hwk w).push _,rfl,rfl,rfl,rfl,Nat.le_succ _,fun w id he=>?_,fun w id he=>?_,fun w id hid hnn=>?_,trivial,fun w id c he hc u hu=>trivial⟩ hk
  ·show TX P _ a.eval (h.den.hide (hidR B.n π (recGL k q))) _ (h'.den.hide (hidR B.n π (recGL k q)))
   rw [hden w]
   have e1:((h.den.kill j).push b').hide (hidR B.n π (recGL k q))=((h.den.hide (hidR B.n π (recGL k q))).kill j).push b':=by
    refine Hp.eq (fun id=>?_) rfl
    show (if hidR B.n π (recGL k q) id=true then none else if id=π k then some b' else if id=j then none else h.den.m id)=(if id=π k then some b' else if id=j then none else if hidR B.n π (recGL k q) id=true then none else h.den.m id)
    by_cases e:id=π k
    ·rw [if_pos e,if_pos e,e,hv1 w];rfl
    ·rw [if_neg e,if_neg e]
     by_cases e2:id=j
     ·rw [if_pos e2,if_pos e2];split<;>rfl
     ·rw [if_neg e2,if_neg e2]
   rw [e1]
   have hmj:(h.den.hide (hidR B.n π (recGL k q))).m j=some ⟨⟨cs⟩,e⟩:=by
    simp only [Hp.hide,hv2]
    exact SH.m_base w hbj
   have hmq:(h.den.hide (hidR B.n π (recGL k q))).m (π q)=some ⟨⟨ds⟩,e2⟩:=by
    simp only [Hp.hide,hv3 w]
    exact (SH.m_loc w hqk).trans hbq
   have hsrc:srcCells (h.den.hide (hidR B.n π (recGL k q))) ti.size n (a.eval y)=some ⟨ds⟩:=by
    rw [g.ev hy]
    simp only [srcCells,hmq]
    rw [if_pos ⟨trivial,by simp [hn]⟩]
    congr 1
    apply Array.ext'
    simp [← hn]
   have:=TX.appendGrow (P:=P) (o:=⟨some d,.call { callee:=.builtin .append,args:=#[x,y],argTypes:=#[t,t] },ty,pos,af,gd⟩) (ev:=a.eval) (h:=h.den.hide (hidR B.n π (recGL k q))) (i:=j) (len:=len) (n:=n) (b:=⟨⟨cs⟩,e⟩) (new:=⟨ds⟩) rfl hu.eq hu.eq rfl hi h2 hzf hu.ltE (by rw [cellsV_eq];exact hl1) (blt_iff.1 hp0) (g.ev hx) hjr hmj rfl (by simpa using hcs) (by rw [g.ev hy];rfl) hsrc (by simpa using hn) (by simpa using hone) h63 hbig
   rw [List.append_toArray] at this
   exact this
  ·show h'.den.m id=h.den.m id
   rw [hden w,hm]
   by_cases e:id=π k
   ·exfalso
    have:effR B.n π (recGL k q) id=true:=by
     subst e
     have hb0:¬ π k < B.n:=Nat.not_lt.2 w.bn
     simp only [effR,recGL,if_neg hb0,idx_at (hinj w) (Nat.lt_succ_self _)]
     simp
    have he:effR B.n π (recGL k q) id=false:=he
    rw [this] at he;cases he
   ·rw [if_neg e]
    by_cases e2:id=j
    ·exfalso
     have:effR B.n π (recGL k q) id=true:=by
      subst e2
      simp [effR,recGL,hjn]
     have he:effR B.n π (recGL k q) id=false:=he
     rw [this] at he;cases he
    ·rw [if_neg e2]
  ·rcases heff he with e|⟨_,e⟩
   ·have e:id < B.n:=e
    show hidR B.n π (recGL k q) id=false
    simp [hidR,recGL,e]
   ·subst e;exact hv1 w
  ·show h'.den.m id=none
   rw [hden w,hm]
   have hid:id < π k:=hid
   have hnn:h.den.m id=none:=hnn
   rw [if_neg (by omega)]
   split
   ·rfl
   ·exact hnn
end
end Go.AH
namespace Go.AH
variable {P:Program}
theorem MapC.get_free (m:MapC) {z:Value} (hz:bnd 0 z) (n:Int):bnd 0 (m.get z n):=by
 unfold MapC.get
 split
 ·rename_i x hx
  simp only [bnd_tuple]
  intro v hv
  simp only [List.mem_toArray,List.mem_cons,List.not_mem_nil,or_false] at hv
  rcases hv with rfl|rfl
  ·exact rowE_free 0 x.2
  ·simp
 ·simp only [bnd_tuple]
  intro v hv
  simp only [List.mem_toArray,List.mem_cons,List.not_mem_nil,or_false] at hv
  rcases hv with rfl|rfl
  ·exact hz
  ·simp
section
variable {ops:Array Oper} {draw:Bool} {rs:List Rk} {l:List Oper} {fl:List (Nat × Value)} {nt:Nat} {B:Hp} {π:Nat→Nat} {k:Nat} {hl:List (Nat × Option Blk)} {K:Fr→SH→Prop} {d:Tmp} {ty:TypeId} {pos:String} {af:Array Edge} {gd:Option (Nat × Bool)}
theorem RS.lookup {t kt vt:TypeId} {x y:Operand} {mb:Nat} {m:MapC} {n:Int} {z v:Value} [hu:TyU P t (.map kt vt)] [hk2:TyU P kt (.int .i64)] [hz:TyZ P vt z] (hw:wantB ops ⟨some d,.lookup t x y true,ty,pos,af,gd⟩ ⟨fl,nt⟩=some true) (hd:Nat.blt d nt=true)
 (hx:Fr.ev ⟨fl,nt⟩ x=some (.map (some mb))) (hy:Fr.ev ⟨fl,nt⟩ y=some (.int .i64 n)) (hb:B.m mb=some ⟨⟨[]⟩,mapE m⟩) (hlt:mb < B.n) (hrw:rwM≤mb) (hs:m.s=0) (hv:m.get z n=v)
 (hk:RS P ops draw (recP k true [] (some [])::rs) l ⟨(d,v)::fl,nt⟩ ⟨B,π,k,hl⟩ K):RS P ops draw rs (⟨some d,.lookup t x y true,ty,pos,af,gd⟩::l) ⟨fl,nt⟩ ⟨B,π,k,hl⟩ K:=by
 subst hv
 have h1:=hz.eq
 cases hi:P.info? vt with
 | none=>rw [hi] at h1;cases h1
 | some ti =>
  rw [hi] at h1
  have h2:ti.zero=some z:=h1
  have hzf:=freeB_bnd hz.fr
  refine RS.step hw hd (One.reads (h:=⟨B,π,k,hl⟩) (vb:=true) (vl:=[]) (nv:=some []) (fun a g H hs'=>?_) (Nm_base (bnd_mono (Nat.zero_le _) _ (m.get_free hzf n)))) hk
  exact TX.lookup (P:=P) (o:=⟨some d,.lookup t x y true,ty,pos,af,gd⟩) (ev:=a.eval) rfl hu.eq hk2.eq hi h2 hzf (g.ev hx) (g.ev hy) hrw (cs:=⟨[]⟩) (by rw [hs'.b rfl mb hlt];exact hb) hs
theorem RS.delete {t kt vt kt2:TypeId} {x y:Operand} {mb:Nat} {m:MapC} {n:Int} {d:Option Tmp} [hu:TyU P t (.map kt vt)] [hk2:TyU P kt (.int .i64)] (hw:wantB ops ⟨d,.call { callee:=.builtin .delete,args:=#[x,y],argTypes:=#[t,kt2] },ty,pos,af,gd⟩ ⟨fl,nt⟩=some true) (hd:okDst nt d=true)
 (hx:Fr.ev ⟨fl,nt⟩ x=some (.map (some mb))) (hy:Fr.ev ⟨fl,nt⟩ y=some (.int .i64 n)) (hb:B.m mb=some ⟨⟨[]⟩,mapE m⟩) (hlt:mb < B.n) (hrw:rwM≤mb) (hs:m.s=0)
 (hk:RS P ops draw (recWB k [] (some [])::rs) l (Fr.put ⟨fl,nt⟩ d (.tuple #[])) ⟨B.set mb ⟨⟨[]⟩,mapE (m.del n)⟩,π,k,hl⟩ K):RS P ops draw rs (⟨d,.call { callee:=.builtin .delete,args:=#[x,y],argTypes:=#[t,kt2] },ty,pos,af,gd⟩::l) ⟨fl,nt⟩ ⟨B,π,k,hl⟩ K:=by
 refine RS.step hw hd (One.writeB (h:=⟨B,π,k,hl⟩) (vl:=[]) (nv:=some []) (b:=⟨⟨[]⟩,mapE m⟩) (b':=⟨⟨[]⟩,mapE (m.del n)⟩) hb (fun a g H hs'=>?_) (Nm_free (by simp)) hlt) hk
 exact TX.delete (P:=P) (o:=⟨d,.call { callee:=.builtin .delete,args:=#[x,y],argTypes:=#[t,kt2] },ty,pos,af,gd⟩) (ev:=a.eval) rfl hu.eq hk2.eq (g.ev hx) (g.ev hy) hrw (cs:=⟨[]⟩) (by rw [hs'.b rfl mb hlt];exact hb) hs
theorem RS.mapUpdate {t kt vt:TypeId} {x y w:Operand} {mb:Nat} {m:MapC} {row:List Int} [hu:TyU P t (.map kt vt)] [hk2:TyU P kt (.int .i64)] (hw:wantB ops ⟨none,.mapUpdate t x y w,ty,pos,af,gd⟩ ⟨fl,nt⟩=some true)
 (hx:Fr.ev ⟨fl,nt⟩ x=some (.map (some mb))) (hy:Fr.ev ⟨fl,nt⟩ y=some (.int .i64 (row.headD 0))) (hv:Fr.ev ⟨fl,nt⟩ w=some (mapKV 0 row).2) (hb:B.m mb=some ⟨⟨[]⟩,mapE m⟩) (hlt:mb < B.n) (hrw:rwM≤mb) (hs:m.s=0)
 (hk:RS P ops draw (recWB k [] (some [])::rs) l ⟨fl,nt⟩ ⟨B.set mb ⟨⟨[]⟩,mapE (m.put row)⟩,π,k,hl⟩ K):RS P ops draw rs (⟨none,.mapUpdate t x y w,ty,pos,af,gd⟩::l) ⟨fl,nt⟩ ⟨B,π,k,hl⟩ K:=by
 refine RS.step hw rfl (One.writeB (h:=⟨B,π,k,hl⟩) (vl:=[]) (nv:=some []) (b:=⟨⟨[]⟩,mapE m⟩) (b':=⟨⟨[]⟩,mapE (m.put row)⟩) hb (fun a g H hs'=>?_) Nm_undef hlt) hk
 exact TX.mapUpdate (P:=P) (o:=⟨none,.mapUpdate t x y w,ty,pos,af,gd⟩) (ev:=a.eval) rfl hu.eq hk2.eq (g.ev hx) (g.ev hy) (g.ev hv) hrw (cs:=⟨[]⟩) (by rw [hs'.b rfl mb hlt];exact hb) hs
theorem RS.makeMap {t kt vt:TypeId} [hu:TyU P t (.map kt vt)] (hw:wantB ops ⟨some d,.makeMap t none,ty,pos,af,gd⟩ ⟨fl,nt⟩=some true) (hd:Nat.blt d nt=true)
 (hk:RS P ops draw (recN k false [] (some [k]) (some [])::rs) l ⟨(d,.map (some (π k)))::fl,nt⟩ ⟨B,π,k+1,(k,some ⟨⟨[]⟩,mapE ⟨0,0,[]⟩⟩)::hl⟩ K):RS P ops draw rs (⟨some d,.makeMap t none,ty,pos,af,gd⟩::l) ⟨fl,nt⟩ ⟨B,π,k,hl⟩ K:=by
 refine RS.step hw hd (One.new (h:=⟨B,π,k,hl⟩) (b:=⟨⟨[]⟩,mapE ⟨0,0,[]⟩⟩) (fun a g H hs=>?_) ?_ fun u hu=>by simp at hu) hk
 ·have:=TX.makeMap (P:=P) (o:=⟨some d,.makeMap t none,ty,pos,af,gd⟩) (ev:=a.eval) (h:=H) rfl
  rw [hs.n] at this;exact this
 ·show ment _ _
  rw [ment];exact .inr ⟨k,by simp,rfl⟩
end
end Go.AH
namespace Go.AH
variable {P:Program}
def PostN (P:Program) (h0:Hp) (ρ0:Env) (W0:World) (K:Exit→Fr→SH→Prop) (e:Exit) (A:Act) (W':World):Prop :=
 ∃ f' h' a' ρ',K e f' h'∧h'.WF∧A=renA ρ' a'∧bndA h'.den.n a'∧Agr f' a'∧HOK P.globals.size h'.den ρ' W'∧Ext h0 h'.den ρ0 ρ' W0 W'
def WN (P:Program) (c:Code) (f:Fr) (h:SH) (K:Exit→Fr→SH→Prop):Prop :=
 ∀ a ρ W,h.WF→HOK P.globals.size h.den ρ W→bndA h.den.n a→Agr f a→c.wp P (PostN P h.den ρ W K) (renA ρ a) W
section
variable {c x y:Code} {f:Fr} {h:SH} {K K':Exit→Fr→SH→Prop}
theorem WN.ofW (hw:W P c f h K):WN P c f h K:=by
 intro a ρ W w ho b g
 obtain ⟨e,f',h',a',k1,w1,s1,b1,g1,t1⟩:=hw a w ⟨ρ,W,ho⟩ b g
 refine wp_mono (t1 b ρ W ho) ?_
 rintro e' A W' ⟨rfl,ρ',rfl,hb',ho',hE⟩
 exact ⟨f',h',a',ρ',k1,w1,rfl,hb',g1,ho',hE⟩
theorem WN.seq (hx:WN P x f h K') (hy:∀ f' h',K' .normal f' h'→WN P y f' h' K) (ho:∀ e f' h',e≠.normal→K' e f' h'→K e f' h'):WN P (.seq x y) f h K:=by
 intro a ρ W w hok b g
 refine wp_seq (wp_mono (hx a ρ W w hok b g) ?_)
 rintro e A W' ⟨f',h',a',ρ',k1,w1,rfl,b1,g1,ho1,hE⟩
 cases e with
 | normal =>
  refine wp_mono (hy f' h' k1 a' ρ' W' w1 ho1 b1 g1) ?_
  rintro e A W2 ⟨f2,h2,a2,ρ2,k2,w2,rfl,b2,g2,ho2,hE2⟩
  exact ⟨f2,h2,a2,ρ2,k2,w2,rfl,b2,g2,ho2,hE.trans hE2⟩
 | _=>exact ⟨f',h',a',ρ',ho _ _ _ (by simp) k1,w1,rfl,b1,g1,ho1,hE⟩
end
theorem HOK.leaveN {G:Nat} {h h1 h2:Hp} {τ:Nat→Nat} {ρ ρ':Env} {W W':World} (hok:HOK G h ρ W) (hok':HOK G h1 ρ' W') (hE:Ext h h1 ρ ρ' W W') (hn:h.n≤h2.n) (hτ:∀ i,i < h.n→τ i=i)
 (hdom:∀ i b,h2.m i=some b→i < h2.n) (hbd:∀ i b,h2.m i=some b→∀ u∈b.cells,bnd h2.n u) (hm:∀ i b,h2.m i=some b→h1.m (τ i)=some (subB τ b)) (hown:∀ i b,h2.m i=some b→h.n≤i→rwM≤h.n→rwM≤τ i)
 (hinj:∀ i j b c,h2.m i=some b→h2.m j=some c→τ i=τ j→i=j):HOK G h2 (subE τ ρ') W'∧Ext h h2 ρ (subE τ ρ') W W':=by
 have hr:∀ u,ren ρ' (Go.AH.sub τ u)=ren (subE τ ρ') u:=ren_sub τ ρ'
 have hown':∀ i b,h2.m i=some b→rwM≤i→rwM≤τ i:=fun i b hb hi0=>by
  by_cases hi:i < h.n
  ·rw [hτ i hi];exact hi0
  ·exact hown i b hb (by omega) hok.gle
 refine ⟨⟨fun i b hb=>?_,hdom,fun i j b c hi0 hb hc e=>?_,hbd,fun g hg=>?_,Nat.le_trans hok.gle hn,hok.gow⟩,⟨fun i hi=>?_,hn,hE.kept,hE.size,fun i b hi0 hb hl=>?_,hE.tape,hE.os,hE.output,fun i b hi hb=>?_⟩⟩
 ·have em:(subB τ b).cells.map (ren ρ')=b.cells.map (ren (subE τ ρ')):=by
   simp only [subB,Array.map_map]
   exact Array.map_congr_left fun u _=>hr u
  exact (hok'.fits (τ i) _ (hm i b hb)).conv rfl rfl em.symm (fun _=>rfl) rfl (hown' i b hb)
 ·exact hinj i j b c hb hc (hok'.inj _ _ _ _ (hown' i b hb hi0) (hm i b hb) (hm j c hc) e)
 ·show ρ'.loc (τ g)=g∧ρ'.sh (τ g)=0
  rw [hτ g (Nat.lt_of_lt_of_le hg hok.gn)];exact hok'.glob g hg
 ·show ρ'.loc (τ i)=_∧ρ'.cap (τ i)=_∧ρ'.sh (τ i)=_
  rw [hτ i hi];exact hE.agree i hi
 ·exact hE.own (τ i) _ (hown' i b hb hi0) (hm i b hb) hl
 ·have h3:=hm i b hb
  rw [hτ i hi] at h3
  obtain ⟨c,q1,q2,q3⟩:=hE.surv i _ hi h3
  have es:(subB τ b).cells.size=b.cells.size:=by simp [subB]
  rw [es] at q2 q3
  exact ⟨c,q1,q2,q3⟩
structure LeaveN (h h1 h2:Hp) (v1 v2:Value) (τ:Nat→Nat):Prop where
 old:∀ i,i < h.n→τ i=i
 at_:∀ i b,h2.m i=some b→h1.m (τ i)=some (subB τ b)
 own:∀ i b,h2.m i=some b→h.n≤i→rwM≤h.n→rwM≤τ i
 inj:∀ i j b c,h2.m i=some b→h2.m j=some c→τ i=τ j→i=j
 val:v1=sub τ v2
theorem TF.introN {g:FuncId} {fn:Func} {c:Code} {args:List Value} {nt:Nat} {h h2:Hp} {v2:Value} {Q:List Value→SH→Prop} (hf:P.funcs[g]?=some fn) (hb:fn.body=some c) (ht:fn.ntmps=nt) (hn:Nat.ble args.length nt=true)
 (hs:Sat P h→h.n≤h2.n∧bnd h2.n v2∧∀ i b,h2.m i=some b→i < h2.n∧∀ u∈b.cells,bnd h2.n u)
 (hfin:∀ vs h',h'.WF→Sat P h→Sat P h'.den→Q vs h'→∃ τ,LeaveN h h'.den h2 (resultOf vs) v2 τ) (hw:Sat P h→WN P c ⟨enterL 0 args,nt⟩ (SH.of h) (endsK P fn Q)):TF P g ⟨args⟩ h v2 h2:=by
 subst ht
 intro hargs ρ W hok
 have s:Sat P h:=⟨ρ,W,hok⟩
 have hden:=s.den
 refine calls_of_wp hf hb ?_
 rw [← enterAct_ren]
 refine wp_mono (hw s (enterAct fn ⟨args⟩) ρ W s.wf (by rw [hden];exact hok) (by rw [hden];exact enterAct_bnd hargs) (enter_agr (ble_iff.1 hn))) ?_
 rintro e A W' ⟨f',h',a',ρ',k,w,rfl,b',g',ho',hE⟩
 rw [hden] at hE
 have fin:∀ vs,ResVs P f'.l h' fn.results.toList vs→Q vs h'→(renA ρ' a').defers=[]∧∃ v,(results fn (renA ρ' a').tmps).run P W'=.ok v W'∧∃ ρ2,Ending.returned v=Ending.returned (ren ρ2 v2)∧bnd h2.n v2∧HOK P.globals.size h2 ρ2 W'∧Ext h h2 ρ ρ2 W W':=by
  intro vs hr hq
  obtain ⟨τ,lv⟩:=hfin vs h' w s ⟨ρ',W',ho'⟩ hq
  obtain ⟨g1,g2,g3⟩:=hs s
  obtain ⟨r1,r2⟩:=hok.leaveN ho' hE g1 lv.old (fun i b hb=>(g3 i b hb).1) (fun i b hb=>(g3 i b hb).2) lv.at_ lv.own lv.inj
  refine ⟨by simp [renA,g'.defers],_,hr.is w g' ρ' W' ho',_,?_,g2,r1,r2⟩
  rw [lv.val,ren_sub]
 cases e with
 | ret=>obtain ⟨vs,h1,h2⟩:=k;exact fin vs h1 h2
 | normal=>obtain ⟨vs,h1,h2⟩:=k;exact fin vs h1 h2
 | _=>exact k.elim
section
variable {o:Oper} {ev:Operand→Value} {h:Hp}
theorem tx_fieldAddr {t:TypeId} {x:Operand} {i off:Nat} {blk o0:Nat} [hf:FOff P t i off] (ho:o.op=.fieldAddr t x i) (hx:ev x=.pointer (some ⟨blk,o0,none⟩)):TX P o ev h (.pointer (some ⟨blk,o0+off,none⟩)) h:=by
 have h1:=hf.eq
 unfold offOf at h1
 split at h1
 ·rename_i fs hu
  split at h1
  ·rename_i f hf
   split at h1
   ·rename_i fi hi
    cases hz:Nat.beq fi.size 0 with
    | true=>rw [hz] at h1;cases h1
    | false =>
     rw [hz] at h1
     simp only [cond_false,Option.some.injEq] at h1
     have:=TX.fieldAddr (P:=P) (o:=o) (ev:=ev) (h:=h) ho hu hf hi (fun e=>by rw [e] at hz;cases hz) hx
     rw [h1,add_eq] at this
     cases hb:Nat.beq off 0 with
     | true=>have:=Nat.eq_of_beq_eq_true hb;subst this;rw [hb] at *;exact this
     | false=>rw [hb] at this;exact this
   ·cases h1
  ·cases h1
 ·cases h1
theorem tx_load1 {t:TypeId} {x:Operand} {blk off:Nat} {cs:List Value} {e:TypeId} {v:Value} [hu:TyOne P t] (ho:o.op=.load t x) (hx:ev x=.pointer (some ⟨blk,off,none⟩)) (hb:h.m blk=some ⟨⟨cs⟩,e⟩) (hv:cs[off]?=some v):TX P o ev h v h:=by
 have h1:=hu.eq
 cases ht:P.underlying t with
 | none=>rw [ht] at h1;cases h1
 | some td =>
  rw [ht] at h1
  simp only [Option.map_some,Option.some.injEq] at h1
  exact TX.load1 (P:=P) (o:=o) (ev:=ev) (h:=h) ho ht h1 hx rfl hb (by simpa using hv)
theorem tx_alloc {t:TypeId} {z:Value} [hz:TyZ P t z] (ho:o.op=.alloc t):TX P o ev h (.pointer (some ⟨h.n,0,none⟩)) (h.push ⟨⟨cellsV z⟩,t⟩):=by
 have h1:=hz.eq
 cases hi:P.info? t with
 | none=>rw [hi] at h1;cases h1
 | some ti =>
  rw [hi] at h1
  have:=TX.alloc (P:=P) (o:=o) (ev:=ev) (h:=h) ho hi (show ti.zero=some z from h1) (freeB_bnd hz.fr) hz.ltT
  rw [cellsV_eq] at this;exact this
theorem tx_store {t:TypeId} {x y:Operand} {blk off size:Nat} {cs:List Value} {e:TypeId} {v:Value} [hu:TySz P t size] (ho:o.op=.store t x y) (hx:ev x=.pointer (some ⟨blk,off,none⟩)) (hy:ev y=v)
 (hb:h.m blk=some ⟨⟨cs⟩,e⟩) (hrw:rwM≤blk) (hn:off+size≤cs.length) (hsz:(cellsV v).length=size) (hone:(cellsV v).all (·.oneCell')=true):TX P o ev h undef (h.set blk ⟨⟨setL cs off (cellsV v)⟩,e⟩):=by
 have h2:=hu.eq
 cases hti:P.info? t with
 | none=>rw [hti] at h2;cases h2
 | some ti =>
  rw [hti] at h2
  have h3:ti.size=size:=by simpa using h2
  subst h3
  have:=TX.store (P:=P) (o:=o) (ev:=ev) (h:=h) ho hti hx rfl hrw hb (by rw [hy,cellsV_eq];exact hsz) (by rw [hy];unfold oneCells;rw [cellsV_eq];simpa using hone) (by simpa using hn)
  rw [hy] at this
  simp only [setFrom_eq,cellsV_eq] at this
  exact this
end
section
variable {ops:Array Oper} {l:List Nat}
theorem wpOps_run {i:Nat} {o:Oper} {Q:Exit→Act→World→Prop} {A:Act} {W:World} (ho:ops[i]?=some o) (hg:o.guard=none) (hw:o.wp P A W (wpOps P ops Q l) Q):wpOps P ops Q (i::l) A W:=by
 rw [wpOps,ho]
 have:Region.wanted o (yielded ops A.tmps)=true:=by unfold Region.wanted;rw [hg]
 simp only [this,if_true]
 exact .inl hw
theorem wpOps_value {i:Nat} {o:Oper} {Q:Exit→Act→World→Prop} {A:Act} {W W':World} {v:Value} (ho:ops[i]?=some o) (hg:o.guard=none) (hr:(execOp A.eval o).run P W=.ok (.value v) W') (hw:wpOps P ops Q l (A.put o.dst v) W'):wpOps P ops Q (i::l) A W:=by
 refine wpOps_run ho hg ?_
 unfold Oper.wp
 rw [hr]
 exact hw
end
theorem WN.re {c:Code} {f':Fr} {h':SH} {F:List (Nat × Value)} {nt:Nat} {K:Exit→Fr→SH→Prop} (hnt:f'.nt=nt) (hF:AllV f'.l F) (hw:∀ B,Absb (P:=P) h' B→Sat P B→WN P c ⟨F,nt⟩ (SH.of B) K):WN P c f' h' K:=by
 intro a ρ W w ho b g
 have s:Sat P h'.den:=⟨ρ,W,ho⟩
 have hden:=s.den
 have:=hw _ (Absb.of w s) s a ρ W s.wf (by rw [hden];exact ho) (by rw [hden];exact b) (g.weak (by simp [hnt]) fun t v hv=>hF.get t v hv)
 rw [hden] at this
 exact this
end Go.AH
namespace Go.AH
variable {P:Program}
theorem pairR_calm {x y:Rk} (xw:x.wb=false) (xe:x.eb=none) (yw:y.wb=false) (ye:y.eb=none) (yvl:y.vl=[]) (yk:y.k=y.k') (yww:y.w=[]) (hk:x.k'≤y.k) (hv:∀ j∈x.vl,j < y.k) (hn:x.k=x.k'∨(y.nv=some []∧y.cn=some [])):pairR x y=true:=by
 have hb:Nat.beq y.k y.k'=true:=by rw [yk];simp
 have c1:crossB x y=true:=by
  unfold crossB
  rw [xw,xe,yvl,hb]
  simp [noneB]
 have c2:crossB y x=true:=by
  have hall:(x.vl.all fun j=>!memL j y.w && (Nat.blt j y.k || Nat.ble y.k' j))=true:=by
   rw [List.all_eq_true]
   intro j hj
   rw [yww]
   have:=blt_iff.2 (hv j hj)
   simp [memL,this]
  unfold crossB
  rw [hall,yw,ye,yww,hb]
  simp [noneB]
 have c3:(Nat.beq x.k x.k' || (outO x y.nv && outO x y.cn))=true:=by
  rcases hn with e|⟨e1,e2⟩
  ·rw [e];simp
  ·rw [e1,e2];simp [outO]
 unfold pairR
 rw [c1,c2,ble_iff.2 hk,c3];rfl
section
variable {ops:Array Oper} {draw:Bool} {rs:List Rk} {l:List Oper} {fl:List (Nat × Value)} {nt:Nat} {B:Hp} {π:Nat→Nat} {k:Nat} {hl:List (Nat × Option Blk)} {K:Fr→SH→Prop} {d:Tmp} {ty:TypeId} {pos:String} {af:Array Edge} {gd:Option (Nat × Bool)}
theorem RS.indexAddrX {t e:TypeId} {x y:Operand} {b off n cap sz i:Nat} {kk:IntKind} [hu:TyU P t (.slice e)] [hs:TySz P e sz] (hw:wantB ops ⟨some d,.indexAddr t x y,ty,pos,af,gd⟩ ⟨fl,nt⟩=some true) (hd:Nat.blt d nt=true) (hx:Fr.ev ⟨fl,nt⟩ x=some (.slice (some ⟨b,off,none⟩) n cap))
 (hy:Fr.ev ⟨fl,nt⟩ y=some (.int kk (i:Int))) (hi:i < n) (hv:b < B.n)
 (hk:RS P ops draw (recP k false [] (some [])::rs) l ⟨(d,.pointer (some ⟨b,off+i * sz,none⟩))::fl,nt⟩ ⟨B,π,k,hl⟩ K):RS P ops draw rs (⟨some d,.indexAddr t x y,ty,pos,af,gd⟩::l) ⟨fl,nt⟩ ⟨B,π,k,hl⟩ K:=by
 have h2:=hs.eq
 cases hti:P.info? e with
 | none=>rw [hti] at h2;cases h2
 | some ti =>
  rw [hti] at h2
  simp only [Option.map_some,Option.some.injEq] at h2
  refine RS.still (nv:=some []) (h:=⟨B,π,k,hl⟩) hw hd (fun c g H=>?_) (Nm_base (by simpa using hv)) hk
  have:=TX.indexAddr (P:=P) (o:=⟨some d,.indexAddr t x y,ty,pos,af,gd⟩) (ev:=c.eval) (h:=H) rfl hu.eq hti (g.ev hx) (g.ev hy) (by omega) (by omega)
  rw [h2,add_plain] at this
  simpa using this
theorem RS.neqSame {h:SH} {t yt:TypeId} {x y:Operand} {a b:ByteArray} (hw:wantB ops ⟨some d,.binOp .neq t x y yt,ty,pos,af,gd⟩ ⟨fl,nt⟩=some true) (hd:Nat.blt d nt=true)
 (hx:Fr.ev ⟨fl,nt⟩ x=some (.string a)) (hy:Fr.ev ⟨fl,nt⟩ y=some (.string b)) (he:a=b)
 (hk:RS P ops draw (recP h.k false [] (some [])::rs) l ⟨(d,.bool false)::fl,nt⟩ h K):RS P ops draw rs (⟨some d,.binOp .neq t x y yt,ty,pos,af,gd⟩::l) ⟨fl,nt⟩ h K:=by
 refine RS.binStr hw hd hx hy (v:=.bool false) ?_ hk
 subst he
 simp [binS]
end
theorem RS.loadNF {P:Program} {ops:Array Oper} {draw:Bool} {rs:List Rk} {l:List Oper} {fl:List (Nat × Value)} {nt:Nat} {d:Tmp} {ty:TypeId} {pos:String} {af:Array Edge} {gd:Option (Nat × Bool)} {B:Hp} {π:Nat→Nat} {k:Nat} {hl:List (Nat × Option Blk)} {K:Fr→SH→Prop} {t:TypeId} {x:Operand} {blk off size:Nat} {cs vs:List Value} {e:TypeId} [hu:TyAgg P t size] (hw:wantB ops ⟨some d,.load t x,ty,pos,af,gd⟩ ⟨fl,nt⟩=some true) (hd:Nat.blt d nt=true) (hx:Fr.ev ⟨fl,nt⟩ x=some (.pointer (some ⟨blk,off,none⟩)))
 (hb:B.m blk=some ⟨⟨cs⟩,e⟩) (hlt:blk < B.n) (hn:off+size≤cs.length) (hv:takeV off size cs=vs) (hf:∀ v∈vs,bnd B.n v)
 (hk:RS P ops draw (recP k true [] (some [])::rs) l ⟨(d,.agg ⟨vs⟩)::fl,nt⟩ ⟨B,π,k,hl⟩ K):RS P ops draw rs (⟨some d,.load t x,ty,pos,af,gd⟩::l) ⟨fl,nt⟩ ⟨B,π,k,hl⟩ K:=by
 subst hv
 obtain ⟨h1,h2⟩:=hu.eq
 cases ht:P.underlying t with
 | none=>rw [ht] at h1;cases h1
 | some td =>
  cases hti:P.info? t with
  | none=>rw [hti] at h2;cases h2
  | some ti =>
   rw [ht] at h1;rw [hti] at h2
   simp only [Option.map_some,Option.some.injEq] at h1 h2
   refine RS.step hw hd (One.reads (h:=⟨B,π,k,hl⟩) (vl:=[]) (nv:=some []) (fun a g H hs=>?_) (ment_of_bnd (n:=B.n) (fun i hi=>.inl hi) _ (by simpa using hf))) hk
   have:=TX.loadN (P:=P) (o:=⟨some d,.load t x,ty,pos,af,gd⟩) (ev:=a.eval) (h:=H) rfl ht h1 hti (g.ev hx) rfl (by rw [hs.b rfl blk hlt];exact hb) (by rw [h2];simpa using hn)
   rw [h2] at this
   rw [takeV_eq]
   simpa using this
end Go.AH
namespace Go.AH
variable {P:Program}
def cutH (H:Hp) (n:Nat):Hp:=⟨fun i=>if i < n then H.m i else none,n⟩
def recYE (k k':Nat) (e:Nat→Bool):Rk:={ vb:=true,vl:=List.range k,k:=k,k':=k',w:=List.range k,wb:=false,nv:=none,cn:=none,eb:=some e }
theorem hidYE {n0:Nat} {π:Nat→Nat} {k k' id:Nat} {e:Nat→Bool} (h:id < n0∨(idx π k' id).isSome=true):hidR n0 π (recYE k k' e) id=false:=by
 have:=hidY (k:=k) h
 unfold hidR recY at this
 unfold hidR recYE
 exact this
theorem effYE {n0:Nat} {π:Nat→Nat} {k k' id:Nat} {e:Nat→Bool}:effR n0 π (recYE k k' e) id=true↔(id < n0∧e id=true)∨(¬ id < n0∧(idx π k' id).isSome=true):=by
 have:=effY (n0:=n0) (π:=π) (k:=k) (k':=k') (id:=id)
 unfold effR recY at this
 unfold effR recYE
 by_cases hlt:id < n0
 ·simp [hlt]
 ·simp only [hlt,if_false,not_false_eq_true,true_and,false_and,false_or] at this ⊢
  exact this
theorem side_but {b:Nat}:∀ {rs:List Rk},(∀ x∈rs,(x.eb=none∨x.eb=some fun id=>!(id == b))∧(x.sb=none∨x.sb=some fun id=>id == b))→∀ x∈rs,∀ y∈rs,SideX x y:=by
 intro rs h x hx y hy e q he hq id hi
 rcases (h x hx).1 with h1|h1
 ·rw [h1] at he;cases he
 ·rw [h1] at he
  injection he with he
  subst he
  rcases (h y hy).2 with h2|h2
  ·rw [h2] at hq;cases hq
  ·rw [h2] at hq
   injection hq with hq
   subst hq
   simpa using hi
def sideBut (b:Nat):List Rk→Prop
 | []=>True
 | r::rs=>(r.eb=none∨r.eb=some fun id=>!(id == b))∧(r.sb=none∨r.sb=some fun id=>id == b)∧sideBut b rs
theorem sideBut_all {b:Nat}:∀ {rs:List Rk},sideBut b rs→∀ x∈rs,∀ y∈rs,SideX x y:=by
 intro rs h
 refine side_but (b:=b) ?_
 induction rs with
 | nil=>intro x hx;cases hx
 | cons r rs ih =>
  intro x hx
  rcases List.mem_cons.1 hx with e|e
  ·subst e;exact ⟨h.1,h.2.1⟩
  ·exact ih h.2.2 x e
theorem RS.nilPX {ops:Array Oper} {rs:List Rk} {f:Fr} {h:SH} {K:Fr→SH→Prop} (hm:P.follows .mixedOrders=true) (L:List (Nat × Nat)) (hL:freeP P ops=some L) (hp:pairsOK rs.reverse L) (hside:∀ x∈rs,∀ y∈rs,SideX x y) (hk:K f h):RS P ops true rs [] f h K:=by
 refine RS.nilX hm (fun _=>?_) (fun _=>hside) hk
 unfold freeP at hL
 unfold finalChk
 cases hpl:planD P ops with
 | none=>rw [hpl] at hL;cases hL
 | some l =>
  rw [hpl] at hL
  simp only [Option.some.injEq] at hL ⊢
  refine pairsAll_free fun j y m hy hmm=>pairsOne_free fun i x hx hb=>?_
  rw [Nat.zero_add] at hx hb
  have hi:i < j:=by
   have:=(List.getElem?_eq_some_iff.1 hx).1
   simp at this;omega
  rw [List.getElem?_take,if_pos hi] at hx
  have:=mem_freeAll (j0:=0) hmm (by omega) hb
  rw [Nat.zero_add,hL] at this
  exact pairsOK_mem hp this x y hx hy
section
variable {ops:Array Oper} {draw:Bool} {rs:List Rk} {l:List Oper} {fl:List (Nat × Value)} {nt:Nat} {K:Fr→SH→Prop} {d:Tmp} {ty:TypeId} {pos:String} {af:Array Edge} {gd:Option (Nat × Bool)}
theorem RS.callYE {h:SH} {g0:FuncId} {xs:Array Operand} {ts:Array TypeId} {vs:List Value} (e:Nat→Bool) [hg:GF P g0] (hw:wantB ops ⟨some d,.call { callee:=.value (.func g0),args:=xs,argTypes:=ts },ty,pos,af,gd⟩ ⟨fl,nt⟩=some true) (hd:Nat.blt d nt=true)
 (hx:evAll fl nt xs.toList=some vs) (ht:∀ B',h.den=B'→Absb (P:=P) h B'→∃ Q,EX P g0 vs B' Q∧(∀ v H',Q v H'→∀ i,i < h.base.n→e i=false→H'.m i=B'.m i) ∧
  ∀ v H' k' l',Q v H'→Sat P H'→B'.n≤H'.n→(∀ i c,i < B'.n→H'.m i=some c→∃ c',B'.m i=some c')→({ base:=cutH H' h.base.n,π:=h.π,k:=k',l:=l' }:SH).den=H'→({ base:=cutH H' h.base.n,π:=h.π,k:=k',l:=l' }:SH).WF→h.k≤k'→RS P ops draw (recYE h.k k' e::rs) l ⟨(d,v)::fl,nt⟩ { base:=cutH H' h.base.n,π:=h.π,k:=k',l:=l' } K) :
 RS P ops draw rs (⟨some d,.call { callee:=.value (.func g0),args:=xs,argTypes:=ts },ty,pos,af,gd⟩::l) ⟨fl,nt⟩ h K:=by
 refine RS.stepD hw hd fun a g w s b hk=>?_
 obtain ⟨Q,he,hold,hq⟩:=ht _ rfl (Absb.of w s)
 have hgn:P.globals.size≤h.den.n:=by obtain ⟨ρ,W,ho⟩:=s;exact ho.gn
 obtain ⟨v,H',htf,q⟩:=he s (evAll_bnd g hgn b (fun x hx'=>hk x (by simp [Op.operands,Call.operands] at hx' ⊢;first|exact hx'|exact .inr hx'|exact .inl hx')) hx)
 have htx:=fun {a:Act} (g:Agr ⟨fl,nt⟩ a)=>tx_call (ty:=ty) (pos:=pos) (af:=af) (gd:=gd) (d:=d) (ts:=ts) g hx htf
 have s1:=(TX.sat (htx g) hk s b).1
 obtain ⟨m1,m2⟩:=TX.more (htx g) hk s b
 have w0:({ h with base:=cutH H' h.base.n }:SH).WF:=⟨w.up,w.lo,w.hi,w.inj,w.bn,(fun i c hc=>by
  by_cases hi:i < h.base.n
  ·exact hi
  ·have hc:(if i < h.base.n then H'.m i else none)=some c:=hc
   rw [if_neg hi] at hc;cases hc),w.bo⟩
 have hbase:∀ i,i < h.base.n→H'.m i=(cutH H' h.base.n).m i:=fun i hi=>by
  show _=if i < h.base.n then H'.m i else none
  rw [if_pos hi]
 obtain ⟨dd,_,hden,hwf⟩:=SH.part (h:={ h with base:=cutH H' h.base.n }) w0 (H:=H') m1 (fun i c hi hc=>by
  by_cases hlt:i < h.base.n
  ·refine ⟨c,?_⟩
   show (if i < h.base.n then (cutH H' h.base.n).m i else _)=some c
   rw [if_pos hlt,← hbase i hlt];exact hc
  ·obtain ⟨c',hc'⟩:=m2 i c hi hc
   refine ⟨c',?_⟩
   simp only [SH.den] at hc' ⊢
   rw [if_neg hlt] at hc'
   rw [if_neg (show ¬ i < (cutH H' h.base.n).n from hlt)]
   exact hc') s1.dom hbase
 dsimp only at hden hwf
 have hpi:∀ {id:Nat} {bk:Blk},H'.m id=some bk→id < h.base.n∨(idx h.π (h.k+dd) id).isSome=true:=by
  intro id bk hb
  by_cases hlt:id < h.base.n
  ·exact .inl hlt
  ·right
   rw [← hden] at hb
   simp only [SH.den] at hb
   rw [if_neg (show ¬ id < (cutH H' h.base.n).n from hlt)] at hb
   cases hi:idx h.π (h.k+dd) id with
   | none=>rw [hi] at hb;cases hb
   | some i=>rfl
 have hpi0:∀ {id:Nat} {bk:Blk},h.den.m id=some bk→id < h.base.n∨(idx h.π (h.k+dd) id).isSome=true:=by
  intro id bk hb
  by_cases hlt:id < h.base.n
  ·exact .inl hlt
  ·right
   simp only [SH.den] at hb
   rw [if_neg hlt] at hb
   cases hi:idx h.π h.k id with
   | none=>rw [hi] at hb;cases hb
   | some i =>
    obtain ⟨g1,g2⟩:=idx_some hi
    have:=idx_at (π:=h.π) (k:=h.k+dd) hwf.inj (show i < h.k+dd by omega)
    rw [g2] at this
    rw [this];rfl
 have hh0:h.den.hide (hidR h.base.n h.π (recYE h.k (h.k+dd) e))=h.den:=by
  refine Hp.eq (fun id=>?_) rfl
  simp only [Hp.hide]
  split
  ·rename_i he
   cases hb:h.den.m id with
   | none=>rfl
   | some bk=>rw [hidYE (hpi0 hb)] at he;cases he
  ·rfl
 have hh1:H'.hide (hidR h.base.n h.π (recYE h.k (h.k+dd) e))=H':=by
  refine Hp.eq (fun id=>?_) rfl
  simp only [Hp.hide]
  split
  ·rename_i he
   cases hb:H'.m id with
   | none=>rfl
   | some bk=>rw [hidYE (hpi hb)] at he;cases he
  ·rfl
 refine ⟨v,_,recYE h.k (h.k+dd) e,⟨fun _ a g=>?_,fun _=>hwf,rfl,rfl,rfl,rfl,Nat.le_add_right _ _,fun _ id he=>?_,fun _ id he=>?_,fun _ id hid hn=>?_,trivial,fun _ id bk _ _ u _=>trivial⟩,hq v H' (h.k+dd) _ q s1 m1 m2 hden hwf (Nat.le_add_right _ _)⟩
 ·rw [hden,hh0,hh1];exact htx g
 ·rw [hden]
  by_cases hlt:id < h.base.n
  ·refine hold v H' q id hlt ?_
   cases hei:e id with
   | false=>rfl
   | true =>
    have:effR h.base.n h.π (recYE h.k (h.k+dd) e) id=true:=effYE.2 (.inl ⟨hlt,hei⟩)
    rw [this] at he;cases he
  ·have hno:¬ (idx h.π (h.k+dd) id).isSome=true:=fun hi=>by
    have:effR h.base.n h.π (recYE h.k (h.k+dd) e) id=true:=effYE.2 (.inr ⟨hlt,hi⟩)
    rw [this] at he;cases he
   cases hb:H'.m id with
   | some bk => rcases hpi hb with h1 | h1
                ·exact absurd h1 hlt
                ·exact absurd h1 hno
   | none =>
    cases hb0:h.den.m id with
    | none=>rfl
    | some bk => rcases hpi0 hb0 with h1 | h1
                 ·exact absurd h1 hlt
                 ·exact absurd h1 hno
 ·rcases effYE.1 he with h1|h1
  ·exact hidYE (.inl h1.1)
  ·exact hidYE (.inr h1.2)
 ·rw [hden]
  cases hb:H'.m id with
  | none=>rfl
  | some bk =>
   obtain ⟨c,hc⟩:=m2 id bk hid hb
   have hn:h.den.m id=none:=hn
   rw [hn] at hc;cases hc
end
end Go.AH
namespace Go.AH
variable {P:Program}
def f1Of (P:Program) (t:TypeId) (i:Nat):Option Nat:=match P.underlying t with
 | some (.struct fs)=>match fs[i]? with
  | some f=>match P.underlying f.type with
   | some d=>bif aggD d then none else some f.offset
   | none=>none
  | none=>none
 | _=>none
class FOne (P:Program) (t:TypeId) (i:Nat) (off:outParam Nat):Prop where
 eq:f1Of P t i=some off
end Go.AH
namespace Go.AH
variable {P:Program}
section
variable {ops:Array Oper} {draw:Bool} {rs:List Rk} {l:List Oper} {fl:List (Nat × Value)} {nt:Nat} {h:SH} {K:Fr→SH→Prop} {d:Tmp} {ty:TypeId} {pos:String} {af:Array Edge} {gd:Option (Nat × Bool)}
theorem RS.sliceArr {t e:TypeId} {x:Operand} {lo hi:Option Operand} {b off n sz l0 h0:Nat} [hu:TyU P t (.array n e)] [hs:TySz P e sz] (hw:wantB ops ⟨some d,.slice t x lo hi none,ty,pos,af,gd⟩ ⟨fl,nt⟩=some true) (hd:Nat.blt d nt=true) (hx:Fr.ev ⟨fl,nt⟩ x=some (.pointer (some ⟨b,off,none⟩)))
 (hlo:bndS fl nt lo 0 l0) (hhi:bndS fl nt hi n h0) (h1:l0≤h0) (h2:h0≤n) (h3:l0 < n) (hc:n < capMark)
 (hk:RS P ops draw (recP h.k false [] none::rs) l ⟨(d,.slice (some ⟨b,off+l0 * sz,none⟩) (h0 - l0) (n - l0))::fl,nt⟩ h K):RS P ops draw rs (⟨some d,.slice t x lo hi none,ty,pos,af,gd⟩::l) ⟨fl,nt⟩ h K:=by
 have hsz:=hs.eq
 cases hin:P.info? e with
 | none=>rw [hin] at hsz;cases hsz
 | some ti =>
  rw [hin] at hsz
  have h4:ti.size=sz:=by simpa using hsz
  subst h4
  refine RS.still (nv:=none) hw hd (fun a g H=>?_) trivial hk
  have:=TX.sliceArr (P:=P) (o:=⟨some d,.slice t x lo hi none,ty,pos,af,gd⟩) (ev:=a.eval) (h:=H) (n:=n) (l:=l0) (hh:=h0) rfl hu.eq hin (g.ev hx) (bndS_ok g hlo) (bndS_ok g hhi) h1 h2 hc
  rw [if_neg (by omega),add_plain] at this
  exact this
theorem RS.indexAddrArr {t e:TypeId} {x y:Operand} {b off n sz m:Nat} {k:IntKind} [hu:TyU P t (.array n e)] [hs:TySz P e sz] (hw:wantB ops ⟨some d,.indexAddr t x y,ty,pos,af,gd⟩ ⟨fl,nt⟩=some true) (hd:Nat.blt d nt=true) (hx:Fr.ev ⟨fl,nt⟩ x=some (.pointer (some ⟨b,off,none⟩)))
 (hy:Fr.ev ⟨fl,nt⟩ y=some (.int k (m:Int))) (hm:m < n)
 (hk:RS P ops draw (recP h.k false [] none::rs) l ⟨(d,.pointer (some ⟨b,off+m * sz,none⟩))::fl,nt⟩ h K):RS P ops draw rs (⟨some d,.indexAddr t x y,ty,pos,af,gd⟩::l) ⟨fl,nt⟩ h K:=by
 rw [← add_plain] at hk
 have hsz:=hs.eq
 cases hin:P.info? e with
 | none=>rw [hin] at hsz;cases hsz
 | some ti =>
  rw [hin] at hsz
  have h4:ti.size=sz:=by simpa using hsz
  subst h4
  refine RS.still (nv:=none) hw hd (fun a g H=>?_) trivial hk
  have:=TX.indexAddrA (P:=P) (o:=⟨some d,.indexAddr t x y,ty,pos,af,gd⟩) (ev:=a.eval) (h:=H) rfl hu.eq hin (g.ev hx) (g.ev hy) (by omega) (by omega)
  rw [Int.toNat_natCast] at this
  exact this
theorem RS.neg {t:TypeId} {x:Operand} {k:IntKind} {n:Int} (hw:wantB ops ⟨some d,.unOp .neg t x,ty,pos,af,gd⟩ ⟨fl,nt⟩=some true) (hd:Nat.blt d nt=true) (hx:Fr.ev ⟨fl,nt⟩ x=some (.int k n))
 (hk:RS P ops draw (recP h.k false [] (some [])::rs) l ⟨(d,.int k (k.wrap (0 - n)))::fl,nt⟩ h K):RS P ops draw rs (⟨some d,.unOp .neg t x,ty,pos,af,gd⟩::l) ⟨fl,nt⟩ h K :=
 RS.pure1 rfl (by simp) hw hd hx (by simp) (by simp) (fun ev W he=>by simp [execOp,he,Op.unary,Op.intArith]) hk
theorem RS.quoN {t yt:TypeId} {x y:Operand} {k:IntKind} {a b:Nat} (hw:wantB ops ⟨some d,.binOp .quo t x y yt,ty,pos,af,gd⟩ ⟨fl,nt⟩=some true) (hd:Nat.blt d nt=true)
 (hx:Fr.ev ⟨fl,nt⟩ x=some (.int k (a:Int))) (hy:Fr.ev ⟨fl,nt⟩ y=some (.int k (b:Int))) (h0:0 < b) (hf:k.wrap ((a / b:Nat):Int)=((a / b:Nat):Int))
 (hk:RS P ops draw (recP h.k false [] (some [])::rs) l ⟨(d,.int k ((a / b:Nat):Int))::fl,nt⟩ h K):RS P ops draw rs (⟨some d,.binOp .quo t x y yt,ty,pos,af,gd⟩::l) ⟨fl,nt⟩ h K:=by
 refine RS.quo hw hd hx hy (by omega) ?_
 rw [show (a:Int).tdiv (b:Int)=((a / b:Nat):Int) from rfl,hf]
 exact hk
theorem RS.remN {t yt:TypeId} {x y:Operand} {k:IntKind} {a b:Nat} (hw:wantB ops ⟨some d,.binOp .rem t x y yt,ty,pos,af,gd⟩ ⟨fl,nt⟩=some true) (hd:Nat.blt d nt=true)
 (hx:Fr.ev ⟨fl,nt⟩ x=some (.int k (a:Int))) (hy:Fr.ev ⟨fl,nt⟩ y=some (.int k (b:Int))) (h0:0 < b)
 (hk:RS P ops draw (recP h.k false [] (some [])::rs) l ⟨(d,.int k ((a % b:Nat):Int))::fl,nt⟩ h K):RS P ops draw rs (⟨some d,.binOp .rem t x y yt,ty,pos,af,gd⟩::l) ⟨fl,nt⟩ h K:=by
 refine RS.rem hw hd hx hy (by omega) ?_
 rw [show (a:Int).tmod (b:Int)=((a % b:Nat):Int) from rfl]
 exact hk
theorem RS.mulN {t yt:TypeId} {x y:Operand} {k:IntKind} {a b:Nat} (hw:wantB ops ⟨some d,.binOp .mul t x y yt,ty,pos,af,gd⟩ ⟨fl,nt⟩=some true) (hd:Nat.blt d nt=true)
 (hx:Fr.ev ⟨fl,nt⟩ x=some (.int k (a:Int))) (hy:Fr.ev ⟨fl,nt⟩ y=some (.int k (b:Int))) (hf:k.wrap ((a * b:Nat):Int)=((a * b:Nat):Int))
 (hk:RS P ops draw (recP h.k false [] (some [])::rs) l ⟨(d,.int k ((a * b:Nat):Int))::fl,nt⟩ h K):RS P ops draw rs (⟨some d,.binOp .mul t x y yt,ty,pos,af,gd⟩::l) ⟨fl,nt⟩ h K :=
 RS.bin hw hd hx hy (by simp only [binI];rw [← Int.natCast_mul,hf]) hk
theorem RS.addN {t yt:TypeId} {x y:Operand} {k:IntKind} {a b:Nat} (hw:wantB ops ⟨some d,.binOp .add t x y yt,ty,pos,af,gd⟩ ⟨fl,nt⟩=some true) (hd:Nat.blt d nt=true)
 (hx:Fr.ev ⟨fl,nt⟩ x=some (.int k (a:Int))) (hy:Fr.ev ⟨fl,nt⟩ y=some (.int k (b:Int))) (hf:k.wrap ((a+b:Nat):Int)=((a+b:Nat):Int))
 (hk:RS P ops draw (recP h.k false [] (some [])::rs) l ⟨(d,.int k ((a+b:Nat):Int))::fl,nt⟩ h K):RS P ops draw rs (⟨some d,.binOp .add t x y yt,ty,pos,af,gd⟩::l) ⟨fl,nt⟩ h K :=
 RS.bin hw hd hx hy (by simp only [binI];rw [← Int.natCast_add,hf]) hk
theorem wrap32 {n:Nat} (h:n≤4294967295):IntKind.u32.wrap (n:Int)=(n:Int):=by simp only [IntKind.wrap,IntKind.signed,IntKind.bits];simp;omega
theorem wrap64 {n:Nat} (h:n≤18446744073709551615):IntKind.u64.wrap (n:Int)=(n:Int):=wrapU64 (by omega) (by omega)
theorem wrapTo32 (n:Nat):IntKind.u32.wrap (n:Int)=((n % 4294967296:Nat):Int):=by simp only [IntKind.wrap,IntKind.signed,IntKind.bits];simp
theorem RS.convTo32 {src dst:TypeId} {x:Operand} {k:IntKind} {a:Nat} [hs:TyU P src (.int k)] [hu:TyU P dst (.int .u32)] (hw:wantB ops ⟨some d,.convert src dst x,ty,pos,af,gd⟩ ⟨fl,nt⟩=some true) (hd:Nat.blt d nt=true) (hx:Fr.ev ⟨fl,nt⟩ x=some (.int k (a:Int)))
 (hk:RS P ops draw (recP h.k false [] (some [])::rs) l ⟨(d,.int .u32 ((a % 4294967296:Nat):Int))::fl,nt⟩ h K):RS P ops draw rs (⟨some d,.convert src dst x,ty,pos,af,gd⟩::l) ⟨fl,nt⟩ h K:=by
 rw [← wrapTo32] at hk
 exact RS.convI hw hd hx hk
def byteAt (s:ByteArray) (n:Nat):Int:=match s[n]? with
 | some b=>(b.toNat:Int)
 | none=>0
theorem RS.indexAt {t:TypeId} {x y:Operand} {s:ByteArray} {k:IntKind} {n:Nat} [hu:TyU P t .string] (hw:wantB ops ⟨some d,.index t x y,ty,pos,af,gd⟩ ⟨fl,nt⟩=some true) (hd:Nat.blt d nt=true) (hx:Fr.ev ⟨fl,nt⟩ x=some (.string s)) (hy:Fr.ev ⟨fl,nt⟩ y=some (.int k (n:Int))) (hn:n < s.size)
 (hk:RS P ops draw (recP h.k false [] (some [])::rs) l ⟨(d,.int .u8 (byteAt s n))::fl,nt⟩ h K):RS P ops draw rs (⟨some d,.index t x y,ty,pos,af,gd⟩::l) ⟨fl,nt⟩ h K:=by
 refine RS.indexStr hw hd hx hy rfl hn ?_
 have:byteAt s n=((s[n]'hn).toNat:Int):=by unfold byteAt;simp [hn]
 rw [← this];exact hk
def u8s (d:List Int):List Value:=d.map (Value.int .u8)
theorem setL_u8s (d:List Int) (k:Nat) (b:Int):setL (u8s d) k [.int .u8 b]=u8s (d.set k b):=by
 unfold u8s
 induction d generalizing k with
 | nil=>cases k<;>rfl
 | cons a d ih =>
  cases k with
  | zero=>cases d<;>rfl
  | succ k=>simp only [List.map_cons,List.set_cons_succ];rw [setL];congr 1;exact ih k
theorem RS.negN {t:TypeId} {x:Operand} {k:IntKind} {n:Int} (m:Nat) (hw:wantB ops ⟨some d,.unOp .neg t x,ty,pos,af,gd⟩ ⟨fl,nt⟩=some true) (hd:Nat.blt d nt=true) (hx:Fr.ev ⟨fl,nt⟩ x=some (.int k n)) (hv:k.wrap (0 - n)=(m:Int))
 (hk:RS P ops draw (recP h.k false [] (some [])::rs) l ⟨(d,.int k (m:Int))::fl,nt⟩ h K):RS P ops draw rs (⟨some d,.unOp .neg t x,ty,pos,af,gd⟩::l) ⟨fl,nt⟩ h K:=by
 rw [← hv] at hk;exact RS.neg hw hd hx hk
end
section
variable {ops:Array Oper} {draw:Bool} {rs:List Rk} {l:List Oper} {fl:List (Nat × Value)} {nt:Nat} {B:Hp} {π:Nat→Nat} {k:Nat} {hl:List (Nat × Option Blk)} {K:Fr→SH→Prop} {d:Tmp} {ty:TypeId} {pos:String} {af:Array Edge} {gd:Option (Nat × Bool)}
theorem RS.bytesStrB {src dst e:TypeId} {x:Operand} {blk off n c:Nat} {cs:List Value} {ns:List Int} {e2:TypeId} [hs:TyU P src (.slice e)] [hd2:TyU P dst .string] [he:TyU P e (.int .u8)] (hw:wantB ops ⟨some d,.convert src dst x,ty,pos,af,gd⟩ ⟨fl,nt⟩=some true) (hd:Nat.blt d nt=true)
 (hx:Fr.ev ⟨fl,nt⟩ x=some (.slice (some ⟨blk,off,none⟩) n c)) (hb:B.m blk=some ⟨⟨cs⟩,e2⟩) (hlt:blk < B.n) (hcs:cs=ns.map fun z=>Value.int .u8 z) (hn:off+n≤ns.length)
 (hk:RS P ops draw (recP k true [] none::rs) l ⟨(d,.string ⟨(((ns.drop off).take n).map fun z=>UInt8.ofNat z.toNat).toArray⟩)::fl,nt⟩ ⟨B,π,k,hl⟩ K):RS P ops draw rs (⟨some d,.convert src dst x,ty,pos,af,gd⟩::l) ⟨fl,nt⟩ ⟨B,π,k,hl⟩ K:=by
 refine RS.step hw hd (One.reads (h:=⟨B,π,k,hl⟩) (vl:=[]) (nv:=none) (fun a g H hs'=>?_) trivial) hk
 have hm:H.m blk=some ⟨⟨cs⟩,e2⟩:=by rw [hs'.b rfl blk hlt];exact hb
 refine TX.bytesStr (P:=P) (o:=⟨some d,.convert src dst x,ty,pos,af,gd⟩) (ev:=a.eval) (h:=H) (ns:=(ns.drop off).take n) rfl hs.eq hd2.eq he.eq (g.ev hx) rfl hm (by subst hcs;simpa using hn) ?_
 subst hcs
 apply Array.ext'
 simp [List.extract_eq_take_drop,List.map_take,List.map_drop]
end
end Go.AH
namespace Go.AH
variable {P:Program}
section
variable {ops:Array Oper} {draw:Bool} {rs:List Rk} {l:List Oper} {fl:List (Nat × Value)} {nt:Nat} {B:Hp} {π:Nat→Nat} {k:Nat} {hl:List (Nat × Option Blk)} {K:Fr→SH→Prop} {d:Tmp} {ty:TypeId} {pos:String} {af:Array Edge} {gd:Option (Nat × Bool)}
theorem RS.appendFullL {t e:TypeId} {x y:Operand} {i j off len n c sz by':Nat} {cs ds:List Value} {z:Value} {e1 e2:TypeId} [hu:TyU P t (.slice e)] [hs:TySz P e sz] [hb:TyBy P e by'] [hz:TyZ P e z] (hw:wantB ops ⟨some d,.call { callee:=.builtin .append,args:=#[x,y],argTypes:=#[t,t] },ty,pos,af,gd⟩ ⟨fl,nt⟩=some true) (hd:Nat.blt d nt=true)
 (hx:Fr.ev ⟨fl,nt⟩ x=some (.slice (some ⟨π j,0,none⟩) len len)) (hy:Fr.ev ⟨fl,nt⟩ y=some (.slice (some ⟨π i,off,none⟩) n c)) (hl0:Nat.beq (cellsV z).length sz=true) (hp0:Nat.blt 0 sz=true) (hjk:Nat.blt j k=true) (hbj:lookB hl j=some ⟨⟨cs⟩,e1⟩) (hcs:cs.length=len * sz) (hlm:len < capMark)
 (hik:Nat.blt i k=true) (hbi:lookB hl i=some ⟨⟨ds⟩,e2⟩) (hn:off+n * sz≤ds.length) (hn0:0 < n) (hbig:(len+n) * by'≤140737488355328) (h63:len+n≤9223372036854775807)
 (hk:RS P ops draw (recN k false [j,i] (some [k]) none::rs) l ⟨(d,.slice (some ⟨π k,0,none⟩) (len+n) (capOf sz))::fl,nt⟩ ⟨B,π,k+1,(k,some ⟨⟨cs++takeV off (n * sz) ds⟩,e⟩)::hl⟩ K):RS P ops draw rs (⟨some d,.call { callee:=.builtin .append,args:=#[x,y],argTypes:=#[t,t] },ty,pos,af,gd⟩::l) ⟨fl,nt⟩ ⟨B,π,k,hl⟩ K:=by
 have h1:=hz.eq
 have hsz:=hs.eq
 have hby:=hb.eq
 cases hi:P.info? e with
 | none=>rw [hi] at h1;cases h1
 | some ti =>
  rw [hi] at h1 hsz hby
  have h2:ti.zero=some z:=h1
  have h3:ti.size=sz:=by simpa using hsz
  have h4:ti.bytes=by':=by simpa using hby
  subst h3;subst h4
  have hzf:=freeB_bnd hz.fr
  have hl1:(cellsV z).length=ti.size:=Nat.eq_of_beq_eq_true hl0
  refine RS.step hw hd (One.new (h:=⟨B,π,k,hl⟩) (b:=⟨⟨cs++takeV off (n * ti.size) ds⟩,e⟩) (cn:=none) (fun a g H hs=>?_) ?_ fun u hu=>trivial) hk
  ·have hmi:H.m (π i)=some ⟨⟨ds⟩,e2⟩:=by have:=hs.l i (memL_iff.2 (by simp)) (blt_iff.1 hik);rw [this];exact hbi
   have hmj:H.m (π j)=some ⟨⟨cs⟩,e1⟩:=by have:=hs.l j (memL_iff.2 (by simp)) (blt_iff.1 hjk);rw [this];exact hbj
   have hsrc:srcCells H ti.size n (a.eval y)=some ⟨takeV off (n * ti.size) ds⟩:=by
    rw [g.ev hy]
    simp only [srcCells,hmi]
    rw [if_pos ⟨trivial,by simpa using hn⟩]
    congr 1
    apply Array.ext'
    rw [takeV_eq];simp [Array.toList_extract,List.extract_eq_take_drop]
   have hold:srcCells H ti.size len (.slice (some ⟨π j,0,none⟩) len len)=some ⟨cs⟩:=by
    simp only [srcCells,hmj]
    rw [if_pos ⟨trivial,by simp [hcs]⟩]
    congr 1
    apply Array.ext'
    simp [Array.toList_extract,List.extract_eq_take_drop,← hcs]
   have hlen:(takeV off (n * ti.size) ds).length=n * ti.size:=by rw [takeV_eq];simp;omega
   have:=TX.appendNew (P:=P) (o:=⟨some d,.call { callee:=.builtin .append,args:=#[x,y],argTypes:=#[t,t] },ty,pos,af,gd⟩) (ev:=a.eval) (h:=H) (len:=len) (cap:=len) (n:=n) (old:=⟨cs⟩) (new:=⟨takeV off (n * ti.size) ds⟩) rfl hu.eq hu.eq rfl hi h2 hzf hu.ltE (by rw [cellsV_eq];exact hl1) (blt_iff.1 hp0) (g.ev hx) hlm hold (by simpa using hcs) (by rw [g.ev hy];rfl) hsrc (by simpa using hlen) (by omega) h63 hbig
   rw [hs.n,List.append_toArray] at this;exact this
  ·show ment _ _
   rw [ment];exact .inr ⟨k,by simp,rfl⟩
end
end Go.AH
namespace Go.AH
variable {P:Program} {H:Type} {enc:TypeId × Value→H} {G:Nat} {g0:Nat→Option Blk} {W:World}
def okW (l:List Nat):Prop:=∀ n∈l,n≤reachBytes
def TW (enc:TypeId × Value→H) (P:Program) (W:World) (t:TypeId) (cs:List Value):Prop :=
 ∃ fuel x,DataW.trod enc P W 0 (fun _=>true) true fuel t cs=some x∧okW (x.1.weights P t)
def fieldsOf (P:Program) (t:TypeId):Option (List (TypeId × Nat × Nat)):=match P.underlying t with
 | some (.struct fs)=>some (fs.toList.map fun f=>(f.type,f.offset,P.cellsOf f.type))
 | _=>none
def SegD (G:Nat) (g0:Nat→Option Blk) (W:World) (cs:List Value):Nat→List (Nat × Nat × (Hp→List Value→Prop))→Prop
 | off,[]=>cs.length=off
 | off,(w,N,Φ)::l=>UpΦ Φ∧D G g0 W ((cs.drop off).take w) N Φ∧SegD G g0 W cs (off+w) l
def SegΦ:List (Nat × Nat × (Hp→List Value→Prop))→Hp→List Value→Prop
 | [],_,acs=>acs=[]
 | (_,_,Φ)::l,H,acs=>∃ a1 a2,acs=a1++a2∧Φ H a1∧SegΦ l H a2
def segN:List (Nat × Nat × (Hp→List Value→Prop))→Nat
 | []=>0
 | (_,N,_)::l=>N+segN l
end Go.AH
