/- Contracts of functions that the law reaches -/
import Derived.KernelRfl
import Derived.Below
import Derived.Deep.Slices
import Derived.Handed
import Derived.Laws.Small
import GoSem.ClaimChange
import GoSem.ClaimJoined
import Derived.Test.YtplleokmejppjaaGreatDoorS1
set_option linter.all false
namespace Go.AH
variable{P:Program}
def gR(P:Program)(g:FuncId)(B:aV)(bK:Nat)(fe:List Nat)(args:(Nat->Nat)->List Value)(L:(Nat->Nat)->List (Nat×Option cd))(v:Value)(eX:(Nat->Nat)->List (Nat×Option cd)):Prop :=
 ∀π,(⟨B,π,bK,L π⟩:aY).WF->∃dq,(⟨B,dq,bK,eX dq⟩:aY).WF/\π bK<=dq bK/\(∀i,i<bK->(i∈fe/\dq i=π i/\∃b,ec (L π) i=some b)\/(¬i∈fe/\π bK<=dq i))/\bc P g ⟨args π⟩ (⟨B,π,bK,L π⟩:aY).a6 v (⟨B,dq,bK,eX dq⟩:aY).a6
def pV(π dq:Nat->Nat)(k:Nat)(m:List Nat)(i:Nat):Nat:=if i<k then(match e8 (λj=>(gE m j).getD 0) m.length i with|some j=>dq j|none=>π i) else dq m.length+(i-k)
def DO(n0:Nat)(π:Nat->Nat)(k:Nat)(m:List Nat)(id:Nat):Bool:=if id<n0 then false else match e8 π k id with|some a=>!ib a m|none=>false
variable{π dq:Nat->Nat}{m:List Nat}
section
variable{k:Nat}
def DP(hm:rv m k=true){j a}(h:gE m j=some a):pV π dq k m a=dq j:=by
 have:e8 (λj=>(gE m j).getD 0) m.length ((λj=>(gE m j).getD 0) j)=some j:=j4 (λi i2 ag kZ e=>by
  have⟨b,I⟩:=wc ag;have⟨c,aB⟩:=wc kZ;simp only[I,aB,yG] at e;subst e;exact ax3 hm I aB) ((sD h).2)
 simp only[h,yG] at this;unfold pV;rw[au (Gp hm h),this]
def Gr{a}(aj:a<k)(h:¬a∈m):pV π dq k m a=π a:=by
 unfold pV;rw[au aj,ai2];intro i ag e;have⟨b,I⟩:=wc ag;simp only[I,yG] at e;exact h (e▸(sD I).1)
def L6{i}(h:k<=i):pV π dq k m i=dq m.length+(i-k):=by unfold pV;rw[ai U]
def aQl{B l}(w:(⟨B,dq,m.length,l⟩:aY).WF)(hm:rv m k=true):gN (pV π dq k m) k m=dq:=by
 funext i;by_cases h:i<m.length
 .have⟨a,g⟩:=wc h;rw[uD g,DP hm g]
 .rw[IN U,L6 U];have:=w.mono (i-m.length);simp only at this;rw[show m.length+(i-m.length)=i by omega] at this;omega
end
variable{B:aV}{ao L eX:List (Nat×Option cd)}{fe:List Nat}
section
variable{k:Nat}(w:(⟨B,π,k,ao⟩:aY).WF)(hm:rv m k=true)(eM:∀i a,gE m i=some a->ec L i=ec ao a)
include w hm
def aQm(eM:∀i a,gE m i=some a->ec L i=ec ao a):(⟨B,π,k,ao⟩:aY).a6.eO (DO B.n π k m)=(⟨B,gN π k m,m.length,L⟩:aY).a6:=by
 refine aV.eq (λid=>?_) ?_
 .simp only[aV.eO,aY.a6,DO];by_cases I:id<B.n
  .simp[I]
  .simp only[I,jE];cases aa:e8 (gN π k m) m.length id with
   | some i =>
    have⟨J,q⟩:=kf aa;have⟨a,g⟩:=wc J;rw[uD g] at q;subst q;rw[j4 w.inj (Gp hm g)];have:ib a m=true:=l4.2 (sD g).1;simp only[this,Uu,nN,jE,tm];exact(eM i a g).symm
   | none =>
    have hl:∀i,i<m.length->gN π k m i≠id:=λi ag e=>by
     have:=j4 (L3 w hm L 0).inj Qs;simp only[nq] at this;rw[e] at this;rw[aa] at this;cases this
    cases s:e8 π k id with
    | none=>simp
    | some a =>
     have⟨g1,g2⟩:=kf s;subst g2;have r:ib a m=false:=by
      cases t:ib a m with
      | false=>rfl
      | true =>
       have⟨i,ag⟩:=IP (l4.1 t);exact amd
     simp[r]
 .show π k=gN π k m m.length;rw[IN (b4 _)];simp
variable(w':(⟨B,dq,m.length,eX⟩:aY).WF)(hle:π k<=dq m.length)(ak:∀i a,gE m i=some a->dq i=π a\/π k<=dq i)
include w' hle ak
def aaw:(⟨B,pV π dq k m,k,xm m eX 0++ao⟩:aY).WF:=by
 have n:∀{a},a∈m->∃j,gE m j=some a/\j<m.length:=λh=>by have⟨j,aA⟩:=IP h;exact⟨j,aA,(sD aA).2⟩
 refine⟨λi ag=>?_,λi ag=>?_,λi ag=>?_,λi j ag aA e=>?_,by simp only;rw[L6 (b4 k)];have:=w'.jC;simp only at this;omega,w.dP,w.nE⟩
 .simp only at ag|-;rw[L6 ag,L6 U];omega
 .simp only at ag|-;by_cases h:i∈m
  .have⟨j,aA,r⟩:=n h;rw[DP hm aA];exact w'.bL j r
  .rw[Gr ag h];exact w.bL i ag
 .simp only at ag|-;rw[L6 (b4 k),sr,nq];by_cases h:i∈m
  .have⟨j,aA,r⟩:=n h;rw[DP hm aA];exact w'.ag j r
  .rw[Gr ag h];exact eQ (w.ag i ag) hle
 .simp only at ag aA e;have q:∀{a b:Nat},a<k->b<k->a∈m->¬b∈m->pV π dq k m a=pV π dq k m b->a=b:=by
   intro a b s I J g e;have⟨j,aA,r⟩:=n J;rw[DP hm aA,Gr I g] at e;rcases ak j a aA with t|t
   .rw[t] at e;exact w.inj a b s I e
   .have:=w.ag b I;simp only at this;omega
  by_cases J:i∈m<;>by_cases g:j∈m
  .have⟨a,s,v⟩:=n J;have⟨b,I,u⟩:=n g;rw[DP hm s,DP hm I] at e;have:=w'.inj a b v u e;subst this;rw[s] at I;injection I
  .exact q ag aA J g e
  .exact(q aA ag g J e.symm).symm
  .rw[Gr ag J,Gr aA g] at e;exact w.inj i j ag aA e
def aQn:(⟨B,pV π dq k m,k,xm m eX 0++ao⟩:aY).a6.eO (DO B.n π k m)=(⟨B,dq,m.length,eX⟩:aY).a6:=by
 have C:=aaw w hm w' hle ak;have N:IK m=true:=by unfold rv at hm;rw[cA] at hm;exact hm.1
 refine aV.eq (λid=>?_) ?_
 .simp only[aV.eO,aY.a6,DO];by_cases I:id<B.n
  .simp[I]
  .simp only[I,jE];cases aa:e8 dq m.length id with
   | some j =>
    obtain⟨J,u⟩:=kf aa;obtain⟨a,r⟩:=wc J;have z:=Gp hm r;have D:e8 (pV π dq k m) k id=some a:=by
     have:=j4 C.inj (i:=a) z;simp only at this;rw[DP hm r,u] at this;exact dm
    have M:(match e8 π k id with|some a=>!ib a m|none=>false)=false:=by
     cases t:e8 π k id with
     | none=>rfl
     | some b6 =>
      obtain⟨q,g⟩:=kf t;have:b6=a:=by
       rcases ak j a r with v|v
       .exact w.inj b6 a q z (by simp only;rw[g,<-u,v])
       .have:=w.ag b6 q;simp only at this;omega
      subst this;simp[l4.2 (sD r).1]
    rw[D,M];simp only[nN,jE,tm];have:=ax5 (L:=eX) (l:=ao) (i:=0) N r;rw[ff] at this;exact dm
   | none =>
    cases t:e8 (pV π dq k m) k id with
    | none=>simp
    | some a =>
     obtain⟨q,g⟩:=kf t;by_cases s:a∈m
     .exfalso;obtain⟨j,aA⟩:=IP s;rw[DP hm aA] at g;have:=j4 w'.inj (i:=j) (sD aA).2;simp only at this;rw[g,aa] at this;cases this
     .rw[Gr q s] at g;have:=j4 w.inj (i:=a) q;simp only at this;rw[g] at this;rw[this];have A:ib a m=false:=by
       cases E:ib a m with
       | false=>rfl
       | true=>exact absurd (l4.1 E) s
      simp[A]
 .show pV π dq k m k=dq m.length;rw[L6 (b4 k)];simp
def ax9{id}(h:DO B.n π k m id=true):(⟨B,pV π dq k m,k,xm m eX 0++ao⟩:aY).a6.m id=(⟨B,π,k,ao⟩:aY).a6.m id:=by
 unfold DO at h;split at h
 .exact jh
 .split at h
  .rename_i I a aJ;have⟨g1,g2⟩:=kf aJ;have og:¬a∈m:=λaB=>by rw[l4.2 aB] at h;cases h
   have ba:=aY.wy w g1;have a1:=aY.wy (aaw w hm w' hle ak) g1;simp only at ba a1;rw[Gr g1 og] at a1;rw[g2] at ba a1;rw[ba,a1,T5 λp bh e=>og abF]
  .exact jh
def aQo(eM:∀i a,gE m i=some a->ec L i=ec ao a)(u:∀i a,gE m i=some a->(∃b,ec L i=some b)\/π k<=dq i){id}(t:id<π k)(g:(⟨B,π,k,ao⟩:aY).a6.m id=none):(⟨B,pV π dq k m,k,xm m eX 0++ao⟩:aY).a6.m id=none:=by
 have v:=aaw w hm w' hle ak;have aa:=g;simp only[aY.a6] at g|-;by_cases h0:id<B.n
 .rw[au h0] at g|-;exact g
 .rw[ai h0] at g|-;cases ag:e8 (pV π dq k m) k id with
  | none=>rfl
  | some a =>
   have⟨g1,g2⟩:=kf ag;by_cases r:a∈m
   .have⟨j,aA⟩:=IP r;rw[DP hm aA] at g2;rcases u j a aA with⟨b,I⟩|z
    .rcases ak j a aA with s|s
     .have:=aY.wy w g1;simp only at this;rw[<-s,g2,aa,<-eM j a aA,I] at this;cases this
     .exact U
    .exact U
   .rw[Gr g1 r] at g2;have:=aY.wy w g1;simp only at this;rw[g2,aa] at this;simp only[tm];rw[T5 λp bh e=>r abF];exact this.symm
end
variable{an:Array Oper}{rs:List fZ}{ay:List (Nat×Value)}{al:Nat}{ty:TypeId}{pos:String}{af:Array Edge}{gd:Option (Nat×Bool)}
section
variable{l:List Oper}{k:Nat}{K:Fr->aY->Prop}{d:Tmp}
def ad.HG[bH]{g0 xs ts}m fe{args L eX v}[bf:cY P g0](hw:cw an ⟨some d,.call {callee:=.value (.func g0),args:=xs,argTypes:=ts},ty,pos,af,gd⟩ ⟨ay,al⟩=some true)(aq:Nat.blt d al=true)(aS:gR P g0 B m.length fe args L v eX)(aa:pS ay al xs.toList=some (args (gN π k m)))(hm:rv m k=true)(eM:DN (L (gN π k m)) ao m 0)(aj:∀C:Nat->Nat,(∀i,i<k->(∀j,gE m j=some i->j∈fe)->C i=π i)->ad P an false (de k false [] none::rs) l ⟨(d,v)::ay,al⟩ ⟨B,C,k,xm m (eX (gN C k m)) 0++ao⟩ K):ad P an false rs (⟨some d,.call {callee:=.value (.func g0),args:=xs,argTypes:=ts},ty,pos,af,gd⟩::l) ⟨ay,al⟩ ⟨B,π,k,ao⟩ K:=by
 intro N a0 h0 a p;have w:=p.wf;have⟨dq,w',hle,s,T⟩:=aS (gN π k m) (L3 w hm _ 0);rw[show gN π k m m.length=π k by rw[IN (b4 _)];simp] at hle s;have E:∀i a,gE m i=some a->ec (L (gN π k m)) i=ec ao a:=λi a h=>akI;have ak:∀i a,gE m i=some a->dq i=π a\/π k<=dq i:=λi a h=>by
  rcases s i (sD h).2 with⟨_,J,_⟩|⟨_,J⟩
  .rw[uD h] at J;exact .inl J
  .exact .inr J
 have Y:∀i a,gE m i=some a->(∃b,ec (L (gN π k m)) i=some b)\/π k<=dq i:=λi a h=>by
  rcases s i (sD h).2 with⟨_,_,J⟩|⟨_,J⟩
  .exact .inl J
  .exact .inr J
 let o:Oper:=⟨some d,.call {callee:=.value (.func g0),args:=xs,argTypes:=ts},ty,pos,af,gd⟩
 have S:an[N.length]?=some o:=by
  rw[<-pY,<-p.os,oI aF];simp[o]
 have R:=Wq p.DJ S;have Z:bE P o a.eval (⟨B,gN π k m,m.length,L (gN π k m)⟩:aY).a6 v (⟨B,dq,m.length,eX dq⟩:aY).a6:=DL p.wb aa T;have O:bE P o a.eval ((⟨B,π,k,ao⟩:aY).a6.eO (DO B.n π k m)) v ((⟨B,pV π dq k m,k,xm m (eX dq) 0++ao⟩:aY).a6.eO (DO B.n π k m)):=by
  rwa[aQm w hm E,aQn w hm w' hle ak]
 have⟨s1,s2⟩:=bE.j9 (O.frame _ λi ag=>ax9 w hm w' hle ak ag) R p.j9 p.bw;have Q:(⟨B,π,k,ao⟩:aY).a6.n<=(⟨B,pV π dq k m,k,xm m (eX dq) 0++ao⟩:aY).a6.n:=by
  show π k<=pV π dq k m k;rw[L6 (b4 k)];omega
 let x:qd:={o:=o,a:=a,h:=(⟨B,π,k,ao⟩:aY).a6,v:=v,aw:=(⟨B,pV π dq k m,k,xm m (eX dq) 0++ao⟩:aY).a6,hid:=DO B.n π k m,fU:=λid=>!DO B.n π k m id}
 have M:=aj (pV π dq k m) λi ag aA=>by
  by_cases D:i∈m
  .have⟨j,A⟩:=IP D;rw[DP hm A];rcases s j (sD A).2 with⟨_,J,_⟩|⟨J,_⟩
   .rw[uD A] at J;exact J
   .exact absurd (aA j A) J
  .exact Gr ag D
 rw[aQl (π:=π) w' hm] at M;refine M (N++[x]) a0 h0 (a.put o.dst v) ⟨aag p.chain rfl rfl,?_,?_,?_,?_,aaw w hm w' hle ak,s1,qL (Ee Q p.bw) _ s2,p.wb.put (show II al o.dst=true from aq) v,p.DJ⟩
 .exact U3
 .intro y aN;rcases ha.1 aN with z|z
  .exact p.ok y z
  .simp only[gU] at z;subst z;refine⟨.inr (.inl ⟨aah p.wb hw,R,O⟩),Q,λid hid V=>aQo w hm w' hle ak E Y hid V,λid he=>ax9 w hm w' hle ak ?_,λid he=>?_⟩
   .simpa[x] using he
   .simpa[x] using he
 .simp[p.len]
 .intro aB;cases aB
end
def HH(f g:Nat->Nat):List Nat->Prop
 | []=>True
 | i::l=>f i=g i/\HH f g l
def HH.get{f g}:∀{l:List Nat}{i:Nat},HH f g l->i∈l->f i=g i:=by
 intro l;induction l with
 | nil=>intro i _ h;cases h
 | cons a l b =>
  intro i h ag;rcases dI.1 ag with rfl|ag
  .exact h.1
  .exact b h.2 ag
def Ua(L:List (Nat×Option cd)):List Nat->Prop
 | []=>True
 | i::l=>(∃b,ec L i=some b)/\Ua L l
def Ua.get{L}:∀{l:List Nat}{i:Nat},Ua L l->i∈l->∃b,ec L i=some b:=by
 intro l;induction l with
 | nil=>intro i _ h;cases h
 | cons a l e =>
  intro i h ag;rcases dI.1 ag with rfl|ag
  .exact h.1
  .exact e h.2 ag
def ss(B:aV)(π:Nat->Nat)(bK:Nat)(fe:List Nat)(eX:(Nat->Nat)->List (Nat×Option cd))(v:Value)(vs:List Value)(aw:aY):Prop :=
 ∃m:List Nat,m.length=bK/\rv m aw.k=true/\aw.bD=B/\HH (gN aw.π aw.k m) π fe/\DN (eX (gN aw.π aw.k m)) aw.l m 0/\fp vs=v
def ss.mk{B π b fe eX v vs aw}m(J:m.length=b)(n:rv m aw.k=true)(p:aw.bD=B)(j:HH (gN aw.π aw.k m) π fe)(g:DN (eX (gN aw.π aw.k m)) aw.l m 0)(e:fp vs=v):ss B π b fe eX v vs aw:=⟨m,J,n,p,j,g,e⟩
def BT(π:Nat->Nat)(bK:Nat)(fe:List Nat)(N:Nat)(i:Nat):Nat:=if ib i fe=true/\i<bK then π i else N+i
def IQ{π bK N i fe}(h:i∈fe)(ag:i<bK):BT π bK fe N i=π i:=by unfold BT;rw[au ⟨l4.2 h,ag⟩]
def IS{π bK N i fe}(h:¬i∈fe):BT π bK fe N i=N+i:=by unfold BT;rw[ai (λaB=>h (l4.1 aB.1))]
def L7{π bK N i fe}(h:bK<=i):BT π bK fe N i=N+i:=by unfold BT;rw[ai (λaB=>U)]
def aya{B π bK N fe l}(w:(⟨B,π,bK,l⟩:aY).WF)(s:π bK<=N)q:(⟨B,BT π bK fe N,bK,q⟩:aY).WF:=by
 have n:=w.jC;simp only at n;refine⟨λi ag=>by simp only at ag|-;rw[L7 ag,L7 U];omega,λi ag=>?_,λi ag=>?_,λi j ag b e=>?_,by simp only;rw[L7 (b4 bK)];omega,w.dP,w.nE⟩
 .simp only at ag|-;by_cases h:i∈fe
  .rw[IQ h ag];exact w.bL i ag
  .rw[IS h];omega
 .simp only at ag|-;rw[L7 (b4 bK)];by_cases h:i∈fe
  .rw[IQ h ag];have:=w.ag i ag;simp only at this;omega
  .rw[IS h];omega
 .simp only at ag b e;have J:=w.ag i ag;have r:=w.ag j b;simp only at J r;by_cases h:i∈fe<;>by_cases g:j∈fe
  .rw[IQ h ag,IQ g b] at e;exact w.inj i j ag b e
  .rw[IQ h ag,IS g] at e;omega
  .rw[IS h,IQ g b] at e;omega
  .rw[IS h,IS g] at e;omega
def gR.intro{g fn c}{al:Nat}{B bK fe args L eX v}(ar:P.funcs[g]?=some fn)(I:fn.body=some c)(oN:fn.ntmps=al)(og:∀π,Nat.ble (args π).length al=true)(ajf:∀π,Ua (L π) fe)(Q:zy B.n bK eX bK)(aE:bw 0 v)(hw:∀π,W P c ⟨vf 0 (args π),al⟩ ⟨B,π,bK,L π⟩ (vZ P fn (ss B π bK fe eX v))):gR P g B bK fe args L v eX:=by
 subst oN;intro π w;have mz:∀N,π bK<=N->∀i,i<bK->(i∈fe/\BT π bK fe N i=π i/\∃b,ec (L π) i=some b)\/(¬i∈fe/\π bK<=BT π bK fe N i):=λN cj i ag=>by
  by_cases h:i∈fe
  .exact .inl ⟨h,IQ h ag,(ajf π).get h⟩
  .exact .inr ⟨h,by rw[IS h];omega⟩
 have ht:B.n<=π bK:=w.jC;by_cases aC:Sat P (⟨B,π,bK,L π⟩:aY).a6/\gI (⟨B,π,bK,L π⟩:aY).a6.n (uI fn ⟨args π⟩)
 .have⟨nA,rO⟩:=aC;have⟨e,f',aw,b6,bY,O,s1,b1,g1,t1⟩:=hw π (uI fn ⟨args π⟩) w nA rO (PK (qT.1 (og π)));have bb:∀vs,(e=.ret\/e=.normal)->ru P f'.l aw fn.results.toList vs->ss B π bK fe eX v vs aw->∃dq,(⟨B,dq,bK,eX dq⟩:aY).WF/\π bK<=dq bK/\(∀i,i<bK->(i∈fe/\dq i=π i/\∃b,ec (L π) i=some b)\/(¬i∈fe/\π bK<=dq i))/\bc P g ⟨args π⟩ (⟨B,π,bK,L π⟩:aY).a6 v (⟨B,dq,bK,eX dq⟩:aY).a6:=by
   intro vs he aM ⟨m,tF,L5,ti,heq,T9,rS⟩;have⟨C,dq,k',cp⟩:=aw;simp only at L5 ti heq T9 rS;subst ti;have aTo:C.n<=dq k':=O.jC;let N:=dq k'+π bK
   let q:=BT π bK fe N
   have cj:π bK<=N:=Nat.le_add_left _ _;have R:(⟨C,q,bK,eX q⟩:aY).WF:=aya w cj _;have H5:q bK=N+bK:=L7 (b4 bK);refine⟨q,R,by rw[H5];omega,mz N cj,?_⟩;have V:=L3 O L5 (eX (gN dq k' m)) 0;simp only[nq] at V;have e7:∀j,j<bK->∃a,gE m j=some a/\a<k'/\gN dq k' m j=dq a:=λj aA=>by
    have⟨a,T⟩:=wc (show j<m.length by omega);exact⟨a,T,Gp L5 T,uD T⟩
   have IB:=λn=>hc (dG n) v aE;let z:Nat->Nat:=λid=>if id<N then id else gN dq k' m (id-N)
   have Z:∀i,i<N->z i=i:=λi ag=>alc;have vo:(λj=>z (q j))=gN dq k' m:=by
    funext j;by_cases aA:j∈fe/\j<bK
    .have J:q j=π j:=IQ aA.1 aA.2;have:=w.ag j aA.2;simp only at this;show z (q j)=_;rw[J,Z _ U];exact(heq.get aA.1).symm
    .have J:q j=N+j:=by
      by_cases D:j<bK
      .exact IS (λaB=>aA ⟨aB,D⟩)
      .exact L7 U
     show(if _ then _ else _)=_;rw[J,ai U];congr 1;omega
   have E:∀i,i<C.n->z i=i:=λi ag=>Z i U;have nJ:(⟨C,q,bK,eX q⟩:aY).a6.n=N+bK:=H5;have Y:(⟨C,π,bK,L π⟩:aY).a6.n=π bK:=rfl;have M:∀i b,(⟨C,q,bK,eX q⟩:aY).a6.m i=some b->(i<C.n/\C.m i=some b)\/∃j,j<bK/\q j=i/\ec (eX q) j=some b:=by
    intro i b s;simp only[aY.a6] at s;by_cases h0:i<C.n
    .rw[au h0] at s;exact .inl ⟨h0,s⟩
    .rw[ai h0] at s;cases ag:e8 q bK i with
     | none=>rw[ag] at s;cases s
     | some j =>
      rw[ag] at s;have⟨cB,cy⟩:=kf ag;exact .inr ⟨j,cB,cy,s⟩
   have h9:∀j,j<bK->q j<N+bK:=λj aA=>by have:=R.ag j aA;simp only at this;rw[H5] at this;exact dm
   refine bc.aau (bc.intro ar I he t1 g1.defers (λ_ _=>by rw[rS];exact IB _) (aM.is O g1)) (by rw[Y,nJ];omega) (λi ag=>Z i (by rw[Y] at ag;omega)) (λi b s=>?_) (λi b s u hu=>?_) (IB _) (λi b s=>?_) (λi b s en nG=>?_) (λi j b c s aje e=>?_) (by rw[rS,(λz=>Q9 (λi ag=>U) v aE:∀z,sub z v=v)])
   .rw[nJ];rcases M i b s with⟨h0,_⟩|⟨j,aA,rfl,_⟩
    .exact U
    .exact h9 j aA
   .rw[nJ];rcases M i b s with⟨h0,cF⟩|⟨j,aA,rfl,ao⟩
    .have⟨ρ,W,S⟩:=nA;have:=S.dP i b (aY.Am w cF) u hu;exact hc (by rw[Y];omega) u this
    .exact(Q.get aA).2 q _ b U h9 ao u hu
   .rcases M i b s with⟨h0,cF⟩|⟨j,aA,rfl,ao⟩
    .rw[E i h0];have J:=aY.Am O cF;rw[J];have:oo z b=b:=by
      unfold oo;have⟨ρ,W,S⟩:=nA;have aB:b.cells.map (sub z)=b.cells:=by
       conv=>rhs;rw[<-we b.cells]
       exact j5 λu hu=>Q9 (λi ag=>Z i U) u (S.dP i b (aY.Am w cF) u hu)
      rw[aB]
     rw[this]
    .have⟨a,J,D,aK⟩:=e7 j aA;have A:z (q j)=dq a:=alS;rw[A];rw[aY.wy O D];have cz:=T9.get J;rw[ff] at cz;rw[<-cz];have gx:=(Q.get aA).1 z q E;simp only[ao,iW] at gx;rw[gx,vo]
   .rcases M i b s with⟨h0,_⟩|⟨j,aA,rfl,ao⟩
    .have:=w.jC;rw[Y] at en;simp only at this;omega
    .have A:=congrFun vo j;rw[A];exact bx O.nE (V.bL j nR)
   .rcases M i b s with⟨h0,_⟩|⟨p,bh,rfl,_⟩<;>rcases M j c aje with⟨g0,_⟩|⟨r,aM,rfl,_⟩
    .rw[E i h0,E j g0] at e;exact e
    .exfalso;have A:=congrFun vo r;rw[E i h0,A] at e;have:=V.bL r nR;simp only at this;omega
    .exfalso;have A:=congrFun vo p;rw[E j g0,A] at e;have:=V.bL p nR;simp only at this;omega
    .have A:=congrFun vo p;rw[A,congrFun vo r] at e;rw[V.inj p r nR nR e]
  cases e with
  | ret=>have⟨vs,J,D⟩:=bY;exact bb vs (.inl rfl) J D
  | normal=>have⟨vs,J,D⟩:=bY;exact bb vs (.inr rfl) J D
  | _=>exact bY.elim
 .refine⟨BT π bK fe (π bK),aya w (b4 _) _,by rw[L7 (b4 bK)];omega,mz _ (b4 _),?_⟩;exact λT ρ W S=>absurd ⟨⟨ρ,W,S⟩,MC T⟩ aC
def ql{α:Type}(w:α->List Value):List α->List Value
 | []=>[]
 | a::l=>ql w l++w a
def gQ{α:Type}(w:α->List Value)(e:TypeId):List α->Option cd
 | []=>none
 | a::l=>some ⟨⟨ql w l++w a⟩,e⟩
def cD{α:Type}(sz a:Nat):List α->Value
 | []=>.slice none 0 0
 | _::l=>.slice (some ⟨a,0,none⟩) (l.length+1) (dF sz)
def ayc{α w sz}(hw:∀a,(w a).length=sz):∀l:List α,(ql w l).length=l.length*sz:=by
 intro l;induction l with
 | nil=>simp[ql]
 | cons a l b=>rw[ql,iM,b,hw,e5,uu]
def aQp{H:aV}{i}(h:H.m i=none):H.fB i=H:=by
 refine aV.eq (λid=>?_) rfl;show(if id=i then none else H.m id)=H.m id;split
 .rename_i e;rw[e,h]
 .rfl
variable{bg:Bool}
section
variable{l:List Oper}{k:Nat}{K:Fr->aY->Prop}{d:Tmp}
def ad.Hl[bH]{α w l0}{q:α}{t e x y i j off c sz A s z a1}[hu:ee P t (.slice e)][aC:e4 P e sz][I:nb P e A][M:iY P e z](hw:cw an ⟨some d,.call {callee:=.builtin .append,args:=#[x,y],argTypes:=#[t,t]},ty,pos,af,gd⟩ ⟨ay,al⟩=some true)(aq:Nat.blt d al=true)(aa:Fr.ev ⟨ay,al⟩ x=some (cD sz (π j) l0))(aN:Fr.ev ⟨ay,al⟩ y=some (.slice (some ⟨π i,off,none⟩) 1 c))(E:Nat.beq (ei z).length sz=true)(D:Nat.blt 0 sz=true)(tp:Nat.blt j k=true)(Z:ec ao j=gQ w e l0)(wu:Nat.blt i k=true)(O:ec ao i=some ⟨⟨s⟩,a1⟩)(C:cr off (1*sz) s=w q)(ak:off+1*sz<=s.length)(Y:∀a,(w a).length=sz)(mx:(w q).all (·.oneCell')=true)(lO:(l0.length+1)*A<=140737488355328)(N:l0.length+1<=9223372036854775807)(aj:ad P an bg (th k false [i] j (some [k]) none::rs) l ⟨(d,cD sz (π k) (q::l0))::ay,al⟩ ⟨B,π,k+1,(k,gQ w e (q::l0))::(j,none)::ao⟩ K):ad P an bg rs (⟨some d,.call {callee:=.builtin .append,args:=#[x,y],argTypes:=#[t,t]},ty,pos,af,gd⟩::l) ⟨ay,al⟩ ⟨B,π,k,ao⟩ K:=by
 cases l0 with
 | cons T R =>
  refine ad.JK hw aq aa aN E D tp Z (by exact ayc Y (T::R)) wu O ak (by rwa[C]) Qp (by simpa using N) ?_;rwa[C]
 | nil =>
  have J:=M.eq;have ej:=aC.eq;have nS:=I.eq;cases ag:P.info? e with
  | none=>rw[ag] at J;cases J
  | some cg =>
   rw[ag] at J ej nS;have S:cg.size=sz:=p1;have br:cg.bytes=A:=yJ;subst S;subst br;have lW:=mu E;refine ad.step hw aq (hP.grow (cn:=none) tp (λa g H aC=>?_) ?_ λu hu=>trivial) aj
   .have hm:H.m (π i)=some ⟨⟨s⟩,a1⟩:=akx;have V:H.m (π j)=none:=abg;have Q:iP H cg.size 1 (a.eval y)=some ⟨cr off (1*cg.size) s⟩:=by
     rw[g.ev aN];simp only[iP,hm];rw[au ⟨ew,yI⟩];congr 1;apply k3;rw[hs];simp[BV]
    have dO:(cr off (1*cg.size) s).length=1*cg.size:=Jf;have:=bE.G9 (P:=P) (o:=⟨some d,.call {callee:=.builtin .append,args:=#[x,y],argTypes:=#[t,t]},ty,pos,af,gd⟩) rfl hu.eq hu.eq rfl ag J (tx M.dU) hu.ve Az (iC.1 D) (g.ev aa) bo rfl aF uw Q GR U U Qp;rw[aC.n,ff,aaO,C] at this;show bE P _ a.eval H _ ((H.fB (π j)).push ⟨⟨[]++w q⟩,e⟩);rwa[aQp V]
   .show e0 _ _;unfold cD;rw[e0];exact yP
end
section
variable{l:List Oper}{h:aY}{K:Fr->aY->Prop}{d:Tmp}
def ad.sliceFrom[bH]{t e x y}{b off len cap L sz:Nat}{k i}[hu:ee P t (.slice e)][aC:e4 P e sz](hw:cw an ⟨some d,.slice t x (some y) none none,ty,pos,af,gd⟩ ⟨ay,al⟩=some true)(aq:Nat.blt d al=true)(aa:Fr.ev ⟨ay,al⟩ x=some (.slice (some ⟨b,off,none⟩) len cap))(aN:Fr.ev ⟨ay,al⟩ y=some (.int k i))(ag:i=(L:Int))(J:L<=len)(j:len<=cap)(q:L<cap)(aB:cap<nw)(aj:ad P an bg (de h.k false [] none::rs) l ⟨(d,.slice (some ⟨b,off+L*sz,none⟩) (len-L) (cap-L))::ay,al⟩ h K):ad P an bg rs (⟨some d,.slice t x (some y) none none,ty,pos,af,gd⟩::l) ⟨ay,al⟩ h K:=by
 have ej:=aC.eq;cases dQ:P.info? e with
 | none=>rw[dQ] at ej;cases ej
 | some cg =>
  rw[dQ] at ej;have br:cg.size=sz:=p1;subst br;refine ad.still (nv:=none) hw aq (λa g H=>?_) trivial aj;have:=bE.Wf (P:=P) (o:=⟨some d,.slice t x (some y) none none,ty,pos,af,gd⟩) (h:=H) rfl hu.eq dQ (g.ev aa) ⟨k,by rw[g.ev aN,ag]⟩ rfl J j aB;rw[ai U,add_plain] at this;exact dm
def ad.aAT[bH]{t e x y}{b off len cap L sz:Nat}{k i}[hu:ee P t (.slice e)][aC:e4 P e sz](hw:cw an ⟨some d,.slice t x none (some y) none,ty,pos,af,gd⟩ ⟨ay,al⟩=some true)(aq:Nat.blt d al=true)(aa:Fr.ev ⟨ay,al⟩ x=some (.slice (some ⟨b,off,none⟩) len cap))(aN:Fr.ev ⟨ay,al⟩ y=some (.int k i))(ag:i=(L:Int))(J:L<=cap)(aB:cap<nw)(aj:ad P an bg (de h.k false [] none::rs) l ⟨(d,.slice (some ⟨b,off,none⟩) L cap)::ay,al⟩ h K):ad P an bg rs (⟨some d,.slice t x none (some y) none,ty,pos,af,gd⟩::l) ⟨ay,al⟩ h K:=by
 have ej:=aC.eq;cases dQ:P.info? e with
 | none=>rw[dQ] at ej;cases ej
 | some cg =>
  rw[dQ] at ej;have br:cg.size=sz:=p1;subst br;refine ad.still (nv:=none) hw aq (λa g H=>?_) trivial aj;have:=bE.Wf (P:=P) (o:=⟨some d,.slice t x none (some y) none,ty,pos,af,gd⟩) (h:=H) rfl hu.eq dQ (g.ev aa) rfl ⟨k,by rw[g.ev aN,ag]⟩ (dG _) J aB;have C5:(if cap=0 then(⟨b,off,none⟩:Addr) else Addr.add ⟨b,off,none⟩ (0*cg.size))=⟨b,off,none⟩:=by
   split
   .rfl
   .rw[add_plain,I4];rfl
  rw[C5,yF,yF] at this;exact dm
end
section
variable{l:List Oper}{h:aY}{K:Fr->aY->Prop}{d:Tmp}
def ad.aA2[bH]{α sz a}{l0:List α}{t x e}[hu:ee P t (.slice e)](hw:cw an ⟨some d,.call {callee:=.builtin .len,args:=#[x],argTypes:=#[t]},ty,pos,af,gd⟩ ⟨ay,al⟩=some true)(aq:Nat.blt d al=true)(aa:Fr.ev ⟨ay,al⟩ x=some (cD sz a l0))(aj:ad P an bg (de h.k false [] (some [])::rs) l ⟨(d,.int .i64 (l0.length:Int))::ay,al⟩ h K):ad P an bg rs (⟨some d,.call {callee:=.builtin .len,args:=#[x],argTypes:=#[t]},ty,pos,af,gd⟩::l) ⟨ay,al⟩ h K:=by
 cases l0 with
 | nil=>exact ad.qg hw aq aa aj
 | cons q j=>exact ad.qg hw aq aa aj
end
def ajg(m fe:List Nat)(i:Nat):Bool:=match m with
 | []=>true
 | a::m=>go (a::m) 0
where go:List Nat->Nat->Bool
 | [],_=>true
 | a::m,j=>(!Nat.beq a i||ib j fe)&&go m (j+1)
def aQq{fe i}:∀{m:List Nat}{j0:Nat},ajg.go fe i m j0=true->∀j,gE m j=some i->(j0+j)∈fe:=by
 intro m;induction m with
 | nil=>intro j0 _ j h;cases h
 | cons a m e =>
  intro j0 h j b;simp only[ajg.go,cA,l3,mV] at h;cases j with
  | zero =>
   simp only[gE,dh] at b;subst b;rcases h.1 with J|J
   .exact D5
   .exact l4.1 J
  | succ j =>
   have:=e h.2 j b;rwa[show j0+(j+1)=j0+1+j by omega]
def oJ{m fe i}(h:ajg m fe i=true):∀j,gE m j=some i->j∈fe:=by
 intro j aA;cases m with
 | nil=>cases aA
 | cons a m=>have:=aQq h j aA;rwa[ff] at this
def ayd b a n:(⟨b⟩:Array Value).extract a (a+n)=⟨cr a n b⟩:=by
 apply k3;rw[hs];simp[BV]
section
variable{l:List Oper}{k:Nat}{K:Fr->aY->Prop}{d:Tmp}
def ad.ae6[bH]{t A e sz x y i off len cap b q m N cs j cs' z a1}[hu:ee P t (.slice e)][M:e4 P e sz](hw:cw an ⟨some d,.call {callee:=.builtin .copy,args:=#[x,y],argTypes:=#[t,A]},ty,pos,af,gd⟩ ⟨ay,al⟩=some true)(aq:Nat.blt d al=true)(aa:Fr.ev ⟨ay,al⟩ x=some (.slice (some ⟨π i,off,none⟩) len cap))(aN:Fr.ev ⟨ay,al⟩ y=some (.slice (some ⟨b,q,none⟩) m N))(ag:Nat.blt i k=true)(I:ec ao i=some ⟨⟨cs⟩,z⟩)(O:B.m b=some ⟨⟨j⟩,a1⟩)(E:b<B.n)(ak:off+min m len*sz<=cs.length)(hm:q+min m len*sz<=j.length)(mx:(cr q (min m len*sz) j).all (·.oneCell')=true)(aB:eB cs off (cr q (min m len*sz) j)=cs')(aj:ad P an bg (yB k true [] i (some []) none::rs) l ⟨(d,.int .i64 (min m len:Nat))::ay,al⟩ ⟨B,π,k,(i,some ⟨⟨cs'⟩,z⟩)::ao⟩ K):ad P an bg rs (⟨some d,.call {callee:=.builtin .copy,args:=#[x,y],argTypes:=#[t,A]},ty,pos,af,gd⟩::l) ⟨ay,al⟩ ⟨B,π,k,ao⟩ K:=by
 have s:=M.eq;cases v:P.info? e with
 | none=>rw[v] at s;cases s
 | some cg =>
  rw[v] at s;simp only[iW,dh] at s;have J:(cr q (min m len*sz) j).length=min m len*sz:=Jf;refine ad.step hw aq (hP.write (cn:=none) ag I (λa g H aC=>?_) (kQ aF) (λu _=>trivial)) aj;have D:H.m (π i)=some ⟨⟨cs⟩,z⟩:=akB;have C:iP H cg.size (min m len) (a.eval y)=some ⟨cr q (min m len*sz) j⟩:=by
   rw[g.ev aN,s];simp only[iP,(by rwa[aC.b rfl b E]:H.m b=some ⟨⟨j⟩,a1⟩)];rw[au ⟨ew,Qt⟩,ayd]
  have:=bE.copy (P:=P) (o:=⟨some d,.call {callee:=.builtin .copy,args:=#[x,y],argTypes:=#[t,A]},ty,pos,af,gd⟩) rfl hu.eq v (g.ev aa) uw C rfl (aC.fC i (iC.1 ag)) D (by simpa[J] using ak) Mo;simp only[PI,aB] at this;exact dm
def ahR b:cr 0 b.length b=b:=by rw[hs];simp
def ad.aC2[bH]{α w}{l0:List α}{t C e sz x y i off len cap j cs cs' A a1}[hu:ee P t (.slice e)][R:e4 P e sz](hw:cw an ⟨some d,.call {callee:=.builtin .copy,args:=#[x,y],argTypes:=#[t,C]},ty,pos,af,gd⟩ ⟨ay,al⟩=some true)(aq:Nat.blt d al=true)(aa:Fr.ev ⟨ay,al⟩ x=some (.slice (some ⟨π i,off,none⟩) len cap))(aN:Fr.ev ⟨ay,al⟩ y=some (cD sz (π j) l0))(ag:Nat.blt i k=true)(I:ec ao i=some ⟨⟨cs⟩,A⟩)(Q:Nat.blt j k=true)(Z:ec ao j=gQ w a1 l0)(Y:∀a,(w a).length=sz)(O:l0.length<=len)(ak:off+l0.length*sz<=cs.length)(mx:(ql w l0).all (·.oneCell')=true)(aB:eB cs off (ql w l0)=cs')(aj:ad P an bg (yB k false [j] i (some []) none::rs) l ⟨(d,.int .i64 (l0.length:Nat))::ay,al⟩ ⟨B,π,k,(i,some ⟨⟨cs'⟩,A⟩)::ao⟩ K):ad P an bg rs (⟨some d,.call {callee:=.builtin .copy,args:=#[x,y],argTypes:=#[t,C]},ty,pos,af,gd⟩::l) ⟨ay,al⟩ ⟨B,π,k,ao⟩ K:=by
 have v:=R.eq;have D:=ayc Y l0;cases z:P.info? e with
 | none=>rw[z] at v;cases v
 | some cg =>
  rw[z] at v;simp only[iW,dh] at v;refine ad.step hw aq (hP.write (cn:=none) ag I (λa g H aC=>?_) (kQ aF) (λu _=>trivial)) aj;have N:H.m (π i)=some ⟨⟨cs⟩,A⟩:=akB;have V:H.m (π j)=gQ w a1 l0:=by have:=aC.l j (l4.2 aF) (iC.1 Q);rwa[this]
  have E:=I0 O;have M:iP H cg.size (min l0.length len) (a.eval y)=some ⟨ql w l0⟩:=by
   rw[g.ev aN,v,E];cases l0 with
   | nil=>rfl
   | cons q s =>
    have T:(ql w s++w q).length=(s.length+1)*sz:=D;have S:H.m (π j)=some ⟨⟨ql w s++w q⟩,a1⟩:=V;simp only[cD,iP,S];rw[au ⟨ew,by simp only[BU,e5];omega⟩,ayd];congr 2;show cr 0 ((s.length+1)*sz) (ql w s++w q)=ql w s++w q;rw[<-T,ahR]
  have J:Eg (a.eval y)=some l0.length:=by
   rw[g.ev aN];cases l0<;>rfl
  have:=bE.copy (P:=P) (o:=⟨some d,.call {callee:=.builtin .copy,args:=#[x,y],argTypes:=#[t,C]},ty,pos,af,gd⟩) rfl hu.eq z (g.ev aa) J M rfl (aC.fC i (iC.1 ag)) N (by simpa[D] using ak) Mo;simp only[PI,aB,E] at this;exact dm
def ad.aeM[bH]{h t q x y k k' a b}(hw:cw an ⟨some d,.call {callee:=.builtin .max,args:=#[x,y],argTypes:=#[t,q]},ty,pos,af,gd⟩ ⟨ay,al⟩=some true)(aq:Nat.blt d al=true)(aa:Fr.ev ⟨ay,al⟩ x=some (.int k a))(aN:Fr.ev ⟨ay,al⟩ y=some (.int k' b))(aj:ad P an bg (de h.k false [] (some [])::rs) l ⟨(d,.int k (if b>a then b else a))::ay,al⟩ h K):ad P an bg rs (⟨some d,.call {callee:=.builtin .max,args:=#[x,y],argTypes:=#[t,q]},ty,pos,af,gd⟩::l) ⟨ay,al⟩ h K :=
 ad.km hw aq (λc g H=>Zj rfl (λ_ _=>aF) (g.ev aa) (g.ev aN) aF aF aF λev W hu j=>by
  have hu:ev x=.int k a:=hu;have j:ev y=.int k' b:=j;simp only[execOp,resolve,invoke,builtin,gG,hQ,hj,so,gg,oH,hu,j,run_max_int2]) aF aj
end
def bE.adb{d ty pos af gd ev h x y t E e s A r g cap n c}(aS:P.underlying t=some (.slice e))(ag:P.info? e=some s)(aa:ev x=.slice A g cap)(N:ev y=.slice r n c)(h0:min n g=0):
 bE P ⟨d,.call {callee:=.builtin .copy,args:=#[x,y],argTypes:=#[t,E]},ty,pos,af,gd⟩ ev h (.int .i64 (0:Nat)) h :=
 .value λO ρ W Q M he=>by
  have q:=he x Jd;have j:=he y Jd;refine⟨ρ,W,?_,aF,M,Ext.refl _ _ _⟩;have u:∀(A:Option Addr) (n c:Nat),∃B C,bP ρ (.slice A n c)=.slice B n C:=by
   intro A n c;cases A with
   | none=>exact⟨none,c,aF⟩
   | some b=>exact abL
  have⟨D,R,z⟩:=u A g cap;have⟨B2,J,v⟩:=u r n c;rw[aa,z] at q;rw[N,v] at j;have I:(Builtin.firstCells s.size 0 (.slice B2 n J)).run P W=.ok #[] W:=by cases B2<;>simp[Builtin.firstCells,loadCells,loadCellsFrom]
  simp only[execOp,resolve,invoke,builtin,Builtin.copy_,gG,hQ,hj,so,gg,oH,q,j];simp only[DQ,kC,pg,gG,kT aS,hj,Builtin.lenOf,hQ,sJ ag,h0,I];cases D<;>simp[storeCells,goInt]
section
variable{l:List Oper}{h:aY}{K:Fr->aY->Prop}{d:Tmp}
def ad.adb[bH]{t q e sz x y A u len cap n c}[hu:ee P t (.slice e)][v:e4 P e sz](hw:cw an ⟨some d,.call {callee:=.builtin .copy,args:=#[x,y],argTypes:=#[t,q]},ty,pos,af,gd⟩ ⟨ay,al⟩=some true)(aq:Nat.blt d al=true)(aa:Fr.ev ⟨ay,al⟩ x=some (.slice A len cap))(aN:Fr.ev ⟨ay,al⟩ y=some (.slice u n c))(h0:min n len=0)(aj:ad P an bg (de h.k false [] (some [])::rs) l ⟨(d,.int .i64 (0:Nat))::ay,al⟩ h K):ad P an bg rs (⟨some d,.call {callee:=.builtin .copy,args:=#[x,y],argTypes:=#[t,q]},ty,pos,af,gd⟩::l) ⟨ay,al⟩ h K:=by
 have s:=v.eq;cases j:P.info? e with
 | none=>rw[j] at s;cases s
 | some cg=>exact ad.km hw aq (λa g H=>bE.adb hu.eq j (g.ev aa) (g.ev aN) h0) aF aj
def ad.Hk[bH]{t e x bL ag b off len cap L H sz off'}[hu:ee P t (.slice e)][aC:e4 P e sz](hw:cw an ⟨some d,.slice t x bL ag none,ty,pos,af,gd⟩ ⟨ay,al⟩=some true)(aq:Nat.blt d al=true)(aa:Fr.ev ⟨ay,al⟩ x=some (.slice (some ⟨b,off,none⟩) len cap))(hB:L1 ay al bL 0 L)(sL:L1 ay al ag len H)(J:L<=H)(ab:H<=cap)(aB:cap<nw)(aH:(if cap=L then off else off+L*sz)=off')(aj:ad P an bg (de h.k false [] none::rs) l ⟨(d,.slice (some ⟨b,off',none⟩) (H-L) (cap-L))::ay,al⟩ h K):ad P an bg rs (⟨some d,.slice t x bL ag none,ty,pos,af,gd⟩::l) ⟨ay,al⟩ h K:=by
 have ej:=aC.eq;cases dQ:P.info? e with
 | none=>rw[dQ] at ej;cases ej
 | some cg =>
  rw[dQ] at ej;have br:cg.size=sz:=p1;subst br;refine ad.still (nv:=none) hw aq (λa g H=>?_) trivial aj;have:=bE.Wf (P:=P) (o:=⟨some d,.slice t x bL ag none,ty,pos,af,gd⟩) (h:=H) rfl hu.eq dQ (g.ev aa) (PH g hB) (PH g sL) J ab aB;have ba:(if cap=L then(⟨b,off,none⟩:Addr) else(⟨b,off,none⟩:Addr).add (L*cg.size))=⟨b,off',none⟩:=by
   rw[<-aH];split
   .rfl
   .rw[add_plain]
  rw[ba] at this;exact dm
def ad.MN[bH]{t e x j ag sz}[hu:ee P t (.slice e)][aC:e4 P e sz](hw:cw an ⟨some d,.slice t x j ag none,ty,pos,af,gd⟩ ⟨ay,al⟩=some true)(aq:Nat.blt d al=true)(aa:Fr.ev ⟨ay,al⟩ x=some (.slice none 0 0))(s:L1 ay al j 0 0)(q:L1 ay al ag 0 0)(aj:ad P an bg (de h.k false [] (some [])::rs) l ⟨(d,.slice none 0 0)::ay,al⟩ h K):ad P an bg rs (⟨some d,.slice t x j ag none,ty,pos,af,gd⟩::l) ⟨ay,al⟩ h K:=by
 have ej:=aC.eq;cases dQ:P.info? e with
 | none=>rw[dQ] at ej;cases ej
 | some cg =>
  exact ad.km hw aq (λa g H=>bE.MN (P:=P) rfl hu.eq dQ (g.ev aa) (PH g s) (PH g q)) aF aj
end
section
variable{l:List Oper}{k:Nat}{K:Fr->aY->Prop}{d:Tmp}
def ad.M5[bH]{t e x y}{n sz j:Nat}{kx ky z cs}[hu:ee P t (.slice e)][aC:e4 P e sz][I:nb P e j][s:iY P e z](hw:cw an ⟨some d,.makeSlice t x y,ty,pos,af,gd⟩ ⟨ay,al⟩=some true)(aq:Nat.blt d al=true)(aa:Fr.ev ⟨ay,al⟩ x=some (.int kx (n:Int)))(aN:Fr.ev ⟨ay,al⟩ y=some (.int ky (n:Int)))(D:Nat.beq (ei z).length sz=true)(A:Nat.blt 0 sz=true)(q:n<=9223372036854775807/\j*n<=281474976710656)(aB:nd (ei z) n=cs)(M:∀u∈cs,bw 0 u)(aj:ad P an bg (pe k false [] (some [k]) (some [])::rs) l ⟨(d,.slice (some ⟨π k,0,none⟩) n n)::ay,al⟩ ⟨B,π,k+1,(k,some ⟨⟨cs⟩,e⟩)::ao⟩ K):ad P an bg rs (⟨some d,.makeSlice t x y,ty,pos,af,gd⟩::l) ⟨ay,al⟩ ⟨B,π,k,ao⟩ K:=by
 have J:=s.eq;have ej:=aC.eq;have nS:=I.eq;cases ag:P.info? e with
 | none=>rw[ag] at J;cases J
 | some cg =>
  rw[ag] at J ej nS;have E:cg.size=sz:=p1;have br:cg.bytes=j:=yJ;subst E;subst br;have C:=mu D;have N:=iC.1 A;refine ad.step hw aq (hP.new (λa g H aC=>?_) ?_ λu hu=>kQ (M u GS)) aj
  .have:=bE.makeSlice (P:=P) (o:=⟨some d,.makeSlice t x y,ty,pos,af,gd⟩) (h:=H) rfl hu.eq ag J (tx s.dU) hu.ve (g.ev aa) (g.ev aN) (b4 _) q.1 (by simpa using q.2);rw[aC.n,sy,<-C,ajd U,aB] at this;exact dm
  .show e0 _ _;rw[e0];exact yP
def ad.aAW[bH]{g0 xs ts vs v b}q s[bf:cY P g0](hw:cw an ⟨some d,.call {callee:=.value (.func g0),args:=xs,argTypes:=ts},ty,pos,af,gd⟩ ⟨ay,al⟩=some true)(aq:Nat.blt d al=true)(aa:pS ay al xs.toList=some vs)(aS:∀H:aV,sh ⟨B,π,k,ao⟩ q s H->bc P g0 ⟨vs⟩ H v (H.push b))(aj:ad P an bg (pe k q s none none::rs) l ⟨(d,v)::ay,al⟩ ⟨B,π,k+1,(k,some b)::ao⟩ K):ad P an bg rs (⟨some d,.call {callee:=.value (.func g0),args:=xs,argTypes:=ts},ty,pos,af,gd⟩::l) ⟨ay,al⟩ ⟨B,π,k,ao⟩ K :=
 ad.F2 q s hw aq aa aS aj
end
section
open Go.RowKit
def Ext.below{h aw ρ ρ' W W' G}(u:db G h ρ W)(N:db G aw ρ' W')(g:Ext h aw ρ ρ' W W')(C:∀i b,h.m i=some b->aw.m i=some b):Below W.heap.size W W':=by
 refine⟨g.os,g.tape,g.output,g.size,λk aj=>?_⟩;by_cases aa:∃i b,df<=i/\h.m i=some b/\ρ.bJ i=k
 .obtain⟨i,b,q,I,rfl⟩:=aa;have D:=u.lt i b I;have⟨c,aB,_,S⟩:=g.pq i b D (C i b I);by_cases A:b.elem<mapM;case neg =>
   rcases u.fa i b I with⟨_,_,_,_,_,hw⟩|⟨m,he,_,Q,_⟩
   .exact absurd (hw q).2.2.2.2 A
   .have:=(N.fa i b (C i b I));have⟨cs,el⟩:=b;simp only at Q;subst Q;have R:=(this.map q).1;rw[(g.hU i D).1] at R;rw[he,R]
  rcases S with e|⟨d,V6,t,dU,s,z,eh,T⟩|⟨es,JD,cl,cl',s,z⟩
  .exact e
  .have⟨tail,J,g1,g2,_⟩:=(u.fa i b I).fC q (.inr A);have⟨Z,Y,E,dk,_⟩:=(N.fa i b (C i b I)).fC q (.inr A);rw[(g.hU i D).1] at E;rw[g1] at s;rw[E] at z;injection s with s;injection s with O a2 a3;injection z with z;injection z with b1 hf V;rw[g1,E];congr 2
   .rw[O,b1];apply k3;apply kg;intro j;rw[pY,pY];by_cases aA:b.cells.size<=j
    .exact T j aA
    .have M:j<b.cells.size:=U;rw[<-O,<-b1,Ui (by simpa using M),Ui (by simpa using M)];rw[j5 λv aE=>vn g.hU v (u.dP i b I v aE)]
   .rw[a3,V]
  .have⟨tail,J,g1,_⟩:=(u.fa i b I).fC q (.inr A);rw[g1] at s;cases s
 .exact g.l8 k aj λi b q I e=>aa ⟨i,b,q,I,e⟩
def bc.below{f args h aw v}(aS:bc P f args h v aw)(j:∀i b,h.m i=some b->aw.m i=some b)(r:∀x∈args,bw h.n x){ρ W}(g:db P.globals.size h ρ W):
 Calls P f (args.map (bP ρ)) W λe W'=>(∃ρ',e=.returned (bP ρ' v))/\Below W.heap.size W W':=by
 refine(aS r ρ W g).mono ?_;rintro e W' ⟨ρ',rfl,_,p,q⟩;exact⟨⟨ρ',rfl⟩,q.below g p j⟩
end
end Go.AH
namespace Go
variable{H:Type}{dy:TypeId×Value->H}
def aLI{a C os f fn s n u r g again}{X:World->Array Value->Prop}(O:∀(w w':World) (args:Array Value),w.heap=w'.heap->X w args->X w' args)(N:ownKnob C.prog.godebug=none)(q:os.Started)(I:C.prog.inits.idxOf? f=none)(M:C.prog.funcs[f]?=some fn)(p:∃(w:World) (b:Tape) (i:Input),w.os=os/\(w.forCall b i).Shaped C.prog/\i.vars=[]/\Input.okWide C.prog (w.forCall b i) .any w.heap.size f i/\
  ((s.pre dy C.prog fn n u (w.forCall b i).memory i.args/\X (w.forCall b i).memory i.args)/\sizedMet dy C.prog fn (OpenSpec.ofChange s) u (w.forCall b i).memory i.args)/\a.holds C.prog (lone (Frame.enter C.prog f i.args .normal) [] (w.forCall b i)))(E:∀(W:World) (bD:Nat) (args:Array Value) (z gs:List (DataW H)) (before:List MemPlace),
  (∀(j:Nat) t v,fn.params[j]?=some t->args[j]?=some v->Value.okWide C.prog W .any bD t v) ->
  DataW.Whole dy C.prog fn.params.toList s.vars u W args.toList z gs before ->
  n.all (PathCond.test C.prog ⟨fn.params.toList,z,s.plain.varTypes C.prog,gs⟩)=true ->
  (DataW.weightsEach C.prog (fn.params.toList++s.plain.varTypes C.prog) (z++gs)).all (·<=reachBytes)=true->X W args->W.ShapedOpen C.prog ->
  a.holds C.prog (lone (Frame.enter C.prog f args .normal) [] W) ->
  Calls C.prog f args W λe W'=>∃v,e=.returned v/\s.post dy C.prog fn u r g again W args v W'):
 ReturnsInHanded a C os f .any (λw args=>(s.pre dy C.prog fn n u w args/\X w args)/\sizedMet dy C.prog fn (OpenSpec.ofChange s) u w args) (s.post dy C.prog fn u r g again):=by
 refine returnsInHanded_of_calls N q I p ?_;intro w b i _ J _ R T D;have⟨_,_,_,Q,A,_,_,_,_,U⟩:=R;have e:=uj (A.symm.trans M);subst e;have⟨⟨⟨z,gs,before,hw,aB⟩,aa⟩,S⟩:=T;refine(E (w.forCall b i) w.heap.size i.args z gs before U (DataW.Whole.of_heap (w':=w.forCall b i) (by rfl) hw) aB (S.weights hw) (O _ _ _ (by rfl) aa) J D).mono λe W' ⟨v,he,bh⟩=>?_;subst he;exact ChangeSpec.post_blind bh
end Go
namespace Go.AH
section
variable{P:Program}
structure L8 where
 addr:Addr
 blk:Option cd
def nm(G:Nat)(ws:List L8):eY where
 bJ i:=if i<G then i else match ws[i-G]? with|some w=>w.addr.block|none=>i
 cap _:=0
 fO i:=if i<G then 0 else match ws[i-G]? with|some w=>w.addr.off|none=>0
def qC(G:Nat)(g0:Nat->Option cd)(ws:List L8):aV where
 m i:=if i<G then g0 i else(ws[i-G]?).bind (·.blk)
 n:=df
structure BG(G:Nat)(W:World)(ws:List L8):Prop where
 fa:∀(i:Nat) (w:L8) (b:cd),ws[i]?=some w->w.blk=some b->∃(pre tail:Array Value) (dU:Nat×Nat),W.heap[w.addr.block]?=some (.cells (pre++b.cells.map (bP (nm G ws))++tail) b.elem dU)/\pre.size=w.addr.off
 dP:∀(i:Nat) (w:L8) (b:cd),ws[i]?=some w->w.blk=some b->∀v∈b.cells,bw (G+ws.length) v
def alI G b ik:xI (G+b.length) (nm G b) (nm G (b++ik)):=by
 intro i ag;unfold nm;by_cases h:i<G
 .exact yY
 .have:(b++ik)[i-G]?=b[i-G]?:=ur U;simp only[h,jE,this,and_self]
def D(G:Nat)(g0:Nat->Option cd)(W:World)(cs:List Value)(N:Nat)(kO:aV->List Value->Prop):Prop :=
 ∀ws,BG G W ws->∃ik eJ,BG G W (ws++ik)/\ik.length<=N/\eJ.map (bP (nm G (ws++ik)))=cs/\(∀v∈eJ,bw (G+(ws++ik).length) v)/\kO (qC G g0 (ws++ik)) eJ
def qB(kO:aV->List Value->Prop):Prop:=∀h H eJ,(∀i b,h.m i=some b->H.m i=some b)->kO h eJ->kO H eJ
def ajh G g0 e ik:∀i b,(qC G g0 e).m i=some b->(qC G g0 (e++ik)).m i=some b:=by
 intro i b h;unfold qC at h|-;simp only at h|-;split at h
 .rwa[au ‹_›]
 .rw[ai ‹_›];cases hw:e[i-G]? with
  | none=>rw[hw] at h;cases h
  | some w =>
   rw[ur (cS.1 hw).1,hw];rw[hw] at h;exact h
variable{G:Nat}{g0:Nat->Option cd}{W:World}
def D.km{cs}(h:∀v∈cs,bw 0 v):D G g0 W cs 0 (λ_ eJ=>eJ=cs):=by
 refine λws ao=>⟨[],cs,by simpa using ao,b4 _,?_,λv aE=>hc (dG _) v (h v aE),rfl⟩;exact(As λv aE=>rE _ v (h v aE)).trans (List.map_id cs)
def D.mono{cs N aye kO ayf}(d:D G g0 W cs N kO)(cj:N<=aye)(h:∀H eJ,eJ.length=cs.length->kO H eJ->ayf H eJ):D G g0 W cs aye ayf:=by
 intro ws ao;have⟨ik,eJ,J,ab,aK,br,cz⟩:=d ws ao;exact⟨ik,eJ,J,bx ab cj,aK,br,h _ _ (by rw[<-aK,fI]) cz⟩
def D.append{R z E s g q}(S:qB g)(d1:D G g0 W R E g)(d2:D G g0 W z s q):
 D G g0 W (R++z) (E+s) (λH V=>∃j A,V=j++A/\g H j/\q H A):=by
 intro ws ao;have⟨m1,j,U,eb,Y,b1,T⟩:=d1 ws ao;have⟨m2,A,M,Z,Q,O,C⟩:=d2 _ U;rw[pX] at M Q O C;refine⟨m1++m2,j++A,M,by rw[iM];omega,?_,λv aE=>?_,j,A,rfl,?_,C⟩
 .rw[pW,Q,<-Y];congr 1;refine As λv aE=>?_;rw[<-pX];exact alH
 .rcases ha.1 aE with aE|aE
  .exact hc ali v (b1 v aE)
  .exact O v aE
 .refine S _ _ _ ?_ T;rw[<-pX];exact ajh _ _ _ _
def D.many{N kO}(u:qB kO):∀{gT:List (List Value)},(∀c∈gT,D G g0 W c N kO)->∀ws,BG G W ws ->
 ∃(ik:List L8) (g:List (List Value)),BG G W (ws++ik)/\ik.length<=gT.length*N/\g.map (List.map (bP (nm G (ws++ik))))=gT/\(∀a∈g,∀v∈a,bw (G+(ws++ik).length) v)/\∀a∈g,kO (qC G g0 (ws++ik)) a:=by
 intro gT;induction gT with
 | nil=>exact λ_ ws ao=>⟨[],[],by simpa using ao,aF,rfl,(λa aJ=>yU),λa aJ=>yU⟩
 | cons c gT aP =>
  intro z ws ao;have⟨m1,O,E,S,Q,b1,C⟩:=z c aF ws ao;have⟨m2,as,q,R,A,s,j⟩:=aP (λM aB=>z M (by simp[aB])) _ E;rw[pX] at q A s j;refine⟨m1++m2,O::as,q,by rw[iM,e5,uu];omega,?_,λa aJ=>?_,λa aJ=>?_⟩
  .rw[gg,A,<-Q];congr 1;refine As λv aE=>?_;rw[<-pX];exact alH
  .rcases dI.1 aJ with rfl|aJ
   .exact λv aE=>hc ali v (b1 v aE)
   .exact s a aJ
  .rcases dI.1 aJ with rfl|aJ
   .refine u _ _ _ ?_ C;rw[<-pX];exact ajh _ _ _ _
   .exact j a aJ
def BG.snoc{e}(ao:BG G W e)w(j:∀b,w.blk=some b->(∃(pre tail:Array Value) (q:Nat×Nat),W.heap[w.addr.block]?=some (.cells (pre++b.cells.map (bP (nm G e))++tail) b.elem q)/\pre.size=w.addr.off)/\∀v∈b.cells,bw (G+e.length) v):BG G W (e++[w]):=by
 have g:∀b:cd,(∀v∈b.cells,bw (G+e.length) v)->b.cells.map (bP (nm G (e++[w])))=b.cells.map (bP (nm G e)):=λb I=>j5 λv aE=>vn (alI G e [w]) v (I v aE);have split:∀(i:Nat) (x:L8),(e++[w])[i]?=some x->e[i]?=some x\/x=w:=by
  intro i x h;by_cases ag:i<e.length
  .rw[ur ag] at h;exact .inl h
  .rw[oI U] at h;cases aj:i-e.length with
   | zero=>rw[aj] at h;simp at h;exact .inr h.symm
   | succ k=>rw[aj] at h;simp at h
 refine⟨λi x b ag I=>?_,λi x b ag I=>?_⟩
 .rcases split i x ag with h|rfl
  .rw[g b (ao.dP i x b h I)];exact ao.fa i x b h I
  .rw[g b (j b I).2];exact(j b I).1
 .intro v aE;rw[iM];rcases split i x ag with h|rfl
  .exact hc U v (ao.dP i x b h I v aE)
  .exact hc U v ((j b I).2 v aE)
structure aQw(h:aV)(w:Nat)(k2:List (List Value))(A:Option Addr)(kO:aV->List Value->Prop):Prop where
 all:∀a∈k2,kO h a/\a.length=w
 aI:k2≠[]->∃b e,A=some ⟨b,0,none⟩/\h.m b=some ⟨⟨k2.flatten⟩,e⟩
def mS(w M:Nat)(kO:aV->List Value->Prop)(H:aV)(eJ:List Value):Prop :=
 ∃(A:Option Addr) (c:Nat) (k2:List (List Value)),eJ=[.slice A k2.length c]/\aQw H w k2 A kO/\k2.length<=M/\k2.length<=c/\c<nw/\(A=none->c=0)
def mS.up{w M g}(u:qB g):qB (mS w M g):=by
 rintro h H z hm ⟨A,c,n,e,r,J,t,v⟩;exact⟨A,c,n,e,⟨λa j=>⟨u _ _ _ hm (r.all a j).1,(r.all a j).2⟩,λs=>by have⟨b,e,q,p⟩:=r.aI s;exact⟨b,e,q,hm _ _ p⟩⟩,J,t,v⟩
def D.MN{w M kO}:D G g0 W [.slice none 0 0] 0 (mS w M kO):=by
 exact λg ao=>⟨[],[.slice none 0 0],by simpa using ao,b4 _,aF,λv aE=>by simp at aE;subst aE;simp,none,0,[],rfl,⟨(λa aJ=>yU),λh=>absurd rfl h⟩,dG _,b4 _,bo,λ_=>rfl⟩
def ajj{a n cs}(h:W.cells? 0 a n=some cs):cs.length=n/\∀j v,cs[j]?=some v->W.cell? (a.add j)=some v:=by
 unfold World.cells? at h;rw[au (dG _)] at h;have dO:∀(l:List Nat) (cs:List Value),l.mapM (λi=>W.cell? (a.add i))=some cs->cs.length=l.length/\∀(j:Nat) (v:Value),cs[j]?=some v->∃i:Nat,l[j]?=some i/\W.cell? (a.add i)=some v:=by
  intro l;induction l with
  | nil=>intro cs h;simp at h;subst h;exact⟨rfl,λj v h=>p2⟩
  | cons i l aP =>
   intro cs h;rw[aaN] at h;cases J:W.cell? (a.add i) with
   | none=>rw[J] at h;cases h
   | some v0 =>
    rw[J] at h;cases ab:l.mapM (λi=>W.cell? (a.add i)) with
    | none=>rw[ab] at h;cases h
    | some Pf =>
     rw[ab] at h;simp only[bind,Option.bind,pure] at h;injection h with h;subst h;have⟨cB,cy⟩:=aP Pf ab;refine⟨by simp[cB],λj v aA=>?_⟩;cases j with
     | zero=>simp at aA;subst aA;exact⟨i,rfl,J⟩
     | succ j=>simpa using cy j v Qu
 have⟨cB,cy⟩:=dO _ _ h;rw[List.length_range] at cB;refine⟨cB,λj v aA=>?_⟩;have⟨i,ag,aE⟩:=cy j v aA;have kS:=(cS.1 aA).1;rw[ajw U] at ag;injection ag with ag;subst ag;exact aE
def G1{α:Type}{w}:∀{b:List (List α)},(∀c∈b,c.length=w)->∀i j,j<w->b.flatten[i*w+j]?=(b[i]?).bind (·[j]?):=by
 intro b;induction b with
 | nil=>intro _ i j _;simp
 | cons c b n =>
  intro h i j q;have aB:=h c aF;rw[I5];cases i with
  | zero=>rw[ur U];simp
  | succ i =>
   rw[uu,oI U,show i*w+w+j-c.length=i*w+j by omega,n (λg e=>h g (by simp[e])) i j q];simp
def yi{α:Type}{w}:∀{b:List (List α)},(∀c∈b,c.length=w)->b.flatten.length=b.length*w:=by
 intro b;induction b with
 | nil=>intro _;simp
 | cons c b j=>intro h;rw[I5,iM,h c aF,j λg e=>h g (by simp[e]),e5,uu];omega
def D.slice{w N M kO}(u:qB kO){a len cap gT}(hw:0<w)(dO:gT.length=len)(aq:∀c∈gT,D G g0 W c N kO)(aB:∀i c,gT[i]?=some c->W.cells? 0 (a.add (i*w)) w=some c)(hle:len<=cap)(kH:cap<nw)(e9:len<=M)(Z:gT≠[]->a.spot=none):
 D G g0 W [.slice (some a) len cap] (len*N+1) (mS w M kO):=by
 intro S ao;have⟨ik,q,fY,eb,O,b1,rh⟩:=D.many u aq S ao;have T:q.length=len:=by have:=hq List.length O;rw[fI] at this;omega
 have C:∀c∈gT,c.length=w:=by
  intro c mJ;have⟨i,ag⟩:=nO.1 mJ;exact(ajj (aB i c ag)).1
 have Q:∀x∈q,x.length=w:=by
  intro x aa;have:x.map (bP (nm G (S++ik)))∈gT:=by rw[<-O];exact ih.2 ⟨x,aa,rfl⟩
  have:=C _ this;rwa[fI] at this
 have G7:∀k v,gT.flatten[k]?=some v->W.cell? (a.add k)=some v:=by
  intro k v aj;have oO:k<gT.length*w:=by rw[<-yi C];exact(cS.1 aj).1
  have e:k=k/w*w+k%w:=by rw[IW];exact(Nat.div_add_mod k w).symm
  rw[e,G1 C _ _ (Gy _ hw)] at aj;cases aa:gT[k/w]? with
  | none=>rw[aa] at aj;cases aj
  | some c =>
   rw[aa] at aj;have:=(ajj (aB _ c aa)).2 _ v aj;have a1:(a.add (k/w*w)).add (k%w)=a.add k:=by
    rw[show a.add k=a.add (k/w*w+k%w) by rw[<-e]];unfold Addr.add;by_cases J:k/w*w=0<;>by_cases ab:k%w=0<;>simp[J,ab,PX]<;>omega
   rw[a1] at this;exact dm
 let g:=S++ik
 let blk:Option cd:=if q=[] then none else match W.heap[a.block]? with|some (.cells _ t _)=>some ⟨⟨q.flatten⟩,t⟩|_=>none
 have aTs:q.flatten.length=len*w:=by rw[yi Q,T]
 have z1:q≠[]->∃c t r,W.heap[a.block]?=some (.cells c t r)/\a.off+len*w<=c.size/\∀k v,gT.flatten[k]?=some v->c[a.off+k]?=some v:=by
  intro s;have gD:0<len:=by rw[<-T];exact DV.2 s
  have Z:=Z (λe=>by rw[e] at dO;simp at dO;omega);have aTt:gT.flatten.length=len*w:=by rw[yi C,dO]
  have hx:0<len*w:=aaE gD hw;have E:∀k,k<len*w->∃c t r,W.heap[a.block]?=some (.cells c t r)/\c[a.off+k]?=gT.flatten[k]?:=by
   intro k aj;have J:=G7 k _ (ey (U:k<gT.flatten.length));unfold World.cell? at J;have I:(a.add k).block=a.block:=xK a k;have aH:(a.add k).off=a.off+k:=Qc;have aC:(a.add k).spot=none:=Qc;rw[I,aH,aC] at J;split at J
   .rename_i c t r z;simp only[Uh,nN,jE] at J;exact⟨c,t,r,z,by rw[J];exact(ey _).symm⟩
   .cases J
  have⟨c,t,r,z,_⟩:=E 0 hx;have A:∀k,k<len*w->c[a.off+k]?=gT.flatten[k]?:=by
   intro k aj;have⟨ea,b3,amB,R,aE⟩:=E k aj;rw[z] at R;injection R with R;injection R with cB cy fK;rwa[cB]
  refine⟨c,t,r,z,?_,λk v aj=>by rwa[A k (by have:=(cS.1 aj).1;omega)]⟩
  .have:=A (len*w-1) U;rw[ey U] at this;have:=(Ar.1 this).1;omega
 have hh:BG G W (g++[⟨a,blk⟩]):=by
  refine fY.snoc _ λb I=>?_;simp only[blk] at I;by_cases s:q=[]
  .rw[au s] at I;cases I
  .rw[ai s] at I;have⟨c,t,r,z,ej,aE⟩:=z1 s;rw[z] at I;simp only[dh] at I;subst I;refine⟨⟨c.extract 0 a.off,c.extract (a.off+len*w) c.size,r,?_,jf⟩,λv aE=>?_⟩
   .rw[z];congr 2;have Y:(⟨q.flatten⟩:Array Value).map (bP (nm G g))=c.extract a.off (a.off+len*w):=by
     apply k3;simp only[so,(by rw[<-O,List.map_flatten]:(q.flatten).map (bP (nm G g))=gT.flatten)];apply kg;intro k;rw[pY (xs:=c.extract a.off (a.off+len*w)),ajt];show gT.flatten[k]?=_;by_cases aj:k<len*w
     .have hk:k<gT.flatten.length:=by rwa[yi C,dO]
      rw[au U,ey hk];exact(aE k _ (ey hk)).symm
     .rw[ai U,wh (by rw[yi C,dO];omega)]
    rw[Y,aaJ,Nat.zero_min,aaK U,aaJ,Nat.zero_min,aaK U];simp
   .have⟨x,aa,V⟩:=Ux.1 (lL:v∈q.flatten);exact b1 x aa v V
 refine⟨ik++[⟨a,blk⟩],[.slice (some ⟨G+g.length,0,a.spot⟩) len cap],by rwa[<-pX],by rw[iM];simp only[DW];rw[dO] at eb;omega,?_,?_,some ⟨G+g.length,0,a.spot⟩,cap,q,by rw[T],⟨?_,?_⟩,U,U,kH,λh=>jh⟩
 .simp only[gg,oH,qJ];rw[<-pX];have J:(g++[⟨a,blk⟩])[G+g.length-G]?=some ⟨a,blk⟩:=by
   rw[PS,oI (b4 _)];simp
  have O:fJ (nm G (g++[⟨a,blk⟩])) ⟨G+g.length,0,a.spot⟩=a:=by
   unfold fJ nm;simp only[J];rw[ai U,ai U];have⟨qs,gY,as⟩:=a;simp
  show[Value.slice (some (fJ (nm G (g++[⟨a,blk⟩])) ⟨G+g.length,0,a.spot⟩)) len (jv _ _ cap)]=_;rw[O];unfold jv;rw[au kH]
 .intro v aE;simp only[gU] at aE;subst aE;rw[vr];simp only[iM,DW,g];omega
 .refine λx aa=>⟨u _ _ _ ?_ (rh x aa),Q x aa⟩;rw[<-pX];exact ajh _ _ _ _
 .intro s;have⟨c,t,r,z,_⟩:=z1 s;refine⟨G+g.length,t,by rw[Z (λe=>by rw[e] at dO;simp at dO;have:=DV.2 s;omega)],?_⟩;rw[<-pX];unfold qC;simp only;rw[ai U,PS,oI (b4 _)];simp only[sr,kC,tm,blk];rw[ai s,z]
def avA G g0 b:(qC G g0 b).n=df:=by simp only[qC]
def BG.aQ{e}(ao:BG G W e)(q:G+e.length<=df)(s:∀i b,i<G->g0 i=some b->(∃(tail:Array Value) (n:Nat×Nat),W.heap[i]?=some (.cells (b.cells++tail) b.elem n))/\∀v∈b.cells,bw 0 v):db G (qC G g0 e) (nm G e) W:=by
 refine⟨λi b I=>?_,λi b I=>?_,λi j b c z I=>?_,λi b I=>?_,λg bf=>by unfold nm;simp[bf],IV (avA _ _ _).symm,bx (DR _ _) q⟩
 .unfold qC at I;simp only at I;split at I
  .rename_i ag;have⟨⟨tail,n,he⟩,u⟩:=s i b ag I;refine .inl ⟨#[],tail,n,?_,?_,λaM=>U⟩
   .unfold nm;simp only[au ag];rw[he];congr 2;rw[j5 λv aE=>rE _ v (u v aE)];simp
   .unfold nm;simp[ag]
  .rename_i ag;cases hw:e[i-G]? with
   | none=>rw[hw] at I;cases I
   | some w =>
    rw[hw] at I;have⟨pre,tail,n,he,bh⟩:=ao.fa _ w b hw I;have A:=(cS.1 hw).1;refine .inl ⟨pre,tail,n,?_,?_,λaM=>U⟩
    .unfold nm;simp only[ai ag,hw];exact he
    .unfold nm;simp only[ai ag,hw];exact bh
 .unfold qC at I|-;simp only at I|-;split at I
  .exact U
  .cases hw:e[i-G]? with
   | none=>rw[hw] at I;cases I
   | some w=>have:=(cS.1 hw).1;omega
 .exfalso;unfold qC at I;simp only at I;split at I
  .exact U
  .cases hw:e[i-G]? with
   | none=>rw[hw] at I;cases I
   | some w=>have:=(cS.1 hw).1;omega
 .intro v aE;unfold qC at I|-;simp only at I|-;split at I
  .rename_i ag;exact hc (dG _) v ((s i b ag I).2 v aE)
  .cases hw:e[i-G]? with
   | none=>rw[hw] at I;cases I
   | some w =>
    rw[hw] at I;exact hc q v (ao.dP _ w b hw I v aE)
end
variable{P:Program}
def aQz{α}w:∀l:List α,ql w l=(l.reverse.map w).flatten:=by
 intro l;induction l with
 | nil=>rfl
 | cons a l b=>rw[ql,b];simp
def aEw{α w e}{l:List α}(h:l≠[]):gQ w e l=some ⟨⟨(l.reverse.map w).flatten⟩,e⟩:=by
 cases l with
 | nil=>exact absurd rfl h
 | cons a l=>rw[<-aQz];rfl
def jO{α}sz a(l:List α):cD sz a l=.slice (if l=[] then none else some ⟨a,0,none⟩) l.length (if l=[] then 0 else dF sz):=by
 cases l<;>simp[cD]
variable{an:Array Oper}{bg:Bool}{rs:List fZ}{ay:List (Nat×Value)}{al:Nat}{B:aV}{π:Nat->Nat}{ao:List (Nat×Option cd)}{ty:TypeId}{pos:String}{af:Array Edge}{gd:Option (Nat×Bool)}
section
variable{l:List Oper}{k:Nat}{K:Fr->aY->Prop}{d:Tmp}
end
structure fG(h:aY)(aD:aV):Prop where
 aO:∀i b,aD.m i=some b->i<aD.n
 cx:∀i,i<h.bD.n->aD.m i=h.bD.m i
 bJ:∀i,i<h.k->aD.m (h.π i)=ec h.l i
 n:aD.n=h.π h.k
 bL:∀i,i<h.k->h.bD.n<=h.π i
 ag:∀i,i<h.k->h.π i<aD.n
 inj:∀i j,i<h.k->j<h.k->h.π i=h.π j->i=j
 le:h.bD.n<=aD.n
 rw:df<=h.bD.n
 UN:∀i b,h.bD.m i=some b->i<h.bD.n
 j9:Sat P aD
def fG.of{h}(w:h.WF)(s:Sat P h.a6):fG (P:=P) h h.a6:=by
 have⟨ρ,W,aH⟩:=s;exact⟨aH.lt,λi ag=>by simp only[aY.a6];rw[au ag],λi ag=>aY.wy w ag,rfl,w.bL,w.ag,w.inj,w.jC,w.nE,w.dP,⟨ρ,W,aH⟩⟩
def fG.up{h e}(a:fG (P:=P) h e):∀i b,h.bD.m i=some b->e.m i=some b:=λi b I=>by rwa[a.cx i (a.UN i b I)]
def Sat.aO{h}(s:Sat P h):∀i b,h.m i=some b->i<h.n:=by have⟨ρ,W,aH⟩:=s;exact aH.lt
def Sat.rw{h}(s:Sat P h):df<=h.n:=by have⟨ρ,W,aH⟩:=s;exact aH.kk
def Sat.wf{h}(s:Sat P h):(aY.of h).WF:=aY.ai4 s.rw s.aO
def Sat.a6{h}(s:Sat P h):(aY.of h).a6=h:=aY.ai5 s.aO
def W.hH[bH]{c f h K}(hw:∀(r:aV) (π:Nat->Nat),fG (P:=P) h r->W P c f ⟨r,π,0,[]⟩ K):W P c f h K:=by
 intro a w s b g;have p:=s.a6;have⟨e,f1,J,q,u,t,s1,b1,g1,t1⟩:=hw _ (aY.of h.a6).π (fG.of w s) a s.wf (by show Sat P (aY.of h.a6).a6;rwa[p]) (by show gI (aY.of h.a6).a6.n a;rwa[p]) g;have t1:iO P c a (aY.of h.a6).a6 e q J.a6:=t1;rw[p] at t1;exact⟨e,f1,J,q,u,t,s1,b1,g1,t1⟩
def ad.hH[bH]{an rs l f h K}(hw:∀(s:aV) (π:Nat->Nat),fG (P:=P) h s->ad P an false rs l f ⟨s,π,0,[]⟩ K):ad P an false rs l f h K:=by
 intro xs u h0 a p;have q:=p.j9.a6;exact hw _ (aY.of h.a6).π (fG.of p.wf p.j9) xs u h0 a (⟨by rw[q];exact p.chain,p.os,p.ok,p.len,(λaq=>by cases aq),p.j9.wf,by rw[q];exact p.j9,by rw[q];exact p.bw,p.wb,p.DJ⟩:axI P an false rs l xs u h0 a f (aY.of h.a6))
def bE.ik{o a h aw v}(aS:bE P o a.eval h v aw)(aj:∀x∈o.op.operands,rF P.globals.size x)(s:Sat P h)(I:gI h.n a):h.n<=aw.n/\∀i b',i<h.n->aw.m i=some b'->∃b,h.m i=some b:=by
 have⟨ρ,W,aH⟩:=s;have:=Wi (aS (λx aa=>AG aH.kF I x (aj x aa)) ρ W aH (eU ρ a) (λ_ W'=>∃ρ',Ext h aw ρ ρ' W W') (λ_ _ _=>False)
  (λx aa=>y4 aH.fu _ x (aj x aa)) λρ' W' _ _ g=>⟨ρ',g⟩)
 have⟨_,W',ρ',g⟩:=this;exact⟨g.mono,λi b' ag j=>by have⟨b,J,_⟩:=g.pq i b' ag j;exact⟨b,J⟩⟩
def ad.O7[bH]{an rs o l f h K}(hw:cw an o f=some true)(aq:II f.al o.dst=true)(J:∀a,gZ f a->h.WF->Sat P h.a6->gI h.a6.n a->(∀x∈o.op.operands,rF P.globals.size x)->∃v aw,bE P o a.eval h.a6 v aw.a6/\aw.WF/\ad P an false (de 0 false [] none::rs) l (f.put o.dst v) aw K):ad P an false rs (o::l) f h K:=by
 intro xs E h0 a p;have D:an[xs.length]?=some o:=by
  rw[<-pY,<-p.os,oI aF];simp
 have A:=Wq p.DJ D;have⟨v,aw,C,M,aj⟩:=J a p.wb p.wf p.j9 p.bw A;have⟨s1,s2⟩:=bE.j9 C A p.j9 p.bw;have⟨m1,m2⟩:=bE.ik C A p.j9 p.bw;have s:∀H:aV,H.eO (λ_=>false)=H:=λH=>aV.eq (λid=>by simp[aV.eO]) rfl;let x:qd:={o:=o,a:=a,h:=h.a6,v:=v,aw:=aw.a6,hid:=λ_=>false,fU:=λ_=>true}
 refine aj (xs++[x]) E h0 (a.put o.dst v) ⟨aag p.chain rfl rfl,U3,?_,by simp[p.len],(λaq=>by cases aq),M,s1,qL (Ee m1 p.bw) _ s2,p.wb.put aq v,p.DJ⟩
 .intro y aN;rcases ha.1 aN with z|z
  .exact p.ok y z
  .simp only[gU] at z;subst z;refine⟨.inr (.inl ⟨aah p.wb hw,A,?_⟩),m1,λid hid ak=>?_,(λid he=>by cases he),λid _=>rfl⟩
   .show bE P o a.eval (h.a6.eO λ_=>false) v (aw.a6.eO λ_=>false);rwa[s,s]
   .show aw.a6.m id=none;cases aB:aw.a6.m id with
    | none=>rfl
    | some b' =>
     have⟨b,I⟩:=m2 id b' hid aB;have ak:h.a6.m id=none:=ak;rw[ak] at I;cases I
def dw(P:Program)(g:FuncId)(args:List Value)(h:aV)(Q:Value->aV->Prop):Prop:=Sat P h->(∀v∈args,bw h.n v)->∃v aw,bc P g ⟨args⟩ h v aw/\Q v aw
def dw.mono{g args h Q e}(he:dw P g args h Q)(j:∀v aw,Sat P h->Q v aw->e v aw):dw P g args h e:=by
 intro s b;have⟨v,aw,t,q⟩:=he s b;exact⟨v,aw,t,j v aw s q⟩
def bc.ex{g args h aw v}(aS:bc P g ⟨args⟩ h v aw):dw P g args h (λb J=>b=v/\J=aw):=λ_ _=>⟨v,aw,aS,rfl,rfl⟩
section
variable{l:List Oper}{h:aY}{K:Fr->aY->Prop}{d:Tmp}
def Zi[bH]{n a f}(g:gZ f a)(b:P.globals.size<=n)(I:gI n a):∀{xs:List Operand}{vs:List Value},(∀x∈xs,rF P.globals.size x)->pS f.l f.al xs=some vs->∀v∈vs,bw n v:=by
 intro xs;induction xs with
 | nil=>intro vs _ he v aE;simp only[pS,dh] at he;subst he;cases aE
 | cons x xs p =>
  intro vs aj he v aE;have:v∈(x::xs).map a.eval:=by rwa[ajb g he]
  obtain⟨y,j,rfl⟩:=ih.1 this;exact AG b I y (aj y j)
def ad.gC[bH]{g0 xs ts vs}[bf:cY P g0](hw:cw an ⟨some d,.call {callee:=.value (.func g0),args:=xs,argTypes:=ts},ty,pos,af,gd⟩ ⟨ay,al⟩=some true)(aq:Nat.blt d al=true)(aa:pS ay al xs.toList=some vs)(aS:∀j,fG (P:=P) h j->∃Q,dw P g0 vs j Q/\∀v H' π,Q v H'->Sat P H'->j.n<=H'.n->ad P an false (de 0 false [] none::rs) l ⟨(d,v)::ay,al⟩ ⟨H',π,0,[]⟩ K):
 ad P an false rs (⟨some d,.call {callee:=.value (.func g0),args:=xs,argTypes:=ts},ty,pos,af,gd⟩::l) ⟨ay,al⟩ h K:=by
 refine ad.O7 hw aq λa g w s b aj=>?_;have⟨Q,he,aG⟩:=aS _ (fG.of w s);have u:P.globals.size<=h.a6.n:=Vo;have⟨v,H',z,q⟩:=he s (Zi g u b (λx kE=>aj x UP) aa);have gB:=DL (ty:=ty) (pos:=pos) (af:=af) (gd:=gd) (d:=d) (ts:=ts) g aa z;have s1:=(bE.j9 gB aj s b).1;exact akp
def ad.jy[bH]{g0 xs ts vs v}[bf:cY P g0](hw:cw an ⟨some d,.call {callee:=.value (.func g0),args:=xs,argTypes:=ts},ty,pos,af,gd⟩ ⟨ay,al⟩=some true)(aq:Nat.blt d al=true)(aa:pS ay al xs.toList=some vs)(aS:∀j,fG (P:=P) h j->bc P g0 ⟨vs⟩ j v j)(aj:ad P an false (de 0 false [] none::rs) l ⟨(d,v)::ay,al⟩ h K):
 ad P an false rs (⟨some d,.call {callee:=.value (.func g0),args:=xs,argTypes:=ts},ty,pos,af,gd⟩::l) ⟨ay,al⟩ h K :=
 ad.O7 hw aq λ_ g w s _ _=>⟨v,h,DL g aa (aS _ (fG.of w s)),w,aj⟩
end
section
variable{l:List Oper}{k:Nat}{K:Fr->aY->Prop}{d:Tmp}
def ad.gi[bH]{bg t x y blk off size cs cs' e v}[hu:e4 P t size](hw:cw an ⟨none,.store t x y,ty,pos,af,gd⟩ ⟨ay,al⟩=some true)(aa:Fr.ev ⟨ay,al⟩ x=some (.pointer (some ⟨blk,off,none⟩)))(aN:Fr.ev ⟨ay,al⟩ y=some v)(I:B.m blk=some ⟨⟨cs⟩,e⟩)(bs:blk<B.n)(q:df<=blk)(ak:off+size<=cs.length)(ej:Nat.beq (ei v).length size=true)(mx:(ei v).all (·.oneCell')=true)(aB:eB cs off (ei v)=cs')(aj:ad P an bg (An k [] (some [])::rs) l ⟨ay,al⟩ ⟨B.set blk ⟨⟨cs'⟩,e⟩,π,k,ao⟩ K):ad P an bg rs (⟨none,.store t x y,ty,pos,af,gd⟩::l) ⟨ay,al⟩ ⟨B,π,k,ao⟩ K:=by
 have ab:=hu.eq;cases j:P.info? t with
 | none=>rw[j] at ab;cases ab
 | some cg =>
  rw[j] at ab;have s:cg.size=size:=tn;subst s;refine ad.step hw rfl (hP.aal (nv:=some []) I (λa g H aC=>?_) aai bs) aj;have:=bE.store (P:=P) (o:=⟨none,.store t x y,ty,pos,af,gd⟩) rfl j (g.ev aa) rfl q Vr (by rw[g.ev aN,sy];exact mu ej) akg yI;rw[g.ev aN] at this;simp only[PI,sy,aB] at this;exact dm
def ad.anF[bH]{bg g0 xs ts vs v blk b b'}q[bf:cY P g0](hw:cw an ⟨some d,.call {callee:=.value (.func g0),args:=xs,argTypes:=ts},ty,pos,af,gd⟩ ⟨ay,al⟩=some true)(aq:Nat.blt d al=true)(aa:pS ay al xs.toList=some vs)(I:B.m blk=some b)(bs:blk<B.n)(aS:∀H:aV,sh ⟨B,π,k,ao⟩ true q H->bc P g0 ⟨vs⟩ H v (H.set blk b'))(aj:ad P an bg (An k q none::rs) l ⟨(d,v)::ay,al⟩ ⟨B.set blk b',π,k,ao⟩ K):ad P an bg rs (⟨some d,.call {callee:=.value (.func g0),args:=xs,argTypes:=ts},ty,pos,af,gd⟩::l) ⟨ay,al⟩ ⟨B,π,k,ao⟩ K :=
 ad.step hw aq (hP.aal (nv:=none) I (λ_ g H aC=>DL g aa (aS H aC)) trivial bs) aj
end
section
variable{l:List Oper}{h:aY}{K:Fr->aY->Prop}{d:Tmp}
def ad.aAE[bH]{t j x a}(hw:cw an ⟨some d,.binOp .quo t x (.const (.int .i64 64)) j,ty,pos,af,gd⟩ ⟨ay,al⟩=some true)(aq:Nat.blt d al=true)(aa:Fr.ev ⟨ay,al⟩ x=some (.int .i64 a))(q:0<=a/\a<=9223372036854775807)(aj:ad P an bg (de h.k false [] (some [])::rs) l ⟨(d,.int .i64 ((a.toNat/64:Nat):Int))::ay,al⟩ h K):ad P an bg rs (⟨some d,.binOp .quo t x (.const (.int .i64 64)) j,ty,pos,af,gd⟩::l) ⟨ay,al⟩ h K:=by
 refine ad.quo hw aq aa rfl bo ?_;have e:IntKind.i64.wrap (a.tdiv 64)=((a.toNat/64:Nat):Int):=by
  rw[ajx q.1,NP U U];omega
 rwa[e]
def ad.aA8[bH]{t j x a}(hw:cw an ⟨some d,.binOp .rem t x (.const (.int .i64 64)) j,ty,pos,af,gd⟩ ⟨ay,al⟩=some true)(aq:Nat.blt d al=true)(aa:Fr.ev ⟨ay,al⟩ x=some (.int .i64 a))(q:0<=a)(aj:ad P an bg (de h.k false [] (some [])::rs) l ⟨(d,.int .i64 ((a.toNat%64:Nat):Int))::ay,al⟩ h K):ad P an bg rs (⟨some d,.binOp .rem t x (.const (.int .i64 64)) j,ty,pos,af,gd⟩::l) ⟨ay,al⟩ h K:=by
 refine ad.rem hw aq aa rfl bo ?_;have e:a.tmod 64=((a.toNat%64:Nat):Int):=by
  rw[Int.tmod_eq_emod_of_nonneg q];omega
 rwa[e]
def ad.aL7[bH]{t j x y}{w:BitVec 64}{n:Nat}(hw:cw an ⟨some d,.binOp .shr t x y j,ty,pos,af,gd⟩ ⟨ay,al⟩=some true)(aq:Nat.blt d al=true)(aa:Fr.ev ⟨ay,al⟩ x=some (.int .u64 (w.toNat:Int)))(aN:Fr.ev ⟨ay,al⟩ y=some (.int .i64 (n:Int)))(ak:n<64)(aj:ad P an bg (de h.k false [] (some [])::rs) l ⟨(d,.int .u64 ((w>>>n).toNat:Int))::ay,al⟩ h K):ad P an bg rs (⟨some d,.binOp .shr t x y j,ty,pos,af,gd⟩::l) ⟨ay,al⟩ h K:=by
 refine ad.shr hw aq aa aN (Int.natCast_nonneg n) ?_;have e:(w.toNat:Int).fdiv (2^(min (n:Int).toNat IntKind.u64.bits))=((w>>>n).toNat:Int):=by
  have J:min (n:Int).toNat IntKind.u64.bits=n:=akN;rw[J,BitVec.toNat_ushiftRight,ajv,ajy _ (Int.le_of_lt (Int.pow_pos bo))];simp
 rwa[e]
def ad.avH[bH]{t j y}{n:Nat}(hw:cw an ⟨some d,.binOp .shl t (.const (.int .u64 1)) y j,ty,pos,af,gd⟩ ⟨ay,al⟩=some true)(aq:Nat.blt d al=true)(aN:Fr.ev ⟨ay,al⟩ y=some (.int .i64 (n:Int)))(ak:n<64)(aj:ad P an bg (de h.k false [] (some [])::rs) l ⟨(d,.int .u64 (((1#64)<<<n).toNat:Int))::ay,al⟩ h K):ad P an bg rs (⟨some d,.binOp .shl t (.const (.int .u64 1)) y j,ty,pos,af,gd⟩::l) ⟨ay,al⟩ h K:=by
 refine ad.shl hw aq rfl aN (Int.natCast_nonneg n) ?_;have e:IntKind.u64.wrap (1*2^(min (n:Int).toNat IntKind.u64.bits))=(((1#64)<<<n).toNat:Int):=by
  have J:min (n:Int).toNat IntKind.u64.bits=n:=akN;rw[J,BitVec.toNat_shiftLeft];simp only[IntKind.wrap,IntKind.signed,IntKind.bits,BitVec.toNat_ofNat,Nat.shiftLeft_eq,Int.one_mul];simp
 rwa[e]
def ajk(w:BitVec 64):IntKind.u64.wrap (w.toNat:Int)=(w.toNat:Int):=by
 have:=w.isLt;simp only[IntKind.wrap,IntKind.signed,IntKind.bits];simp;omega
def ad.avI[bH]{t j x y}{a b:BitVec 64}(hw:cw an ⟨some d,.binOp .or t x y j,ty,pos,af,gd⟩ ⟨ay,al⟩=some true)(aq:Nat.blt d al=true)(aa:Fr.ev ⟨ay,al⟩ x=some (.int .u64 (a.toNat:Int)))(aN:Fr.ev ⟨ay,al⟩ y=some (.int .u64 (b.toNat:Int)))(aj:ad P an bg (de h.k false [] (some [])::rs) l ⟨(d,.int .u64 ((a|||b).toNat:Int))::ay,al⟩ h K):ad P an bg rs (⟨some d,.binOp .or t x y j,ty,pos,af,gd⟩::l) ⟨ay,al⟩ h K:=by
 refine ad.bin hw aq aa aN ?_ aj;simp only[uc,IntKind.bits,aaP,aaQ,aaR,ajk];rfl
def ad.aMb[bH]{t j x y}{a b:BitVec 64}(hw:cw an ⟨some d,.binOp .andNot t x y j,ty,pos,af,gd⟩ ⟨ay,al⟩=some true)(aq:Nat.blt d al=true)(aa:Fr.ev ⟨ay,al⟩ x=some (.int .u64 (a.toNat:Int)))(aN:Fr.ev ⟨ay,al⟩ y=some (.int .u64 (b.toNat:Int)))(aj:ad P an bg (de h.k false [] (some [])::rs) l ⟨(d,.int .u64 ((a&&&~~~ b).toNat:Int))::ay,al⟩ h K):ad P an bg rs (⟨some d,.binOp .andNot t x y j,ty,pos,af,gd⟩::l) ⟨ay,al⟩ h K:=by
 refine ad.bin hw aq aa aN ?_ aj;simp only[uc,IntKind.bits,aaP,aaQ,aaR,ajk];rfl
def ad.aL8[bH]{t j x a}(hw:cw an ⟨some d,.binOp .and t x (.const (.int .u64 1)) j,ty,pos,af,gd⟩ ⟨ay,al⟩=some true)(aq:Nat.blt d al=true)(aa:Fr.ev ⟨ay,al⟩ x=some (.int .u64 (a.toNat:Int)))(aj:ad P an bg (de h.k false [] (some [])::rs) l ⟨(d,.int .u64 ((a&&&1#64).toNat:Int))::ay,al⟩ h K):ad P an bg rs (⟨some d,.binOp .and t x (.const (.int .u64 1)) j,ty,pos,af,gd⟩::l) ⟨ay,al⟩ h K:=by
 refine ad.bin hw aq aa rfl ?_ aj;simp only[uc,IntKind.bits,aaP,aaQ,aaR,(rfl:BitVec.ofInt 64 1=1#64),ajk];rfl
end
def Gm.bw[bH]{ay al h}(w:h.WF)(s:Sat P h.a6){r v}(aM:Gm P ay h r v){a}(I:gI h.a6.n a)(g:gZ ⟨ay,al⟩ a):Go.AH.bw h.a6.n v:=by
 cases aM with
 | tmp aE=>exact I.1 _ (IZ (g.get _ _ aE))
 | axX aa ag b aE =>
  have hm:=aY.wy w (iC.1 ag);rw[b] at hm;rw[abC] at aE;exact s.dP _ _ hm _ (by simpa using bQ aE)
 | Ay aa ag b ak =>
  have hm:=aY.wy w (iC.1 ag);rw[b] at hm;rw[qK];refine λu hu=>s.dP _ _ hm _ ?_;simp only[uo,hs] at hu;simpa using Gz (GA hu)
 | rk aa b ak aE =>
  subst aE;have hm:=aY.Am w b;rw[qK];refine λu hu=>s.dP _ _ hm _ ?_;simp only[uo,hs] at hu;simpa using Gz (GA hu)
def ru.bw[bH]{ay al h}(w:h.WF)(s:Sat P h.a6){rs vs}(aM:ru P ay h rs vs){a}(I:gI h.a6.n a)(g:gZ ⟨ay,al⟩ a):Go.AH.bw h.a6.n (fp vs):=by
 have b:∀v∈vs,Go.AH.bw h.a6.n v:=by
  induction aM with
  | nil=>intro v aE;cases aE
  | cons J _ j =>
   intro v aE;rcases dI.1 aE with e|e
   .subst e;exact J.bw w s I g
   .exact j v e
 match vs,b with
 | [],_=>simp[fp]
 | [v],b=>exact b v aF
 | u::v::l,b =>
  simp only[fp,y2];exact λx aa=>b x B6
def dw.intro{g fn c args}{al:Nat}{h Q}(A:P.funcs[g]?=some fn)(I:fn.body=some c)(aS:fn.ntmps=al)(ak:Nat.ble args.length al=true)(hw:∀π:Nat->Nat,Sat P h->W P c ⟨vf 0 args,al⟩ ⟨h,π,0,[]⟩ (vZ P fn λvs aw=>∀b,fG (P:=P) aw b->Q (fp vs) b)):dw P g args h Q:=by
 subst aS;intro s C;have q:=s.a6;have⟨e,f',aw,b6,t,r,s1,b1,j,t1⟩:=hw (aY.of h).π s (uI fn ⟨args⟩) s.wf (by show Sat P (aY.of h).a6;rwa[q]) (by show gI (aY.of h).a6.n _;rw[q];exact MC (λx aa=>C x B6)) (PK (qT.1 ak));have t1:iO P c (uI fn ⟨args⟩) (aY.of h).a6 e b6 aw.a6:=t1;rw[q] at t1;have z:∀vs,(e=.ret\/e=.normal)->ru P f'.l aw fn.results.toList vs->(∀b,fG (P:=P) aw b->Q (fp vs) b)->∃v H,bc P g ⟨args⟩ h v H/\Q v H:=by
  refine λvs he aM D=>⟨fp vs,aw.a6,bc.intro A I he t1 j.defers (λM E=>?_) (aM.is r j),D _ (fG.of r s1)⟩;exact aM.bw r s1 b1 j
 cases e with
 | ret=>have⟨vs,J,u⟩:=t;exact z vs (.inl rfl) J u
 | normal=>have⟨vs,J,u⟩:=t;exact z vs (.inr rfl) J u
 | _=>exact t.elim
def bc.exact{g fn c args}{al:Nat}{h r v}(N:P.funcs[g]?=some fn)(I:fn.body=some c)(aS:fn.ntmps=al)(ak:Nat.ble args.length al=true)(aC:Sat P h->h.n<=r.n/\bw r.n v/\∀i b,r.m i=some b->i<r.n/\∀u∈b.cells,bw r.n u)(hw:∀π:Nat->Nat,Sat P h->W P c ⟨vf 0 args,al⟩ ⟨h,π,0,[]⟩ (vZ P fn λvs aw=>∀z,fG (P:=P) aw z->fp vs=v/\∀i b,r.m i=some b->z.m i=some b)):bc P g ⟨args⟩ h v r:=by
 intro D ρ W t;have s:Sat P h:=⟨ρ,W,t⟩;have⟨v1,J,E,aE,hm⟩:=dw.intro (Q:=λu z=>u=v/\∀i b,r.m i=some b->z.m i=some b) N I aS ak hw s (λx aa=>D x B6);subst aE;have⟨g1,g2,g3⟩:=aC s;refine(E D ρ W t).mono ?_;rintro e W' ⟨ρ',rfl,_,A,q⟩;exact⟨ρ',rfl,g2,⟨λi b I=>A.fa _ _ (hm i b I),λi b I=>(g3 i b I).1,λi j b c C I aB ao=>A.inj _ _ _ _ C (hm i b I) (hm j c aB) ao,λi b I=>(g3 i b I).2,A.fu,bx t.kk g1,t.nx⟩,
  ⟨q.hU,g1,q.l8,q.size,λi b C I ao=>q.fC i b C (hm i b I) ao,q.tape,q.os,q.output,λi b M I=>q.pq i b M (hm i b I)⟩⟩
def aax(P:Program){X:Type}(F:X->List (Nat×Value))(ep:X->aV->Prop)(js:X->Nat)(al:Nat)(x:X)(K:Exit->Fr->aY->Prop):Exit->Fr->aY->Prop
 | .normal,f,h=>∀aD,fG (P:=P) h aD->∃x':X,f.al=al/\tr f.l (F x')/\ep x' aD/\js x'<js x
 | e,f,h=>K e f h
def W.hz[bH]{X q f h K}F ep(js:X->Nat)(h0:∀M,fG (P:=P) h M->∃x0,tr f.l (F x0)/\ep x0 M)(aM:∀x B π,Sat P B->ep x B->W P q ⟨F x,f.al⟩ ⟨B,π,0,[]⟩ (aax P F ep js f.al x K)):W P (.loop q) f h K:=by
 intro a w s b g;have⟨x0,Km,O⟩:=h0 _ (fG.of w s);have A:∀n (x:X) (B:aV) (f1:Fr) (r:Act),f1.al=f.al->js x<n->ep x B->Sat P B->gI B.n r->gZ f1 r->tr f1.l (F x) ->
  ∃e f' aw b6,K e f' aw/\aw.WF/\Sat P aw.a6/\gI aw.a6.n b6/\gZ f' b6/\sB P n q r B e b6 aw.a6:=by
  intro n;induction n with
  | zero=>intro x B f1 r _ hm;omega
  | succ n T =>
   intro x B f1 r oN hm R s1 b1 g1 N;have C:=s1.a6;have⟨e,f3,D,a3,J,E,z,I,g3,t3⟩:=aM x B (aY.of B).π s1 R r s1.wf (by show Sat P (aY.of B).a6;rwa[C]) (by show gI (aY.of B).a6.n _;rwa[C]) (g1.sC VS λt v aE=>N.get t v aE);have t3:iO P q r (aY.of B).a6 e a3 D.a6:=t3;rw[C] at t3;have Z:e≠.normal->K e f3 D->∃e f' aw b6,K e f' aw/\aw.WF/\Sat P aw.a6/\gI aw.a6.n b6/\gZ f' b6/\sB P (n+1) q r B e b6 aw.a6 :=
    λS aj=>⟨e,f3,D,a3,aj,E,z,I,g3,sB.out t3 S⟩
   cases e with
   | normal =>
    have⟨x',Y,V,Q,PG⟩:=J _ (fG.of E z);have⟨e,f4,br,a4,ju,Cg,Qv,Ju,g4,t4⟩:=T x' _ f3 a3 Y U Q z I g3 V;exact abz
   | _=>exact Z aF J
 have⟨e,f',aw,b6,bY,dJ,s1,b1,g1,t1⟩:=A (js x0+1) x0 h.a6 f a rfl U O s b g Km;exact abE
variable{X:Type}{f:Fr}
section
variable{F:X->List (Nat×Value)}{ep:X->aV->Prop}{js:X->Nat}{x:X}{K:Exit->Fr->aY->Prop}{h:aY}
def eK(ak:f.al=al)(aa:∀b,fG (P:=P) h b->∃x':X,tr f.l (F x')/\ep x' b/\js x'<js x):aax P F ep js al x K .normal f h:=λb e=>by
 have⟨x',J,g,j⟩:=aa b e;exact⟨x',ak,J,g,j⟩
def xU{i}(aj:K (.exit i) f h):aax P F ep js al x K (.exit i) f h:=aj
def auq(aj:K .ret f h):aax P F ep js al x K .ret f h:=aj
def aay(P:Program)(F:X->List (Nat×Value))(ep:X->aV->Prop)(al:Nat)(K:Exit->Fr->aY->Prop):Exit->Fr->aY->Prop
 | .normal,f,h=>∀aD,fG (P:=P) h aD->∃x:X,f.al=al/\tr f.l (F x)/\ep x aD
 | e,f,h=>K e f h
def qw(ak:f.al=al)(aa:∀b,fG (P:=P) h b->∃x:X,tr f.l (F x)/\ep x b):aay P F ep al K .normal f h:=λb e=>by
 have⟨x',J,g⟩:=aa b e;exact⟨x',ak,J,g⟩
def ayl[bH]{y}(q:∀x B π,Sat P B->ep x B->W P y ⟨F x,al⟩ ⟨B,π,0,[]⟩ K):∀e f h,aay P F ep al K e f h->Gk P y K e f h:=by
 intro e f h j;cases e with
 | normal =>
  refine W.hH λg π b=>?_;have⟨x,ak,n,p⟩:=j g b;exact W.sC (f':=⟨F x,al⟩) ak.symm (λt v aE=>n.get t v aE) (q x g π b.j9 p)
 | _=>exact j
end
def W.KW[bH]{X c y f h K}F(ep:X->aV->Prop)(aa:W P c f h (aay P F ep f.al K))(e:∀x B π,Sat P B->ep x B->W P y ⟨F x,f.al⟩ ⟨B,π,0,[]⟩ K):W P c f h (Gk P y K):=W.mono aa (ayl e)
def W.asg[bH]{X c y id f h K}F(ep:X->aV->Prop)(aa:W P c f h (BQ id (aay P F ep f.al K)))(e:∀x B π,Sat P B->ep x B->W P y ⟨F x,f.al⟩ ⟨B,π,0,[]⟩ K):W P c f h (BQ id (Gk P y K)):=W.mono aa (ax0 (ayl e))
inductive ng(h:aV)(e:TypeId):Option Addr->Nat->List Value->Prop
 | nil:ng h e none 0 []
 | row {r cap:Nat}{vs t:List Value} (hm:h.m r=some ⟨⟨vs++t⟩,e⟩) (aM:df<=r) (aB:cap=dF 1\/(cap=vs.length+t.length/\cap<nw)):ng h e (some ⟨r,0,none⟩) cap vs
def ng.up{h H e A cap vs}(s:ng h e A cap vs)(hu:∀i b,h.m i=some b->H.m i=some b):ng H e A cap vs:=by
 cases s with
 | nil=>exact .nil
 | row hm aM aB=>exact .row (hu _ _ hm) aM aB
section
variable{l:List Oper}{K:Fr->aY->Prop}{d:Tmp}
def ad.arG[bH]{bg h t e x y}{r len n cap:Nat}{Af cs a1}[hu:ee P t (.slice e)][aC:e4 P e 1](hw:cw an ⟨some d,.slice t x none (some y) none,ty,pos,af,gd⟩ ⟨ay,al⟩=some true)(aq:Nat.blt d al=true)(aa:Fr.ev ⟨ay,al⟩ x=some (.slice (some ⟨r,0,none⟩) len cap))(aN:Fr.ev ⟨ay,al⟩ y=some (.int Af (n:Int)))(I:h.bD.m r=some ⟨⟨cs⟩,a1⟩)(bs:r<h.bD.n)(aM:df<=r)(ak:n<=cs.length)(aB:cap=dF 1\/(n<=cap/\cap<nw))(aj:ad P an bg (de h.k true [] none::rs) l ⟨(d,.slice (some ⟨r,0,none⟩) n cap)::ay,al⟩ h K):ad P an bg rs (⟨some d,.slice t x none (some y) none,ty,pos,af,gd⟩::l) ⟨ay,al⟩ h K:=by
 have ej:=aC.eq;cases dQ:P.info? e with
 | none=>rw[dQ] at ej;cases ej
 | some cg =>
  rw[dQ] at ej;have br:cg.size=1:=p1;refine ad.step hw aq (hP.reads (nv:=none) (λa g H b7=>?_) trivial) aj;rcases aB with aB|⟨qR,k6⟩
  .subst aB;have:=bE.azp (P:=P) (o:=⟨some d,.slice t x none (some y) none,ty,pos,af,gd⟩) rfl hu.eq dQ U (by rw[br];exact g.ev aa) rfl ⟨Af,g.ev aN⟩ (dG _) aM (by rwa[b7.b rfl r bs]) (by
    simp only[BU,br];omega) (.inl rfl)
   rw[I4,yF,br] at this;exact dm
  .have:=bE.Wf (P:=P) (o:=⟨some d,.slice t x none (some y) none,ty,pos,af,gd⟩) (h:=H) rfl hu.eq dQ (g.ev aa) rfl ⟨Af,g.ev aN⟩ (dG _) qR k6;have C5:(if cap=0 then(⟨r,0,none⟩:Addr) else Addr.add ⟨r,0,none⟩ (0*cg.size))=⟨r,0,none⟩:=by
    split
    .rfl
    .rw[add_plain,I4]
   rw[C5,yF,yF] at this;exact dm
def ad.Yh[bH]{h t e x y A cap q c h2 vs v z eh}[hu:ee P t (.slice e)][aC:e4 P e 1][I:nb P e h2][a7:iY P e z](hw:cw an ⟨some d,.call {callee:=.builtin .append,args:=#[x,y],argTypes:=#[t,t]},ty,pos,af,gd⟩ ⟨ay,al⟩=some true)(aq:Nat.blt d al=true)(aa:Fr.ev ⟨ay,al⟩ x=some (.slice A vs.length cap))(aN:Fr.ev ⟨ay,al⟩ y=some (.slice (some ⟨q,0,none⟩) 1 c))(gD:Nat.beq (ei z).length 1=true)(S:∀B,fG (P:=P) h B->B.m q=some ⟨⟨[v]⟩,eh⟩/\ng B e A cap vs)(mx:v.oneCell'=true)(lO:(vs.length+1)*h2<=140737488355328)(ps:vs.length+1<=9223372036854775807)(aj:∀B,fG (P:=P) h B->∀C N H' π,Sat P H'->ng H' e C N (vs++[v])->B.n<=H'.n->(∀i,i<B.n->A≠some ⟨i,0,none⟩->H'.m i=B.m i)->(∀a,C=some a->A=some a\/B.n<=a.block) ->
  ad P an false (de 0 false [] none::rs) l ⟨(d,.slice C (vs.length+1) N)::ay,al⟩ ⟨H',π,0,[]⟩ K):ad P an false rs (⟨some d,.call {callee:=.builtin .append,args:=#[x,y],argTypes:=#[t,t]},ty,pos,af,gd⟩::l) ⟨ay,al⟩ h K:=by
 have J:=a7.eq;have ej:=aC.eq;have nS:=I.eq;cases ag:P.info? e with
 | none=>rw[ag] at J;cases J
 | some cg =>
  rw[ag] at J ej nS;have ab:cg.zero=some z:=J;have aK:cg.size=1:=p1;have br:cg.bytes=h2:=yJ;subst br;have Z:=tx a7.dU;have lW:(ei z).length=1:=mu gD;refine ad.O7 hw aq λa g w s b aQ=>?_;have qs:=fG.of w s;replace aj:=aj _ qs;replace S:=S _ qs;replace⟨S,gl⟩:=S;generalize h.a6=B at *;have T:iP B cg.size 1 (a.eval y)=some #[v]:=by
   rw[g.ev aN];simp only[iP,S];rw[au ⟨ew,D4⟩,aK];rfl
  have V:∀C N H',bE P ⟨some d,.call {callee:=.builtin .append,args:=#[x,y],argTypes:=#[t,t]},ty,pos,af,gd⟩ a.eval B (.slice C (vs.length+1) N) H'->ng H' e C N (vs++[v])->(∀i,i<B.n->A≠some ⟨i,0,none⟩->H'.m i=B.m i)->(∀a,C=some a->A=some a\/B.n<=a.block) ->
   ∃u aw,bE P ⟨some d,.call {callee:=.builtin .append,args:=#[x,y],argTypes:=#[t,t]},ty,pos,af,gd⟩ a.eval B u aw.a6/\aw.WF/\ad P an false (de 0 false [] none::rs) l (Fr.put ⟨ay,al⟩ (some d) u) aw K:=by
   intro C N H' gB aq3 fw aJ;have Y:=(bE.j9 gB aQ s b).1;exact⟨_,aY.of H',by rwa[Y.a6],Y.wf,aj C N H' _ Y aq3 ((bE.ik gB aQ s b).1) fw aJ⟩
  have R:∀(H:aV) (dV:cd),(∀i,i<B.n->i≠H.n->(H.push dV).m i=H.m i):=λH dV i _ Q=>by show(if i=H.n then some dV else H.m i)=_;rw[ai Q]
  cases gl with
  | nil =>
   refine V (some ⟨B.n,0,none⟩) (dF 1) (B.push ⟨⟨[v]⟩,e⟩) ?_ (.row (by show(if B.n=B.n then _ else _)=_;rw[au rfl];rfl) s.rw (.inl rfl)) (λi ag _=>R _ _ i ag U) (λa aJ=>abf);have:=bE.G9 (P:=P) (o:=⟨some d,.call {callee:=.builtin .append,args:=#[x,y],argTypes:=#[t,t]},ty,pos,af,gd⟩) rfl hu.eq hu.eq rfl ag ab Z hu.ve abT U (g.ev aa) bo rfl aF uw T D4 U U Qp;rw[aK] at this;simpa using this
  | row hm aM aB =>
   rename_i r E;by_cases bs:E=[]
   .subst bs;rw[l2] at hm;rcases aB with aB|⟨aB,O⟩
    .subst aB;refine V (some ⟨B.n,0,none⟩) (dF 1) ((B.fB r).push ⟨⟨vs++[v]⟩,e⟩) ?_ (.row akc s.rw (.inl rfl)) (λi ag Q=>?_) (λa aJ=>abf)
     .have:=bE.JK (P:=P) (o:=⟨some d,.call {callee:=.builtin .append,args:=#[x,y],argTypes:=#[t,t]},ty,pos,af,gd⟩) rfl hu.eq hu.eq rfl ag ab Z hu.ve abT U (by rw[aK];exact g.ev aa) aM hm rfl D4 uw T D4 (by simp[mx]) ps lO;rw[aK] at this;simpa using this
     .have D:i≠r:=λe=>Q Jx;show(if i=B.n then _ else(if i=r then none else B.m i))=_;rw[ai U,ai D]
    .have tG:cap=vs.length:=aca;subst tG;refine V (some ⟨B.n,0,none⟩) (dF 1) (B.push ⟨⟨vs++[v]⟩,e⟩) ?_ (.row akc s.rw (.inl rfl)) (λi ag _=>R _ _ i ag U) (λa aJ=>abf);have eC:iP B cg.size vs.length (.slice (some ⟨r,0,none⟩) vs.length vs.length)=some ⟨vs⟩:=by
      simp only[iP,hm];rw[au ⟨ew,D4⟩,aK];simp
     have:=bE.G9 (P:=P) (o:=⟨some d,.call {callee:=.builtin .append,args:=#[x,y],argTypes:=#[t,t]},ty,pos,af,gd⟩) rfl hu.eq hu.eq rfl ag ab Z hu.ve abT U (g.ev aa) O eC D4 uw T D4 U ps lO;rw[aK] at this;simpa using this
   .obtain⟨u,M,rfl⟩:∃u M,E=u::M:=by cases E with|nil=>exact absurd rfl bs|cons u M=>exact⟨u,M,rfl⟩
    refine V (some ⟨r,0,none⟩) cap (B.set r ⟨⟨vs++[v]++M⟩,e⟩) ?_ (.row P7 aM ?_) (λi ag Q=>?_) (λa aJ=>.inl aJ)
    .have:=bE.amM (P:=P) (o:=⟨some d,.call {callee:=.builtin .append,args:=#[x,y],argTypes:=#[t,t]},ty,pos,af,gd⟩) rfl hu.eq hu.eq rfl ag U (g.ev aa) rfl aM (by
      rcases aB with aB|⟨aB,O⟩
      .exact .inl (by rwa[aK])
      .exact .inr ⟨O,by simp only[e5] at aB;omega⟩) hm D4 uw T D4 (by simp[mx])
     simp only[aK,PI,iV,ff] at this;have ba:eB (vs++u::M) vs.length [v]=vs++[v]++M:=by rw[wV,u1];simp
     rw[ba] at this;exact dm
    .rcases aB with aB|⟨aB,O⟩
     .exact .inl aB
     .exact .inr ⟨by simp only[e5,iM,vg] at aB|-;omega,O⟩
    .have D:i≠r:=λe=>Q Jx;show(if i=r then _ else B.m i)=_;rw[ai D]
def ad.Yg[bH]{bg π k ao t e x y i off n c sz q j cs z a1}[hu:ee P t (.slice e)][aC:e4 P e sz][I:nb P e q][s:iY P e z](hw:cw an ⟨some d,.call {callee:=.builtin .append,args:=#[x,y],argTypes:=#[t,t]},ty,pos,af,gd⟩ ⟨ay,al⟩=some true)(aq:Nat.blt d al=true)(aa:Fr.ev ⟨ay,al⟩ x=some (.slice none 0 0))(aN:Fr.ev ⟨ay,al⟩ y=some (.slice (some ⟨i,off,none⟩) n c))(E:Nat.beq (ei z).length sz=true)(C:Nat.blt 0 sz=true)(O:B.m i=some ⟨⟨j⟩,a1⟩)(dQ:i<B.n)(ak:off+n*sz<=j.length)(S:0<n)(R:n*q<=140737488355328)(N:n<=9223372036854775807)(D:cr off (n*sz) j=cs)(aj:ad P an bg (pe k true [] (some [k]) none::rs) l ⟨(d,.slice (some ⟨π k,0,none⟩) n (dF sz))::ay,al⟩ ⟨B,π,k+1,(k,some ⟨⟨cs⟩,e⟩)::ao⟩ K):ad P an bg rs (⟨some d,.call {callee:=.builtin .append,args:=#[x,y],argTypes:=#[t,t]},ty,pos,af,gd⟩::l) ⟨ay,al⟩ ⟨B,π,k,ao⟩ K:=by
 subst D;have J:=s.eq;have ej:=aC.eq;have nS:=I.eq;cases ag:P.info? e with
 | none=>rw[ag] at J;cases J
 | some cg =>
  rw[ag] at J ej nS;have M:cg.size=sz:=p1;have br:cg.bytes=q:=yJ;subst M;subst br;have Q:=mu E;refine ad.step hw aq (hP.new (cn:=none) (λa g H aC=>?_) ?_ λu hu=>trivial) aj
  .have A:iP H cg.size n (a.eval y)=some ⟨cr off (n*cg.size) j⟩:=by
    rw[g.ev aN];simp only[iP,(by rwa[aC.b rfl i dQ]:H.m i=some ⟨⟨j⟩,a1⟩)];rw[au ⟨ew,yI⟩];congr 1;apply k3;rw[hs];simp[BV]
   have dO:(cr off (n*cg.size) j).length=n*cg.size:=Jf;have:=bE.G9 (P:=P) (o:=⟨some d,.call {callee:=.builtin .append,args:=#[x,y],argTypes:=#[t,t]},ty,pos,af,gd⟩) rfl hu.eq hu.eq rfl ag J (tx s.dU) hu.ve Az (iC.1 C) (g.ev aa) bo rfl aF uw A GR U U Vz;rw[aC.n,ff,aaO] at this;exact dm
  .show e0 _ _;rw[e0];exact yP
def bE.KN{d ev h x y t e r A c}(aS:P.underlying t=some (.slice e))(ag:P.info? e=some r)(aa:ev x=.slice none 0 0)(u:ev y=.slice A 0 c):
 bE P ⟨d,.call {callee:=.builtin .append,args:=#[x,y],argTypes:=#[t,t]},ty,pos,af,gd⟩ ev h (.slice none 0 0) h :=
 .value λz ρ W C s he=>by
  have q:=he x Jd;have j:=he y Jd;rw[aa,V4] at q;refine⟨ρ,W,?_,aF,s,Ext.refl _ _ _⟩;have v:∃dz g,bP ρ (.slice A 0 c)=.slice dz 0 g:=by
   cases A with
   | none=>exact⟨none,c,aF⟩
   | some b=>exact abL
  have⟨dz,g,aM⟩:=v;rw[u,aM] at j;simp only[execOp,resolve,invoke,builtin,gG,hQ,hj,so,gg,oH,q,j,run_append_nil (P:=P) (W:=W) (ty:=ty) (cap:=0) (x:=.slice dz 0 g) (n:=0) (new:=#[]) aS aS rfl ag (by simp[Builtin.lenOf]) aki (b4 _),V4,nq]
def ad.KN[bH]{bg h t e x y A n c}[hu:ee P t (.slice e)](hw:cw an ⟨some d,.call {callee:=.builtin .append,args:=#[x,y],argTypes:=#[t,t]},ty,pos,af,gd⟩ ⟨ay,al⟩=some true)(aq:Nat.blt d al=true)(aa:Fr.ev ⟨ay,al⟩ x=some (.slice none 0 0))(aN:Fr.ev ⟨ay,al⟩ y=some (.slice A n c))(ak:n=0)(ag:(P.info? e).isSome=true)(aj:ad P an bg (de h.k false [] none::rs) l ⟨(d,.slice none 0 0)::ay,al⟩ h K):ad P an bg rs (⟨some d,.call {callee:=.builtin .append,args:=#[x,y],argTypes:=#[t,t]},ty,pos,af,gd⟩::l) ⟨ay,al⟩ h K:=by
 subst ak;have⟨j,ag⟩:=Me.1 ag;exact ad.still (nv:=none) hw aq (λf g H=>bE.KN hu.eq ag (g.ev aa) (g.ev aN)) trivial aj
end
def Mb(k blk:Nat):fZ:={eG:=false,dH:=[],k:=k,k':=k,w:=[],fz:=false,nv:=none,cn:=some [],bO:=some λid=>id==blk}
def pf(k j:Nat):fZ:={eG:=true,dH:=[],k:=k,k':=k+1,w:=[],fz:=false,nv:=some [k],cn:=none,lY:=some λid=>id==j}
def ajn(j b:Nat):List fZ->Prop
 | []=>True
 | r::rs=>(r.lY=none\/r.lY=some λid=>id==j)/\(r.bO=none\/r.bO=some λid=>id==b)/\ajn j b rs
def aM0{j b}(s:j≠b):∀{rs:List fZ},ajn j b rs->∀x∈rs,∀y∈rs,BO x y:=by
 intro rs h x aa y u e q he v id n;have p:∀{rs:List fZ},ajn j b rs->∀x∈rs,(x.lY=none\/x.lY=some λid=>id==j)/\(x.bO=none\/x.bO=some λid=>id==b):=by
  intro rs;induction rs with
  | nil=>intro _ x aa;cases aa
  | cons r rs t =>
   intro h x aa;rcases dI.1 aa with e|e
   .subst e;exact⟨h.1,h.2.1⟩
   .exact t h.2.2 x e
 have J:=(p h x aa).1;have g:=(p h y u).2;rw[he] at J;rw[v] at g;rcases J with J|J
 .cases J
 .rcases g with g|g
  .cases g
  .injection J with J;injection g with g;subst J;subst g;have n:id=j:=by simpa using n
   subst n;simp[s]
section
variable{l:List Oper}{k:Nat}{K:Fr->aY->Prop}{d:Tmp}
def ad.Xc[bH]{t x blk off cs e v}[hu:kX P t](hw:cw an ⟨some d,.load t x,ty,pos,af,gd⟩ ⟨ay,al⟩=some true)(aq:Nat.blt d al=true)(aa:Fr.ev ⟨ay,al⟩ x=some (.pointer (some ⟨blk,off,none⟩)))(I:B.m blk=some ⟨⟨cs⟩,e⟩)(bs:blk<B.n)(aE:cs[off]?=some v)(aj:ad P an bg (Mb k blk::rs) l ⟨(d,v)::ay,al⟩ ⟨B,π,k,ao⟩ K):ad P an bg rs (⟨some d,.load t x,ty,pos,af,gd⟩::l) ⟨ay,al⟩ ⟨B,π,k,ao⟩ K:=by
 have J:=hu.eq;cases aS:P.underlying t with
 | none=>rw[aS] at J;cases J
 | some s =>
  rw[aS] at J;have q:∀id,fH B.n π (Mb k blk) id=false:=by
   intro id;unfold fH Mb;by_cases h:id<B.n
   .exact yY
   .simp only[h,jE];cases ag:e8 π k id with
    | none=>rfl
    | some i=>have:=(kf ag).1;simp[ib,this]
  refine ad.step hw aq (r:=Mb k blk) ⟨λw a g=>?_,λw=>w,rfl,rfl,rfl,rfl,b4 _,λ_ _ _=>rfl,(λ_ id he=>by rw[q] at he;cases he),λ_ _ _ ak=>ak,ew,(λ_ id b he=>by rw[q] at he;cases he)⟩ aj;have hm:((⟨B,π,k,ao⟩:aY).a6.eO (eu B.n π (Mb k blk))).m blk=some ⟨⟨cs⟩,e⟩:=by
   have:eu B.n π (Mb k blk) blk=false:=by simp[eu,Mb,bs]
   simp only[aV.eO,this];exact aY.Am w I
  exact bE.G6 (P:=P) rfl aS p0 (g.ev aa) rfl hm aku
def aY.ayn{h:aY}(_w:h.WF){i}(ag:i<h.bD.n):h.a6.fB i=({h with bD:=h.bD.fB i}:aY).a6:=by
 refine aV.eq (λid=>?_) rfl;simp only[aV.fB,aY.a6];by_cases e:id=i
 .subst e;simp[ag]
 .simp only[ai e]
def ad.aMZ[bH]{t e x y i j off len n c sz N cs s z a1}[hu:ee P t (.slice e)][aC:e4 P e sz][I:nb P e N][V:iY P e z](hw:cw an ⟨some d,.call {callee:=.builtin .append,args:=#[x,y],argTypes:=#[t,t]},ty,pos,af,gd⟩ ⟨ay,al⟩=some true)(aq:Nat.blt d al=true)(aa:Fr.ev ⟨ay,al⟩ x=some (.slice (some ⟨j,0,none⟩) len (dF sz)))(aN:Fr.ev ⟨ay,al⟩ y=some (.slice (some ⟨i,off,none⟩) n c))(gD:Nat.beq (ei z).length sz=true)(ml:Nat.blt 0 sz=true)(Gn:B.m j=some ⟨⟨cs⟩,e⟩)(E:j<B.n)(FD:df<=j)(jG:cs.length=len*sz)(p7:B.m i=some ⟨⟨s⟩,a1⟩)(dQ:i<B.n)(ak:off+n*sz<=s.length)(mx:(cr off (n*sz) s).all (·.oneCell')=true)(lO:(len+n)*N<=140737488355328)(Z:len+n<=9223372036854775807)(aj:ad P an bg (pf k j::rs) l ⟨(d,.slice (some ⟨π k,0,none⟩) (len+n) (dF sz))::ay,al⟩ ⟨B.fB j,π,k+1,(k,some ⟨⟨cs++cr off (n*sz) s⟩,e⟩)::ao⟩ K):ad P an bg rs (⟨some d,.call {callee:=.builtin .append,args:=#[x,y],argTypes:=#[t,t]},ty,pos,af,gd⟩::l) ⟨ay,al⟩ ⟨B,π,k,ao⟩ K:=by
 have J:=V.eq;have ej:=aC.eq;have nS:=I.eq;cases ag:P.info? e with
 | none=>rw[ag] at J;cases J
 | some cg =>
  rw[ag] at J ej nS;have aK:cg.size=sz:=p1;have br:cg.bytes=N:=yJ;subst aK;subst br;have lW:=mu gD;have BP:∀{id:Nat},fH B.n π (pf k j) id=true->(id<B.n/\id=j)\/(¬id<B.n/\id=π k):=by
   intro id he;unfold fH pf at he;by_cases h0:id<B.n
   .simp[h0] at he;exact .inl ⟨h0,he⟩
   .simp only[h0,jE] at he;cases aa:e8 π (k+1) id with
    | none=>rw[aa] at he;cases he
    | some q =>
     rw[aa] at he;have⟨g1,g2⟩:=kf aa;simp only[l3,ib,nN,false_or,ed] at he;have:q=k:=U;subst this;exact .inr ⟨h0,g2.symm⟩
  let h:aY:=⟨B,π,k,ao⟩
  let b':cd:=⟨⟨cs++cr off (n*cg.size) s⟩,e⟩
  let aw:aY:=⟨B.fB j,π,k+1,(k,some b')::ao⟩
  have S:h.WF->(⟨B.fB j,π,k,ao⟩:aY).WF:=λw=>⟨w.up,w.bL,w.ag,w.inj,w.jC,λid b I=>by
   have I:(if id=j then none else B.m id)=some b:=I;split at I
   .cases I
   .exact w.dP id b I,w.nE⟩
  have O:h.WF->aw.a6=(h.a6.fB j).push b':=by
   intro w;rw[<-((aY.ayn w E).symm)];exact(aY.LY (S w) b').symm
  have hm:∀id,((h.a6.fB j).push b').m id=if id=π k then some b' else if id=j then none else h.a6.m id:=λid=>rfl
  have tp:h.WF->j≠π k:=λw e=>by have:=w.jC;simp only[h] at this;omega
  have T:h.WF->∀a b,a<k+1->b<k+1->π a=π b->a=b:=λw=>(w.push []).inj;have R:h.WF->eu B.n π (pf k j) (π k)=false:=by
   intro w;have Q:¬π k<B.n:=um.2 w.jC;simp only[eu,pf,ai Q,j4 (T w) (dN _)];simp
  refine ad.step hw aq (r:=pf k j) ⟨λw a g=>?_,λw=>(S w).push _,rfl,rfl,rfl,rfl,hr _,λw id he=>?_,λw id he=>?_,λw id C M=>?_,?_,λw id c he aB u hu=>trivial⟩ aj
  .show bE P _ a.eval (h.a6.eO (eu B.n π (pf k j))) _ (aw.a6.eO (eu B.n π (pf k j)));rw[O w];have ba:((h.a6.fB j).push b').eO (eu B.n π (pf k j))=((h.a6.eO (eu B.n π (pf k j))).fB j).push b':=by
    refine aV.eq (λid=>?_) rfl;show(if eu B.n π (pf k j) id=true then none else if id=π k then some b' else if id=j then none else h.a6.m id)=(if id=π k then some b' else if id=j then none else if eu B.n π (pf k j) id=true then none else h.a6.m id);by_cases e:id=π k
    .rw[au e,au e,e,R w];rfl
    .rw[ai e,ai e];by_cases a1:id=j
     .exact abP
     .exact VU
   rw[ba];have D:∀{q:Nat}{A:cd},B.m q=some A->q<B.n->(h.a6.eO (eu B.n π (pf k j))).m q=some A:=by
    intro q A aG Y;have:eu B.n π (pf k j) q=false:=by simp[eu,pf,Y]
    simp only[aV.eO,this];exact aY.Am w aG
   have mo:iP (h.a6.eO (eu B.n π (pf k j))) cg.size n (a.eval y)=some ⟨cr off (n*cg.size) s⟩:=by
    rw[g.ev aN];simp only[iP,D p7 dQ];rw[au ⟨ew,yI⟩];congr 1;apply k3;rw[hs];simp[BV]
   have dO:(cr off (n*cg.size) s).length=n*cg.size:=Jf;have:=bE.JK (P:=P) (o:=⟨some d,.call {callee:=.builtin .append,args:=#[x,y],argTypes:=#[t,t]},ty,pos,af,gd⟩) rfl hu.eq hu.eq rfl ag J (tx V.dU) hu.ve Az (iC.1 ml) (g.ev aa) FD (D Gn E) rfl Qr uw mo GR Mo Z lO;rw[PZ] at this;exact dm
  .show aw.a6.m id=h.a6.m id;rw[O w,hm];by_cases e:id=π k
   .exfalso;have:fH B.n π (pf k j) id=true:=by
     subst e;have Q:¬π k<B.n:=um.2 w.jC;simp only[fH,pf,ai Q,j4 (T w) (dN _)];simp
    have he:fH B.n π (pf k j) id=false:=he;rw[this] at he;cases he
   .rw[ai e];by_cases a1:id=j
    .exfalso;have:fH B.n π (pf k j) id=true:=by
      subst a1;simp[fH,pf,E]
     have he:fH B.n π (pf k j) id=false:=he;rw[this] at he;cases he
    .rw[ai a1]
  .rcases BP he with⟨_,e⟩|⟨_,e⟩
   .subst e;exact by simp[eu,pf,E]
   .subst e;exact R w
  .show aw.a6.m id=none;rw[O w,hm];have C:id<π k:=C;have M:h.a6.m id=none:=M;rw[ai U];split
   .rfl
   .exact M
  .show e0 _ _;rw[e0];exact yP
def ad.aMX[bH]{t e x y j len sz c cs}[hu:ee P t (.slice e)][aC:e4 P e sz](hw:cw an ⟨some d,.call {callee:=.builtin .append,args:=#[x,y],argTypes:=#[t,t]},ty,pos,af,gd⟩ ⟨ay,al⟩=some true)(aq:Nat.blt d al=true)(aa:Fr.ev ⟨ay,al⟩ x=some (.slice (some ⟨j,0,none⟩) len (dF sz)))(aN:Fr.ev ⟨ay,al⟩ y=some (.slice none 0 c))(s:Nat.blt 0 sz=true)(C:B.m j=some ⟨⟨cs⟩,e⟩)(u:j<B.n)(A:df<=j)(jG:len*sz<=cs.length)(aj:ad P an bg (de k true [] none::rs) l ⟨(d,.slice (some ⟨j,0,none⟩) len (dF sz))::ay,al⟩ ⟨B,π,k,ao⟩ K):ad P an bg rs (⟨some d,.call {callee:=.builtin .append,args:=#[x,y],argTypes:=#[t,t]},ty,pos,af,gd⟩::l) ⟨ay,al⟩ ⟨B,π,k,ao⟩ K:=by
 have ej:=aC.eq;cases ag:P.info? e with
 | none=>rw[ag] at ej;cases ej
 | some cg =>
  rw[ag] at ej;have z:cg.size=sz:=p1;subst z;refine ad.step hw aq (hP.reads (nv:=none) (λa g H b7=>?_) trivial) aj;have hm:H.m j=some ⟨⟨cs⟩,e⟩:=by rwa[b7.b rfl j u]
  have q:iP H cg.size 0 (a.eval y)=some #[]:=by rw[g.ev aN];simp[iP]
  have:=bE.amM (P:=P) (o:=⟨some d,.call {callee:=.builtin .append,args:=#[x,y],argTypes:=#[t,t]},ty,pos,af,gd⟩) rfl hu.eq hu.eq rfl ag (iC.1 s) (g.ev aa) rfl A (.inl rfl) hm Qr uw q aF aF;have v:H.set j {(⟨⟨cs⟩,e⟩:cd) with cells:=setFrom (⟨⟨cs⟩,e⟩:cd).cells (0+len*cg.size) (#[]:Array Value).toList}=H:=by
   refine aV.eq (λi=>?_) rfl;show(if i=j then _ else H.m i)=H.m i;split
   .rename_i e;subst e;rw[hm];simp[setFrom]
   .rfl
  simp only[v,nq] at this;exact dm
end
section
variable{l:List Oper}{K:Fr->aY->Prop}{d:Tmp}
def ad.Sw[bH]{h t e x y r q c D sz L v z eh}[hu:ee P t (.slice e)][aC:e4 P e sz][I:nb P e D][Y:iY P e z](hw:cw an ⟨some d,.call {callee:=.builtin .append,args:=#[x,y],argTypes:=#[t,t]},ty,pos,af,gd⟩ ⟨ay,al⟩=some true)(aq:Nat.blt d al=true)(aa:Fr.ev ⟨ay,al⟩ x=some (cD sz r L))(aN:Fr.ev ⟨ay,al⟩ y=some (.slice (some ⟨q,0,none⟩) 1 c))(gD:Nat.beq (ei z).length sz=true)(O:Nat.blt 0 sz=true)(j:∀B,fG (P:=P) h B->B.m q=some ⟨⟨v⟩,eh⟩/\(L≠[]->df<=r/\B.m r=some ⟨⟨L.flatten⟩,e⟩))(eM:∀c∈L,c.length=sz)(aE:v.length=sz)(mx:v.all (·.oneCell')=true)(lO:(L.length+1)*D<=140737488355328)(ps:L.length+1<=9223372036854775807)(aj:∀B,fG (P:=P) h B->∀E H' π,Sat P H'->B.n<=E->H'.m E=some ⟨⟨(L++[v]).flatten⟩,e⟩->B.n<=H'.n->(∀i,i<B.n->(L≠[]->i≠r)->H'.m i=B.m i) ->
  ad P an false (de 0 false [] none::rs) l ⟨(d,cD sz E (L++[v]))::ay,al⟩ ⟨H',π,0,[]⟩ K):ad P an false rs (⟨some d,.call {callee:=.builtin .append,args:=#[x,y],argTypes:=#[t,t]},ty,pos,af,gd⟩::l) ⟨ay,al⟩ h K:=by
 have J:=Y.eq;have ej:=aC.eq;have nS:=I.eq;cases ag:P.info? e with
 | none=>rw[ag] at J;cases J
 | some cg =>
  rw[ag] at J ej nS;have T:cg.zero=some z:=J;have aK:cg.size=sz:=p1;have br:cg.bytes=D:=yJ;subst br;subst aK;have Q:=tx Y.dU;have lW:=mu gD;refine ad.O7 hw aq λa g w s b V=>?_;have M:=fG.of w s;replace aj:=aj _ M;replace j:=j _ M;replace⟨j,gl⟩:=j;generalize h.a6=B at *;have N:iP B cg.size 1 (a.eval y)=some ⟨v⟩:=by
   rw[g.ev aN];simp only[iP,j];rw[au ⟨ew,by simp[aE]⟩];congr 1;apply k3;simp[<-aE]
  have Z:cD cg.size B.n (L++[v])=.slice (some ⟨B.n,0,none⟩) (L.length+1) (dF cg.size):=by
   rw[jO,ai aF,ai aF];simp
  have S:∀H',bE P ⟨some d,.call {callee:=.builtin .append,args:=#[x,y],argTypes:=#[t,t]},ty,pos,af,gd⟩ a.eval B (.slice (some ⟨B.n,0,none⟩) (L.length+1) (dF cg.size)) H'->H'.m B.n=some ⟨⟨(L++[v]).flatten⟩,e⟩->(∀i,i<B.n->(L≠[]->i≠r)->H'.m i=B.m i) ->
   ∃u aw,bE P ⟨some d,.call {callee:=.builtin .append,args:=#[x,y],argTypes:=#[t,t]},ty,pos,af,gd⟩ a.eval B u aw.a6/\aw.WF/\ad P an false (de 0 false [] none::rs) l (Fr.put ⟨ay,al⟩ (some d) u) aw K:=by
   intro H' R hm fw;have C:=(bE.j9 R V s b).1;have:=aj B.n H' (aY.of H').π C (b4 _) hm ((bE.ik R V s b).1) fw;rw[Z] at this;exact⟨_,aY.of H',by rwa[C.a6],C.wf,this⟩
  by_cases A:L=[]
  .subst A;refine S (B.push ⟨⟨v⟩,e⟩) ?_ (by show(if B.n=B.n then _ else _)=_;rw[au rfl];simp) (λi ag _=>akH);have:=bE.G9 (P:=P) (o:=⟨some d,.call {callee:=.builtin .append,args:=#[x,y],argTypes:=#[t,t]},ty,pos,af,gd⟩) rfl hu.eq hu.eq rfl ag T Q hu.ve Az (iC.1 O) (g.ev aa) bo rfl aF uw N (by simp[aE]) U U Qp;simpa using this
  .have⟨aM,hm⟩:=gl A;have kE:a.eval x=.slice (some ⟨r,0,none⟩) L.length (dF cg.size):=by
    rw[g.ev aa,jO,ai A,ai A]
   refine S ((B.fB r).push ⟨⟨(L++[v]).flatten⟩,e⟩) ?_ akF (λi ag bM=>?_)
   .have:=bE.JK (P:=P) (o:=⟨some d,.call {callee:=.builtin .append,args:=#[x,y],argTypes:=#[t,t]},ty,pos,af,gd⟩) rfl hu.eq hu.eq rfl ag T Q hu.ve Az (iC.1 O) kE aM hm rfl (by simp[yi eM]) uw N (by simp[aE]) Mo ps lO;rw[PZ] at this;simpa using this
   .show(if i=B.n then _ else(if i=r then none else B.m i))=_;rw[ai U,ai (bM A)]
end
section
variable{l:List Oper}{K:Fr->aY->Prop}{d:Tmp}
def ad.Sb[bH]{h t e x y n c E sz A z}[hu:ee P t (.slice e)][aC:e4 P e sz][I:nb P e E][S:iY P e z](hw:cw an ⟨some d,.call {callee:=.builtin .append,args:=#[x,y],argTypes:=#[t,t]},ty,pos,af,gd⟩ ⟨ay,al⟩=some true)(aq:Nat.blt d al=true)(aa:Fr.ev ⟨ay,al⟩ x=some (.slice none 0 0))(aN:Fr.ev ⟨ay,al⟩ y=some (.slice A n c))(Z:Nat.beq (ei z).length sz=true)(Y:Nat.blt 0 sz=true)vs(M:∀B,fG (P:=P) h B->n≠0->∃b off cs a1,A=some ⟨b,off,none⟩/\B.m b=some ⟨⟨cs⟩,a1⟩/\off+n*sz<=cs.length/\cr off (n*sz) cs=vs)(lO:n*E<=140737488355328)(ps:n<=9223372036854775807)(aj:∀B,fG (P:=P) h B->∀C j H' π,Sat P H'->(n=0->C=none/\j=0)->(n≠0->∃r,C=some ⟨r,0,none⟩/\j=dF sz/\B.n<=r/\H'.m r=some ⟨⟨vs⟩,e⟩)->B.n<=H'.n->(∀i,i<B.n->H'.m i=B.m i) ->
  ad P an false (de 0 false [] none::rs) l ⟨(d,.slice C n j)::ay,al⟩ ⟨H',π,0,[]⟩ K):ad P an false rs (⟨some d,.call {callee:=.builtin .append,args:=#[x,y],argTypes:=#[t,t]},ty,pos,af,gd⟩::l) ⟨ay,al⟩ h K:=by
 have J:=S.eq;have ej:=aC.eq;have nS:=I.eq;cases ag:P.info? e with
 | none=>rw[ag] at J;cases J
 | some cg =>
  rw[ag] at J ej nS;have aK:cg.size=sz:=p1;have br:cg.bytes=E:=yJ;subst br;subst aK;have lW:=mu Z;refine ad.O7 hw aq λa g w s b R=>?_;have N:=fG.of w s;replace aj:=aj _ N;replace M:=M _ N;generalize h.a6=B at *;have Q:∀C j H',bE P ⟨some d,.call {callee:=.builtin .append,args:=#[x,y],argTypes:=#[t,t]},ty,pos,af,gd⟩ a.eval B (.slice C n j) H'->(n=0->C=none/\j=0)->(n≠0->∃r,C=some ⟨r,0,none⟩/\j=dF cg.size/\B.n<=r/\H'.m r=some ⟨⟨vs⟩,e⟩)->(∀i,i<B.n->H'.m i=B.m i) ->
   ∃u aw,bE P ⟨some d,.call {callee:=.builtin .append,args:=#[x,y],argTypes:=#[t,t]},ty,pos,af,gd⟩ a.eval B u aw.a6/\aw.WF/\ad P an false (de 0 false [] none::rs) l (Fr.put ⟨ay,al⟩ (some d) u) aw K:=by
   intro C j H' O h0 J fw;have D:=(bE.j9 O R s b).1;exact⟨_,aY.of H',by rwa[D.a6],D.wf,aj C j H' (aY.of H').π D h0 J ((bE.ik O R s b).1) fw⟩
  by_cases ak:n=0
  .subst ak;exact Q none 0 B (bE.KN hu.eq ag (g.ev aa) (g.ev aN)) (λ_=>⟨rfl,rfl⟩) (λh=>absurd rfl h) (λ_ _=>rfl)
  .have⟨q,off,cs,a1,c5,hm,hle,T⟩:=M ak;have V:iP B cg.size n (a.eval y)=some ⟨vs⟩:=by
    rw[g.ev aN,c5];simp only[iP,hm];rw[au ⟨ew,by simpa using hle⟩,<-T];congr 1;apply k3;rw[hs];simp[BV]
   have dO:vs.length=n*cg.size:=by rw[<-T,hs];simp;omega
   refine Q (some ⟨B.n,0,none⟩) (dF cg.size) (B.push ⟨⟨vs⟩,e⟩) ?_ (λh=>absurd h ak) (λ_=>⟨B.n,rfl,rfl,b4 _,akF⟩) (λi ag=>akH);have:=bE.G9 (P:=P) (o:=⟨some d,.call {callee:=.builtin .append,args:=#[x,y],argTypes:=#[t,t]},ty,pos,af,gd⟩) rfl hu.eq hu.eq rfl ag J (tx S.dU) hu.ve Az (iC.1 Y) (g.ev aa) bo rfl aF uw V GR U U Qp;simpa using this
end
section
variable{l:List Oper}{k:Nat}{K:Fr->aY->Prop}{d:Tmp}
def PM{n0 π v}(aE:bw n0 v):rr n0 π (some []) v:=AE (λ_ ag=>.inl ag) v aE
def ad.acR[bH]{x v}(hw:cw an ⟨some d,.move x,ty,pos,af,gd⟩ ⟨ay,al⟩=some true)(aq:Nat.blt d al=true)(aa:Fr.ev ⟨ay,al⟩ x=some v)(aE:bw B.n v)(aj:ad P an bg (de k false [] (some [])::rs) l ⟨(d,v)::ay,al⟩ ⟨B,π,k,ao⟩ K):ad P an bg rs (⟨some d,.move x,ty,pos,af,gd⟩::l) ⟨ay,al⟩ ⟨B,π,k,ao⟩ K :=
 ad.still hw aq (λa g H=>amp) (PM aE) aj
def ad.aA6[bH]{x A}(hw:cw an ⟨some d,.nilCheck x,ty,pos,af,gd⟩ ⟨ay,al⟩=some true)(aq:Nat.blt d al=true)(aa:Fr.ev ⟨ay,al⟩ x=some (.pointer (some A)))(aE:A.block<B.n)(aj:ad P an bg (de k false [] (some [])::rs) l ⟨(d,.pointer (some A))::ay,al⟩ ⟨B,π,k,ao⟩ K):ad P an bg rs (⟨some d,.nilCheck x,ty,pos,af,gd⟩::l) ⟨ay,al⟩ ⟨B,π,k,ao⟩ K :=
 ad.still hw aq (λa g H=>by
  have:=bE.nilCheck (P:=P) (o:=⟨some d,.nilCheck x,ty,pos,af,gd⟩) (h:=H) rfl (g.ev aa);rw[g.ev aa] at this;exact dm) (PM lL) aj
def ad.aA4[bH]{t x i off blk j}[aH:fm P t i off](hw:cw an ⟨some d,.fieldAddr t x i,ty,pos,af,gd⟩ ⟨ay,al⟩=some true)(aq:Nat.blt d al=true)(aa:Fr.ev ⟨ay,al⟩ x=some (.pointer (some ⟨blk,j,none⟩)))(aE:blk<B.n)(aj:ad P an bg (de k false [] (some [])::rs) l ⟨(d,.pointer (some ⟨blk,j+off,none⟩))::ay,al⟩ ⟨B,π,k,ao⟩ K):ad P an bg rs (⟨some d,.fieldAddr t x i,ty,pos,af,gd⟩::l) ⟨ay,al⟩ ⟨B,π,k,ao⟩ K:=by
 refine ad.still hw aq (λa g H=>?_) (PM lL) aj;have J:=aH.eq;unfold aan at J;split at J
 .rename_i u hu;split at J
  .rename_i f q;split at J
   .rename_i s ag;cases a7:Nat.beq s.size 0 with
    | true=>rw[a7] at J;cases J
    | false =>
     rw[a7] at J;simp only[cond_false,dh] at J;have:=bE.fieldAddr (P:=P) (o:=⟨some d,.fieldAddr t x i,ty,pos,af,gd⟩) (h:=H) rfl hu q ag (λe=>abU) (g.ev aa);rw[J,add_eq] at this;cases I:Nat.beq off 0 with
     | true=>have:=mu I;subst this;rw[I] at *;exact dm
     | false=>rw[I] at this;exact dm
   .cases J
  .cases J
 .cases J
def ad.an5[bH]{t x blk off cs e v}[hu:kX P t](hw:cw an ⟨some d,.load t x,ty,pos,af,gd⟩ ⟨ay,al⟩=some true)(aq:Nat.blt d al=true)(aa:Fr.ev ⟨ay,al⟩ x=some (.pointer (some ⟨blk,off,none⟩)))(I:B.m blk=some ⟨⟨cs⟩,e⟩)(bs:blk<B.n)(aE:cs[off]?=some v)(j:bw B.n v)(aj:ad P an bg (de k true [] (some [])::rs) l ⟨(d,v)::ay,al⟩ ⟨B,π,k,ao⟩ K):ad P an bg rs (⟨some d,.load t x,ty,pos,af,gd⟩::l) ⟨ay,al⟩ ⟨B,π,k,ao⟩ K:=by
 have J:=hu.eq;cases aS:P.underlying t with
 | none=>rw[aS] at J;cases J
 | some q =>
  rw[aS] at J;refine ad.step hw aq (hP.reads (λa g H aC=>?_) (PM j)) aj;exact bE.G6 (P:=P) rfl aS p0 (g.ev aa) rfl (by show H.m blk=_;rwa[aC.b rfl blk bs]) aku
def ad.aOj[bH]{x i off n c}(hw:cw an ⟨some d,.assign x,ty,pos,af,gd⟩ ⟨ay,al⟩=some true)(aq:Nat.blt d al=true)(aa:Fr.ev ⟨ay,al⟩ x=some (.slice (some ⟨π i,off,none⟩) n c))(aj:ad P an bg (de k false [] (some [i])::rs) l ⟨(d,.slice (some ⟨π i,off,none⟩) n c)::ay,al⟩ ⟨B,π,k,ao⟩ K):ad P an bg rs (⟨some d,.assign x,ty,pos,af,gd⟩::l) ⟨ay,al⟩ ⟨B,π,k,ao⟩ K :=
 ad.still hw aq (λa g H=>al5) (by show e0 _ _;rw[e0];exact .inr ⟨i,aF,rfl⟩) aj
end
def aY.WF.grow{h:aY}(w:h.WF)l:∀d,({h with k:=h.k+d,l:=l}:aY).WF:=by
 intro d;induction d with
 | zero=>exact w.eB l
 | succ d b=>exact b.push l
def rowsOf(π:Nat->Nat)(H:aV):Nat->List (Nat×Option cd)
 | 0=>[]
 | k+1=>(k,H.m (π k))::rowsOf π H k
def aQA π H:∀k i,i<k->ec (rowsOf π H k) i=H.m (π i):=by
 intro k;induction k with
 | zero=>intro i ag;omega
 | succ k b =>
  intro i ag;rw[rowsOf,uh];by_cases e:k=i
  .subst e;rw[au rfl]
  .rw[ai e];exact b i U
def aY.part{h:aY}(w:h.WF){H}(hle:h.a6.n<=H.n)(s:∀i b,i<h.a6.n->H.m i=some b->∃c,h.a6.m i=some c)(E:∀i b,H.m i=some b->i<H.n)(A:∀i,i<h.bD.n->H.m i=h.bD.m i):
 ∃d,H.n=h.a6.n+d/\({bD:=h.bD,π:=h.π,k:=h.k+d,l:=rowsOf h.π H (h.k+d)}:aY).a6=H/\({bD:=h.bD,π:=h.π,k:=h.k+d,l:=rowsOf h.π H (h.k+d)}:aY).WF:=by
 obtain⟨D,v⟩:∃D,H.n=h.a6.n+D:=⟨H.n-h.a6.n,U⟩;refine⟨D,v,?_,w.grow _ _⟩;have ak:h.π (h.k+D)=H.n:=by rw[w.mono,v];rfl
 refine aV.eq (λid=>?_) ak;simp only[aY.a6];by_cases q:id<h.bD.n
 .rw[au q,A id q]
 .rw[ai q];cases ag:e8 h.π (h.k+D) id with
  | some i =>
   have⟨g1,g2⟩:=kf ag;show ec (rowsOf h.π H (h.k+D)) i=H.m id;rw[aQA _ _ _ _ g1,g2]
  | none =>
   show none=H.m id;cases hm:H.m id with
   | none=>rfl
   | some b =>
    exfalso;have g:∀i,i<h.k+D->h.π i≠id:=by
     intro i r e;have:=j4 (π:=h.π) (w.grow [] D).inj r;rw[e,ag] at this;cases this
    by_cases z:id<h.a6.n
    .have⟨c,aB⟩:=s id b z hm;simp only[aY.a6] at aB;rw[ai q] at aB;cases aA:e8 h.π h.k id with
     | none=>rw[aA] at aB;cases aB
     | some j =>
      have⟨M,C⟩:=kf aA;exact g j U C
    .have aK:=E id b hm;refine g (h.k+(id-h.a6.n)) U ?_;rw[w.mono (id-h.a6.n)];show h.a6.n+(id-h.a6.n)=id;omega
def wx(k k':Nat):fZ:={eG:=true,dH:=List.range k,k:=k,k':=k',w:=List.range k,fz:=false,nv:=none,cn:=none}
def aaz{n0 π k k' id}(h:id<n0\/(e8 π k' id).isSome=true):eu n0 π (wx k k') id=false:=by
 unfold eu wx;by_cases bs:id<n0
 .simp[bs]
 .rcases h with h|h
  .exact absurd h bs
  .simp only[bs,jE];cases ag:e8 π k' id with
   | none=>rw[ag] at h;cases h
   | some i =>
    simp only;by_cases wu:k<=i
    .simp[wu]
    .have:ib i (List.range k)=true:=l4.2 (PU.2 U);simp[this]
def ajp{n0 π k k' id}:fH n0 π (wx k k') id=true↔¬id<n0/\(e8 π k' id).isSome=true:=by
 unfold fH wx;by_cases b:id<n0
 .simp[b]
 .simp only[b,jE];cases ag:e8 π k' id with
  | none=>simp
  | some i =>
   simp only[aaS,not_false_eq_true,and_self,iff_true];by_cases e:k<=i
   .simp[e]
   .have:ib i (List.range k)=true:=l4.2 (PU.2 U);simp[this]
section
variable{l:List Oper}{K:Fr->aY->Prop}{d:Tmp}
def ad.ayo[bH]{o f h}(hw:cw an o f=some true)(aq:II f.al o.dst=true)(J:∀a,gZ f a->h.WF->Sat P h.a6->gI h.a6.n a->(∀x∈o.op.operands,rF P.globals.size x)->∃v aw r,hP P o f h v aw r/\(r.st=none/\(aw.WF->Sat P aw.a6->∀q,r.fe=some q->xP aw.a6 q.1 q.2.1 q.2.2))/\ad P an bg (r::rs) l (f.put o.dst v) aw K):ad P an bg rs (o::l) f h K:=by
 intro xs z h0 a p;have j:an[xs.length]?=some o:=by
  rw[<-pY,<-p.os,oI aF];simp
 have⟨v,aw,r,s,bh,aj⟩:=J a p.wb p.wf p.j9 p.bw (Wq p.DJ j);exact ad.stepG hw aq s bh.1 bh.2 aj xs z h0 a p
def au8[bH]{g0 c xs ts vs v a H H'}[bf:cY P g0](g:gZ ⟨ay,al⟩ a)(aB:Fr.ev ⟨ay,al⟩ c=some (.func (.func g0) #[] #[]))(aa:pS ay al xs.toList=some vs)(aS:bc P g0 ⟨vs⟩ H v H'):
 bE P ⟨some d,.call {callee:=.value c,args:=xs,argTypes:=ts},ty,pos,af,gd⟩ a.eval H v H':=by
 have b:=bf.ok;cases j:P.funcs[g0]? with
 | none=>rw[j] at b;cases b
 | some fn =>
  rw[j] at b;simp only[iW,dh,cA,mV] at b;refine bE.call rfl (captured:=#[]) (g.ev aB) j b.1 amo ?_;have:((#[]++xs.map a.eval)++#[]:Array Value)=⟨vs⟩:=by
   apply k3;simp[ajb g aa]
  rwa[this]
def ad.O8[bH]{h g0 c xs ts vs}[bf:cY P g0](hw:cw an ⟨some d,.call {callee:=.value c,args:=xs,argTypes:=ts},ty,pos,af,gd⟩ ⟨ay,al⟩=some true)(aq:Nat.blt d al=true)(aB:Fr.ev ⟨ay,al⟩ c=some (.func (.func g0) #[] #[]))(aa:pS ay al xs.toList=some vs)(aS:∀D,h.a6=D->fG (P:=P) h D->∃Q,dw P g0 vs D Q/\(∀v H',Q v H'->∀i,i<h.bD.n->H'.m i=D.m i)/\
  ∀v H' k' N,Q v H'->Sat P H'->D.n<=H'.n->({bD:=h.bD,π:=h.π,k:=k',l:=N}:aY).a6=H'->({bD:=h.bD,π:=h.π,k:=k',l:=N}:aY).WF->h.k<=k'->ad P an bg (wx h.k k'::rs) l ⟨(d,v)::ay,al⟩ {bD:=h.bD,π:=h.π,k:=k',l:=N} K):
 ad P an bg rs (⟨some d,.call {callee:=.value c,args:=xs,argTypes:=ts},ty,pos,af,gd⟩::l) ⟨ay,al⟩ h K:=by
 refine ad.ayo hw aq λa g w s b aj=>?_;have⟨Q,he,eC,O⟩:=aS _ rfl (fG.of w s);have zt:P.globals.size<=h.a6.n:=Vo;have⟨v,H',qb,q⟩:=he s (Zi g zt b (λx kE=>aj x UP) aa);have M:=λ{a:Act} (g:gZ ⟨ay,al⟩ a)=>au8 (ty:=ty) (pos:=pos) (af:=af) (gd:=gd) (d:=d) (ts:=ts) g aB aa qb;have V:=(bE.j9 (M g) aj s b).1;have⟨m1,m2⟩:=bE.ik (M g) aj s b;have S:∀i,i<h.bD.n->H'.m i=h.bD.m i:=λi ag=>by rw[eC v H' q i ag];simp only[aY.a6];rw[au ag]
 have⟨A,_,C,R⟩:=aY.part w m1 m2 V.aO S;have T:∀{id:Nat}{z:cd},H'.m id=some z->id<h.bD.n\/(e8 h.π (h.k+A) id).isSome=true:=by
  intro id z I;by_cases bs:id<h.bD.n
  .exact .inl bs
  .right;rw[<-C] at I;simp only[aY.a6] at I;rw[ai bs] at I;cases ag:e8 h.π (h.k+A) id with
   | none=>rw[ag] at I;cases I
   | some i=>rfl
 have Z:∀{id:Nat}{z:cd},h.a6.m id=some z->id<h.bD.n\/(e8 h.π (h.k+A) id).isSome=true:=by
  intro id z I;by_cases bs:id<h.bD.n
  .exact .inl bs
  .right;simp only[aY.a6] at I;rw[ai bs] at I;cases ag:e8 h.π h.k id with
   | none=>rw[ag] at I;cases I
   | some i =>
    have⟨g1,g2⟩:=kf ag;have:=j4 (π:=h.π) R.inj (show i<h.k+A by omega);rw[g2] at this;rw[this];rfl
 have Pe:h.a6.eO (eu h.bD.n h.π (wx h.k (h.k+A)))=h.a6:=by
  refine aV.eq (λid=>?_) rfl;simp only[aV.eO];split
  .rename_i he;cases I:h.a6.m id with
   | none=>rfl
   | some z=>rw[aaz (Z I)] at he;cases he
  .rfl
 have Pd:H'.eO (eu h.bD.n h.π (wx h.k (h.k+A)))=H':=by
  refine aV.eq (λid=>?_) rfl;simp only[aV.eO];split
  .rename_i he;cases I:H'.m id with
   | none=>rfl
   | some z=>rw[aaz (T I)] at he;cases he
  .rfl
 refine⟨v,_,wx h.k (h.k+A),⟨λ_ a g=>by rw[C,Pe,Pd];exact M g,λ_=>R,rfl,rfl,rfl,rfl,DR _ _,λ_ id he=>?_,λ_ id he=>aaz (.inr (ajp.1 he).2),λ_ id E ak=>?_,ew,λ_ id z _ _ u _=>trivial⟩,⟨rfl,λ_ _ q O=>by cases O⟩,O v H' (h.k+A) _ q V m1 C R (DR _ _)⟩
 .rw[C];by_cases bs:id<h.bD.n
  .rw[S id bs];simp only[aY.a6];rw[au bs]
  .have Y:¬(e8 h.π (h.k+A) id).isSome=true:=λe=>by
    have:fH h.bD.n h.π (wx h.k (h.k+A)) id=true:=ajp.2 ⟨bs,e⟩;rw[this] at he;cases he
   cases I:H'.m id with
   | some z =>
    rcases T I with J | J
    .exact absurd J bs
    .exact absurd J Y
   | none =>
    cases dR:h.a6.m id with
    | none=>rfl
    | some z =>
     rcases Z dR with J | J
     .exact absurd J bs
     .exact absurd J Y
 .rw[C];cases I:H'.m id with
  | none=>rfl
  | some z =>
   have⟨c,aB⟩:=m2 id z E I;have ak:=ak;rw[ak] at aB;cases aB
end
def Uc(m j:Nat):Nat->List (Nat×Nat)
 | 0=>[]
 | i+1=>bif xl.LZ m i then Uc m j i else(i,j)::Uc m j i
def aaA:List Nat->Nat->List (Nat×Nat)
 | [],_=>[]
 | m::ms,j=>Uc m j j++aaA ms (j+1)
noncomputable def Ud(P:Program)(an:Array Oper):Option (List (Nat×Nat)):=match MT P an with
 | some l=>some (aaA (l.map (·.2)) 0)
 | none=>none
def aQD{m j i}:∀{n:Nat},i<n->xl.LZ m i=false->(i,j)∈Uc m j n:=by
 intro n;induction n with
 | zero=>intro h;omega
 | succ n b =>
  intro h I;rw[Uc];by_cases e:i=n
  .subst e;rw[I];simp
  .have:=b U I;cases xl.LZ m n with
   | true=>exact dm
   | false=>exact IT _ this
def ayp{i}:∀{b:List Nat}{j0 q m:Nat},b[q]?=some m->i<j0+q->xl.LZ m i=false->(i,j0+q)∈aaA b j0:=by
 intro b;induction b with
 | nil=>intro j0 q m h;simp at h
 | cons m0 b e =>
  intro j0 q m h ag I;rw[aaA];cases q with
  | zero =>
   simp only[kC,dh] at h;subst h;exact ha.2 (.inl (aQD Qs I))
  | succ q =>
   have:=e (j0:=j0+1) lM U I;rw[show j0+1+q=j0+(q+1) by omega] at this;exact ha.2 (.inr this)
def ayq{m y}:∀{l:List fZ}{k:Nat},(∀i x,l[i]?=some x->xl.LZ m (k+i)=false->yq x y=true)->xl m y l k=true:=by
 intro l;induction l with
 | nil=>intro k _;rfl
 | cons x l b =>
  intro k h;simp only[xl,cA,l3];refine⟨?_,b λi z e I=>h (i+1) z (by simpa using e) (by rwa[show k+(i+1)=k+1+i by omega])⟩;cases I:xl.LZ m k with
  | true=>exact xG
  | false=>exact .inr (h 0 x rfl I)
def ayr{all}:∀{l:List fZ}{b:List Nat}{j:Nat},(∀i y m,l[i]?=some y->b[i]?=some m->xl m y (all.take (j+i)) 0=true)->PE all l b j=true:=by
 intro l;induction l with
 | nil=>intro b j _;cases b<;>rfl
 | cons z l e =>
  intro b j h;cases b with
  | nil=>rfl
  | cons m b =>
   simp only[PE,cA];exact⟨h 0 z m rfl rfl,e λi y m' aN hm=>by have:=h (i+1) y m' Jl Qt;rwa[show j+(i+1)=j+1+i by omega] at this⟩
def Ue(rs:List fZ):List (Nat×Nat)->Prop
 | []=>True
 | (i,j)::L=>(∀x y,rs[i]?=some x->rs[j]?=some y->yq x y=true)/\Ue rs L
def ays{rs i j}:∀{L:List (Nat×Nat)},Ue rs L->(i,j)∈L->∀x y,rs[i]?=some x->rs[j]?=some y->yq x y=true:=by
 intro L;induction L with
 | nil=>intro _ h;cases h
 | cons p L b =>
  intro h hm;rcases dI.1 hm with e|e
  .subst e;exact h.1
  .exact b h.2 e
def ad.ahy[bH]{an rs f h K}(hm:P.follows .mixedOrders=true)L(eM:Ud P an=some L)(bh:Ue rs.reverse L)(aC:Gj rs=true)(aj:K f h):ad P an true rs [] f h K:=by
 refine ad.ah9 hm (λ_=>?_) (λ_=>axH aC) aj (axG aC);unfold Ud at eM;unfold L0;cases q:MT P an with
 | none=>rw[q] at eM;cases eM
 | some l =>
  rw[q] at eM;simp only[dh] at eM|-;refine ayr λj y m aN s=>ayq λi x aa I=>?_;rw[ff] at aa I;have ag:i<j:=by
   have:=(cS.1 aa).1;simp at this;omega
  rw[tl,au ag] at aa;have:=ayp (j0:=0) s U I;rw[ff,eM] at this;exact ays bh this x y aa aN
def ayy{x y}(J:x.k=x.k')(q:x.w=[])(t:x.fz=false)(p:x.lY=none)(n:x.dH=[])(g:x.eG=false)(e:y.fz=false)(b:x.k'<=y.k)(u:x.k'=0):yq x y=true:=by
 have I:Nat.beq x.k x.k'=true:=by rw[J];simp
 have r:u6 x y=true:=by
  unfold u6;rw[q,t,p,I];have aE:(y.dH.all λj=>!ib j []&&(Nat.blt j x.k||Nat.ble x.k' j))=true:=by
   rw[iB];intro j _;rw[u];simp[ib]
  rw[aE];simp[Dj]
 have s:u6 y x=true:=by
  unfold u6;rw[n,g,e,I];simp
 unfold yq;rw[r,s,I,qT.2 b];rfl
def mP(k q:Nat):fZ:={eG:=true,dH:=[q],k:=k,k':=k+1,w:=[],fz:=true,nv:=none,cn:=none}
section
variable{l:List Oper}{k:Nat}{K:Fr->aY->Prop}{d:Tmp}
def ad.agr[bH]{t e x y q j len n c sz N cs s z a1}[hu:ee P t (.slice e)][aC:e4 P e sz][I:nb P e N][V:iY P e z](hw:cw an ⟨some d,.call {callee:=.builtin .append,args:=#[x,y],argTypes:=#[t,t]},ty,pos,af,gd⟩ ⟨ay,al⟩=some true)(aq:Nat.blt d al=true)(aa:Fr.ev ⟨ay,al⟩ x=some (.slice (some ⟨j,0,none⟩) len (dF sz)))(aN:Fr.ev ⟨ay,al⟩ y=some (.slice (some ⟨π q,0,none⟩) n c))(gD:Nat.beq (ei z).length sz=true)(ml:Nat.blt 0 sz=true)(Gn:B.m j=some ⟨⟨cs⟩,e⟩)(M:j<B.n)(FD:df<=j)(jG:cs.length=len*sz)(Y:q<k)(Q:ec ao q=some ⟨⟨s⟩,a1⟩)(ak:s.length=n*sz)(mx:s.all (·.oneCell')=true)(lO:(len+n)*N<=140737488355328)(Z:len+n<=9223372036854775807)(aj:ad P an bg (mP k q::rs) l ⟨(d,.slice (some ⟨π k,0,none⟩) (len+n) (dF sz))::ay,al⟩ ⟨B.fB j,π,k+1,(k,some ⟨⟨cs++s⟩,e⟩)::ao⟩ K):ad P an bg rs (⟨some d,.call {callee:=.builtin .append,args:=#[x,y],argTypes:=#[t,t]},ty,pos,af,gd⟩::l) ⟨ay,al⟩ ⟨B,π,k,ao⟩ K:=by
 have J:=V.eq;have ej:=aC.eq;have nS:=I.eq;cases ag:P.info? e with
 | none=>rw[ag] at J;cases J
 | some cg =>
  rw[ag] at J ej nS;have aK:cg.size=sz:=p1;have br:cg.bytes=N:=yJ;subst aK;subst br;have lW:=mu gD;let h:aY:=⟨B,π,k,ao⟩
  let b':cd:=⟨⟨cs++s⟩,e⟩
  let aw:aY:=⟨B.fB j,π,k+1,(k,some b')::ao⟩
  have T:h.WF->(⟨B.fB j,π,k,ao⟩:aY).WF:=λw=>⟨w.up,w.bL,w.ag,w.inj,w.jC,λid b I=>by
   have I:(if id=j then none else B.m id)=some b:=I;split at I
   .cases I
   .exact w.dP id b I,w.nE⟩
  have O:h.WF->aw.a6=(h.a6.fB j).push b':=by
   intro w;rw[<-((aY.ayn w M).symm)];exact(aY.LY (T w) b').symm
  have hm:∀id,((h.a6.fB j).push b').m id=if id=π k then some b' else if id=j then none else h.a6.m id:=λid=>rfl
  have E:h.WF->∀a b,a<k+1->b<k+1->π a=π b->a=b:=λw=>(w.push []).inj;have S:h.WF->eu B.n π (mP k q) (π k)=false:=by
   intro w;have C:¬π k<B.n:=um.2 w.jC;simp only[eu,mP,ai C,j4 (E w) (dN _)];simp
  have Tn:h.WF->eu B.n π (mP k q) (π q)=false:=by
   intro w;have C:¬π q<B.n:=um.2 (w.bL q Y);simp only[eu,mP,ai C,j4 (E w) (show q<k+1 by omega)];simp[ib]
  have BP:∀{id:Nat},fH B.n π (mP k q) id=true->id<B.n\/(¬id<B.n/\id=π k):=by
   intro id he;unfold fH mP at he;by_cases h0:id<B.n
   .exact .inl h0
   .simp only[h0,jE] at he;cases aa:e8 π (k+1) id with
    | none=>rw[aa] at he;cases he
    | some p =>
     rw[aa] at he;have⟨g1,g2⟩:=kf aa;simp only[l3,ib,nN,false_or,ed] at he;have:p=k:=U;subst this;exact .inr ⟨h0,g2.symm⟩
  refine ad.step hw aq (r:=mP k q) ⟨λw a g=>?_,λw=>(T w).push _,rfl,rfl,rfl,rfl,hr _,λw id he=>?_,λw id he=>?_,λw id A D=>?_,ew,λw id c he aB u hu=>trivial⟩ aj
  .show bE P _ a.eval (h.a6.eO (eu B.n π (mP k q))) _ (aw.a6.eO (eu B.n π (mP k q)));rw[O w];have ba:((h.a6.fB j).push b').eO (eu B.n π (mP k q))=((h.a6.eO (eu B.n π (mP k q))).fB j).push b':=by
    refine aV.eq (λid=>?_) rfl;show(if eu B.n π (mP k q) id=true then none else if id=π k then some b' else if id=j then none else h.a6.m id)=(if id=π k then some b' else if id=j then none else if eu B.n π (mP k q) id=true then none else h.a6.m id);by_cases e:id=π k
    .rw[au e,au e,e,S w];rfl
    .rw[ai e,ai e];by_cases a1:id=j
     .exact abP
     .exact VU
   rw[ba];have L2:(h.a6.eO (eu B.n π (mP k q))).m j=some ⟨⟨cs⟩,e⟩:=by
    simp only[aV.eO,(by simp[eu,mP,M]:eu B.n π (mP k q) j=false)];exact aY.Am w Gn
   have R:(h.a6.eO (eu B.n π (mP k q))).m (π q)=some ⟨⟨s⟩,a1⟩:=by
    simp only[aV.eO,Tn w];exact(aY.wy w Y).trans Q
   have mo:iP (h.a6.eO (eu B.n π (mP k q))) cg.size n (a.eval y)=some ⟨s⟩:=by
    rw[g.ev aN];simp only[iP,R];rw[au ⟨ew,by simp[ak]⟩];congr 1;apply k3;simp[<-ak]
   have:=bE.JK (P:=P) (o:=⟨some d,.call {callee:=.builtin .append,args:=#[x,y],argTypes:=#[t,t]},ty,pos,af,gd⟩) rfl hu.eq hu.eq rfl ag J (tx V.dU) hu.ve Az (iC.1 ml) (g.ev aa) FD L2 rfl Qr uw mo yI Mo Z lO;rw[PZ] at this;exact dm
  .show aw.a6.m id=h.a6.m id;rw[O w,hm];by_cases e:id=π k
   .exfalso;have:fH B.n π (mP k q) id=true:=by
     subst e;have C:¬π k<B.n:=um.2 w.jC;simp only[fH,mP,ai C,j4 (E w) (dN _)];simp
    have he:fH B.n π (mP k q) id=false:=he;rw[this] at he;cases he
   .rw[ai e];by_cases a1:id=j
    .exfalso;have:fH B.n π (mP k q) id=true:=by
      subst a1;simp[fH,mP,M]
     have he:fH B.n π (mP k q) id=false:=he;rw[this] at he;cases he
    .rw[ai a1]
  .rcases BP he with e|⟨_,e⟩
   .have e:=e;show eu B.n π (mP k q) id=false;simp[eu,mP,e]
   .subst e;exact S w
  .show aw.a6.m id=none;rw[O w,hm];have A:id<π k:=A;have D:h.a6.m id=none:=D;rw[ai U];split
   .rfl
   .exact D
end
def aKV{x y}(n:x.fz=false)(s:x.lY=none)(g:y.fz=false)(D:y.lY=none)(q:y.dH=[])(p:y.k=y.k')(b:y.w=[])(aj:x.k'<=y.k)(aE:∀j∈x.dH,j<y.k)(ak:x.k=x.k'\/(y.nv=some []/\y.cn=some [])):yq x y=true:=by
 have I:Nat.beq y.k y.k'=true:=by rw[p];simp
 have v:u6 x y=true:=by
  unfold u6;rw[n,s,q,I];simp[Dj]
 have z:u6 y x=true:=by
  have r:(x.dH.all λj=>!ib j y.w&&(Nat.blt j y.k||Nat.ble y.k' j))=true:=by
   rw[iB];intro j A;rw[b];have:=iC.2 (aE j A);simp[ib,this]
  unfold u6;rw[r,g,D,b,I];simp[Dj]
 have t:(Nat.beq x.k x.k'||(PD x y.nv&&PD x y.cn))=true:=by
  rcases ak with e|⟨u,C⟩
  .rw[e];simp
  .rw[u,C];simp[PD]
 unfold yq;rw[v,z,qT.2 aj,t];rfl
section
variable{l:List Oper}{k:Nat}{K:Fr->aY->Prop}{d:Tmp}
def ad.atc[bH]{h t j x y a b}(hw:cw an ⟨some d,.binOp .neq t x y j,ty,pos,af,gd⟩ ⟨ay,al⟩=some true)(aq:Nat.blt d al=true)(aa:Fr.ev ⟨ay,al⟩ x=some (.string a))(aN:Fr.ev ⟨ay,al⟩ y=some (.string b))(he:a=b)(aj:ad P an bg (de h.k false [] (some [])::rs) l ⟨(d,.bool false)::ay,al⟩ h K):ad P an bg rs (⟨some d,.binOp .neq t x y j,ty,pos,af,gd⟩::l) ⟨ay,al⟩ h K:=by
 refine ad.aPT hw aq aa aN ?_ aj;subst he;simp[aap]
end
def ad.WM[bH]{P an bg rs l ay al d ty pos af gd B π k ao K t x blk off size cs vs e}[hu:sP P t size](hw:cw an ⟨some d,.load t x,ty,pos,af,gd⟩ ⟨ay,al⟩=some true)(aq:Nat.blt d al=true)(aa:Fr.ev ⟨ay,al⟩ x=some (.pointer (some ⟨blk,off,none⟩)))(I:B.m blk=some ⟨⟨cs⟩,e⟩)(bs:blk<B.n)(ak:off+size<=cs.length)(aE:cr off size cs=vs)(ar:∀v∈vs,bw B.n v)(aj:ad P an bg (de k true [] (some [])::rs) l ⟨(d,.agg ⟨vs⟩)::ay,al⟩ ⟨B,π,k,ao⟩ K):ad P an bg rs (⟨some d,.load t x,ty,pos,af,gd⟩::l) ⟨ay,al⟩ ⟨B,π,k,ao⟩ K:=by
 subst aE;have⟨J,ab⟩:=hu.eq;cases aS:P.underlying t with
 | none=>rw[aS] at J;cases J
 | some q =>
  cases j:P.info? t with
  | none=>rw[j] at ab;cases ab
  | some cg =>
   rw[aS] at J;rw[j] at ab;simp only[iW,dh] at J ab;refine ad.step hw aq (hP.reads (nv:=some []) (λa g H aC=>?_) (AE (λi ag=>.inl ag) _ acd)) aj;have:=bE.QS (P:=P) (o:=⟨some d,.load t x,ty,pos,af,gd⟩) rfl aS J j (g.ev aa) rfl Vr Vs;rw[ab] at this;rw[hs];simpa using this
def ad.aAG[bH]{P an bg rs l ay al d ty pos af gd h K x k n}(hw:cw an ⟨some d,.move x,ty,pos,af,gd⟩ ⟨ay,al⟩=some true)(aq:Nat.blt d al=true)(aa:Fr.ev ⟨ay,al⟩ x=some (.int k n))(aj:ad P an bg (de h.k false [] (some [])::rs) l ⟨(d,.int k n)::ay,al⟩ h K):ad P an bg rs (⟨some d,.move x,ty,pos,af,gd⟩::l) ⟨ay,al⟩ h K :=
 ad.km hw aq (λa g H=>by
  have:=bE.move (P:=P) (o:=⟨some d,.move x,ty,pos,af,gd⟩) (ev:=a.eval) (h:=H) rfl;rw[g.ev aa] at this;exact dm) aF aj
section
variable{l:List Oper}{h:aY}{K:Fr->aY->Prop}{d:Tmp}
def ad.Wt[bH]{t e x j ag b off n sz l0 h0}[hu:ee P t (.array n e)][aC:e4 P e sz](hw:cw an ⟨some d,.slice t x j ag none,ty,pos,af,gd⟩ ⟨ay,al⟩=some true)(aq:Nat.blt d al=true)(aa:Fr.ev ⟨ay,al⟩ x=some (.pointer (some ⟨b,off,none⟩)))(s:L1 ay al j 0 l0)(q:L1 ay al ag n h0)(J:l0<=h0)(u:h0<=n)(v:l0<n)(aB:n<nw)(aj:ad P an bg (de h.k false [] none::rs) l ⟨(d,.slice (some ⟨b,off+l0*sz,none⟩) (h0-l0) (n-l0))::ay,al⟩ h K):ad P an bg rs (⟨some d,.slice t x j ag none,ty,pos,af,gd⟩::l) ⟨ay,al⟩ h K:=by
 have ej:=aC.eq;cases dQ:P.info? e with
 | none=>rw[dQ] at ej;cases ej
 | some cg =>
  rw[dQ] at ej;have br:cg.size=sz:=p1;subst br;refine ad.still (nv:=none) hw aq (λa g H=>?_) trivial aj;have:=bE.Wt (P:=P) (o:=⟨some d,.slice t x j ag none,ty,pos,af,gd⟩) (h:=H) rfl hu.eq dQ (g.ev aa) (PH g s) (PH g q) J u aB;rw[ai U,add_plain] at this;exact dm
def ad.Nv[bH]{t e x y}{b off n sz m:Nat}{k}[hu:ee P t (.array n e)][aC:e4 P e sz](hw:cw an ⟨some d,.indexAddr t x y,ty,pos,af,gd⟩ ⟨ay,al⟩=some true)(aq:Nat.blt d al=true)(aa:Fr.ev ⟨ay,al⟩ x=some (.pointer (some ⟨b,off,none⟩)))(aN:Fr.ev ⟨ay,al⟩ y=some (.int k (m:Int)))(hm:m<n)(aj:ad P an bg (de h.k false [] none::rs) l ⟨(d,.pointer (some ⟨b,off+m*sz,none⟩))::ay,al⟩ h K):ad P an bg rs (⟨some d,.indexAddr t x y,ty,pos,af,gd⟩::l) ⟨ay,al⟩ h K:=by
 rw[<-add_plain] at aj;have ej:=aC.eq;cases dQ:P.info? e with
 | none=>rw[dQ] at ej;cases ej
 | some cg =>
  rw[dQ] at ej;have br:cg.size=sz:=p1;subst br;refine ad.still (nv:=none) hw aq (λa g H=>?_) trivial aj;have:=bE.amE (P:=P) (o:=⟨some d,.indexAddr t x y,ty,pos,af,gd⟩) (h:=H) rfl hu.eq dQ (g.ev aa) (g.ev aN) U U;rw[ry] at this;exact dm
def ad.neg[bH]{t x k n}(hw:cw an ⟨some d,.unOp .neg t x,ty,pos,af,gd⟩ ⟨ay,al⟩=some true)(aq:Nat.blt d al=true)(aa:Fr.ev ⟨ay,al⟩ x=some (.int k n))(aj:ad P an bg (de h.k false [] (some [])::rs) l ⟨(d,.int k (k.wrap (0-n)))::ay,al⟩ h K):ad P an bg rs (⟨some d,.unOp .neg t x,ty,pos,af,gd⟩::l) ⟨ay,al⟩ h K :=
 ad.axU rfl aF hw aq aa aF aF (λev W he=>by simp[execOp,he,Op.unary,Op.intArith]) aj
def ad.acX[bH]{t j x y k}{a b:Nat}(hw:cw an ⟨some d,.binOp .quo t x y j,ty,pos,af,gd⟩ ⟨ay,al⟩=some true)(aq:Nat.blt d al=true)(aa:Fr.ev ⟨ay,al⟩ x=some (.int k (a:Int)))(aN:Fr.ev ⟨ay,al⟩ y=some (.int k (b:Int)))(h0:0<b)(q:k.wrap ((a/b:Nat):Int)=((a/b:Nat):Int))(aj:ad P an bg (de h.k false [] (some [])::rs) l ⟨(d,.int k ((a/b:Nat):Int))::ay,al⟩ h K):ad P an bg rs (⟨some d,.binOp .quo t x y j,ty,pos,af,gd⟩::l) ⟨ay,al⟩ h K:=by
 refine ad.quo hw aq aa aN U ?_;rwa[show(a:Int).tdiv (b:Int)=((a/b:Nat):Int) from rfl,q]
def ad.ac7[bH]{t j x y k}{a b:Nat}(hw:cw an ⟨some d,.binOp .rem t x y j,ty,pos,af,gd⟩ ⟨ay,al⟩=some true)(aq:Nat.blt d al=true)(aa:Fr.ev ⟨ay,al⟩ x=some (.int k (a:Int)))(aN:Fr.ev ⟨ay,al⟩ y=some (.int k (b:Int)))(h0:0<b)(aj:ad P an bg (de h.k false [] (some [])::rs) l ⟨(d,.int k ((a%b:Nat):Int))::ay,al⟩ h K):ad P an bg rs (⟨some d,.binOp .rem t x y j,ty,pos,af,gd⟩::l) ⟨ay,al⟩ h K:=by
 refine ad.rem hw aq aa aN U ?_;rwa[show(a:Int).tmod (b:Int)=((a%b:Nat):Int) from rfl]
def ad.aAv[bH]{t j x y k}{a b:Nat}(hw:cw an ⟨some d,.binOp .mul t x y j,ty,pos,af,gd⟩ ⟨ay,al⟩=some true)(aq:Nat.blt d al=true)(aa:Fr.ev ⟨ay,al⟩ x=some (.int k (a:Int)))(aN:Fr.ev ⟨ay,al⟩ y=some (.int k (b:Int)))(q:k.wrap ((a*b:Nat):Int)=((a*b:Nat):Int))(aj:ad P an bg (de h.k false [] (some [])::rs) l ⟨(d,.int k ((a*b:Nat):Int))::ay,al⟩ h K):ad P an bg rs (⟨some d,.binOp .mul t x y j,ty,pos,af,gd⟩::l) ⟨ay,al⟩ h K :=
 ad.bin hw aq aa aN (by simp only[uc];rw[<-Int.natCast_mul,q]) aj
def ad.aAw[bH]{t j x y k}{a b:Nat}(hw:cw an ⟨some d,.binOp .add t x y j,ty,pos,af,gd⟩ ⟨ay,al⟩=some true)(aq:Nat.blt d al=true)(aa:Fr.ev ⟨ay,al⟩ x=some (.int k (a:Int)))(aN:Fr.ev ⟨ay,al⟩ y=some (.int k (b:Int)))(q:k.wrap ((a+b:Nat):Int)=((a+b:Nat):Int))(aj:ad P an bg (de h.k false [] (some [])::rs) l ⟨(d,.int k ((a+b:Nat):Int))::ay,al⟩ h K):ad P an bg rs (⟨some d,.binOp .add t x y j,ty,pos,af,gd⟩::l) ⟨ay,al⟩ h K :=
 ad.bin hw aq aa aN (by simp only[uc];rw[<-Int.natCast_add,q]) aj
def wrap32{n:Nat}(h:n<=4294967295):IntKind.u32.wrap (n:Int)=(n:Int):=UW
def wrap64{n:Nat}(h:n<=18446744073709551615):IntKind.u64.wrap (n:Int)=(n:Int):=aP1 U U
def aQH(n:Nat):IntKind.u32.wrap (n:Int)=((n%4294967296:Nat):Int):=by simp only[IntKind.wrap,IntKind.signed,IntKind.bits];simp
def ad.aAD[bH]{src dst x k}{a:Nat}[aC:ee P src (.int k)][hu:ee P dst (.int .u32)](hw:cw an ⟨some d,.convert src dst x,ty,pos,af,gd⟩ ⟨ay,al⟩=some true)(aq:Nat.blt d al=true)(aa:Fr.ev ⟨ay,al⟩ x=some (.int k (a:Int)))(aj:ad P an bg (de h.k false [] (some [])::rs) l ⟨(d,.int .u32 ((a%4294967296:Nat):Int))::ay,al⟩ h K):ad P an bg rs (⟨some d,.convert src dst x,ty,pos,af,gd⟩::l) ⟨ay,al⟩ h K:=by
 rw[<-aQH] at aj;exact ad.acV hw aq aa aj
def YJ(s:ByteArray)(n:Nat):Int:=match s[n]? with
 | some b=>(b.toNat:Int)
 | none=>0
def ad.indexAt[bH]{t x y s k}{n:Nat}[hu:ee P t .string](hw:cw an ⟨some d,.index t x y,ty,pos,af,gd⟩ ⟨ay,al⟩=some true)(aq:Nat.blt d al=true)(aa:Fr.ev ⟨ay,al⟩ x=some (.string s))(aN:Fr.ev ⟨ay,al⟩ y=some (.int k (n:Int)))(ak:n<s.size)(aj:ad P an bg (de h.k false [] (some [])::rs) l ⟨(d,.int .u8 (YJ s n))::ay,al⟩ h K):ad P an bg rs (⟨some d,.index t x y,ty,pos,af,gd⟩::l) ⟨ay,al⟩ h K:=by
 refine ad.aPV hw aq aa aN rfl ak ?_;have:YJ s n=((s[n]'ak).toNat:Int):=by unfold YJ;simp[ak]
 rwa[<-this]
def Cu(d:List Int):List Value:=d.map (Value.int .u8)
def anq d k b:eB (Cu d) k [.int .u8 b]=Cu (d.set k b):=by
 unfold Cu;induction d generalizing k with
 | nil=>cases k<;>rfl
 | cons a d e =>
  cases k with
  | zero=>cases d<;>rfl
  | succ k=>simp only[gg,I6];rw[eB];congr 1;exact e k
def ad.aGw[bH]{t x k n}(m:Nat)(hw:cw an ⟨some d,.unOp .neg t x,ty,pos,af,gd⟩ ⟨ay,al⟩=some true)(aq:Nat.blt d al=true)(aa:Fr.ev ⟨ay,al⟩ x=some (.int k n))(aE:k.wrap (0-n)=(m:Int))(aj:ad P an bg (de h.k false [] (some [])::rs) l ⟨(d,.int k (m:Int))::ay,al⟩ h K):ad P an bg rs (⟨some d,.unOp .neg t x,ty,pos,af,gd⟩::l) ⟨ay,al⟩ h K:=by
 rw[<-aE] at aj;exact ad.neg hw aq aa aj
end
section
variable{l:List Oper}{k:Nat}{K:Fr->aY->Prop}{d:Tmp}
def ad.aAJ[bH]{src dst e x blk off n c cs}{j:List Int}{a1}[aC:ee P src (.slice e)][u:ee P dst .string][he:ee P e (.int .u8)](hw:cw an ⟨some d,.convert src dst x,ty,pos,af,gd⟩ ⟨ay,al⟩=some true)(aq:Nat.blt d al=true)(aa:Fr.ev ⟨ay,al⟩ x=some (.slice (some ⟨blk,off,none⟩) n c))(I:B.m blk=some ⟨⟨cs⟩,a1⟩)(bs:blk<B.n)(q:cs=j.map λz=>Value.int .u8 z)(ak:off+n<=j.length)(aj:ad P an bg (de k true [] none::rs) l ⟨(d,.string ⟨(((j.drop off).take n).map λz=>UInt8.ofNat z.toNat).toArray⟩)::ay,al⟩ ⟨B,π,k,ao⟩ K):ad P an bg rs (⟨some d,.convert src dst x,ty,pos,af,gd⟩::l) ⟨ay,al⟩ ⟨B,π,k,ao⟩ K:=by
 refine ad.step hw aq (hP.reads (nv:=none) (λa g H s=>?_) trivial) aj;refine bE.azu (P:=P) rfl aC.eq u.eq he.eq (g.ev aa) rfl (by rwa[s.b rfl blk bs]) (by subst q;simpa using ak) ?_;subst q;apply k3;simp[BV,List.map_take,List.map_drop]
end
def gm.aQI(m:gm){z}(b:bw 0 z)n:bw 0 (m.get z n):=by
 unfold gm.get;split
 .rename_i x aa;simp only[y2];intro v aE;simp only[uo,dI,jP,j6] at aE;rcases aE with rfl|rfl
  .exact acO 0 x.2
  .exact aF
 .simp only[y2];intro v aE;simp only[uo,dI,jP,j6] at aE;rcases aE with rfl|rfl
  .exact b
  .exact aF
section
variable{l:List Oper}{k:Nat}{K:Fr->aY->Prop}{d:Tmp}
def ad.lookup[bH]{t q j x y bt m n z v}[hu:ee P t (.map q j)][E:ee P q (.int .i64)][C:iY P j z](hw:cw an ⟨some d,.lookup t x y true,ty,pos,af,gd⟩ ⟨ay,al⟩=some true)(aq:Nat.blt d al=true)(aa:Fr.ev ⟨ay,al⟩ x=some (.map (some bt)))(aN:Fr.ev ⟨ay,al⟩ y=some (.int .i64 n))(I:B.m bt=some ⟨⟨[]⟩,iv m⟩)(bs:bt<B.n)(D:df<=bt)(aC:m.s=0)(aE:m.get z n=v)(aj:ad P an bg (de k true [] (some [])::rs) l ⟨(d,v)::ay,al⟩ ⟨B,π,k,ao⟩ K):ad P an bg rs (⟨some d,.lookup t x y true,ty,pos,af,gd⟩::l) ⟨ay,al⟩ ⟨B,π,k,ao⟩ K:=by
 subst aE;have J:=C.eq;cases ag:P.info? j with
 | none=>rw[ag] at J;cases J
 | some cg =>
  rw[ag] at J;have A:=tx C.dU;refine ad.step hw aq (hP.reads (λa g H uC=>?_) (PM (hc (dG _) _ (m.aQI A n)))) aj;exact bE.lookup (P:=P) rfl hu.eq E.eq ag J A (g.ev aa) (g.ev aN) D abN aC
def ad.delete[bH]{t j u q x y bt m n d}[hu:ee P t (.map j u)][z:ee P j (.int .i64)](hw:cw an ⟨d,.call {callee:=.builtin .delete,args:=#[x,y],argTypes:=#[t,q]},ty,pos,af,gd⟩ ⟨ay,al⟩=some true)(aq:II al d=true)(aa:Fr.ev ⟨ay,al⟩ x=some (.map (some bt)))(aN:Fr.ev ⟨ay,al⟩ y=some (.int .i64 n))(I:B.m bt=some ⟨⟨[]⟩,iv m⟩)(bs:bt<B.n)(v:df<=bt)(aC:m.s=0)(aj:ad P an bg (An k [] (some [])::rs) l (Fr.put ⟨ay,al⟩ d (.tuple #[])) ⟨B.set bt ⟨⟨[]⟩,iv (m.del n)⟩,π,k,ao⟩ K):ad P an bg rs (⟨d,.call {callee:=.builtin .delete,args:=#[x,y],argTypes:=#[t,q]},ty,pos,af,gd⟩::l) ⟨ay,al⟩ ⟨B,π,k,ao⟩ K:=by
 refine ad.step hw aq (hP.aal I (λa g H uC=>?_) (kQ aF) bs) aj;exact bE.delete (P:=P) rfl hu.eq z.eq (g.ev aa) (g.ev aN) v abN aC
def ad.mapUpdate[bH]{t j q x y w bt m row}[hu:ee P t (.map j q)][v:ee P j (.int .i64)](hw:cw an ⟨none,.mapUpdate t x y w,ty,pos,af,gd⟩ ⟨ay,al⟩=some true)(aa:Fr.ev ⟨ay,al⟩ x=some (.map (some bt)))(aN:Fr.ev ⟨ay,al⟩ y=some (.int .i64 (row.headD 0)))(aE:Fr.ev ⟨ay,al⟩ w=some (y3 0 row).2)(I:B.m bt=some ⟨⟨[]⟩,iv m⟩)(bs:bt<B.n)(u:df<=bt)(aC:m.s=0)(aj:ad P an bg (An k [] (some [])::rs) l ⟨ay,al⟩ ⟨B.set bt ⟨⟨[]⟩,iv (m.put row)⟩,π,k,ao⟩ K):ad P an bg rs (⟨none,.mapUpdate t x y w,ty,pos,af,gd⟩::l) ⟨ay,al⟩ ⟨B,π,k,ao⟩ K:=by
 refine ad.step hw rfl (hP.aal (nv:=some []) I (λa g H uC=>?_) aai bs) aj;exact bE.mapUpdate (P:=P) rfl hu.eq v.eq (g.ev aa) (g.ev aN) (g.ev aE) u abN aC
def ad.makeMap[bH]{t q j}[hu:ee P t (.map q j)](hw:cw an ⟨some d,.makeMap t none,ty,pos,af,gd⟩ ⟨ay,al⟩=some true)(aq:Nat.blt d al=true)(aj:ad P an bg (pe k false [] (some [k]) (some [])::rs) l ⟨(d,.map (some (π k)))::ay,al⟩ ⟨B,π,k+1,(k,some ⟨⟨[]⟩,iv ⟨0,0,[]⟩⟩)::ao⟩ K):ad P an bg rs (⟨some d,.makeMap t none,ty,pos,af,gd⟩::l) ⟨ay,al⟩ ⟨B,π,k,ao⟩ K:=by
 refine ad.step hw aq (hP.new (λa g H aC=>?_) ?_ λu hu=>by simp at hu) aj
 .have:=bE.makeMap (P:=P) (o:=⟨some d,.makeMap t none,ty,pos,af,gd⟩) (ev:=a.eval) (h:=H) rfl;rw[aC.n] at this;exact dm
 .show e0 _ _;rw[e0];exact yP
end
def ahj[bH](P:Program)(h0:aV)(h5:eY)(h6:World)(K:Exit->Fr->aY->Prop)(e:Exit)(A:Act)(W':World):Prop :=
 ∃f' aw b6 ρ',K e f' aw/\aw.WF/\A=eU ρ' b6/\gI aw.a6.n b6/\gZ f' b6/\db P.globals.size aw.a6 ρ' W'/\Ext h0 aw.a6 h5 ρ' h6 W'
def ub[bH](P:Program)(c:Code)(f:Fr)(h:aY)(K:Exit->Fr->aY->Prop):Prop :=
 ∀a ρ W,h.WF->db P.globals.size h.a6 ρ W->gI h.a6.n a->gZ f a->c.wp P (ahj P h.a6 ρ W K) (eU ρ a) W
variable{y:Code}{K':Exit->Fr->aY->Prop}
section
variable{c x:Code}{h:aY}{K:Exit->Fr->aY->Prop}
def ub.ahh[bH](hw:W P c f h K):ub P c f h K:=by
 intro a ρ W w aH b g;have⟨e,f',aw,b6,q,p,s1,b1,g1,t1⟩:=hw a w ⟨ρ,W,aH⟩ b g;refine wp_mono (t1 b ρ W aH) ?_;rintro s A W' ⟨rfl,ρ',rfl,n,j,r⟩;exact⟨f',aw,b6,ρ',q,p,rfl,n,g1,j,r⟩
def ub.seq[bH](aa:ub P x f h K')(M:∀f' aw,K' .normal f' aw->ub P y f' aw K)(aH:∀e f' aw,e≠.normal->K' e f' aw->K e f' aw):ub P (.seq x y) f h K:=by
 refine λa ρ W w J b g=>wp_seq (wp_mono (aa a ρ W w J b g) ?_);rintro e A W' ⟨f',aw,b6,ρ',r,q,rfl,b1,n,j,s⟩;cases e with
 | normal =>
  refine wp_mono (M f' aw r b6 ρ' W' q j b1 n) ?_;rintro e A O ⟨f2,I,N,v,E,z,rfl,C,D,t,u⟩;exact⟨f2,I,N,v,E,z,rfl,C,D,t,s.trans u⟩
 | _=>exact⟨f',aw,b6,ρ',aH _ _ _ aF r,q,rfl,b1,n,j,s⟩
end
def db.aau{G h J q dD ρ ρ' W W'}(v:db G h ρ W)(ez:db G J ρ' W')(r:Ext h J ρ ρ' W W')(ak:h.n<=q.n)(t:∀i,i<h.n->dD i=i)(O:∀i b,q.m i=some b->i<q.n)(M:∀i b,q.m i=some b->∀u∈b.cells,bw q.n u)(hm:∀i b,q.m i=some b->J.m (dD i)=some (oo dD b))(D:∀i b,q.m i=some b->h.n<=i->df<=h.n->df<=dD i)(E:∀i j b c,q.m i=some b->q.m j=some c->dD i=dD j->i=j):db G q (Eo dD ρ') W'/\Ext h q ρ (Eo dD ρ') W W':=by
 have uA:∀i b,q.m i=some b->df<=i->df<=dD i:=λi b I s=>by
  by_cases ag:i<h.n
  .rw[t i ag];exact s
  .exact D i b I U v.kk
 refine⟨⟨λi b I=>?_,O,λi j b c s I aB e=>E i j b c I aB (ez.inj _ _ _ _ (uA i b I s) (hm i b I) (hm j c aB) e),M,λg bf=>?_,bx v.kk ak,v.nx⟩,⟨λi ag=>?_,ak,r.l8,r.size,λi b s I ao=>r.fC (dD i) _ (uA i b I s) (hm i b I) ao,r.tape,r.os,r.output,λi b ag I=>?_⟩⟩
 .have em:(oo dD b).cells.map (bP ρ')=b.cells.map (bP (Eo dD ρ')):=by
   simp only[oo,Gw];exact j5 λu _=>(acM dD ρ') u
  exact aj8
 .show ρ'.bJ (dD g)=g/\ρ'.fO (dD g)=0;rw[t g (eQ bf v.kF)];exact ez.fu g bf
 .show ρ'.bJ (dD i)=_/\ρ'.cap (dD i)=_/\ρ'.fO (dD i)=_;rw[t i ag];exact r.hU i ag
 .have C:=hm i b I;rw[t i ag] at C;have⟨c,N,A,z⟩:=r.pq i _ ag C;rw[(by simp[oo]:(oo dD b).cells.size=b.cells.size)] at A z;exact⟨c,N,A,z⟩
structure aQJ(h J ab:aV)(v1 v2:Value)(dD:Nat->Nat):Prop where
 cx:∀i,i<h.n->dD i=i
 aI:∀i b,ab.m i=some b->J.m (dD i)=some (oo dD b)
 fC:∀i b,ab.m i=some b->h.n<=i->df<=h.n->df<=dD i
 inj:∀i j b c,ab.m i=some b->ab.m j=some c->dD i=dD j->i=j
 val:v1=sub dD v2
def bc.introN{g fn c args}{al:Nat}{h j q Q}(U:P.funcs[g]?=some fn)(I:fn.body=some c)(aS:fn.ntmps=al)(ak:Nat.ble args.length al=true)(aC:Sat P h->h.n<=j.n/\bw j.n q/\∀i b,j.m i=some b->i<j.n/\∀u∈b.cells,bw j.n u)(O:∀vs aw,aw.WF->Sat P h->Sat P aw.a6->Q vs aw->∃C,aQJ h aw.a6 j (fp vs) q C)(hw:Sat P h->ub P c ⟨vf 0 args,al⟩ (aY.of h) (vZ P fn Q)):bc P g ⟨args⟩ h q j:=by
 subst aS;intro R ρ W M;have s:Sat P h:=⟨ρ,W,M⟩;have fv:=s.a6;refine calls_of_wp U I ?_;rw[<-amR];refine wp_mono (hw s (uI fn ⟨args⟩) ρ W s.wf Mr (by rw[fv];exact MC R) (PK (qT.1 ak))) ?_;rintro e A W' ⟨f',aw,b6,ρ',k,w,rfl,b',N,z,E⟩;rw[fv] at E;have D:∀vs,ru P f'.l aw fn.results.toList vs->Q vs aw->(eU ρ' b6).defers=[]/\∃v,(results fn (eU ρ' b6).tmps).run P W'=.ok v W'/\∃t,Ending.returned v=Ending.returned (bP t q)/\bw j.n q/\db P.globals.size j t W'/\Ext h j ρ t W W':=by
  intro vs aM V;have⟨C,r⟩:=O vs aw w s ⟨ρ',W',z⟩ V;have⟨g1,g2,g3⟩:=aC s;have⟨T,S⟩:=M.aau z E g1 r.cx (λi b I=>(g3 i b I).1) (λi b I=>(g3 i b I).2) r.aI r.fC r.inj;refine⟨by simp[eU,show b6.defers=[] from N.defers],_,aM.is w N ρ' W' z,_,?_,g2,T,S⟩;rw[r.val,acM]
 cases e with
 | ret=>have⟨vs,J,j⟩:=k;exact D vs J j
 | normal=>have⟨vs,J,j⟩:=k;exact D vs J j
 | _=>exact k.elim
variable{o:Oper}
section
variable{ev:Operand->Value}{h:aV}
def aJZ{t x i off blk g}[b:fm P t i off](aH:o.op=.fieldAddr t x i)(aa:ev x=.pointer (some ⟨blk,g,none⟩)):bE P o ev h (.pointer (some ⟨blk,g+off,none⟩)) h:=by
 have J:=b.eq;unfold aan at J;split at J
 .rename_i n hu;split at J
  .rename_i f b;split at J
   .rename_i j ag;cases a7:Nat.beq j.size 0 with
    | true=>rw[a7] at J;cases J
    | false =>
     rw[a7] at J;simp only[cond_false,dh] at J;have:=bE.fieldAddr (P:=P) (h:=h) aH hu b ag (λe=>abU) aa;rw[J,add_eq] at this;cases I:Nat.beq off 0 with
     | true=>have:=mu I;subst this;rw[I] at *;exact dm
     | false=>rw[I] at this;exact dm
   .cases J
  .cases J
 .cases J
def aJ1{t x blk off cs e v}[hu:kX P t](aH:o.op=.load t x)(aa:ev x=.pointer (some ⟨blk,off,none⟩))(I:h.m blk=some ⟨⟨cs⟩,e⟩)(aE:cs[off]?=some v):bE P o ev h v h:=by
 have J:=hu.eq;cases aS:P.underlying t with
 | none=>rw[aS] at J;cases J
 | some b =>
  rw[aS] at J;simp only[iW,dh] at J;exact bE.G6 (P:=P) aH aS J aa rfl I lL
def aJL{t z}[b:iY P t z](aH:o.op=.alloc t):bE P o ev h (.pointer (some ⟨h.n,0,none⟩)) (h.push ⟨⟨ei z⟩,t⟩):=by
 have J:=b.eq;cases ag:P.info? t with
 | none=>rw[ag] at J;cases J
 | some e =>
  rw[ag] at J;have:=bE.alloc (P:=P) (ev:=ev) (h:=h) aH ag (show e.zero=some z from J) (tx b.dU) b.aam;rw[sy] at this;exact dm
def aJN{t x y blk off size cs e v}[hu:e4 P t size](aH:o.op=.store t x y)(aa:ev x=.pointer (some ⟨blk,off,none⟩))(g:ev y=v)(I:h.m blk=some ⟨⟨cs⟩,e⟩)(j:df<=blk)(ak:off+size<=cs.length)(s:(ei v).length=size)(n:(ei v).all (·.oneCell')=true):bE P o ev h undef (h.set blk ⟨⟨eB cs off (ei v)⟩,e⟩):=by
 have ab:=hu.eq;cases b:P.info? t with
 | none=>rw[b] at ab;cases ab
 | some q =>
  rw[b] at ab;have r:q.size=size:=tn;subst r;have:=bE.store (P:=P) aH b aa rfl j I (by rwa[g,sy]) (by rw[g];unfold Vx;rw[sy];simpa using n) yI;rw[g] at this;simp only[PI,sy] at this;exact dm
end
section
variable{l:List Nat}
def auv[bH]{i o Q A W}(aH:an[i]?=some o)(bf:o.guard=none)(hw:o.wp P A W (wpOps P an Q l) Q):wpOps P an Q (i::l) A W:=by
 rw[wpOps,aH];have:Region.wanted o (yielded an A.tmps)=true:=by unfold Region.wanted;rw[bf]
 simp only[this,kB];exact .inl hw
def auu[bH]{i o Q A W W' v}(aH:an[i]?=some o)(bf:o.guard=none)(aM:(execOp A.eval o).run P W=.ok (.value v) W')(hw:wpOps P an Q l (A.put o.dst v) W'):wpOps P an Q (i::l) A W:=by
 refine auv aH bf ?_;unfold Oper.wp;rwa[aM]
end
def ub.auP[bH]{c f' aw F al K}(oN:f'.al=al)(e:tr f'.l F)(hw:∀B,fG (P:=P) aw B->Sat P B->ub P c ⟨F,al⟩ (aY.of B) K):ub P c f' aw K:=by
 intro a ρ W w aH b g;have s:Sat P aw.a6:=⟨ρ,W,aH⟩;have fv:=s.a6;have:=hw _ (fG.of w s) s a ρ W s.wf Mr Mr (g.sC VS λt v aE=>e.get t v aE);rw[fv] at this;exact dm
def xh(H:aV)(n:Nat):aV:=⟨λi=>if i<n then H.m i else none,n⟩
def xo(k k':Nat)(e:Nat->Bool):fZ:={eG:=true,dH:=List.range k,k:=k,k':=k',w:=List.range k,fz:=false,nv:=none,cn:=none,lY:=some e}
def ayu(k k':Nat)(e:Nat->Bool)(fe:Option (Nat×Nat×Value)):fZ:={xo k k' e with fe:=fe}
def aaB{n0 π k k' id e}(h:id<n0\/(e8 π k' id).isSome=true):eu n0 π (xo k k' e) id=false:=by
 have:=aaz (k:=k) h;unfold eu wx at this;unfold eu xo;exact dm
def ajq{n0 π k k' id e}:fH n0 π (xo k k' e) id=true↔(id<n0/\e id=true)\/(¬id<n0/\(e8 π k' id).isSome=true):=by
 have:=ajp (n0:=n0) (π:=π) (k:=k) (k':=k') (id:=id);unfold fH wx at this;unfold fH xo;by_cases b:id<n0
 .simp[b]
 .simp only[b,jE,not_false_eq_true,P0,Uy,false_or] at this|-;exact dm
def aQK{b}:∀{rs:List fZ},(∀x∈rs,(x.lY=none\/x.lY=some λid=>!(id==b))/\(x.bO=none\/x.bO=some λid=>id==b))->∀x∈rs,∀y∈rs,BO x y:=by
 intro rs h x aa y n e q he g id ag;rcases(h x aa).1 with J|J
 .rw[J] at he;cases he
 .rw[J] at he;injection he with he;subst he;rcases(h y n).2 with j|j
  .rw[j] at g;cases g
  .rw[j] at g;injection g with g;subst g;simpa using ag
def ayv(b:Nat):List fZ->Prop
 | []=>True
 | r::rs=>(r.lY=none\/r.lY=some λid=>!(id==b))/\(r.bO=none\/r.bO=some λid=>id==b)/\ayv b rs
def aKE{b}:∀{rs:List fZ},ayv b rs->∀x∈rs,∀y∈rs,BO x y:=by
 intro rs h;refine aQK (b:=b) ?_;induction rs with
 | nil=>intro x aa;cases aa
 | cons r rs g =>
  intro x aa;rcases dI.1 aa with e|e
  .subst e;exact⟨h.1,h.2.1⟩
  .exact g h.2.2 x e
def ad.aQL[bH]{an rs f h K}(hm:P.follows .mixedOrders=true)L(eM:Ud P an=some L)(bh:Ue rs.reverse L)(u:∀x∈rs,∀y∈rs,BO x y)(aj:K f h)(s:Gi rs=true:=by rfl):ad P an true rs [] f h K:=by
 refine ad.ah9 hm (λ_=>?_) (λ_=>u) aj s;unfold Ud at eM;unfold L0;cases q:MT P an with
 | none=>rw[q] at eM;cases eM
 | some l =>
  rw[q] at eM;simp only[dh] at eM|-;refine ayr λj y m aN v=>ayq λi x aa I=>?_;rw[ff] at aa I;have ag:i<j:=by
   have:=(cS.1 aa).1;simp at this;omega
  rw[tl,au ag] at aa;have:=ayp (j0:=0) v U I;rw[ff,eM] at this;exact ays bh this x y aa aN
section
variable{l:List Oper}{K:Fr->aY->Prop}{d:Tmp}
def ad.aQM[bH]{h g0 xs ts vs}e fe[bf:cY P g0](hw:cw an ⟨some d,.call {callee:=.value (.func g0),args:=xs,argTypes:=ts},ty,pos,af,gd⟩ ⟨ay,al⟩=some true)(aq:Nat.blt d al=true)(aa:pS ay al xs.toList=some vs)(aS:∀C,h.a6=C->fG (P:=P) h C->∃Q,dw P g0 vs C Q/\(∀v H',Q v H'->∀i,i<h.bD.n->e i=false->H'.m i=C.m i)/\(∀v H',Q v H'->Sat P H'->C.n<=H'.n->∀q,fe=some q->xP H' q.1 q.2.1 q.2.2)/\
  ∀v H' k' S,Q v H'->Sat P H'->C.n<=H'.n->(∀i c,i<C.n->H'.m i=some c->∃R,C.m i=some R)->({bD:=xh H' h.bD.n,π:=h.π,k:=k',l:=S}:aY).a6=H'->({bD:=xh H' h.bD.n,π:=h.π,k:=k',l:=S}:aY).WF->h.k<=k'->ad P an bg (ayu h.k k' e fe::rs) l ⟨(d,v)::ay,al⟩ {bD:=xh H' h.bD.n,π:=h.π,k:=k',l:=S} K):
 ad P an bg rs (⟨some d,.call {callee:=.value (.func g0),args:=xs,argTypes:=ts},ty,pos,af,gd⟩::l) ⟨ay,al⟩ h K:=by
 refine ad.ayo hw aq λa g w s b aj=>?_;have⟨Q,he,eC,r4,aG⟩:=aS _ rfl (fG.of w s);have zt:P.globals.size<=h.a6.n:=Vo;have⟨v,H',qb,q⟩:=he s (Zi g zt b (λx kE=>aj x UP) aa);have O:=λ{a:Act} (g:gZ ⟨ay,al⟩ a)=>DL (ty:=ty) (pos:=pos) (af:=af) (gd:=gd) (d:=d) (ts:=ts) g aa qb;have M:=(bE.j9 (O g) aj s b).1;have⟨m1,m2⟩:=bE.ik (O g) aj s b;have HC:({h with bD:=xh H' h.bD.n}:aY).WF:=⟨w.up,w.bL,w.ag,w.inj,w.jC,(λi c aB=>by
  by_cases ag:i<h.bD.n
  .exact ag
  .have aB:(if i<h.bD.n then H'.m i else none)=some c:=aB;rw[ai ag] at aB;cases aB),w.nE⟩
 have T:∀i,i<h.bD.n->H'.m i=(xh H' h.bD.n).m i:=λi ag=>by
  show _=if i<h.bD.n then H'.m i else none
  rw[au ag]
 have⟨z,_,D,E⟩:=aY.part HC (H:=H') m1 (λi c ag aB=>by
  by_cases bs:i<h.bD.n
  .refine⟨c,?_⟩;show(if i<h.bD.n then(xh H' h.bD.n).m i else _)=some c;rwa[au bs,<-T i bs]
  .have⟨R,Y⟩:=m2 i c ag aB;refine⟨R,?_⟩;simp only[aY.a6] at Y|-;rw[ai bs] at Y;rwa[ai (show¬i<(xh H' h.bD.n).n from bs)]) M.aO T
 dsimp only at D E;have V:∀{id:Nat}{A:cd},H'.m id=some A->id<h.bD.n\/(e8 h.π (h.k+z) id).isSome=true:=by
  intro id A I;by_cases bs:id<h.bD.n
  .exact .inl bs
  .right;rw[<-D] at I;simp only[aY.a6] at I;rw[ai (show¬id<(xh H' h.bD.n).n from bs)] at I;cases ag:e8 h.π (h.k+z) id with
   | none=>rw[ag] at I;cases I
   | some i=>rfl
 have Ub:∀{id:Nat}{A:cd},h.a6.m id=some A->id<h.bD.n\/(e8 h.π (h.k+z) id).isSome=true:=by
  intro id A I;by_cases bs:id<h.bD.n
  .exact .inl bs
  .right;simp only[aY.a6] at I;rw[ai bs] at I;cases ag:e8 h.π h.k id with
   | none=>rw[ag] at I;cases I
   | some i =>
    have⟨g1,g2⟩:=kf ag;have:=j4 (π:=h.π) E.inj (show i<h.k+z by omega);rw[g2] at this;rw[this];rfl
 have Pe:h.a6.eO (eu h.bD.n h.π (xo h.k (h.k+z) e))=h.a6:=by
  refine aV.eq (λid=>?_) rfl;simp only[aV.eO];split
  .rename_i he;cases I:h.a6.m id with
   | none=>rfl
   | some A=>rw[aaB (Ub I)] at he;cases he
  .rfl
 have Pd:H'.eO (eu h.bD.n h.π (xo h.k (h.k+z) e))=H':=by
  refine aV.eq (λid=>?_) rfl;simp only[aV.eO];split
  .rename_i he;cases I:H'.m id with
   | none=>rfl
   | some A=>rw[aaB (V I)] at he;cases he
  .rfl
 refine⟨v,_,ayu h.k (h.k+z) e fe,⟨λ_ a g=>?_,λ_=>E,rfl,rfl,rfl,rfl,DR _ _,λ_ id he=>?_,λ_ id he=>?_,λ_ id N ak=>?_,ew,λ_ id A _ _ u _=>trivial⟩,⟨rfl,λ_ _ q aj=>by rw[D];exact r4 v H' h3 M m1 q aj⟩,aG v H' (h.k+z) _ q M m1 m2 D E (DR _ _)⟩
 .rw[D];show bE P _ a.eval (h.a6.eO (eu h.bD.n h.π (xo h.k (h.k+z) e))) v (H'.eO (eu h.bD.n h.π (xo h.k (h.k+z) e)));rw[Pe,Pd];exact O g
 .rw[D];by_cases bs:id<h.bD.n
  .refine eC v H' q id bs ?_;cases Q1:e id with
   | false=>rfl
   | true =>
    have:fH h.bD.n h.π (xo h.k (h.k+z) e) id=true:=ajq.2 (.inl ⟨bs,Q1⟩);have he:fH h.bD.n h.π (xo h.k (h.k+z) e) id=false:=he;rw[this] at he;cases he
  .have Z:¬(e8 h.π (h.k+z) id).isSome=true:=λag=>by
    have:fH h.bD.n h.π (xo h.k (h.k+z) e) id=true:=ajq.2 (.inr ⟨bs,ag⟩);have he:fH h.bD.n h.π (xo h.k (h.k+z) e) id=false:=he;rw[this] at he;cases he
   cases I:H'.m id with
   | some A =>
    rcases V I with J | J
    .exact absurd J bs
    .exact absurd J Z
   | none =>
    cases dR:h.a6.m id with
    | none=>rfl
    | some A =>
     rcases Ub dR with J | J
     .exact absurd J bs
     .exact absurd J Z
 .rcases ajq.1 he with J|J
  .exact aaB (e:=e) (.inl J.1)
  .exact aaB (e:=e) (.inr J.2)
 .rw[D];cases I:H'.m id with
  | none=>rfl
  | some A =>
   have⟨c,aB⟩:=m2 id A N I;have ak:=ak;rw[ak] at aB;cases aB
def ad.aKB[bH]{h g0 xs ts vs}e[bf:cY P g0](hw:cw an ⟨some d,.call {callee:=.value (.func g0),args:=xs,argTypes:=ts},ty,pos,af,gd⟩ ⟨ay,al⟩=some true)(aq:Nat.blt d al=true)(aa:pS ay al xs.toList=some vs)(aS:∀j,h.a6=j->fG (P:=P) h j->∃Q,dw P g0 vs j Q/\(∀v H',Q v H'->∀i,i<h.bD.n->e i=false->H'.m i=j.m i)/\
  ∀v H' k' s,Q v H'->Sat P H'->j.n<=H'.n->(∀i c,i<j.n->H'.m i=some c->∃u,j.m i=some u)->({bD:=xh H' h.bD.n,π:=h.π,k:=k',l:=s}:aY).a6=H'->({bD:=xh H' h.bD.n,π:=h.π,k:=k',l:=s}:aY).WF->h.k<=k'->ad P an bg (xo h.k k' e::rs) l ⟨(d,v)::ay,al⟩ {bD:=xh H' h.bD.n,π:=h.π,k:=k',l:=s} K):
 ad P an bg rs (⟨some d,.call {callee:=.value (.func g0),args:=xs,argTypes:=ts},ty,pos,af,gd⟩::l) ⟨ay,al⟩ h K:=by
 refine ad.aQM e none hw aq aa λj I C=>?_;have⟨Q,J,z,A⟩:=aS j I C;exact⟨Q,J,z,(λv H' _ _ _ q D=>by cases D),A⟩
end
section
variable{l:List Oper}{k:Nat}{K:Fr->aY->Prop}{d:Tmp}
end
section
variable{l:List Oper}{k:Nat}{K:Fr->aY->Prop}{d:Tmp}
def ad.aKD[bH]{an rs f h K}(hm:P.follows .mixedOrders=true)L(eM:Ud P an=some L)(bh:Ue rs.reverse L)(q:∀x∈rs,∀y∈rs,BO x y)(j:Gi rs=true)(aj:K f h):ad P an true rs [] f h K:=ad.aQL hm L eM bh q aj j
end
section
variable{l:List Oper}{k:Nat}{K:Fr->aY->Prop}{d:Tmp}
def ad.aKT[bH]{t e x y}{b off n sz m:Nat}{j}[hu:ee P t (.array n e)][aC:e4 P e sz](hw:cw an ⟨some d,.indexAddr t x y,ty,pos,af,gd⟩ ⟨ay,al⟩=some true)(aq:Nat.blt d al=true)(aa:Fr.ev ⟨ay,al⟩ x=some (.pointer (some ⟨b,off,none⟩)))(aN:Fr.ev ⟨ay,al⟩ y=some (.int j (m:Int)))(hm:m<n)(aE:b<B.n)(aj:ad P an bg (de k false [] (some [])::rs) l ⟨(d,.pointer (some ⟨b,off+m*sz,none⟩))::ay,al⟩ ⟨B,π,k,ao⟩ K):ad P an bg rs (⟨some d,.indexAddr t x y,ty,pos,af,gd⟩::l) ⟨ay,al⟩ ⟨B,π,k,ao⟩ K:=by
 have ej:=aC.eq;cases dQ:P.info? e with
 | none=>rw[dQ] at ej;cases ej
 | some cg =>
  rw[dQ] at ej;have br:cg.size=sz:=p1;subst br;refine ad.still hw aq (λa g H=>?_) (PM lL) aj;have:=bE.amE (P:=P) (o:=⟨some d,.indexAddr t x y,ty,pos,af,gd⟩) (h:=H) rfl hu.eq dQ (g.ev aa) (g.ev aN) U U;rw[ry,add_plain] at this;exact dm
end
section
variable{H:Type}{dy:TypeId×Value->H}{G:Nat}{g0:Nat->Option cd}{W:World}
def okW(l:List Nat):Prop:=∀n∈l,n<=reachBytes
def ie(dy:TypeId×Value->H)(P:Program)(W:World)(t:TypeId)(cs:List Value):Prop :=
 ∃bu x,DataW.trod dy P W 0 (λ_=>true) true bu t cs=some x/\okW (x.1.weights P t)
def ie.int{t k cs}(aS:P.underlying t=some (.int k))(h:ie dy P W t cs):∃n,cs=[.int k n]/\k.min<=n/\n<=k.max:=by
 have⟨bu,x,h,_⟩:=h;cases bu with
 | zero=>simp[DataW.trod] at h
 | succ bu =>
  unfold DataW.trod at h;rw[aS] at h;split at h<;>first|cases h|skip
  all_goals simp_all
  have⟨⟨J,ab⟩,_⟩:=h;subst J;simp[Lit.wf] at ab;exact ab
def ie.bool{t cs}(aS:P.underlying t=some .bool)(h:ie dy P W t cs):∃b,cs=[.bool b]:=by
 have⟨bu,x,h,_⟩:=h;cases bu with
 | zero=>simp[DataW.trod] at h
 | succ bu =>
  unfold DataW.trod at h;rw[aS] at h;split at h<;>first|cases h|skip
  all_goals simp_all
def ie.string{t cs}(aS:P.underlying t=some .string)(h:ie dy P W t cs):∃s:ByteArray,cs=[.string s]/\s.size<=reachBytes:=by
 have⟨bu,x,h,hw⟩:=h;cases bu with
 | zero=>simp[DataW.trod] at h
 | succ bu =>
  unfold DataW.trod at h;rw[aS] at h;split at h<;>first|cases h|skip
  all_goals simp_all
  obtain⟨_,rfl⟩:=h;simp only[DataW.weights] at hw;have:=hw _ (gU.2 rfl);simpa using this
def avt{e}:∀{l:List (DataW H)}{d:DataW H},d∈l->okW (DataW.weightsAll P e l)->okW (d.weights P e):=by
 intro l;induction l with
 | nil=>intro d h;cases h
 | cons a l b =>
  intro d h hw;rw[DataW.weightsAll] at hw;rcases dI.1 h with rfl|h
  .exact λn ak=>hw n (Uz _ ak)
  .exact b h λn ak=>hw n (aaT _ ak)
def ie.slice{t e cs}(aS:P.underlying t=some (.slice e))(I:1<=P.bytesOf e)(Y:0<P.cellsOf e)(h:ie dy P W t cs):
 cs=[.slice none 0 0]\/∃(a:Addr) (g cap:Nat) (q:List (List Value)),cs=[.slice (some a) g cap]/\g<=cap/\cap<=reachBytes/\q.length=g/\(q≠[]->a.spot=none)/\∀i c,q[i]?=some c->W.cells? 0 (a.add (i*P.cellsOf e)) (P.cellsOf e)=some c/\ie dy P W e c:=by
 have⟨bu,x,h,hw⟩:=h;rcases Go.Deep.open_slice aS h with⟨h0,_⟩|⟨a,g,cap,m,n,T,Bx,J,_,V,Z,C,O,N⟩
 .exact .inl h0
 .right;simp only[kB] at C;subst C;subst O;simp only[DataW.weights,aS] at hw;have M:m<=reachBytes:=by
   have:=hw _ (List.mem_cons_self ..);simp only[fI,List.length_range] at this;have z:g+(m-g)=m:=U;rw[z] at this;exact bx (aju _ I) this
  have A:∀i,i<g->∃c,W.cells? 0 (a.add (i*P.cellsOf e)) (P.cellsOf e)=some c/\ie dy P W e c:=by
   intro i ag;have⟨c,cB,cy⟩:=N i U;refine⟨c,cB,n,_,cy,?_⟩;refine avt (ih.2 ⟨i,PU.2 ag,rfl⟩) λn ak=>hw n ?_;exact IT _ (Uz _ ak)
  have r:∀k,k<=g->∃q:List (List Value),q.length=k/\∀i c,q[i]?=some c->W.cells? 0 (a.add (i*P.cellsOf e)) (P.cellsOf e)=some c/\ie dy P W e c:=by
   intro k;induction k with
   | zero=>exact λ_=>⟨[],rfl,λi c h=>p2⟩
   | succ k aP =>
    intro aj;have⟨q,cB,cy⟩:=aP U;have⟨c,Q⟩:=A k U;refine⟨q++[c],by simp[cB],λi R h=>?_⟩;by_cases ag:i<q.length
    .rw[ur ag] at h;exact cy i R h
    .rw[oI U] at h;cases D:i-q.length with
     | zero =>
      rw[D] at h;simp at h;have:i=k:=U;subst this;subst h;exact Q
     | succ j=>rw[D] at h;simp at h
  have⟨q,cB,cy⟩:=r g (b4 _);refine⟨a,g,m,q,J,V,M,cB,λS=>?_,cy⟩;cases q with
  | nil=>exact absurd rfl S
  | cons c q =>
   have z:=(cy 0 c rfl).1;have E:=ajj z;have u:=E.2 0 _ (ey (by rwa[E.1]));unfold World.cell? at u;have:(a.add (0*P.cellsOf e)).add 0=a:=by simp[Addr.add]
   rw[this] at u;split at u
   .cases aC:a.spot with
    | none=>rfl
    | some s=>rw[aC] at u;simp at u
   .cases u
def ie.struct{t cJ cs}(aS:P.underlying t=some (.struct cJ))(h:ie dy P W t cs):cs.length=P.cellsOf t/\∀f∈cJ.toList,ie dy P W f.type ((cs.drop f.offset).take (P.cellsOf f.type)):=by
 have⟨bu,x,h,hw⟩:=h;cases bu with
 | zero=>simp[DataW.trod] at h
 | succ bu =>
  unfold DataW.trod at h;rw[aS] at h;have aw:(if cs.length=P.cellsOf t then(cJ.toList.mapM λf=>DataW.trod dy P W 0 (λ_=>true) true bu f.type ((cs.drop f.offset).take (P.cellsOf f.type))).map λxs=>((DataW.agg (xs.map (·.1)):DataW H),xs.flatMap (·.2)) else none)=some x:=by
   split at h<;>first|exact h|simp_all;done
  split at aw
  .rename_i ao;refine⟨ao,?_⟩;have⟨xs,xH,aa⟩:=GB.1 aw;subst aa;simp only[DataW.weights,aS] at hw;have key:∀(l:List Field) (xs:List (DataW H×List MemPlace)),l.mapM (λf=>DataW.trod dy P W 0 (λ_=>true) true bu f.type ((cs.drop f.offset).take (P.cellsOf f.type)))=some xs->okW (DataW.weightsEach P (l.map (·.type)) (xs.map (·.1)))->∀f∈l,ie dy P W f.type ((cs.drop f.offset).take (P.cellsOf f.type)):=by
    intro l;induction l with
    | nil=>intro xs _ _ f ar;cases ar
    | cons g l aP =>
     intro xs hm aj f ar;rw[aaN] at hm;cases J:DataW.trod dy P W 0 (λ_=>true) true bu g.type ((cs.drop g.offset).take (P.cellsOf g.type)) with
     | none=>rw[J] at hm;cases hm
     | some y =>
      rw[J] at hm;cases ab:l.mapM (λf=>DataW.trod dy P W 0 (λ_=>true) true bu f.type ((cs.drop f.offset).take (P.cellsOf f.type))) with
      | none=>rw[ab] at hm;cases hm
      | some kN =>
       rw[ab] at hm;simp only[bind,Option.bind,pure] at hm;injection hm with hm;subst hm;simp only[gg,DataW.weightsEach] at aj;rcases dI.1 ar with rfl|ar
       .exact⟨bu,y,J,λn ak=>aj n (Uz _ ak)⟩
       .exact aP kN ab (λn ak=>aj n (aaT _ ak)) f ar
   exact key cJ.toList xs xH hw
  .cases aw
def fieldsOf(P:Program)(t:TypeId):Option (List (TypeId×Nat×Nat)):=match P.underlying t with
 | some (.struct cJ)=>some (cJ.toList.map λf=>(f.type,f.offset,P.cellsOf f.type))
 | _=>none
def ie.uH{t l n cs}(ao:fieldsOf P t=some l)(ak:P.cellsOf t=n)(h:ie dy P W t cs):cs.length=n/\∀x∈l,ie dy P W x.1 ((cs.drop x.2.1).take x.2.2):=by
 unfold fieldsOf at ao;split at ao
 .rename_i cJ aS;have⟨J,ab⟩:=h.struct aS;simp only[dh] at ao;subst ao;refine⟨J.trans ak,λx aa=>?_⟩;obtain⟨f,ar,rfl⟩:=ih.1 aa;exact ab f ar
 .cases ao
def D.int{t k cs}(aS:P.underlying t=some (.int k))(h:ie dy P W t cs):D G g0 W cs 0 (λ_ eJ=>∃n,eJ=[.int k n]/\k.min<=n/\n<=k.max):=by
 obtain⟨n,rfl,J,ab⟩:=h.int aS;exact(D.km aF).mono (b4 _) λH eJ _ e=>⟨n,e,J,ab⟩
def D.bool{t cs}(aS:P.underlying t=some .bool)(h:ie dy P W t cs):D G g0 W cs 0 (λ_ eJ=>∃b,eJ=[.bool b]):=by
 obtain⟨b,rfl⟩:=h.bool aS;exact(D.km aF).mono (b4 _) λH eJ _ e=>⟨b,e⟩
def D.string{t cs}(aS:P.underlying t=some .string)(h:ie dy P W t cs):D G g0 W cs 0 (λ_ eJ=>∃s:ByteArray,eJ=[.string s]/\s.size<=reachBytes):=by
 obtain⟨b,rfl,I⟩:=h.string aS;exact(D.km aF).mono (b4 _) λH eJ _ e=>⟨b,e,I⟩
def D.row{t e w N kO cs}(u:qB kO)(aS:P.underlying t=some (.slice e))(hw:P.cellsOf e=w)(o2:0<w)(I:1<=P.bytesOf e)(he:∀c,ie dy P W e c->D G g0 W c N kO)(h:ie dy P W t cs):D G g0 W cs (reachBytes*N+1) (mS w reachBytes kO):=by
 subst hw;rcases h.slice aS I o2 with rfl|⟨a,len,cap,gT,rfl,J,ab,aK,br,cz⟩
 .exact D.MN.mono (dG _) λ_ _ _ h=>h
 .refine(D.slice u o2 aK (λc aB=>?_) (λi c aB=>(cz i c aB).1) J (Nat.lt_of_le_of_lt ab bo) (bx J ab) br).mono (Nat.succ_le_succ (I2 _ (bx J ab))) λ_ _ _ h=>h;have⟨i,ag⟩:=nO.1 aB;exact he c (cz i c ag).2
def Ah(G:Nat)(g0:Nat->Option cd)(W:World)(cs:List Value):Nat->List (Nat×Nat×(aV->List Value->Prop))->Prop
 | off,[]=>cs.length=off
 | off,(w,N,kO)::l=>qB kO/\D G g0 W ((cs.drop off).take w) N kO/\Ah G g0 W cs (off+w) l
def ayw:List (Nat×Nat×(aV->List Value->Prop))->aV->List Value->Prop
 | [],_,eJ=>eJ=[]
 | (_,_,kO)::l,H,eJ=>∃ch a2,eJ=ch++a2/\kO H ch/\ayw l H a2
def Qn:List (Nat×Nat×(aV->List Value->Prop))->Nat
 | []=>0
 | (_,N,_)::l=>N+Qn l
def Ah.d{cs}:∀{l:List (Nat×Nat×(aV->List Value->Prop))}{off:Nat},Ah G g0 W cs off l->D G g0 W (cs.drop off) (Qn l) (ayw l):=by
 intro l;induction l with
 | nil =>
  intro off h;have h:cs.length=off:=h;rw[np U];exact(D.km (λv aE=>by cases aE)).mono (b4 _) λ_ _ _ e=>e
 | cons x l g =>
  have⟨w,N,kO⟩:=x;intro off h;have⟨u,d,h⟩:=h;have:=D.append u d (g h);rw[<-xt,GC] at this;exact dm
end
abbrev cV(b:Nat):Option Addr:=some ⟨b,0,none⟩
abbrev cE(b:Nat):Value:=.pointer (some ⟨b,0,none⟩)
abbrev bm(n:Int):Value:=.int .i64 n
abbrev bS(l:List Value)(e:TypeId):Option cd:=some ⟨⟨l⟩,e⟩
def cR{α}(l:List α)(i:Nat)(h:i<l.length):∃x,l[i]?=some x:=⟨_,ey h⟩
def ld{α}(a:α):∃x,a=x:=⟨_,rfl⟩
def dt{P ay h t v}(e:oF ay t=some v):ru P ay h [.tmp t] [v]:=.cons (.tmp e) .nil
def dw.i{P g fn args}{al:Nat}{h Q}(e:P.funcs[g]?=some fn)(aS:fn.ntmps=al)(hw:∀π:Nat->Nat,Sat P h->W P (fn.body.getD .skip) ⟨vf 0 args,al⟩ ⟨h,π,0,[]⟩ (vZ P fn λvs aw=>∀b,fG (P:=P) aw b->Q (fp vs) b))(I:fn.body=some (fn.body.getD .skip):=by kernel_rfl)(ak:Nat.ble args.length al=true:=by kernel_rfl):dw P g args h Q:=dw.intro e I aS ak hw
def bc.jT{P g fn args v}{al:Nat}{h}(b:P.funcs[g]?=some fn)(aS:fn.ntmps=al)(hw:W P (fn.body.getD .skip) ⟨vf 0 args,al⟩ (aY.of h) (vZ P fn λvs aw=>aw.bD=h/\fp vs=v))(I:fn.body=some (fn.body.getD .skip):=by kernel_rfl)(ak:Nat.ble args.length al=true:=by kernel_rfl)(aE:bw 0 v:=by simp):bc P g ⟨args⟩ h v h:=bc.still b I aS ak aE hw
def bc.rX{P g fn args}{al:Nat}{h e v}(p:P.funcs[g]?=some fn)(aS:fn.ntmps=al)(aC:Sat P h->h.n<=e.n/\bw e.n v/\∀i b,e.m i=some b->i<e.n/\∀u∈b.cells,bw e.n u)(hw:∀π:Nat->Nat,Sat P h->W P (fn.body.getD .skip) ⟨vf 0 args,al⟩ ⟨h,π,0,[]⟩ (vZ P fn λvs aw=>∀j,fG (P:=P) aw j->fp vs=v/\∀i b,e.m i=some b->j.m i=some b))(I:fn.body=some (fn.body.getD .skip):=by kernel_rfl)(ak:Nat.ble args.length al=true:=by kernel_rfl):bc P g ⟨args⟩ h v e:=bc.exact p I aS ak aC hw
def gR.i{P g fn}{al:Nat}{B b fe args L eX v}(r:P.funcs[g]?=some fn)(q:fn.ntmps=al)(j:∀π,Ua (L π) fe)(e:zy B.n b eX b)(aE:bw 0 v)(hw:∀π,W P (fn.body.getD .skip) ⟨vf 0 (args π),al⟩ ⟨B,π,b,L π⟩ (vZ P fn (ss B π b fe eX v)))(I:fn.body=some (fn.body.getD .skip):=by kernel_rfl)(p:∀π,Nat.ble (args π).length al=true:=by exact λπ=>by kernel_rfl):gR P g B b fe args L v eX:=gR.intro r I q p j e aE hw
def ku.i{P g fn}{al:Nat}{B b d args L eX v}(q:P.funcs[g]?=some fn)(p:fn.ntmps=al)(e:zy B.n (b+d) eX (b+d))(r:ae9 B.n (b+d) v)(hw:∀π,W P (fn.body.getD .skip) ⟨vf 0 (args π),al⟩ ⟨B,π,b,L π⟩ (vZ P fn (xw B π b d eX v)))(I:fn.body=some (fn.body.getD .skip):=by kernel_rfl)(j:∀π,Nat.ble (args π).length al=true:=by exact λπ=>by kernel_rfl):ku P g B b d args L v eX:=ku.intro q I p j e r hw
end Go.AH
