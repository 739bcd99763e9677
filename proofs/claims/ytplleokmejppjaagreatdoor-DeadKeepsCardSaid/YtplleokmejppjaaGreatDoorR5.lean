/- Contracts of functions that the law reaches -/
import Derived.Test.YtplleokmejppjaaGreatDoorR4
set_option linter.all false
set_option maxHeartbeats 9999999
set_option maxRecDepth 100000
namespace Go.Proofs.YtplleokmejppjaaGreatDoor
open Go.Proofs.Tryz
open Go.AH
section
attribute[local irreducible] W ad
def uW(p:fX)(f:dp)(b:bT):Bool:=b.ah.all (iH p f)&&lU f b.av
def p5(p:fX)(f:dp):Bool:=decide (0<=f.params)&&decide (f.params<=f.ae)&&decide (f.params<=6)&&decide ((f.hO:Int)=f.params)&&decide (0<f.blocks.length)&&f.blocks.all (uW p f)
def gy(p:fX):Bool:=decide (lF p p.fA=some 0)&&decide (0<=p.data)&&decide (p.data<=32768)&&p.globals.all (sX p)&&p.funcs.all (p5 p)
def Cd{p}(h:gy p=false):(if gy p=true then(0:Int) else 50)=50:=by rw[h];rfl
def aL0{p}(h:gy p=true):(if gy p=true then(0:Int) else 50)=0:=by rw[h];rfl
def nH.up{h H}(hu:∀i b,h.m i=some b->H.m i=some b){f p c d e j g}(r:nH h f p c d e j g):nH H f p c d e j g :=
 ⟨hu _ _ r.m,r.cJ.mono hu λ_ _ a=>Rf hu a,r.gs.mono hu λ_ _ a=>AP hu a⟩
def Dx.up{h H}(hu:∀i b,h.m i=some b->H.m i=some b){p l f g d k n q o e j}(r:Dx h p l f g d k n q o e j):Dx H p l f g d k n q o e j :=
 ⟨hu _ _ r.m,r.c,r.gK.mono hu λ_ _ a=>a,r.bl.mono hu λ_ _ a=>zP hu a⟩
def UU p(V:p.ok)(mZ:∀f∈p.funcs,∀b∈f.blocks,∀x∈b.ah,x.args.length<=1000000000) B eV cK d1 cM d2 h(bh:nH h B p eV cK d1 cM d2):
 bc prog 13 ⟨[.pointer (some ⟨B,0,none⟩)]⟩ h (.int .i64 (if gy p=true then 0 else 50)) h:=by
 refine bc.aO λaq=>?_;have CB:=aq _ _ bh.m;by_cases aM:0<=p.fA/\p.fA<p.funcs.length
 .obtain⟨N,G⟩:=cR p.funcs p.fA.toNat U;obtain⟨E,Z,aSQ,acK,rfl,e9,Zp,F8⟩:=bh.cJ.get _ N G;have p4:=aq _ _ e9;obtain⟨apQ,bY,apR,dk,ad7,eD,ahz,_,_⟩:=F8;have NJ:=ka (j:=1) ahz rfl;have O:lF p p.fA=some N.params:=by unfold lF;rw[au aM.1,G];rfl
  have wR:=V.Xx;have aBd:=V.Xy;refine bc.jT func13 ntmps13 ?_;conv=>arg 2;whnf
  repeat'(first|refine Xs ?_|(apply ad.dv;rfl;rfl;rfl;first|exact bh.m;exact CB;rfl|exact e9;exact p4;exact NJ)|refine apj ?_|refine kJ ?_|refine vx ?_|refine A0 ?_|refine hW ?_|refine JZ ?_|refine fy ?_|(refine c7 ?_ ?_)<;>intro _)
  rotate_left 3
  .rename_i vt AM ahL;have ml:N.params=0:=by simpa using vt
   have aL1:0<=p.data/\p.data<=1000000000:=U;have Y:gy p=(p.globals.all (sX p)&&p.funcs.all (p5 p)):=by
    unfold gy;rw[O,ml,qE rfl,qE (U:0<=p.data),qE (U:p.data<=32768)];simp
   refine W.avC (X:=Unit) (λπ x=>[(0,cE B)]) (λ_=>h) (λπ x=>[]) (λx=>p.globals.all (sX p)=true) 0 ?_ ?_
   .refine W.loop (X:=Nat) (λπ i=>[(0,cE B),(61,.slice cM p.globals.length d2),(62,bm p.globals.length),(63,bm i)]) (λ_=>h) (λπ i=>[]) (λi=>i<=p.globals.length/\p.globals.all (sX p)=(p.globals.drop i).all (sX p)) (λi=>p.globals.length-i) [] 0 ⟨dG _,rfl⟩ kh ?_;intro π i u;obtain⟨ag,u⟩:=u;dsimp only at ag u|-;by_cases bs:i<p.globals.length
    .obtain⟨g,bf⟩:=cR p.globals i bs;obtain⟨fL,go,pB,ge,rfl,cQ,n5,lz⟩:=bh.gs.get i g bf;have mD:=aq _ _ cQ;obtain⟨R,Q,lz,ad2⟩:=lz;have ER:=V.Xz g (bQ bf);have zt:=ER.apD;have aL2:∀x∈g.dn,b8 x.n/\x.data.length<=1000000000000000:=λx aa=>⟨(ER.dn x aa).n,by have:=(ER.dn x aa).apH;omega⟩;rw[Kd bf] at u;repeat'(first|refine AY ?_|apply ad.lT true [];rfl;rfl;rfl;exact λH b7=>aLZ p g B eV _ d1 _ d2 _ _ H (pk b7 aq _ _ bh.m) (ad2.mono (pk b7 aq) λ_ _ b5=>afH (pk b7 aq) b5) U aL1 aL2;exact hS|refine W9 ?_|refine la ?_|refine RF ?_|refine c8 ?_|refine aop ?_|refine fy ?_|(refine c7 ?_ ?_)<;>intro _)
     .refine cf _ (dt rfl) ⟨rfl,?_⟩;have s:sX p g=false:=by simpa using ‹(!sX p g)=true›
      rw[s,DU] at u;rw[Cd (by rw[Y,u,DU])];rfl
     .have s:sX p g=true:=by simpa using ‹(!sX p g)=false›
      rw[s,uk] at u;exact mW (i+1) [] rfl rfl ⟨U,u⟩ U kh
    .repeat(first|refine nD ?_|(with_reducible first|apply W.seq|apply W.exit|apply fr|apply mC|apply Rg)|refine lC ?_)
     rw[np U] at u;exact avD () [] rfl rfl u kh
   .intro π x oX;rw[oX,uk] at Y;repeat(first|refine Xa ?_|refine wG ?_|refine mc ?_)
    refine W.loop (X:=Nat) (λπ i=>[(0,cE B),(76,bm p.funcs.length),(77,bm i)]) (λ_=>h) (λπ i=>[]) (λi=>i<=p.funcs.length/\p.funcs.all (p5 p)=(p.funcs.drop i).all (p5 p)) (λi=>p.funcs.length-i) [] 0 ⟨dG _,rfl⟩ kh ?_;intro π i u;obtain⟨ag,u⟩:=u;dsimp only at ag u|-;by_cases bs:i<p.funcs.length
    .obtain⟨f,T⟩:=cR p.funcs i bs;obtain⟨aR,bR,dS,fk,D,S,uz,ks⟩:=bh.cJ.get i f T;injection D with D;injection D with aL3 aL4;subst aL3;subst aL4;have gh:=aq _ _ S;obtain⟨jS,aW,jk,aT,jK,F,ks,ad3,XB⟩:=ks;have C:Dx h E (Z+i*6) f dS fk jS aW jk aT jK F:=⟨S,λj v aE=>ka ks aE,ad3,XB⟩;have G:=V.funcs f (bQ T);have vB:=G.XC;rw[Kd T] at u;have Vl:p5 p f=false->gy p=false:=λs=>by rw[s,DU] at u;rw[Y,u]
     repeat'(first|refine Xa ?_|refine er ?_|apply ad.dv;rfl;rfl;rfl;exact S;exact gh;(first|exact C.c 1 _ rfl|exact C.c 2 _ rfl|exact C.c 3 _ rfl|exact C.c 5 _ rfl)|refine kJ ?_|refine zo ?_|refine k7 ?_|refine hW ?_|refine WV ?_|refine fy ?_|(refine c7 ?_ ?_)<;>intro _)
     rotate_left 5
     .rename_i v1 v2 v3 v4 v5;have aL5:(f.hO:Int)=f.params:=by simpa using v4
      have M:p5 p f=f.blocks.all (uW p f):=by
       unfold p5;rw[qE (U:0<=f.params),qE (U:f.params<=f.ae),qE (U:f.params<=6),qE aL5,qE (U:0<f.blocks.length)];simp
      refine W.loop (X:=Nat) (λπ j=>[(0,cE B),(76,bm p.funcs.length),(77,bm i),(6,.pointer (some ⟨E,Z+i*6,none⟩)),(132,.slice jK f.blocks.length F),(133,bm f.blocks.length),(134,bm j)]) (λ_=>h) (λπ j=>[]) (λj=>j<=f.blocks.length/\f.blocks.all (uW p f)=(f.blocks.drop j).all (uW p f)) (λj=>f.blocks.length-j) [] 0 ⟨dG _,rfl⟩ kh ?_;intro π j A;obtain⟨aA,A⟩:=A;dsimp only at aA A|-;by_cases Hu:j<f.blocks.length
      .obtain⟨b,I⟩:=cR f.blocks j Hu;obtain⟨aL,nE,XE,be,rfl,cF,EE,uR⟩:=XB.get j b I;have k8:=aq _ _ cF;obtain⟨R,Q,uR,RG⟩:=uR;have dZ:=G.blocks b (bQ I);have rT:=dZ.n;rw[Kd I] at A;have L:uW p f b=false->gy p=false:=λs=>by rw[s,DU] at A;exact Vl (by rw[M,A])
       repeat(first|refine er ?_|refine W6 ?_|refine vv ?_|refine iR ?_|refine q0 ?_|refine c8 ?_|refine zf ?_|refine fy ?_)
       refine W.avC (X:=Unit) (λπ _=>[(0,cE B),(76,bm p.funcs.length),(77,bm i),(6,.pointer (some ⟨E,Z+i*6,none⟩)),(132,.slice (some ⟨aL,nE,none⟩) f.blocks.length F),(133,bm f.blocks.length),(134,bm j),(8,cE (π 0))]) (λ_=>h) (λπ _=>[(0,bS (kq b R Q) 48)]) (λ_=>b.ah.all (iH p f)=true) 1 ?_ ?_
       .refine W.loop (X:=Nat) (λπ k=>[(0,cE B),(76,bm p.funcs.length),(77,bm i),(6,.pointer (some ⟨E,Z+i*6,none⟩)),(132,.slice (some ⟨aL,nE,none⟩) f.blocks.length F),(133,bm f.blocks.length),(134,bm j),(8,cE (π 0)),(139,.slice R b.ah.length Q),(140,bm b.ah.length),(141,bm k)]) (λ_=>h) (λπ k=>[(0,bS (kq b R Q) 48)]) (λk=>k<=b.ah.length/\b.ah.all (iH p f)=(b.ah.drop k).all (iH p f)) (λk=>b.ah.length-k) [0] 0 ⟨dG _,rfl⟩ kh ?_;intro π k z;obtain⟨aj,z⟩:=z;dsimp only at aj z|-;by_cases jL:k<b.ah.length
        .obtain⟨x,aa⟩:=cR b.ah k jL;obtain⟨bN,cq,c1,eH,rfl,cc,gq,eP⟩:=RG.get k x aa;have dW:=aq _ _ cc;obtain⟨apF,apG,eP,RC⟩:=eP;have jJ:=mZ f (bQ T) b (bQ I) x (bQ aa);rw[Kd aa] at z;repeat'(first|refine er ?_|refine Rq ?_|apply ad.lT true [];rfl;rfl;rfl;exact λH b7=>aLY p f x B eV _ d1 _ d2 E _ dS fk jS aW jk aT _ F _ _ H (bh.up (pk b7 aq)) (C.up (pk b7 aq)) (RC.mono (pk b7 aq) λ_ _ b5=>b5) jJ;exact hS|refine W9 ?_|refine la ?_|refine RF ?_|refine c8 ?_|refine aop ?_|refine fy ?_|(refine c7 ?_ ?_)<;>intro _)
         .refine cf _ (dt rfl) ⟨rfl,?_⟩;have s:iH p f x=false:=by simpa using ‹(!iH p f x)=true›
          rw[s,DU] at z;rw[Cd (L (by unfold uW;rw[z,DU]))];rfl
         .have s:iH p f x=true:=by simpa using ‹(!iH p f x)=false›
          rw[s,uk] at z;exact mW (k+1) [0] rfl rfl ⟨U,z⟩ U kh
        .repeat(first|refine nD ?_|(with_reducible first|apply W.seq|apply W.exit|apply fr|apply mC|apply Rg)|refine lC ?_)
         rw[np U] at z;exact avD () [0] rfl rfl z kh
       .intro π _ nr;repeat'(first|apply ad.lT true [];rfl;rfl;rfl;exact λH b7=>aLX f b.av E _ dS fk _ F H (pk b7 aq _ _ S) (C.c 3 _ rfl) (C.c 5 _ rfl) U;exact hS|refine Rn ?_|refine jj ?_|refine Ra ?_|refine c8 ?_|(with_reducible first|apply W.seq|apply W.ret|apply W.skip|apply fr|apply sN|apply rM|apply wF|apply WE)|refine qU ?_|(refine c7 ?_ ?_)<;>intro _)
        .refine cf _ (dt rfl) ⟨rfl,?_⟩;have s:lU f b.av=false:=by simpa using ‹(!lU f b.av)=true›
         rw[Cd (L (by unfold uW;rw[s,Uq]))];rfl
        .have s:lU f b.av=true:=by simpa using ‹(!lU f b.av)=false›
         have wq:uW p f b=true:=by unfold uW;rw[nr,s];rfl
         rw[wq,uk] at A;exact mW (j+1) [] rfl rfl ⟨U,A⟩ U kh
      .repeat(first|refine EJ ?_|refine M9 ?_|refine lC ?_)
       rw[np U] at A;rw[M,A] at u;exact mW (i+1) [] rfl rfl ⟨U,u⟩ U kh
     all_goals refine cf _ (dt rfl) ⟨rfl,?_⟩
     .exact abm
     .exact abm
     .exact abm
     .have bM:¬(f.hO:Int)=f.params:=by simpa using ‹((f.hO:Int) != f.params)=true›
      rw[Cd (Vl akQ)];rfl
     .have bM:¬0<f.blocks.length:=U;rw[Cd (Vl akQ)];rfl
    .repeat(first|refine EH ?_|refine CD ?_)
     rw[np U] at u;refine cf _ (dt rfl) ⟨rfl,?_⟩;rw[aL0 (by rw[Y,u];rfl)];rfl
  all_goals refine cf _ (dt rfl) ⟨rfl,?_⟩
  .have s:gy p=false:=by
    unfold gy;rw[O];have:N.params≠0:=by simpa using ‹(N.params != 0)=true›
    simp[this]
   rw[Cd s];rfl
  .have s:gy p=false:=by unfold gy;simp;omega
   rw[Cd s];rfl
  .have s:gy p=false:=by unfold gy;simp;omega
   rw[Cd s];rfl
 .have O:lF p p.fA=none:=by
   unfold lF;split
   .rw[wh U];rfl
   .rfl
  have s:gy p=false:=by unfold gy;rw[O];simp
  rw[Cd s];refine bc.jT func13 ntmps13 ?_;conv=>arg 2;whnf
  repeat'(first|refine Xs ?_|refine Xa ?_|refine kJ ?_|refine zo ?_|refine hW ?_|refine CE ?_|(refine c7 ?_ ?_)<;>intro _)
  all_goals exact GO
end
section
abbrev dc:=List (BitVec 64)
def Pg(i:Nat):BitVec 64:=1#64<<<(i%64)
def hi(n:Int):dc:=List.replicate (((max n 0).toNat+63)/64) 0
def cU(s:dc)(i:Int):Bool:=decide (0<=i)&&(match s[i.toNat/64]? with
 | some w=>w.getLsbD (i.toNat%64)
 | none=>false)
def jU(s:dc)(i:Int):dc:=if 0<=i then s.modify (i.toNat/64) (·|||Pg i.toNat) else s
def o6(s:dc)(i:Int):dc:=if 0<=i then s.modify (i.toNat/64) (·&&&~~~ Pg i.toNat) else s
def fT:dc->dc->dc
 | w::s,o::t=>(w|||o)::fT s t
 | s,[]=>s
 | [],_=>[]
def Jc:∀s t:dc,(fT s t).length=s.length
 | [],[]=>rfl
 | [],_::_=>rfl
 | _::_,[]=>rfl
 | _::s,_::t=>by simp[fT,Jc s t]
def yV s i:(jU s i).length=s.length:=by unfold jU;split<;>simp
def By s i:(o6 s i).length=s.length:=by unfold o6;split<;>simp
def avG i j(b:j<64):(Pg i).getLsbD j=decide (i%64=j):=by
 rw[Pg,BitVec.getLsbD_shiftLeft];have:i%64<64:=Gy _ bo;by_cases h:i%64=j
 .subst h;simp[b]
 .rw[Ao h];by_cases a:j<i%64
  .simp[a]
  .have:j-i%64≠0:=U;simp[this]
def Lx(s:dc)f i j:(s.modify i f)[j]?=if i=j then(s[j]?).map f else s[j]?:=by
 rw[PW];cases s[j]?<;>by_cases h:i=j<;>simp[h]
def CR s i j:cU (jU s i) j=(cU s j||(decide (i=j)&&decide (0<=j)&&decide (j.toNat/64<s.length))):=by
 unfold cU jU;by_cases aA:0<=j
 .by_cases ag:0<=i
  .rw[au ag,Lx];by_cases e:i.toNat/64=j.toNat/64
   .rw[au e];rcases hw:s[j.toNat/64]? with _|w
    .have:¬j.toNat/64<s.length:=by rw[tj] at hw;omega
     simp[this]
    .simp[aA,decide_true,uk,iW,BitVec.getLsbD_or,avG _ _ (Gy _ bo:j.toNat%64<64),(cS.1 hw).1,Md];congr 1;simp[decide_eq_decide];omega
   .rw[ai e];have:i≠j:=λh=>e (by rw[h]);simp[this]
  .have:i≠j:=U;simp[ag,this]
 .exact Ea
def G4 s i j:cU (o6 s i) j=(cU s j&&!decide (i=j)):=by
 unfold cU o6;by_cases aA:0<=j
 .by_cases ag:0<=i
  .rw[au ag,Lx];by_cases e:i.toNat/64=j.toNat/64
   .rw[au e];rcases hw:s[j.toNat/64]? with _|w
    .exact aF
    .have hm:j.toNat%64<64:=Gy _ bo;simp only[aA,decide_true,uk,iW,BitVec.getLsbD_and,BitVec.getLsbD_not,avG _ _ hm,hm];congr 2;simp[decide_eq_decide];omega
   .rw[ai e];have:i≠j:=λh=>e (by rw[h]);simp[this]
  .have:i≠j:=U;simp[ag,this]
 .exact Ea
def Iv:∀(s t:dc) (k:Nat),(fT s t)[k]?=(s[k]?).map λw=>w|||(t[k]?).getD 0
 | [],[],k=>VT
 | [],_::_,k=>VT
 | w::s,[],k=>VT
 | w::s,o::t,0=>VT
 | w::s,o::t,k+1=>by simp[fT,Iv s t k]
def agT s t j:cU (fT s t) j=(cU s j||(cU t j&&decide (j.toNat/64<s.length))):=by
 unfold cU;rw[Iv];by_cases aA:0<=j
 .simp[aA,decide_true,uk];rcases aC:s[j.toNat/64]? with _|w
  .have:¬j.toNat/64<s.length:=by rw[tj] at aC;omega
   simp[this]
  .rcases aS:t[j.toNat/64]? with _|o
   .exact aF
   .simp[(cS.1 aC).1]
 .exact Ea
def aBI n j:cU (hi n) j=false:=by
 rw[cU,hi,Av];split
 .rename_i w hw;split at hw
  .cases hw;simp
  .cases hw
 .exact aF
def pE(s:dc)(eg:List Int):List Int->dc×List Int
 | []=>(s,eg)
 | k::l=>if cU s k=true then pE s eg l else pE (jU s k) (k::eg) l
def q6(bl:List bT)(n:Int):List Int:=match bl[n.toNat]? with
 | some b=>di b.av
 | none=>[]
def A5(bl:List bT):Nat->dc->List Int->dc
 | 0,s,_=>s
 | _+1,s,[]=>s
 | m+1,s,n::eg=>A5 bl m (pE s eg (q6 bl n)).1 (pE s eg (q6 bl n)).2
def gW(bl:List bT):dc:=if bl.length=0 then hi 0 else A5 bl (2*bl.length+2) (jU (hi bl.length) 0) [0]
def h1(s:dc)(l:List ho):dc:=l.foldl (λs a=>jU s a.ck) s
def ni(s:dc)(x:cO):dc:=h1 (o6 s x.dst) (eI x)
def xd(b:bT)(o:dc):dc:=b.ah.reverse.foldl ni (h1 o (e2 b.av))
structure nj where
 ah:List dc
 c3:List dc
 again:Bool
def pQ(ah:List dc)(o:dc)(l:List Int):dc:=l.foldl (λo k=>fT o (ah[k.toNat]?.getD [])) o
def o7(bl:List bT)(st:nj)(i:Nat):nj:=match bl[i]? with
 | some b =>
  let o:=pQ st.ah (st.c3[i]?.getD []) (di b.av)
  let a:=st.ah[i]?.getD []
  let n:=fT a (xd b o)
  ⟨st.ah.set i n,st.c3.set i o,st.again||n != a⟩
 | none=>st
def o8(bl:List bT):Nat->nj->nj
 | 0,st=>st
 | i+1,st=>o8 bl i (o7 bl st i)
def sR(bl:List bT)(st:nj):nj:=o8 bl bl.length {st with again:=false}
inductive vE(bl:List bT):nj->nj->Prop
 | stop {st:nj} (h:(sR bl st).again=false):vE bl st (sR bl st)
 | go {st Dl:nj} (h:(sR bl st).again=true) (aM:vE bl (sR bl st) Dl):vE bl st Dl
def vE.aBr{bl a b c}(J:vE bl a b)(d:vE bl a c):b=c:=by
 induction J with
 | stop h =>
  rcases d with _|⟨aw,_⟩
  .rfl
  .rw[h] at aw;cases aw
 | go h _ e =>
  rcases d with aw|⟨_,aM⟩
  .rw[h] at aw;cases aw
  .exact e aM
def yZ(bl:List bT)(ae:Int):nj:=⟨List.replicate bl.length (hi ae),List.replicate bl.length (hi ae),true⟩
def B5(x:cO):Bool:=if Sa x.op=true then decide (0<=x.b.ck)||decide (x.b.num=0)||decide (x.b.num=-1) else if x.op=26 then false else !vF x.op
def Aa:List cO->dc->List cO->List cO
 | [],_,dY=>dY
 | x::r,s,dY=>if !B5 x&&(decide (x.dst<0)||!cU s x.dst) then Aa r s dY else if x.op=2/\x.a.ck=x.dst then Aa r s dY else Aa r (ni s x) (x::dY)
def Dk(b:bT)(o:dc):bT:={b with ah:=Aa b.ah.reverse (h1 o (e2 b.av)) []}
def wS:List bT->List dc->List bT
 | b::bl,o::os=>Dk b o::wS bl os
 | bl,[]=>bl
 | [],_=>[]
def gJ(bl:List bT):Nat:=(bl.map λb=>b.ah.length).sum
inductive zu(ae:Int)(bl:List bT):List bT->Prop
 | mk {st:nj} (h:vE bl (yZ bl ae) st):zu ae bl (wS bl st.c3)
inductive vC(ae:Int):List bT->List bT->Prop
 | stop {bl ef:List bT} (h:zu ae bl ef) (he:gJ ef=gJ bl):vC ae bl ef
 | go {bl SS ef:List bT} (h:zu ae bl SS) (ak:gJ SS≠gJ bl) (aM:vC ae SS ef):vC ae bl ef
def Dm(bl:List bT):Nat->Int->Int
 | 0,k=>k
 | n+1,k=>match bl[k.toNat]? with
  | some b=>if b.ah.length>0\/b.av.bp≠1 then k else Dm bl n b.av.goto
  | none=>k
def jg(bl:List bT)(k:Int):Int:=Dm bl bl.length k
def ND:ho:=⟨0,0⟩
def rZ(k:Int):kt:=⟨1,0,ND,ND,k,0⟩
def qy:kt:=⟨3,0,⟨-1,0⟩,ND,0,0⟩
def nT(bl:List bT)(t:kt):kt :=
 if t.bp=1 then{t with goto:=jg bl t.goto}
 else if t.bp=2 then
  if jg bl t.goto=jg bl t.dx then rZ (jg bl t.goto) else{t with goto:=jg bl t.goto,dx:=jg bl t.dx}
 else t
def tt(bl:List bT)(i:Nat):List bT:=match bl[i]? with
 | some b=>bl.set i {b with av:=nT bl b.av}
 | none=>bl
def sS(n:Nat):Nat->List bT->List bT
 | 0,bl=>bl
 | d+1,bl=>sS n d (tt bl (n-(d+1)))
def x5(bl:List bT):List bT:=sS bl.length bl.length bl
def u9(r:dc)(k:Int):Nat->List bT->Nat
 | _,[]=>0
 | i,b::bl=>(if cU r i=true then(di b.av).count k else 0)+u9 r k (i+1) bl
def vU(bl:List bT)(r:dc)(k:Int):Nat:=u9 r k 0 bl
def me(bl:List bT)(i:Nat)(k:Int):List bT:=match bl[i]?,bl[k.toNat]? with
 | some b,some o=>(bl.set i ⟨b.ah++o.ah,o.av⟩).set k.toNat ⟨[],qy⟩
 | _,_=>bl
def uY(i:Nat):Nat->List bT->dc->List bT
 | 0,bl,_=>bl
 | m+1,bl,r=>match bl[i]? with
  | some b=>if b.av.bp≠1\/b.av.goto=i\/b.av.goto=0\/vU bl r b.av.goto≠1 then bl else uY i m (me bl i b.av.goto) (o6 r b.av.goto)
  | none=>bl
def Iw(bl:List bT):Nat:=bl.countP λb=>decide (b.av.bp=1)
def x6(bl:List bT)(i:Nat):List bT:=if cU (gW bl) i=true then uY i (Iw bl+1) bl (gW bl) else bl
def sT(n:Nat):Nat->List bT->List bT
 | 0,bl=>bl
 | d+1,bl=>sT n d (x6 bl (n-(d+1)))
def FN(bl:List bT):List bT:=sT bl.length bl.length bl
def jl(r:dc):Nat->List bT->List bT
 | _,[]=>[]
 | i,b::bl=>if cU r i=true then b::jl r (i+1) bl else jl r (i+1) bl
def pF(r:dc):Nat->Nat->Nat->List Int
 | 0,_,_=>[]
 | m+1,i,n=>(n:Int)::pF r m (i+1) (if cU r i=true then n+1 else n)
def hX(pl:List Int)(t:kt):kt :=
 if t.bp=1 then{t with goto:=pl[t.goto.toNat]?.getD 0} else if t.bp=2 then{t with goto:=pl[t.goto.toNat]?.getD 0,dx:=pl[t.dx.toNat]?.getD 0} else t
def lf(bl:List bT):List bT :=
 (jl (gW bl) 0 bl).map λb=>{b with av:=hX (pF (gW bl) bl.length 0 0) b.av}
def vD(bl:List bT):List bT:=lf (FN (x5 bl))
attribute[local irreducible] W ad
def Zq(w:BitVec 64):Value:=.int .u64 (w.toNat:Int)
def kb(s:dc):List Value:=s.map Zq
@[simp] theorem W8 s:(kb s).length=s.length:=by simp[kb]
def ahN s:∀v∈kb s,bw 0 v:=by
 intro v aE;obtain⟨w,_,rfl⟩:=ih.1 aE;simp[Zq]
def adp{s}{i:Nat}{w}(h:s[i]?=some w):(kb s)[i]?=some (.int .u64 (w.toNat:Int)):=by simp[kb,h,Zq]
inductive fR(h:aV):Option Addr->dc->Prop
 | none:fR h none []
 | some {b:Nat}{s:dc} (hm:h.m b=some ⟨⟨kb s⟩,153⟩) (aM:df<=b):fR h (some ⟨b,0,none⟩) s
def nn(h:aV)(A:Option Addr)(s:dc):aV:=match A with
 | some a=>h.set a.block ⟨⟨kb s⟩,153⟩
 | none=>h
def ahO{s k f w}(h:s[k]?=some w):eB (kb s) (0+k*1) [.int .u64 ((f w).toNat:Int)]=kb (s.modify k f):=by
 rw[ff,iV,wV,u1];apply kg;intro i;rw[fl];unfold kb;simp[gf,Lx];have⟨aj,ab⟩:=cS.1 h;by_cases e:k=i
 .subst e;simp[aj,Zq,ab]
 .simp[e]
def aAK{s i w}(h:s[i.toNat/64]?=some w)(h0:0<=i):eB (kb s) (0+i.toNat/64*1) [.int .u64 ((w|||1#64<<<(i.toNat%64)).toNat:Int)]=kb (jU s i):=by
 rw[jU,au h0];exact ahO (f:=λw=>w|||Pg i.toNat) h
def aAL{s i w}(h:s[i.toNat/64]?=some w)(h0:0<=i):eB (kb s) (0+i.toNat/64*1) [.int .u64 ((w&&&~~~ (1#64<<<(i.toNat%64))).toNat:Int)]=kb (o6 s i):=by
 rw[o6,au h0];exact ahO (f:=λw=>w&&&~~~ Pg i.toNat) h
def aL6(w:BitVec 64)k:((((w>>>k)&&&1#64).toNat:Int)==1)=w.getLsbD k:=by
 have b:(w>>>k)&&&1#64=if w.getLsbD k then 1#64 else 0#64:=by
  apply BitVec.eq_of_getLsbD_eq;intro i ag;simp[BitVec.getLsbD_and,BitVec.getLsbD_ushiftRight,BitVec.getLsbD_one];cases hw:w.getLsbD k<;>by_cases a:i=0<;>simp[a,hw]
 rw[b];cases w.getLsbD k<;>decide
def Rz s A c i(ag:b8 i)(j:s.length<=1000000000) h(aC:fR h A s):bc prog 61 ⟨[.slice A s.length c,.int .i64 i]⟩ h (.bool (cU s i)) h:=by
 have⟨h0,J⟩:=ag;rcases aC with _|⟨hm,aM⟩
 .refine bc.jT func61 ntmps61 ?_;conv=>arg 2;whnf
  repeat'(first|refine Hn ?_|refine Cx ?_|refine rR ?_|refine AW ?_|apply ad.ad8;iterate 5 rfl|(refine c7 ?_ ?_)<;>intro _)
  all_goals refine cf _ (dt rfl) ⟨rfl,?_⟩
  all_goals simp[fp,cU]
 .rename_i b;refine bc.aO λaq=>?_;have ak:=aq _ _ hm;refine bc.jT func61 ntmps61 ?_;conv=>arg 2;whnf
  by_cases bs:0<=i/\i.toNat/64<s.length
  .obtain⟨w,hw⟩:∃w,s[i.toNat/64]?=some w:=⟨_,ey bs.2⟩;have⟨f,bs⟩:=bs;repeat(first|refine Hn ?_|refine adT ?_|apply ad.aL7;(iterate 4 rfl);exact Gy _ bo|apply ad.aL8;iterate 3 rfl|refine er ?_|refine ado ?_|refine Cx ?_|refine tz ?_|refine Nt ?_|refine ov ?_)
   repeat'(first|(refine c7 ?_ ?_)<;>intro _)
   all_goals refine cf _ (dt rfl) ⟨rfl,?_⟩
   have e:cU s i=w.getLsbD (i.toNat%64):=by rw[cU,hw];simp[f]
   rw[e,<-aL6];rfl
  .have e:cU s i=false:=by
    unfold cU;by_cases h0:0<=i
    .have:s[i.toNat/64]?=none:=Qa;rw[this];simp
    .simp[h0]
   rw[e];repeat'(first|refine Hn ?_|refine Cx ?_|refine vx ?_|refine A0 ?_|refine AW ?_|(refine c7 ?_ ?_)<;>intro _)
   all_goals exact cf _ (dt rfl) ⟨rfl,by simp[fp];try omega⟩
def Ph{P h}(bF:Sat P h){A s s'}(aC:fR h A s):h.n<=(nn h A s').n/\∀i b,(nn h A s').m i=some b->i<(nn h A s').n/\∀u∈b.cells,bw (nn h A s').n u:=by
 rcases aC with _|⟨hm,aM⟩
 .exact alG
 .rename_i k;refine⟨b4 _,λi b I=>?_⟩;have I:(if i=k then bS (kb s') 153 else h.m i)=some b:=I;split at I
  .rename_i e;simp only[dh] at I;subst I;subst e;exact⟨bF.aO _ _ hm,λu hu=>hc (dG _) _ (ahN _ u GS)⟩
  .exact⟨bF.aO i b I,bF.dP i b I⟩
def ahP{h A s}(aC:fR h A s):nn h A s=h:=by
 rcases aC with _|⟨hm,aM⟩
 .rfl
 .rename_i k;refine aV.eq (λi=>?_) rfl;show(if i=k then some _ else h.m i)=h.m i;split
  .rename_i e;rw[e,hm]
  .rfl
def aL9{s i}(h:¬(0<=i/\i.toNat/64<s.length)):jU s i=s:=by
 unfold jU;split
 .apply kg;intro j;rw[Lx];split
  .have:s[j]?=none:=Qa;rw[this];rfl
  .rfl
 .rfl
def aMa{s i}(h:¬(0<=i/\i.toNat/64<s.length)):o6 s i=s:=by
 unfold o6;split
 .apply kg;intro j;rw[Lx];split
  .have:s[j]?=none:=Qa;rw[this];rfl
  .rfl
 .rfl
def Zr s A c i(ag:b8 i)(v:s.length<=1000000000) h(aC:fR h A s):bc prog 59 ⟨[.slice A s.length c,.int .i64 i]⟩ h (.tuple #[]) (nn h A (jU s i)):=by
 have⟨h0,J⟩:=ag;refine bc.rX func59 ntmps59 (λu=>⟨(Ph u aC).1,aF,(Ph u aC).2⟩) λπ u=>?_;conv=>arg 2;whnf
 by_cases bs:0<=i/\i.toNat/64<s.length
 .obtain⟨w,hw⟩:∃w,s[i.toNat/64]?=some w:=⟨_,ey bs.2⟩;have⟨n8,bs⟩:=bs;rcases aC with _|⟨hm,aM⟩
  .simp at hw
  .have ak:=u.aO _ _ hm;repeat(first|refine Hn ?_|refine adT ?_|apply ad.avH;rfl;rfl;rfl;exact Gy _ bo|apply ad.avI;iterate 4 rfl|refine er ?_|refine ado ?_|refine aoa ?_|refine EB ?_|refine tz ?_|refine iR ?_|refine c8 ?_|refine Cz ?_|refine fy ?_)
   repeat'(first|(refine c7 ?_ ?_)<;>intro _)
   all_goals exact Mj
 .rw[aL9 bs,ahP aC];repeat'(first|refine Hn ?_|refine EB ?_|refine vx ?_|refine A0 ?_|refine hW ?_|refine zp ?_|(refine c7 ?_ ?_)<;>intro _)
  all_goals exact Mj
def avJ s A c i(ag:b8 i)(v:s.length<=1000000000) h(aC:fR h A s):bc prog 65 ⟨[.slice A s.length c,.int .i64 i]⟩ h (.tuple #[]) (nn h A (o6 s i)):=by
 have⟨h0,J⟩:=ag;refine bc.rX func65 ntmps65 (λu=>⟨(Ph u aC).1,aF,(Ph u aC).2⟩) λπ u=>?_;conv=>arg 2;whnf
 by_cases bs:0<=i/\i.toNat/64<s.length
 .obtain⟨w,hw⟩:∃w,s[i.toNat/64]?=some w:=⟨_,ey bs.2⟩;have⟨n8,bs⟩:=bs;rcases aC with _|⟨hm,aM⟩
  .simp at hw
  .have ak:=u.aO _ _ hm;repeat(first|refine Hn ?_|refine adT ?_|apply ad.avH;rfl;rfl;rfl;exact Gy _ bo|apply ad.aMb;iterate 4 rfl|refine er ?_|refine ado ?_|refine aoa ?_|refine EB ?_|refine tz ?_|refine iR ?_|refine c8 ?_|refine Cz ?_|refine fy ?_)
   repeat'(first|(refine c7 ?_ ?_)<;>intro _)
   all_goals exact Mj
 .rw[aMa bs,ahP aC];repeat'(first|refine Hn ?_|refine EB ?_|refine vx ?_|refine A0 ?_|refine hW ?_|refine zp ?_|(refine c7 ?_ ?_)<;>intro _)
  all_goals exact Mj
def aMc n:nd (ei (.int .u64 0)) n=kb (List.replicate n 0):=by
 induction n with
 | zero=>rfl
 | succ n a=>rw[nd,a,DY];rfl
def aMd{n:Int}(h:0<=n):((n+63).toNat/64:Nat)=((max n 0).toNat+63)/64:=U
def ad.aMe{P an bg rs l ay al h K d ty pos af gd t c x a}(hw:cw an ⟨some d,.call {callee:=.builtin .max,args:=#[x,.const (.int .i64 0)],argTypes:=#[t,c]},ty,pos,af,gd⟩ ⟨ay,al⟩=some true)(aq:Nat.blt d al=true)(aa:Fr.ev ⟨ay,al⟩ x=some (.int .i64 a))(f:0<=a)(aj:ad P an bg (de h.k false [] (some [])::rs) l ⟨(d,.int .i64 a)::ay,al⟩ h K):ad P an bg rs (⟨some d,.call {callee:=.builtin .max,args:=#[x,.const (.int .i64 0)],argTypes:=#[t,c]},ty,pos,af,gd⟩::l) ⟨ay,al⟩ h K:=by
 refine ad.aeM hw aq aa rfl ?_;rwa[ai U]
def avK n(h0:0<=n)(J:n<=1000000) h:bc prog 82 ⟨[.int .i64 n]⟩ h (.slice (some ⟨h.n,0,none⟩) (hi n).length (hi n).length) (h.push ⟨⟨kb (hi n)⟩,153⟩):=by
 rw[(by rw[hi,aMd h0]:hi n=List.replicate ((n+63).toNat/64) 0),rz];refine bc.ends (c:=(f82.body.getD .skip)) (Q:=Bc (λ_=>kb (List.replicate ((n+63).toNat/64) 0)) 153 ((n+63).toNat/64) ((n+63).toNat/64) h) func82 ax ntmps82 ax ?_ (CZ (λv aE=>hc (dG _) _ (ahN _ v aE)));conv=>arg 2;whnf
 repeat(first|refine Hn ?_|refine fi ?_|refine jH ?_|refine ov ?_|apply ad.aMe;rfl;rfl;rfl;omega|apply ad.M5;(iterate 6 rfl);omega;exact aMc _;exact ahN _)
 all_goals exact cf _ (dt rfl) ⟨rfl,0,dN 0,rfl,rfl⟩
def cT(S:Nat->Prop)(h aw:aV):Prop:=h.n<=aw.n/\∀i,i<h.n->¬S i->aw.m i=h.m i
def cW(h aw:aV):Prop:=h.n<=aw.n/\∀i,i<h.n->aw.m i=h.m i
def cW.refl h:cW h h:=⟨b4 _,λ_ _=>rfl⟩
def cW.trans{a b c}(J:cW a b)(d:cW b c):cW a c:=⟨bx J.1 d.1,λi ag=>by rw[d.2 i (eQ ag J.1),J.2 i ag]⟩
def cW.off{S a b}(J:cW a b):cT S a b:=⟨J.1,λi ag _=>J.2 i ag⟩
def cT.refl S h:cT S h h:=⟨b4 _,λ_ _ _=>rfl⟩
def cT.trans{S T a b c}(J:cT S a b)(d:cT T b c)(aC:∀i,i<a.n->T i->S i):cT S a c :=
 ⟨bx J.1 d.1,λi ag ak=>by rw[d.2 i (eQ ag J.1) (λaS=>ak (aC i ag aS)),J.2 i ag ak]⟩
def cT.mono{S T a b}(J:cT S a b)(aC:∀i,i<a.n->S i->T i):cT T a b:=⟨J.1,λi ag ak=>J.2 i ag λh=>ak (aC i ag h)⟩
def cT.cx{S a b}(J:cT S a b)(aC:∀i,i<a.n->¬S i):cW a b:=⟨J.1,λi ag=>J.2 i ag (aC i ag)⟩
def cW.up{a b}(h:cW a b)(c:∀i x,a.m i=some x->i<a.n):∀i x,a.m i=some x->b.m i=some x:=λi x aa=>by rwa[h.2 i (c i x aa)]
def cW.push h b:cW h (h.push b):=⟨hr _,λi ag=>by show(if i=h.n then some b else h.m i)=_;rw[ai U]⟩
def Qi(h:aV)b:(h.push b).m h.n=some b:=by show(if h.n=h.n then some b else h.m h.n)=_;rw[au rfl]
def cT.set h i b:cT (λj=>j=i) h (h.set i b):=⟨b4 _,λj _ ak=>by show(if j=i then some b else h.m j)=_;rw[ai ak]⟩
def _root_.Go.AH.fG.bk{P:Program}{h:aV}{π:Nat->Nat}{k:Nat}{l:List (Nat×Option cd)}{B:aV}(a:fG (P:=P) ⟨h,π,k,l⟩ B):cW h B:=⟨a.le,a.cx⟩
def Be(h:aV)(L:Option Addr)(l:List Int):Prop:=l=[]\/∃nh,L=some ⟨nh,0,none⟩/\h.m nh=some ⟨⟨l.map (.int .i64)⟩,3⟩
def Be.up{h H L l}(s:Be h L l)(hu:∀i b,h.m i=some b->H.m i=some b):Be H L l:=by
 rcases s with s|⟨a,J,c⟩
 .exact .inl s
 .exact .inr ⟨a,J,hu _ _ c⟩
def N4 t h:dw prog 49 [.agg ⟨kr t⟩] h (λv aw=>∃A c,v=.slice A (di t).length c/\Be aw A (di t)/\cW h aw/\∀a,A=some a->h.n<=a.block):=by
 have new:∀a:Addr,some (⟨h.n,0,none⟩:Addr)=some a->h.n<=a.block:=λa aJ=>by injection aJ with aJ;exact aJ▸b4 _
 unfold di;split
 .rename_i aj;refine(bc.ex (arp t aj h)).mono ?_;rintro v aw _ ⟨rfl,rfl⟩;exact al9
 .split
  .rename_i _ aj;refine(bc.ex (arq t aj h)).mono ?_;rintro v aw _ ⟨rfl,rfl⟩;exact al9
  .rename_i J d;refine(bc.ex (ars t J d h)).mono ?_;rintro v aw _ ⟨rfl,rfl⟩;exact⟨_,_,rfl,.inl rfl,cW.refl _,λa aJ=>yU⟩
def Ly{h b l e}(hm:h.m b=some ⟨⟨fN l⟩,e⟩):c0 h (some ⟨b,0,none⟩) 2 l kL :=
 ⟨λi a aJ=>⟨b,0,fN l,e,rfl,hm,akh,adR aJ⟩⟩
def avL t h:dw prog 48 [.agg ⟨kr t⟩] h (λv aw=>∃A c,v=.slice A (e2 t).length c/\c0 aw A 2 (e2 t) kL/\cW h aw):=by
 unfold e2;split
 .rename_i aj;refine(bc.ex (art t aj h)).mono ?_;rintro v aw _ ⟨rfl,rfl⟩;exact⟨_,_,rfl,Ly Ve,cW.push _ _⟩
 .split
  .rename_i _ aj;refine(bc.ex (aru t aj h)).mono ?_;rintro v aw _ ⟨rfl,rfl⟩;exact⟨_,_,rfl,Ly Ve,cW.push _ _⟩
  .rename_i J a;refine(bc.ex (arv t J a h)).mono ?_;rintro v aw _ ⟨rfl,rfl⟩;exact⟨_,_,rfl,.nil,cW.refl _⟩
def asO x A c(ak:x.args.length<=1000000000) h(o:c0 h A 2 x.args kL):dw prog 46 [.agg ⟨cL x A c⟩] h (λv aw=>∃l q,v=.slice l (eI x).length q/\c0 aw l 2 (eI x) kL/\cW h aw):=by
 by_cases d:x.op=28
 .refine(bc.ex (api x A c d h)).mono ?_;rintro v aw _ ⟨rfl,rfl⟩;have e:eI x=x.args:=by rw[eI,au d]
  rw[e];exact⟨_,_,rfl,o,cW.refl _⟩
 by_cases g:x.op=29
 .refine(bc.ex (arA x A c g ak h o)).mono ?_;rintro v aw _ ⟨rfl,rfl⟩;have e:eI x=x.a::x.args:=by rw[eI,ai d,au g]
  rw[e];exact⟨_,_,by rw[e5,Mf],Ly (Qi _ _),cW.push _ _⟩
 by_cases f:e6 x.op=true\/x.op=27
 .refine(bc.ex (arw x A c f h)).mono ?_;rintro v aw _ ⟨rfl,rfl⟩;have e:eI x=[x.a,x.b]:=by rw[eI,ai d,ai g,au f]
  exact e▸⟨_,_,rfl,Ly Ve,cW.push _ _⟩
 by_cases k:23<=x.op/\x.op<=25
 .refine(bc.ex (ary x A c k h)).mono ?_;rintro v aw _ ⟨rfl,rfl⟩;have e:eI x=[]:=by rw[eI,ai d,ai g,ai f,au k]
  exact e▸⟨_,_,rfl,.nil,cW.refl _⟩
 .rw[not_or] at f;refine(bc.ex (arx x A c (by simpa using f.1) k U h)).mono ?_;rintro v aw _ ⟨rfl,rfl⟩;have e:eI x=[x.a]:=by rw[eI,ai d,ai g,ai (not_or.2 f),ai k]
  exact e▸⟨_,_,rfl,Ly Ve,cW.push _ _⟩
end
section
attribute[local irreducible] W ad
def ad.aMf{P an bg rs l ay al h K d ty pos af gd t i x y}{a b:Nat}(hw:cw an ⟨some d,.call {callee:=.builtin .min,args:=#[x,y],argTypes:=#[t,i]},ty,pos,af,gd⟩ ⟨ay,al⟩=some true)(aq:Nat.blt d al=true)(aa:Fr.ev ⟨ay,al⟩ x=some (.int .i64 (a:Int)))(aN:Fr.ev ⟨ay,al⟩ y=some (.int .i64 (b:Int)))(aj:ad P an bg (de h.k false [] (some [])::rs) l ⟨(d,.int .i64 ((min a b:Nat):Int))::ay,al⟩ h K):ad P an bg rs (⟨some d,.call {callee:=.builtin .min,args:=#[x,y],argTypes:=#[t,i]},ty,pos,af,gd⟩::l) ⟨ay,al⟩ h K:=by
 refine ad.km hw aq (λc g H=>Zj rfl (λ_ _=>aF) (g.ev aa) (g.ev aN) aF aF aF λev W hu f=>?_) aF aj;have hu:ev x=bm (a:Int):=hu;have f:ev y=bm (b:Int):=f;have e:(if(b:Int)<(a:Int) then(b:Int) else(a:Int))=((min a b:Nat):Int):=by split<;>omega
 simp only[execOp,resolve,invoke,builtin,gG,hQ,hj,so,gg,oH,hu,f,run_min_int2,e]
def aMg(a b:BitVec 64):((a.toNat:Int) != (b.toNat:Int))=(a != b):=by
 by_cases h:a=b
 .subst h;simp
 .have:a.toNat≠b.toNat:=λe=>h (ajz e);rw[bne_iff_ne.2 U,bne_iff_ne.2 h]
def ad.aMh{P an bg rs l ay al h K d ty pos af gd t c x y}{a b:BitVec 64}(hw:cw an ⟨some d,.binOp .neq t x y c,ty,pos,af,gd⟩ ⟨ay,al⟩=some true)(aq:Nat.blt d al=true)(aa:Fr.ev ⟨ay,al⟩ x=some (.int .u64 (a.toNat:Int)))(aN:Fr.ev ⟨ay,al⟩ y=some (.int .u64 (b.toNat:Int)))(aj:ad P an bg (de h.k false [] (some [])::rs) l ⟨(d,.bool (a != b))::ay,al⟩ h K):ad P an bg rs (⟨some d,.binOp .neq t x y c,ty,pos,af,gd⟩::l) ⟨ay,al⟩ h K:=by
 refine ad.bin hw aq aa aN ?_ aj;simp[uc,aMg]
def avM(s o:dc):fT s (o.take 0)=s:=by cases s<;>rfl
def avN s o n(h:s.length<=n\/o.length<=n):fT s (o.take n)=fT s o:=by
 apply kg;intro k;rw[Iv,Iv,tl];rcases aC:s[k]? with _|w
 .rfl
 .have aj:=(cS.1 aC).1;by_cases ak:k<n
  .rw[au ak]
  .have:o[k]?=none:=Qa;rw[ai ak,this]
def ahQ{s o:dc}{i w}(hw:s[i]?=some w):(fT s (o.take i))[i]?=some w:=by
 rw[Iv,hw,tl];simp
def avO{s o:dc}{i w u}(hw:s[i]?=some w)(hu:o[i]?=some u):fT s (o.take (i+1))=(fT s (o.take i)).modify i (λ_=>w|||u):=by
 apply kg;intro k;rw[Lx,Iv,Iv,tl,tl];by_cases e:i=k
 .subst e;simp[hw,hu]
 .rw[ai e];by_cases J:k<i
  .rw[au U,au J]
  .rw[ai U,ai J]
def avP{s o:dc}{i w u}(hw:s[i]?=some w)(hu:o[i]?=some u)(he:(w|||u)=w):fT s (o.take (i+1))=fT s (o.take i):=by
 rw[avO hw hu,he];apply kg;intro k;rw[Lx];split
 .rename_i e;subst e;rw[ahQ hw];rfl
 .rfl
def aMi{s o:dc}{i w u}(hw:s[i]?=some w)(hu:o[i]?=some u)(he:(w|||u)≠w):fT s (o.take (i+1))≠s:=by
 intro h;have:(fT s (o.take (i+1)))[i]?=some (w|||u):=by rw[Iv,hw,tl];simp[hu]
 rw[h,hw] at this;exact he (uj this).symm
def aMj s o A D c N(V:s.length<=1000000000)(T:o.length<=1000000000) h(aC:fR h A s)(aH:fR h D o)(C:A≠D\/A=none):bc prog 83 ⟨[.slice A s.length c,.slice D o.length N]⟩ h (.bool (fT s o != s)) (nn h A (fT s o)):=by
 refine bc.rX func83 ntmps83 (λL=>⟨(Ph L aC).1,aF,(Ph L aC).2⟩) λπ L=>?_;conv=>arg 2;whnf
 repeat(first|apply ad.aMf;iterate 4 rfl|refine Cx ?_|refine mc ?_)
 refine W.asg (X:=Unit) (λ_=>[(5,.bool (fT s o != s))]) (λ_ B=>∀i b,(nn h A (fT s o)).m i=some b->B.m i=some b) ?_ ?_
 .refine W.hz (X:=Nat) (λi=>[(0,.slice A s.length c),(1,.slice D o.length N),(12,bm ((min s.length o.length:Nat):Int)),(13,bm (i:Int)),(5,.bool (fT s (o.take i) != s))]) (λi B=>i<=min s.length o.length/\∀j b,(nn h A (fT s (o.take i))).m j=some b->B.m j=some b) (λi=>min s.length o.length-i) (λF a=>⟨0,?_,aF,λj b I=>a.up j b (by rw[avM,ahP aC] at I;exact I)⟩) ?_
  .rw[avM];simp[bne_self_eq_false];exact wm
  .rintro i B π G ⟨ag,z⟩;by_cases bs:i<min s.length o.length
   .have J:i<s.length:=U;have ab:i<o.length:=U;have⟨w,hw⟩:=cR s i J;have⟨u,hu⟩:=cR o i ab;rcases aC with _|⟨hm,aM⟩
    .exact D5
    .rename_i b;rcases aH with _|⟨S,Y⟩
     .exact GY
     .rename_i b';have Q:b'≠b:=by
       intro e;subst e;rcases C with C|C
       .exact C rfl
       .cases C
      have v:=z _ _ (by show(if b=b then _ else _)=_;rw[au rfl]);have O:=z _ _ (by show(if b'=b then _ else _)=_;rwa[ai Q]);have M:=G.aO _ _ v;repeat'(first|apply ad.avI;iterate 4 rfl|apply ad.aMh;iterate 4 rfl|refine er ?_|refine uT ?_|refine kW ?_|(apply ad.dv;rfl;rfl;rfl;first|exact v;exact M;(rw[iV,ff];exact adp (ahQ hw))|exact O;exact G.aO _ _ O;(rw[iV,ff];exact adp hu))|apply ad.gi;rfl;rfl;rfl;exact v;exact M;exact aM;(rw[W8,Jc];omega);rfl;rfl;exact ahO (f:=λ_=>w|||u) (ahQ hw)|(refine c7 ?_ ?_)<;>intro _)
      .refine eK rfl λF a=>⟨i+1,?_,⟨U,λj E I=>a.up j E ?_⟩,U⟩
       .have R:(fT s (o.take (i+1)) != s)=true:=by rw[bne_iff_ne];exact aMi hw hu (by simpa using ‹(w|||u != w)=true›)
        rw[R];exact ca
       .rw[avO hw hu] at I;have I:(if j=b then bS (kb ((fT s (o.take i)).modify i λ_=>w|||u)) 153 else h.m j)=some E:=I;show(if j=b then bS (kb ((fT s (o.take i)).modify i λ_=>w|||u)) 153 else B.m j)=some E;by_cases e:j=b
        .rw[au e] at I|-;exact I
        .rw[ai e] at I|-;exact z j E (by show(if j=b then _ else h.m j)=_;rwa[ai e])
      .have he:(w|||u)=w:=by simpa using ‹(w|||u != w)=false›
       refine eK rfl λF a=>⟨i+1,?_,⟨U,λj b I=>a.up j b ?_⟩,U⟩
       .rw[avP hw hu he];exact ca
       .rw[avP hw hu he] at I;exact z j b I
   .repeat(first|refine nD ?_|refine Nf ?_|refine lC ?_)
    refine qw rfl λF a=>⟨(),?_,λj b I=>a.up j b ?_⟩
    .rw[<-avN s o i U];exact ca
    .rw[<-avN s o i U] at I;exact z j b I
 .intro x B π G v;repeat(first|refine fi ?_|refine ov ?_)
  exact cf _ (dt rfl) (λF a=>⟨rfl,λi b I=>a.up i b (v i b I)⟩)
def aMk s A c(D:s.length<=1000000000) h(aC:fR h A s):dw prog 58 [.slice A s.length c] h (λv aw=>∃j z,v=.slice j s.length z/\fR aw j s/\cW h aw/\∀a,j=some a->h.n<=a.block):=by
 refine dw.i func58 ntmps58 λπ B=>?_;conv=>arg 2;whnf
 by_cases f:s.length=0
 .repeat(first|apply ad.KN;(iterate 4 rfl);exact f;kernel_rfl|refine fi ?_|refine ov ?_)
  refine cf _ (dt rfl) (λC a=>⟨none,0,by rw[f];rfl,(mr.1 f)▸.none,a.bk,λa aJ=>yU⟩)
 .rcases aC with _|⟨hm,aM⟩
  .exact absurd rfl f
  .have w:cr 0 (s.length*1) (kb s)=kb s:=by have:=ahR (kb s);rwa[W8,<-iV s.length] at this
   repeat(first|apply ad.Yg;(iterate 6 rfl);exact hm;exact B.aO _ _ hm;(rw[W8];omega);omega;omega;omega;exact w|refine fi ?_|refine ov ?_)
   refine cf _ (dt rfl) (λC a=>?_);have u:h.n<=π 0:=a.bL 0 (dN 0);refine⟨cV (π 0),dF 1,rfl,.some (a.bJ 0 (dN 0)) (bx a.rw u),a.bk,λb I=>?_⟩;simp[dh] at I;exact I▸u
def pU(A:Option Addr)(i:Nat):Prop:=A=some ⟨i,0,none⟩
def fx{h H A s}(aC:fR h A s)(hu:∀i b,h.m i=some b->H.m i=some b):fR H A s:=by
 rcases aC with _|⟨hm,aM⟩
 .exact .none
 .exact .some (hu _ _ hm) aM
def cT.dB{S a b c}(J:cT S a b)(d:cT S b c):cT S a c:=J.trans d λ_ _ h=>h
def Zs{h A s s'}(aC:fR h A s)(a:s'.length=s.length):fR (nn h A s') A s':=by
 rcases aC with _|⟨hm,aM⟩
 .exact mr.1 a▸.none
 .exact .some akL aM
def Ix{h A s s'}(aC:fR h A s):cT (pU A) h (nn h A s'):=by
 rcases aC with _|⟨hm,aM⟩
 .exact cT.refl _ _
 .refine(cT.set _ _ _).mono λi _ e=>?_;subst e;rfl
def Zt(h:aV)(A:Option Addr):aV:=match A with
 | some a=>h.fB a.block
 | none=>h
def aMl{h A i b}(aj:(Zt h A).m i=some b):h.m i=some b/\¬pU A i:=by
 rcases A with _|a
 .exact⟨aj,λe=>by cases e⟩
 .have aj:(if i=a.block then none else h.m i)=some b:=aj;split at aj
  .exact Jy
  .rename_i c;refine⟨aj,λe=>c ?_⟩;have e:some a=cV i:=e;injection e with e;rw[e]
def aMm{h A i b}(hm:h.m i=some b)(c:∀a,A=some a->i≠a.block):(Zt h A).m i=some b:=by
 rcases A with _|a
 .exact hm
 .show(if i=a.block then none else h.m i)=some b;rwa[ai (c a rfl)]
def aMn{s off a}(h:cr off 2 (kb s)=dX a):False:=by
 rw[hs] at h;have J:(dX a)[0]?=some (bm a.ck):=rfl;rw[<-h,GD bo,xq] at J;have⟨w,_,hw⟩:=ih.1 (bQ J);cases hw
def c0.rI{h A L s l}(f:c0 h L 2 l kL)(aC:fR h A s):c0 (Zt h A) L 2 l kL:=by
 refine⟨λi x aa=>?_⟩;have⟨b,off,cs,e,J,c,g,d⟩:=f.get i x aa;refine⟨b,off,cs,e,J,aMm c λa aJ I=>?_,g,d⟩;rcases aC with _|⟨hm,aM⟩
 .exact yU
 .cases aJ;simp only at I;subst I;rw[hm] at c;injection c with c;injection c with c _;cases c;exact aMn d
def avQ{h B A}(a:∀i b,h.m i=some b->i<h.n)(aH:cT (pU A) h B):∀i b,(Zt h A).m i=some b->B.m i=some b:=by
 intro i b I;have⟨J,c⟩:=aMl I;rwa[aH.2 i (a i b J) c]
def c0.nn{h:aV}(a:∀i b,h.m i=some b->i<h.n){A L:Option Addr}{s s':dc}{l:List ho}(d:c0 h L 2 l kL)(aC:fR h A s):c0 (nn h A s') L 2 l kL :=
 (d.rI aC).mono (avQ a (Ix aC)) λ_ _ h=>h
def Tr s l:(h1 s l).length=s.length:=by
 unfold h1;induction l generalizing s with
 | nil=>rfl
 | cons a l b=>rw[At,b,yV]
def avR{s}{l:List ho}{i a}(c:l[i]?=some a):h1 s (l.take (i+1))=jU (h1 s (l.take i)) a.ck:=by
 have J:=(cS.1 c);have⟨J,b⟩:=J;rw[BX J,b];simp[h1]
def avS s A c l L z(C:s.length<=1000000000)(R:l.length<=1000000001)(F:∀a∈l,b8 a.ck) h(aC:fR h A s)(O:c0 h L 2 l kL):
 dw prog 84 [.slice A s.length c,.slice L l.length z] h (λ_ aw=>fR aw A (h1 s l)/\cT (pU A) h aw):=by
 refine dw.i func84 ntmps84 λπ N=>?_;conv=>arg 2;whnf
 repeat(first|refine EB ?_|refine mc ?_)
 refine W.hz (X:=Nat) (λi=>[(0,.slice A s.length c),(6,.slice L l.length z),(7,bm (l.length:Int)),(8,bm (i:Int))]) (λi B=>i<=l.length/\fR B A (h1 s (l.take i))/\cT (pU A) h B) (λi=>l.length-i) (λE a=>⟨0,ca,U,xp▸fx aC a.up,a.bk.off⟩) ?_
 .rintro i B π J ⟨ag,f,u⟩;by_cases bs:i<l.length
  .have⟨x,aa⟩:=cR l i bs;obtain⟨b,off,cs,e,rfl,D,Q,w⟩:=((O.rI aC).mono (avQ N.aO u) λ_ _ h=>h).get i x aa;have w:cr (off+i*2) 2 cs=dX x:=w;have C:(h1 s (l.take i)).length<=1000000000:=by rwa[Tr]
   rw[(Tr _ _).symm];repeat(first|refine er ?_|refine n4 ?_|refine la ?_|refine Ka ?_|apply ad.hF;rfl;rfl;rfl;exact D;exact J.aO _ _ D;exact Q;exact w|apply ad.gC;rfl;rfl;rfl;refine λM j=>⟨_,bc.ex (Zr _ A c _ (F x (bQ aa)) C M (fx f j.up)),?_⟩;rintro v H' π ⟨rfl,rfl⟩ S G)
   refine eK rfl λE a=>⟨i+1,?_,⟨U,?_,?_⟩,U⟩
   .exact ca
   .exact avR aa▸fx (Zs (fx f j.up) (yV _ _)) a.up
   .exact((u.dB j.bk.off).dB (Ix (fx f j.up))).dB a.bk.off
  .repeat(first|refine nD ?_|refine Nf ?_|refine lC ?_)
   rw[BY U] at f;exact sx [] .nil (λE a=>⟨fx f a.up,u.dB a.bk.off⟩)
def asN x(h:x.args.length<=1000000000):(eI x).length<=1000000001:=by
 unfold eI;repeat' split
 all_goals(try simp[e5,vg])
 all_goals first|omega|decide
def aMo s A c x w B(R:s.length<=1000000000)(N:x.args.length<=1000000000)(D:b8 x.dst)(O:∀a∈eI x,b8 a.ck) h(aC:fR h A s)(ao:c0 h w 2 x.args kL):
 dw prog 62 [.slice A s.length c,.agg ⟨cL x w B⟩] h (λ_ aw=>fR aw A (ni s x)/\cT (pU A) h aw):=by
 refine dw.i func62 ntmps62 λπ Y=>?_;conv=>arg 2;whnf
 apply W.seq;repeat(refine apz ?_)
 refine W.hH λL pD j=>?_;have aG:L.m (π 0)=bS (cL x w B) 42:=j.bJ 0 (dN 0);have aSR:h.n<=π 0:=j.bL 0 (dN 0);have G:π 0<L.n:=j.ag 0 (dN 0);have u:=fx aC j.up;have E:¬pU A (π 0):=by
  intro e;rcases aC with _|⟨hm,aM⟩
  .cases e
  .have:=Y.aO _ _ hm;have e:some _=some _:=e;injection e with e;injection e with e;omega
 generalize π 0=q at *;apply W.seq;repeat(first|apply ad.gC;rfl;rfl;rfl;refine λM f=>⟨_,bc.ex (avJ s A c x.dst D R M (fx u f.up)),?_⟩;rintro v H' π ⟨rfl,rfl⟩ H4 Q|apply ad.dv;rfl;rfl;rfl;exact aG;exact G;rfl|refine n4 ?_|refine gr ?_)
 have F:(nn M A (o6 s x.dst)).m q=bS (cL x w B) 42:=by
  exact(Ix (fx u f.up)).2 q (eQ G f.le) E▸f.up _ _ aG
 rw[(By _ _).symm];repeat(first|apply ad.gC;rfl;rfl;rfl;refine λB2 z=>⟨_,asO x w B N B2 ((c0.nn f.aO ((ao.mono j.up λ_ _ h=>h).mono f.up λ_ _ h=>h) (fx u f.up)).mono z.up λ_ _ h=>h),?_⟩;rintro v lD π ⟨V,X,rfl,T,J⟩ q5 uX|apply ad.hF;rfl;rfl;rfl;exact F;exact H4.aO _ _ F;exact iu;rfl|apply ad.gC;rfl;rfl;rfl;refine λS C=>⟨_,avS _ A c (eI x) V X (by rwa[By]) (asN x N) O S (fx (fx (fx (Zs (fx u f.up) (By _ _)) z.up) (J.up z.aO)) C.up) (T.mono C.up λ_ _ h=>h),?_⟩;rintro v Bu π ⟨F5,Zu⟩ F9 Z|refine c8 ?_)
 exact sx [] .nil (λaD a=>⟨fx F5 a.up,((((((j.bk.off.dB f.bk.off).dB (Ix (fx u f.up))).dB z.bk.off).dB J.off).dB C.bk.off).dB Zu).dB a.bk.off⟩)
def Yp{h e A cap vs}(s:ng h e A cap vs)(aE:vs≠[]):∃r t,A=some ⟨r,0,none⟩/\h.m r=some ⟨⟨vs++t⟩,e⟩/\df<=r/\(cap=dF 1\/(cap=vs.length+t.length/\cap<nw)):=by
 rcases s with _|⟨hm,aM,aB⟩
 .exact absurd rfl aE
 .exact⟨_,_,rfl,hm,aM,aB⟩
def aMq c A cap vs x(C:vs.length<=1000000000) h(hw:h.m c=some ⟨⟨[.slice A (vs.length+1:Nat) cap]⟩,51⟩)(w:df<=c)(aC:ng h 3 A cap (vs++[.int .i64 x])):
 dw prog 86 [.pointer (some ⟨c,0,none⟩)] h (λv aw=>v=.int .i64 x/\aw.m c=some ⟨⟨[.slice A vs.length cap]⟩,51⟩/\ng aw 3 A cap vs/\cT (λi=>i=c) h aw):=by
 refine dw.i func86 ntmps86 λπ j=>?_;conv=>arg 2;whnf
 obtain⟨r,t,rfl,hm,aM,aB⟩:=Yp aC aF;have s:=j.aO _ _ hw;have u:=j.aO _ _ hm;have z:cap=dF 1\/(vs.length<=cap/\cap<nw):=by
  rcases aB with aB|⟨aB,f⟩
  .exact .inl aB
  .exact .inr ⟨by simp at aB;omega,f⟩
 repeat(first|apply ad.dv;rfl;rfl;rfl;exact hw;exact s;rfl|refine er ?_|refine Ry ?_|refine ov ?_|apply ad.dv;rfl;rfl;rfl;exact hm;exact u;exact(aF:(vs++[Value.int .i64 x]++t)[0+vs.length*1]?=some (.int .i64 x))|apply ad.arG;(iterate 4 rfl);exact hm;exact u;exact aM;exact(aF:vs.length<=(vs++[Value.int .i64 x]++t).length);exact z|apply ad.gi;rfl;rfl;rfl;exact hw;exact s;exact w;exact iu;iterate 3 rfl|(with_reducible first|apply ad.nilCheck|apply ad.move|apply ad.assign|apply ad.qg);iterate 3 rfl)
 have B:r≠c:=by
  intro e;subst e;rw[hw] at hm;simp at hm
 refine cf _ (dt rfl) λD a=>⟨rfl,a.up _ _ ?_,?_,(cT.set h c _).dB a.bk.off⟩
 .show(if c=c then _ else _)=_;rw[au rfl];rfl
 .refine .row (t:=bm x::t) (a.up _ _ ?_) aM ?_
  .show(if r=c then _ else h.m r)=_;rw[ai B,hm];simp
  .rcases aB with aB|⟨aB,f⟩
   .exact .inl aB
   .exact .inr ⟨by simp at aB|-;omega,f⟩
structure Bk(h:aV)(aR:Nat)(ae:Int)(A:Option Addr)(c:Nat)(bl:List bT):Prop where
 ar:∃dS,h.m aR=some ⟨⟨dS⟩,53⟩/\dS[3]?=some (.int .i64 ae)/\dS[5]?=some (.slice A bl.length c)
 gK:c0 h A 9 bl (yb h)
def Bk.up{h H a ae A c bl}(f:Bk h a ae A c bl)(hu:∀i b,h.m i=some b->H.m i=some b):Bk H a ae A c bl:=by
 have⟨d,J,e⟩:=f.ar;exact⟨⟨d,hu _ _ J,e⟩,f.gK.mono hu λ_ _ h=>zP hu h⟩
def im(bl:List bT):Prop:=∀b∈bl,∀k∈di b.av,0<=k/\k<bl.length
def zv(n:Nat)(s:dc):Nat:=((List.range n).filter λi:Nat=>!cU s (i:Int)).length
def apW{n:Nat}{s}{k:Int}(h0:0<=k)(aj:k<n)(aC:cU s k=false)(b:k.toNat/64<s.length):zv n (jU s k)+1=zv n s:=by
 unfold zv;obtain⟨m,rfl⟩:∃m:Nat,k=m:=⟨k.toNat,U⟩;have hm:m<n:=U;clear h0 aj;induction n with
 | zero=>omega
 | succ n d =>
  rw[List.range_succ,P2,P2,iM,iM];have a:∀i:Nat,cU (jU s (m:Int)) (i:Int)=(cU s i||decide (m=i)):=by
   intro i;rw[CR];by_cases e:m=i
   .subst e;simp at b;simp[b]
   .have:(m:Int)≠(i:Int):=U;simp[e,this]
  by_cases e:m=n
  .subst e;have c:(List.range m).filter (λi:Nat=>!cU (jU s (m:Int)) (i:Int))=(List.range m).filter (λi:Nat=>!cU s (i:Int)):=by
    apply List.filter_congr;intro i ag;have:i<m:=PU.1 ag;rw[a,Ao U,Ur]
   rw[c];simp[a,aC]
  .have:=d U;simp[aaV,List.filter_nil,(by rw[a,Ao e,Ur]:cU (jU s (m:Int)) (n:Int)=cU s (n:Int))];omega
end
end Go.Proofs.YtplleokmejppjaaGreatDoor
