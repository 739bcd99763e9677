/- Contracts of functions that the law reaches -/
import Derived.Test.YtplleokmejppjaaGreatDoorR21
import Derived.Test.YtplleokmejppjaaGreatDoorR24
set_option linter.all false
set_option maxHeartbeats 9999999
set_option maxRecDepth 100000
namespace Go.Proofs.YtplleokmejppjaaGreatDoor
open Go.Proofs.Tryz
open Go.AH
section
attribute[local irreducible] W ad
def aHy a i j H(J:H.m i=gQ jI 2 a)(b:H.m j=gQ jI 2 a)(c:a.length<=100000000):bc prog 18 ⟨[cD 1 i a,cD 1 j a]⟩ H (.bool true) H:=by
 rw[jO,jO];have:=aBz a.reverse a.reverse (if a=[] then none else cV i) (if a=[] then 0 else dF 1) (if a=[] then none else cV j) (if a=[] then 0 else dF 1) jf jf H (Ym (R:=CP) (sz:=1) (λ_=>rfl) (λ_=>rfl) [] a J) (Ym (R:=CP) (sz:=1) (λ_=>rfl) (λ_=>rfl) [] a b);rw[I3,qE rfl] at this;exact dm
def as9 a b i j H(J:H.m i=gQ kV 91 a)(c:H.m j=gQ kV 91 b)(d:a.length<=100000000)(I:b.length<=100000000):bc prog 19 ⟨[cD 3 i a,cD 3 j b]⟩ H (.bool (decide (a=b))) H:=by
 rw[jO,jO];have:=aCj a.reverse b.reverse (if a=[] then none else cV i) (if a=[] then 0 else dF 3) (if b=[] then none else cV j) (if b=[] then 0 else dF 3) jf jf H (Ym (R:=XV) (sz:=3) (λ_=>rfl) (λ_=>rfl) [] a J) (Ym (R:=XV) (sz:=3) (λ_=>rfl) (λ_=>rfl) [] b c);rw[I3,I3] at this;rwa[show decide (a=b)=decide (a.reverse=b.reverse) from by simp]
structure aHz(a b x y:c9):Prop where
 run:a.bb=0->x.bb=0/\x.exit=a.exit/\x.out=a.out/\x.b9<=a.b9
 two:a.bb=0->b.bb=0->a.bU=b.bU->x.bU=y.bU
def s5.four{p q}(a:s5 p q)(aM:gy p=true)(N:Nat)c b d e(bu:Int)(h:0<=bu/\bu<N):aHz (wZ p N c b bu) (wZ p N d e bu) (wZ q N c b bu) (wZ q N d e bu):=by
 unfold wZ;rw[au aM,au aM,au a.right,au a.right];exact⟨a.run N c b bu h,a.two N c b d e bu h⟩
def aHA p q(YT:p.ok)(V:C1 p)(aHB:gy p=true)(K4:∀f∈p.funcs,Ia f)(aHC:mh p.funcs<=1000000000)(u:s5 p q) h(bf:GT h)(oN:FA h) cK d1 cM d2(Y:c0 h cK 6 p.funcs (lb h))(rN:c0 h cM 4 p.globals (CM h)) E X0 S M T a1(aG:nH h E q X0 S M T a1) bj eb aW a8 eo aT dr px bn hn uN e3 Q O G L(oV:nI h bj eb aW Q)(kZ:nI h a8 eo aT O)(Dh:nI h dr px bn G)(Di:nI h hn uN e3 L):
 bc prog 7 ⟨[.agg ⟨hd p cK d1 cM d2⟩,.pointer (some ⟨E,0,none⟩),.string (xb p.funcs),.agg ⟨[.slice bj eb aW,.slice a8 eo aT]⟩,.agg ⟨[.slice dr px bn,.slice hn uN e3]⟩]⟩ h (.bool true) h:=by
 refine bc.rX func7 ntmps7 (λbF=>⟨b4 _,aF,λi b I=>⟨bF.aO i b I,bF.dP i b I⟩⟩) λπ bF=>?_;conv=>arg 2;whnf
 refine Kb ?_;refine W.hH λA pD a0=>?_;have m0:A.m (π 0)=bS (hd p cK d1 cM d2) 25:=a0.bJ 0 (bo:(0:Nat)<3);have m1:A.m (π 1)=bS [.slice bj eb aW,.slice a8 eo aT] 28:=a0.bJ 1 (bo:(1:Nat)<3);have m2:A.m (π 2)=bS [.slice dr px bn,.slice hn uN e3] 28:=a0.bJ 2 (bo:(2:Nat)<3);generalize π 0=R at *;generalize π 1=cv at *;generalize π 2=agG at *;have n0:=a0.aO _ _ m0;have AQ:=a0.aO _ _ m1;have zd:=a0.aO _ _ m2;replace Y:=Y.mono a0.up λ_ _ h=>lp a0.up h;replace rN:=rN.mono a0.up λ_ _ h=>AP a0.up h;replace bf:=bf.up a0.up;replace oN:=oN.up a0.up;replace aG:=aG.up a0.up;replace oV:=oV.up a0.up;replace kZ:=kZ.up a0.up;replace Dh:=Dh.up a0.up;replace Di:=Di.up a0.up;have acY:=λv aE=>a0.j9.dP _ _ m0 v lL;have F:∀H:aV,(∀id,id<A.n->H.m id=A.m id)->∀i b,A.m i=some b->H.m i=some b:=λH b7 i b I=>by rwa[b7 i (a0.aO _ _ I)]
 have bh:nH A R p 25 cK d1 cM d2:=⟨m0,Y.mono (λ_ _ h=>h) λ_ _ h=>h.r,rN⟩;have j8:=aG.m;have ze:=a0.aO _ _ j8;have aHD:∀H:aV,(∀id,id<A.n->H.m id=A.m id)->bc prog 13 ⟨[cE E]⟩ H (bm 0) H:=λH b7=>by
  have:=UU q u.ok (λf ar b I x aa=>by have:=((u.rA.f f ar).2.2 b I).2 x aa;omega) E X0 S M T a1 H (aG.up (F H b7));rw[au u.right] at this;exact dm
 have⟨Bw,gB⟩:=ld (xb p.funcs);have agH:∀H:aV,(∀id,id<A.n->H.m id=A.m id)->bc prog 6 ⟨[.agg ⟨hd p cK d1 cM d2⟩]⟩ H (.string Bw) H:=λH b7=>by
  exact gB▸as8 p (by have:=V.rB;omega) K4 cK d1 cM d2 H (bf.up (F H b7)) (oN.up (F H b7)) (Y.mono (F H b7) λ_ _ h=>lp (F H b7) h)
 have⟨az,ata⟩:=ld (mh q.funcs);have⟨atb,YR⟩:=ld (mh p.funcs);have aHE:=u.size;rw[ata,YR] at aHE;rw[YR] at aHC;have aSh:=V.rB;have aSi:=u.len;have aSj:=u.fA;have aoR:=u.data;have aSk:=u.fu;have aHF:∀H:aV,(∀id,id<A.n->H.m id=A.m id)->bc prog 16 ⟨[cE E]⟩ H (bm (az:Int)) H:=λH b7=>by
  have:=asr q U U E X0 S M T a1 H (F H b7 _ _ j8) (aG.up (F H b7)).cJ;rw[ata] at this;exact dm
 have aHG:∀H:aV,(∀id,id<A.n->H.m id=A.m id)->bc prog 16 ⟨[cE R]⟩ H (bm (atb:Int)) H:=λH b7=>by
  have:=asr p U U R _ cK d1 cM d2 H (F H b7 _ _ m0) (bh.up (F H b7)).cJ;rw[YR] at this;exact dm
 rw[gB];clear gB;apply W.seq;apply W.seq;repeat(first|refine WR ?_|(apply ad.dv;rfl;rfl;rfl;first|exact m0;exact n0;rfl|exact j8;exact ze;rfl)|refine Xs ?_|apply(ad.py (g0:=13));rfl;rfl;rfl;exact λH b7=>aHD H b7;exact hS|apply(ad.py (g0:=6));rfl;rfl;rfl;exact λH b7=>agH H b7;exact hS|apply(ad.py (g0:=16) (v:=bm (az:Int)));rfl;rfl;rfl;exact λH b7=>aHF H b7;exact hS|apply(ad.py (g0:=16) (v:=bm (atb:Int)));rfl;rfl;rfl;exact λH b7=>aHG H b7;exact hS|apply ad.atc;iterate 5 rfl|refine wG ?_|refine uL ?_|refine A0 ?_|refine EK ?_|refine oR ?_)
 repeat(first|apply ad.dv;rfl;rfl;rfl;exact j8;exact ze;rfl|refine wG ?_|refine mc ?_)
 refine W.hz (X:=Nat) (λi=>[(1,cE E),(5,cE R),(8,cE cv),(9,cE agG),(79,.slice S q.funcs.length M),(80,bm (q.funcs.length:Int)),(81,bm (i:Int))])
  (λi B=>cW A B/\i<=q.funcs.length) (λi=>q.funcs.length-i) (λaD a=>⟨0,?_,a.bk,dG _⟩) ?_
 .exact ca
 rintro i B s D ⟨eC,ag⟩;dsimp only at eC ag|-;have ux:=eC.up a0.aO;replace m0:=ux _ _ m0;replace n0:=D.aO _ _ m0;by_cases bs:i<q.funcs.length
 .obtain⟨f',fb⟩:∃f',q.funcs[i]?=some f':=⟨_,ey bs⟩;have⟨f,ar⟩:=cR p.funcs i U;have⟨mz,xS⟩:=u.head i f f' ar fb;have⟨fL,go,pB,ge,c5,pM,n5,dA,bY,B2,dk,eW,eD,lz,_,_⟩:=aG.cJ.get i f' fb;have cQ:=ux _ _ pM;have mD:=D.aO _ _ cQ;have⟨aSl,aSm,aSn,aSo,aHH,aHI,aSp,YD,rU,aga,sQ,aSq,XF,aSr,atd,_,_,_,_⟩:=Y.get i f ar;have ate:=ux _ _ aHI;have aHJ:=D.aO _ _ ate;have aHK:=ka atd (j:=0) rfl;have aHL:=ka atd (j:=1) rfl;subst c5;subst aHH;repeat(first|apply ad.dv;rfl;rfl;rfl;exact m0;exact n0;rfl|refine AY ?_|refine na ?_|refine wQ ?_|refine jj ?_|refine CF ?_|apply ad.dv;rfl;rfl;rfl;exact ate;exact aHJ;(first|exact aHK|exact aHL)|apply ad.atc;(iterate 4 rfl);exact mz)
  refine eK rfl λaD a=>⟨i+1,?_,⟨eC.trans a.bk,U⟩,U⟩;exact ca
 .replace m1:=ux _ _ m1;replace AQ:=D.aO _ _ m1;replace m2:=ux _ _ m2;replace zd:=D.aO _ _ m2;replace WN:∀v∈[Value.slice bj eb aW,.slice a8 eo aT],bw B.n v:=λv aE=>D.dP _ _ m1 v lL;replace Hm:∀v∈[Value.slice dr px bn,.slice hn uN e3],bw B.n v:=λv aE=>D.dP _ _ m2 v lL;have YU:=bh.up ux;have SI:=aG.up ux;have aHM:=X2 B D.aO p YT V R _ cK d1 cM d2 YU bj eb aW a8 eo aT Q O (oV.up ux) (kZ.up ux) 20000 U 20001 U;have aHN:=X2 B D.aO p YT V R _ cK d1 cM d2 YU dr px bn hn uN e3 G L (Dh.up ux) (Di.up ux) 20000 U 20001 U;have aHO:=X2 B D.aO q u.ok u.rA E _ S M T a1 SI bj eb aW a8 eo aT Q O (oV.up ux) (kZ.up ux) 20000 U 20001 U;have aHP:=X2 B D.aO q u.ok u.rA E _ S M T a1 SI dr px bn hn uN e3 G L (Dh.up ux) (Di.up ux) 20000 U 20001 U;have YV:=Yl B D.aO p YT V R _ cK d1 cM d2 YU Q O 20000 U 20001 U;have aHQ:=Yl B D.aO p YT V R _ cK d1 cM d2 YU G L 20000 U 20001 U;have aHR:=Yl B D.aO q u.ok u.rA E _ S M T a1 SI Q O 20000 U 20001 U;have aHS:=Yl B D.aO q u.ok u.rA E _ S M T a1 SI G L 20000 U 20001 U;have atf:=u.four aHB 20001 Q O G L 20000 U;generalize wZ p 20001 Q O 20000=a at *;generalize wZ p 20001 G L 20000=b at *;generalize wZ q 20001 Q O 20000=x at *;generalize wZ q 20001 G L 20000=y at *;have⟨FG,atg⟩:=ld (decide (a.bU=b.bU));have aHT:∀(H:aV) (i j:Nat),H.m i=gQ kV 91 a.bU->H.m j=gQ kV 91 b.bU->bc prog 19 ⟨[cD 3 i a.bU,cD 3 j b.bU]⟩ H (.bool FG) H:=by
   rw[<-atg];exact λH i j J ab=>as9 _ _ i j H J ab YV.bU aHQ.bU
  have aHU:=D.aO _ _ SI.m;refine Hr ?_;refine Hs ?_;apply W.seq;repeat(first|refine anD ?_|(apply(ad.qV (vs:=[]) [] 2);rfl;rfl;first|exact aHM;rfl;rfl;exact p3;exact p3|exact aHN;rfl;rfl;exact p3;exact p3)|refine WZ ?_|refine Hg ?_|refine gr ?_)
  apply W.seq;repeat(first|refine anD ?_|refine WZ ?_|(apply(ad.qV (vs:=[]) [] 2);rfl;rfl;first|exact aHO;rfl;rfl;exact p3;exact p3|exact aHP;rfl;rfl;exact p3;exact p3)|apply ad.acR;rfl;rfl;rfl;exact(show bw B.n (cE E) by simpa using aHU)|refine Hg ?_|refine gr ?_)
  refine W.hH λC rj a4=>?_;have Xj:C.m (s 4)=bS [.int .i64 a.bb,.int .i64 a.exit,cD 1 (s 0) a.out,cD 3 (s 1) a.bU,.int .i64 a.b9] 64:=a4.bJ 4 (bo:(4:Nat)<12);have ct:C.m (s 5)=bS [.int .i64 b.bb,.int .i64 b.exit,cD 1 (s 2) b.out,cD 3 (s 3) b.bU,.int .i64 b.b9] 64:=a4.bJ 5 (bo:(5:Nat)<12);have rx:C.m (s 10)=bS [.int .i64 x.bb,.int .i64 x.exit,cD 1 (s 6) x.out,cD 3 (s 7) x.bU,.int .i64 x.b9] 64:=a4.bJ 10 (bo:(10:Nat)<12);have ll:C.m (s 11)=bS [.int .i64 y.bb,.int .i64 y.exit,cD 1 (s 8) y.out,cD 3 (s 9) y.bU,.int .i64 y.b9] 64:=a4.bJ 11 (bo:(11:Nat)<12);have aqk:C.m (s 0)=gQ jI 2 a.out:=a4.bJ 0 (bo:(0:Nat)<12);have aSs:C.m (s 1)=gQ kV 91 a.bU:=a4.bJ 1 (bo:(1:Nat)<12);have hG:C.m (s 3)=gQ kV 91 b.bU:=a4.bJ 3 (bo:(3:Nat)<12);have aSt:C.m (s 6)=gQ jI 2 x.out:=a4.bJ 6 (bo:(6:Nat)<12);have aSu:C.m (s 7)=gQ kV 91 x.bU:=a4.bJ 7 (bo:(7:Nat)<12);have aSv:C.m (s 9)=gQ kV 91 y.bU:=a4.bJ 9 (bo:(9:Nat)<12);have adx:=a4.aO _ _ Xj;have aow:=a4.aO _ _ ct;have aox:=a4.aO _ _ rx;have aHV:=a4.aO _ _ ll;by_cases J:a.bb=0
  .have⟨x0,eH,cq,xs⟩:=atf.run J;have aSw:C.m (s 6)=gQ jI 2 a.out:=by rwa[<-cq]
   have aAV:∀aD:aV,(∀i,i<C.n->aD.m i=C.m i)->bc prog 18 ⟨[cD 1 (s 6) x.out,cD 1 (s 0) a.out]⟩ aD (.bool true) aD:=λaD he=>by
    rw[cq];exact aHy a.out _ _ aD (by rwa[he _ (a4.ag 6 (bo:(6:Nat)<12))]) (by rwa[he _ (a4.ag 0 (bo:(0:Nat)<12))]) YV.out
   have Z:∀aD:aV,(∀i,i<C.n->aD.m i=C.m i)->bc prog 19 ⟨[cD 3 (s 1) a.bU,cD 3 (s 3) b.bU]⟩ aD (.bool FG) aD:=λaD he =>
    aHT aD _ _ (by rwa[he _ (a4.ag 1 (bo:(1:Nat)<12))]) (by rwa[he _ (a4.ag 3 (bo:(3:Nat)<12))])
   by_cases ab:b.bb=0
   .cases FG with
    | true =>
     have CQ:=atf.two J ab (xr atg);have aHW:∀aD:aV,(∀i,i<C.n->aD.m i=C.m i)->bc prog 19 ⟨[cD 3 (s 7) x.bU,cD 3 (s 9) y.bU]⟩ aD (.bool true) aD:=λaD he=>by
      have:=as9 x.bU y.bU _ _ aD (by rwa[he _ (a4.ag 7 (bo:(7:Nat)<12))]) (by rwa[he _ (a4.ag 9 (bo:(9:Nat)<12))]) aHR.bU aHS.bU;rw[qE CQ] at this;exact dm
     repeat(first|(apply ad.dv;rfl;rfl;rfl;first|exact Xj;exact adx;rfl|exact ct;exact aow;rfl|exact rx;exact aox;rfl|exact ll;exact aHV;rfl)|refine adz ?_|(apply(ad.jy (g0:=19));rfl;rfl;rfl;first|exact λaD eL=>Z aD eL.cx|exact λaD eL=>aHW aD eL.cx)|refine Rn ?_|refine pA ?_|refine c8 ?_|refine Ez ?_|refine vy ?_)
     exact UR
    | false =>
     repeat(first|refine aov ?_|refine adz ?_|apply(ad.jy (g0:=19));rfl;rfl;rfl;exact λaD eL=>Z aD eL.cx|refine Rn ?_|refine pA ?_|refine c8 ?_|refine EC ?_|refine ou ?_)
     exact UR
   .repeat(first|refine aov ?_|refine adz ?_|refine Rn ?_|refine pA ?_|refine hW ?_|refine EC ?_|refine ou ?_)
    exact UR
  .repeat(first|apply ad.dv;rfl;rfl;rfl;exact Xj;exact adx;rfl|refine na ?_|refine uL ?_|refine hL ?_|refine hW ?_|refine EC ?_|refine ou ?_)
   exact UR
def SJ(x:cO):Bool:=decide (x.op=1)||decide (x.op=2)||decide (x.op=22)||decide (x.op=26)||(e6 x.op&&!Sa x.op)
def ati:List cO->dc->Bool
 | [],_=>true
 | x::l,s=>!(SJ x&&!cU s x.dst)&&ati l (ni s x)
def ec(b:bT)(o:dc):Bool:=ati b.ah.reverse (h1 o (e2 b.av))
def aHX(ep:cO->Prop)(bl:List bT):Prop:=∀b∈bl,(∀x∈b.ah,ep x)/\as0 b.av
def aHY bl:u5 bl=gJ bl+2*bl.length:=by
 induction bl with
 | nil=>rfl
 | cons b l a =>
  simp[u5,gJ,gg,nP,e5] at a|-;omega
def aHZ(x:cO):Prop:=x.ok/\x.args.length<=100000
structure agI(bl:List bT):Prop where
 gj:aHX aHZ bl
 len:bl.length<=100000
 size:gJ bl<=1000000
def agI.ok{f}(h:agI f.blocks)(bh:b8 f.params)(ak:f.name.data.size<=140737488351232):Ia f:=by
 refine⟨bh,ak,by rw[aHY];have:=h.len;have:=h.size;omega,λb I x aa=>(h.gj b I).1 x aa,λb I=>(h.gj b I).2,h.len⟩
end
section
attribute[local irreducible] W ad
def aH0{p}(j:p.ok)(d:kj p=true)(aM:gy p=true){f}(c:f∈p.funcs):agI f.blocks:=by
 have⟨aH,aB⟩:=XG j d aM f c;have i:=j.funcs f c;have l:∀b∈f.blocks,b.av.bp=2->0<=b.av.op/\b.av.op<31:=by
  intro b I aj;unfold gy at aM;simp only[cA,ed] at aM;have J:=iB.1 aM.2 f c;unfold p5 at J;simp only[cA,ed] at J;have e:=iB.1 J.2 b I;unfold uW lU at e;simp[cA,ed,l3,mV,beq_eq_false_iff_ne,ne_eq] at e;rcases e.2.1.2 with k|k
  .exact absurd aj k
  .exact U
 unfold kj at d;simp[cA,ed] at d;have⟨m,hm⟩:=Me.1 d.2;have⟨_,_,_,_,n⟩:=ad5 hm f c;refine⟨λb I=>⟨λx aa=>⟨(i.blocks b I).ah x aa,by have:=n b I x aa;omega⟩,?_⟩,aH.len,aH.size⟩;have aS:=(i.blocks b I).av;exact⟨aS.a,aS.b,aS.goto,aS.dx,l b I⟩
def aH1{x y}(c:x.fz=false)(l:x.lY=none)(d:x.dH=[])(e:x.k=x.k')(a:x.w=[])(b:y.fz=false)(o:y.lY=none)(aj:x.k'<=y.k):yq x y=true:=by
 have I:Nat.beq x.k x.k'=true:=by rw[e];simp
 have m:u6 x y=true:=by
  have i:(y.dH.all λj=>!ib j x.w&&(Nat.blt j x.k||Nat.ble x.k' j))=true:=by
   rw[iB];intro j _;rw[a,e];by_cases h:j<x.k'
   .have:=iC.2 h;simp[ib,this]
   .have:=qT.2 (Nat.le_of_not_lt h);simp[ib,this]
  rw[u6,i,c,l,a,qT.2 aj];simp[Dj]
 have n:u6 y x=true:=by
  rw[u6,b,o,d,I];simp[Dj]
 rw[yq,m,n,qT.2 aj,I];rfl
def aH3 bl:mL bl=gJ bl+bl.length:=by
 induction bl with
 | nil=>rfl
 | cons b l a=>unfold mL gJ at *;simp[e5,gg,nP];omega
def aH4{l m}(h:∀f∈l,mL f.blocks<=m):mh l<=l.length*m:=by
 induction l with
 | nil=>simp[mh]
 | cons f l aP =>
  have J:=h f aF;have ab:=aP λg bf=>h g VW;unfold mh at ab|-;simp[e5,gg,nP,uu];omega
def aH5{p}(i:p.ok)(e:kj p=true)(aM:gy p=true):mh p.funcs<=1000000000:=by
 have d:=XG i e aM;have J:=aH4 (m:=1100000) λf ar=>by
  rw[aH3];have:=(d f ar).1.size;have:=(d f ar).1.len;omega
 have ab:=(aqF e).rB;omega
def aH6{p}(b:p.ok)(d:kj p=true)(aM:gy p=true)(c:∀f∈p.funcs,f.name.data.size<=140737488351232):∀f∈p.funcs,Ia f :=
 λf a=>(aH0 b d aM a).ok (b.funcs f a).params (c f a)
def hC(s:c9)(l:List qk)(t:Int):c9:={s with bU:=l,b9:=t}
def atl{s l t}(h:(aX s).bb=0)(aS:t<=s.b9):aX (hC s l t)=hC (aX s) l (t+1):=by
 have⟨J,ab,aK⟩:=E3 h;unfold aX;rw[au (show(hC s l t).bb=0 from ab),ai (show¬(hC s l t).b9>=(hC s l t).bu by show¬t>=s.bu;omega),au ab,ai (show¬s.b9>=s.bu by omega)];rfl
def ayG s e l t:gk (hC s l t) e=hC (gk s e) l t:=by
 unfold gk;by_cases h0:s.bb=0
 .rw[au (show(hC s l t).bb=0 from h0),au h0];rfl
 .rw[ai (show¬(hC s l t).bb=0 from h0),ai h0]
def Vw s x l t:eE (hC s l t) x=hC (eE s x) (x::l) t:=rfl
def aH7 s aI n a l t:jA (hC s l t) aI n a=((jA s aI n a).1,hC (jA s aI n a).2 (⟨2,aI,0⟩::l) t):=by
 unfold jA;by_cases J:my s aI n
 .exact akR
 .rw[ai (show¬my (hC s l t) aI n from J),ai J];by_cases ab:oL s aI n
  .exact akO
  .exact akd
def aH8 s aI n v l t:ox (hC s l t) aI n v=hC (ox s aI n v) (⟨3,aI,0⟩::l) t:=by
 unfold ox;by_cases J:my s aI n
 .exact akR
 .rw[ai (show¬my (hC s l t) aI n from J),ai J];by_cases ab:oL s aI n
  .exact akO
  .exact akd
def atm s e:(gk s e).b9=s.b9:=Jg
def atn s aI n a:(jA s aI n a).2.b9=s.b9:=by
 unfold jA;split
 .rfl
 .split
  .rfl
  .rw[atm];rfl
def ato s aI n v:(ox s aI n v).b9=s.b9:=by
 unfold ox;split
 .rfl
 .split
  .rfl
  .rw[atm];rfl
structure tV(A:Int->Prop)(r cu:List Int):Prop where
 len:cu.length=r.length
 eq:∀i:Int,0<=i->A i->cu.getD i.toNat 0=r.getD i.toNat 0
def K6(A:Int->Prop)(l:List ho):Prop:=∀a∈l,a.ck<0\/A a.ck
def tV.arg{A r cu}(h:tV A r cu){a}(aJ:a.ck<0\/A a.ck):bq cu a=bq r a:=by
 unfold bq;by_cases h0:a.ck<0
 .rw[au h0,au h0]
 .rw[ai h0,ai h0];exact h.eq _ U (aJ.resolve_left h0)
def tV.sub{A a r cu}(h:tV A r cu)(b:∀i,0<=i->a i->A i):tV a r cu:=⟨h.len,λi ag c=>h.eq i ag (b i ag c)⟩
def YW{r:List Int}{n m v}:(r.set n v).getD m 0=if n=m/\n<r.length then v else r.getD m 0:=by
 rw[oG,oG,fl];by_cases h:n=m
 .subst h;by_cases a:n<r.length
  .rw[au rfl,au a,au ⟨rfl,a⟩];rfl
  .rw[au rfl,ai a,ai (λh=>a h.2),wh U]
 .rw[ai h,ai (λb=>h b.1)]
def tV.set{A dz r cu}(h:tV A r cu){d v}(c5:∀i,0<=i->dz i->A i\/i=d):tV dz (eR r d v) (eR cu d v):=by
 refine⟨by rw[ya,ya,h.len],λi ag aJ=>?_⟩;unfold eR;by_cases aq:d>=0
 .rw[au aq,au aq,YW,YW,h.len];by_cases aB:d.toNat=i.toNat/\d.toNat<r.length
  .rw[au aB,au aB]
  .rw[ai aB,ai aB];by_cases hid:i=d
   .have:¬i.toNat<r.length:=λb5=>aB ⟨by rw[hid],by rwa[<-hid]⟩;rw[oG,oG,wh (by rw[h.len];omega),wh U]
   .exact h.eq i ag ((c5 i ag aJ).resolve_right hid)
 .rw[ai aq,ai aq];exact h.eq i ag ((c5 i ag aJ).resolve_right U)
def tV.skip{A dz r cu}(h:tV A r cu){d v}(c5:∀i,0<=i->dz i->A i/\i≠d):tV dz (eR r d v) cu:=by
 refine⟨by rw[ya,h.len],λi ag aJ=>?_⟩;have⟨J,ab⟩:=c5 i ag aJ;unfold eR;by_cases aq:d>=0
 .rw[au aq,YW,ai (by rintro⟨aK,_⟩;omega)];exact h.eq i ag J
 .exact ai aq▸h.eq i ag J
def tV.k2{A r cu}(h:tV A r cu){l}(ao:K6 A l):∀k,k<=l.length->iS cu l k=iS r l k:=by
 intro k;induction k with
 | zero=>intro _;rfl
 | succ k aP =>
  intro aj;rw[iS,iS,aP U];congr 1;refine h.arg (ao _ ?_);rw[oG,ey U];exact aaM U
def agL(p q:fX)(N d:Nat)(g:Int->oY):Prop:=∀(s:c9) (n:Int) (args:List Int) (l:List qk) (t:Int),s.bu<N->0<=t->t<=s.b9->(cH p N d s n args).2.bb=0 ->
 ∃cp b3,cH q N d (hC s l t) n args=((cH p N d s n args).1,hC (cH p N d s n args).2 cp b3)/\t<=b3/\b3<=(cH p N d s n args).2.b9/\s.b9<=(cH p N d s n args).2.b9/\(cH p N d s n args).2.bu=s.bu/\fS (g n) s.bU (cH p N d s n args).2.bU l cp
def Ie{x}(J:¬x.op=28)(b:¬(23<=x.op/\x.op<=25)):x.a∈eI x:=by
 rw[eI,ai J];split
 .exact aF
 .split
  .exact aF
  .first|simp|rw[ai b];simp
def atp{x}(h:e6 x.op=true\/x.op=27):x.b∈eI x:=by
 have ab:¬x.op=28/\¬x.op=29:=by
  rcases h with h|h
  .exact Ji
  .exact U
 rw[eI,ai ab.1,ai ab.2,au h];simp
def K7{g x x'}(h:¬(26<=x.op/\x.op<=29)):lX g x x'=oA:=by
 rw[lX,ai U,ai U,ai U]
def aH9{p q}(O:ye p q){N d g}(V:agL p q N d g){x A Z}(dC:1<=x.op/\x.op<=30)(j:K6 A (eI x))(P:∀i,0<=i->Z i->A i\/(i=x.dst/\¬(x.op=27\/x.op=30))){aI}{s:c9}{r cu l t}(kR:tV A r cu)(cj:s.bu<N)(FI:0<=t)(aS:t<=s.b9)(h0:(bX p (dL p (cH p N d)) aI s r x).1.bb=0):
 ∃m c X,bX q (dL q (cH q N d)) aI (hC s l t) cu x=(hC (bX p (dL p (cH p N d)) aI s r x).1 m c,X)/\t+1<=c/\c<=(bX p (dL p (cH p N d)) aI s r x).1.b9/\s.b9+1<=(bX p (dL p (cH p N d)) aI s r x).1.b9/\(bX p (dL p (cH p N d)) aI s r x).1.bu=s.bu/\tV Z (bX p (dL p (cH p N d)) aI s r x).2 X/\fS (lX g x x) s.bU (bX p (dL p (cH p N d)) aI s r x).1.bU l m:=by
 have aC:(aX s).bb=0:=by
  by_cases h:(aX s).bb=0
  .exact h
  .rw[bX,ai h] at h0;exact absurd h0 h
 have⟨T,_,_⟩:=E3 aC;have C:=(Kx s).bu;have ul:=Fe s;have US:=λi ag o=>(P i ag o).imp id And.left;unfold bX at h0|-;rw[au aC] at h0|-;rw[atl aC aS,au (show(hC (aX s) l (t+1)).bb=0 from aC),<-ul,<-C];have Y:=T.symm;rw[Y];have xz:t+1<=(aX s).b9:=U;have S:(aX s).bu<N:=U;generalize aX s=u at h0 xz S|-;clear Y T C ul aC;by_cases I:x.op=1\/x.op=2
 .rw[au I] at h0|-;rw[au I,K7 U,kR.arg (j _ (Ie U U))];exact P6
 rw[ai I] at h0|-;rw[ai I];by_cases w:e6 x.op=true
 .have s9:=rC.1 w;rw[au w] at h0|-;rw[au w,K7 U,kR.arg (j _ (Ie U U)),kR.arg (j _ (atp (.inl w)))];by_cases aj:(h7 x.op (bq r x.a) (bq r x.b)).2=true
  .rw[au aj] at h0|-;exact au aj▸⟨l,t+1,_,rfl,U,xz,sl _,rfl,kR.set US,fS.none _ _⟩
  .rw[ai aj] at h0;exact xy
 rw[ai w] at h0|-;rw[ai w];have s9:¬(3<=x.op/\x.op<=21):=λh=>w (rC.2 h);by_cases H:x.op=22
 .rw[au H] at h0|-;rw[au H,K7 U,kR.arg (j _ (Ie U U))];exact P6
 rw[ai H] at h0|-;rw[ai H];by_cases G:x.op=23
 .rw[au G] at h0|-;have bh:CW q x.ref=CW p x.ref:=by unfold CW;rw[O.fu]
  rw[au G,K7 U,bh];exact P6
 rw[ai G] at h0|-;rw[ai G];by_cases E:x.op=24
 .rw[au E] at h0|-;rw[au E,K7 U];exact P6
 rw[ai E] at h0|-;rw[ai E];by_cases F:x.op=25
 .rw[au F] at h0|-;rw[au F,K7 U];exact P6
 rw[ai F] at h0|-;rw[ai F];by_cases B:x.op=26
 .rw[au B] at h0|-;rw[au B,kR.arg (j _ (Ie U U)),aH7];have bf:lX g x x=C3 true λ_=>oA:=by
   rw[lX,au (.inl B),qE rfl]
  rw[bf];refine⟨_,t+1,_,rfl,U,by rwa[atn],by rw[atn];omega,?_,kR.set US,?_⟩
  .unfold jA;split
   .rfl
   .split
    .rfl
    .exact Jg
  .refine fS.one (l:=⟨2,i64 (bq r x.a+x.off),0⟩) ?_;rw[aqH,au rfl];exact Cc
 rw[ai B] at h0|-;rw[ai B];by_cases v:x.op=27
 .rw[au v] at h0|-;rw[au v,kR.arg (j _ (Ie U U)),kR.arg (j _ (atp (.inr v))),aH8];have bf:lX g x x=C3 true λ_=>oA:=by
   rw[lX,au (.inr v),qE rfl]
  rw[bf];refine⟨_,t+1,_,rfl,U,by rwa[ato],by rw[ato];omega,?_,kR.sub λi ag o=>(P i ag o).resolve_right (λh=>h.2 (.inl v)),?_⟩
  .unfold ox;split
   .rfl
   .split
    .rfl
    .exact Jg
  .refine fS.one (l:=⟨3,i64 (bq r x.a+x.off),0⟩) ?_;rw[aqI,au rfl];exact Cc
 rw[ai v] at h0|-;rw[ai v];by_cases y:x.op=30
 .rw[au y] at h0|-;rw[au y,K7 U,kR.arg (j _ (Ie U U))];by_cases aH:u.out.length=10000
  .rw[au aH] at h0;exact xy
  .rw[ai aH] at h0|-;exact ai (show¬(hC u l (t+1)).out.length=10000 from aH)▸⟨l,t+1,_,rfl,U,xz,by show u.b9<=u.b9;omega,rfl,kR.sub λi ag o=>(P i ag o).resolve_right (λh=>h.2 (.inr y)),fS.none _ _⟩
 rw[ai y] at h0|-;rw[ai y];have aB:x.op=28\/x.op=29:=U;have mZ:iS cu x.args x.args.length=iS r x.args x.args.length:=by
  refine kR.k2 (λa o=>j a ?_) _ (b4 _);unfold eI;by_cases D:x.op=28
  .rwa[au D]
  .rw[ai D,au U];exact IT _ o
 have K:∃m c,dL q (cH q N d) (hC u l (t+1)) cu x=((dL p (cH p N d) u r x).1,hC (dL p (cH p N d) u r x).2 m c)/\t+1<=c/\c<=(dL p (cH p N d) u r x).2.b9/\u.b9<=(dL p (cH p N d) u r x).2.b9/\(dL p (cH p N d) u r x).2.bu=u.bu/\fS (lX g x x) u.bU (dL p (cH p N d) u r x).2.bU l m:=by
  have h0:(dL p (cH p N d) u r x).2.bb=0:=h0;unfold dL at h0|-;rw[lX,ai (show¬(x.op=26\/x.op=27) by omega),mZ];by_cases z:x.op=29
  .have o:=kR.arg (j _ (Ie U U));rw[au z] at h0|-;rw[au z,ai (show¬x.op=28 by omega),au z,o];split at h0
   .exact xy
   .rename_i aG;rw[ai aG,O.len,ai aG,O.par];split at h0
    .rename_i bh;rw[au bh,au bh,Vw];have⟨m,c,e,Q,R,M,L,R0⟩:=V (eE u ⟨4,bq r x.a,0⟩) (zD (bq r x.a)) (iS r x.args x.args.length) (⟨4,bq r x.a,0⟩::l) (t+1) S U xz h0;exact⟨m,c,e,Q,R,M,L,fS.one (l:=⟨4,bq r x.a,0⟩) (by rwa[au rfl])⟩
    .exact xy
  .have D:x.op=28:=U;rw[ai z] at h0|-;rw[ai z,au D];exact V u x.ref _ l (t+1) S U xz h0
 have⟨m,c,e,Q,R,M,L,nf⟩:=K;exact e▸⟨m,c,_,rfl,Q,R,M,L,kR.set US,nf⟩
def OD(x:cO):oY:=if x.op=26 then C3 false λ_=>oA else oA
def aIa{p cl x}(dC:1<=x.op/\x.op<=26){aI s r}(h0:(bX p cl aI s r x).1.bb=0)l:
 ∃v u,bX p cl aI s r x=(hC s u (s.b9+1),eR r x.dst v)/\(x.op=2->v=bq r x.a)/\fS (OD x) s.bU u l l:=by
 have aC:(aX s).bb=0:=by
  by_cases h:(aX s).bb=0
  .exact h
  .rw[bX,ai h] at h0;exact absurd h0 h
 have⟨C,B,A⟩:=E3 aC;have z:aX s=hC s s.bU (s.b9+1):=by
  rw[aX,au B,ai U];rfl
 have ak:¬x.op=26->OD x=oA:=λh=>by rw[OD,ai h]
 unfold bX at h0|-;rw[au aC] at h0|-;rw[z] at h0|-;by_cases c:x.op=1\/x.op=2
 .exact au c▸⟨_,_,rfl,λ_=>rfl,Mk⟩
 rw[ai c] at h0|-;by_cases d:e6 x.op=true
 .have y:=rC.1 d;rw[au d] at h0|-;by_cases aj:(h7 x.op (bq r x.a) (bq r x.b)).2=true
  .exact au aj▸⟨_,_,rfl,λh=>absurd (Or.inr h) c,Mk⟩
  .rw[ai aj] at h0;exact xy
 rw[ai d] at h0|-;have y:¬(3<=x.op/\x.op<=21):=λh=>d (rC.2 h);by_cases w:x.op=22
 .exact au w▸⟨_,_,rfl,λh=>absurd (Or.inr h) c,Mk⟩
 rw[ai w] at h0|-;by_cases t:x.op=23
 .exact au t▸⟨_,_,rfl,λh=>absurd (Or.inr h) c,Mk⟩
 rw[ai t] at h0|-;by_cases m:x.op=24
 .exact au m▸⟨_,_,rfl,λh=>absurd (Or.inr h) c,Mk⟩
 rw[ai m] at h0|-;by_cases o:x.op=25
 .exact au o▸⟨_,_,rfl,λh=>absurd (Or.inr h) c,Mk⟩
 rw[ai o] at h0|-;have j:x.op=26:=U;rw[au j] at h0|-;refine⟨(jA (hC s s.bU (s.b9+1)) (i64 (bq r x.a+x.off)) x.size.toNat x.signed).1,⟨2,i64 (bq r x.a+x.off),0⟩::s.bU,?_,λh=>absurd (Or.inr h) c,?_⟩
 .unfold jA at h0|-;split at h0
  .rename_i i;rw[au i];rfl
  .rename_i i;rw[ai i];split at h0
   .rename_i aj;rw[au aj];rfl
   .exact xy
 .rw[OD,au j];exact fS.one (by rw[ai bo];exact Cc)
inductive atr(C:Type)| both (d:C)
 | skip (d:C)
 | dC (d:C)
 | ret
 | jump (d:C)
 | fork (d e:C)
 | agM (d e:C)
structure Bx(C:Type)where
 xs:C->List cO
 lj:C->List cO
 t:C->kt
 b3:C->kt
 A:C->Int->Prop
def Bx.Sub{C:Type}(V:Bx C)(d c:C):Prop:=∀i:Int,0<=i->V.A d i->V.A c i
def Bx.yr{C:Type}(V:Bx C)(f f':dp)(d:C)(g YX:Int):Prop:=∃b b',f.blocks[g.toNat]?=some b/\f'.blocks[YX.toNat]?=some b'/\V.xs d=b.ah/\V.t d=b.av/\V.lj d=b'.ah/\V.b3 d=b'.av
def OE(f f':dp){C:Type}(V:Bx C)(c:C):atr C->Prop
 | .both d=>∃x,V.xs c=x::V.xs d/\V.lj c=x::V.lj d/\V.t d=V.t c/\V.b3 d=V.b3 c/\(1<=x.op/\x.op<=30)/\K6 (V.A c) (eI x)/\∀i,0<=i->V.A d i->V.A c i\/(i=x.dst/\¬(x.op=27\/x.op=30))
 | .skip d=>∃x,V.xs c=x::V.xs d/\V.lj d=V.lj c/\V.t d=V.t c/\V.b3 d=V.b3 c/\(1<=x.op/\x.op<=26)/\((∀i,0<=i->V.A d i->V.A c i/\i≠x.dst)\/(x.op=2/\x.a.ck=x.dst/\0<=x.dst/\V.Sub d c))
 | .dC d=>V.xs c=[]/\(V.t c).bp=1/\(∃b,f.blocks[(V.t c).goto.toNat]?=some b/\V.xs d=b.ah/\V.t d=b.av)/\V.lj d=V.lj c/\V.b3 d=V.b3 c/\V.Sub d c
 | .ret=>V.xs c=[]/\V.lj c=[]/\(V.t c).bp=3/\(V.b3 c).bp=3/\(V.b3 c).a=(V.t c).a/\K6 (V.A c) [(V.t c).a]
 | .jump d=>V.xs c=[]/\V.lj c=[]/\(V.t c).bp=1/\(V.b3 c).bp=1/\V.yr f f' d (V.t c).goto (V.b3 c).goto/\V.Sub d c
 | .fork d e=>V.xs c=[]/\V.lj c=[]/\(V.t c).bp=2/\(V.b3 c).bp=2/\(V.b3 c).op=(V.t c).op/\(V.b3 c).a=(V.t c).a/\(V.b3 c).b=(V.t c).b/\K6 (V.A c) [(V.t c).a,(V.t c).b]/\V.yr f f' d (V.t c).goto (V.b3 c).goto/\V.yr f f' e (V.t c).dx (V.b3 c).dx/\V.Sub d c/\V.Sub e c
 | .agM d e=>V.xs c=[]/\V.lj c=[]/\(V.t c).bp=2/\(V.b3 c).bp=1/\V.yr f f' d (V.t c).goto (V.b3 c).goto/\V.yr f f' e (V.t c).dx (V.b3 c).goto/\V.Sub d c/\V.Sub e c
structure View(f f':dp)where
 C:Type
 V:Bx C
 act:C->atr C
 ok:∀c,OE f f' V c (act c)
 iJ:C
 SK:V.yr f f' iJ 0 0
 ae:f'.ae=f.ae
 bZ:f'.bZ=f.bZ
def agN(l:List cO):cO:=l.headD {op:=0,dst:=0,a:=⟨0,0⟩,b:=⟨0,0⟩,size:=0,signed:=false,hO:=false,ref:=0,off:=0,args:=[]}
section
variable{f f':dp} (W:View f f')
noncomputable def tW(gc:Int->oY)(u7:W.C->oY):Nat->W.C->oY
 | 0,c=>match W.act c with
  | .dC d=>u7 d
  | .jump d=>u7 d
  | .fork d e=>C3 true λl=>if l.a=1 then u7 d else u7 e
  | .agM d e=>C3 false λl=>if l.a=1 then u7 d else u7 e
  | _=>oA
 | n+1,c=>match W.act c with
  | .both d=>HP (lX gc (agN (W.V.xs c)) (agN (W.V.xs c))) (tW gc u7 n d)
  | .skip d=>HP (OD (agN (W.V.xs c))) (tW gc u7 n d)
  | _=>oA
noncomputable def K8(gc:Int->oY):Nat->W.C->oY
 | 0,_=>oA
 | k+1,c=>tW W gc (K8 gc k) (W.V.xs c).length c
end
end
section
def aIb{s}(h:(aX s).bb=0):aX s=hC s s.bU (s.b9+1):=by
 have⟨tB,EP,apC⟩:=E3 h;rw[aX,au EP,ai U];rfl
def aIc{r a d}(h:a.ck=d)(h0:0<=d)i:(eR r d (bq r a)).getD i 0=r.getD i 0:=by
 rw[eR,bq,au h0,ai U,YW,h];by_cases aB:d.toNat=i/\d.toNat<r.length
 .rw[au aB,aB.1]
 .rw[ai aB]
section
variable{p q:fX}{N fF:Nat}{g:Int->oY}{f f':dp}
def tail_nil ah k t s r:lH ah f k t (gu ah [] s r)=lH ah f k t (s,r):=rfl
def tail_cons{ah k t x xs s r}(h:(lH ah f k t (gu ah (x::xs) s r)).2.1.bb=0):(ah s r x).1.bb=0/\lH ah f k t (gu ah (x::xs) s r)=lH ah f k t (gu ah xs (ah s r x).1 (ah s r x).2):=by
 rw[gu] at h|-;by_cases J:(ah s r x).1.bb=0
 .exact au J▸⟨J,rfl⟩
 .rw[ai J] at h;rw[lH,ai J] at h;exact absurd h J
def ats{ah k t s r}(h:(lH ah f k t (s,r)).2.1.bb=0):s.bb=0/\(aX s).bb=0:=by
 unfold lH at h;by_cases h0:s.bb=0
 .rw[au h0] at h;by_cases J:(aX s).bb=0
  .exact⟨h0,J⟩
  .rw[ai J] at h;exact absurd h J
 .rw[ai h0] at h;exact absurd h h0
def att{ah k t s r}(h0:s.bb=0)(J:(aX s).bb=0)(aj:t.bp=3):lH ah f k t (s,r)=(bq r t.a,aX s,r):=by
 rw[lH,au h0,au J,au aj]
def SL{ah k t s r}(h0:s.bb=0)(J:(aX s).bb=0)(aj:t.bp=1){b}(I:f.blocks[t.goto.toNat]?=some b):lH ah f (k+1) t (s,r)=lH ah f k b.av (gu ah b.ah (aX s) r):=by
 rw[lH,au h0,au J,ai U,au aj];exact KG _ _ _ _ _ _ J b I
def agO{ah k t s r}(h0:s.bb=0)(J:(aX s).bb=0)(aj:t.bp=2)(c:nc t.op (bq r t.a) (bq r t.b)=true){b}(I:f.blocks[t.goto.toNat]?=some b):lH ah f (k+1) t (s,r)=lH ah f k b.av (gu ah b.ah (eE (aX s) (jN true)) r):=by
 rw[lH,au h0,au J,ai U,ai U,au c];exact KG _ _ _ _ _ _ (show(eE (aX s) (jN true)).bb=0 from J) b I
def agP{ah k t s r}(h0:s.bb=0)(J:(aX s).bb=0)(aj:t.bp=2)(c:¬nc t.op (bq r t.a) (bq r t.b)=true){b}(I:f.blocks[t.dx.toNat]?=some b):lH ah f (k+1) t (s,r)=lH ah f k b.av (gu ah b.ah (eE (aX s) (jN false)) r):=by
 rw[lH,au h0,au J,ai U,ai U,ai c];exact KG _ _ _ _ _ _ (show(eE (aX s) (jN false)).bb=0 from J) b I
def aId(p q:fX)(N fF:Nat)(g:Int->oY)(W:View f f')(aI:List Int)(k:Nat)(c:W.C):Prop:=∀(k':Nat) (s:c9) (r cu:List Int) (l:List qk) (t:Int),k<=k'->tV (W.V.A c) r cu->s.bu<N->0<=t->t<=s.b9->s.bu<=s.b9+k ->
 (lH (bX p (dL p (cH p N fF)) aI) f k (W.V.t c) (gu (bX p (dL p (cH p N fF)) aI) (W.V.xs c) s r)).2.1.bb=0 ->
 ∃cp b3 hV,lH (bX q (dL q (cH q N fF)) aI) f' k' (W.V.b3 c) (gu (bX q (dL q (cH q N fF)) aI) (W.V.lj c) (hC s l t) cu)=((lH (bX p (dL p (cH p N fF)) aI) f k (W.V.t c) (gu (bX p (dL p (cH p N fF)) aI) (W.V.xs c) s r)).1,hC (lH (bX p (dL p (cH p N fF)) aI) f k (W.V.t c) (gu (bX p (dL p (cH p N fF)) aI) (W.V.xs c) s r)).2.1 cp b3,hV)/\
  t<=b3/\b3<=(lH (bX p (dL p (cH p N fF)) aI) f k (W.V.t c) (gu (bX p (dL p (cH p N fF)) aI) (W.V.xs c) s r)).2.1.b9/\s.b9<=(lH (bX p (dL p (cH p N fF)) aI) f k (W.V.t c) (gu (bX p (dL p (cH p N fF)) aI) (W.V.xs c) s r)).2.1.b9/\(lH (bX p (dL p (cH p N fF)) aI) f k (W.V.t c) (gu (bX p (dL p (cH p N fF)) aI) (W.V.xs c) s r)).2.1.bu=s.bu/\
  fS (tW W g (K8 W g k) (W.V.xs c).length c) s.bU (lH (bX p (dL p (cH p N fF)) aI) f k (W.V.t c) (gu (bX p (dL p (cH p N fF)) aI) (W.V.xs c) s r)).2.1.bU l cp
def aIe(cZ:ye p q)(lk:agL p q N fF g)(W:View f f')aI:∀(k:Nat) (n:Nat) (c:W.C),(W.V.xs c).length=n->aId p q N fF g W aI k c:=by
 intro k;induction k with
 | zero =>
  intro n;induction n with
  | zero =>
   intro c ak k' s r cu l t aj o cj X aS ar h0;rw[Gt ak,tail_nil] at h0;have⟨J,ab⟩:=ats h0;have:=(E3 ab).2.2;omega
  | succ n aP =>
   intro c ak k' s r cu l t aj o cj X aS ar h0;obtain⟨x,xs,aa⟩:∃x xs,W.V.xs c=x::xs:=by
    rcases h:W.V.xs c with _|⟨x,xs⟩
    .rw[h] at ak;cases ak
    .exact⟨x,xs,rfl⟩
   rw[aa] at h0;have⟨J,_⟩:=tail_cons h0;have aC:(aX s).bb=0:=by
    by_cases h:(aX s).bb=0
    .exact h
    .rw[bX,ai h] at J;exact absurd J h
   have:=(E3 aC).2.2;omega
 | succ k T =>
  intro n;induction n with
  | zero =>
   intro c ak k' s r cu l t aj o cj X aS ar h0;have xH:=Gt ak;have aQ:=W.ok c;rw[ak];rw[xH,tail_nil] at h0|-;have⟨J,ab⟩:=ats h0;have gl:=E3 ab;have P:=Fe s;have aIf:=(Kx s).bu;have Q:=atl (l:=l) ab aS;have R:(hC s l t).bb=0:=J;have Y:(aX (hC s l t)).bb=0:=by rwa[Q]
   obtain⟨S,rfl⟩:∃j,k'=j+1:=⟨k'-1,U⟩;rcases lr:W.act c with d|d|d|_|d|⟨d,e⟩|⟨d,e⟩
   .exact alz
   .exact alz
   .rw[lr] at aQ;have⟨_,I,⟨b,m,E,H⟩,w,L,O⟩:=aQ;rw[SL J ab I m,<-E,<-H] at h0|-;have⟨B,D,y,u,M,z,G,F,K⟩:=T _ d rfl (S+1) (aX s) r cu l t U (o.sub O) U X U U h0;rw[w,L] at u;refine⟨B,D,y,by rw[<-u,aIb ab];rfl,M,z,U,U,?_⟩
    .unfold tW;rwa[lr,<-P]
   .rw[lr] at aQ;have⟨_,I,m,E,H,w⟩:=aQ;rw[I,tail_nil,att J ab m,att R Y E,Q,H,o.arg (w _ aF)];refine⟨l,t+1,cu,rfl,U,Qd,by show s.b9<=(aX s).b9;omega,aIf,?_⟩;show fS _ s.bU (aX s).bU l l;rw[P];rw[tW,lr];exact Cc
   .rw[lr] at aQ;have⟨_,I,m,E,⟨b,b',H,w,L,O,a9,OH⟩,OI⟩:=aQ;rw[I,tail_nil];rw[SL J ab m H,<-L,<-O] at h0|-;rw[SL R Y E w,<-a9,<-OH,Q];have⟨B,D,y,u,M,z,G,F,K⟩:=T _ d rfl S (aX s) r cu l (t+1) U (o.sub OI) U U U U h0;refine⟨B,D,y,u,U,z,U,U,?_⟩;unfold tW;rwa[lr,<-P]
   .rw[lr] at aQ;have⟨_,I,m,E,jx,fD,gX,u2,⟨b,b',H,w,L,O,a9,OH⟩,⟨aW,se,jX,hI,ob,vR,uP,SM⟩,OI,a12⟩:=aQ;rw[I,tail_nil];have v1:=o.arg (u2 (W.V.t c).a aF);have v2:=o.arg (u2 (W.V.t c).b aF);by_cases b5:nc (W.V.t c).op (bq r (W.V.t c).a) (bq r (W.V.t c).b)=true
    .have Ig:nc (W.V.b3 c).op (bq cu (W.V.b3 c).a) (bq cu (W.V.b3 c).b)=true:=by rwa[jx,fD,gX,v1,v2]
     rw[agO J ab m b5 H,<-L,<-O] at h0|-;rw[agO R Y E Ig w,<-a9,<-OH,Q,Vw];have⟨B,D,y,u,M,z,G,F,K⟩:=T _ d rfl S (eE (aX s) (jN true)) r cu (jN true::l) (t+1) U (o.sub OI) Vh U Qd U5 h0;have G:(aX s).b9<=_:=G;have F:_=(aX s).bu:=F;refine⟨B,D,y,u,U,z,U,U,?_⟩;rw[tW,lr,<-P];refine fS.one (l:=jN true) ?_;exact K
    .have Ig:¬nc (W.V.b3 c).op (bq cu (W.V.b3 c).a) (bq cu (W.V.b3 c).b)=true:=by rwa[jx,fD,gX,v1,v2]
     rw[agP J ab m b5 jX,<-ob,<-vR] at h0|-;rw[agP R Y E Ig hI,<-uP,<-SM,Q,Vw];have⟨B,D,y,u,M,z,G,F,K⟩:=T _ e rfl S (eE (aX s) (jN false)) r cu (jN false::l) (t+1) U (o.sub a12) Vh U Qd U5 h0;have G:(aX s).b9<=_:=G;have F:_=(aX s).bu:=F;refine⟨B,D,y,u,U,z,U,U,?_⟩;rw[tW,lr,<-P];refine fS.one (l:=jN false) ?_;exact K
   .rw[lr] at aQ;have⟨_,I,m,E,⟨b,b',H,w,L,O,a9,OH⟩,⟨aW,se,jX,hI,ob,vR,uP,SM⟩,OI,a12⟩:=aQ;rw[I,tail_nil];by_cases b5:nc (W.V.t c).op (bq r (W.V.t c).a) (bq r (W.V.t c).b)=true
    .rw[agO J ab m b5 H,<-L,<-O] at h0|-;rw[SL R Y E w,<-a9,<-OH,Q];have⟨B,D,y,u,M,z,G,F,K⟩:=T _ d rfl S (eE (aX s) (jN true)) r cu l (t+1) U (o.sub OI) Vh U Qd U5 h0;have G:(aX s).b9<=_:=G;have F:_=(aX s).bu:=F;refine⟨B,D,y,u,U,z,U,U,?_⟩;rw[tW,lr,<-P];refine fS.one (l:=jN true) ?_;exact K
    .rw[agP J ab m b5 jX,<-ob,<-vR] at h0|-;rw[SL R Y E hI,<-uP,<-SM,Q];have⟨B,D,y,u,M,z,G,F,K⟩:=T _ e rfl S (eE (aX s) (jN false)) r cu l (t+1) U (o.sub a12) Vh U Qd U5 h0;have G:(aX s).b9<=_:=G;have F:_=(aX s).bu:=F;refine⟨B,D,y,u,U,z,U,U,?_⟩;rw[tW,lr,<-P];refine fS.one (l:=jN false) ?_;exact K
  | succ n aP =>
   intro c ak k' s r cu l t aj o cj X aS ar h0;have aQ:=W.ok c;have hl:W.V.xs c≠[]:=λh=>by rw[h] at ak;cases ak
   rw[ak];rcases lr:W.act c with d|d|d|_|d|⟨d,e⟩|⟨d,e⟩
   .rw[lr] at aQ;have⟨x,ch,I,m,E,H,w,L⟩:=aQ;have Z:(W.V.xs d).length=n:=alD;have bf:tW W g (K8 W g (k+1)) (n+1) c=HP (lX g x x) (tW W g (K8 W g (k+1)) n d):=by
     rw[tW,lr];dsimp only;rw[ch];rfl
    rw[bf];rw[ch] at h0|-;rw[I];obtain⟨J,ab⟩:=tail_cons h0;rw[ab] at h0|-;obtain⟨fY,t1,gn,u,M,z,G,F,K,aIg⟩:=aH9 cZ lk H w L o cj X aS J;have h4:=aP d Z k' _ _ gn fY t1 aj K U U z U (m▸h0);rw[m,E,Z] at h4;obtain⟨B,D,y,g1,g2,g3,g4,g5,g6⟩:=h4;refine⟨B,D,y,?_,U,g3,U,U,aIg.seq g6⟩;rw[gu,u];dsimp only;exact au (show(hC (bX p (dL p (cH p N fF)) aI s r x).1 fY t1).bb=0 from J)▸g1
   .rw[lr] at aQ;obtain⟨x,ch,I,m,E,H,w⟩:=aQ;have Z:(W.V.xs d).length=n:=alD;have bf:tW W g (K8 W g (k+1)) (n+1) c=HP (OD x) (tW W g (K8 W g (k+1)) n d):=by
     rw[tW,lr];dsimp only;rw[ch];rfl
    rw[bf];rw[ch] at h0|-;obtain⟨J,ab⟩:=tail_cons h0;rw[ab] at h0|-;obtain⟨v,dT,u,M,z⟩:=aIa H J l;rw[u] at h0 J|-;dsimp only at h0|-;have aIh:tV (W.V.A d) (eR r x.dst v) cu:=by
     rcases w with w|⟨b1,hf,hZ,Ju⟩
     .exact o.skip w
     .refine⟨by rw[ya,o.len],λi ag aJ=>?_⟩;rw[M b1,aIc hf hZ];exact o.eq i ag (Ju i ag aJ)
    have h4:=aP d Z k' (hC s dT (s.b9+1)) (eR r x.dst v) cu l t aj aIh cj X (by show t<=s.b9+1;omega) (by show s.bu<=s.b9+1+((k+1:Nat):Int);omega) (m▸h0);rw[I,m,E,Z] at h4;obtain⟨B,D,y,g1,g2,g3,g4,g5,g6⟩:=h4;have g4:s.b9+1<=_:=g4;exact⟨B,D,y,g1,g2,g3,U,g5,z.seq g6⟩
   .exact Qg
   .exact Qg
   .exact Qg
   .exact Qg
   .exact Qg
end
structure SN(p q:fX):Prop extends ye p q where
 view:∀(i:Nat) (f f':dp),p.funcs[i]?=some f->q.funcs[i]?=some f'->Nonempty (View f f')
open Classical in
noncomputable def OJ(p q:fX)(N:Nat):Nat->Int->oY
 | 0,_=>oA
 | d+1,n=>match p.funcs[n.toNat]?,q.funcs[n.toNat]? with
  | some f,some f'=>if h:Nonempty (View f f') then K8 (Classical.choice h) (OJ p q N d) N (Classical.choice h).iJ else oA
  | _,_=>oA
def aIi{p N d s n args}(h:100<s.et+1):cH p N (d+1) s n args=(0,gk {s with et:=s.et+1} 45):=by rw[cH,au h]
def atu{p N d s n args}(h:¬100<s.et+1)(ar:p.funcs[n.toNat]?=none):cH p N (d+1) s n args=(0,s):=by rw[cH,ai h,ar]
def atv{p N d s n args}(h:¬100<s.et+1){f}(a:p.funcs[n.toNat]?=some f):cH p N (d+1) s n args=((iI (bX p (dL p (cH p N d)) (mI s.sp f.bZ f.bZ.length)) f N 0 (mf s f) (jW f args)).1,
 {(iI (bX p (dL p (cH p N d)) (mI s.sp f.bZ f.bZ.length)) f N 0 (mf s f) (jW f args)).2.1 with sp:=s.sp,et:=(iI (bX p (dL p (cH p N d)) (mI s.sp f.bZ f.bZ.length)) f N 0 (mf s f) (jW f args)).2.1.et-1}):=by rw[cH,ai h,a]
def aIj{p q}(h:SN p q)jn:∀d,agL p q (jn+1) d (OJ p q (jn+1) d):=by
 intro d;induction d with
 | zero=>exact λs n args l t _ _ aS _=>⟨l,t,rfl,sl _,aS,sl _,rfl,by rw[OJ];exact Cc⟩
 | succ d aP =>
  intro s n args l t cj FI aS h0;by_cases J:100<s.et+1
  .rw[aIi J] at h0;exact xy
  .have HI:¬100<(hC s l t).et+1:=J;rw[OJ];rcases ar:p.funcs[n.toNat]? with _|f
   .have fb:q.funcs[n.toNat]?=none:=UX;rw[atu J ar,atu HI fb];exact⟨l,t,rfl,sl _,aS,sl _,rfl,fS.none _ _⟩
   .have ao:=(cS.1 ar).1;obtain⟨f',fb⟩:∃f',q.funcs[n.toNat]?=some f':=⟨_,ey GQ⟩;have aE:=h.view _ f f' ar fb;rw[atv J ar] at h0|-;rw[atv HI fb,fb];dsimp only at h0|-;rw[dif_pos aE];generalize Classical.choice aE=W at *;have KI:jW f' args=jW f args:=by unfold jW;rw[W.ae]
    have Cq:mf (hC s l t) f'=hC (mf s f) l t:=by rw[mf,W.bZ];rfl
    rw[W.bZ,KI,Cq,show(hC s l t).sp=s.sp from rfl];have⟨b,b',dJ,oT,tC,Cg,asW,aIk⟩:=W.SK;have rK:s.bb=0:=by
     by_cases aC:s.bb=0
     .exact aC
     .rw[iI,ai (show¬(mf s f).bb=0 from aC)] at h0;exact MA
    have ba:iI (bX p (dL p (cH p (jn+1) d)) (mI s.sp f.bZ f.bZ.length)) f (jn+1) 0 (mf s f) (jW f args)=lH (bX p (dL p (cH p (jn+1) d)) (mI s.sp f.bZ f.bZ.length)) f jn (W.V.t W.iJ) (gu (bX p (dL p (cH p (jn+1) d)) (mI s.sp f.bZ f.bZ.length)) (W.V.xs W.iJ) (mf s f) (jW f args)):=by
     rw[tC,Cg];exact KG _ _ _ _ _ _ (show(mf s f).bb=0 from rK) b dJ
    have a1:iI (bX q (dL q (cH q (jn+1) d)) (mI s.sp f.bZ f.bZ.length)) f' (jn+1) 0 (hC (mf s f) l t) (jW f args)=lH (bX q (dL q (cH q (jn+1) d)) (mI s.sp f.bZ f.bZ.length)) f' jn (W.V.b3 W.iJ) (gu (bX q (dL q (cH q (jn+1) d)) (mI s.sp f.bZ f.bZ.length)) (W.V.lj W.iJ) (hC (mf s f) l t) (jW f args)):=by
     rw[asW,aIk];exact KG _ _ _ _ _ _ (show(hC (mf s f) l t).bb=0 from rK) b' oT
    rw[ba] at h0|-;rw[a1];have⟨cp,b3,hV,g1,g2,g3,g4,g5,g6⟩:=(aIe h.toye aP W (mI s.sp f.bZ f.bZ.length) jn _ W.iJ rfl jn (mf s f) (jW f args) (jW f args) l t (b4 _) ⟨rfl,λ_ _ _=>rfl⟩ cj FI aS (by show s.bu<=s.b9+(jn:Int);omega)) h0;rw[g1];refine⟨cp,b3,rfl,g2,g3,g4,g5,?_⟩;exact g6
structure xc(p q:fX):Prop where
 run:∀(N:Nat) (b2 bI:List Int) (bu:Int),0<=bu/\bu<N->(gS p N b2 bI bu).bb=0->∃l t,gS q N b2 bI bu=hC (gS p N b2 bI bu) l t/\t<=(gS p N b2 bI bu).b9
 two:∀(N:Nat) (b2 bI jm ix:List Int) (bu:Int),0<=bu/\bu<N->(gS p N b2 bI bu).bb=0->(gS p N jm ix bu).bb=0->(gS p N b2 bI bu).bU=(gS p N jm ix bu).bU->(gS q N b2 bI bu).bU=(gS q N jm ix bu).bU
def xc.refl p:xc p p:=⟨λN b a bu _ _=>⟨_,_,rfl,sl _⟩,λ_ _ _ _ _ _ _ _ _ h=>h⟩
def xc.trans{p q r}(J:xc p q)(j:xc q r):xc p r:=by
 refine⟨λN c b bu a h0=>?_,λN c b e h bu a h0 k n=>?_⟩
 .have⟨l,t,d,o⟩:=J.run N c b bu a h0;have⟨m,t2,g1,g2⟩:=j.run N c b bu a (by rwa[d]);refine⟨m,t2,by rw[g1,d];rfl,?_⟩;rw[d] at g2;exact aaX g2 o
 .have⟨l,t,d,_⟩:=J.run N c b bu a h0;have⟨s,u,i,_⟩:=J.run N e h bu a k;exact j.two N c b e h bu a (by rwa[d]) (by rwa[i]) (J.two N c b e h bu a h0 k n)
def agQ{p q}(h:SN p q)(N:Nat)b2 bI(bu:Int)(cj:0<=bu/\bu<N)(h0:(gS p N b2 bI bu).bb=0):
 ∃cp b3,gS q N b2 bI bu=hC (gS p N b2 bI bu) cp b3/\b3<=(gS p N b2 bI bu).b9/\OJ p q N 101 p.fA (gS p N b2 bI bu).bU.reverse=some (cp.reverse,[]):=by
 have j:nV q b2 bI=nV p b2 bI:=ame;obtain⟨jn,rfl⟩:∃jn,N=jn+1:=⟨N-1,U⟩;unfold gS at h0|-;rw[j,h.fA];generalize gl:HN bu (nV p b2 bI) (List.replicate 416000 0)=st at *;have ao:st.bU=[]:=VR;have aC:st.b9=0:=VR;have ar:st.bu=bu:=VR;have J:(cH p (jn+1) 101 st p.fA []).2.bb=0:=by
  unfold HO at h0;split at h0
  .exact h3
  .exact h0
 have⟨cp,b3,e,a1,i,_,_,n,m,g1,g2,g3⟩:=aIj h jn 101 st p.fA [] [] 0 U (sl _) U J;have c:hC st [] 0=st:=by rw[<-ao,<-aC];rfl
 rw[c] at e;rw[e];unfold HO;rw[au J,au (show(hC (cH p (jn+1) 101 st p.fA []).2 cp b3).bb=0 from J)];refine⟨cp,b3,rfl,i,?_⟩;show OJ p q (jn+1) 101 p.fA (cH p (jn+1) 101 st p.fA []).2.bU.reverse=_;rw[g1,g2,ao];have:=g3 [];simpa using this
def SN.runK{p q}(h:SN p q):xc p q:=by
 refine⟨λN b2 bI bu cj h0=>?_,λN b2 bI jm ix bu cj h0 J ao=>?_⟩
 .have⟨l,t,ba,a1,_⟩:=agQ h N b2 bI bu cj h0;exact⟨l,t,ba,a1⟩
 .have⟨fY,t1,ba,_,g1⟩:=agQ h N b2 bI bu cj h0;have⟨hh,t2,a1,_,g2⟩:=agQ h N jm ix bu cj J;rw[ao,g2] at g1;have:fY.reverse=hh.reverse:=akw;rw[ba,a1];exact List.reverse_inj.1 this
def o5(s t:dc):Prop:=∀i:Int,cU s i=true->cU t i=true
def o5.refl s:o5 s s:=λ_ h=>h
def o5.trans{a b c}(J:o5 a b)(d:o5 b c):o5 a c:=λi h=>d i (J i h)
def YY:∀(l:List ho) (s:dc),(h1 s l).length=s.length
 | [],_=>rfl
 | a::l,s=>by
  show(h1 (jU s a.ck) l).length=_;rw[YY l,yV]
def agR s x:(ni s x).length=s.length:=by rw[ni,YY,By]
def OK:∀(l:List ho) (s:dc),o5 s (h1 s l)
 | [],s=>o5.refl s
 | a::l,s=>λi h=>OK l (jU s a.ck) i (by rw[CR,h];rfl)
def atw:∀(l:List ho) {s t:dc},s.length=t.length->o5 s t->o5 (h1 s l) (h1 t l)
 | [],_,_,_,h=>h
 | a::l,s,t,b,h=>by
  refine atw l (by rw[yV,yV,b]) λi ag=>?_;rw[CR,l3] at ag|-;rcases ag with ag|ag
  .exact .inl (h i ag)
  .right;rwa[<-b]
def aIm{s t}(h:o5 s t)d:o5 (o6 s d) (o6 t d):=λi ag=>by
 rw[G4,cA] at ag|-;exact⟨h i ag.1,ag.2⟩
def aIn{s t}(a:s.length=t.length)(h:o5 s t)x:o5 (ni s x) (ni t x):=atw _ (by rw[By,By,a]) (aIm h _)
def YZ:∀(l:List ho) (s:dc) (a:ho),a∈l->0<=a.ck->a.ck.toNat/64<s.length->cU (h1 s l) a.ck=true
 | b::l,s,a,c,h0,d=>by
  show cU (h1 (jU s b.ck) l) a.ck=true;rcases dI.1 c with rfl|c
  .refine OK l _ _ ?_;rw[CR];simp[h0,d]
  .exact YZ l _ a c h0 VB
def iK:List cO->dc->dc×List cO
 | [],s=>(s,[])
 | x::l,s=>if !B5 x&&(decide (x.dst<0)||!cU (iK l s).1 x.dst) then iK l s else if x.op=2/\x.a.ck=x.dst then iK l s else(ni (iK l s).1 x,x::(iK l s).2)
def atx:∀(l r:List cO) (s:dc),Aa (l.reverse++r) s []=Aa r (iK l s).1 (iK l s).2
 | [],r,s=>rfl
 | x::l,r,s=>by
  rw[Uv,pX,List.singleton_append,atx l (x::r) s,Aa,iK];split
  .rfl
  .split<;>rfl
def aIo b o:Dk b o={b with ah:=(iK b.ah (h1 o (e2 b.av))).2}:=by
 unfold Dk;have:=atx b.ah [] (h1 o (e2 b.av));rw[l2] at this;rw[this];rfl
def SP:∀(l:List cO) (s:dc),(iK l s).1.length=s.length
 | [],_=>rfl
 | x::l,s=>by
  rw[iK];split
  .exact SP l s
  .split
   .exact SP l s
   .rw[agR];exact SP l s
def aty:∀(l:List cO) (s:dc),o5 (iK l s).1 (l.reverse.foldl ni s)
 | [],s=>o5.refl s
 | x::l,s=>by
  have c:=aty l s;have d:(iK l s).1.length=(l.reverse.foldl ni s).length:=by
   rw[SP];have:∀(m:List cO) (s:dc),(m.foldl ni s).length=s.length:=by
    intro m;induction m with
    | nil=>intro s;rfl
    | cons y m c=>intro s;rw[At,c,agR]
   exact(this _ _).symm
  rw[Uv,I8,At,List.foldl_nil];have I:=aIn d c x;rw[iK];split
  .rename_i h;simp[cA,l3,ed,mV] at h;refine o5.trans (λi ag=>?_) I;refine OK _ _ _ ?_;rw[G4,ag,uk,mV,yE];intro e;rcases h.2 with b|b
   .rw[e] at b;unfold cU at ag;simp[cA,ed] at ag;omega
   .rw[e,ag] at b;cases b
  .split
   .rename_i J b;refine o5.trans (λi ag=>?_) I;by_cases e:x.dst=i
    .have h0:0<=i:=by
      unfold cU at ag;simp[cA,ed] at ag;exact ag.1
     have j:i.toNat/64<(iK l s).1.length:=by
      unfold cU at ag;simp[cA] at ag;rcases hw:(iK l s).1[i.toNat/64]? with _|w
      .rw[hw] at ag;exact absurd ag.2 (λx=>by cases x)
      .exact(cS.1 hw).1
     have:=YZ (eI x) (o6 (iK l s).1 x.dst) x.a (Ie U U) (by rwa[b.2,e]) (by rwa[By,b.2,e]);unfold ni;rw[b.2] at this;rw[e] at this|-;exact dm
    .refine OK _ _ _ ?_;rwa[G4,ag,uk,mV,yE]
   .exact I
structure vS(bl:List bT)(n:Nat)(st:nj):Prop where
 li:st.ah.length=bl.length
 bL:st.c3.length=bl.length
 OL:∀s∈st.ah,s.length=n
 OM:∀s∈st.c3,s.length=n
def agS ah:∀(l:List Int) (o:dc),(pQ ah o l).length=o.length
 | [],_=>rfl
 | k::l,o=>by
  show(pQ ah (fT o (ah[k.toNat]?.getD [])) l).length=_;rw[agS ah l,Jc]
def atz ah:∀(l:List Int) (o:dc),o5 o (pQ ah o l)
 | [],o=>o5.refl o
 | k::l,o=>λi h=>atz ah l _ i (by rw[agT,h];rfl)
def atA{ah n}(hw:∀s∈ah,s.length=n):∀(l:List Int) (o:dc),o.length=n->∀k∈l,∀a,ah[k.toNat]?=some a->o5 a (pQ ah o l)
 | j::l,o,aH,k,aj,a,b=>by
  rcases dI.1 aj with rfl|aj
  .intro i ag;show cU (pQ ah (fT o (ah[k.toNat]?.getD [])) l) i=true;refine atz ah l _ i ?_;rw[agT,b];have d:i.toNat/64<o.length:=by
    rw[aH,<-hw a (bQ b)];unfold cU at ag;simp[cA] at ag;rcases c:a[i.toNat/64]? with _|w
    .rw[c] at ag;exact absurd ag.2 (λx=>by cases x)
    .exact(cS.1 c).1
   simp[ag,d]
  .exact atA hw l (fT o (ah[j.toNat]?.getD [])) (by rw[Jc,aH]) k aj a b
def aIp(m:List cO):∀s:dc,(m.foldl ni s).length=s.length:=by
 induction m with
 | nil=>intro s;rfl
 | cons y m a=>intro s;rw[At,a,agR]
def aIq b o:(xd b o).length=o.length:=by rw[xd,aIp,YY]
def vS.step{bl n st}(h:vS bl n st)i:vS bl n (o7 bl st i):=by
 unfold o7;rcases I:bl[i]? with _|b
 .exact h
 .have ag:=(cS.1 I).1;dsimp only;refine⟨by show(st.ah.set _ _).length=_;rw[mq];exact h.li,by show(st.c3.set _ _).length=_;rw[mq];exact h.bL,λs aC=>?_,λs aC=>?_⟩
  .rcases vh aC with aC|rfl
   .exact h.OL s aC
   .rw[Jc];have⟨a,aJ⟩:=cR st.ah i (by rwa[h.li]);exact aJ▸h.OL a (bQ aJ)
  .rcases vh aC with aC|rfl
   .exact h.OM s aC
   .rw[agS];have⟨a,aJ⟩:=cR st.c3 i (by rwa[h.bL]);exact aJ▸h.OM a (bQ aJ)
def vS.down{bl n}:∀(i:Nat) {st:nj},vS bl n st->vS bl n (o8 bl i st)
 | 0,_,h=>h
 | i+1,_,h=>vS.down i (h.step i)
def aIr{bl st i}(h:(o7 bl st i).again=false):st.again=false:=by
 unfold o7 at h;rcases I:bl[i]? with _|b
 .rw[I] at h;exact h
 .rw[I] at h;dsimp only at h;rw[PR] at h;exact h.1
def atB{bl}:∀(i:Nat) {st:nj},(o8 bl i st).again=false->st.again=false
 | 0,_,h=>h
 | i+1,_,h=>aIr (atB i h)
structure agU(bl:List bT)(st:nj)(i:Nat)(b:bT)(a o:dc):Prop where
 aIs:st.ah[i]?=some a
 io:st.c3[i]?=some o
 u7:∀k∈di b.av,∀c,st.ah[k.toNat]?=some c->o5 c o
 li:o5 (xd b o) a
def aIt{bl n st}(ar:vS bl n st){i}(h:(o7 bl st i).again=false):(o7 bl st i).ah=st.ah:=by
 unfold o7 at h|-;rcases I:bl[i]? with _|b
 .rfl
 .rw[I] at h;dsimp only at h|-;rw[PR] at h;have ag:=(cS.1 I).1;have⟨a,aJ⟩:=cR st.ah i (by rwa[ar.li]);rw[aJ] at h|-;rw[yG,(by simpa using h.2:fT a (xd b (pQ st.ah (st.c3[i]?.getD []) (di b.av)))=a)];refine kg λj=>?_;rw[fl];by_cases e:i=j
  .subst e;rw[au rfl,au (by rwa[ar.li]),aJ]
  .rw[ai e]
def atC{bl n}:∀(m:Nat) {st:nj},vS bl n st->m<=bl.length->(o8 bl m st).again=false->(o8 bl m st).ah=st.ah/\
 (∀i b,i<m->bl[i]?=some b->∃a o,agU bl (o8 bl m st) i b a o)/\∀i,m<=i->(o8 bl m st).c3[i]?=st.c3[i]?
 | 0,st,ar,_,h=>⟨rfl,λi b ag=>absurd ag (Gs i),λ_ _=>rfl⟩
 | m+1,st,ar,hm,h=>by
  have aw:(o8 bl m (o7 bl st m)).again=false:=h;have J:=atB m aw;have ag:=aIt ar J;have⟨E,F,z⟩:=atC m (ar.step m) U aw;have u:(o8 bl (m+1) st).ah=st.ah:=E.trans ag;refine⟨u,λi b M I=>?_,λi D=>?_⟩
  .rcases PY i m with H|K
   .exact F i b H I
   .obtain rfl:i=m:=U;have L:=(cS.1 I).1;have⟨a,aJ⟩:=cR st.ah i (by rwa[ar.li]);have⟨d,y⟩:=cR st.c3 i (by rwa[ar.bL]);have B:o7 bl st i=⟨st.ah.set i (fT a (xd b (pQ st.ah d (di b.av)))),st.c3.set i (pQ st.ah d (di b.av)),st.again||fT a (xd b (pQ st.ah d (di b.av))) != a⟩:=by
     rw[o7,I,aJ,y];rfl
    have C:fT a (xd b (pQ st.ah d (di b.av)))=a:=by
     have t:=J;rw[B] at t;have t:=(PR.1 t).2;simpa using t
    have G:(o8 bl (i+1) st).c3[i]?=some (pQ st.ah d (di b.av)):=by
     show(o8 bl i (o7 bl st i)).c3[i]?=_;rw[z i (b4 _),B];show(st.c3.set i _)[i]?=_;rw[fl,au rfl,au (by rwa[ar.bL])]
    have l:=ar.OM d (bQ y);refine⟨a,pQ st.ah d (di b.av),by rwa[u],G,λk aj c aB=>?_,λj r=>?_⟩
    .rw[u] at aB;exact atA ar.OL _ _ l k aj c aB
    .rw[<-C,agT];have v:j.toNat/64<a.length:=by
      rw[ar.OL a (bQ aJ),<-l,<-agS st.ah (di b.av) d,<-aIq b];unfold cU at r;simp[cA] at r;rcases A:(xd b (pQ st.ah d (di b.av)))[j.toNat/64]? with _|w
      .rw[A] at r;exact absurd r.2 (λx=>by cases x)
      .exact(cS.1 A).1
     simp[r,v]
  .show(o8 bl m (o7 bl st m)).c3[i]?=_;rw[z i U];unfold o7;rcases I:bl[m]? with _|b
   .rfl
   .show(st.c3.set m _)[i]?=_;rw[fl,ai U]
def aIv{bl n st Dl}(ar:vS bl n st)(h:vE bl st Dl):vS bl n Dl/\∀i b,bl[i]?=some b->∃a o,agU bl Dl i b a o:=by
 induction h with
 | stop h =>
  rename_i st;have Km:vS bl n {st with again:=false}:=⟨ar.li,ar.bL,ar.OL,ar.OM⟩;have⟨_,a1,_⟩:=atC bl.length Km (b4 _) h;exact⟨Km.down bl.length,λi b I=>a1 i b (cS.1 I).1 I⟩
 | go h _ aP =>
  exact aP (vS.down bl.length ⟨ar.li,ar.bL,ar.OL,ar.OM⟩)
def aIw bl ae:vS bl (((max ae 0).toNat+63)/64) (yZ bl ae):=by
 refine⟨QC,QC,λs aC=>?_,λs aC=>?_⟩;all_goals
  have:=(List.mem_replicate.1 aC).2;subst this;rw[hi,rz]
end
section
section
variable{p:fX}{f:dp}{st:nj}
structure Y0(f:dp)(st:nj)where
 i:Nat
 n:Nat
 b:bT
 o:dc
 I:f.blocks[i]?=some b
 aH:st.c3[i]?=some o
def xe(f:dp)(st:nj):Bx (Y0 f st) where
 xs c:=c.b.ah.drop c.n
 lj c:=(iK (c.b.ah.drop c.n) (h1 c.o (e2 c.b.av))).2
 t c:=c.b.av
 b3 c:=c.b.av
 A c:=λi=>cU (iK (c.b.ah.drop c.n) (h1 c.o (e2 c.b.av))).1 i=true
def agV(f:dp)(st:nj):dp:={f with blocks:=wS f.blocks st.c3}
def atE{i:Nat}{b o}(I:f.blocks[i]?=some b)(aH:st.c3[i]?=some o):(agV f st).blocks[i]?=some {b with ah:=(iK b.ah (h1 o (e2 b.av))).2}:=by
 show(wS f.blocks st.c3)[i]?=_;rw[agW f.blocks st.c3 i b o I aH,aIo]
def atF{n a}(h:mg n a)(h0:0<=a.ck):a.ck.toNat/64<((max n 0).toNat+63)/64:=by
 have:=h.2;omega
def aIx(L:pL p f)(D:vS f.blocks (((max f.ae 0).toNat+63)/64) st)(H:∀i b,f.blocks[i]?=some b->∃a o,agU f.blocks st i b a o)c:∃a,OE f (agV f st) (xe f st) c a:=by
 have K:=bQ c.I;have aH:=D.OM c.o (bQ c.aH);cases aq:c.b.ah.drop c.n with
 | cons x l =>
  have z:c.b.ah.drop (c.n+1)=l:=Vm;have w:=L.ah _ K x (Gz VO);let d:Y0 f st:=⟨c.i,c.n+1,c.b,c.o,c.I,c.aH⟩
  have m:(xe f st).xs d=l:=z;have u:(xe f st).xs c=x::l:=aq;have ayP:(xe f st).lj d=(iK l (h1 c.o (e2 c.b.av))).2:=by show(iK (c.b.ah.drop (c.n+1)) _).2=_;rw[z]
  have j:(xe f st).A d=λi=>cU (iK l (h1 c.o (e2 c.b.av))).1 i=true:=by show(λi=>cU (iK (c.b.ah.drop (c.n+1)) _).1 i=true)=_;rw[z]
  have QI:(xe f st).lj c=(iK (x::l) (h1 c.o (e2 c.b.av))).2:=by show(iK (c.b.ah.drop c.n) _).2=_;rw[aq]
  have t:(xe f st).A c=λi=>cU (iK (x::l) (h1 c.o (e2 c.b.av))).1 i=true:=by show(λi=>cU (iK (c.b.ah.drop c.n) _).1 i=true)=_;rw[aq]
  have dC:=w.op;by_cases J:(!B5 x&&(decide (x.dst<0)||!cU (iK l (h1 c.o (e2 c.b.av))).1 x.dst))=true
  .have bf:iK (x::l) (h1 c.o (e2 c.b.av))=iK l (h1 c.o (e2 c.b.av)):=by rw[iK,au J]
   refine⟨.skip d,x,by rw[u,m],ab6,rfl,rfl,⟨dC.1,?_⟩,.inl λi ag aJ=>?_⟩
   .simp[cA,mV] at J;have hw:=J.1;unfold B5 at hw;split at hw
    .rename_i aS;unfold Sa at aS;simp[cA,ed] at aS;omega
    .split at hw
     .exact U
     .unfold vF at hw;simp[Au,cA,ed] at hw;omega
   .rw[j] at aJ;rw[t,bf];refine⟨aJ,λe=>?_⟩;simp[cA,l3,ed,mV] at J;rcases J.2 with r|r
    .exact U
    .have aJ:cU _ i=true:=aJ;rw[e,r] at aJ;cases aJ
  .by_cases r:x.op=2/\x.a.ck=x.dst
   .have bf:iK (x::l) (h1 c.o (e2 c.b.av))=iK l (h1 c.o (e2 c.b.av)):=by rw[iK,ai J,au r]
    refine⟨.skip d,x,by rw[u,m],ab6,rfl,rfl,⟨dC.1,U⟩,.inr ⟨r.1,r.2,?_,λi ag aJ=>?_⟩⟩
    .have:=w.right;rw[X7 U] at this;simpa using this
    .rw[j] at aJ;rwa[t,bf]
   .have bf:iK (x::l) (h1 c.o (e2 c.b.av))=(ni (iK l (h1 c.o (e2 c.b.av))).1 x,x::(iK l (h1 c.o (e2 c.b.av))).2):=by rw[iK,ai J,ai r]
    refine⟨.both d,x,by rw[u,m],ab6,rfl,rfl,dC,λa aJ=>?_,λi ag aJ=>?_⟩
    .by_cases h0:a.ck<0
     .exact .inl h0
     .right;rw[t,bf];exact YZ _ _ a aJ U (by rw[By,(λl=>by rw[SP,YY,aH]:∀l:List cO,(iK l (h1 c.o (e2 c.b.av))).1.length=((max f.ae 0).toNat+63)/64)];exact atF (w.reads a aJ) U)
    .rw[j] at aJ;rw[t,bf];by_cases e:x.dst=i
     .refine .inr ⟨e.symm,λaC=>?_⟩;have aM:=w.right;unfold k0 at aM;rcases aC with aC|aC
      .rw[ai U,au aC] at aM;simp[cA,uq] at aM;omega
      .rw[ai U,ai U,ai U,ai U,ai U,ai U,ai U,au aC] at aM;simp[uq] at aM;omega
     .left;refine OK _ _ _ ?_;rw[G4];have aJ:cU _ i=true:=aJ;rw[aJ,Ao e];rfl
 | nil =>
  have B:=L.av _ K;have u:(xe f st).xs c=[]:=aq;have QI:(xe f st).lj c=[]:=by show(iK (c.b.ah.drop c.n) _).2=_;rw[aq];rfl
  have t:(xe f st).A c=λi=>cU (h1 c.o (e2 c.b.av)) i=true:=by show(λi=>cU (iK (c.b.ah.drop c.n) _).1 i=true)=_;rw[aq];rfl
  have v:K6 ((xe f st).A c) (e2 c.b.av):=λa aJ=>by
   by_cases h0:a.ck<0
   .exact .inl h0
   .right;exact t▸YZ _ _ a aJ U (by rw[aH];exact atF (B.reads a aJ) U)
  have⟨_,S,oQ⟩:=H c.i c.b c.I;have O:=uj (oQ.io.symm.trans c.aH);subst O;have go:∀k∈di c.b.av,∃d:Y0 f st,(xe f st).yr f (agV f st) d k k/\(xe f st).Sub d c:=by
   intro k aj;have Q:=B.next k aj;have⟨b,I⟩:=cR f.blocks k.toNat U;have⟨a2,G,y⟩:=H _ b I;refine⟨⟨k.toNat,0,b,G,I,y.io⟩,⟨b,_,I,atE I y.io,rfl,rfl,rfl,rfl⟩,λi ag aJ=>?_⟩;rw[t];have aJ:cU (iK (b.ah.drop 0) (h1 G (e2 b.av))).1 i=true:=aJ;rw[Mh] at aJ;exact OK _ _ _ (oQ.u7 k aj a2 y.aIs i (y.li i (aty _ _ i aJ)))
  have R:=B.bp;by_cases C:c.b.av.bp=3
  .refine⟨.ret,u,QI,C,C,rfl,λa aJ=>v a ?_⟩;unfold e2;rwa[ai U,au C]
  .by_cases bY:c.b.av.bp=1
   .have⟨d,F,E⟩:=go c.b.av.goto Qh;exact⟨.jump d,u,QI,bY,bY,F,E⟩
   .have dk:c.b.av.bp=2:=U;have⟨d,F,E⟩:=go c.b.av.goto GM;have⟨e,M,P⟩:=go c.b.av.dx GM;refine⟨.fork d e,u,QI,dk,dk,rfl,rfl,rfl,λa aJ=>v a ?_,F,M,E,P⟩;unfold e2;rwa[au dk]
theorem atH(bz:pL p f){bl}(h:zu f.ae f.blocks bl):Nonempty (View f {f with blocks:=bl}):=by
 have⟨aM⟩:=h;rename_i st;have⟨agX,e7⟩:=aIv (aIw f.blocks f.ae) aM;have lr:=aIx bz agX e7;obtain⟨b,I⟩:∃b,f.blocks[0]?=some b:=⟨_,ey bz.pos⟩;have⟨a,o,oQ⟩:=e7 0 b I;exact⟨{C:=Y0 f st,V:=xe f st,act:=λc=>(lr c).choose,ok:=λc=>(lr c).choose_spec,iJ:=⟨0,0,b,o,I,oQ.io⟩,SK:=⟨b,_,I,atE I oQ.io,rfl,rfl,rfl,rfl⟩,ae:=rfl,bZ:=rfl}⟩
end
inductive vT(bl:List bT):Int->Int->Prop
 | refl (k:Int):vT bl k k
 | dC {k m:Int}{b:bT} (I:bl[k.toNat]?=some b) (ag:b.ah=[]) (aj:b.av.bp=1) (h:vT bl b.av.goto m):vT bl k m
def FJ bl:∀(n:Nat) (k:Int),vT bl k (Dm bl n k)
 | 0,k=>.refl k
 | n+1,k=>by
  rw[Dm];rcases I:bl[k.toNat]? with _|b
  .exact .refl k
  .dsimp only;split
   .exact .refl k
   .rename_i h;exact .dC I (Gt U) U (FJ bl n _)
def vT.NC{bl}(aS:im bl){k m}(h:vT bl k m)(aj:0<=k/\k<bl.length):0<=m/\m<bl.length:=by
 induction h with
 | refl=>exact aj
 | dC I ag fV _ aP=>exact aP (aS _ (bQ I) _ (by rw[di,au fV];simp))
def Ci(bl:List bT)(t b3:kt):Prop :=
 (t.bp=3/\b3.bp=3/\b3.a=t.a)\/(t.bp=1/\b3.bp=1/\vT bl t.goto b3.goto)\/(t.bp=2/\b3.bp=2/\b3.op=t.op/\b3.a=t.a/\b3.b=t.b/\vT bl t.goto b3.goto/\vT bl t.dx b3.dx)\/(t.bp=2/\b3.bp=1/\vT bl t.goto b3.goto/\vT bl t.dx b3.goto)
def Ci.self bl{t}(h:1<=t.bp/\t.bp<=3):Ci bl t t:=by
 by_cases eD:t.bp=3
 .exact .inl ⟨eD,eD,rfl⟩
 .by_cases bY:t.bp=1
  .exact .inr (.inl ⟨bY,bY,.refl _⟩)
  .exact .inr (.inr (.inl ⟨U,U,rfl,rfl,rfl,.refl _,.refl _⟩))
def aIy bl{t}(h:1<=t.bp/\t.bp<=3):Ci bl t (nT bl t):=by
 unfold nT;split
 .rename_i bY;exact .inr (.inl ⟨bY,bY,FJ bl _ _⟩)
 .split
  .rename_i dk;split
   .rename_i he;exact .inr (.inr (.inr ⟨dk,rfl,FJ bl _ _,by rw[show(rZ (jg bl t.goto)).goto=jg bl t.goto from rfl,he];exact FJ bl _ _⟩))
   .exact .inr (.inr (.inl ⟨dk,dk,rfl,rfl,rfl,FJ bl _ _,FJ bl _ _⟩))
  .exact Ci.self bl h
def Ci.next{bl t b3}(h:Ci bl t b3){k'}(aj:k'∈di b3):∃k∈di t,vT bl k k':=by
 unfold di at aj|-;rcases h with⟨ch,a2,_⟩|⟨ch,a2,a3⟩|⟨ch,a2,_,_,_,a3,a4⟩|⟨ch,a2,a3,a4⟩
 .rw[ai U,ai U] at aj;cases aj
 .rw[au a2] at aj;obtain rfl:k'=b3.goto:=Qw;exact au ch▸⟨_,aF,a3⟩
 .rw[ai U,au a2] at aj;rw[ai U,au ch];have:k'=b3.goto\/k'=b3.dx:=Qw;rcases this with rfl|rfl
  .exact⟨_,aF,a3⟩
  .exact⟨_,aF,a4⟩
 .rw[au a2] at aj;obtain rfl:k'=b3.goto:=Qw;rw[ai U,au ch];exact⟨t.goto,aF,a3⟩
structure ln(bl:List bT):Prop where
 pos:0<bl.length
 op:∀b∈bl,∀x∈b.ah,1<=x.op/\x.op<=30
 bp:∀b∈bl,1<=b.av.bp/\b.av.bp<=3
 gV:im bl
def pL.gj{p f}(h:pL p f):ln f.blocks:=⟨h.pos,λb I x aa=>(h.ah b I x aa).op,λb I=>(h.av b I).bp,λb I k aj=>(h.av b I).next k aj⟩
structure Ih(bl ef:List bT):Prop where
 gj:ln bl
 len:ef.length=bl.length
 aI:∀(i:Nat) (b b':bT),bl[i]?=some b->ef[i]?=some b'->b'.ah=b.ah/\Ci bl b.av b'.av
def Ih.ko{bl ef}(h:Ih bl ef){b'}(I:b'∈ef):∃b∈bl,b'.ah=b.ah/\Ci bl b.av b'.av:=by
 have⟨i,ag⟩:=nO.1 I;have ao:=(cS.1 ag).1;have⟨b,iQ⟩:=cR bl i (by rwa[<-h.len]);exact⟨b,bQ iQ,h.aI i b b' iQ ag⟩
def Ih.Lb{bl ef}(h:Ih bl ef):ln ef:=by
 refine⟨h.len▸h.gj.pos,λb' da x aa=>?_,λb' da=>?_,λb' da k aj=>?_⟩
 .have⟨b,I,e,_⟩:=h.ko da;rw[e] at aa;exact h.gj.op b I x aa
 .have⟨b,I,_,e⟩:=h.ko da;rcases e with⟨_,a2,_⟩|⟨_,a2,_⟩|⟨_,a2,_⟩|⟨_,a2,_⟩<;>omega
 .have⟨b,I,_,e⟩:=h.ko da;have⟨j,aA,aS⟩:=e.next aj;exact h.len▸aS.NC h.gj.gV (h.gj.gV b I j aA)
structure Y1(bl ef:List bT)where
 k:Int
 n:Nat
 m:Int
 b:bT
 b':bT
 I:bl[k.toNat]?=some b
 da:ef[m.toNat]?=some b'
 h:k=m\/(n=0/\vT bl k m)
def Lc(bl ef:List bT):Bx (Y1 bl ef) where
 xs c:=c.b.ah.drop c.n
 lj c:=c.b'.ah.drop c.n
 t c:=c.b.av
 b3 c:=c.b'.av
 A _:=λ_=>True
def FK{l}:K6 (λ_=>True) l:=λ_ _=>.inr trivial
section
variable{f:dp}{ef:List bT}
def aIz(s:Ih f.blocks ef)c:∃a,OE f {f with blocks:=ef} (Lc f.blocks ef) c a:=by
 have w:=bQ c.I;have r:∀d:Y1 f.blocks ef,(Lc f.blocks ef).Sub d c:=λ_ _ _ _=>trivial;have go:∀k k',k∈di c.b.av->vT f.blocks k k'->∃d:Y1 f.blocks ef,(Lc f.blocks ef).yr f {f with blocks:=ef} d k k':=by
  intro k k' aj aS;have D:=s.gj.gV _ w k aj;have H:=aS.NC s.gj.gV D;have⟨b,I⟩:=cR f.blocks k.toNat U;have⟨b',da⟩:=cR ef k'.toNat (by rw[s.len];omega);exact⟨⟨k,0,k',b,b',I,da,.inr ⟨rfl,aS⟩⟩,b,b',I,da,rfl,rfl,rfl,rfl⟩
 have C:c.k=c.m->∃a,OE f {f with blocks:=ef} (Lc f.blocks ef) c a:=by
  intro i;have da:=c.da;rw[<-i] at da;have⟨ag,G⟩:=s.aI _ _ _ c.I da;cases aq:c.b.ah.drop c.n with
  | cons x l =>
   have z:c.b.ah.drop (c.n+1)=l:=Vm;refine⟨.both ⟨c.k,c.n+1,c.m,c.b,c.b',c.I,c.da,.inl i⟩,x,?_,?_,rfl,rfl,s.gj.op _ w x (Gz VO),FK,λ_ _ _=>.inl trivial⟩
   .show c.b.ah.drop c.n=x::c.b.ah.drop (c.n+1);rw[aq,z]
   .show c.b'.ah.drop c.n=x::c.b'.ah.drop (c.n+1);rw[ag,aq,z]
  | nil =>
   have v:(Lc f.blocks ef).xs c=[]:=aq;have u:(Lc f.blocks ef).lj c=[]:=by show c.b'.ah.drop c.n=[];rwa[ag]
   rcases G with⟨ch,a2,o⟩|⟨ch,a2,o⟩|⟨ch,a2,o,y,J,F,E⟩|⟨ch,a2,o,y⟩
   .exact⟨.ret,v,u,ch,a2,o,FK⟩
   .have⟨d,aq⟩:=go _ _ (by rw[di,au ch];simp) o;exact⟨.jump d,v,u,ch,a2,aq,r d⟩
   .have⟨d,aq⟩:=go _ _ Vd F;have⟨e,he⟩:=go c.b.av.dx _ Vd E;exact⟨.fork d e,v,u,ch,a2,o,y,J,FK,aq,he,r d,r e⟩
   .have⟨d,aq⟩:=go _ _ Vd o;have⟨e,he⟩:=go c.b.av.dx _ Vd y;exact⟨.agM d e,v,u,ch,a2,aq,he,r d,r e⟩
 rcases c.h with i|⟨ak,aS⟩
 .exact C i
 .by_cases i:c.k=c.m
  .exact C i
  .have t:=c.I;generalize M:c.k=O at aS t i;generalize K:c.m=L at aS i;rcases aS with _|⟨I,ag,aj,h⟩
   .exact absurd rfl i
   .rename_i b;rw[I] at t;injection t with t;subst t;subst K;have⟨B,A⟩:=cR f.blocks c.b.av.goto.toNat (by have:=s.gj.gV _ w c.b.av.goto (by rw[di,au aj];simp);omega);refine⟨.dC ⟨c.b.av.goto,0,c.m,B,c.b',A,c.da,.inr ⟨rfl,h⟩⟩,?_,aj,⟨B,A,rfl,rfl⟩,?_,rfl,r _⟩
    .show c.b.ah.drop c.n=[];rw[ag];exact List.drop_nil
    .show c.b'.ah.drop 0=c.b'.ah.drop c.n;rw[ak]
theorem atI(a:Ih f.blocks ef):Nonempty (View f {f with blocks:=ef}):=by
 obtain⟨b,I⟩:∃b,f.blocks[0]?=some b:=⟨_,ey a.gj.pos⟩;have⟨b',da⟩:=cR ef 0 (a.len▸a.gj.pos);have d:=aIz a;exact⟨{C:=Y1 f.blocks ef,V:=Lc f.blocks ef,act:=λc=>(d c).choose,ok:=λc=>(d c).choose_spec,iJ:=⟨0,0,0,b,b',I,da,.inl rfl⟩,SK:=⟨b,b',I,da,rfl,rfl,rfl,rfl⟩,ae:=rfl,bZ:=rfl}⟩
end
theorem aIA{f}(h:ln f.blocks):Nonempty (View f f):=by
 have cZ:Ih f.blocks f.blocks:=⟨h,rfl,λi b b' J ab=>by
  rw[J] at ab;cases ab;exact⟨rfl,Ci.self _ (h.bp b (bQ J))⟩⟩
 exact atI cZ
inductive tX:dp->dp->Prop
 | refl {f:dp}:tX f f
 | step {f g h:dp} (aE:Nonempty (View f g)) (bh:g.params=f.params) (bf:ln g.blocks) (aS:tX g h):tX f h
def tX.trans{f g h}(J:tX f g)(d:tX g h):tX f h:=by
 induction J with
 | refl=>exact d
 | step a b c _ e=>exact .step a b c (e d)
def Ab(p:fX)(i:Nat)(f:dp):fX:={p with funcs:=p.funcs.set i f}
def aIB{p}(o:∀g∈p.funcs,ln g.blocks){i f g}(d:p.funcs[i]?=some f)(aE:Nonempty (View f g))(bh:g.params=f.params):xc p (Ab p i g):=by
 refine SN.runK ⟨⟨rfl,rfl,rfl,by show(p.funcs.set i g).length=_;rw[mq],λn=>?_⟩,λj a b c I=>?_⟩
 .unfold lF Ab;dsimp only;split
  .rw[fl];by_cases e:i=n.toNat
   .subst e;rw[au rfl,au (cS.1 d).1,d];simp[bh]
   .rw[ai e]
  .rfl
 .have I:(p.funcs.set i g)[j]?=some b:=I;rw[fl] at I;by_cases e:i=j
  .subst e;rw[au rfl,au (cS.1 d).1] at I;injection I with I;rw[d] at c;injection c with c;subst c;subst I;exact aE
  .rw[ai e,c] at I;cases I;exact aIA (o a (bQ c))
def aIC{p}(a:∀g∈p.funcs,ln g.blocks){i g}(bf:ln g.blocks):∀x∈(Ab p i g).funcs,ln x.blocks:=by
 intro x aa;rcases vh aa with aa|rfl
 .exact a x aa
 .exact bf
def aID{f h}(aE:tX f h):∀{p:fX},(∀g∈p.funcs,ln g.blocks)->∀{i:Nat},p.funcs[i]?=some f->xc p (Ab p i h)/\∀g∈(Ab p i h).funcs,ln g.blocks:=by
 induction aE with
 | refl =>
  rename_i f;intro p b i a;have:Ab p i f=p:=by
   unfold Ab;have:p.funcs.set i f=p.funcs:=by
    refine kg λj=>?_;rw[fl];by_cases e:i=j
    .subst e;rw[au rfl,au (cS.1 a).1,a]
    .rw[ai e]
   rw[this]
  rw[this];exact⟨xc.refl p,b⟩
 | step aE bh bf aS l =>
  rename_i f g h;intro p b i a;have k:(Ab p i g).funcs[i]?=some g:=by
   show(p.funcs.set i g)[i]?=_;rw[fl,au rfl,au (cS.1 a).1]
  have⟨d,c⟩:=l (aIC b bf) k;have e:Ab (Ab p i g) i h=Ab p i h:=by
   unfold Ab;dsimp only;rw[qF]
  rw[e] at d c;exact⟨(aIB b a aE bh).trans d,c⟩
def aIE{p q R}(a:tM R p q)(t:∀g∈p.funcs,ln g.blocks)(m:∀f f',f∈p.funcs->R f f'->tX f f'):xc p q/\∀g∈q.funcs,ln g.blocks:=by
 have i:∀k,k<=p.funcs.length->xc p {p with funcs:=q.funcs.take k++p.funcs.drop k}/\∀g∈q.funcs.take k++p.funcs.drop k,ln g.blocks:=by
  intro k;induction k with
  | zero=>exact λ_=>⟨by rw[xp,Mh];exact xc.refl p,by rwa[xp,Mh]⟩
  | succ k o =>
   intro aj;have⟨J,d⟩:=o U;have⟨f,ar⟩:=cR p.funcs k U;have⟨f',fb⟩:=cR q.funcs k (by rw[a.len];omega);have j:(q.funcs.take k).length=k:=by rw[IU,a.len];omega
   have l:(q.funcs.take k++p.funcs.drop k)[k]?=some f:=by
    rw[oI U,j,sr,xq,nq,ar]
   have⟨c,b⟩:=aID (m f f' (bQ ar) (a.rel k f f' ar fb)) (p:={p with funcs:=q.funcs.take k++p.funcs.drop k}) d l;have e:(q.funcs.take k++p.funcs.drop k).set k f'=q.funcs.take (k+1)++p.funcs.drop (k+1):=by
    rw[P3 k f' U,j,sr,sq U,BZ,Aw,fb,pX];rfl
   have c:xc {p with funcs:=q.funcs.take k++p.funcs.drop k} {p with funcs:=(q.funcs.take k++p.funcs.drop k).set k f'}:=c;have b:∀g∈(q.funcs.take k++p.funcs.drop k).set k f',ln g.blocks:=b;rw[e] at c b;exact⟨J.trans c,b⟩
 have⟨J,d⟩:=i p.funcs.length (b4 _);have e:q.funcs.take p.funcs.length++p.funcs.drop p.funcs.length=q.funcs:=by
  rw[I9,l2,BY (a.len▸b4 _)]
 rw[e] at J d;have r:({p with funcs:=q.funcs}:fX)=q:=by
  have c:=a.fu;have b:=a.data;have s:=a.fA;cases p;cases q;simp_all
 rw[r] at J;exact⟨J,d⟩
def atJ{bl}(cQ:ln bl)i:Ih bl (tt bl i):=by
 unfold tt;rcases I:bl[i]? with _|c
 .exact⟨cQ,rfl,λj b b' J a=>by rw[J] at a;cases a;exact alk⟩
 .refine⟨cQ,mq,λj b b' J a=>?_⟩;have a:(bl.set i {c with av:=nT bl c.av})[j]?=some b':=a;rw[fl] at a;by_cases e:i=j
  .subst e;rw[au rfl,au (cS.1 I).1] at a;injection a with a;rw[I] at J;injection J with J;subst J;subst a;exact⟨rfl,aIy bl (cQ.bp _ (bQ I))⟩
  .rw[ai e,J] at a;cases a;exact alk
def atK n:∀(d:Nat) (f:dp),ln f.blocks->tX f {f with blocks:=sS n d f.blocks}/\ln (sS n d f.blocks)
 | 0,f,b=>⟨.refl,b⟩
 | d+1,f,b=>by
  have a:=atJ b (n-(d+1));have⟨J,c⟩:=atK n d {f with blocks:=tt f.blocks (n-(d+1))} a.Lb;exact⟨.step (atI a) rfl a.Lb J,c⟩
def aIF f(a:ln f.blocks):tX f {f with blocks:=x5 f.blocks}/\ln (x5 f.blocks):=atK _ _ f a
end
end Go.Proofs.YtplleokmejppjaaGreatDoor
