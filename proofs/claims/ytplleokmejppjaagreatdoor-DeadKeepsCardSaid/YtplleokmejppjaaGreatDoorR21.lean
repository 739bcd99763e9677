/- Contracts of functions that the law reaches -/
import Derived.Test.YtplleokmejppjaaGreatDoorR20
set_option linter.all false
set_option maxHeartbeats 9999999
set_option maxRecDepth 100000
namespace Go.Proofs.YtplleokmejppjaaGreatDoor
open Go.Proofs.Tryz
open Go.AH
section
attribute[local irreducible] W ad
def af5:∀{l:List ho}{i:Nat}{a:ho},i<l.length->eB (fN l) (0+i*2) (dX a)=fN (l.set i a)
 | b::l,0,a,_=>by
  show eB (dX b++fN l) _ (dX a)=dX a++fN l;unfold dX;rw[wV,wV,u1];rfl
 | b::l,i+1,a,h=>by
  have:=af5 (a:=a) lM;show eB (dX b++fN l) _ _=dX b++fN (l.set i a);rw[<-this,show 0+(i+1)*2=(dX b).length+(0+i*2) by simp[dX];omega];exact Ya (dX b) (fN l) _ _
def jb.EG{h N j k f g b n s}(o:jb h N j k f g b n s){i a:Nat}{l}(d:b[i]?=some a)(c:s.ah[i]?=some l):lI h (if l=[] then none else some ⟨a,0,none⟩) l:=by
 by_cases e:l=[]
 .rw[au e,e];exact .none
 .exact ai e▸.some (o.row i a l d c e).2 (bx o.rw (o.row i a l d c e).1)
structure Om(h:aV)(N:Nat)(B:aV):Prop where
 off:cT (λj=>N<=j) h B
 zU:∀j x,h.m j=some x->x.elem≠48->x.elem≠42->x.elem≠38->B.m j=some x
structure On(B:aV)(aR ct:Nat)(vN:List Value):Prop where
 f:B.m aR=some ⟨⟨vN⟩,53⟩
 r:B.m ct=some ⟨⟨ei (.agg ⟨dj ⟨⟨#[]⟩,0,0,0,[],[]⟩ none 0 none 0 none 0⟩)⟩,53⟩
def qj(h:aV)i b:(h.set i b).m i=some b:=ak0
def aFd{x a b g}:dK ({x.1 with a:=a,b:=b,args:=x.1.args.map g},x.2)=cL {x.1 with a:=a,b:=b} (mY x) (qp x):=by
 rw[dK,cL,mY,qp,jO];simp
def ar5 x:(ei (.agg ⟨dK x⟩)).all (·.oneCell')=true:=by rw[xF];rfl
def ar6 l x:(oU l x).args=x.args.map (ga l)\/(oU l x).args=[]:=by
 unfold oU wT pJ;repeat' split
 all_goals first|exact xG|exact .inr rfl
def aFe h N w bv(f:dp)(m:Nat) bj aW a8 aT bn(tP:oB h N w bv)(hm:m<=1000000)(KI:f.ae=(m:Int))(aQ:pC f.ae (bC bv))(nr:∀b∈bC bv,∀x∈b.ah,x.ok/\x.dst<(m:Int)):
 dw prog 43 [.agg ⟨dj {f with blocks:=bC bv} bj aW a8 aT (some ⟨w,0,none⟩) bn⟩] h (λv aw=>∃jR,v=.agg ⟨dj {f with blocks:=bC jR} bj aW a8 aT (some ⟨w,0,none⟩) bn⟩/\oB aw N w jR/\XO f.ae (bC bv) (bC jR)/\cT (λj=>N<=j) h aw/\∀j x,h.m j=some x->x.elem≠48->x.elem≠42->x.elem≠38->aw.m j=some x):=by
 refine dw.i func43 ntmps43 λπ bF=>?_;conv=>arg 2;whnf
 have aq:=bF.aO;obtain⟨n,ak⟩:=ld bv.length;have aRP:0<n:=by have:=aQ.pos;rw[jF] at this;omega
 have NQ:n<=100000:=by have:=aQ.len;rw[jF] at this;omega
 obtain⟨vN,Bm⟩:∃vN:List Value,vN=[.string f.name,bm f.params,.slice bj f.hO aW,bm (m:Int),.slice a8 f.bZ.length aT,.slice (cV w) n bn]:=⟨_,rfl⟩;have KS:dj {f with blocks:=bC bv} bj aW a8 aT (cV w) bn=vN:=by rw[Bm];unfold dj;rw[jF,ak,<-KI]
 refine Hq ?_;refine W.hH λds pD a0=>?_;have tQ:ds.m (π 0)=bS (dj {f with blocks:=bC bv} bj aW a8 aT (some ⟨w,0,none⟩) bn) 53:=a0.bJ 0 (eQ kP (hr 1));have oi:h.n<=π 1:=a0.bL 1 (dN 1);have A9:ds.m (π 1)=bS (ei (.agg ⟨dj ⟨⟨#[]⟩,0,0,0,[],[]⟩ none 0 none 0 none 0⟩)) 53:=a0.bJ 1 (dN 1);generalize π 0=Z at *;generalize π 1=ct at *;have w6:∀dA,fG (P:=prog) ⟨ds,pD,0,[]⟩ dA->dw prog 66 [cE Z] dA (λv aw=>∃bO cv cP cb s',v=cE bO/\CS (bC bv) (u0 (bC bv).length m) s'/\A6 (bC bv) m s'/\vK s'/\jb aw dA.n bO Z cv cP cb (bC bv).length s'/\cW dA aw):=λdA bW =>
  aEI Z m (cV w) bn (bC bv) aQ.pos aQ.len hm aQ.gV (λb I=>bx (Kh I) aQ.size) nr dA ⟨⟨_,bW.up _ _ tQ,by rw[KS,Bm];rfl,by rw[KS,Bm,jF,ak];rfl⟩,(tP.up λi b I=>bW.up _ _ (a0.up _ _ I)).fC.gK⟩
 rw[KS,Bm] at tQ;have bz:=tQ;have gh:=a0.aO _ _ bz;apply W.seq;apply W.seq;repeat(first|refine sO ?_|refine hL ?_|(with_reducible first|apply ad.qg|apply ad.fieldAddr);iterate 3 rfl|refine EK ?_|refine oR ?_)
 apply W.seq;repeat(first|apply ad.gC;rfl;rfl;rfl;intro dA bW;refine⟨_,w6 dA bW,?_⟩;rintro v H1 fo ⟨bO,cv,cP,cb,s,rfl,h4,bd,cQ,YA,Dc⟩ gM re|refine J9 ?_)
 apply W.seq;have Ft:=(a0.bk.trans bW.bk).trans Dc;have zV:=Dc.up bW.aO _ _ (bW.up _ _ tQ);have nQ:=Dc.up bW.aO _ _ (bW.up _ _ A9);have cj:=bx tP.ge (ph (aq _ _ tP.m));obtain⟨jn,Bn⟩:=ld dA.n;have aFf:N<=jn:=by rw[<-Bn];exact bx cj (bx a0.bk.1 bW.bk.1)
 have aRQ:h.n<=jn:=by rw[<-Bn];exact bx a0.bk.1 bW.bk.1
 rw[jF,ak,Bn] at YA;obtain⟨oC,ks⟩:=ld (D3 bv s.ah s.cm);have uz:oC.length=bv.length:=by rw[<-ks];exact ar4 _ _ _
 have lR:s.ah.length=n:=by have:=bd.ah;rw[jF,ak] at this;exact dm
 have fQ:s.cm.length=n:=by have:=bd.cm;rw[jF,ak] at this;exact dm
 have bz:=zV;have gh:=gM.aO _ _ bz;repeat(first|refine sO ?_|refine vv ?_|refine mc ?_)
 refine W.hz (X:=Nat×List (List cX)) (λx=>[(1,cE Z),(2,cE ct),(3,cE bO),(21,.slice (cV w) n bn),(22,bm (n:Int)),(23,bm (x.1:Int))])
  (λx B=>x.1<=n/\oB B N w (ia oC bv x.1)/\jb B jn bO Z cv cP cb n ⟨x.2,s.cm,s.eg⟩/\(∀j,x.1<=j->x.2[j]?=s.ah[j]?)/\On B Z ct vN/\Om h N B) (λx=>n-x.1)
  (λD x=>⟨(0,s.ah),?_,⟨dG _,?_,YA.up x.up,λ_ _=>rfl,⟨by rw[Bm];exact x.up _ _ zV,x.up _ _ nQ⟩,(Ft.trans x.bk).off,λj y aN _ _ _=>(Ft.trans x.bk).up aq j y aN⟩⟩) ?_
 .exact ca
 .dsimp only;rw[Oi];exact tP.up ((Ft.trans x.bk).up aq)
 rintro⟨i,ah⟩ B fE dd ⟨ag,c5,eF,yg,zW,du⟩;dsimp only at ag c5 eF yg zW du|-;obtain⟨aRR,aRS,cZ,aRT,aRU⟩:=eF.iF;have xX:=dd.aO _ _ cZ;have bz:=zW.f;rw[Bm] at bz;have gh:=dd.aO _ _ bz;by_cases bs:i<n
 .obtain⟨b,I⟩:=cR bv i U;obtain⟨l0,gD⟩:=cR s.ah i U;have zi:B.m cP=bS (s.cm.map .bool) 4:=eF.ak;have M8:=dd.aO _ _ zi;rcases RN (l:=s.cm) (k:=i) U with wK|wK
  .obtain⟨O,zb⟩:=cR cb i (by rw[eF.AF];exact bs);have zX:=bd.wid _ _ gD wK;have e1:=R7 zb ((yg i (b4 _)).trans gD);obtain⟨E,Q,aFg,af6⟩:∃E Q,cD 2 O l0=.slice E m Q/\E=if l0=[] then none else cV O:=by
    rw[jO,zX];exact Ce
   rw[aFg] at e1;have ar7:=eF.ag;have aFh:=dd.aO _ _ ar7;have p7:(ia oC bv i)[i]?=some b:=abI;have qX:=c5.m;have AT:=dd.aO _ _ qX;obtain⟨Fu,yl,vp,Sf⟩:∃Fu yl,cD 12 b.r b.ah=.slice Fu b.ah.length yl/\Fu=if b.ah=[] then none else some ⟨b.r,0,none⟩:=by
    rw[jO];exact Ce
   have Sg:oC[i]?=some (Ol l0 b):=by rw[<-ks,af4 I gD wK,au rfl]
   have lx:b.ah.length<=1000000:=by
    have J:=bx (Kh (bQ (vk I))) aQ.size;have ab:b.s.ah.length=b.ah.length:=by simp[bG.s]
    omega
   have zY:=bQ (vk I);have aFi:=cQ.jB _ (bQ gD);repeat(first|refine Rj ?_|refine Nk ?_|refine iR ?_|refine c8 ?_|refine zf ?_|refine vy ?_|(apply ad.dv;rfl;rfl;rfl;first|exact ar7;exact aFh;exact Xm e1|exact qX;exact AT;exact amc|exact bz;exact gh;rfl)|refine aoO ?_)
   refine W.hz (X:=Nat) (λk=>[(1,cE Z),(2,cE ct),(3,cE bO),(21,.slice (cV w) n bn),(22,bm (n:Int)),(23,bm (i:Int)),(4,bm (i:Int)),(5,.pointer (some ⟨w,0+i*9,none⟩)),(6,.slice E m Q),(48,.slice Fu b.ah.length yl),(49,bm (b.ah.length:Int)),(50,bm (k:Int))])
    (λk B=>k<=b.ah.length/\oB B N w ((ia oC bv i).set i {b with ah:=ia (vM l0 b.ah) b.ah k})/\jb B jn bO Z cv cP cb n ⟨ah.set i (((b.ah.take k).map (·.1)).foldl gz l0),s.cm,s.eg⟩/\On B Z ct vN/\Om h N B) (λk=>b.ah.length-k)
    (λD x=>⟨0,?_,⟨dG _,?_,?_,⟨x.up _ _ zW.f,x.up _ _ zW.r⟩,du.off.dB x.bk.off,λj y J ab aK br=>x.up _ _ (du.zU j y J ab aK br)⟩⟩) ?_
   .exact ca
   .rw[Oi,tv p7];exact c5.up x.up
   .have:ah.set i (((b.ah.take 0).map (·.1)).foldl gz l0)=ah:=tv ((yg i (b4 _)).trans gD);rw[this];exact eF.up x.up
   rintro k L fj tR ⟨aj,V,k4,pN,qv⟩;by_cases kG:k<b.ah.length
   .obtain⟨x,aa⟩:=cR b.ah k kG;have iA:b.ah≠[]:=abd;have y1:(vM l0 b.ah).length=b.ah.length:=af3 _ _;obtain⟨G,ht⟩:∃G:bG,G={b with ah:=ia (vM l0 b.ah) b.ah k}:=⟨_,rfl⟩;rw[<-ht] at V;have nu:((ia oC bv i).set i G)[i]?=some G:=aj7;have Fv:G.r=b.r:=QJ;have ME:G.ah=ia (vM l0 b.ah) b.ah k:=QJ;have D2:G.ah[k]?=some x:=amr;have KT:G.ah≠[]:=alO;obtain⟨HY,ot⟩:=V.row G (bQ nu) KT;rw[Fv] at HY ot;have pO:=λak=>V.arg G (bQ nu) x (bQ D2) ak;have RD:=tR.aO _ _ ot;obtain⟨af7,gq⟩:=HZ (Fw G.ah) (i:=k) (x:=dK x) Vg;obtain⟨fP,gp,YB,Jz,Sh⟩:∃fP gp,dK x=cL x.1 fP gp/\fP=mY x/\gp=qp x:=⟨_,_,xF x,rfl,rfl⟩;have eP:cr (0+k*12) 12 (G.ah.map dK).flatten=cL x.1 fP gp:=by rw[ff,af7,YB]
    have gq:0+k*12+12<=(G.ah.map dK).flatten.length:=U;rw[ai iA] at Sf;subst Sf;obtain⟨dT,jL⟩:=ld (((b.ah.take k).map (·.1)).foldl gz l0);rw[jL] at k4;have xH:x.1∈b.s.ah:=GF (bQ aa);obtain⟨KU,aRV⟩:=nr _ zY _ xH;have Cj:dT.length=m:=by rw[<-jL,NG];exact zX
    have aFj:o1 dT:=by
     rw[<-jL];refine R9 _ _ aFi λy aN=>?_;obtain⟨z,a7,rfl⟩:=ih.1 aN;exact(nr _ zY _ (GF (GA a7))).1
    have KV:lI L E dT:=by
     have:=k4.EG zb (l:=dT) (by show(ah.set i dT)[i]?=_;rw[fl,au rfl,au ale]);rw[af6];by_cases e:l0=[]
     .have:dT=[]:=mr.1 (by rw[Cj,<-zX,e];rfl);rw[au e,this];exact .none
     .have:dT≠[]:=λiD=>e (mr.1 (by rw[zX,<-Cj,iD];rfl));rw[ai e];rw[ai this] at *;assumption
    refine CI ?_;refine CJ ?_;refine zs ?_;apply W.seq;repeat(first|refine Xk ?_|refine apo ?_|refine fi ?_|refine EL ?_)
    apply W.seq;repeat(first|refine zn ?_|refine oq ?_|refine gr ?_)
    refine W.hH λC rj a4=>?_;have qZ:C.m (fj 0)=bS (cL x.1 fP gp) 42:=a4.bJ 0 (eQ kP (hr 1));have aFk:C.m (fj 1)=bS (lP kK) 134:=a4.bJ 1 (dN 1);have Si:L.n<=fj 0:=a4.bL 0 (eQ kP (hr 1));have ar8:L.n<=fj 1:=a4.bL 1 (dN 1);generalize fj 0=F at *;generalize fj 1=M at *;have YC:=tR.rw;have adj:=bx YC Si;have af8:=bx YC ar8;have cc:=qZ;have dW:=a4.aO _ _ cc;have lA:=aFk;have zk:=a4.aO _ _ lA;have rS:∀H:aV,(∀i b,C.m i=some b->H.m i=some b)->bc prog 67 ⟨[.slice E m Q,.agg ⟨cL x.1 fP gp⟩]⟩ H (.agg ⟨lP (lg dT x.1)⟩) H:=λH hu=>by
     have:=arc dT E Q x.1 fP gp ab0 aFj KU H (KV.up λi b I=>hu _ _ (a4.up _ _ I));rw[Cj] at this;exact dm
    apply W.seq;refine W.KW (X:=Unit) (λ_=>[(1,cE Z),(2,cE ct),(3,cE bO),(21,.slice (cV w) n bn),(22,bm (n:Int)),(23,bm (i:Int)),(4,bm (i:Int)),(5,.pointer (some ⟨w,0+i*9,none⟩)),(6,.slice E m Q),(48,.slice (some ⟨b.r,0,none⟩) b.ah.length yl),(49,bm (b.ah.length:Int)),(50,bm (k:Int)),(7,bm (k:Int)),(8,cE F),(9,cE M)])
     (λ_ B=>cW L B/\B.m F=bS (cL x.1 fP gp) 42/\B.m M=bS (lP (lS dT x.1)) 134) ?_ ?_
    .repeat(first|refine qh ?_|refine pv ?_|refine Nn ?_|refine c8 ?_|refine Cz ?_|refine qU ?_)
     repeat'((first|(refine c7 ?_ ?_)<;>intro _)<;>repeat(first|refine Rd ?_|apply ad.py;rfl;rfl;rfl;exact λH b7=>rS H (Ho a4.aO b7);exact kQ Mq|apply ad.gi;rfl;rfl;rfl;exact lA;exact zk;exact af8;exact iu;iterate 3 rfl|refine pw ?_|refine lB ?_|apply W.skip))
     .refine qw rfl λD y=>⟨(),ca,(a4.bk.off.trans (S:=λj=>L.n<=j) ((cT.set C M _).mono (T:=λj=>L.n<=j) λj _ e=>by rw[e];exact ar8) λj _ e=>e).cx (λj aA e=>U) |>.trans y.bk,y.up _ _ ?_,y.up _ _ ?_⟩
      .show(if F=M then _ else C.m F)=_;rw[ai (c2 cc lA aF)];exact cc
      .show(if M=M then _ else _)=_;rw[au rfl];have e:lS dT x.1=lg dT x.1:=by unfold lS;rw[au h3]
       rw[e];rfl
     .refine qw rfl λD y=>⟨(),ca,a4.bk.trans y.bk,y.up _ _ cc,?_⟩
      .have e:lS dT x.1=kK:=by unfold lS;rw[ai h3]
       rw[e];exact y.up _ _ lA
    rintro⟨⟩ YD zL af9 ⟨ar9,cc,lA⟩;have dW:=af9.aO _ _ cc;have zk:=af9.aO _ _ lA;have ym:=tR.aO;have aFl:=KV.up (ar9.up ym);have Nj:=af9.aO;have J6:∀(a:ho) (H:aV),(∀i b,YD.m i=some b->H.m i=some b)->bc prog 68 ⟨[.slice E m Q,.agg ⟨dX a⟩]⟩ H (.agg ⟨dX (ga dT a)⟩) H:=λa H hu=>by
     have:=afr dT E Q a ab0 H (aFl.up hu);rw[Cj] at this;exact dm
    apply W.seq;repeat(first|refine Rd ?_|refine adi ?_|refine adl ?_|apply ad.gi;rfl;rfl;rfl;exact qj _ _ _;exact dW;exact adj;exact iu;iterate 3 rfl|refine n4 ?_|refine gr ?_)
    refine W.hH λaga Og lG=>?_;have asa:aga.m F=bS (cL {x.1 with a:=ga dT x.1.a,b:=ga dT x.1.b} fP gp) 42:=lG.up F _ (qj _ _ _);have CQ:=c2 lA cc aF;have aFm:aga.m M=bS (lP (lS dT x.1)) 134:=lG.up M _ (by
     show(if M=F then _ else(if M=F then _ else YD.m M))=_;rw[ai CQ,ai CQ];exact lA)
    have asb:=arC ar9 (N:=L.n) ((((cT.set YD F _).trans (S:=λj=>j=F) (cT.set _ F _) λj _ e=>e).dB lG.bk.off).mono (T:=λj=>L.n<=j) (λj _ e=>by rw[e];exact Si)) (b4 _);clear cc dW lA zk;have cc:=asa;have dW:=lG.aO _ _ cc;have pr:(x.1.args.map (ga dT)).length=x.1.args.length:=fI _;have aRW:=(aQ.jB _ zY _ xH).1;repeat(first|refine qh ?_|refine vv ?_|refine mc ?_)
    refine W.hz (X:=Nat) (λj=>[(1,cE Z),(2,cE ct),(3,cE bO),(21,.slice (cV w) n bn),(22,bm (n:Int)),(23,bm (i:Int)),(4,bm (i:Int)),(5,.pointer (some ⟨w,0+i*9,none⟩)),(6,.slice E m Q),(48,.slice (some ⟨b.r,0,none⟩) b.ah.length yl),(49,bm (b.ah.length:Int)),(50,bm (k:Int)),(7,bm (k:Int)),(8,cE F),(9,cE M),(73,.slice fP x.1.args.length gp),(74,bm (x.1.args.length:Int)),(75,bm (j:Int))])
     (λj B=>j<=x.1.args.length/\cT (λp=>x.1.args≠[]/\p=x.2) L B/\B.m F=bS (cL {x.1 with a:=ga dT x.1.a,b:=ga dT x.1.b} fP gp) 42/\B.m M=bS (lP (lS dT x.1)) 134/\(x.1.args≠[]->B.m x.2=bS (fN (ia (x.1.args.map (ga dT)) x.1.args j)) 38)) (λj=>x.1.args.length-j)
     (λD y=>⟨0,?_,⟨dG _,(asb.trans y.bk).off,y.up _ _ asa,y.up _ _ aFm,λak=>?_⟩⟩) ?_
    .exact ca
    .rw[Oi];exact(asb.trans y.bk).up ym _ _ (pO ak).2
    rintro j gL yf r8 ⟨aA,KQ,Oo,Oq,Fx⟩;clear cc dW;have cc:=Oo;have dW:=r8.aO _ _ cc;have aFn:∀{p:Nat}{y:cd},L.m p=some y->y.elem≠38->gL.m p=some y:=λ{p y} aN he=>by
     rw[KQ.2 p (ym p y aN) (λe=>c2 aN (pO e.1).2 he e.2)];exact aN
    have HV:lI gL E dT:=by
     rcases KV with _|⟨mA,fq⟩
     .exact .none
     .exact .some (aFn mA aF) fq
    have Nj:=r8.aO;have J6:∀(a:ho) (H:aV),(∀i b,gL.m i=some b->H.m i=some b)->bc prog 68 ⟨[.slice E m Q,.agg ⟨dX a⟩]⟩ H (.agg ⟨dX (ga dT a)⟩) H:=λa H hu=>by
     have:=afr dT E Q a ab0 H (HV.up hu);rw[Cj] at this;exact dm
    by_cases hb:j<x.1.args.length
    .have vm:x.1.args≠[]:=aml;obtain⟨Sj,VX⟩:=cR x.1.args j hb;have zm:=Fx vm;have adL:=r8.aO _ _ zm;have ao7:=bx V.rw (pO vm).1;have apm:(ia (x.1.args.map (ga dT)) x.1.args j)[j]?=some Sj:=by rw[VG pr];exact VX
     have oX:=Jt pr j;have adM:0+j*2+2<=(fN (ia (x.1.args.map (ga dT)) x.1.args j)).length:=by rw[abw,oX];omega
     have agb:fP=some ⟨x.2,0,none⟩:=alB;subst agb;repeat(first|refine qh ?_|refine adl ?_|apply ad.qf;(iterate 5 rfl);exact hb|refine apl ?_|refine ao6 ?_|refine na ?_|refine la ?_|refine AX ?_)
     refine eK rfl λD y=>⟨j+1,ca,⟨hb,(KQ.trans (cT.set gL x.2 _) λp _ e=>⟨vm,e⟩).dB y.bk.off,y.up _ _ ?_,y.up _ _ ?_,λ_=>y.up _ _ ?_⟩,U⟩
     .show(if F=x.2 then _ else gL.m F)=_;rw[ai (c2 Oo zm aF)];exact Oo
     .show(if M=x.2 then _ else gL.m M)=_;rw[ai (c2 Oq zm aF)];exact Oq
     .show(if x.2=x.2 then _ else _)=_;rw[au rfl];have e:fN (ia (x.1.args.map (ga dT)) x.1.args (j+1))=eB (fN (ia (x.1.args.map (ga dT)) x.1.args j)) (0+j*2) (dX (ga dT Sj)):=by
       rw[af5 (by rw[oX];exact hb),KR pr alR]
      rw[e];rfl
    .have vL:j=x.1.args.length:=U;subst vL;rw[Oj pr] at Fx;have lA:=Oq;have zk:=r8.aO _ _ lA;refine Hr ?_;refine Hs ?_;apply W.seq;refine W.KW (X:=Unit) (λ_=>[(1,cE Z),(2,cE ct),(3,cE bO),(21,.slice (cV w) n bn),(22,bm (n:Int)),(23,bm (i:Int)),(4,bm (i:Int)),(5,.pointer (some ⟨w,0+i*9,none⟩)),(6,.slice E m Q),(48,.slice (some ⟨b.r,0,none⟩) b.ah.length yl),(49,bm (b.ah.length:Int)),(50,bm (k:Int)),(7,bm (k:Int)),(8,cE F),(9,cE M)])
      (λ_ B=>cT (λp=>x.1.args≠[]/\p=x.2) L B/\B.m F=bS (dK (pJ dT x.1,x.2)) 42/\B.m M=bS (lP (lS dT x.1)) 134/\(x.1.args≠[]->B.m x.2=bS (fN (x.1.args.map (ga dT))) 38)) ?_ ?_
     .have hl:¬((lS dT x.1).bp=1/\vF x.1.op=true)->cL {x.1 with a:=ga dT x.1.a,b:=ga dT x.1.b} fP gp=dK (pJ dT x.1,x.2):=by
       intro e;unfold pJ;rw[ai e,aFd,Jz,Sh]
      repeat'(first|refine qh ?_|refine adi ?_|apply ad.wO;rfl;rfl;rfl;exact λH=>(arj _ H);exact hS|refine apb ?_|apply ad.dv;rfl;rfl;rfl;exact lA;exact zk;rfl|refine n4 ?_|refine rR ?_|refine oq ?_|refine hW ?_|refine zp ?_|(refine c7 ?_ ?_)<;>intro _)
      .refine qw rfl λD y=>⟨(),ca,(KQ.trans (cT.set gL F _) λp bh e=>U).dB y.bk.off,y.up _ _ ?_,y.up _ _ ?_,λak=>y.up _ _ ?_⟩
       .show(if F=F then _ else _)=_;rw[au rfl];have e:pJ dT x.1=ow 1 x.1.dst ⟨-1,(lS dT x.1).n⟩:=by unfold pJ;rw[au ⟨h3,h3⟩]
        rw[e];rfl
       .show(if M=F then _ else gL.m M)=_;rw[ai (c2 Oq Oo aF)];exact Oq
       .show(if x.2=F then _ else gL.m x.2)=_;rw[ai (c2 (Fx ak) Oo aF)];exact Fx ak
      all_goals
       exact qw rfl λD y=>⟨(),ca,KQ.dB y.bk.off,y.up _ _ (by rw[<-hl Mu];exact Oo),y.up _ _ Oq,λak=>y.up _ _ (Fx ak)⟩
     rintro⟨⟩ KX Dd Sk ⟨Ot,Sl,asc,asd⟩;clear cc dW lA zk;have cc:=Sl;have dW:=Sk.aO _ _ cc;have lA:=asc;have zk:=Sk.aO _ _ lA;have agc:∀{p:Nat}{y:cd},L.m p=some y->y.elem≠38->KX.m p=some y:=λ{p y} aN he=>by
      rw[Ot.2 p (ym p y aN) (λe=>c2 aN (pO e.1).2 he e.2)];exact aN
     have qX:=agc V.m aF;have AT:=Sk.aO _ _ qX;have al4:cD 12 G.r G.ah=.slice (some ⟨b.r,0,none⟩) b.ah.length yl:=by
      rw[<-vp,jO,jO,ai KT,ai KT,ai iA,ai iA,Fv,ME,Jt y1]
     have Sm:=agc ot aF;have aFo:=Sk.aO _ _ Sm;have aFp:=bx V.rw HY;have Sd:lI KX E dT:=by
      rcases KV with _|⟨mA,fq⟩
      .exact .none
      .exact .some (agc mA aF) fq
     have aFq:(pJ dT x.1).dst=x.1.dst:=by unfold pJ;split<;>rfl
     have R0:∀H:aV,(∀i b,KX.m i=some b->H.m i=some b)->bc prog 70 ⟨[.agg ⟨dK (pJ dT x.1,x.2)⟩]⟩ H (.agg ⟨dK (oU dT x.1,x.2)⟩) H:=λH hu=>by
      refine bc.aO λaFr=>?_;have:=aEe (pJ dT x.1) (mY (pJ dT x.1,x.2)) (qp (pJ dT x.1,x.2)) H (λa aJ=>by
       unfold mY at aJ;split at aJ
       .exact yU
       .rename_i bM;injection aJ with aJ;rw[<-aJ];have Sn:x.1.args≠[]:=by
         intro e;apply bM;unfold pJ;split
         .rfl
         .dsimp only;rw[e];rfl
        exact aFr _ _ (hu _ _ (asd Sn)))
      rw[aEc,<-xF (pJ dT x.1,x.2)] at this;exact dm
     have agd:eB (G.ah.map dK).flatten (0+k*12) (ei (.agg ⟨dK (oU dT x.1,x.2)⟩))=((G.ah.set k (oU dT x.1,x.2)).map dK).flatten:=by
      have:=So (Fw G.ah) (i:=k) (o:=0) (x:=dK x) (vs:=dK (oU dT x.1,x.2)) Vg (b4 _);rw[ff];rw[nq] at this;rw[xu];exact dm
     apply W.seq;repeat(first|refine Xk ?_|refine Rd ?_|apply(ad.py (nv:=none));rfl;rfl;rfl;exact λH b7=>R0 H (Ho Sk.aO b7);exact p3|apply ad.dv;rfl;rfl;rfl;exact qX;exact AT;exact al3|apply ad.gi;rfl;rfl;rfl;exact Sm;exact aFo;exact aFp;exact gq;rfl;exact ar5 _;exact agd|refine nz ?_|refine gr ?_)
     refine W.hH λSp C9 a9=>?_;have yn:=a9.up _ _ (qj _ _ _);have ase:=((Ot.mono (T:=λp=>p=b.r\/(x.1.args≠[]/\p=x.2)) λp _ e=>.inr e).trans (cT.set KX b.r _) λp _ e=>.inl e).dB a9.bk.off;have aFs:F≠b.r:=λe=>U;have aFt:=a9.up _ _ (by show(if F=b.r then _ else KX.m F)=_;rw[ai aFs];exact Sl);have tS:∀{p:Nat}{y:cd},KX.m p=some y->y.elem≠42->Sp.m p=some y:=λ{p y} aN he=>a9.up _ _ (by
      show(if p=b.r then _ else KX.m p)=_;rw[ai (c2 aN Sm he)];exact aN)
     have aFu:=tS asc aF;have age:=λak=>tS (asd ak) aF;have asf:lI Sp E dT:=by
      rcases Sd with _|⟨mA,fq⟩
      .exact .none
      .exact .some (tS mA aF) fq
     clear cc dW lA zk;have cc:=aFt;have dW:=a9.aO _ _ cc;have lA:=aFu;have zk:=a9.aO _ _ lA;refine W.asg (X:=Unit) (λ_=>[(1,cE Z),(2,cE ct),(3,cE bO),(21,.slice (cV w) n bn),(22,bm (n:Int)),(23,bm (i:Int)),(4,bm (i:Int)),(5,.pointer (some ⟨w,0+i*9,none⟩)),(6,.slice E m Q),(48,.slice (some ⟨b.r,0,none⟩) b.ah.length yl),(49,bm (b.ah.length:Int)),(50,bm (k:Int))])
      (λ_ B=>cT (λp=>p=b.r\/(x.1.args≠[]/\p=x.2)\/(l0≠[]/\p=O)) L B/\B.m b.r=bS (((G.ah.set k (oU dT x.1,x.2)).map dK).flatten) 42/\(x.1.args≠[]->B.m x.2=bS (fN (x.1.args.map (ga dT))) 38)/\(l0≠[]->B.m O=bS (kc (gz dT x.1)) 134)) ?_ ?_
     .have ash:l0≠[]->E=cV O:=λe=>by rw[af6,ai e]
      by_cases lE:0<=x.1.dst
      .have qx:x.1.dst.toNat<dT.length:=U;have nt:l0≠[]:=by intro e;rw[e] at zX;rw[Cj,<-zX] at qx;exact absurd qx (Gs _)
       have agf:=ash nt;subst agf;have Cw:(pJ dT x.1).dst=(x.1.dst.toNat:Int):=by rw[aFq];omega
       have zN:x.1.dst.toNat<m:=U;cases asf with
       | some j8 afA =>
        have ze:=a9.aO _ _ j8;have hle:0+x.1.dst.toNat*2+2<=(kc dT).length:=Vt;have gl:gz dT x.1=dT.set x.1.dst.toNat (lS dT x.1):=by unfold gz lS;rw[au lE,au lE]
        repeat(first|refine qh ?_|apply ad.qf;(iterate 4 rfl);exact Cw;exact zN|refine W1 ?_|apply ad.gi;rfl;rfl;rfl;exact j8;exact ze;exact afA;exact hle;iterate 3 rfl|refine n4 ?_|refine iR ?_|refine c8 ?_|(with_reducible first|apply W.seq|apply fr|apply rM)|refine fy ?_)
        refine qw rfl λD y=>⟨(),ca,((ase.mono (T:=λp=>p=b.r\/(x.1.args≠[]/\p=x.2)\/(l0≠[]/\p=O)) λp _ e=>e.elim .inl λe=>.inr (.inl e)).trans (cT.set Sp O _) λp _ e=>.inr (.inr ⟨nt,e⟩)).dB y.bk.off,y.up _ _ ?_,λak=>y.up _ _ ?_,λ_=>y.up _ _ ?_⟩
        .show(if b.r=O then _ else Sp.m b.r)=_;rw[ai (c2 yn j8 aF)];exact yn
        .show(if x.2=O then _ else Sp.m x.2)=_;rw[ai (c2 (age ak) j8 aF)];exact age ak
        .show(if O=O then _ else _)=_;rw[au rfl,gl,<-R6 qx];rfl
      .have gl:gz dT x.1=dT:=by unfold gz;rw[ai lE]
       repeat(first|refine qh ?_|refine hL ?_|refine Nn ?_|refine c8 ?_|refine adN ?_|refine ou ?_)
       repeat'(first|(refine c7 ?_ ?_)<;>intro _)
       all_goals refine qw rfl λD y=>⟨(),?_,(ase.mono (T:=λp=>p=b.r\/(x.1.args≠[]/\p=x.2)\/(l0≠[]/\p=O)) λp _ e=>e.elim .inl λe=>.inr (.inl e)).dB y.bk.off,y.up _ _ yn,λak=>y.up _ _ (age ak),λak=>?_⟩
       all_goals first
        | (exfalso;omega)
        | skip
       .exact ca
       .rw[gl];have agf:=ash ak;subst agf;cases asf with
        | some j8 _=>exact y.up _ _ j8
     rintro⟨⟩ aFv arU aRX ⟨asi,aFw,aFx,aFy⟩;repeat(first|refine pw ?_|refine jj ?_|refine lB ?_)
     have aFz:ah.length=n:=akb;have H0:∀{p:Nat}{y:cd},L.m p=some y->p≠b.r->(x.1.args≠[]->p≠x.2)->(l0≠[]->p≠O)->aFv.m p=some y:=λ{p y} aN J ab aK=>by
      rw[asi.2 p (ym p y aN) (λe=>by rcases e with e|e|e;exact J e;exact ab e.1 e.2;exact aK e.1 e.2)];exact aN
     have Sq:l0≠[]->jn<=O/\L.m O=bS (kc dT) 134:=λak=>k4.row i O dT zb aj5 (λe=>ak (mr.1 (by rw[zX,<-Cj,e];rfl)));have uZ:((b.ah.take (k+1)).map (·.1)).foldl gz l0=gz dT x.1:=by
      rw[Aw,aa,pW,I8,jL];rfl
     have agh:(ia oC bv i).set i {b with ah:=ia (vM l0 b.ah) b.ah (k+1)}=((ia oC bv i).set i G).set i {G with ah:=G.ah.set k (oU dT x.1,x.2)}:=by
      rw[qF];congr 1;rw[ht];dsimp only;rw[KR y1 (by rw[ar2 aa,jL])]
     refine eK rfl λD y=>⟨k+1,ca,⟨kG,?_,?_,⟨y.up _ _ (H0 pN.f (c2 pN.f ot aF) (λak=>c2 pN.f (pO ak).2 aF) (λak=>c2 pN.f (Sq ak).2 aF)),y.up _ _ (H0 pN.r (c2 pN.r ot aF) (λak=>c2 pN.r (pO ak).2 aF) (λak=>c2 pN.r (Sq ak).2 aF))⟩,(qv.off.trans asi λp bh e=>?_).dB y.bk.off,λp z J ab aK br=>y.up _ _ ?_⟩,U⟩
     .rw[agh];refine V.Yz nu D2 (oU dT x.1) (λak=>?_) (by rw[Fv];exact y.up _ _ aFw) (λak=>?_) λp z a7 bB J ab=>y.up _ _ (H0 a7 (by rw[<-Fv];exact J) ab λak=>?_)
      .intro e;apply ak;rcases ar6 dT x.1 with J|J
       .rw[J,e];rfl
       .exact J
      .rcases ar6 dT x.1 with J|J
       .rw[J];exact y.up _ _ (aFx λe=>ak (by rw[J,e];rfl))
       .exact absurd J ak
      .exact c2 a7 (Sq ak).2 (by rcases bB with e|e|e<;>rw[e]<;>simp)
     .rw[uZ];have AK:∀{e:TypeId},Yc e->e≠42/\e≠38:=λ{e} h=>by
       rcases h with h|h|h|h|h<;>rw[h]<;>exact⟨bo,bo⟩
      by_cases nt:l0=[]
      .have aFA:=mr.1 (by rw[Cj,<-zX,nt];rfl);have e:gz dT x.1=dT:=by
        have:=RM dT x.1;rw[aFA] at this|-;exact mr.1 this
       rw[e];exact k4.aqZ λp z a7 bB=>y.up _ _ (H0 a7 (c2 a7 ot (AK bB).1) (λak=>c2 a7 (pO ak).2 (AK bB).2) λak=>absurd nt ak)
      .have:=k4.setRow (k:=i) (q:=O) (l:=dT) (m:=gz dT x.1) zb aj5 (λe=>nt (mr.1 (by rw[zX,<-Cj,e];rfl))) (RM _ _) (y.up _ _ (aFy nt)) λp z a7 bB bh=>y.up _ _ (H0 a7 (c2 a7 ot (AK bB).1) (λak=>c2 a7 (pO ak).2 (AK bB).2) λ_=>bh);dsimp only at this;rw[qF] at this;exact dm
     .rcases e with e|e|e
      .rw[e];exact HY
      .rw[e.2];exact(pO e.1).1
      .rw[e.2];exact bx aFf (Sq e.1).1
     .have asj:=aq p z J;exact H0 (qv.zU p z J ab aK br) (c2 (qv.zU p z J ab aK br) ot aK) (λak=>c2 (qv.zU p z J ab aK br) (pO ak).2 br) (λak e=>by have:=(Sq ak).1;omega)
   .have q7:k=b.ah.length:=U;subst q7;have y1:(vM l0 b.ah).length=b.ah.length:=af3 _ _;rw[Oj y1] at V;rw[mv] at k4;obtain⟨A,hB⟩:=ld ((b.ah.map (·.1)).foldl gz l0);rw[hB] at k4;have Ou:A.length=m:=by rw[<-hB,NG];exact zX
    have KV:lI L E A:=by
     have:=k4.EG zb (l:=A) (by show(ah.set i A)[i]?=_;rw[fl,au rfl,au ale]);rw[af6];by_cases e:l0=[]
     .have:A=[]:=mr.1 (by rw[Ou,<-zX,e];rfl);rw[au e,this];exact .none
     .have:A≠[]:=λiD=>e (mr.1 (by rw[zX,<-Ou,iD];rfl));rw[ai e];rw[ai this] at *;assumption
    obtain⟨b1,hg⟩:∃b1:bG,b1={b with ah:=vM l0 b.ah}:=⟨_,rfl⟩;rw[<-hg] at V;have agi:b1.av=b.av:=by rw[hg]
    obtain⟨Y,nu⟩:=ld ((ia oC bv i).set i b1);rw[nu] at V;have Qo:Y[i]?=some b1:=by rw[<-nu,fl,au rfl,au (by rw[Jt uz];omega)]
    obtain⟨hf,iQ⟩:∃hf:bG,hf={b1 with av:={b.av with a:=ga A b.av.a}}:=⟨_,rfl⟩;obtain⟨hZ,tH⟩:∃hZ:bG,hZ={b1 with av:=q9 A b.av}:=⟨_,rfl⟩;have Sr:(Y.set i hf)[i]?=some hf:=aj4;have qX:=V.m;have AT:=tR.aO _ _ qX;have W2:=bx V.rw V.ge;obtain⟨Nq,ada⟩:=w7 Qo (o:=3) (n:=2) (off:=0+i*9+1+2) U bo;obtain⟨Nr,aoC⟩:=w7 Qo (o:=5) (n:=2) (off:=0+i*9+1+4) U bo;have Nq:cr (0+i*9+1+2) 2 (Y.map bG.c).flatten=dX b.av.a:=by rw[Nq,<-agi];rfl
    have Nr:cr (0+i*9+1+4) 2 (Y.map bG.c).flatten=dX b.av.b:=by rw[Nr,<-agi];rfl
    have Rs:eB (Y.map bG.c).flatten (0+i*9+1+2) (ei (.agg ⟨dX (ga A b.av.a)⟩))=((Y.set i hf).map bG.c).flatten:=xD (o:=3) Qo U (show 3+2<=9 by decide) (by rw[iQ,<-agi];rfl);have xY:eB ((Y.set i hf).map bG.c).flatten (0+i*9+1+4) (ei (.agg ⟨dX (ga A b.av.b)⟩))=((Y.set i hZ).map bG.c).flatten:=by
     rw[xD (o:=5) (b':=hZ) (vs:=ei (.agg ⟨dX (ga A b.av.b)⟩)) Sr U (show 5+2<=9 by decide) (by rw[iQ,tH];rfl),qF]
    have anW:=(w7 Sr (o:=5) (n:=2) (off:=0+i*9+1+4) U bo).2;have Nj:=tR.aO;have J6:∀(a:ho) (H:aV),(∀i b,L.m i=some b->H.m i=some b)->bc prog 68 ⟨[.slice E m Q,.agg ⟨dX a⟩]⟩ H (.agg ⟨dX (ga A a)⟩) H:=λa H hu=>by
     have:=afr A E Q a (by rw[Ou];omega) H (KV.up hu);rw[Ou] at this;exact dm
    refine Hr ?_;refine Hs ?_;apply W.seq;repeat(first|refine qi ?_|refine gr ?_)
    apply W.seq;repeat(first|refine adl ?_|refine aoB ?_|refine anV ?_|refine nz ?_|refine gr ?_)
    refine W.hH λC rj a4=>?_;have agj:(Y.set i hZ)[i]?=some hZ:=aj4;have lk:=a4.up _ _ (qj _ _ _);have agk:=((cT.set L w _).trans (S:=λp=>p=w) (cT.set _ w _) λp _ e=>e).dB a4.bk.off;have H0:∀{p:Nat}{y:cd},L.m p=some y->y.elem≠48->C.m p=some y:=λ{p y} aN he=>by
     rw[agk.2 p (tR.aO p y aN) (c2 aN qX he)];exact aN
    have aFB:lI C E A:=by
     rcases KV with _|⟨mA,fq⟩
     .exact .none
     .exact .some (H0 mA aF) fq
    have aFC:=a4.aO _ _ lk;obtain⟨agl,asl⟩:=KY agj (off:=0+i*9+1) U;have agl:cr (0+i*9+1) 8 ((Y.set i hZ).map bG.c).flatten=kr (q9 A b.av):=by rw[agl,tH]
    have aFD:((Y.set i hZ).map bG.c).flatten[0+i*9+1+0]?=some (bm b.av.bp):=vl agj (o:=1) U bo (by rw[tH];rfl);obtain⟨c3,HW⟩:=ld (jV (q9 A b.av) A);have lQ:∀H:aV,(∀i b,C.m i=some b->H.m i=some b)->dw prog 71 [.agg ⟨kr (q9 A b.av)⟩,.slice E m Q] H (λv aw=>∃dz ea,v=.slice dz c3.length ea/\Be aw dz c3/\cW H aw/\∀a,dz=some a->H.n<=a.block):=λH hu=>by
     have:=aqX (q9 A b.av) A E Q (by rw[Ou];omega) H (aFB.up hu);rw[Ou,HW] at this;exact dm
    have aFE:=(KR uz Sg).symm;have aFz:ah.length=n:=akb;have bb:∀(b3:kt) (D:aV),n9 A b.av=b3->D.m w=bS (((Y.set i {b1 with av:=b3}).map bG.c).flatten) 48->cT (λp=>p=w) L D ->
     i+1<=n/\oB D N w (ia oC bv (i+1))/\jb D jn bO Z cv cP cb n ⟨ah.set i A,s.cm,s.eg⟩/\(∀j,i+1<=j->(ah.set i A)[j]?=s.ah[j]?)/\On D Z ct vN/\Om h N D:=by
     intro b3 D aS zZ off';have De:∀{p:Nat}{y:cd},L.m p=some y->y.elem≠48->D.m p=some y:=λ{p y} aN he=>by
      rw[off'.2 p (tR.aO p y aN) (c2 aN qX he)];exact aN
     refine⟨bs,?_,k4.aqZ λp y aN bB=>De aN (by rcases bB with e|e|e|e|e<;>rw[e]<;>decide),λj aA=>?_,⟨De pN.f aF,De pN.r aF⟩,qv.off.trans off' λp bh e=>by rw[e];exact V.ge,λp y J ab aK br=>De (qv.zU p y J ab aK br) ab⟩
     .have:=V.Db Qo b3 zZ λp y aN he=>De aN he;have e:Y.set i {b1 with av:=b3}=ia oC bv (i+1):=by
       rw[aFE,<-nu,qF];congr 1;rw[hg,<-aS];unfold Ol;rw[hB]
      rw[<-e];exact dm
     .rw[fl,ai U];exact yg j U
    have aFF:¬(b.av.bp=2/\∃R,c3=[R])->n9 A b.av=q9 A b.av:=by
     intro ak;unfold n9;rw[HW];split
     .rename_i R;rw[ai (λab=>ak ⟨ab,R,rfl⟩)]
     .rfl
    repeat'(first|apply ad.hF;rfl;rfl;rfl;exact lk;exact aFC;exact asl;exact agl|apply ad.gC;rfl;rfl;rfl;intro nK mw;refine⟨_,lQ nK mw.up,?_⟩;rintro v mM zL ⟨qG,sw,rfl,aFG,oh,GN⟩ u3 w0;have YE:=(mw.bk.trans oh).up a4.aO _ _ lk;have asm:=u3.aO _ _ YE|apply ad.dv;rfl;rfl;rfl;exact YE;exact asm;exact aFD|refine kJ ?_|refine rR ?_|refine jj ?_|refine hW ?_|refine adN ?_|refine ou ?_|(refine c7 ?_ ?_)<;>intro _)
    .obtain⟨R,agm⟩:∃R,c3=[R]:=by
      match c3,(U:c3.length=1) with
      | [R],_=>exact⟨R,rfl⟩
     subst agm;have aFH:n9 A b.av=rZ R:=by
      unfold n9;rw[HW];exact au h3
     rcases aFG with e|⟨nh,rfl,asn⟩
     .cases e
     .have aFI:=u3.aO _ _ asn;have aFJ:=asl;have cC:eB ((Y.set i hZ).map bG.c).flatten (0+i*9+1) (ei (.agg ⟨kr (rZ R)⟩))=((Y.set i {b1 with av:=rZ R}).map bG.c).flatten:=by
       rw[xD (o:=1) (b':={b1 with av:=rZ R}) (vs:=ei (.agg ⟨kr (rZ R)⟩)) agj U (show 1+8<=9 by decide) (by rw[tH];rfl),qF]
      repeat(first|apply(ad.qf (n:=0));(iterate 5 rfl);exact Nat.succ_pos _|apply ad.dv;rfl;rfl;rfl;exact asn;exact aFI;rfl|apply ad.gi;rfl;rfl;rfl;exact YE;exact asm;exact W2;exact aFJ;rfl;rfl;exact cC|(with_reducible first|apply ad.nilCheck|apply ad.move);iterate 3 rfl|refine jj ?_|refine oq ?_|refine lB ?_|refine Xv ?_)
      have agn:=agk.dB (mw.bk.trans oh).off;refine eK rfl λD y=>⟨(i+1,ah.set i A),?_,bb (rZ R) D aFH (y.up _ _ (qj _ _ _)) ((agn.trans (S:=λp=>p=w) (cT.set mM w _) λp _ e=>e).dB y.bk.off),hR⟩;exact ca
    all_goals
     have agn:=agk.dB (mw.bk.trans oh).off;refine eK rfl λD y=>⟨(i+1,ah.set i A),ca,bb (q9 A b.av) D (aFF λaA=>?_) (by rw[<-tH];exact y.up _ _ YE) (agn.dB y.bk.off),hR⟩
     .obtain⟨ab,R,agm⟩:=aA;subst agm;first
       | (exact absurd ab h3)
       | (exact absurd rfl h3)
       | omega
  .have Sg:oC[i]?=some b:=by rw[<-ks,af4 I gD wK,ai aF]
   repeat(first|refine Rj ?_|refine Nk ?_|refine Cs ?_|refine la ?_|refine c8 ?_|refine adw ?_|refine fy ?_|refine Eu ?_)
   refine eK rfl λD x=>⟨(i+1,ah),ca,⟨bs,?_,eF.up x.up,λj aA=>yg j U,⟨x.up _ _ zW.f,x.up _ _ zW.r⟩,du.off.dB x.bk.off,λj y J ab aK br=>x.up _ _ (du.zU j y J ab aK br)⟩,hR⟩
   .dsimp only;rw[<-KR uz Sg,tv abI];exact c5.up x.up
 .have dQ:i=n:=U;subst dQ;have bA:=zW.r;have mE:=dd.aO _ _ bA;have uM:=bx bF.rw oi;rw[<-ak,Oj uz] at c5;repeat(first|refine Rm ?_|refine Hj ?_|refine uS ?_)
  refine cf _ (.cons (.rk (vs:=[.string f.name,bm f.params,.slice bj f.hO aW,bm (m:Int),.slice a8 f.bZ.length aT,.slice (cV w) i bn]) rfl GI (dM rfl) rfl) .nil) λD x=>?_;have aj:∀{j:Nat}{y:cd},B.m j=some y->y.elem≠53->D.m j=some y:=λ{j y} aN he=>by
   refine x.up j y ?_;show(if j=ct then _ else B.m j)=_;rw[ai (c2 aN bA he)];exact aN
  refine⟨oC,?_,c5.eT λj y aN he=>aj aN ald,?_,(du.off.dB ((cT.set B ct _).mono λj aA e=>al7)).dB x.bk.off,λj y J ab aK br=>?_⟩
  .show Value.agg _=Value.agg _;unfold dj;rw[jF,uz,ak,<-KI]
  .rw[<-ks,ar3,KI];exact .mk h4
  .refine x.up j y ?_;show(if j=ct then _ else B.m j)=_;rw[ai (λe=>by have:=aq j y J;omega)];exact du.zU j y J ab aK br
def Ov(f:dp):Prop:=∀b∈f.blocks,∀x∈b.ah,x.ok/\x.dst<f.ae/\(vF x.op=true->0<=x.dst)
def aFK{p}(g:p.ok)(aM:gy p=true):∀f∈p.funcs,Ov f:=by
 intro f e b I x aa;unfold gy at aM;simp only[cA,ed] at aM;have a:=iB.1 aM.2 f e;unfold p5 at a;simp only[cA,ed] at a;have d:=iB.1 a.2 b I;unfold uW at d;simp only[cA] at d;have c:=iB.1 d.1 x aa;unfold iH at c;simp[cA,ed] at c;refine⟨((g.funcs f e).blocks b I).ah x aa,U,λbh=>?_⟩;have bh:=CU.1 bh;have aS:=c.2;unfold k0 at aS;repeat' split at aS
 all_goals first
  | omega
  | (simp[cA,ed] at aS;first|exact aS.1|exact aS.1.1|exact aS|omega)
def aso(f f':dp):Prop:=∃ef,XO f.ae f.blocks ef/\f'={f with blocks:=ef}
def aFL:NA 43 (λf=>pC f.ae f.blocks/\Ov f) aso:=by
 intro B N n bv f j k o m K G z H u hm P a F y;have⟨c,q⟩:=G;have⟨O,M,L,rg,D,bl⟩:=f;have a:bC bv=bl:=a;subst a;have w:=c.oD;have g:=c.gn;dsimp only at w g;have r:rg=(rg.toNat:Int):=U;refine(aFe B N n bv ⟨O,M,L,rg,D,bC bv⟩ rg.toNat j k o m (dF 9) (P.arZ H u hm) U r c (λb I x aa=>⟨(q b I x aa).1,r▸(q b I x aa).2.1⟩)).mono ?_;rintro v aw s ⟨C,rfl,t,d,E,akX⟩;have row:∀{α:Type}{e:TypeId}{A:Option Addr}{l:List α}{dy:α->Value},e≠48->e≠42->e≠38->e≠53->e≠25->rW B N e A l dy->rW (q4 aw) N e A l dy:=by
  intro α e A l dy J S T R Q aM;exact akW
 refine⟨_,_,rfl,⟨j,k,o,m,cV n,dF 9,K,rfl,z,(row bo bo bo bo bo F).gK λ_=>rfl,(row bo bo bo bo bo y).gK λ_=>rfl,?_⟩,⟨bC C,d,rfl⟩,E⟩;exact t.fC.cut.gK
def aFO p(C:∀f∈p.funcs,(pC f.ae f.blocks/\Ov f)/\Hw f)(ak:p.funcs.length<=100000) h s e j z w u(B:h.m s=some ⟨⟨hd p j z w u⟩,e⟩)(aC:c0 h j 6 p.funcs (lb h)):
 dw prog 24 [.pointer (some ⟨s,0,none⟩)] h (λv aw=>∃bV A c cJ,v=.pointer (some ⟨bV,0,none⟩)/\aw.m bV=some ⟨⟨hd {p with funcs:=cJ} A c w u⟩,25⟩/\c0 aw A 6 cJ (lb aw)/\cJ.length=p.funcs.length/\(∀(i:Nat) (f f':dp),p.funcs[i]?=some f->cJ[i]?=some f'->aso f f')/\cW h aw/\h.n<=bV):=by
 refine dw.i func24 ntmps24 λπ L=>?_;conv=>arg 2;whnf
 repeat(first|apply ad.gC;rfl;rfl;rfl;refine λD bW=>⟨_,RH 43 _ _ aFL p C ak D s e j z w u (bW.up _ _ B) (aC.mono bW.up λ_ _ h=>lp bW.up h),?_⟩;rintro v G J ⟨bV,A,c,cJ,rfl,eF,cZ,ao,bA,aH,hB⟩ F E|refine fi ?_|refine ov ?_)
 exact aa0
def aFP{bl}(aS:im bl)(aa:∀b∈bl,∀x∈b.ah,x.ok){r s}(i:A6 bl r s)(g:vK s){k w}(hw:s.eg=k::w):vK (Hz bl ⟨s.ah,s.cm,w⟩ k):=by
 have⟨t,q,e⟩:=i.eg k VN;have f:k.toNat<bl.length:=U;have⟨b,I⟩:=cR bl k.toNat f;have⟨l,a⟩:=cR s.ah k.toNat (by rwa[i.ah]);have d:=bQ I;have c:=bQ a;have n:rY bl ⟨s.ah,s.cm,w⟩ k=b.ah.foldl gz l:=by
  rw[rY,I];dsimp only;rw[a];rfl
 rw[Hz,I,n];dsimp only;exact(afI (by rw[NG,i.wid _ _ a e]) (R9 _ _ (g.jB _ c) (aa b d)) (afD _ _ (g.wf _ c)) _ _ (⟨i.ah,i.cm,i.wid,λj m=>i.eg j (by rw[hw];simp[m])⟩:vG bl.length r ⟨s.ah,s.cm,w⟩) ⟨g.jB,g.wf⟩ λo aH=>aS b d o (NH o aH)).1
def aFQ{bl}(aS:im bl)(aa:∀b∈bl,∀x∈b.ah,x.ok){r s s'}(h:CS bl s s'):A6 bl r s->vK s->vK s':=by
 induction h with
 | stop _=>exact λ_ g=>g
 | go h _ aP=>exact λi g=>aP (aeo aS i h) (aFP aS aa i g h)
def aFR{bl:List bT}(b:0<bl.length)ae:vK (u0 bl.length ae):=by
 have a:vG bl.length ae.toNat ⟨List.replicate bl.length [],List.replicate bl.length false,[]⟩:=by
  refine⟨aF,aF,λk l _ aj=>?_,λk aj=>Jy⟩;have aj:(List.replicate bl.length false)[k]?=some true:=aj;rw[Av] at aj;split at aj<;>simp at aj
 exact(afG a ⟨λl ao=>UT,λl ao=>UT⟩ aF (λf ar=>yD ar▸s4) (λf ar=>.inl (yD ar)) U U).1
def mh(l:List dp):Nat:=(l.map λf=>mL f.blocks).sum
structure s5(p q:fX):Prop where
 ok:q.ok
 rA:C1 q
 right:gy q=true
 fA:q.fA=p.fA
 data:q.data=p.data
 fu:q.globals.length=p.globals.length
 len:q.funcs.length=p.funcs.length
 size:mh q.funcs<=mh p.funcs
 head:∀(i:Nat) (f f':dp),p.funcs[i]?=some f->q.funcs[i]?=some f'->f'.name=f.name/\f'.params=f.params
 run:∀(N:Nat) (b2 bI:List Int) (bu:Int),0<=bu/\bu<N->(gS p N b2 bI bu).bb=0->(gS q N b2 bI bu).bb=0/\(gS q N b2 bI bu).exit=(gS p N b2 bI bu).exit/\(gS q N b2 bI bu).out=(gS p N b2 bI bu).out/\(gS q N b2 bI bu).b9<=(gS p N b2 bI bu).b9
 two:∀(N:Nat) (b2 bI jm ix:List Int) (bu:Int),0<=bu/\bu<N->(gS p N b2 bI bu).bb=0->(gS p N jm ix bu).bb=0->(gS p N b2 bI bu).bU=(gS p N jm ix bu).bU->(gS q N b2 bI bu).bU=(gS q N jm ix bu).bU
def C4.run{p q}(h:C4 p q)N b2 bI bu(h0:(gS p N b2 bI bu).bb=0):(gS q N b2 bI bu).bb=0/\(gS q N b2 bI bu).exit=(gS p N b2 bI bu).exit/\(gS q N b2 bI bu).out=(gS p N b2 bI bu).out/\(gS q N b2 bI bu).b9<=(gS p N b2 bI bu).b9:=by
 have⟨l,e,_⟩:=afk h N b2 bI bu h0;exact e▸⟨h0,rfl,rfl,sl _⟩
def YF:b8 (-1):=⟨U,U⟩
def Ss{l}(c:o1 l){a}(b:a.ok):(ga l a).ok:=by
 unfold ga;split
 .exact⟨YF,afC c b.2⟩
 .exact b
def St{op dst a}(aH:b8 op)(c:b8 dst)(d:a.ok):(ow op dst a).ok :=
 ⟨aH,c,d,⟨s4,s4⟩,s4,s4,s4,dG _,λb I=>by cases I⟩
def YG:b8 1:=⟨U,U⟩
def ago:b8 2:=⟨U,U⟩
def Fy(x y:cO):Prop:=y.ok/\y.args.length<=x.args.length
def aFS{x}(h:x.ok):Fy x (wT x):=by
 unfold wT;repeat' split
 .exact⟨St ago h.dst h.a,dG _⟩
 .exact⟨St YG h.dst ⟨YF,s4⟩,dG _⟩
 .exact⟨St ago h.dst h.a,dG _⟩
 .exact⟨h,b4 _⟩
 .exact⟨h,b4 _⟩
def aFT{l}(ao:o1 l){x}(h:x.ok):Fy x (pJ l x):=by
 unfold pJ;split
 .rename_i aj;refine⟨St YG h.dst ⟨YF,?_⟩,dG _⟩;unfold lS;split
  .exact aq9 ao h
  .exact s4
 .refine⟨⟨h.op,h.dst,Ss ao h.a,Ss ao h.b,h.size,h.ref,h.off,?_,?_⟩,?_⟩
  .show(x.args.map (ga l)).length<=_;rw[fI];exact h.n
  .intro a aJ;obtain⟨b,I,rfl⟩:=ih.1 aJ;exact Ss ao (h.args b I)
  .show(x.args.map (ga l)).length<=_;rw[fI];exact xE
def aFU{l}(ao:o1 l){x}(h:x.ok):Fy x (oU l x):=by
 have J:=aFT ao h;have ab:=aFS J.1;exact⟨ab.1,bx ab.2 J.2⟩
def asp:∀{xs:List cO}{l:List cX},o1 l->(∀x∈xs,x.ok)->∀y∈zx l xs,∃x∈xs,Fy x y
 | [],_,_,_,y,aN=>JA
 | x::xs,l,ao,aa,y,aN=>by
  rw[zx] at aN;rcases dI.1 aN with e|e
  .exact e▸⟨x,aF,aFU ao (aa x aF)⟩
  .have⟨z,a7,aj⟩:=asp (ara ao (aa x aF)) (λz a7=>aa z V2) y e;exact⟨z,V2,aj⟩
def aFV{t}(h:t.ok):∀o∈di t,b8 o:=by
 intro o aH;unfold di at aH;split at aH
 .exact gU.1 aH▸h.goto
 .split at aH
  .rcases dI.1 aH with e|e
   .exact e▸h.goto
   .exact gU.1 e▸h.dx
  .cases aH
def aFW{l}(c:o1 l){t}(h:t.ok):(q9 l t).ok:=⟨h.bp,h.op,Ss c h.a,Ss c h.b,h.goto,h.dx⟩
def aFX{l}(ao:o1 l){t}(h:t.ok):(n9 l t).ok:=by
 have aJ:=aFW ao h;unfold n9;split
 .rename_i k aj;split
  .exact⟨YG,s4,⟨s4,s4⟩,⟨s4,s4⟩,aFV aJ k (NH k (by rw[aj];simp)),s4⟩
  .exact aJ
 .exact aJ
def YH(b c:bT):Prop:=c.ok/\c.ah.length=b.ah.length/\∀y∈c.ah,∃x∈b.ah,Fy x y
def aFY{l}(ao:o1 l){b}(h:b.ok):YH b (HA l b):=by
 have ag:∀y∈(HA l b).ah,∃x∈b.ah,Fy x y:=asp ao h.ah;refine⟨⟨?_,λy aN=>?_,aFX (R9 _ _ ao h.ah) h.av⟩,aer _ _,ag⟩
 .show(zx l b.ah).length<=_;rw[aer];exact h.n
 .have⟨x,_,aj⟩:=ag y aN;exact aj.1
def aFZ{b}(h:b.ok):YH b b:=⟨h,rfl,λy a=>⟨y,a,h.ah y a,b4 _⟩⟩
def aF0{f f'}(hx:0<f.blocks.length)(aS:im f.blocks)(aQ:f.ok)(h:N0 f f'):f'.name=f.name/\f'.params=f.params/\f'.ae=f.ae/\f'.bZ=f.bZ/\f'.hO=f.hO/\f'.blocks.length=f.blocks.length/\∀(k:Nat) (b':bT),f'.blocks[k]?=some b'->∃b,f.blocks[k]?=some b/\YH b b':=by
 obtain⟨ef,⟨aM⟩,rfl⟩:=h;rename_i s;have⟨i,_⟩:=aep aS aM (RO hx f.ae);refine⟨rfl,rfl,rfl,rfl,rfl,Kn _ _ _,λk b' da=>?_⟩;have⟨b,l,I,ao,b5⟩:=aes i da;have qo:=aQ.blocks b (bQ I);refine⟨b,I,?_⟩;rcases b5 with⟨_,e⟩|⟨_,e⟩
 .exact e▸aFY ((aFQ aS (λb I=>(aQ.blocks b I).ah) aM (RO hx f.ae) (aFR hx f.ae)).jB l (bQ ao)) qo
 .rw[e];exact aFZ qo
structure H2(f f':dp):Prop where
 name:f'.name=f.name
 params:f'.params=f.params
 ae:f'.ae=f.ae
 bZ:f'.bZ=f.bZ
 hO:f'.hO=f.hO
 len:f'.blocks.length=f.blocks.length
 aI:∀(k:Nat) (b':bT),f'.blocks[k]?=some b'->∃b,f.blocks[k]?=some b/\YH b b'
def H2.ok{f f'}(h:H2 f f')(aQ:f.ok):f'.ok:=by
 refine⟨h.params▸aQ.params,h.ae▸aQ.ae,h.hO▸aQ.nsec,h.bZ▸aQ.ad4,h.bZ▸aQ.bZ,h.len▸aQ.XC,λb' da=>?_⟩;have⟨k,aj⟩:=nO.1 da;have⟨b,_,I⟩:=h.aI k b' aj;exact I.1
def H2.asq{f f'}(h:H2 f f'):mL f'.blocks=mL f.blocks:=by
 unfold mL;congr 1;apply kg;intro k;rw[gf,gf];rcases aj:f'.blocks[k]? with _|b'
 .have:f.blocks[k]?=none:=akA;rw[this]
 .have⟨b,I,du⟩:=h.aI k b' aj;rw[I];simp[iW,du.2.1]
def agp{R p q}(h:tM R p q){f'}(fb:f'∈q.funcs):∃f∈p.funcs,R f f':=by
 have⟨k,aj⟩:=nO.1 fb;have ao:=(cS.1 aj).1;have⟨f,ar⟩:=cR p.funcs k GQ;exact⟨f,bQ ar,h.rel k f f' ar aj⟩
def aF1{R p q}(h:tM R p q)(bA:∀f f',f∈p.funcs->R f f'->mL f'.blocks=mL f.blocks):mh q.funcs=mh p.funcs:=by
 unfold mh;congr 1;apply kg;intro k;rw[gf,gf];rcases aj:q.funcs[k]? with _|f'
 .have:p.funcs[k]?=none:=akA;rw[this]
 .have ao:=(cS.1 aj).1;have⟨f,ar⟩:=cR p.funcs k GQ;rw[ar];simp[iW,bA f f' (bQ ar) (h.rel k f f' ar aj)]
def aF2{R p q}(h:tM R p q)(aQ:p.ok)(ao:C1 p)(cZ:C4 p q)(aM:gy q=true)(du:∀f f',f∈p.funcs->R f f'->H2 f f'):s5 p q:=by
 have e7:∀f'∈q.funcs,∃f∈p.funcs,H2 f f':=λf' fb=>by
  have⟨f,ar,bA⟩:=agp h fb;exact⟨f,ar,du f f' ar bA⟩
 refine⟨⟨h.len▸aQ.Xx,λf' fb=>?_,h.fu▸aQ.Xy,h.fu▸aQ.Xz,h.data▸aQ.data,h.fA▸aQ.fA⟩,⟨h.len▸ao.rB,h.fu▸ao.afb,h.fu▸ao.afc,λf' fb=>?_⟩,aM,h.fA,h.data,by rw[h.fu],h.len,IV (aF1 h λf f' ar bA=>(du f f' ar bA).asq),λi f f' ar fb=>?_,λN a b bu _=>cZ.run N a b bu,λN a b c d bu _=>aDN cZ N a b c d bu⟩
 .have⟨f,ar,aj⟩:=e7 f' fb;exact aj.ok (aQ.funcs f ar)
 .have⟨f,ar,aj⟩:=e7 f' fb;have⟨J,ab,aK⟩:=ao.f f ar;refine⟨by rwa[aj.ae],by rwa[aj.bZ],λb' da=>?_⟩;have⟨k,Su⟩:=nO.1 da;have⟨b,I,cF⟩:=aj.aI k b' Su;have⟨g1,g2⟩:=aK b (bQ I);refine⟨by rwa[cF.2.1],λy aN=>?_⟩;have⟨x,aa,cc⟩:=cF.2.2 y aN;exact bx cc.2 (g2 x aa)
 .have:=du f f' (bQ ar) (h.rel i f f' ar fb);exact⟨this.name,this.params⟩
def aF3{l:List dp}{i f}(c:l[i]?=some f):mh (l.take (i+1))=mh (l.take i)+mL f.blocks:=by
 have⟨b,a⟩:=cS.1 c;unfold mh;rw[BX b,a];simp
def aF4 l i:mh (l.take i)<=mh l:=by
 have:mh l=mh (l.take i)+mh (l.drop i):=by
  unfold mh;rw[<-UE,<-pW,GC]
 omega
def aF5{l:List bT}{i b}(I:l[i]?=some b):mL (l.take (i+1))=mL (l.take i)+(b.ah.length+1):=by
 have⟨c,a⟩:=cS.1 I;unfold mL;rw[BX c,a];simp
def aF6 l i:mL (l.take i)<=mL l:=by
 have:mL l=mL (l.take i)+mL (l.drop i):=by
  unfold mL;rw[<-UE,<-pW,GC]
 omega
def aF7 l:l.length<=mL l:=by
 induction l with
 | nil=>exact dG _
 | cons b l a=>unfold mL at a|-;simp[e5,gg,nP];omega
def asr p(dO:p.funcs.length<=1000000)(ej:mh p.funcs<=1000000000) A R u d1 T d2 h(V:h.m A=some ⟨⟨hd p u d1 T d2⟩,R⟩)(L:c0 h u 6 p.funcs (Kc h)):
 bc prog 16 ⟨[.pointer (some ⟨A,0,none⟩)]⟩ h (.int .i64 (mh p.funcs:Int)) h:=by
 refine bc.rX func16 ntmps16 (λc=>⟨b4 _,aF,λi b I=>⟨c.aO i b I,c.dP i b I⟩⟩) λπ c=>?_;conv=>arg 2;whnf
 have aq:=c.aO;have w:=V;repeat(first|apply ad.dv;rfl;rfl;rfl;exact w;exact aq _ _ w;rfl|refine kJ ?_|refine mc ?_)
 refine W.hz (X:=Nat×Nat) (λx=>[(3,bm (x.2:Int)),(11,.slice u p.funcs.length d1),(12,bm (p.funcs.length:Int)),(13,bm (x.1:Int))])
  (λx B=>cW h B/\x.1<=p.funcs.length/\x.2=mh (p.funcs.take x.1)) (λx=>p.funcs.length-x.1) (λaD a=>⟨(0,0),?_,a.bk,aF,by simp[mh]⟩) ?_
 .exact ca
 .rintro⟨i,n⟩ B π S ⟨eC,ag,ak⟩;dsimp only at eC ag ak|-;by_cases bs:i<p.funcs.length
  .have⟨f,z⟩:=cR p.funcs i bs;obtain⟨N,go,Y,ge,rfl,G,n5,dA,ba,B2,a1,Q,O,lz,_,J⟩:=L.get i f z;have cQ:=eC.up aq _ _ G;have mD:=S.aO _ _ cQ;have cB:=aF3 z;have cy:=aF4 p.funcs (i+1);have fK:=aF7 f.blocks;repeat(first|refine AY ?_|refine vv ?_|refine iR ?_|refine q0 ?_|refine c8 ?_|refine zf ?_|refine fy ?_)
   refine W.hz (X:=Nat×Nat) (λx=>[(3,bm (x.2:Int)),(18,.slice Q f.blocks.length O),(19,bm (f.blocks.length:Int)),(20,bm (x.1:Int)),(11,.slice (some ⟨N,go,none⟩) p.funcs.length d1),(12,bm (p.funcs.length:Int)),(13,bm (i:Int))])
    (λx C=>cW h C/\x.1<=f.blocks.length/\x.2=n+mL (f.blocks.take x.1)) (λx=>f.blocks.length-x.1) (λaD a=>⟨(0,n),?_,eC.trans a.bk,aF,by simp[mL]⟩) ?_
   .exact ca
   .rintro⟨j,m⟩ C fE v ⟨s,aA,hm⟩;dsimp only at s aA hm|-;by_cases M:j<f.blocks.length
    .have⟨b,I⟩:=cR f.blocks j M;obtain⟨bN,cq,c1,eH,rfl,F,gq,Ng,Nh,eP,_⟩:=J.get j b I;have cc:=s.up aq _ _ F;have dW:=v.aO _ _ cc;have gn:=aF5 I;have Z:=aF6 f.blocks (j+1);repeat(first|refine er ?_|refine Rq ?_|refine Cv ?_|refine la ?_|refine Ka ?_|refine Xo ?_)
     refine eK rfl λaD a=>⟨(j+1,m+(b.ah.length+1)),ca,⟨s.trans a.bk,U,?_⟩,?_⟩
     .show m+(b.ah.length+1)=n+mL (f.blocks.take (j+1));omega
     .show f.blocks.length-(j+1)<f.blocks.length-j;omega
    .have D:j=f.blocks.length:=U;subst D;rw[mv] at hm;repeat(first|refine EJ ?_|refine EM ?_)
     refine eK rfl λaD a=>⟨(i+1,m),ca,⟨s.trans a.bk,U,?_⟩,?_⟩
     .show m=mh (p.funcs.take (i+1));omega
     .show p.funcs.length-(i+1)<p.funcs.length-i;omega
  .have E:i=p.funcs.length:=U;subst E;rw[mv] at ak;repeat(first|refine fi ?_|refine uS ?_)
   exact aj6
end
end Go.Proofs.YtplleokmejppjaaGreatDoor
