/- Contracts of functions that the law reaches -/
import Derived.Test.YtplleokmejppjaaGreatDoorR7
set_option linter.all false
set_option maxHeartbeats 9999999
set_option maxRecDepth 100000
namespace Go.Proofs.YtplleokmejppjaaGreatDoor
open Go.Proofs.Tryz
open Go.AH
section
attribute[local irreducible] W ad
structure ug(h:aV)(cv bV:Nat)(j3 gY:List Nat)(L:Nat)(ah c3:List dc)(B:aV):Prop where
 cx:cW h B
 i:uf B h.n cv j3 ah L
 o:uf B h.n bV gY c3 L
def ug.up{h c e a b L ah c3 B g}(s:ug h c e a b L ah c3 B)(f:∀i x,B.m i=some x->i<B.n)(o:cW B g):ug h c e a b L ah c3 g :=
 ⟨s.cx.trans o,s.i.up (o.up f),s.o.up (o.up f)⟩
def awL{L}s(f:s.length=L) A c(g:L<=1000000000) h(aC:fR h A s):dw prog 58 [.slice A L c] h (λv aw=>∃b e,v=.slice b L e/\fR aw b s/\cW h aw/\∀a,b=some a->h.n<=a.block):=by
 subst f;exact aMk s A c g h aC
def aOg{L}s(i:s.length=L) A c l R b(g:L<=1000000000)(e:l.length<=1000000001)(f:∀a∈l,b8 a.ck) h(aC:fR h A s)(j:c0 h R 2 l kL):
 dw prog 84 [.slice A L c,.slice R l.length b] h (λ_ aw=>fR aw A (h1 s l)/\cT (pU A) h aw):=by
 subst i;exact avS s A c l R b g e f h aC j
def awM{L}s(j:s.length=L) A c x e f(i:L<=1000000000)(m:x.args.length<=1000000000)(b:b8 x.dst)(g:∀a∈eI x,b8 a.ck) h(aC:fR h A s)(k:c0 h e 2 x.args kL):
 dw prog 62 [.slice A L c,.agg ⟨cL x e f⟩] h (λ_ aw=>fR aw A (ni s x)/\cT (pU A) h aw):=by
 subst j;exact aMo s A c x e f i m b g h aC k
def anG{L}s o(J:s.length=L)(g:o.length=L) A a c b(f:L<=1000000000) h(aC:fR h A s)(aH:fR h a o)(e:A≠a\/A=none):bc prog 83 ⟨[.slice A L c,.slice a L b]⟩ h (.bool (fT s o != s)) (nn h A (fT s o)):=by
 subst J;have:=aMj s o A a c b f U h aC aH e;rw[g] at this;exact dm
def uf.TI{h H N c f g L}(s:uf h N c f g L)(j:∀i b,h.m i=some b->i<h.n){A t}(k:fR h A t)(aH:cT (pU A) h H)(o:∀x∈f,¬pU A x):uf H N c f g L:=by
 refine⟨?_,s.len,λi a x J q=>?_⟩
 .rw[aH.2 c (j _ _ s.m) λe=>?_]
  .exact s.m
  .rcases k with _|⟨hm,aM⟩
   .cases e
   .have e:some _=some _:=e;injection e with e;cases e;exact absurd rfl (c2 s.m hm aF)
 .have r:=s.mT i a x J q;rwa[aH.2 a (j _ _ r.1) (o a (bQ J))]
def aj0 s x:(ni s x).length=s.length:=by rw[ni,Tr,By]
def aOh:∀(l:List cO) (s:dc),(l.foldl ni s).length=s.length:=by
 intro l;induction l with
 | nil=>intro s;rfl
 | cons x l a=>intro s;rw[At,a,aj0]
def ug.TI{h f k a c L ah c3 B H}(s:ug h f k a c L ah c3 B)(r:∀i b,B.m i=some b->i<B.n){A t}(g:fR B A t)(aH:cT (pU A) B H)(q:∀x∈a++c,¬pU A x)(u:∀i,pU A i->h.n<=i):ug h f k a c L ah c3 H :=
 ⟨(s.cx.off.dB (S:=λj=>h.n<=j) (aH.mono λj _ e=>u j e)).cx λj v e=>U,s.i.TI r g aH λx aa=>q x (ha.2 (.inl aa)),s.o.TI r g aH λx aa=>q x (ha.2 (.inr aa))⟩
def aiA{B H}(c:∀i b,B.m i=some b->i<B.n){A t}(a:fR B A t)(aH:cT (pU A) B H){j x}(aa:B.m j=some x)(he:x.elem≠153):H.m j=some x:=by
 rw[aH.2 j (c _ _ aa) λe=>?_]
 .exact aa
 .rcases a with _|⟨hm,aM⟩
  .cases e
  .have e:some _=some _:=e;injection e with e;cases e;exact absurd rfl (c2 aa hm D1)
def awN t:(e2 t).length<=1000000001:=by
 unfold e2;repeat' split
 all_goals simp
def aAx{B H A s}(aC:fR B A s)(a:∀i b,B.m i=some b->i<B.n)(I:∀i,i<B.n->H.m i=B.m i):fR H A s:=by
 rcases aC with _|⟨hm,aM⟩
 .exact .none
 .exact .some (by rwa[I _ (a _ _ hm)]) aM
def aOi aR ae A c bl(hx:0<bl.length)(dO:bl.length<=100000)(nG:0<=ae)(fq:ae<=1000000)(rV:im bl)(Bj:∀b∈bl,b.ah.length<=1000000)(zQ:∀b∈bl,∀x∈b.ah,x.args.length<=1000000/\b8 x.dst/\∀a∈eI x,b8 a.ck)(Gb:∀b∈bl,∀a∈e2 b.av,b8 a.ck) h(ar:Bk h aR ae A c bl):
 dw prog 57 [.pointer (some ⟨aR,0,none⟩)] h (λv aw=>∃w f C D ah c3,v=.tuple ⟨[.slice (some ⟨w,0,none⟩) bl.length bl.length,.slice (some ⟨f,0,none⟩) bl.length bl.length]⟩/\ug h w f C D (hi ae).length ah c3 aw/\vE bl (yZ bl ae) ⟨ah,c3,false⟩):=by
 refine dw.i func57 ntmps57 λπ bF=>?_;conv=>arg 2;whnf
 have aq:=bF.aO;obtain⟨dS,bz,aK,cz⟩:=ar.ar;have gh:=bF.aO _ _ bz;refine uU ?_;apply W.seq;repeat(first|refine wE ?_|refine adS ?_|refine adQ ?_|refine J1 ?_|(with_reducible first|apply ad.assign|apply ad.qg);iterate 3 rfl|refine gr ?_)
 apply W.seq;repeat(first|refine wE ?_|apply ad.aOj;iterate 3 rfl|apply ad.M5;(iterate 6 rfl);omega;exact arD _;(intro u hu;rw[yD hu];exact amw _ _ _)|refine gr ?_)
 refine W.hH λds pD a0=>?_;have tO:ds.m (π 0)=bS (List.replicate bl.length (.slice none 0 0)) 120:=a0.bJ 0 (eQ kP (hr 1));have Ki:ds.m (π 1)=bS (List.replicate bl.length (.slice none 0 0)) 120:=a0.bJ 1 (dN 1);have jc:h.n<=π 0:=a0.bL 0 (eQ kP (hr 1));have je:h.n<=π 1:=a0.bL 1 (dN 1);have KZ:π 0≠π 1:=λe=>absurd (a0.inj 0 1 (eQ kP (hr 1)) (dN 1) e) bo;generalize π 0=w at *;generalize π 1=f at *;have aOk:=bx bF.rw jc;have ZV:=bx bF.rw je;obtain⟨L,eM⟩:∃L,L=(hi ae).length:=⟨_,rfl⟩;have zh:L<=1000000000:=by rw[eM,QE];omega
 apply W.seq;apply W.seq;repeat(first|refine wE ?_|refine tA ?_)
 refine W.hz (X:=Nat×List Nat×List Nat) (λx=>[(0,cE aR),(4,bm (bl.length:Int)),(5,.slice (cV w) bl.length bl.length),(6,.slice (cV f) bl.length bl.length),(24,bm (bl.length:Int)),(25,bm (x.1:Int))])
  (λx B=>x.1<=bl.length/\x.2.1.length=x.1/\x.2.2.length=x.1/\aN9 h h.n w f bl.length L (hi ae) x.2.1 x.2.2 B) (λx=>bl.length-x.1)
  (λF a=>⟨(0,[],[]),?_,⟨dG _,rfl,rfl,⟨a0.bk.trans a.bk,a.up _ _ tO,a.up _ _ Ki,(λa aJ=>yU),List.nodup_nil⟩⟩⟩) ?_
 .exact ca
 rintro⟨i,C,D⟩ B G dd ⟨ag,TJ,TK,E⟩;dsimp only at ag TJ TK E|-;have wN:=E.cx.up aq _ _ bz;have TL:=E.aOa;have acS:=dd.aO _ _ TL;have Rc:=dd.aO _ _ E.F7;by_cases bs:i<bl.length
 .have aOl:C.length<=bl.length:=U;have aOm:D.length<=bl.length:=U;have ZW:∀z,(B.set w z).m f=bS (xj L bl.length D) 120:=λz=>by
   show(if f=w then _ else B.m f)=_;rw[ai (λe=>KZ e.symm)];exact E.F7
  have bz:=wN;have gh:=dd.aO _ _ bz;repeat(first|refine wE ?_|refine adS ?_|refine adQ ?_|apply ad.an5;rfl;rfl;rfl;exact bz;exact gh;exact aK;exact acg _ _ _|refine er ?_|apply ad.F2 true [];rfl;rfl;rfl;exact aN8 nG fq|(apply ad.gi;rfl;rfl;rfl;first|exact TL;exact acS;exact aOk;(rw[awI aOl];omega);rfl;rfl;exact Xf _ _ _|exact ZW _;exact Rc;exact ZV;(rw[awI aOm];omega);rfl;rfl;exact Xf _ _ _)|refine JT ?_|refine la ?_|refine kW ?_)
  refine eK rfl λF a=>?_;have aS5:B.n<=G 0:=a.bL 0 (eQ kP (hr 1));have aS6:B.n<=G 1:=a.bL 1 (dN 1);have El:F.m (G 0)=bS (kb (hi ae)) 153:=a.bJ 0 (eQ kP (hr 1));have mA:F.m (G 1)=bS (kb (hi ae)) 153:=a.bJ 1 (dN 1);have aOn:G 0≠G 1:=λe=>absurd (a.inj 0 1 (eQ kP (hr 1)) (dN 1) e) bo;have aOo:(xj L bl.length C).set i (.slice (cV (G 0)) (hi ae).length (hi ae).length)=xj L bl.length (C++[G 0]):=by
   rw[<-eM,<-awH U,TJ];rfl
  have aOp:(xj L bl.length D).set i (.slice (cV (G 1)) (hi ae).length (hi ae).length)=xj L bl.length (D++[G 1]):=by
   rw[<-eM,<-awH U,TK];rfl
  have eT:∀{j:Nat}{x:cd},B.m j=some x->x.elem≠120->F.m j=some x:=by
   intro j x aa he;refine a.up _ _ ?_;show(if j=f then _ else(if j=w then _ else B.m j))=_;rw[ai (c2 aa E.F7 he),ai (c2 aa TL he)];exact aa
  refine⟨(i+1,C++[G 0],D++[G 1]),ca,⟨U,by simp[TJ],by simp[TK],⟨by exact((E.cx.off.dB (S:=λj=>h.n<=j) ((cT.set B w _).mono λj _ e=>by rw[e];exact jc)).dB ((cT.set _ f _).mono λj _ e=>by rw[e];exact je)).dB a.bk.off |>.cx λj aA e=>U,?_,?_,?_,?_⟩⟩,?_⟩
  .rw[<-aOo];refine a.up _ _ ?_;show(if w=f then _ else(if w=w then _ else _))=_;rw[ai KZ,au rfl]
  .rw[<-aOp];refine a.up _ _ ?_;show(if f=f then _ else _)=_;rw[au rfl]
  .intro x aa;simp only[ha,gU] at aa;rcases aa with(aa|aa)|(aa|aa)
   .have:=E.mT x (ha.2 (.inl aa));exact⟨eT this.1 aF,this.2⟩
   .rw[aa];exact⟨El,U⟩
   .have:=E.mT x (ha.2 (.inr aa));exact⟨eT this.1 aF,this.2⟩
   .rw[aa];exact⟨mA,U⟩
  .have I:=λx aa=>dd.aO _ _ (E.mT x aa).1;have ys:=E.awJ;rw[GG] at ys|-;obtain⟨eb,eo,px⟩:=ys;refine⟨?_,?_,?_⟩
   .rw[GG];refine⟨eb,aF,λx aa y aN=>?_⟩;simp only[gU] at aN;have:=I x yO;omega
   .rw[GG];refine⟨eo,aF,λx aa y aN=>?_⟩;simp only[gU] at aN;have:=I x yO;omega
   .intro x aa y aN;simp only[ha,gU] at aa aN;rcases aa with aa|aa<;>rcases aN with aN|aN
    .exact px x aa y aN
    .have:=I x yO;omega
    .have:=I y yN;omega
    .rw[aa,aN];exact aOn
  .show bl.length-(i+1)<bl.length-i;omega
 .have tT:i=bl.length:=U;have V8:uf B h.n w C (List.replicate bl.length (hi ae)) L:=by
   refine⟨by rw[TL];unfold xj;rw[TJ,tT,sr];simp,by rw[TJ,tT,rz],λj x s J ab=>?_⟩;have aC:=yD (bQ ab);have:=E.mT x (ha.2 (.inl (bQ J)));rw[aC];exact⟨this.1,eM.symm,this.2⟩
  have hB:uf B h.n f D (List.replicate bl.length (hi ae)) L:=by
   refine⟨by rw[E.F7];unfold xj;rw[TK,tT,sr];simp,by rw[TK,tT,rz],λj x s J ab=>?_⟩;have aC:=yD (bQ ab);have:=E.mT x (ha.2 (.inr (bQ J)));rw[aC];exact⟨this.1,eM.symm,this.2⟩
  have M:ug h w f C D L (List.replicate bl.length (hi ae)) (List.replicate bl.length (hi ae)) B:=⟨E.cx,V8,hB⟩;have ys:=E.awJ;obtain⟨gV,h4⟩:=aOf bl _ (yZ bl ae) QC (b4 _);clear E V8 hB TL acS Rc wN;repeat(first|refine EH ?_|refine W3 ?_|refine lC ?_)
  have Ak:=bz;have cj:∀{B:aV}{x:Nat},x∈C++D->∀{ah c3:List dc},ug h w f C D L ah c3 B->h.n<=x:=by
   intro B x aa ah c3 M;rcases ha.1 aa with e|e
   .obtain⟨j,aA⟩:=nO.1 e;have hb:=(cS.1 aA).1;obtain⟨y,aN⟩:=cR ah j (by rw[<-M.i.len];exact hb);exact(M.i.mT j x y aA aN).2.2
   .obtain⟨j,aA⟩:=nO.1 e;have hb:=(cS.1 aA).1;obtain⟨y,aN⟩:=cR c3 j (by rw[<-M.o.len];exact hb);exact(M.o.mT j x y aA aN).2.2
  refine W.hz (X:=nj) (λx=>[(0,cE aR),(4,bm (bl.length:Int)),(5,.slice (cV w) bl.length bl.length),(6,.slice (cV f) bl.length bl.length),(8,.bool x.again)])
   (λx B=>ug h w f C D L x.ah x.c3 B/\x.ah.length=bl.length/\x.c3.length=bl.length/\((x.again=true/\vE bl x gV)\/(x.again=false/\x=gV))) (λx=>si x.ah*2+(if x.again=true then 1 else 0))
   (λF a=>⟨yZ bl ae,?_,⟨M.up dd.aO a.bk,QC,QC,.inl ⟨rfl,h4⟩⟩⟩) ?_
  .exact ca
  rintro V dA rj awO ⟨awP,lW,zH,gl⟩;rcases gl with⟨eS,aOq⟩|⟨eS,aOr⟩
  .rw[eS];repeat(first|refine wE ?_|refine fi ?_|refine Ry ?_|refine c8 ?_|refine zf ?_|refine fy ?_)
   obtain⟨R,Q⟩:=ld (sR bl V);refine W.hz (X:=Nat×nj) (λx=>[(0,cE aR),(4,bm (bl.length:Int)),(5,.slice (cV w) bl.length bl.length),(6,.slice (cV f) bl.length bl.length),(8,.bool x.2.again),(9,bm ((x.1:Int)-1))])
    (λx B=>x.1<=bl.length/\ug h w f C D L x.2.ah x.2.c3 B/\x.2.ah.length=bl.length/\x.2.c3.length=bl.length/\o8 bl x.1 x.2=R) (λx=>x.1)
    (λF a=>⟨(bl.length,{V with again:=false}),?_,⟨b4 _,awP.up awO.aO a.bk,lW,zH,Q⟩⟩) ?_
   .have aiB:((bl.length:Nat):Int)-1=((bl.length-1:Nat):Int):=U;dsimp only;rw[aiB];exact ca
   rintro⟨i,st⟩ B2 zL rf ⟨kZ,LS,E7,ZX,O⟩;dsimp only at kZ LS E7 ZX O|-;have ahn:=LS.cx.up aq _ _ Ak;cases i with
   | zero =>
    rw[o8] at O;subst O;obtain⟨m1,m2,m3⟩:=aiz bl V lW;rw[Q] at m1 m2 m3;repeat(first|refine wE ?_|refine nD ?_|refine EM ?_)
    refine eK rfl λF a=>⟨st,ca,⟨LS.up rf.aO a.bk,E7,ZX,?_⟩,?_⟩
    .rcases aOq with aC|⟨aC,aM⟩
     .rw[Q] at aC;exact .inr ⟨aC,Q.symm⟩
     .rw[Q] at aC aM;exact .inl ⟨aC,aM⟩
    .show si st.ah*2+(if st.again=true then 1 else 0)<si V.ah*2+(if V.again=true then 1 else 0);rw[eS];rcases aOs:st.again with _|_
     .exact jf
     .have:=m2 aOs;simp;omega
   | succ i =>
    have aiB:((i+1:Nat):Int)-1=(i:Int):=U;rw[aiB];rw[o8] at O;have lR:i<bl.length:=U;obtain⟨b,I⟩:=cR bl i lR;obtain⟨mO,jQ⟩:=cR st.c3 i U;obtain⟨n0,ir⟩:=cR st.ah i U;obtain⟨xx,D0⟩:=cR C i U;obtain⟨cq,pn⟩:=cR D i U;have C8:o7 bl st i=⟨st.ah.set i (fT n0 (xd b (pQ st.ah mO (di b.av)))),st.c3.set i (pQ st.ah mO (di b.av)),st.again||fT n0 (xd b (pQ st.ah mO (di b.av))) != n0⟩:=by
     unfold o7;rw[I,jQ,ir];rfl
    rw[C8] at O;have HJ:=ar.up (LS.cx.up aq);obtain⟨aL,off,cs,e,c5,pM,n5,rQ⟩:=ar.gK.get _ b I;have cQ:=LS.cx.up aq _ _ pM;have mD:=rf.aO _ _ cQ;obtain⟨Bl,ci,rQ,nr⟩:=rQ;have bz:=ahn;have gh:=rf.aO _ _ bz;rw[c5] at cz;apply W.seq;apply W.seq;repeat(first|refine wE ?_|refine iR ?_|refine lB ?_|refine adY ?_)
    refine zs ?_;apply W.seq;repeat(first|refine wE ?_|refine adS ?_|refine adQ ?_|refine Rr ?_|refine J1 ?_|refine er ?_|refine EL ?_)
    refine W.hH λeW Og a3=>?_;have aG:eW.m (zL 0)=bS (kq b Bl ci) 48:=a3.bJ 0 (dN 0);generalize zL 0=q at *;have uO:=a3.aO _ _ aG;have aOt:=LS.up rf.aO a3.bk;apply W.seq;apply W.seq;repeat(first|refine wE ?_|refine M7 ?_|apply ad.gC;rfl;rfl;rfl;intro nK mw;refine⟨_,N4 b.av nK,?_⟩;rintro v mM yf ⟨qG,sw,rfl,e1,oh,GN⟩ u3 w0|(with_reducible first|apply ad.qg|apply ad.fieldAddr);iterate 3 rfl|refine tA ?_)
    generalize ao:di b.av=l at *;have jL:=λk aj=>rV b (bQ I) k (by rw[ao];exact aj);have qx:l.length<=2:=by rw[<-ao];exact ahW _
    have Pr:=(mw.bk.trans oh).up a3.aO _ _ aG;have aOu:=aOt.up a3.aO (mw.bk.trans oh);have ayz:=(GG.1 ys).1;have aOv:=(GG.1 ys).2.1;have TM:=(GG.1 ys).2.2;have Qb:=bQ pn;have acZ:=bQ D0;have aOw:cq∉C:=λe=>TM cq e cq Qb rfl;have awQ:xx∉D:=λe=>TM xx acZ xx e rfl;have J0:∀{x:Nat},x∈C++D->df<=x:=λaa=>bx bF.rw (cj aa LS);refine W.hz (X:=Nat×dc) (λx=>[(0,cE aR),(4,bm (bl.length:Int)),(5,.slice (cV w) bl.length bl.length),(6,.slice (cV f) bl.length bl.length),(8,.bool st.again),(9,bm (i:Int)),(10,cE q),(61,.slice qG l.length sw),(62,bm (l.length:Int)),(63,bm (x.1:Int))])
     (λx B=>x.1<=l.length/\ug h w f C D L st.ah (st.c3.set i x.2) B/\B.m q=bS (kq b Bl ci) 48/\Be B qG l/\x.2=pQ st.ah mO (l.take x.1)) (λx=>l.length-x.1)
     (λF a=>⟨(0,mO),?_,⟨dG _,by rw[tv jQ];exact aOu.up u3.aO a.bk,a.up _ _ Pr,e1.up a.up,Vu⟩⟩) ?_
    .exact ca
    rintro⟨j,o⟩ iN Dd N ⟨aA,yK,TN,Y,aH⟩;dsimp only at aA yK TN Y aH|-;have aiC:=yK.o.m;have awR:=N.aO _ _ aiC;have awS:=yK.i.m;have aOx:=N.aO _ _ awS;have aeP:(st.c3.set i o)[i]?=some o:=by rw[fl,au rfl,au U]
    have ZY:(D.map (LR L))[0+i*1]?=some (.slice (cV cq) L L):=akv;obtain⟨qu,TO,_⟩:=yK.o.mT i cq o pn aeP;have aiD:=N.aO _ _ qu;by_cases hb:j<l.length
    .obtain⟨k,aj⟩:=cR l j hb;rcases Y with Y|⟨nh,rfl,Q⟩
     .rw[Y] at hb;exact Qe
     have mE:=N.aO _ _ Q;have Ts:(l.map (Value.int .i64))[0+j*1]?=some (bm k):=by simp[aj]
     obtain⟨kl,fV⟩:=jL k (bQ aj);obtain⟨g,bf⟩:∃g:Nat,k=(g:Int):=⟨k.toNat,U⟩;have G2:k.toNat=g:=U;obtain⟨FH,ZZ⟩:=cR C g U;obtain⟨sg,Z⟩:=cR st.ah g U;have aOy:(C.map (LR L))[0+g*1]?=some (.slice (cV FH) L L):=by rw[ff,iV,gf,ZZ];rfl
     obtain⟨w5,aOz,_⟩:=yK.i.mT g FH sg ZZ Z;have aOA:=N.aO _ _ w5;have Zd:cq≠FH:=λe=>TM FH (bQ ZZ) cq Qb e.symm;repeat(first|refine wE ?_|(apply ad.dv;rfl;rfl;rfl;first|exact Q;exact mE;exact Ts|exact aiC;exact awR;exact ZY|exact awS;exact aOx;exact aOy)|refine Xh ?_|apply(ad.anF (blk:=cq) (b':=⟨⟨kb (fT o sg)⟩,153⟩) []);rfl;rfl;rfl;exact qu;exact aiD;exact λH b7=>anG o sg TO aOz (cV cq) (cV FH) L L zh H (fR.some (by rw[b7.b rfl cq aiD];exact qu) (J0 (ha.2 (.inr Qb)))) (fR.some (by rw[b7.b rfl FH aOA];exact w5) (J0 (ha.2 (.inl (bQ ZZ))))) (.inl (λe=>Zd (by injection e with e;injection e)))|refine er ?_|refine uT ?_|refine kW ?_)
     refine eK rfl λF a=>⟨(j+1,fT o sg),ca,⟨U,ug.up ⟨ayB,yK.i.other qu rfl aOw _,?_⟩ ?_ a.bk,a.up _ _ ?_,.inr ⟨nh,rfl,a.up _ _ ?_⟩,?_⟩,?_⟩
     .have:=yK.o.set aOv pn (x:=fT o sg) (by rw[Jc];exact TO);rw[qF] at this;exact dm
     .intro j x aa;have aa:(if j=cq then _ else iN.m j)=some x:=aa;split at aa
      .rename_i e;rw[e];exact aiD
      .exact N.aO j x aa
     .show(if q=cq then _ else iN.m q)=_;rw[ai (c2 TN qu aF)];exact TN
     .show(if nh=cq then _ else iN.m nh)=_;rw[ai (c2 Q qu aF)];exact Q
     .show fT o sg=pQ st.ah mO (l.take (j+1));obtain⟨cB,cy⟩:=cS.1 aj;rw[BX cB,cy];unfold pQ;rw[I8];have:st.ah[k.toNat]?.getD []=sg:=by rw[G2,Z];rfl
      show fT o sg=fT ((l.take j).foldl (λo k=>fT o (st.ah[k.toNat]?.getD [])) mO) (st.ah[k.toNat]?.getD []);rw[this,aH];rfl
     .show l.length-(j+1)<l.length-j;omega
    .have vL:j=l.length:=U;rw[vL,mv] at aH;have dZ:=bQ I;have aOB:fR iN (cV cq) o:=.some qu (J0 (ha.2 (.inr Qb)));have aS7:=N.aO _ _ TN;refine Hr ?_;refine Hs ?_;apply W.seq;repeat(first|refine wE ?_|apply ad.dv;rfl;rfl;rfl;exact aiC;exact awR;exact ZY|apply ad.gC;rfl;rfl;rfl;intro lv Z0;refine⟨_,awL o TO (cV cq) L zh lv (fx aOB Z0.up),?_⟩;rintro v afT C9 ⟨zg,uP,rfl,BM,afV,awT⟩ Sc arS|refine er ?_|refine fi ?_|refine gr ?_)
     have awU:=Z0.bk.trans afV;have aOC:=yK.up N.aO awU;have aiE:=awU.up N.aO _ _ TN;have aOD:=Sc.aO _ _ aiE;have TP:∀{ah c3:List dc}{B:aV},B=iN->ug h w f C D L ah c3 B->∀x∈C++D,¬pU zg x:=by
      intro ah c3 B Lp M x aa e;subst Lp;have J:=awT _ e;have ab:B.n<=lv.n:=Z0.le;have aK:x<B.n:=by
       rcases ha.1 aa with e|e
       .obtain⟨j,aA⟩:=nO.1 e;have hb:=(cS.1 aA).1;obtain⟨y,aN⟩:=cR ah j (by rw[<-M.i.len];exact hb);exact N.aO _ _ (M.i.mT j x y aA aN).1
       .obtain⟨j,aA⟩:=nO.1 e;have hb:=(cS.1 aA).1;obtain⟨y,aN⟩:=cR c3 j (by rw[<-M.o.len];exact hb);exact N.aO _ _ (M.o.mT j x y aA aN).1
      simp only at J;omega
     replace TP:=TP rfl yK;have awV:∀i,pU zg i->h.n<=i:=by
      intro x e;have J:=awT _ e;have ab:iN.n<=lv.n:=Z0.le;have aK:=yK.cx.1;simp only at J;omega
     apply W.seq;repeat(first|apply ad.hF;rfl;rfl;rfl;exact aiE;exact aOD;exact iu;exact(show cr (0+1) 8 (kq b Bl ci)=kr b.av from rfl)|(apply ad.gC;rfl;rfl;rfl;first|intro Fo yA;refine⟨_,avL b.av Fo,?_⟩;rintro v aS8 arU ⟨aOE,SM,rfl,aiy,awW⟩ aS9 aTa|intro Fq zS;refine⟨_,aOg o TO zg uP (e2 b.av) aOE SM zh (awN _) (Gb b dZ) Fq (fx (fx (fx BM yA.up) (awW.up yA.aO)) zS.up) (aiy.mono zS.up λ_ _ h=>h),?_⟩;rintro v LU aOF ⟨ID,Gg⟩ IE aOG)|refine n4 ?_|refine gr ?_)
     have awX:=((yA.bk.trans awW).trans zS.bk).off.dB Gg;have aOH:=aOC.TI Sc.aO BM awX TP awV;have Pw:=aiA Sc.aO BM awX aiE aF;have aiF:=IE.aO _ _ Pw;have aOI:=Bj b dZ;have w6:(h1 o (e2 b.av)).length=L:=by rw[Tr];exact TO
     apply W.seq;apply W.seq;repeat(first|apply ad.dv;rfl;rfl;rfl;exact Pw;exact aiF;rfl|(with_reducible first|apply ad.assign|apply ad.qg|apply ad.fieldAddr);iterate 3 rfl|refine jH ?_|refine tA ?_)
     refine W.hz (X:=Nat×dc) (λx=>[(0,cE aR),(4,bm (bl.length:Int)),(5,.slice (cV w) bl.length bl.length),(6,.slice (cV f) bl.length bl.length),(8,.bool st.again),(9,bm (i:Int)),(10,cE q),(13,.slice zg L uP),(14,bm ((x.1:Int)-1))])
      (λx B=>x.1<=b.ah.length/\ug h w f C D L st.ah (st.c3.set i o) B/\B.m q=bS (kq b Bl ci) 48/\fR B zg x.2/\x.2=(b.ah.drop x.1).reverse.foldl ni (h1 o (e2 b.av))) (λx=>x.1)
      (λF a=>⟨(b.ah.length,h1 o (e2 b.av)),?_,⟨b4 _,aOH.up IE.aO a.bk,a.up _ _ Pw,fx ID a.up,by rw[I9];rfl⟩⟩) ?_
     .dsimp only;exact ca
     rintro⟨k,s⟩ wk aE6 EA ⟨aj,B3,Z1,Ri,Z⟩;dsimp only at aj B3 Z1 Ri Z|-;have aOJ:=EA.aO _ _ Z1;have fQ:s.length=L:=by rw[Z,aOh];exact w6
     cases k with
     | zero =>
      rw[Mh] at Z;have R8:s=xd b o:=by rw[Z];rfl
      rw[<-aH,<-R8] at O;have aiG:=B3.i.m;have awY:=EA.aO _ _ aiG;have awZ:(C.map (LR L))[0+i*1]?=some (.slice (cV xx) L L):=by rw[ff,iV,gf,D0];rfl
      obtain⟨wJ,ajN,ayx⟩:=B3.i.mT i xx n0 D0 ir;have WS:=EA.aO _ _ wJ;have aAy:(cV xx:Option Addr)≠zg:=λe=>TP xx (ha.2 (.inl acZ)) (by rw[<-e];rfl);obtain⟨agG,WT⟩:=ld (fT n0 s != n0);rw[WT] at O;rcases agG with _|_
      .repeat(first|refine wE ?_|apply ad.dv;rfl;rfl;rfl;exact aiG;exact awY;exact awZ|refine anE ?_|refine er ?_|refine fi ?_|refine hL ?_|refine jH ?_|refine c8 ?_|refine ao4 ?_|refine lC ?_)
       refine eK rfl λF a=>⟨(i,⟨st.ah.set i (fT n0 s),st.c3.set i o,st.again⟩),ca,⟨U,ug.up ⟨ajK,ajM,B3.o.other wJ rfl awQ _⟩ ?_ a.bk,by simp[E7],by simp[ZX],by rw[Ur] at O;exact O⟩,dN _⟩
       .intro j x aa;have aa:(if j=xx then _ else wk.m j)=some x:=aa;split at aa
        .rename_i e;rw[e];exact WS
        .exact EA.aO j x aa
      .repeat(first|refine wE ?_|apply ad.dv;rfl;rfl;rfl;exact aiG;exact awY;exact awZ|refine anE ?_|refine er ?_|refine fi ?_|refine hL ?_|refine jH ?_|refine c8 ?_|refine ant ?_|refine q1 ?_)
       refine eK rfl λF a=>⟨(i,⟨st.ah.set i (fT n0 s),st.c3.set i o,true⟩),ca,⟨U,ug.up ⟨ajK,ajM,B3.o.other wJ rfl awQ _⟩ ?_ a.bk,by simp[E7],by simp[ZX],by rw[Bool.or_true] at O;exact O⟩,dN _⟩
       .intro j x aa;have aa:(if j=xx then _ else wk.m j)=some x:=aa;split at aa
        .rename_i e;rw[e];exact WS
        .exact EA.aO j x aa
     | succ k =>
      have aOK:((k+1:Nat):Int)-1=(k:Int):=U;rw[aOK];obtain⟨x,aa⟩:=cR b.ah k U;obtain⟨bN,aTb,c1,eH,rfl,qZ,gq,eP⟩:=nr.get k x aa;have cc:=B3.cx.up aq _ _ qZ;have dW:=EA.aO _ _ cc;obtain⟨a8,aT,eP,mZ⟩:=eP;replace mZ:=mZ.mono (B3.cx.up aq) λ_ _ h=>h;obtain⟨aOL,Z2,aiH⟩:=zQ b dZ x (bQ aa);repeat(first|refine wE ?_|apply ad.dv;rfl;rfl;rfl;exact Z1;exact aOJ;rfl|refine Rq ?_|apply ad.gC;rfl;rfl;rfl;intro aOM aiI;refine⟨_,awM s fQ zg uP x a8 aT zh U Z2 aiH aOM (fx Ri aiI.up) (mZ.mono aiI.up λ_ _ h=>h),?_⟩;rintro v LV aON ⟨Gh,aOO⟩ aw0 LW|refine er ?_|refine na ?_|refine iR ?_|refine jH ?_|refine kW ?_)
      have aw1:=aiI.bk.off.dB aOO;refine eK rfl λF a=>⟨(k,ni s x),ca,⟨U,(B3.TI EA.aO Ri aw1 TP awV).up aw0.aO a.bk,a.up _ _ (aiA EA.aO Ri aw1 Z1 aF),fx Gh a.up,?_⟩,dN _⟩
      .obtain⟨cB,cy⟩:=cS.1 aa;show ni s x=_;rw[sq cB,cy,Uv,I8,<-Z];rfl
  .rw[eS];subst aOr;repeat(first|refine fi ?_|refine c8 ?_|refine apt ?_)
   refine cf _ (.cons (.tmp rfl) (dt rfl)) λF a=>⟨w,f,C,D,V.ah,V.c3,rfl,by rw[<-eM];exact awP.up awO.aO a.bk,?_⟩;have e:(⟨V.ah,V.c3,false⟩:nj)=V:=by rw[<-eS]
   rw[e];exact h4
def aOP x A c h:bc prog 60 ⟨[.agg ⟨cL x A c⟩]⟩ h (.bool (B5 x)) h:=by
 refine bc.jT func60 ntmps60 ?_;conv=>arg 2;whnf
 repeat'(first|(apply ad.wO;rfl;rfl;rfl;first|exact λH=>(aEx _ H);exact hS|exact λH=>(arj _ H);exact hS)|(with_reducible first|apply ad.move|apply ad.assign|apply ad.not|apply ad.fieldAddr|apply ad.box);iterate 3 rfl|refine rR ?_|refine xT ?_|refine RE ?_|refine qU ?_|(refine c7 ?_ ?_)<;>intro _)
 all_goals refine cf _ (dt rfl) ⟨rfl,?_⟩
 all_goals simp only[fp,pZ,B5]
 all_goals(rw[pj];simp_all;try omega)
def aOQ{bl:List bT}{i b}(I:bl[i]?=some b):gJ (bl.take (i+1))=gJ (bl.take i)+b.ah.length:=by
 have⟨c,a⟩:=cS.1 I;unfold gJ;rw[BX c,a];simp
def aOR bl i:gJ (bl.take i)<=gJ bl:=by
 have:gJ bl=gJ (bl.take i)+gJ (bl.drop i):=by
  unfold gJ;rw[<-UE,<-pW,GC]
 omega
def aol u ae A c bl(C:bl.length<=100000)(ej:gJ bl<=1000000) h(s:Bk h u ae A c bl):
 bc prog 38 ⟨[.pointer (some ⟨u,0,none⟩)]⟩ h (.int .i64 (gJ bl:Int)) h:=by
 refine bc.rX func38 ntmps38 (λf=>⟨b4 _,aF,λi b I=>⟨f.aO i b I,f.dP i b I⟩⟩) λπ f=>?_;conv=>arg 2;whnf
 have aq:=f.aO;have⟨z,bz,_,cz⟩:=s.ar;have gh:=f.aO _ _ bz;repeat(first|refine Ru ?_|refine kJ ?_|refine mc ?_)
 refine W.hz (X:=Nat×Nat) (λx=>[(3,bm (x.2:Int)),(9,.slice A bl.length c),(10,bm (bl.length:Int)),(11,bm (x.1:Int))])
  (λx B=>cW h B/\x.1<=bl.length/\x.2=gJ (bl.take x.1)) (λx=>bl.length-x.1) (λaD a=>⟨(0,0),?_,a.bk,aF,by simp[gJ]⟩) ?_
 .exact ca
 .rintro⟨i,n⟩ B π w ⟨eC,ag,ak⟩;dsimp only at eC ag ak|-;by_cases bs:i<bl.length
  .have⟨b,I⟩:=cR bl i bs;obtain⟨E,off,cs,e,rfl,cQ,n5,rQ⟩:=(s.up (eC.up aq)).gK.get _ b I;have mD:=w.aO _ _ cQ;have⟨F,ci,rQ,_⟩:=rQ;have J:=aOQ I;have D:=aOR bl (i+1);repeat(first|refine er ?_|refine Rr ?_|refine Cv ?_|refine la ?_|refine Ka ?_|refine Xo ?_)
   refine eK rfl λaD a=>⟨(i+1,n+b.ah.length),ca,⟨eC.trans a.bk,U,?_⟩,?_⟩
   .show n+b.ah.length=gJ (bl.take (i+1));omega
   .show bl.length-(i+1)<bl.length-i;omega
  .have v:i=bl.length:=U;subst v;rw[mv] at ak;repeat(first|refine fi ?_|refine uS ?_)
   exact aj6
end
end Go.Proofs.YtplleokmejppjaaGreatDoor
namespace Go.AH
variable{P:Program}
section
variable{an:Array Oper}{bg:Bool}{rs:List fZ}{l:List Oper}{ay:List (Nat×Value)}{al:Nat}{h:aY}{K:Fr->aY->Prop}{d:Tmp}{ty:TypeId}{pos:String}{af:Array Edge}{gd:Option (Nat×Bool)}
def ad.aw2{t c x}{a:Nat}(hw:cw an ⟨some d,.binOp .quo t x (.const (.int .i64 2)) c,ty,pos,af,gd⟩ ⟨ay,al⟩=some true)(aq:Nat.blt d al=true)(aa:Fr.ev ⟨ay,al⟩ x=some (.int .i64 (a:Int)))(f:a<=9223372036854775807)(aj:ad P an bg (de h.k false [] (some [])::rs) l ⟨(d,.int .i64 ((a/2:Nat):Int))::ay,al⟩ h K):ad P an bg rs (⟨some d,.binOp .quo t x (.const (.int .i64 2)) c,ty,pos,af,gd⟩::l) ⟨ay,al⟩ h K:=by
 refine ad.quo hw aq aa rfl bo ?_;have e:IntKind.i64.wrap ((a:Int).tdiv 2)=((a/2:Nat):Int):=by
  rw[ajx U,NP U U];omega
 rwa[e]
end
end Go.AH
namespace Go.Proofs.YtplleokmejppjaaGreatDoor
open Go.Proofs.Tryz
open Go.AH
attribute[local irreducible] W ad
def Z3{α:Type}(l:List α)(i j:Nat):List α:=match l[i]?,l[j]? with
 | some a,some b=>(l.set i b).set j a
 | _,_=>l
def sk{α:Type}(l:List α):Nat->List α
 | 0=>l
 | k+1=>Z3 (sk l k) k (l.length-1-k)
def aiJ{α}(l:List α):∀k,(sk l k).length=l.length:=by
 intro k;induction k with
 | zero=>rfl
 | succ k a =>
  unfold sk Z3;split
  .simp[a]
  .exact a
def aOS{α}(l:List α):∀k,2*k<=l.length->∀j,j<l.length->(sk l k)[j]?=if j<k\/l.length<=j+k then l[l.length-1-j]? else l[j]?:=by
 intro k;induction k with
 | zero =>
  intro _ j m;rw[ai U];rfl
 | succ k b =>
  intro aj j m;have J:=b U k U;have a:=b U (l.length-1-k) U;rw[ai U] at J;rw[ai U] at a;have f:k<l.length:=U;have e:l.length-1-k<l.length:=U;rw[ey f] at J;rw[ey e] at a;have n:=aiJ l k;rw[sk,Z3,J,a];dsimp only;rw[fl];by_cases i:l.length-1-k=j
  .rw[au i,au (by rwa[mq,n]),au U];have:l.length-1-j=k:=U;rw[this,ey f]
  .rw[ai i,fl];by_cases c:k=j
   .rw[au c,au U,au U];subst c;rw[ey e]
   .rw[ai c,b U j m];by_cases g:j<k\/l.length<=j+k
    .rw[au g,au U]
    .rw[ai g,ai U]
def aOT{α}(l:List α):sk l (l.length/2)=l.reverse:=by
 apply kg;intro j;by_cases a:j<l.length
 .rw[aOS l _ U j a,List.getElem?_reverse a];by_cases e:j<l.length/2\/l.length<=j+l.length/2
  .rw[au e]
  .rw[ai e];congr 1;omega
 .rw[tj.2 (by rw[aiJ];omega),tj.2 (by rw[I3];omega)]
def aOU{α}(l:List α){k}(aj:k<l.length/2):∃a b,(sk l k)[k]?=some a/\(sk l k)[l.length-1-k]?=some b/\sk l (k+1)=((sk l k).set k b).set (l.length-1-k) a:=by
 have c:=aiJ l k;refine⟨(sk l k)[k]'U,(sk l k)[l.length-1-k]'U,ey _,ey _,?_⟩;rw[sk,Z3,ey U,ey U]
def Z4{l:List lK}{i off x}(aa:l[i]?=some x)(aH:off=i*12):cr off 12 (l.map dK).flatten=dK x/\off+12<=(l.map dK).flatten.length:=by
 subst aH;exact HZ (Fw l) abx
def aw3{l:List lK}{i off x y}(aa:l[i]?=some x)(aH:off=i*12):eB (l.map dK).flatten off (dK y)=((l.set i y).map dK).flatten:=by
 have:=So (Fw l) (o:=0) (vs:=dK y) abx (by rw[aMJ];decide);rw[aH,xu];have e:eB (dK x) 0 (dK y)=dK y:=rfl;rw[e] at this;simpa using this
def aOV{h x}(a:x.1.args≠[]->h.m x.2=some ⟨⟨fN x.1.args⟩,38⟩):c0 h (mY x) 2 x.1.args kL:=by
 unfold mY;by_cases e:x.1.args=[]
 .rw[e];exact .nil
 .exact ai e▸Ly (a e)
def aOW{α β}sz r(g:α->β) l:cD sz r (l.map g)=cD sz r l:=by cases l<;>simp[cD]
def cW.TQ{a b c S}(J:cW a b)(f:cT S b c)(aC:∀j,S j->a.n<=j):cW a c :=
 ⟨bx J.1 f.1,λi ag=>by rw[f.2 i (eQ ag J.1) λe=>by have:=aC i e;omega,J.2 i ag]⟩
def aOX{L}s(a:s.length=L) A c i(ag:b8 i)(b:L<=1000000000) h(aC:fR h A s):bc prog 59 ⟨[.slice A L c,.int .i64 i]⟩ h (.tuple #[]) (nn h A (jU s i)):=by
 subst a;exact Zr s A c i ag b h aC
def aOY{L}s(a:s.length=L) A c i(ag:b8 i)(b:L<=1000000000) h(aC:fR h A s):bc prog 61 ⟨[.slice A L c,.int .i64 i]⟩ h (.bool (cU s i)) h:=by
 subst a;exact Rz s A c i ag b h aC
def aw4:∀(bl:List bT) (os:List dc),(wS bl os).length=bl.length
 | [],[]=>rfl
 | [],_::_=>rfl
 | _::_,[]=>rfl
 | b::bl,o::os=>by rw[wS,e5,e5,aw4 bl os]
def agW:∀(bl:List bT) (os:List dc) (i:Nat) (b:bT) (o:dc),bl[i]?=some b->os[i]?=some o->(wS bl os)[i]?=some (Dk b o)
 | [],_,_,_,_,h,_=>p2
 | _::_,[],_,_,_,_,h=>p2
 | b::bl,o::os,0,_,_,J,ab=>by
  simp at J ab;subst J;subst ab;rfl
 | b::bl,o::os,i+1,b',a,J,ab=>by
  rw[wS,pg];exact agW bl os i b' a p0 tn
structure IF(h:aV)(aL:Nat)(bv:List bG)(aR:Nat)(f:dp)(bj:Option Addr)(aW:Nat)(a8:Option Addr)(aT bn ct bV:Nat)(gY:List Nat)(L N:Nat)(c3:List dc)(i:Nat)(b0:List bG)(B:aV):Prop where
 fC:hY B aL b0
 F6:B.m aR=some ⟨⟨dj f bj aW a8 aT (some ⟨aL,0,none⟩) bn⟩,53⟩
 aiK:B.m ct=some ⟨⟨ei (.agg ⟨dj ⟨⟨#[]⟩,0,0,0,[],[]⟩ none 0 none 0 none 0⟩)⟩,53⟩
 off:cT (λj=>j=aL) h B
 td:uf B N bV gY c3 L
 len:b0.length=bv.length
 sd:∀j,i<=j->b0[j]?=bv[j]?
 new:∀b∈b0.take i,b.ah≠[]->h.n<=b.r
 pl:(bC b0).take i=(wS (bC bv) c3).take i
 sub:∀b'∈b0,∀x∈b'.ah,∃b∈bv,x∈b.ah
def IF.up{h t bv r f g p v q e c j b L N c3 i k B u}(s:IF h t bv r f g p v q e c j b L N c3 i k B)(a:∀i x,B.m i=some x->i<B.n)(o:cW B u):IF h t bv r f g p v q e c j b L N c3 i k u :=
 ⟨s.fC.up (o.up a),o.up a _ _ s.F6,o.up a _ _ s.aiK,s.off.dB o.off,s.td.up (o.up a),s.len,s.sd,s.new,s.pl,s.sub⟩
def IF.next{h aL bv S f G Q V R F E M C L N c3 i u B H}(s:IF h aL bv S f G Q V R F E M C L N c3 i u B)(O:∀i x,B.m i=some x->i<B.n)(b7:df<=h.n){b}(I:bv[i]?=some b){o}(aH:c3[i]?=some o){k r}(Y:k.map (·.1)=(Dk b.s o).ah)(w:∀x∈k,x∈b.ah)(Z:cW B H)(t:k≠[]->B.n<=r/\H.m r=some ⟨⟨(k.map dK).flatten⟩,42⟩):
 IF h aL bv S f G Q V R F E M C L N c3 (i+1) (u.set i ⟨k,r,b.av⟩) (H.set aL ⟨⟨((u.set i ⟨k,r,b.av⟩).map bG.c).flatten⟩,48⟩):=by
 have ag:=(cS.1 I).1;have lR:i<u.length:=by rwa[s.len]
 have s':=s.up O Z;have D:=s'.fC.m;have q:∀{j:Nat}{x:cd},H.m j=some x->x.elem≠48->∀z,(H.set aL z).m j=some x:=by
  intro j x aa he z;show(if j=aL then _ else _)=_;rwa[ai (c2 aa D he)]
 have A:=s.off.1;refine⟨s'.fC.ah0 GJ (λj x aa he=>q aa sv _) (λj x aa g ak=>?_) (λak=>⟨bx (bx b7 A) (t ak).1,q (t ak).2 aF _⟩) (λx aa ak=>s'.fC.arg b (bQ (by rwa[s.sd i (b4 _)])) x (w x aa) ak) (λj x aa g ak Fs e=>?_),q s'.F6 aF _,q s'.aiK aF _,s'.off.dB (cT.set _ _ _),?_,by simp[s.len],λj g=>?_,λx aa ak=>?_,?_,λx aa y T=>?_⟩
 .have:=(s'.fC.row x (bQ aa) ak).2;rw[q this aF,this]
 .have J:=(λx aa ak=>O _ _ (s.fC.row x aa ak).2) x (bQ aa) ak;have v:=(t Fs).1;have e:x.r=r:=e;omega
 .have aTc:=c2 s'.td.m D aF;refine⟨q s'.td.m aF _,s'.td.len,λj a x J v=>⟨q (s'.td.mT j a x J v).1 aF _,(s'.td.mT j a x J v).2⟩⟩
 .rw[fl,ai U];exact s.sd j U
 .rw[List.take_set] at aa;have⟨j,g⟩:=nO.1 aa;rw[fl] at g;split at g
  .split at g
   .have g:=uj g;subst g;exact bx A (t ak).1
   .exact absurd g aF
  .rename_i bM;have X:j<i+1:=by
    have:=(cS.1 g).1;simp at this;omega
   rw[GD X] at g;exact s.new x (bQ (by rwa[GD (show j<i by omega)])) ak
 .rw[P9];have W:(⟨k,r,b.av⟩:bG).s=Dk b.s o:=by
   unfold bG.s;show(⟨k.map (·.1),b.av⟩:bT)=_;rw[Y];rfl
  have J:=agW (bC bv) c3 i b.s o (vk I) aH;apply kg;intro j;by_cases g:j<i+1
  .rw[GD g,GD g,fl];by_cases e:i=j
   .subst e;rw[au rfl,au (by rwa[jF]),W,J]
   .rw[ai e];have:=hq (λl=>l[j]?) s.pl;simp[GD (show j<i by omega)] at this;exact dm
  .rw[tj.2 jf,tj.2 jf]
 .rcases mem_set aa with J|J
  .exact s.sub x J y T
  .subst J;exact⟨b,bQ I,w y T⟩
end Go.Proofs.YtplleokmejppjaaGreatDoor
