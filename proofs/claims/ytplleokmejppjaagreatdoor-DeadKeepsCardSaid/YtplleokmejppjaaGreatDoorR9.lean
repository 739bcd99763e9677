/- Contracts of functions that the law reaches -/
import Derived.Test.YtplleokmejppjaaGreatDoorR8
set_option linter.all false
set_option maxHeartbeats 9999999
set_option maxRecDepth 100000
namespace Go.Proofs.YtplleokmejppjaaGreatDoor
open Go.AH
open Go.Proofs.Tryz
section
attribute[local irreducible] W ad
def aw5 bl:∀(i:Nat) (st:nj),(o8 bl i st).c3.length=st.c3.length:=by
 intro i;induction i with
 | zero=>intro st;rfl
 | succ i a =>
  intro st;rw[o8,a];unfold o7;split
  .exact aF
  .rfl
def aOZ{bl a b}(h:vE bl a b):b.c3.length=a.c3.length:=by
 induction h with
 | stop h=>rw[sR,aw5]
 | go _ _ aP=>rw[aP];rw[sR,aw5]
def Z5{B s u g a f k s' c r}(G:cW B s)(E:cW s u)(D:cT (pU k) u g)(w:∀j,pU k j->B.n<=j)(t:cW g a)(C:fR g k s')(q:∀i b,a.m i=some b->i<a.n)(o:∀i b,g.m i=some b->i<g.n)(l:c≠[]->a.m r=some ⟨⟨(c.map dK).flatten⟩,42⟩)(aM:c≠[]->B.n<=r)(A:a.n<=f.n)(z:∀i,i<a.n->(c.map dK≠[]->i≠r)->f.m i=a.m i):cW B f/\fR f k s'/\B.n<=a.n:=by
 have v:=((G.trans E).TQ D w).trans t;have d:cT (λj=>c≠[]/\j=r) a f:=⟨A,λj y x=>z j y λak e=>x ⟨λe=>ak qH,e⟩⟩;refine⟨v.TQ d λj e=>e.2▸aM e.1,?_,v.1⟩;rcases(fx C (t.up o)) with _|⟨hm,F⟩
 .exact .none
 .exact .some (by rwa[d.2 _ (q _ _ hm) λe=>c2 hm (l e.1) aF e.2]) F
def aO3 h E bv f Z aW a8 aT V(qI:f.blocks=bC bv)(hx:0<bv.length)(dO:bv.length<=100000)(je:hY h E bv)(nG:0<=f.ae)(fq:f.ae<=1000000)(rV:im (bC bv))(Bj:∀b∈bC bv,b.ah.length<=1000000)(zQ:∀b∈bC bv,∀x∈b.ah,x.args.length<=1000000/\b8 x.dst/\∀a∈eI x,b8 a.ck)(Gb:∀b∈bC bv,∀a∈e2 b.av,b8 a.ck):
 dw Tryz.prog 39 [.agg ⟨dj f Z aW a8 aT (some ⟨E,0,none⟩) V⟩] h (λv aw=>∃jR,v=.agg ⟨dj {f with blocks:=bC jR} Z aW a8 aT (some ⟨E,0,none⟩) V⟩/\hY aw E jR/\zu f.ae (bC bv) (bC jR)/\cT (λj=>j=E) h aw/\(∀b∈jR,b.ah≠[]->h.n<=b.r)/\∀b'∈jR,∀x∈b'.ah,∃b∈bv,x∈b.ah):=by
 refine dw.i Tryz.func39 Tryz.ntmps39 λπ bF=>?_;conv=>arg 2;whnf
 have aq:=bF.aO;have LK:f.blocks.length=bv.length:=ab1;have aO4:0<(bC bv).length:=Jh;have LD:(bC bv).length<=100000:=Jh;refine Hq ?_;refine W.hH λds pD Y=>?_;have tQ:ds.m (π 0)=bS (dj f Z aW a8 aT (some ⟨E,0,none⟩) V) 53:=Y.bJ 0 (eQ kP (hr 1));have eA:h.n<=π 0:=Y.bL 0 (eQ kP (hr 1));have oi:h.n<=π 1:=Y.bL 1 (dN 1);have aiL:ds.m (π 1)=bS (ei (.agg ⟨dj ⟨⟨#[]⟩,0,0,0,[],[]⟩ none 0 none 0 none 0⟩)) 53:=Y.bJ 1 (dN 1);generalize π 0=aR at *;generalize π 1=ct at *;have uM:=bx bF.rw oi;have v8:=bx bF.rw eA;have wL:=Iz.at ⟨tQ,v8⟩ (je.up Y.up) LK;apply W.seq;repeat(first|apply ad.gC;rfl;rfl;rfl;intro dA bW;refine⟨_,aOi aR f.ae (cV E) V (bC bv) aO4 LD nG fq rV Bj zQ Gb dA (wL.up bW.up),?_⟩;rintro v H1 fo ⟨cv,bV,j3,gY,ah,c3,rfl,N,h4⟩ gM re|refine fi ?_|refine No ?_|refine gr ?_)
 generalize SE:(hi f.ae).length=L at *;have zh:L<=1000000000:=by rw[<-SE,QE];omega
 have aiM:=(bW.bk.trans N.cx).up Y.aO;have zV:=aiM _ _ tQ;have ais:=gM.aO _ _ zV;have Ft:=Y.bk.trans (bW.bk.trans N.cx);have Bn:h.n<=dA.n:=bx Y.le bW.le;have tO:IF h E bv aR f Z aW a8 aT V ct bV gY L h.n c3 0 bv H1 :=
  ⟨je.up (Ft.up aq),zV,aiM _ _ aiL,Ft.off,⟨N.o.m,N.o.len,λi a x J ab=>⟨(N.o.mT i a x J ab).1,(N.o.mT i a x J ab).2.1,bx Bn (N.o.mT i a x J ab).2.2⟩⟩,rfl,λ_ _=>rfl,(λb I=>by simp at I),aF,λb I x aa=>⟨b,I,aa⟩⟩
 have ap5:c3.length=bv.length:=by
  have:=aOZ h4;simp only[yZ,rz,jF] at this;exact dm
 have aO5:zu f.ae (bC bv) (wS (bC bv) c3):=.mk h4;rw[jF];clear N aiM bW;rw[<-LK];apply W.seq;apply W.seq;repeat(first|apply ad.dv;rfl;rfl;rfl;exact zV;exact ais;rfl|refine vv ?_|refine tA ?_)
 refine W.hz (X:=Nat×List bG) (λx=>[(1,cE aR),(2,cE ct),(4,.slice (cV bV) f.blocks.length f.blocks.length),(20,bm (f.blocks.length:Int)),(21,bm (x.1:Int))])
  (λx B=>x.1<=bv.length/\IF h E bv aR f Z aW a8 aT V ct bV gY L h.n c3 x.1 x.2 B) (λx=>bv.length-x.1)
  (λC a=>⟨(0,bv),?_,⟨dG _,tO.up gM.aO a.bk⟩⟩) ?_
 .exact ca
 rintro⟨i,b0⟩ B aTd G ⟨ag,w⟩;dsimp only at ag w|-;have bz:=w.F6;have gh:=G.aO _ _ bz;by_cases bs:i<bv.length
 .obtain⟨b,I⟩:=cR bv i bs;have nu:b0[i]?=some b:=by rw[w.sd i (b4 _)];exact I
  obtain⟨o,aH⟩:=cR c3 i U;obtain⟨cq,pn⟩:=cR gY i (by rw[w.td.len];omega);have ZW:=w.td.m;have Rc:=G.aO _ _ ZW;have ZY:(gY.map (LR L))[0+i*1]?=some (.slice (cV cq) L L):=akv;obtain⟨vV,aw7,aO6⟩:=w.td.mT i cq o pn aH;have dZ:b.s∈bC bv:=GF (bQ I);have aw8:=bQ nu;refine CI ?_;refine CJ ?_;refine zs ?_;refine ad0 ?_;apply W.seq;repeat(first|refine sO ?_|refine er ?_|refine na ?_|refine gr ?_)
  apply W.seq;repeat(first|apply ad.dv;rfl;rfl;rfl;exact ZW;exact Rc;exact ZY|refine er ?_|apply ad.gC;rfl;rfl;rfl;intro B2 kM;refine⟨_,awL o aw7 (cV cq) L zh B2 (.some (kM.up _ _ vV) (bx bF.rw aO6)),?_⟩;rintro v o3 fj ⟨T,ob,rfl,Tl,Lt,Pb⟩ ua Lu|refine fi ?_|refine gr ?_)
  have sZ:∀j,pU T j->B.n<=j:=λj e=>bx kM.le (Pb _ e);have aw9:=kM.bk.trans Lt;have k4:=aw9.up G.aO _ _ w.fC.m;have ZB:=ua.aO _ _ k4;apply W.seq;apply W.seq;repeat(first|apply ad.hF;rfl;rfl;rfl;exact k4;exact ZB;exact(KY nu U).2;exact(KY nu U).1|apply ad.gC;rfl;rfl;rfl;intro gv iL;refine⟨_,avL b.av gv,?_⟩;rintro v mM zL ⟨axa,vR,rfl,ahu,oh⟩ u3 w0|refine wG ?_|refine tA ?_)
  have aO7:=aw9.trans (iL.bk.trans oh);have aia:=fx Tl ((iL.bk.trans oh).up ua.aO);have aO8:=Gb b.s dZ;refine W.hz (X:=Nat) (λj=>[(1,cE aR),(2,cE ct),(4,.slice (cV bV) f.blocks.length f.blocks.length),(20,bm (f.blocks.length:Int)),(21,bm (i:Int)),(6,.pointer (some ⟨E,0+i*9,none⟩)),(7,.slice T L ob),(37,.slice axa (e2 b.av).length vR),(38,bm ((e2 b.av).length:Int)),(39,bm (j:Int))])
   (λj F=>j<=(e2 b.av).length/\cW B F/\fR F T (h1 o ((e2 b.av).take j))/\c0 F axa 2 (e2 b.av) kL) (λj=>(e2 b.av).length-j)
   (λC a=>⟨0,?_,⟨dG _,aO7.trans a.bk,by rw[xp];exact fx aia a.up,ahu.mono a.up λ_ _ h=>h⟩⟩) ?_
  .exact ca
  rintro j uQ Og SB ⟨aA,aiN,yy,axb⟩;have aiO:(h1 o ((e2 b.av).take j)).length=L:=by rw[Tr];exact aw7
  have JG:=awN b.av;by_cases hb:j<(e2 b.av).length
  .obtain⟨x,aa⟩:∃x,(e2 b.av)[j]?=some x:=⟨_,ey hb⟩;obtain⟨bt,off,cs,e,rfl,e9,Zp,F8⟩:=axb.get j x aa;have p4:=SB.aO _ _ e9;have F8:cr (off+j*2) 2 cs=dX x:=F8;have Ob:=aO8 x (bQ aa);repeat(first|refine er ?_|apply ad.hF;rfl;rfl;rfl;exact e9;exact p4;exact Zp;exact F8|apply ad.gC;rfl;rfl;rfl;intro gL ft;refine⟨_,bc.ex (aOX _ aiO T ob _ Ob zh gL (fx yy ft.up)),?_⟩;rintro v H' yf ⟨rfl,rfl⟩ s3 oc|refine n4 ?_|refine la ?_|refine Ka ?_)
   have BH:=fx yy ft.up;refine eK rfl λC a=>⟨j+1,?_,⟨U,((aiN.trans ft.bk).TQ (Ix BH) sZ).trans a.bk,?_,(c0.nn ft.aO (axb.mono ft.up λ_ _ h=>h) BH).mono a.up λ_ _ h=>h⟩,U⟩
   .exact ca
   .rw[avR aa];exact fx (Zs BH (yV _ _)) a.up
  have vL:j=(e2 b.av).length:=U;rw[vL,mv] at yy aiO;have Ga:=aiN.up G.aO _ _ w.fC.m;have aO9:=SB.aO _ _ Ga;have aOI:b.ah.length<=1000000:=by have:=Bj b.s dZ;simpa[bG.s] using this
  have aiP:(b0.map bG.c).flatten[0+i*9+0]?=some (.slice b.A b.ah.length b.k):=vl (o:=0) nu U bo (by rw[Pn];simp[kq,bG.s]);refine Hr ?_;refine Hs ?_;refine uU ?_;apply W.seq;apply W.seq;repeat(first|apply ad.dv;rfl;rfl;rfl;exact Ga;exact aO9;exact aiP|refine kJ ?_|refine jH ?_|refine tA ?_)
  refine W.hz (X:=Nat×dc×List lK×Nat) (λx=>[(1,cE aR),(2,cE ct),(4,.slice (cV bV) f.blocks.length f.blocks.length),(20,bm (f.blocks.length:Int)),(21,bm (i:Int)),(6,.pointer (some ⟨E,0+i*9,none⟩)),(7,.slice T L ob),(10,cD 12 x.2.2.2 (x.2.2.1.map dK)),(11,bm ((x.1:Int)-1))])
   (λx F=>x.1<=b.ah.length/\cW B F/\fR F T x.2.1/\x.2.1.length=L/\Aa ((b.ah.take x.1).map (·.1)).reverse x.2.1 (x.2.2.1.map (·.1)).reverse=(Dk b.s o).ah/\(∀y∈x.2.2.1,y∈b.ah)/\x.2.2.1.length+x.1<=b.ah.length/\(x.2.2.1≠[]->B.n<=x.2.2.2/\F.m x.2.2.2=bS ((x.2.2.1.map dK).flatten) 42)) (λx=>x.1)
   (λC a=>⟨(b.ah.length,h1 o (e2 b.av),[],0),?_,⟨b4 _,aiN.trans a.bk,fx yy a.up,aiO,by dsimp only;rw[mv];rfl,(λy aN=>JA),aF,λak=>absurd rfl ak⟩⟩) ?_
  .dsimp only;exact ca
  rintro⟨k,s,u,r⟩ iN Dd pP ⟨aj,TR,axc,vj,gw,O,k9,D⟩;dsimp only at aj TR axc vj gw O k9 D|-;have Pu:=TR.up G.aO _ _ w.fC.m;have aiv:=pP.aO _ _ Pu;cases k with
  | zero =>
   rw[xp] at gw;have hT:u.reverse.map (·.1)=(Dk b.s o).ah:=by rw[List.map_reverse];exact gw
   obtain⟨TS,Oh⟩:∃TS:Option Addr,(if u=[] then none else some ⟨r,0,none⟩)=TS:=⟨_,rfl⟩;obtain⟨aiQ,aiR⟩:=ld (if u=[] then 0 else dF 12);have zm:cD 12 r (u.map dK)=.slice TS u.length aiQ:=by rw[aOW,jO,Oh,aiR]
   have aPa:(.slice TS u.length aiQ:Value)=cD 12 r u.reverse:=by rw[jO,<-Oh,<-aiR,I3];simp
   rw[zm];repeat(first|refine fi ?_|refine nD ?_|refine W3 ?_|refine lC ?_)
   refine W.hz (X:=Nat) (λk=>[(1,cE aR),(2,cE ct),(4,.slice (cV bV) f.blocks.length f.blocks.length),(20,bm (f.blocks.length:Int)),(21,bm (i:Int)),(6,.pointer (some ⟨E,0+i*9,none⟩)),(10,.slice TS u.length aiQ),(13,bm (k:Int))])
    (λk F=>k<=u.length/2/\cW B F/\(u≠[]->F.m r=bS (((sk u k).map dK).flatten) 42)) (λk=>u.length/2-k)
    (λC a=>⟨0,?_,⟨dG _,TR.trans a.bk,λak=>a.up _ _ (D ak).2⟩⟩) ?_
   .exact ca
   rintro k F aTe ZM ⟨hk,aiS,FZ⟩;by_cases kG:k<u.length/2
   .have bM:u≠[]:=abd;rw[ai bM] at Oh;subst Oh;obtain⟨aiT,bN,Sn,axd,gl⟩:=aOU u kG;have Z6:=FZ bM;have Z7:=ZM.aO _ _ Z6;have axe:=bx G.rw (D bM).1;have IG:(u.length:Int)-1-(k:Int)=((u.length-1-k:Nat):Int):=U;have axf:((sk u k).set k bN)[u.length-1-k]?=some bN:=by rw[fl,ai U];exact axd
    obtain⟨axg,N⟩:=Z4 Sn (off:=0+k*12) U;obtain⟨vp,acW⟩:=Z4 axd (off:=0+(u.length-1-k)*12) U;have aPb:=(Z4 axf (off:=0+(u.length-1-k)*12) U).2;rw[xF] at axg vp;have xS:eB ((sk u k).map dK).flatten (0+k*12) (cL bN.1 (mY bN) (qp bN))=(((sk u k).set k bN).map dK).flatten:=by rw[<-xF];exact aw3 Sn U
    have cN:eB (((sk u k).set k bN).map dK).flatten (0+(u.length-1-k)*12) (cL aiT.1 (mY aiT) (qp aiT))=((sk u (k+1)).map dK).flatten:=by rw[gl,<-xF];exact aw3 axf U
    have aPc:∀z,(F.set r z).m r=some z:=λz=>P7;repeat(first|apply ad.aw2;rfl;rfl;rfl;omega|refine er ?_|(apply ad.hF;rfl;rfl;rfl;first|exact Z6;exact Z7;exact N;exact axg|exact Z6;exact Z7;exact acW;exact vp)|(apply ad.gi;rfl;rfl;rfl;first|exact Z6;exact Z7;exact axe;exact N;rfl;rfl;exact xS|exact aPc _;exact Z7;exact axe;exact aPb;rfl;rfl;exact cN)|refine Cx ?_|refine la ?_|refine Ry ?_|apply ad.subNat;(iterate 4 rfl);omega|refine kW ?_)
    have axh:∀j,j=r->B.n<=j:=λj e=>by rw[e];exact(D bM).1
    refine eK rfl λC a=>⟨k+1,?_,⟨kG,((aiS.TQ (cT.set F r _) axh).TQ (cT.set _ r _) axh).trans a.bk,λ_=>a.up _ _ P7⟩,U⟩;exact ca
   .have q7:k=u.length/2:=U;rw[q7,aOT] at FZ;have axi:=aiS.up G.aO _ _ w.fC.m;have axj:=ZM.aO _ _ axi;repeat(first|apply ad.aw2;rfl;rfl;rfl;omega|apply ad.gi;rfl;rfl;rfl;exact axi;exact axj;exact w.fC.rw;(have:=(Dz nu (off:=i*9) rfl).2;omega);rfl;rfl;exact ajU (b':=⟨u.reverse,r,b.av⟩) nu U aPa rfl|refine wG ?_|refine adZ ?_|refine EM ?_)
    have sb:=w.next G.aO bF.rw I aH hT (λy aN=>O y (List.mem_reverse.1 aN)) aiS (r:=r) λak=>(have ak:u≠[]:=λe=>ak qH;⟨(D ak).1,FZ ak⟩);refine eK rfl λC a=>⟨(i+1,b0.set i ⟨u.reverse,r,b.av⟩),?_,⟨bs,sb.up ?_ a.bk⟩,?_⟩
    .exact ca
    .intro j y aN;have aN:(if j=E then _ else F.m j)=some y:=aN;split at aN
     .rename_i e;rw[e];exact axj
     .exact ZM.aO j y aN
    .show bv.length-(i+1)<bv.length-i;omega
  | succ k =>
   have aPd:((k+1:Nat):Int)-1=(k:Int):=U;rw[aPd];have ZA:b.ah≠[]:=by intro e;rw[e] at aj;exact absurd aj (Nat.not_succ_le_zero _)
   have YV:b.A=some ⟨b.r,0,none⟩:=by unfold bG.A;rw[ai ZA]
   rw[YV] at aiP;obtain⟨x,aa⟩:=cR b.ah k U;have Sl:=TR.up G.aO _ _ (w.fC.row b aw8 ZA).2;have aPe:=pP.aO _ _ Sl;obtain⟨axk,aPf⟩:=Z4 aa (off:=0+k*12) U;rw[xF x] at axk;have oK:Aa (x.1::((b.ah.take k).map (·.1)).reverse) s (u.map (·.1)).reverse=(Dk b.s o).ah:=by
    rw[<-gw];obtain⟨cB,cy⟩:=cS.1 aa;rw[BX cB,cy,pW,aaD];rfl
   rw[Aa] at oK;have qu:x.1∈b.s.ah:=GF (bQ aa);obtain⟨aOL,Z2,aiH⟩:=zQ b.s dZ x.1 qu;have mZ:=aOV (x:=x) λak=>(w.fC.arg b aw8 x (bQ aa) ak).2;apply W.seq;apply W.seq;repeat(first|refine pw ?_|refine iR ?_|refine lB ?_|refine adY ?_)
   refine zs ?_;apply W.seq;repeat(first|refine er ?_|apply ad.dv;rfl;rfl;rfl;exact Pu;exact aiv;exact aiP|apply ad.hF;rfl;rfl;rfl;exact Sl;exact aPe;exact aPf;exact axk|refine nz ?_|refine EL ?_)
   refine W.hH λlv C9 a9=>?_;have aG:lv.m (Dd 0)=bS (cL x.1 (mY x) (qp x)) 42:=a9.bJ 0 (dN 0);generalize Dd 0=q at *;have uO:=a9.aO _ _ aG;have S:=TR.trans a9.bk;have BM:=fx axc a9.up;have Q:=λak=>a9.up _ _ (D ak).2;repeat'(first|(apply ad.jy;rfl;rfl;rfl;first|exact λC eL=>aOP x.1 (mY x) (qp x) C|exact λC eL=>aOY s vj T ob _ Z2 zh C (fx BM eL.up))|refine M7 ?_|apply ad.dv;rfl;rfl;rfl;exact aG;exact uO;rfl|apply ad.gC;rfl;rfl;rfl;intro Fo R;refine⟨_,awM s vj T ob x.1 (mY x) (qp x) zh U Z2 aiH Fo (fx BM R.up) (mZ.mono (λi y aN=>R.up _ _ (S.up G.aO i y aN)) λ_ _ h=>h),?_⟩;rintro v LU aOF ⟨ID,Gg⟩ IE aOG;have r4:=λ{j:Nat}{y:cd} (aN:lv.m j=some y) (he:y.elem≠153)=>aiA R.aO (fx BM R.up) Gg (R.up _ _ aN) he;have Pw:=r4 aG aF;have aiF:=IE.aO _ _ Pw|apply ad.hF;rfl;rfl;rfl;exact Pw;exact aiF;exact iu;rfl|refine gP ?_|apply ad.Sw (v:=cL x.1 (mY x) (qp x)) (L:=u.map dK);(iterate 6 rfl);exact λIp BA=>⟨BA.bJ 0 (dN 0),λak=>(have ak:u≠[]:=λe=>ak qH;⟨bx G.rw (D ak).1,BA.up _ _ (r4 (Q ak) aF)⟩)⟩;exact Fw u;rfl;rfl;(rw[fI];omega);(rw[fI];omega);intro wk M Z8 LV aON aw0 Z9 ayI LW Px|refine Rn ?_|refine rR ?_|refine jH ?_|refine k7 ?_|refine hW ?_|(with_reducible first|apply W.seq|apply W.exit|apply W.skip|apply fr|apply mC|apply rM)|refine q1 ?_|(refine c7 ?_ ?_)<;>intro _)
   .rw[au (by rw[‹(!B5 x.1)=true›,qE ‹x.1.dst<0›];rfl)] at oK;refine eK rfl λC a=>⟨(k,s,u,r),?_,⟨GH aj,S.trans a.bk,fx BM a.up,vj,oK,O,(show u.length+k<=b.ah.length by omega),λak=>⟨(D ak).1,a.up _ _ (Q ak)⟩⟩,dN _⟩;exact ca
   .rw[au (by rw[‹(!B5 x.1)=true›,‹(!cU s x.1.dst)=true›];simp)] at oK;refine eK rfl λC a=>⟨(k,s,u,r),?_,⟨GH aj,S.trans a.bk,fx BM a.up,vj,oK,O,(show u.length+k<=b.ah.length by omega),λak=>⟨(D ak).1,a.up _ _ (Q ak)⟩⟩,dN _⟩;exact ca
   .rw[ai aa5] at oK;rw[au ⟨‹x.1.op=2›,‹x.1.a.ck=x.1.dst›⟩] at oK;refine eK rfl λC a=>⟨(k,s,u,r),?_,⟨GH aj,S.trans a.bk,fx BM a.up,vj,oK,O,(show u.length+k<=b.ah.length by omega),λak=>⟨(D ak).1,a.up _ _ (Q ak)⟩⟩,dN _⟩;exact ca
   .rw[ai aa5] at oK;rw[ai (λe=>absurd e.2 ‹¬x.1.a.ck=x.1.dst›)] at oK;obtain⟨LX,Gh,DD⟩:=Z5 S R.bk Gg sZ M.bk ID M.aO IE.aO (λak=>M.up _ _ (r4 (Q ak) aF)) (λak=>(D ak).1) LW Px;have ba:(u++[x]).map dK=u.map dK++[cL x.1 (mY x) (qp x)]:=Vf;refine eK rfl λC a=>⟨(k,ni s x.1,u++[x],Z8),?_,⟨GH aj,LX.trans a.bk,fx Gh a.up,Vj,U0,?_,(show(u++[x]).length+k<=b.ah.length by rw[iM,DW];omega),λak=>⟨bx DD Z9,a.up _ _ VA⟩⟩,dN _⟩
    .dsimp only;rw[ba];exact ca
    .intro y aN;rcases ha.1 aN with e|e
     .exact O y e
     .simp only[gU] at e;subst e;exact VH
   .rw[ai aa5] at oK;rw[ai (λe=>absurd e.1 ‹¬x.1.op=2›)] at oK;obtain⟨LX,Gh,DD⟩:=Z5 S R.bk Gg sZ M.bk ID M.aO IE.aO (λak=>M.up _ _ (r4 (Q ak) aF)) (λak=>(D ak).1) LW Px;have ba:(u++[x]).map dK=u.map dK++[cL x.1 (mY x) (qp x)]:=Vf;refine eK rfl λC a=>⟨(k,ni s x.1,u++[x],Z8),?_,⟨GH aj,LX.trans a.bk,fx Gh a.up,Vj,U0,?_,(show(u++[x]).length+k<=b.ah.length by rw[iM,DW];omega),λak=>⟨bx DD Z9,a.up _ _ VA⟩⟩,dN _⟩
    .dsimp only;rw[ba];exact ca
    .intro y aN;rcases ha.1 aN with e|e
     .exact O y e
     .simp only[gU] at e;subst e;exact VH
   .rw[ai abu] at oK;rw[au ⟨‹x.1.op=2›,‹x.1.a.ck=x.1.dst›⟩] at oK;refine eK rfl λC a=>⟨(k,s,u,r),?_,⟨GH aj,S.trans a.bk,fx BM a.up,vj,oK,O,(show u.length+k<=b.ah.length by omega),λak=>⟨(D ak).1,a.up _ _ (Q ak)⟩⟩,dN _⟩;exact ca
   .rw[ai abu] at oK;rw[ai (λe=>absurd e.2 ‹¬x.1.a.ck=x.1.dst›)] at oK;obtain⟨LX,Gh,DD⟩:=Z5 S R.bk Gg sZ M.bk ID M.aO IE.aO (λak=>M.up _ _ (r4 (Q ak) aF)) (λak=>(D ak).1) LW Px;have ba:(u++[x]).map dK=u.map dK++[cL x.1 (mY x) (qp x)]:=Vf;refine eK rfl λC a=>⟨(k,ni s x.1,u++[x],Z8),?_,⟨GH aj,LX.trans a.bk,fx Gh a.up,Vj,U0,?_,(show(u++[x]).length+k<=b.ah.length by rw[iM,DW];omega),λak=>⟨bx DD Z9,a.up _ _ VA⟩⟩,dN _⟩
    .dsimp only;rw[ba];exact ca
    .intro y aN;rcases ha.1 aN with e|e
     .exact O y e
     .simp only[gU] at e;subst e;exact VH
   .rw[ai abu] at oK;rw[ai (λe=>absurd e.1 ‹¬x.1.op=2›)] at oK;obtain⟨LX,Gh,DD⟩:=Z5 S R.bk Gg sZ M.bk ID M.aO IE.aO (λak=>M.up _ _ (r4 (Q ak) aF)) (λak=>(D ak).1) LW Px;have ba:(u++[x]).map dK=u.map dK++[cL x.1 (mY x) (qp x)]:=Vf;refine eK rfl λC a=>⟨(k,ni s x.1,u++[x],Z8),?_,⟨GH aj,LX.trans a.bk,fx Gh a.up,Vj,U0,?_,(show(u++[x]).length+k<=b.ah.length by rw[iM,DW];omega),λak=>⟨bx DD Z9,a.up _ _ VA⟩⟩,dN _⟩
    .dsimp only;rw[ba];exact ca
    .intro y aN;rcases ha.1 aN with e|e
     .exact O y e
     .simp only[gU] at e;subst e;exact VH
 .have tT:i=bv.length:=U;have iU:=w.aiK;have aPg:=G.aO _ _ iU;have lx:=w.len;have fQ:bC b0=wS (bC bv) c3:=by
   have:=w.pl;rw[tT,BY Jh,BY (by rw[aw4,jF];omega)] at this;exact dm
  repeat(first|refine Rm ?_|apply ad.gi;rfl;rfl;rfl;exact iU;exact aPg;exact uM;exact iu;iterate 3 rfl|refine uS ?_)
  refine cf _ (.cons (.rk (vs:=dj f Z aW a8 aT (cV E) V) rfl GI (dM rfl) rfl) .nil) λC a=>⟨b0,?_,?_,?_,?_,?_,w.sub⟩
  .have e:f.blocks.length=(bC b0).length:=by rw[jF,lx,LK]
   show Value.agg ⟨dj f Z aW a8 aT (cV E) V⟩=_;unfold dj;rw[e]
  .refine w.fC.Ps λj x aa he=>a.up _ _ ?_;show(if j=ct then _ else B.m j)=_;rw[ai (c2 aa iU he)];exact aa
  .rw[fQ];exact aO5
  .exact(w.off.trans (cT.set B ct _) λj aA e=>absurd oi U).dB a.bk.off
  .intro x aa ak;exact w.new x (by rw[tT,BY U];exact aa) ak
def aiU:∀(l:List cO) (s:dc) (a:List cO),(Aa l s a).Sublist (l.reverse++a)
 | [],_,a=>UF _
 | x::r,s,a=>by
  have b:=(aiU r s a).trans (List.Sublist.append (UF _) (List.sublist_cons_self x a));rw[Aa,(aF:(x::r).reverse++a=r.reverse++(x::a))];split
  .exact b
  .split
   .exact b
   .exact aiU r (ni s x) (x::a)
def aPh b o:(Dk b o).ah.Sublist b.ah:=by
 have:=aiU b.ah.reverse (h1 o (e2 b.av)) [];rw[List.reverse_reverse,l2] at this;exact dm
def ta(bl ef:List bT):Prop:=ef.length=bl.length/\∀(i:Nat) (b b':bT),bl[i]?=some b->ef[i]?=some b'->b'.av=b.av/\b'.ah.Sublist b.ah
def ta.refl bl:ta bl bl:=⟨rfl,λi b b' J ab=>by rw[J] at ab;cases ab;exact⟨rfl,UF _⟩⟩
def ta.trans{a b c}(J:ta a b)(ab:ta b c):ta a c:=by
 refine⟨by rw[ab.1,J.1],λi x z aa e=>?_⟩;have ag:=(cS.1 aa).1;have⟨y,d⟩:=cR b i (by rwa[J.1]);have⟨g1,g2⟩:=J.2 i x y aa d;have⟨g3,g4⟩:=ab.2 i y z d e;exact⟨by rw[g3,g1],g4.trans g2⟩
def axl:∀(bl:List bT) (os:List dc),ta bl (wS bl os)
 | [],[]=>.refl _
 | [],_::_=>.refl _
 | _::_,[]=>.refl _
 | b::bl,o::os=>by
  have a:=axl bl os;rw[wS];refine⟨by rw[e5,e5,a.1],λi x y aa aN=>?_⟩;rcases i with _|i
  .simp[kC,dh] at aa aN;subst aa;subst aN;exact⟨rfl,aPh _ _⟩
  .exact a.2 i x y B6 Jl
def zu.less{ae bl ef}(h:zu ae bl ef):ta bl ef:=by
 cases h with
 | mk h=>exact axl _ _
def ta.size{bl ef}(h:ta bl ef):gJ ef<=gJ bl:=by
 induction bl generalizing ef with
 | nil =>
  have:=mr.1 h.1;subst this;exact xE
 | cons b bl aP =>
  rcases ef with _|⟨b',ef⟩
  .simp[gJ]
  .have J:=(h.2 0 b b' rfl rfl).2.length_le;have ab:=aP ⟨by have:=h.1;simpa using this,λi x y aa aN=>h.2 (i+1) x y B6 Jl⟩;unfold gJ at ab|-;simp[gg,nP];omega
def ta.mem{bl ef}(h:ta bl ef){b'}(I:b'∈ef):∃b∈bl,b'.av=b.av/\b'.ah.Sublist b.ah:=by
 have⟨i,ag⟩:=nO.1 I;have ao:=(cS.1 ag).1;have⟨b,I⟩:=cR bl i (by rwa[<-h.1]);exact⟨b,bQ I,h.2 i b b' I ag⟩
def ta.gV{bl ef}(h:ta bl ef)(aS:im bl):im ef:=by
 intro b I k aj;have⟨mH,J,ab,_⟩:=h.mem I;rw[ab] at aj;exact h.1▸aS mH J k aj
def aun bv:gJ (bC bv)=BI bv:=by
 rw[gJ,BI,bC,Gv];congr 1;apply As;intro b _;simp[bG.s]
structure pC(ae:Int)(bl:List bT):Prop where
 pos:0<bl.length
 len:bl.length<=100000
 oD:0<=ae
 gn:ae<=1000000
 gV:im bl
 size:gJ bl<=1000000
 jB:∀b∈bl,∀x∈b.ah,x.args.length<=1000000/\b8 x.dst/\∀a∈eI x,b8 a.ck
 axm:∀b∈bl,∀a∈e2 b.av,b8 a.ck
def Kh{bl b}(h:b∈bl):b.ah.length<=gJ bl:=by
 induction bl with
 | nil=>cases h
 | cons c bl aP =>
  unfold gJ at aP|-;simp[gg,nP];rcases dI.1 h with e|e
  .subst e;omega
  .have:=aP e;omega
def pC.less{ae bl ef}(o:pC ae bl)(h:ta bl ef):pC ae ef :=
 ⟨h.1▸o.pos,h.1▸o.len,o.oD,o.gn,h.gV o.gV,bx h.size o.size,λb I x aa=>(by have⟨mH,J,_,a⟩:=h.mem I;exact o.jB mH J x (a.subset aa)),λb I=>(by have⟨mH,J,ab,_⟩:=h.mem I;exact ab▸o.axm mH J)⟩
def aPi h d bv(f:dp) l m p o i(q:hY h d bv)(a:pC f.ae (bC bv)):
 dw prog 39 [.agg ⟨dj {f with blocks:=bC bv} l m p o (some ⟨d,0,none⟩) i⟩] h (λv aw=>∃g,v=.agg ⟨dj {f with blocks:=bC g} l m p o (some ⟨d,0,none⟩) i⟩/\hY aw d g/\zu f.ae (bC bv) (bC g)/\cT (λj=>j=d) h aw/\(∀b∈g,b.ah≠[]->h.n<=b.r)/\∀b'∈g,∀x∈b'.ah,∃b∈bv,x∈b.ah) :=
 aO3 h d bv {f with blocks:=bC bv} l m p o i rfl (by have:=a.pos;rwa[jF] at this) (by have:=a.len;rwa[jF] at this) q a.oD a.gn a.gV (λb I=>bx (Kh I) a.size) a.jB a.axm
def aul h aL bv(f:dp) s u z w bn(je:hY h aL bv)(aQ:pC f.ae (bC bv)):
 dw prog 21 [.agg ⟨dj {f with blocks:=bC bv} s u z w (some ⟨aL,0,none⟩) bn⟩] h (λv aw=>∃jR,v=.agg ⟨dj {f with blocks:=bC jR} s u z w (some ⟨aL,0,none⟩) bn⟩/\hY aw aL jR/\vC f.ae (bC bv) (bC jR)/\cT (λj=>j=aL) h aw/\(∀b∈jR,b.ah≠[]->h.n<=b.r)/\∀b'∈jR,∀x∈b'.ah,∃b∈bv,x∈b.ah):=by
 refine dw.i func21 ntmps21 λπ Q=>?_;conv=>arg 2;whnf
 apply W.seq;repeat(first|refine Hg ?_|refine anJ ?_|refine tA ?_)
 refine W.hH λds pD F=>?_;have tQ:ds.m (π 0)=bS (dj {f with blocks:=bC bv} s u z w (some ⟨aL,0,none⟩) bn) 53:=F.bJ 0 (eQ kP (hr 1));have eA:h.n<=π 0:=F.bL 0 (eQ kP (hr 1));have oi:h.n<=π 1:=F.bL 1 (dN 1);have R:ds.m (π 1)=bS (ei (.agg ⟨dj ⟨⟨#[]⟩,0,0,0,[],[]⟩ none 0 none 0 none 0⟩)) 53:=F.bJ 1 (dN 1);have rG:π 0≠π 1:=λe=>absurd (F.inj 0 1 (eQ kP (hr 1)) (dN 1) e) bo;generalize π 0=aR at *;generalize π 1=ct at *;have uM:=bx Q.rw oi;have N:=bx Q.rw eA;have TG:=Q.aO _ _ je.m;repeat(fail)
 refine W.hz (X:=List bG) (λ_=>[(1,cE aR),(2,cE ct)])
  (λc B=>hY B aL c/\B.m aR=bS (dj {f with blocks:=bC c} s u z w (some ⟨aL,0,none⟩) bn) 53/\B.m ct=bS (ei (.agg ⟨dj ⟨⟨#[]⟩,0,0,0,[],[]⟩ none 0 none 0 none 0⟩)) 53/\cT (λj=>j=aL) h B/\pC f.ae (bC c)/\(∀ef,vC f.ae (bC c) ef->vC f.ae (bC bv) ef)/\∀b'∈c,∀x∈b'.ah,∃b∈bv,x∈b.ah) (λc=>gJ (bC c))
  (λaD a=>⟨bv,?_,⟨je.up (λi x aa=>a.up _ _ (F.up _ _ aa)),a.up _ _ tQ,a.up _ _ R,(F.bk.trans a.bk).off,aQ,λ_ h=>h,λb I x aa=>⟨b,I,aa⟩⟩⟩) ?_
 .exact ca
 rintro c B fE dd ⟨tP,bz,iU,fw,C,NB,jd⟩;have gh:=dd.aO _ _ bz;apply W.block;apply W.seq;repeat(first|apply ad.jy;rfl;rfl;rfl;exact λaD eL=>aol aR f.ae (cV aL) bn (bC c) C.len C.size aD ((Iz.at (f:={f with blocks:=bC c}) ⟨bz,N⟩ tP (by rw[jF])).up eL.up)|refine J9 ?_)
 apply W.seq;repeat(first|refine Rm ?_|refine gr ?_|apply ad.gC;rfl;rfl;rfl;refine λB2 A=>⟨_,aPi B2 aL c f s u z w bn (tP.up A.up) C,?_⟩;rintro v D fj ⟨jR,rfl,V,E,Z,T,S⟩ ua Lu;have O:=(Z.2 aR (A.aO _ _ (A.up _ _ bz)) U).trans (A.up _ _ bz);have Pq:=ua.aO _ _ O|apply ad.gi;rfl;rfl;rfl;exact O;exact Pq;exact N;exact iu;rfl;rfl;exact(show eB (dj {f with blocks:=bC c} s u z w (cV aL) bn) 0 (dj {f with blocks:=bC jR} s u z w (cV aL) bn)=dj {f with blocks:=bC jR} s u z w (cV aL) bn from rfl))
 have L:=E.less;have adt:=C.less L;have ej:=L.size;have G:∀b'∈jR,∀x∈b'.ah,∃b∈bv,x∈b.ah:=λb' da x aa=>(by have⟨b1,J,ab⟩:=S b' da x aa;exact jd b1 J x ab);obtain⟨X,cc⟩:∃X:cd,X=⟨⟨dj {f with blocks:=bC jR} s u z w (cV aL) bn⟩,53⟩:=⟨_,rfl⟩;have M:(D.set aR X).m aR=bS (dj {f with blocks:=bC jR} s u z w (some ⟨aL,0,none⟩) bn) 53:=by show(if aR=aR then _ else _)=_;rw[au rfl,cc]
 have Y:hY (D.set aR X) aL jR:=V.Ps λj x aa he=>(by show(if j=aR then _ else D.m j)=_;rwa[ai (c2 aa O he)]);have ZH:=(Z.2 ct (A.aO _ _ (A.up _ _ iU)) U).trans (A.up _ _ iU);have EF:(D.set aR X).m ct=bS (ei (.agg ⟨dj ⟨⟨#[]⟩,0,0,0,[],[]⟩ none 0 none 0 none 0⟩)) 53:=by show(if ct=aR then _ else D.m ct)=_;rwa[ai (λe=>rG e.symm)]
 have aoJ:=ua.aO _ _ ZH;have IA:=((fw.dB A.bk.off).trans Z λj _ e=>e).trans (cT.set D aR X) λj aA e=>absurd eA U;have aAP:Bk (D.set aR X) aR f.ae (cV aL) bn (bC jR):=Iz.at (f:={f with blocks:=bC jR}) ⟨M,N⟩ Y (by rw[jF]);rw[<-cc];by_cases aG:gJ (bC jR)=gJ (bC c)
 .repeat(first|refine aok ?_|apply ad.hF;rfl;rfl;rfl;exact M;exact Pq;exact iu;rfl|refine aoI ?_|refine pw ?_|refine iR ?_|refine c8 ?_|refine fy ?_|(with_reducible first|apply W.seq|apply W.ret|apply fr|apply wF|apply auq))
  refine cf _ (.cons (.rk rfl GI (dM rfl) rfl) .nil) λaD a=>⟨jR,rfl,?_,NB _ (.stop E aG),(IA.trans (cT.set _ ct _) λj aA e=>absurd oi U).dB a.bk.off,(λb I ak=>bx (bx fw.1 A.le) (T b I ak)),G⟩
  .refine Y.Ps λj x aa he=>a.up _ _ ?_;show(if j=ct then _ else(D.set aR X).m j)=_;rwa[ai (c2 aa EF he)]
 .repeat(first|refine aok ?_|refine pw ?_|refine hL ?_|refine lB ?_|refine oR ?_|refine adN ?_)
  refine eK rfl λaD a=>⟨jR,?_,⟨Y.up a.up,a.up _ _ M,a.up _ _ EF,IA.dB a.bk.off,adt,λef J=>NB _ (.go E aG J),G⟩,U⟩;exact ca
def vC.less{ae bl ef}(h:vC ae bl ef):ta bl ef:=by
 induction h with
 | stop h _=>exact h.less
 | go h _ _ aP=>exact h.less.trans aP
def aPm{c d g h a f}(m:cT (λj=>j=a) c d)(l:cW d g)(i:cT (mm a f) g h)(ak:∀b∈f,b.ah≠[]->c.n<=b.r):cT (λj=>j=a) c h :=
 (m.trans (T:=λj=>j=a) l.off λj _ e=>e).trans i λj p e=>by
  rcases e with e|⟨b,I,k,o⟩
  .exact e
  .have:=ak b I k;omega
def aBp h s bv(f:dp) C M O N Q(je:hY h s bv)(aQ:pC f.ae (bC bv)):
 dw prog 26 [.agg ⟨dj {f with blocks:=bC bv} C M O N (some ⟨s,0,none⟩) Q⟩] h (λv aw=>∃B A u,v=.agg ⟨dj {f with blocks:=vD u} C M O N (some ⟨B,0,none⟩) (dF 9)⟩/\hY aw B A/\vC f.ae (bC bv) u/\bC A=vD u/\cT (λj=>j=s) h aw/\∀i,mm B A i->i=s\/h.n<=i):=by
 refine dw.i func26 ntmps26 λπ bF=>?_;conv=>arg 2;whnf
 refine Hq ?_;refine W.hH λds pD w=>?_;have bz:ds.m (π 0)=bS (dj {f with blocks:=bC bv} C M O N (some ⟨s,0,none⟩) Q) 53:=w.bJ 0 (eQ kP (hr 1));have oi:h.n<=π 1:=w.bL 1 (dN 1);have iU:ds.m (π 1)=bS (ei (.agg ⟨dj ⟨⟨#[]⟩,0,0,0,[],[]⟩ none 0 none 0 none 0⟩)) 53:=w.bJ 1 (dN 1);generalize π 0=aR at *;generalize π 1=ct at *;have gh:=w.aO _ _ bz;have uM:=bx bF.rw oi;have TG:=bF.aO _ _ je.m;repeat(first|refine Rm ?_|refine ov ?_|(apply ad.gC;rfl;rfl;rfl;first|refine λdA z=>⟨_,aul dA s bv f C M O N Q (je.up (λi x aa=>z.up _ _ (w.up _ _ aa))) aQ,?_⟩;rintro v lD fE ⟨u,rfl,Y,L,G,F,aTf⟩ q5 uX;have c:=aQ.less L.less;have E:=c.pos;have Z:=c.len;have D:=c.size;rw[jF] at E Z;rw[aun] at D|refine λeW R=>⟨_,aum eW s u {f with blocks:=bC u} C M O N Q rfl E Z (Y.up R.up) c.gV D,?_⟩;rintro v Bu rj ⟨B,A,rfl,TT,T,X,V⟩ F9 avT;have fw:=aPm G R.bk X F;have EF:=(fw.2 ct (z.aO _ _ (z.up _ _ iU)) U).trans (z.up _ _ iU);have aoJ:=F9.aO _ _ EF)|refine aoI ?_)
 refine cf _ (.cons (.rk rfl GI (dM rfl) rfl) .nil) λaD a=>⟨B,A,bC u,rfl,?_,L,T,((((w.bk.trans z.bk).off (S:=λj=>j=s)).dB fw).trans (cT.set _ ct _) λj aA e=>absurd oi U).dB a.bk.off,?_⟩
 .refine TT.Ps λj x aa he=>a.up _ _ ?_;show(if j=ct then _ else Bu.m j)=_;rwa[ai (c2 aa EF he)]
 .intro i ag;have J:h.n<=dA.n:=bx w.le z.le;have ab:=bx G.1 R.le;rcases V i ag with(e|⟨b,I,iA,ahk⟩)|e
  .exact .inl e
  .have:=F b I iA;exact .inr U
  .exact .inr U
def lb(h:aV)(cs:List Value)(f:dp):Prop:=∃bj aW a8 aT dr bn bI,cs=dj f bj aW a8 aT dr bn/\bI.length=f.hO/\c0 h bj 1 bI Zm/\c0 h a8 1 f.bZ CP/\c0 h dr 9 f.blocks (yb h)
def lp{h H}(hm:∀i b,h.m i=some b->H.m i=some b){cs f}(r:lb h cs f):lb H cs f:=by
 have⟨d,j,l,k,a,c,g,e,h0,s,t,u⟩:=r;exact⟨d,j,l,k,a,c,g,e,h0,s.mono hm λ_ _ h=>h,t.mono hm λ_ _ h=>h,u.mono hm λ_ _ h=>zP hm h⟩
def lb.r{h cs f}(r:lb h cs f):Kc h cs f:=by
 have⟨c,d,i,g,a,b,j,e,h0,s,t,u⟩:=r;exact⟨c,d,i,g,a,b,e,t,u⟩
def lb.len{h cs f}(r:lb h cs f):cs.length=6:=by
 have⟨c,g,j,i,a,b,d,e,_⟩:=r;rw[e];rfl
structure Hw(f:dp):Prop where
 pos:0<f.blocks.length
 bI:f.hO<=1000000
 bZ:f.bZ.length<=1000000
 len:f.blocks.length<=100000
 ah:∀b∈f.blocks,b.ah.length<=1000000
 args:∀b∈f.blocks,∀x∈b.ah,x.args.length<=1000000
def q4(h:aV):aV where
 m i:=match h.m i with
  | some b=>if b.elem=53\/b.elem=25 then none else some b
  | none=>none
 n:=h.n
def axu{h i b}(I:(q4 h).m i=some b):h.m i=some b/\b.elem≠53/\b.elem≠25:=by
 unfold q4 at I;simp only at I;rcases hm:h.m i with _|c
 .rw[hm] at I;cases I
 .rw[hm] at I;simp only at I;split at I
  .cases I
  .rename_i ak;cases I;rw[not_or] at ak;exact⟨rfl,ak⟩
def Jw{h i b}(I:h.m i=some b)(J:b.elem≠53)(a:b.elem≠25):(q4 h).m i=some b:=by
 unfold q4;simp only[I];rw[ai (by rw[not_or];exact⟨J,a⟩)]
def aiW{h H}(hm:∀i b,h.m i=some b->b.elem≠53->b.elem≠25->H.m i=some b):∀i b,(q4 h).m i=some b->(q4 H).m i=some b:=λi b I=>by
 have⟨J,a,c⟩:=axu I;exact Jw (hm i b J a c) a c
def aPp{h}:∀i b,(q4 h).m i=some b->h.m i=some b:=λ_ _ I=>(axu I).1
def hY.cut{h a bv}(o:hY h a bv):hY (q4 h) a bv :=
 ⟨o.rw,Jw o.m aF aF,λb I ak=>⟨(o.row b I ak).1,Jw (o.row b I ak).2 aF aF⟩,λb I x aa ak=>⟨(o.arg b I x aa ak).1,Jw (o.arg b I x aa ak).2 aF aF⟩,o.c4⟩
def NA(g:FuncId)(K:dp->Prop)(R:dp->dp->Prop):Prop:=∀(B:aV) (N aL:Nat) (bv:List bG) (f:dp) (bj:Option Addr) (aW:Nat) (a8:Option Addr) (aT:Nat) (bI:List Bool),K f->bI.length=f.hO->df<=N->N<=aL->B.m aL=some ⟨⟨(bv.map bG.c).flatten⟩,48⟩->yj B N bv->bC bv=f.blocks->rW B N 4 bj bI .bool->rW B N 3 a8 f.bZ (.int .i64) ->
 dw prog g [.agg ⟨dj f bj aW a8 aT (some ⟨aL,0,none⟩) (dF 9)⟩] B (λv aw=>∃f' cs,v=.agg ⟨cs⟩/\lb (q4 aw) cs f'/\R f f'/\cT (λi=>N<=i) B aw)
def fG.part{P:Program}{B B2 H f:aV}{π:Nat->Nat}{k:Nat}{l d:List (Nat×Option cd)}{e:Nat}(q:(⟨B,π,k,l⟩:aY).a6=H)(ak:B2.n=B.n)(aj:k<=e)(r:∀i,i<k->ec d i=ec l i)(a:fG (P:=P) ⟨B2,π,e,d⟩ f):∀i b,B.n<=i->H.m i=some b->f.m i=some b:=by
 intro i b ag I;rw[<-q] at I;simp only[aY.a6] at I;rw[ai U] at I;cases aa:e8 π k i with
 | none=>rw[aa] at I;cases I
 | some j =>
  rw[aa] at I;obtain⟨o,g⟩:=kf aa;have:f.m (π j)=ec d j:=a.bJ j (show j<e by omega);rw[g] at this;rw[this,r j o];exact I
structure IH(h:aV)(bV:Nat)(p:fX)(a8:Option Addr)(aT:Nat)(R:dp->dp->Prop)(i r:Nat)(L:List (List Value))(cJ:List dp)(B:aV):Prop where
 le:i<=p.funcs.length
 cx:cW h B
 o:B.m bV=some ⟨⟨[cD 6 r L,.slice a8 p.globals.length aT,.int .i64 p.data,.int .i64 p.fA]⟩,25⟩
 row:L≠[]->h.n<=r/\B.m r=some ⟨⟨L.flatten⟩,53⟩
 len:L.length=i
 Py:cJ.length=i
 aI:∀(j:Nat) (c:List Value) (f':dp),L[j]?=some c->cJ[j]?=some f'->lb (q4 B) c f'
 rel:∀(j:Nat) (f f':dp),p.funcs[j]?=some f->cJ[j]?=some f'->R f f'
def IH.up{h e p k f R i r L d B g}(s:IH h e p k f R i r L d B)(a:∀i x,B.m i=some x->i<B.n)(o:cW B g):IH h e p k f R i r L d g :=
 ⟨s.le,s.cx.trans o,o.up a _ _ s.o,λak=>⟨(s.row ak).1,o.up a _ _ (s.row ak).2⟩,s.len,s.Py,λj c f' J l=>lp (aiW λi b I _ _=>o.up a i b I) (s.aI j c f' J l),s.rel⟩
def IH.wid{h d p g f R i r L a B}(s:IH h d p g f R i r L a B):∀c∈L,c.length=6:=by
 intro c aB;have⟨j,b⟩:=nO.1 aB;have m:=(cS.1 b).1;have k:=s.len;have l:=s.Py;obtain⟨f',e⟩:∃f',a[j]?=some f':=⟨_,ey U⟩;exact(s.aI j c f' b e).len
def axv{h C B2 K s l p E D R i r d L u t F y f f' cs}(k:IH h l p E D R i r L u C)(w:∀i x,C.m i=some x->i<C.n)(je:h.n<=l)(N:p.funcs[i]?=some f)(O:(⟨C,t,d,F⟩:aY).a6=K)(Z:lb (q4 K) cs f')(Y:R f f')(ak:B2.n=C.n)(aH:B2.m l=some ⟨⟨[cD 6 (t (d+1)) (L++[cs]),.slice E p.globals.length D,.int .i64 p.data,.int .i64 p.fA]⟩,25⟩)(H:∀j,j≠l->(L≠[]->j≠r)->B2.m j=C.m j)(a:fG (P:=prog) ⟨B2,t,d+1+1,(d+1,some ⟨⟨(L++[cs]).flatten⟩,53⟩)::(d,y)::F⟩ s):IH h l p E D R (i+1) (t (d+1)) (L++[cs]) (u++[f']) s:=by
 have Q:=(cS.1 N).1;have S:B2.n<=s.n:=a.le;have V:=w _ _ k.o;have M:∀i b,C.m i=some b->b.elem≠53->b.elem≠25->s.m i=some b:=by
  intro j b I J e;have v:=w j b I;have:s.m j=B2.m j:=a.cx j (show j<B2.n by omega);rw[this,H j (c2 I k.o e) λak=>c2 I (k.row ak).2 J];exact I
 have eC:=k.cx.1;refine⟨Q,⟨U,λj v=>?_⟩,?_,λ_=>⟨?_,?_⟩,by simp[k.len],by simp[k.Py],λj c g J e=>?_,λj x g J e=>?_⟩
 .have:s.m j=B2.m j:=a.cx j (show j<B2.n by omega);rw[this,H j U λak=>by have:=(k.row ak).1;omega];exact k.cx.2 j v
 .have:s.m l=B2.m l:=a.cx l (show l<B2.n by omega);rw[this];exact aH
 .have:B2.n<=t (d+1):=a.bL (d+1) (show d+1<d+1+1 by omega);omega
 .have:s.m (t (d+1))=ec ((d+1,some ⟨⟨(L++[cs]).flatten⟩,53⟩)::(d,y)::F) (d+1):=a.bJ (d+1) (show d+1<d+1+1 by omega);rw[this,uh,au rfl]
 .have qx:=k.len;have G:=k.Py;by_cases v:j<L.length
  .rw[ur v] at J;rw[ur U] at e;exact lp (aiW M) (k.aI j c g J e)
  .have B:j<(L++[cs]).length:=(cS.1 J).1;have A:j=L.length:=by simp at B;omega
   rw[oI U,A,sr] at J;rw[oI U,show j-u.length=0 by omega] at e;simp only[kC,dh] at J e;subst J;subst e;refine lp (aiW λq b I T X=>?_) Z;by_cases W:q<C.n
   .refine M q b ?_ T X;rw[<-O] at I;simp only[aY.a6] at I;rw[au W] at I;exact I
   .refine fG.part O ak (show d<=d+1+1 by omega) (λz a7=>?_) a q b U I;rw[uh,ai (show¬d+1=z by omega),uh,ai (show¬d=z by omega)]
 .have G:=k.Py;by_cases v:j<u.length
  .rw[ur v] at e;exact k.rel j x g J e
  .have B:j<(u++[f']).length:=(cS.1 e).1;have A:j=u.length:=by simp at B;omega
   rw[oI U,A,sr] at e;rw[A,G,N] at J;simp only[kC,dh] at J e;subst J;subst e;exact Y
def axx(k:Nat)(b:Option cd)(l:List (Nat×Option cd)):ec ((k,b)::l) k=b:=by rw[uh,au rfl]
def RH g[Ke:cY prog g] K R(aS:NA g K R) p(du:∀f∈p.funcs,K f/\Hw f)(ak:p.funcs.length<=100000) h aU e bj aW a8 aT(ek:h.m aU=some ⟨⟨hd p bj aW a8 aT⟩,e⟩)(aC:c0 h bj 6 p.funcs (lb h)):
 dw prog 20 [.pointer (some ⟨aU,0,none⟩),.func (.func g) #[] #[]] h (λv aw=>∃w A c N,v=.pointer (some ⟨w,0,none⟩)/\aw.m w=some ⟨⟨hd {p with funcs:=N} A c a8 aT⟩,25⟩/\c0 aw A 6 N (lb aw)/\N.length=p.funcs.length/\(∀(i:Nat) (f f':dp),p.funcs[i]?=some f->N[i]?=some f'->R f f')/\cW h aw/\h.n<=w):=by
 refine dw.i func20 ntmps20 λπ bF=>?_;conv=>arg 2;whnf
 have aq:=bF.aO;have T:=aq _ _ ek;refine uU ?_;apply W.seq;apply W.seq;repeat(first|refine Xs ?_|refine pw ?_|refine EK ?_|refine oR ?_)
 apply W.seq;repeat(first|apply ad.hF;rfl;rfl;rfl;exact ek;exact T;exact iu;rfl|(with_reducible first|apply ad.nilCheck|apply ad.move);iterate 3 rfl|refine EL ?_)
 apply W.seq;repeat(first|refine Nn ?_|refine MV ?_|refine gr ?_)
 refine W.hH λds pD a0=>?_;have Ki:ds.m (π 0)=bS [.slice none 0 0,.slice a8 p.globals.length aT,.int .i64 p.data,.int .i64 p.fA] 25:=a0.bJ 0 (dN 0);have je:h.n<=π 0:=a0.bL 0 (dN 0);generalize π 0=w at *;have ZV:=bx bF.rw je;replace ek:=a0.up _ _ ek;replace T:=a0.aO _ _ ek;apply W.seq;apply W.seq;repeat(first|apply ad.dv;rfl;rfl;rfl;exact ek;exact T;rfl|refine wG ?_|refine tA ?_)
 refine W.hz (X:=Nat×Nat×List (List Value)×List dp) (λx=>[(1,.func (.func g) #[] #[]),(5,cE w),(17,.slice bj p.funcs.length aW),(18,bm (p.funcs.length:Int)),(19,bm (x.1:Int))])
  (λx B=>IH h w p a8 aT R x.1 x.2.1 x.2.2.1 x.2.2.2 B) (λx=>p.funcs.length-x.1)
  (λaD a=>⟨(0,0,[],[]),?_,⟨dG _,a0.bk.trans a.bk,a.up _ _ Ki,λak=>absurd rfl ak,rfl,rfl,(λj c f' h=>p2),(λj f f' _ h=>p2)⟩⟩) ?_
 .exact ca
 rintro⟨i,r,L,N⟩ B fo dd s;dsimp only at s|-;have ag:=s.le;have eF:=s.o;by_cases bs:i<p.funcs.length
 .have⟨f,ar⟩:=cR p.funcs i bs;have⟨axy,z⟩:=du f (bQ ar);obtain⟨fL,go,pB,ge,rfl,pM,n5,aPq⟩:=aC.get i f ar;have cQ:=s.cx.up aq _ _ pM;have mD:=dd.aO _ _ cQ;have⟨dA,d1,B2,d2,eW,d3,bI,lz,jw,PA,Z,Ic⟩:=aPq;have PA:=PA.mono (s.cx.up aq) λ_ _ h=>h;have Z:=Z.mono (s.cx.up aq) λ_ _ h=>h;have Ic:=Ic.mono (s.cx.up aq) λ_ _ h=>zP (s.cx.up aq) h;refine CI ?_;refine CJ ?_;refine zs ?_;(apply W.seq;(apply W.ck;kernel_rfl);repeat(first|refine AY ?_|refine zn ?_|refine c8 ?_));(with_reducible apply fr);refine W.hH λC fE D=>?_;have aG:C.m (fo 0)=bS (dj f dA d1 B2 d2 eW d3) 53:=D.bJ 0 (dN 0);generalize fo 0=q at *;have uO:=D.aO _ _ aG;have tf:=s.up dd.aO D.bk;have PB:=tf.o;have O:=D.aO _ _ PB;replace PA:=PA.mono D.up λ_ _ h=>h;replace Z:=Z.mono D.up λ_ _ h=>h;replace Ic:=Ic.mono D.up λ_ _ h=>zP D.up h;by_cases DE:L=[]
  .subst DE;repeat(first|apply ad.Xc;rfl;rfl;rfl;exact PB;exact O;rfl|refine M7 ?_|apply(ad.O8 (g0:=37));(iterate 4 rfl);refine λgv au6 u=>⟨_,awt gv f dA d1 B2 d2 eW d3 bI jw (PA.mono u.up λ_ _ h=>h) (Z.mono u.up λ_ _ h=>h) (Ic.mono u.up λ_ _ h=>zP u.up h) z.pos z.bI z.bZ z.len z.ah z.args,(λv H' ⟨_,_,_,_,_,_,_,_,_,_,_,aH,_,_⟩ i ag=>aH.2 i (eQ ag u.le)),?_⟩;rintro v mM Ll XH ⟨qD,se,ud,s9,aL,bv,rfl,Te,S,Q,Y,oh,fq,lV⟩ u3 w0 Lr ahv ahw|apply(ad.O8 (g0:=g));(iterate 4 rfl);intro uQ TW n6;rw[Lr] at TW;subst TW;refine⟨_,aS mM gv.n aL bv f qD se ud s9 bI axy jw (bx u.rw u.le) S Te Q Y fq lV,(λv H' ⟨_,_,_,_,_,aH⟩ i ag=>aH.2 i (eQ ag n6.le) (λe=>absurd (bx u.le e) (UG.2 ag))),?_⟩;rintro v hJ mU TU ⟨f',cs,rfl,⟨M,F,J,a1,G,E,ix,rfl,V⟩,TV,SC⟩ s3 oc Pz aPr HS;have Da:lb (q4 hJ) (dj f' M F J a1 G E) f':=⟨M,F,J,a1,G,E,ix,rfl,V⟩|refine gP ?_|apply ad.an8;(iterate 6 rfl);exact iC.2 (dN _);exact axx _ _ _;exact iu;exact kP;decide;decide|apply(ad.ahy mixed [(1,2),(0,2),(2,3),(1,3),(0,3),(2,4),(1,4),(0,4),(1,5),(0,5),(1,6),(0,6)]);kernel_rfl;(repeat(refine⟨λx y aa aN=>aa1,?_⟩));exact p3;rfl|apply ad.gi;rfl;rfl;rfl;exact PB;exact O;exact ZV;exact iu;iterate 3 rfl|refine n4 ?_|refine jj ?_|refine lB ?_|refine Xv ?_)
   refine eK rfl λaD a=>⟨(i+1,fE (mU+1),[dj f' M F J a1 G E],N++[f']),ca,by refine axv tf D.aO je ar Pz Da TV (by rfl) (by show(if w=w then _ else _)=_;rw[au rfl];rfl) (λj aA _=>by show(if j=w then _ else C.m j)=_;rw[ai aA]) a,?_⟩
   .show p.funcs.length-(i+1)<p.funcs.length-i;omega
  .have M3:=Bh (sz:=6) (r:=r) DE;rw[M3] at PB;have⟨aix,Lq⟩:=tf.row DE;have ahr:=D.aO _ _ Lq;have ahs:=bx bF.rw aix;have Td:=yi s.wid;have ZQ:=s.len;have aPs:=c2 PB Lq aF;have aPt:(C.fB r).m w=bS [.slice (some ⟨r,0,none⟩) L.length (dF 6),.slice a8 p.globals.length aT,.int .i64 p.data,.int .i64 p.fA] 25:=by
    show(if w=r then none else C.m w)=_;rwa[ai aPs]
   repeat(first|apply ad.Xc;rfl;rfl;rfl;exact PB;exact O;rfl|refine M7 ?_|apply(ad.O8 (g0:=37));(iterate 4 rfl);refine λgv au6 u=>⟨_,awt gv f dA d1 B2 d2 eW d3 bI jw (PA.mono u.up λ_ _ h=>h) (Z.mono u.up λ_ _ h=>h) (Ic.mono u.up λ_ _ h=>zP u.up h) z.pos z.bI z.bZ z.len z.ah z.args,(λv H' ⟨_,_,_,_,_,_,_,_,_,_,_,aH,_,_⟩ i ag=>aH.2 i (eQ ag u.le)),?_⟩;rintro v mM Ll XH ⟨qD,se,ud,s9,aL,bv,rfl,Te,S,Q,Y,oh,fq,lV⟩ u3 w0 Lr ahv ahw|apply(ad.O8 (g0:=g));(iterate 4 rfl);intro uQ TW n6;rw[Lr] at TW;subst TW;refine⟨_,aS mM gv.n aL bv f qD se ud s9 bI axy jw (bx u.rw u.le) S Te Q Y fq lV,(λv H' ⟨_,_,_,_,_,aH⟩ i ag=>aH.2 i (eQ ag n6.le) (λe=>absurd (bx u.le e) (UG.2 ag))),?_⟩;rintro v hJ mU TU ⟨f',cs,rfl,⟨M,F,J,a1,G,E,ix,rfl,V⟩,TV,SC⟩ s3 oc Pz aPr HS;have Da:lb (q4 hJ) (dj f' M F J a1 G E) f':=⟨M,F,J,a1,G,E,ix,rfl,V⟩|refine gP ?_|apply ad.agr;(iterate 6 rfl);exact Lq;exact ahr;exact ahs;exact Td;exact dN _;exact axx _ _ _;rfl;rfl;omega;omega|apply(ad.ahy mixed [(1,2),(0,2),(2,3),(1,3),(0,3),(2,4),(1,4),(0,4),(1,5),(0,5),(1,6),(0,6)]);kernel_rfl;(repeat(refine⟨λx y aa aN=>aa1,?_⟩));exact p3;rfl|apply ad.gi;rfl;rfl;rfl;exact aPt;exact O;exact ZV;exact iu;iterate 3 rfl|refine n4 ?_|refine jj ?_|refine lB ?_|refine Xv ?_)
   have aPu:cD 6 (fE (mU+1)) (L++[dj f' M F J a1 G E])=.slice (some ⟨fE (mU+1),0,none⟩) (L.length+1) (dF 6):=by rw[Bh aF];simp
   have aPv:(L++[dj f' M F J a1 G E]).flatten=L.flatten++dj f' M F J a1 G E:=aF;refine eK rfl λaD a=>⟨(i+1,fE (mU+1),L++[dj f' M F J a1 G E],N++[f']),ca,by refine axv (L:=L) (B2:=(C.fB r).set w ⟨⟨[.slice (some ⟨fE (mU+1),0,none⟩) (L.length+1) (dF 6),.slice a8 p.globals.length aT,bm p.data,bm p.fA]⟩,25⟩) tf D.aO je ar Pz Da TV (by rfl) (by rw[aPu];show(if w=w then _ else _)=_;rw[au rfl]) (λj aA FD=>by show(if j=w then _ else(if j=r then none else C.m j))=_;rw[ai aA,ai (FD DE)]) (by rwa[aPv]),?_⟩
   .show p.funcs.length-(i+1)<p.funcs.length-i;omega
 .have qx:=s.len;have qI:=s.Py;obtain⟨A,c5⟩:∃A:Option Addr,A=if L=[] then none else cV r:=⟨_,rfl⟩
  obtain⟨c,aB⟩:∃c:Nat,c=if L=[] then 0 else dF 6:=⟨_,rfl⟩
  rw[jO,<-c5,<-aB,show L.length=N.length by omega] at eF;repeat(first|refine JT ?_|refine uS ?_)
  refine cf _ (dt rfl) λaD a=>⟨w,A,c,N,rfl,a.up _ _ eF,⟨λj f' fb=>?_⟩,U,s.rel,s.cx.trans a.bk,je⟩;have aA:=(cS.1 fb).1;have⟨cs,jG⟩:=cR L j U;have bM:L≠[]:=by intro e;rw[e] at jG;simp at jG
  rw[ai bM] at c5;have⟨t1,t2⟩:=HZ s.wid jG;refine⟨r,0,L.flatten,53,c5,a.up _ _ (s.row bM).2,U,?_⟩;rw[ff,t1];exact lp (λi b I=>a.up _ _ (aPp i b I)) (s.aI j cs f' jG fb)
end
end Go.Proofs.YtplleokmejppjaaGreatDoor
