/- Contracts of functions that the law reaches -/
import Derived.Test.YtplleokmejppjaaGreatDoorR28
set_option linter.all false
set_option maxHeartbeats 9999999
set_option maxRecDepth 100000
namespace Go.Proofs.YtplleokmejppjaaGreatDoor
open Go.Proofs.Tryz
open Go.AH
section
attribute[local irreducible] W ad
def auX s x:(jq s x).args=x.args.map (λa=>hA s.m a (-1))\/(jq s x).args=[]:=by
 unfold jq;repeat' split
 all_goals first|exact xG|exact .inr rfl|left;rw[Y4];rfl
def aKq s x:(∀k∈(ic s x).w,k∈s.w\/k.2=x.dst)/\(ic s x).w.length<=s.w.length+1:=by
 have c:∀(t:nk) (r:Int),(∀k∈(kz t r).w,k∈t.w)/\(kz t r).w.length<=t.w.length:=λt r=>⟨λk aj=>(B1.1 aj).1,Gu _ _⟩;have m:(∀k∈sf s.w,k∈s.w)/\(sf s.w).length<=s.w.length:=⟨λk aj=>(B1.1 aj).1,Gu _ _⟩;unfold ic;repeat' split
 .exact UZ
 .exact UZ
 .exact⟨λk aj=>.inl (m.1 k ((c ⟨s.m,sf s.w⟩ _).1 k aj)),aaC (bx (c ⟨s.m,sf s.w⟩ _).2 m.2)⟩
 .exact⟨λk aj=>.inl (m.1 k aj),aaC m.2⟩
 .exact⟨λk aj=>.inl aj,hr _⟩
 .exact UZ
 .exact⟨λk aj=>.inl aj,hr _⟩
 .refine⟨λk aj=>?_,?_⟩
  .rcases ha.1 aj with aj|aj
   .exact .inl ((c s _).1 k aj)
   .rw[gU] at aj;subst aj;exact .inr rfl
  .have:=(c s x.dst).2;simp[iM,DW];omega
 .exact UZ
def auY:∀(l:List cO) (s:nk),(∀x∈l,b8 x.dst)->(∀k∈s.w,b8 k.2)->(∀k∈(l.foldl ic s).w,b8 k.2)/\(l.foldl ic s).w.length<=s.w.length+l.length
 | [],s,_,h=>⟨h,b4 _⟩
 | x::l,s,a,h=>by
  have⟨J,b⟩:=aKq s x;have⟨g1,g2⟩:=auY l (ic s x) (λy aN=>a y yN) λk aj=>by
   rcases J k aj with e|e
   .exact h k e
   .exact e▸a x aF
  exact⟨g1,by rw[At,e5];omega⟩
def yx:nk->List lK->List lK
 | _,[]=>[]
 | s,x::xs=>(jq s x.1,x.2)::yx (ic s x.1) xs
def auZ:∀(xs:List lK) (s:nk),(yx s xs).length=xs.length
 | [],_=>rfl
 | x::xs,s=>by rw[yx,e5,e5,auZ xs]
def au0:∀(xs:List lK) (s:nk),(yx s xs).map (·.1)=Dn s (xs.map (·.1))
 | [],_=>rfl
 | x::xs,s=>by rw[yx,gg,gg,Dn,au0 xs]
def au1:∀{xs:List lK}{s:nk}{k:Nat}{x:lK},xs[k]?=some x->(yx s xs)[k]?=some (jq (((xs.take k).map (·.1)).foldl ic s) x.1,x.2)
 | [],_,_,_,h=>p2
 | y::xs,s,0,x,h=>by
  simp[kC,dh] at h;subst h;rfl
 | y::xs,s,k+1,x,h=>by
  simp[pg] at h;rw[yx,pg,au1 h];rfl
def Iu(b:bG):bG:={b with ah:=yx pR b.ah,av:=Lf ((b.ah.map (·.1)).foldl ic pR).m b.av}
def aKr b:(Iu b).s=FR b.s:=by
 unfold Iu bG.s FR;rw[au0]
def aKs bv:bC (bv.map Iu)=(bC bv).map FR:=by
 unfold bC;rw[Gv,Gv];exact As λb _=>aKr b
instance:e4 prog 143 2:=by infer_instance
def aKt h N D bv(f:dp) bj aW a8 aT bn(tP:oB h N D bv)(dO:bv.length<=100000)(nr:∀b∈bv,b.ah.length<=1000000)(aQ:∀b∈bv,∀x∈b.ah,x.1.ok/\x.1.args.length<=1000000):
 dw prog 44 [.agg ⟨dj {f with blocks:=bC bv} bj aW a8 aT (some ⟨D,0,none⟩) bn⟩] h (λv aw=>v=.agg ⟨dj {f with blocks:=bC (bv.map Iu)} bj aW a8 aT (some ⟨D,0,none⟩) bn⟩/\oB aw N D (bv.map Iu)/\cT (λj=>N<=j) h aw/\∀j x,h.m j=some x->x.elem≠48->x.elem≠42->x.elem≠38->aw.m j=some x):=by
 refine dw.i func44 ntmps44 λπ bF=>?_;conv=>arg 2;whnf
 have aq:=bF.aO;obtain⟨n,ak⟩:=ld bv.length;obtain⟨vN,Bm⟩:∃vN:List Value,vN=[.string f.name,bm f.params,.slice bj f.hO aW,bm f.ae,.slice a8 f.bZ.length aT,.slice (cV D) n bn]:=⟨_,rfl⟩;have KS:dj {f with blocks:=bC bv} bj aW a8 aT (cV D) bn=vN:=by rw[Bm];unfold dj;rw[jF,ak]
 refine Hq ?_;refine W.hH λds pD a0=>?_;have tQ:ds.m (π 0)=bS (dj {f with blocks:=bC bv} bj aW a8 aT (some ⟨D,0,none⟩) bn) 53:=a0.bJ 0 (eQ kP (hr 1));have A9:ds.m (π 1)=bS (ei (.agg ⟨dj ⟨⟨#[]⟩,0,0,0,[],[]⟩ none 0 none 0 none 0⟩)) 53:=a0.bJ 1 (dN 1);have eA:h.n<=π 0:=a0.bL 0 (eQ kP (hr 1));have oi:h.n<=π 1:=a0.bL 1 (dN 1);generalize π 0=aR at *;generalize π 1=ct at *;rw[KS,Bm] at tQ;have bz:=tQ;have gh:=a0.aO _ _ bz;have cj:=bx tP.ge (ph (aq _ _ tP.m));obtain⟨R,ks⟩:=ld (bv.map Iu);have uz:R.length=bv.length:=by rw[<-ks];simp
 repeat(first|refine sO ?_|refine vv ?_|refine mc ?_)
 refine W.hz (X:=Nat) (λi=>[(1,cE aR),(2,cE ct),(9,.slice (cV D) n bn),(10,bm (n:Int)),(11,bm (i:Int))])
  (λi B=>i<=n/\oB B N D (ia R bv i)/\On B aR ct vN/\Om h N B) (λi=>n-i)
  (λaD y=>⟨0,?_,⟨dG _,?_,⟨?_,?_⟩,?_⟩⟩) ?_
 .exact ca
 .rw[Oi];exact tP.up λi b I=>y.up _ _ (a0.up _ _ I)
 .rw[Bm];exact y.up _ _ tQ
 .exact y.up _ _ A9
 .exact⟨(a0.bk.trans y.bk).off.mono (λ_ _ e=>False.elim e),λj x aa _ _ _=>y.up _ _ (a0.up _ _ aa)⟩
 rintro i B fo dd ⟨ag,c5,zW,du⟩;have bz:=zW.f;have gh:=dd.aO _ _ bz;rw[Bm] at bz;by_cases bs:i<n
 .obtain⟨b,I⟩:=cR bv i U;have dZ:=bQ I;have p7:(ia R bv i)[i]?=some b:=abI;have qX:=c5.m;have AT:=dd.aO _ _ qX;obtain⟨Fu,yl,vp,Sf⟩:∃Fu yl,cD 12 b.r b.ah=.slice Fu b.ah.length yl/\Fu=if b.ah=[] then none else some ⟨b.r,0,none⟩:=by
   rw[jO];exact Ce
  have Sg:R[i]?=some (Iu b):=by rw[<-ks,gf,I];rfl
  have lx:=nr b dZ;repeat(first|apply ad.makeMap;iterate 2 rfl|refine sO ?_|refine Nk ?_|apply ad.dv;rfl;rfl;rfl;exact qX;exact AT;exact amc|refine M6 ?_|refine iR ?_|refine oq ?_|refine c8 ?_|refine zf ?_|refine fy ?_)
  refine W.hH λdA fE Y=>?_;have aKu:dA.m (fo 0)=some ⟨⟨[]⟩,iv ⟨0,0,[]⟩⟩:=Y.bJ 0 (eQ kP (hr 1));have aKv:dA.m (fo 1)=bS [.map (some (fo 0)),.slice none 0 0] 143:=Y.bJ 1 (dN 1);have aKw:B.n<=fo 0:=Y.bL 0 (eQ kP (hr 1));have aKx:B.n<=fo 1:=Y.bL 1 (dN 1);generalize fo 0=bt at *;generalize fo 1=k1 at *;have au2:j1 dA B.n k1 bt pR:=⟨dd.rw,aKx,aKw,aKu,.empty,0,[],rfl,aKv,λe=>absurd rfl e⟩;replace qX:=Y.up _ _ qX;obtain⟨jn,Bn⟩:=ld B.n;rw[Bn] at au2;refine W.hz (X:=Nat) (λk=>[(1,cE aR),(2,cE ct),(9,.slice (cV D) n bn),(10,bm (n:Int)),(11,bm (i:Int)),(4,cE k1),(5,.pointer (some ⟨D,0+i*9,none⟩)),(24,.slice Fu b.ah.length yl),(25,bm (b.ah.length:Int)),(26,bm (k:Int))])
   (λk B=>k<=b.ah.length/\oB B N D ((ia R bv i).set i {b with ah:=ia (yx pR b.ah) b.ah k})/\j1 B jn k1 bt (((b.ah.take k).map (·.1)).foldl ic pR)/\On B aR ct vN/\Om h N B) (λk=>b.ah.length-k)
   (λaD y=>⟨0,?_,⟨dG _,?_,au2.up y.up,⟨y.up _ _ (Y.up _ _ zW.f),y.up _ _ (Y.up _ _ zW.r)⟩,(du.off.dB Y.bk.off).dB y.bk.off,λj z J F Z br=>y.up _ _ (Y.up _ _ (du.zU j z J F Z br))⟩⟩) ?_
  .exact ca
  .rw[Oi,tv p7];exact c5.up λi b I=>y.up _ _ (Y.up _ _ I)
  rintro k eW fj tR ⟨aj,E,k4,L,qv⟩;have y1:(yx pR b.ah).length=b.ah.length:=auZ _ _;obtain⟨s,ht⟩:∃s:bG,s={b with ah:=ia (yx pR b.ah) b.ah k}:=⟨_,rfl⟩;rw[<-ht] at E;have nu:((ia R bv i).set i s)[i]?=some s:=aj7;have Fv:s.r=b.r:=QJ;have ME:s.ah=ia (yx pR b.ah) b.ah k:=QJ;by_cases kG:k<b.ah.length
  .obtain⟨x,aa⟩:=cR b.ah k kG;have iA:b.ah≠[]:=abd;have D2:s.ah[k]?=some x:=amr;have KT:s.ah≠[]:=alO;obtain⟨HY,ot⟩:=E.row s (bQ nu) KT;rw[Fv] at HY ot;have G:=λak=>E.arg s (bQ nu) x (bQ D2) ak;have RD:=tR.aO _ _ ot;obtain⟨af7,gq⟩:=HZ (Fw s.ah) (i:=k) (x:=dK x) Vg;obtain⟨fP,gp,YB⟩:∃fP gp,dK x=cL x.1 fP gp:=⟨_,_,xF x⟩;have eP:cr (0+k*12) 12 (s.ah.map dK).flatten=cL x.1 fP gp:=by rw[ff,af7,YB]
   have gq:0+k*12+12<=(s.ah.map dK).flatten.length:=U;rw[ai iA] at Sf;subst Sf;obtain⟨Q,wX⟩:=ld (((b.ah.take k).map (·.1)).foldl ic pR);rw[wX] at k4;have qu:=bQ aa;obtain⟨KU,aKy⟩:=aQ b dZ x qu;obtain⟨au3,aht⟩:=auY ((b.ah.take k).map (·.1)) pR (λy aN=>by
    obtain⟨z,A,rfl⟩:=ih.1 aN;exact(aQ b dZ z (GA A)).1.dst) (λj aA=>by cases aA)
   rw[wX] at au3 aht;have aht:Q.w.length<=999999999:=by
    have J:((b.ah.take k).map (·.1)).length<=k:=by rw[fI,IU];omega
    have F:pR.w.length=0:=rfl;omega
   refine CI ?_;refine CJ ?_;refine zs ?_;(apply W.seq;(apply W.ck;kernel_rfl);repeat(first|refine Xk ?_|refine apo ?_|refine fi ?_|refine zn ?_|refine c8 ?_));(with_reducible apply fr);refine W.hH λC rj O=>?_;have qZ:C.m (fj 0)=bS (cL x.1 fP gp) 42:=O.bJ 0 kP;generalize fj 0=hN at *;have cc:=qZ;have dW:=O.aO _ _ cc;replace E:=E.up O.up;replace k4:=k4.up O.up;replace L:On C aR ct vN:=⟨O.up _ _ L.f,O.up _ _ L.r⟩;replace qv:Om h N C:=⟨qv.off.dB O.bk.off,λj z J F Z br=>O.up _ _ (qv.zU j z J F Z br)⟩;replace ot:=O.up _ _ ot;replace RD:=O.aO _ _ ot;have G:=λak=>E.arg s (bQ nu) x (bQ D2) ak;have al4:cD 12 s.r s.ah=.slice (some ⟨b.r,0,none⟩) b.ah.length yl:=by
    rw[<-vp,Fv,jO,jO,ai KT,ai KT,ai iA,ai iA,ME,Jt y1]
   have au4:=E.m;have aKz:=O.aO _ _ au4;have YC:=bx E.rw HY;have agd:eB (s.ah.map dK).flatten (0+k*12) (ei (.agg ⟨dK (jq Q x.1,x.2)⟩))=((s.ah.set k (jq Q x.1,x.2)).map dK).flatten:=by
    have:=So (Fw s.ah) (i:=k) (o:=0) (x:=dK x) (vs:=dK (jq Q x.1,x.2)) Vg (b4 _);rw[ff];rw[nq] at this;rw[xu];exact dm
   have KM:∀(u H':aV),(∀i b,C.m i=some b->u.m i=some b)->Lm jn k1 bt x u H'->∀{j:Nat}{z:cd},C.m j=some z->(z.elem=48\/z.elem=42\/z.elem=38\/z.elem=53)->(x.1.args≠[]->j≠x.2)->H'.m j=some z:=λu H' hu Af j z A he ak =>
    Af.m j z (hu _ _ A) (k4.MF A abl) (k4.MG A abl) (.inl abl) ak
   have aKA:∀(u H':aV),(∀i b,C.m i=some b->u.m i=some b)->Lm jn k1 bt x u H'->∀j,(!(j==D))=false->H'.m j=u.m j:=λu H' hu Af j aA=>by
    have e:j=D:=Qu;rw[e,KM u H' hu Af E.m (.inl rfl) λak=>c2 E.m (G ak).2 aF,hu _ _ E.m]
   have ahu:∀(u H':aV),(∀i b,C.m i=some b->u.m i=some b)->Lm jn k1 bt x u H'->(xh H' C.n).m b.r=bS ((s.ah.map dK).flatten) 42:=λu H' hu Af=>by
    show(if b.r<C.n then H'.m b.r else none)=_;rw[au RD];exact KM u H' hu Af ot (.inr (.inl rfl)) λak=>c2 ot (G ak).2 aF
   have au5:=λ(u:aV) (hu:∀i b,C.m i=some b->u.m i=some b)=>aKe x Q KU aKy aht au3 u jn k1 bt (k4.up hu) (λak=>⟨bx E.rw (G ak).1,hu _ _ (G ak).2⟩);rw[YB] at au5;repeat(first|refine Xk ?_|apply ad.Xc;rfl;rfl;rfl;exact au4;exact aKz;exact al3|refine Rd ?_|apply(ad.aKB (λid=>!(id==D)));rfl;rfl;rfl;intro u au6 M;refine⟨_,au5 u M.up,(λv H' aG j aA aKC=>aKA u H' M.up aG.2.2.1 j aKC),?_⟩;rintro v V Ll XH ⟨rfl,Bd,O6,afN⟩ u3 w0 Te Lr ahv ahw;have afO:=ahu u V M.up O6|apply ad.gi;rfl;rfl;rfl;exact afO;exact RD;exact YC;exact gq;rfl;exact ar5 _;exact agd|apply(ad.aKD mixed [(3,4),(2,4),(1,4),(0,4),(4,5),(3,5),(2,5),(1,5),(0,5),(5,6),(4,6),(3,6),(2,6),(1,6),(0,6),(4,7),(3,7),(2,7),(1,7),(0,7)]);kernel_rfl;(repeat(refine⟨λx y aa aN=>aa1,?_⟩));exact p3;exact aKE (b:=D) aka;rfl|refine nz ?_|refine jj ?_|refine lB ?_|refine Xv ?_)
   have uZ:((b.ah.take (k+1)).map (·.1)).foldl ic pR=ic Q x.1:=by
    rw[Aw,aa,pW,I8,wX];rfl
   have agh:(ia R bv i).set i {b with ah:=ia (yx pR b.ah) b.ah (k+1)}=((ia R bv i).set i s).set i {s with ah:=s.ah.set k (jq Q x.1,x.2)}:=by
    rw[qF];congr 1;rw[ht];dsimp only;rw[KR y1 (by rw[au1 aa,wX])]
   refine eK rfl λaD y=>?_;have tS:∀{j:Nat}{z:cd},V.m j=some z->j≠b.r->aD.m j=some z:=λ{j z} A aA=>by
    by_cases bs:j<C.n
    .refine y.up _ _ ?_;show(if j=b.r then _ else if j<C.n then V.m j else none)=_;rw[ai aA,au bs];exact A
    .exact fG.part Lr (B2:=(xh V C.n).set b.r _) rfl (b4 _) (λ_ _=>rfl) y j z (by show C.n<=j;omega) A
   have oJ:∀{j:Nat}{z:cd},C.m j=some z->(z.elem=48\/z.elem=42\/z.elem=38\/z.elem=53)->j≠b.r->(x.1.args≠[]->j≠x.2)->aD.m j=some z:=λA he aA ak=>tS (KM u V M.up O6 A he ak) aA;refine⟨k+1,ca,⟨kG,?_,?_,⟨oJ L.f (.inr (.inr (.inr rfl))) (c2 L.f ot aF) λak=>c2 L.f (G ak).2 aF,oJ L.r (.inr (.inr (.inr rfl))) (c2 L.r ot aF) λak=>c2 L.r (G ak).2 aF⟩,?_⟩,U⟩
   .rw[agh];refine E.Yz nu D2 (jq Q x.1) (λak e=>?_) (by rw[Fv];exact y.up _ _ (qj _ _ _)) (λak=>?_) λp z A bB J F=>oJ A (by rcases bB with e|e|e<;>simp[e]) (by rw[<-Fv];exact J) F
    .apply ak;rcases auX Q x.1 with J|J
     .rw[J,e];rfl
     .exact J
    .rcases auX Q x.1 with J|J
     .rw[J];have:=afN (λe=>ak (by rw[J,e];rfl));exact tS this (c2 (KM u V M.up O6 ot (.inr (.inl rfl)) λak=>c2 ot (G ak).2 aF) this aF).symm
     .exact absurd J ak
   .rw[uZ];exact Bd.eT λj z A _ he=>tS A (c2 A (KM u V M.up O6 ot (.inr (.inl rfl)) λak=>c2 ot (G ak).2 aF) he)
   .refine⟨qv.off.trans (S:=λj=>N<=j) (T:=λj=>N<=j) ⟨bx (bx M.le w0) (by rw[<-Lr];exact IV y.n.symm),λj aA ak=>?_⟩ λj _ e=>e,λj z J F Z br=>?_⟩
    .cases aB:C.m j with
     | some z =>
      have g1:=O6.m j z (M.up _ _ aB) U U (.inr U) λFs e=>by have:=(G Fs).1;omega
      exact tS g1 U
     | none =>
      have g1:aD.m j=((xh V C.n).set b.r _).m j:=y.cx j aA;rw[g1];show(if j=b.r then _ else if j<C.n then V.m j else none)=none;rw[ai U,au aA];rcases cz:V.m j with _|w
      .rfl
      .obtain⟨w',vb⟩:=Te j w (eQ aA M.le) cz;have g2:u.m j=C.m j:=M.cx j aA;rw[g2,aB] at vb;cases vb
    .have A:=qv.zU j z J F Z br;have aSG:=aq j z J;have aSH:=du.off.1;exact tS (O6.m j z (M.up _ _ A) U U (.inr U) λFs=>c2 A (G Fs).2 br) (c2 A ot Z)
  .have q7:k=b.ah.length:=U;subst q7;rw[mv] at k4;obtain⟨td,w6⟩:=ld ((b.ah.map (·.1)).foldl ic pR);rw[w6] at k4;rw[Oj y1] at ME;obtain⟨b0,au7⟩:=ld ((ia R bv i).set i s);rw[au7] at E nu;have wq:s.av=b.av:=QJ;obtain⟨hf,iQ⟩:∃hf:bG,hf={s with av:={b.av with a:=hA td.m b.av.a (-1)}}:=⟨_,rfl⟩;obtain⟨hZ,tH⟩:∃hZ:bG,hZ={s with av:=Lf td.m b.av}:=⟨_,rfl⟩;have Sr:(b0.set i hf)[i]?=some hf:=by rw[fl,au rfl,au (cS.1 nu).1]
   have qX:=E.m;have AT:=tR.aO _ _ qX;have W2:=bx E.rw E.ge;obtain⟨Nq,ada⟩:=w7 nu (o:=3) (n:=2) (off:=0+i*9+1+2) U bo;obtain⟨Nr,aoC⟩:=w7 nu (o:=5) (n:=2) (off:=0+i*9+1+4) U bo;have Nq:cr (0+i*9+1+2) 2 (b0.map bG.c).flatten=dX b.av.a:=by rw[Nq,<-wq];rfl
   have Nr:cr (0+i*9+1+4) 2 (b0.map bG.c).flatten=dX b.av.b:=by rw[Nr,<-wq];rfl
   have Rs:eB (b0.map bG.c).flatten (0+i*9+1+2) (ei (.agg ⟨dX (hA td.m b.av.a (-1))⟩))=((b0.set i hf).map bG.c).flatten:=xD (o:=3) nu U (show 3+2<=9 by decide) (by rw[iQ,<-wq];rfl);have xY:eB ((b0.set i hf).map bG.c).flatten (0+i*9+1+4) (ei (.agg ⟨dX (hA td.m b.av.b (-1))⟩))=((b0.set i hZ).map bG.c).flatten:=by
    rw[xD (o:=5) (b':=hZ) (vs:=ei (.agg ⟨dX (hA td.m b.av.b (-1))⟩)) Sr U (show 5+2<=9 by decide) (by rw[iQ,tH];rfl),qF]
   have anW:=(w7 Sr (o:=5) (n:=2) (off:=0+i*9+1+4) U bo).2;repeat(first|apply ad.py;rfl;rfl;rfl;exact λH b7=>anR _ _ H jn k1 bt td (k4.up (Ho tR.aO b7));exact kQ yL|refine aoB ?_|refine anV ?_|refine nz ?_|refine adZ ?_|refine EM ?_)
   refine eK rfl λaD y=>?_;have off':=((cT.set eW D _).trans (S:=λp=>p=D) (cT.set _ D _) λp _ e=>e).dB y.bk.off;have De:∀{p:Nat}{z:cd},eW.m p=some z->z.elem≠48->aD.m p=some z:=λ{p z} A he=>by
    rw[off'.2 p (tR.aO p z A) (c2 A qX he)];exact A
   refine⟨i+1,ca,⟨bs,?_,⟨De L.f aF,De L.r aF⟩,⟨qv.off.trans off' λp bh e=>by rw[e];exact E.ge,λp z J F Z br=>De (qv.zU p z J F Z br) F⟩⟩,U⟩
   .have:=E.Db nu (Lf td.m b.av) (by rw[<-tH];exact y.up _ _ (qj _ _ _)) λp z A he=>De A he;have e:b0.set i {s with av:=Lf td.m b.av}=ia R bv (i+1):=by
     rw[<-KR uz Sg,<-au7,qF];congr 1;rw[<-w6];unfold Iu;rw[<-ME,ht]
    rw[<-e];exact dm
 .have dQ:i=n:=U;subst dQ;have bA:=zW.r;have mE:=dd.aO _ _ bA;have uM:=bx bF.rw oi;rw[<-ak,Oj uz] at c5;repeat(first|refine Rm ?_|refine Hj ?_|refine uS ?_)
  refine cf _ (.cons (.rk (vs:=[.string f.name,bm f.params,.slice bj f.hO aW,bm f.ae,.slice a8 f.bZ.length aT,.slice (cV D) i bn]) rfl GI (dM rfl) rfl) .nil) λaD x=>?_;have aj:∀{j:Nat}{y:cd},B.m j=some y->y.elem≠53->aD.m j=some y:=λ{j y} aN he=>by
   refine x.up j y ?_;show(if j=ct then _ else B.m j)=_;rw[ai (c2 aN bA he)];exact aN
  refine⟨?_,ks▸c5.eT λj y aN he=>aj aN ald,(du.off.dB ((cT.set B ct _).mono λj aA e=>al7)).dB x.bk.off,λj y J F Z br=>?_⟩
  .rw[ks];show Value.agg _=Value.agg _;unfold dj;rw[jF,uz,ak]
  .refine x.up j y ?_;show(if j=ct then _ else B.m j)=_;rw[ai (λe=>by have:=aq j y J;omega)];exact du.zU j y J F Z br
def aKF:NA 44 (λf=>pC f.ae f.blocks/\Ov f) SY:=by
 intro B N n bv f bj aW a8 aT D z t C q hm M g y r;have⟨j,F⟩:=z;have⟨L,H,G,rg,u,bl⟩:=f;have g:bC bv=bl:=g;subst g;have a:∀b∈bv,b.s∈bC bv:=λb I=>GF I;refine(aKt B N n bv ⟨L,H,G,rg,u,bC bv⟩ bj aW a8 aT (dF 9) (M.arZ C q hm) ?_ (λb I=>?_) (λb I x aa=>?_)).mono ?_
 .have:=j.len;dsimp only at this;rw[jF] at this;omega
 .have J:=bx (Kh (a b I)) j.size;have E:b.s.ah.length=b.ah.length:=by simp[bG.s]
  omega
 .have k:x.1∈b.s.ah:=GF aa;exact⟨(F _ (a b I) _ k).1,(j.jB _ (a b I) _ k).1⟩
 rintro v aw s ⟨rfl,o,w,akX⟩;have row:∀{α:Type}{e:TypeId}{A:Option Addr}{l:List α}{dy:α->Value},e≠48->e≠42->e≠38->e≠53->e≠25->rW B N e A l dy->rW (q4 aw) N e A l dy:=by
  intro α e A l dy J E R Q O aM;exact akW
 refine⟨_,_,rfl,⟨bj,aW,a8,aT,cV n,dF 9,D,rfl,t,(row bo bo bo bo bo y).gK λ_=>rfl,(row bo bo bo bo bo r).gK λ_=>rfl,o.fC.cut.gK⟩,?_,w⟩
 .rw[SY,Il,aKs]
def aKG p(j:∀f∈p.funcs,(pC f.ae f.blocks/\Ov f)/\Hw f)(ak:p.funcs.length<=100000) h aU e bj aW a8 aT(ek:h.m aU=some ⟨⟨hd p bj aW a8 aT⟩,e⟩)(aC:c0 h bj 6 p.funcs (lb h)):
 dw prog 25 [.pointer (some ⟨aU,0,none⟩)] h (λv aw=>∃bV A c cJ,v=.pointer (some ⟨bV,0,none⟩)/\aw.m bV=some ⟨⟨hd {p with funcs:=cJ} A c a8 aT⟩,25⟩/\c0 aw A 6 cJ (lb aw)/\cJ.length=p.funcs.length/\(∀(i:Nat) (f f':dp),p.funcs[i]?=some f->cJ[i]?=some f'->SY f f')/\cW h aw/\h.n<=bV):=by
 refine dw.i func25 ntmps25 λπ C=>?_;conv=>arg 2;whnf
 repeat(first|apply ad.gC;rfl;rfl;rfl;refine λs bW=>⟨_,RH 44 _ _ aKF p j ak s aU e bj aW a8 aT (bW.up _ _ ek) (aC.mono bW.up λ_ _ h=>lp bW.up h),?_⟩;rintro v z B ⟨bV,A,c,cJ,rfl,eF,cZ,ao,bA,aH,hB⟩ w u|refine fi ?_|refine ov ?_)
 exact aa0
end
section
attribute[local irreducible] W ad
section
variable{P:Program}{an:Array Oper}{rs:List fZ}{l:List Oper}{ay:List (Nat×Value)}{al:Nat}{h:aY}{K:Fr->aY->Prop}{d:Tmp}{ty:TypeId}{pos:String}{af:Array Edge}{gd:Option (Nat×Bool)}
def ad.ahx[bH]{g0 c xs ts vs}[bf:cY P g0](hw:cw an ⟨some d,.call {callee:=.value c,args:=xs,argTypes:=ts},ty,pos,af,gd⟩ ⟨ay,al⟩=some true)(aq:Nat.blt d al=true)(aB:Fr.ev ⟨ay,al⟩ c=some (.func (.func g0) #[] #[]))(aa:pS ay al xs.toList=some vs)(aS:∀f,fG (P:=P) h f->∃Q,dw P g0 vs f Q/\∀v H' π,Q v H'->Sat P H'->f.n<=H'.n->ad P an false (de 0 false [] none::rs) l ⟨(d,v)::ay,al⟩ ⟨H',π,0,[]⟩ K):
 ad P an false rs (⟨some d,.call {callee:=.value c,args:=xs,argTypes:=ts},ty,pos,af,gd⟩::l) ⟨ay,al⟩ h K:=by
 refine ad.O7 hw aq λa g w s b aj=>?_;have⟨Q,he,aG⟩:=aS _ (fG.of w s);have i:P.globals.size<=h.a6.n:=Vo;have⟨v,H',j,q⟩:=he s (Zi g i b (λx kE=>aj x UP) aa);have gB:=au8 (ty:=ty) (pos:=pos) (af:=af) (gd:=gd) (d:=d) (ts:=ts) g aB aa j;have s1:=(bE.j9 gB aj s b).1;exact akp
end
section
variable{P:Program}{an:Array Oper}{bg:Bool}{rs:List fZ}{l:List Oper}{ay:List (Nat×Value)}{al:Nat}{h:aY}{K:Fr->aY->Prop}{d:Tmp}{ty:TypeId}{pos:String}{af:Array Edge}{gd:Option (Nat×Bool)}
def ad.aKH[bH]{t i x y a b r}(hw:cw an ⟨some d,.call {callee:=.builtin .min,args:=#[x,y],argTypes:=#[t,i]},ty,pos,af,gd⟩ ⟨ay,al⟩=some true)(aq:Nat.blt d al=true)(aa:Fr.ev ⟨ay,al⟩ x=some (.int .i64 a))(aN:Fr.ev ⟨ay,al⟩ y=some (.int .i64 b))(e:(if b<a then b else a)=r)(aj:ad P an bg (de h.k false [] (some [])::rs) l ⟨(d,.int .i64 r)::ay,al⟩ h K):ad P an bg rs (⟨some d,.call {callee:=.builtin .min,args:=#[x,y],argTypes:=#[t,i]},ty,pos,af,gd⟩::l) ⟨ay,al⟩ h K:=by
 refine ad.km hw aq (λc g H=>Zj rfl (λ_ _=>aF) (g.ev aa) (g.ev aN) aF aF aF λev W hu f=>?_) aF aj;have hu:ev x=bm a:=hu;have f:ev y=bm b:=f;simp[execOp,resolve,invoke,builtin,gG,hQ,hj,so,gg,oH,hu,f,run_min_int2,e]
def ad.aKI[bH]{t c x y a b r}(hw:cw an ⟨some d,.call {callee:=.builtin .max,args:=#[x,y],argTypes:=#[t,c]},ty,pos,af,gd⟩ ⟨ay,al⟩=some true)(aq:Nat.blt d al=true)(aa:Fr.ev ⟨ay,al⟩ x=some (.int .i64 a))(aN:Fr.ev ⟨ay,al⟩ y=some (.int .i64 b))(e:(if b>a then b else a)=r)(aj:ad P an bg (de h.k false [] (some [])::rs) l ⟨(d,.int .i64 r)::ay,al⟩ h K):ad P an bg rs (⟨some d,.call {callee:=.builtin .max,args:=#[x,y],argTypes:=#[t,c]},ty,pos,af,gd⟩::l) ⟨ay,al⟩ h K:=by
 subst e;exact ad.aeM hw aq aa aN aj
end
def Ls(p:fX)(h:aV)(a8:Option Addr)(aT:Nat)(v:Value)(aw:aV):Prop:=∃bV A c cJ,v=.pointer (some ⟨bV,0,none⟩)/\aw.m bV=some ⟨⟨hd {p with funcs:=cJ} A c a8 aT⟩,25⟩/\c0 aw A 6 cJ (lb aw)/\s5 p {p with funcs:=cJ}/\oE {p with funcs:=cJ}/\cW h aw
def s5.self{p}(h:oE p):s5 p p:=⟨h.ok,h.rA,h.right,rfl,rfl,rfl,rfl,b4 _,λi f f' J c=>by rw[J] at c;cases c;exact⟨rfl,rfl⟩,λ_ _ _ _ _ h0=>⟨h0,rfl,rfl,sl _⟩,λ_ _ _ _ _ _ _ _ _ g=>g⟩
section
variable{p:fX} (bz:oE p) (h:aV) (aU:Nat) (e:TypeId) (bj:Option Addr) (aW:Nat) (a8:Option Addr) (aT:Nat) (ek:h.m aU=some ⟨⟨hd p bj aW a8 aT⟩,e⟩) (aC:c0 h bj 6 p.funcs (lb h))
include bz ek aC
def aKJ:dw prog 24 [.pointer (some ⟨aU,0,none⟩)] h (Ls p h a8 aT):=by
 refine(aFO p bz.K Je h aU e bj aW a8 aT ek aC).mono ?_;rintro v aw s ⟨bV,A,c,cJ,rfl,eF,cZ,ao,bA,aH,_⟩;have⟨bY,dk⟩:=aJl (⟨rfl,rfl,rfl,ao,bA⟩:tM N0 p {p with funcs:=cJ}) bz;exact Qj
def aKK:dw prog 25 [.pointer (some ⟨aU,0,none⟩)] h (Ls p h a8 aT):=by
 refine(aKG p bz.K Je h aU e bj aW a8 aT ek aC).mono ?_;rintro v aw s ⟨bV,A,c,cJ,rfl,eF,cZ,ao,bA,aH,_⟩;have⟨bY,dk⟩:=aJm (⟨rfl,rfl,rfl,ao,bA⟩:tM SY p {p with funcs:=cJ}) bz;exact Qj
def au9:dw prog 11 [.pointer (some ⟨aU,0,none⟩)] h (Ls p h a8 aT):=by
 refine(apL p (λf ar=>⟨(bz.K f ar).1.1,(bz.K f ar).2⟩) Je h aU e bj aW a8 aT ek aC).mono ?_;rintro v aw s ⟨bV,A,c,cJ,rfl,eF,cZ,ao,bA,aH,_⟩;have⟨bY,dk⟩:=ag8 (⟨rfl,rfl,rfl,ao,bA⟩:tM XJ p {p with funcs:=cJ}) bz λf f' ar ⟨jz,aB,he⟩=>he▸(auk bz ar aB).ways bz ar;exact Qj
def aKL:dw prog 20 [.pointer (some ⟨aU,0,none⟩),.func (.func 21) #[] #[]] h (Ls p h a8 aT):=by
 refine(RH 21 (λf=>pC f.ae f.blocks) ag9 aJp p (λf ar=>⟨(bz.K f ar).1.1,(bz.K f ar).2⟩) Je h aU e bj aW a8 aT ek aC).mono ?_;rintro v aw s ⟨bV,A,c,cJ,rfl,eF,cZ,ao,bA,aH,_⟩;have⟨bY,dk⟩:=ag8 (⟨rfl,rfl,rfl,ao,bA⟩:tM ag9 p {p with funcs:=cJ}) bz λf f' ar ⟨jz,aB,he⟩=>he▸auk bz ar aB;exact Qj
def aKM:dw prog 20 [.pointer (some ⟨aU,0,none⟩),.func (.func 22) #[] #[]] h (Ls p h a8 aT):=by
 refine(RH 22 (λf=>pC f.ae f.blocks) aha aJq p (λf ar=>⟨(bz.K f ar).1.1,(bz.K f ar).2⟩) Je h aU e bj aW a8 aT ek aC).mono ?_;rintro v aw s ⟨bV,A,c,cJ,rfl,eF,cZ,ao,bA,aH,_⟩;have⟨bY,dk⟩:=ag8 (⟨rfl,rfl,rfl,ao,bA⟩:tM aha p {p with funcs:=cJ}) bz λf f' ar he=>by rw[show f'={f with blocks:=vD f.blocks} from he];exact(aJo bz ar).ways bz ar
 exact Qj
end
instance:e4 prog 54 1:=⟨ax,ax⟩
instance:kX prog 54:=⟨ax⟩
instance:iY prog 54 .nilFunc:=⟨ax,ax,ax⟩
def aKN:List Value:=[.func (.func 24) #[] #[],.func (.func 25) #[] #[],.func (.func 11) #[] #[]]
structure Tf(p:fX)(h:aV)(a8:Option Addr)(aT:Nat)(bV:Nat)(A:Option Addr)(c:Nat)(cJ:List dp)(B:aV):Prop where
 o:B.m bV=some ⟨⟨hd {p with funcs:=cJ} A c a8 aT⟩,25⟩
 s:c0 B A 6 cJ (lb B)
 k:s5 p {p with funcs:=cJ}
 f:oE {p with funcs:=cJ}
 cx:cW h B
def Tf.up{p h a8 aT g A c b B j}(s:Tf p h a8 aT g A c b B)(a:∀i x,B.m i=some x->i<B.n)(o:cW B j):Tf p h a8 aT g A c b j :=
 ⟨o.up a _ _ s.o,s.s.mono (o.up a) λ_ _ h=>lp (o.up a) h,s.k,s.f,s.cx.trans o⟩
def aKO{p}(bz:oE p)h aU bj aW a8 aT(ek:h.m aU=some ⟨⟨hd p bj aW a8 aT⟩,25⟩)(aC:c0 h bj 6 p.funcs (lb h)) N ET(F1:h.m N=some ⟨⟨aKN⟩,ET⟩):
 dw prog 23 [.pointer (some ⟨aU,0,none⟩),.int .i64 2,.slice (some ⟨N,0,none⟩) 3 3] h (Ls p h a8 aT):=by
 refine dw.i func23 ntmps23 λπ bF=>?_;conv=>arg 2;whnf
 refine uU ?_;apply W.seq;apply W.seq;repeat(first|apply(ad.aKI);iterate 5 rfl|apply(ad.aKH);iterate 5 rfl|refine pw ?_|refine tA ?_)
 refine W.hz (X:=Nat×Nat×Option Addr×Nat×List dp) (λx=>[(0,.pointer (some ⟨x.2.1,0,none⟩)),(2,.slice (cV N) 3 3),(11,bm 2),(12,bm (x.1:Int))]) (λx B=>Tf p h a8 aT x.2.1 x.2.2.1 x.2.2.2.1 x.2.2.2.2 B/\x.1<=2) (λx=>2-x.1)
  (λC a=>⟨(0,aU,bj,aW,p.funcs),?_,⟨a.up _ _ ek,aC.mono a.up λ_ _ h=>lp a.up h,s5.self bz,bz,a.bk⟩,dG _⟩) ?_
 .exact ca
 rintro⟨i,S,R,Q,O⟩ B fo dd ⟨z,ag⟩;dsimp only at z ag|-;by_cases bs:i<2
 .refine CI ?_;refine CJ ?_;refine zs ?_;apply W.seq;repeat(first|refine EB ?_|refine tA ?_)
  refine W.hz (X:=Nat×Nat×Option Addr×Nat×List dp) (λx=>[(0,.pointer (some ⟨x.2.1,0,none⟩)),(2,.slice (cV N) 3 3),(11,bm 2),(12,bm (i:Int)),(14,.slice (cV N) 3 3),(15,bm 3),(16,bm (x.1:Int))]) (λx B=>Tf p h a8 aT x.2.1 x.2.2.1 x.2.2.2.1 x.2.2.2.2 B/\x.1<=3) (λx=>3-x.1)
   (λC a=>⟨(0,S,R,Q,O),?_,z.up dd.aO a.bk,dG _⟩) ?_
  .exact ca
  rintro⟨j,Z,A,c,cJ⟩ B2 fE rf ⟨u,aA⟩;dsimp only at u aA|-;have aoU:=u.cx.up bF.aO _ _ F1;have adH:=rf.aO _ _ aoU;have aH:=u.o;by_cases C0:j<3
  .rcases(U:j=0\/j=1\/j=2) with rfl|rfl|rfl
   .repeat(first|refine er ?_|refine uT ?_|refine kW ?_|refine adG ?_|apply(ad.ahx (g0:=24));(iterate 4 rfl);refine λJ w=>⟨_,aKJ u.f J Z _ A c a8 aT (w.up _ _ aH) (u.s.mono w.up λ_ _ h=>lp w.up h),?_⟩;rintro v o3 fj ⟨V,L,M,T,rfl,G,F,E,D,Y⟩ ua Lu)
    exact eK rfl λC a=>⟨(1,V,L,M,T),⟨rfl,rfl,rfl,rfl,rfl,rfl,rfl,ew⟩,⟨⟨a.up _ _ G,F.mono a.up λ_ _ h=>lp a.up h,u.k.trans E,D,((u.cx.trans w.bk).trans Y).trans a.bk⟩,hR⟩,hR⟩
   .repeat(first|refine er ?_|refine uT ?_|refine kW ?_|refine adG ?_|apply(ad.ahx (g0:=25));(iterate 4 rfl);refine λJ w=>⟨_,aKK u.f J Z _ A c a8 aT (w.up _ _ aH) (u.s.mono w.up λ_ _ h=>lp w.up h),?_⟩;rintro v o3 fj ⟨V,L,M,T,rfl,G,F,E,D,Y⟩ ua Lu)
    exact eK rfl λC a=>⟨(2,V,L,M,T),⟨rfl,rfl,rfl,rfl,rfl,rfl,rfl,ew⟩,⟨⟨a.up _ _ G,F.mono a.up λ_ _ h=>lp a.up h,u.k.trans E,D,((u.cx.trans w.bk).trans Y).trans a.bk⟩,hR⟩,hR⟩
   .repeat(first|refine er ?_|refine uT ?_|refine kW ?_|refine adG ?_|apply(ad.ahx (g0:=11));(iterate 4 rfl);refine λJ w=>⟨_,au9 u.f J Z _ A c a8 aT (w.up _ _ aH) (u.s.mono w.up λ_ _ h=>lp w.up h),?_⟩;rintro v o3 fj ⟨V,L,M,T,rfl,G,F,E,D,Y⟩ ua Lu)
    exact eK rfl λC a=>⟨(3,V,L,M,T),⟨rfl,rfl,rfl,rfl,rfl,rfl,rfl,ew⟩,⟨⟨a.up _ _ G,F.mono a.up λ_ _ h=>lp a.up h,u.k.trans E,D,((u.cx.trans w.bk).trans Y).trans a.bk⟩,hR⟩,hR⟩
  .obtain rfl:j=3:=U;repeat(first|refine EJ ?_|refine EM ?_)
   exact eK rfl λC a=>⟨(i+1,Z,A,c,cJ),⟨rfl,rfl,rfl,rfl,ew⟩,⟨u.up rf.aO a.bk,hR⟩,hR⟩
 .obtain rfl:i=2:=U;have aH:=z.o;repeat(first|refine fi ?_|refine uS ?_)
  exact cf _ (dt rfl) λC a=>⟨S,R,Q,O,rfl,a.up _ _ aH,z.s.mono a.up λ_ _ h=>lp a.up h,z.k,z.f,z.cx.trans a.bk⟩
def aKP n:∃m:Int,uc .and .i64 n 3=some (.int .i64 m)/\(m=0\/m=1\/m=2\/m=3):=by
 have J:(BitVec.ofInt 64 n&&&BitVec.ofInt 64 3).toNat<=3:=by
  rw[BitVec.toNat_and];exact bx Nat.and_le_right bo
 have a:i64 ((BitVec.ofInt 64 n&&&BitVec.ofInt 64 3).toNat:Int)=((BitVec.ofInt 64 n&&&BitVec.ofInt 64 3).toNat:Int):=NP U U;exact⟨i64 ((BitVec.ofInt 64 n&&&BitVec.ofInt 64 3).toNat:Int),rfl,by rw[a];omega⟩
def aKQ{p}(bz:oE p)n h aU bj aW a8 aT(ek:h.m aU=some ⟨⟨hd p bj aW a8 aT⟩,25⟩)(aC:c0 h bj 6 p.funcs (lb h)):
 dw prog 8 [.pointer (some ⟨aU,0,none⟩),.int .i64 n] h (Ls p h a8 aT):=by
 have⟨m,hm,B⟩:=aKP n;refine dw.i func8 ntmps8 λπ C=>?_;conv=>arg 2;whnf
 refine uU ?_;apply W.seq;rcases B with rfl|rfl|rfl|rfl
 .repeat(first|refine Xp ?_|apply ad.Wx;iterate 5 rfl|apply(ad.gC);rfl;rfl;rfl;refine λj bW=>⟨_,aKL bz j aU _ bj aW a8 aT (bW.up _ _ ek) (aC.mono bW.up λ_ _ h=>lp bW.up h),?_⟩;rintro v z w ⟨bV,A,c,cJ,rfl,eF,cZ,aj,ar,aH⟩ u s|refine fi ?_|refine c8 ?_|refine Hi ?_|refine fy ?_)
  exact UO
 .repeat(first|refine Xp ?_|apply ad.Wx;iterate 5 rfl|refine hL ?_|refine fi ?_|refine c8 ?_|refine EI ?_|apply(ad.gC);rfl;rfl;rfl;refine λj bW=>⟨_,aKM bz j aU _ bj aW a8 aT (bW.up _ _ ek) (aC.mono bW.up λ_ _ h=>lp bW.up h),?_⟩;rintro v z w ⟨bV,A,c,cJ,rfl,eF,cZ,aj,ar,aH⟩ u s)
  exact UO
 .repeat(first|refine Xp ?_|apply ad.Wx;iterate 5 rfl|refine hL ?_|refine fi ?_|refine c8 ?_|refine EI ?_|apply(ad.gC);rfl;rfl;rfl;refine λj bW=>⟨_,au9 bz j aU _ bj aW a8 aT (bW.up _ _ ek) (aC.mono bW.up λ_ _ h=>lp bW.up h),?_⟩;rintro v z w ⟨bV,A,c,cJ,rfl,eF,cZ,aj,ar,aH⟩ u s)
  exact UO
 .repeat(first|refine Xp ?_|refine gP ?_|refine hL ?_|refine fi ?_|refine c8 ?_|refine Na ?_|refine ou ?_|apply(ad.gC);rfl;rfl;rfl;refine λj bW=>⟨_,aKO bz j aU bj aW a8 aT (bW.up _ _ ek) (aC.mono bW.up λ_ _ h=>lp bW.up h) (π 0) _ (bW.bJ 0 (dN 0)),?_⟩;rintro v z w ⟨bV,A,c,cJ,rfl,eF,cZ,aj,ar,aH⟩ u s)
  exact UO
def aKR h(bf:GT h)(M:FA h) p(L:p.ok)(mz:∀f∈p.funcs,f.name.data.size<=140737488351232) cK d1 cM d2(C:c0 h cK 6 p.funcs (lb h))(F:c0 h cM 4 p.globals (CM h)) n bj bY aW a8 dk aT dr eD bn hn ju e3 b2 bI jm ix(O:nI h bj bY aW b2)(Q:nI h a8 dk aT bI)(Dh:nI h dr eD bn jm)(Di:nI h hn ju e3 ix):
 bc prog 3 ⟨[.agg ⟨hd p cK d1 cM d2⟩,.agg ⟨[.slice bj bY aW,.slice a8 dk aT,.slice dr eD bn,.slice hn ju e3]⟩,.int .i64 n]⟩ h (.bool true) h:=by
 refine bc.rX func3 ntmps3 (λV=>⟨b4 _,aF,λi b I=>⟨V.aO i b I,V.dP i b I⟩⟩) λπ V=>?_;conv=>arg 2;whnf
 refine Kb ?_;refine W.hH λw pD a0=>?_;have m0:w.m (π 0)=bS (hd p cK d1 cM d2) 25:=a0.bJ 0 (bo:(0:Nat)<2);have m1:w.m (π 1)=bS [.slice bj bY aW,.slice a8 dk aT,.slice dr eD bn,.slice hn ju e3] 29:=a0.bJ 1 (bo:(1:Nat)<2);generalize π 0=aU at *;generalize π 1=cv at *;have n0:=a0.aO _ _ m0;have AQ:=a0.aO _ _ m1;replace C:=C.mono a0.up λ_ _ h=>lp a0.up h;replace F:=F.mono a0.up λ_ _ h=>AP a0.up h;replace bf:=bf.up a0.up;replace M:=M.up a0.up;replace O:=O.up a0.up;replace Q:=Q.up a0.up;replace Dh:=Dh.up a0.up;replace Di:=Di.up a0.up;have acY:=λv aE=>a0.j9.dP _ _ m0 v lL;have WN:∀v∈[Value.slice bj bY aW,.slice a8 dk aT],bw w.n v:=λv aE=>a0.j9.dP _ _ m1 v (by
  have:v=.slice bj bY aW\/v=.slice a8 dk aT:=lL;rcases this with rfl|rfl<;>simp)
 have Hm:∀v∈[Value.slice dr eD bn,.slice hn ju e3],bw w.n v:=λv aE=>a0.j9.dP _ _ m1 v (by
  have:v=.slice dr eD bn\/v=.slice hn ju e3:=lL;rcases this with rfl|rfl<;>simp)
 have⟨bO,F1⟩:=ld (kj p&&gy p&&RK bY dk&&RK eD ju);have wP:∀aD,(∀i b,w.m i=some b->aD.m i=some b)->bc prog 5 ⟨[.agg ⟨hd p cK d1 cM d2⟩,.agg ⟨[.slice bj bY aW,.slice a8 dk aT]⟩,.agg ⟨[.slice dr eD bn,.slice hn ju e3]⟩]⟩ aD (.bool bO) aD:=by
  intro aD hu;exact F1▸aBD p L aD cK d1 cM d2 (C.mono hu λ_ _ h=>Rf hu h.r) (F.mono hu λ_ _ h=>AP hu h) bj bY aW a8 dk aT dr eD bn hn ju e3
 rcases bO with _|_
 .repeat(first|apply(ad.jy);rfl;rfl;rfl;exact λaD B=>apP aD|refine WR ?_|apply ad.Nv;(iterate 4 rfl);decide|refine anA ?_|apply(ad.jy);rfl;rfl;rfl;exact λaD B=>wP aD B.up|(with_reducible first|apply ad.assign|apply ad.not);iterate 3 rfl|refine c8 ?_|refine Ez ?_|refine vy ?_)
  exact Ja
 .have z:kj p=true/\gy p=true:=by
   simp[cA] at F1;exact F1.1.1
  have bz:=oE.of L z.1 z.2;have FF:=bz.rA;have wR:p.funcs.length<=10000:=by have:=FF.rB;omega
  have K4:=aH6 L z.1 z.2 mz;have⟨Bw,R⟩:=ld (xb p.funcs);have X:∀aD,(∀i b,w.m i=some b->aD.m i=some b)->bc prog 6 ⟨[.agg ⟨hd p cK d1 cM d2⟩]⟩ aD (.string Bw) aD:=by
   intro aD hu;exact R▸as8 p U K4 cK d1 cM d2 aD (bf.up hu) (M.up hu) (C.mono hu λ_ _ h=>lp hu h)
  have Z:∀(u:aV) (E:Nat) (A:Option Addr) (c:Nat) (D:List dp),(∀i b,w.m i=some b->u.m i=some b)->u.m E=bS (hd {p with funcs:=D} A c cM d2) 25->c0 u A 6 D (lb u)->s5 p {p with funcs:=D} ->
   bc prog 7 ⟨[.agg ⟨hd p cK d1 cM d2⟩,cE E,.string Bw,.agg ⟨[.slice bj bY aW,.slice a8 dk aT]⟩,.agg ⟨[.slice dr eD bn,.slice hn ju e3]⟩]⟩ u (.bool true) u:=by
   intro u E A c D s S T N;rw[<-R];exact aHA p _ L FF z.2 K4 (aH5 L z.1 z.2) N u (bf.up s) (M.up s) cK d1 cM d2 (C.mono s λ_ _ h=>lp s h) (F.mono s λ_ _ h=>AP s h) E _ A c cM d2 ⟨S,T.mono (λ_ _ h=>h) λ_ _ h=>h.r,F.mono s λ_ _ h=>AP s h⟩
    bj bY aW a8 dk aT dr eD bn hn ju e3 b2 bI jm ix (O.up s) (Q.up s) (Dh.up s) (Di.up s)
  clear R;apply W.seq;apply W.seq;repeat(first|apply(ad.jy);rfl;rfl;rfl;exact λaD B=>apP aD|apply ad.not;iterate 3 rfl|refine EK ?_|refine oR ?_)
  apply W.seq;apply W.seq;repeat(first|refine WR ?_|apply ad.Nv;(iterate 4 rfl);decide|refine anA ?_|apply(ad.jy);rfl;rfl;rfl;exact λaD B=>wP aD B.up|apply ad.not;iterate 3 rfl|refine EK ?_|refine oR ?_)
  apply W.seq;repeat(first|refine WR ?_|apply(ad.jy);rfl;rfl;rfl;exact λaD B=>X aD B.up|refine J9 ?_)
  apply W.seq;repeat(first|(apply ad.WM;rfl;rfl;rfl;first|exact m0;exact n0;exact iu;exact aky;exact acY|exact m1;exact AQ;exact iu;exact(show cr 0 2 [.slice bj bY aW,.slice a8 dk aT,.slice dr eD bn,.slice hn ju e3]=[.slice bj bY aW,.slice a8 dk aT] from rfl);exact WN|exact m1;exact AQ;exact iu;exact(show cr 2 2 [.slice bj bY aW,.slice a8 dk aT,.slice dr eD bn,.slice hn ju e3]=[.slice dr eD bn,.slice hn ju e3] from rfl);exact Hm)|apply ad.aKT;(iterate 4 rfl);decide;exact AQ|apply ad.acR;rfl;rfl;rfl;exact(show bw w.n (.string Bw) by simp)|apply(ad.O8 (g0:=8));(iterate 4 rfl);refine λdA MM G=>⟨_,aKQ bz n dA aU _ _ _ _ (G.up _ _ m0) (C.mono G.up λ_ _ h=>lp G.up h),(λv H' ⟨_,_,_,_,_,_,_,_,_,aH⟩ i ag=>aH.2 i (eQ ag G.le)),?_⟩;rintro v u rU fY ⟨E,A,c,D,rfl,S,T,N,aSI,aH⟩ gM re Y aSJ fV|apply(ad.O8 (g0:=7));(iterate 4 rfl);intro nK J mw;rw[Y] at J;subst J;refine⟨_,bc.ex (Z u E A c D ((G.bk.trans aH).up a0.aO) S T N),(λv H' ⟨_,e⟩ i ag=>Jx),?_⟩;rintro v mM aSK XH ⟨rfl,rfl⟩ u3 w0 Lr ahv ahw|apply(ad.ahy mixed [(0,1),(0,2),(2,3),(1,3),(0,3),(3,4),(2,4),(1,4),(0,4),(3,5),(2,5),(1,5),(0,5),(5,6),(4,6),(3,6),(2,6),(1,6),(0,6),(5,7),(4,7),(3,7),(2,7),(1,7),(0,7)]);kernel_rfl;(have aSL:0<=rU:=fV);(repeat(refine⟨λx y aa aN=>(by obtain rfl:=uj aa;obtain rfl:=uj aN;(first|exact aH1 rfl rfl rfl rfl rfl rfl rfl amf|exact aKV rfl rfl rfl rfl rfl rfl rfl amf (λj aA=>by(first|simp[wx] at aA;done|simp[wx,de] at aA|-;omega)) (by first|exact xG|exact .inr ⟨rfl,rfl⟩))),?_⟩));exact p3;rfl|refine fi ?_|refine qU ?_|(with_reducible first|apply W.ret|apply fr))
  exact Ja
end
end Go.Proofs.YtplleokmejppjaaGreatDoor
