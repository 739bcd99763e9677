/- Contracts of functions that the law reaches -/
import Derived.Test.YtplleokmejppjaaGreatDoorR5
set_option linter.all false
set_option maxHeartbeats 9999999
set_option maxRecDepth 100000
namespace Go.Proofs.YtplleokmejppjaaGreatDoor
open Go.Proofs.Tryz
open Go.AH
section
attribute[local irreducible] W ad
def aMr n(h0:0<=n)(J:n<=1000000) h:dw prog 82 [.int .i64 n] h (λv aw=>∃a,v=.slice (some ⟨a,0,none⟩) (hi n).length (hi n).length/\aw.m a=some ⟨⟨kb (hi n)⟩,153⟩/\cW h aw/\h.n<=a):=by
 refine(bc.ex (avK n h0 J h)).mono ?_;rintro v aw _ ⟨rfl,rfl⟩;exact⟨h.n,rfl,Qi _ _,cW.push _ _,b4 _⟩
def QE n:(hi n).length=((max n 0).toNat+63)/64:=by simp[hi]
def afU{off w j n cs vs}(h:cr off w cs=vs)(aA:j+n<=w):cr (off+j) n cs=(vs.drop j).take n:=by
 subst h;rw[hs,hs,UA,xt,UB,I0 U]
def qq(l:List Int):List Value:=l.reverse.map (.int .i64)
@[simp] theorem uy l:(qq l).length=l.length:=by simp[qq]
def Oa n l:qq (n::l)=qq l++[.int .i64 n]:=by simp[qq]
structure Lz(h:aV)(L:Nat)(bO fz:Nat)(X:Nat->Prop)(s:dc)(eg:List Int)(B:aV):Prop where
 cx:cW h B
 aC:B.m bO=some ⟨⟨kb s⟩,153⟩
 ao:s.length=L
 iF:∃A cap,B.m fz=some ⟨⟨[.slice A eg.length cap]⟩,51⟩/\ng B 3 A cap (qq eg)/\∀a,A=some a->h.n<=a.block/\¬X a.block
def Lz.up{h L c b X s eg B d}(r:Lz h L c b X s eg B)(a:∀i x,B.m i=some x->i<B.n)(o:cW B d):Lz h L c b X s eg d:=by
 have⟨A,cap,J,e,f⟩:=r.iF;exact⟨r.cx.trans o,o.up a _ _ r.aC,r.ao,A,cap,o.up a _ _ J,e.up (o.up a),f⟩
def LA{h A s s'}(aC:fR h A s){i b}(hm:h.m i=some b)(he:b.elem≠153):(nn h A s').m i=some b:=by
 rcases aC with _|⟨a,aM⟩
 .exact hm
 .rename_i k;show(if i=k then _ else h.m i)=some b;by_cases e:i=k
  .subst e;rw[a] at hm;injection hm with hm;rw[<-hm] at he;exact absurd rfl he
  .rwa[ai e]
def aMs{h A s s'}(aC:fR h A s){B cap vs}(st:ng h 3 B cap vs):ng (nn h A s') 3 B cap vs:=by
 rcases st with _|⟨hm,aM,aB⟩
 .exact .nil
 .exact .row (LA aC hm aF) aM aB
def N8{h B cap vs}(st:ng h 3 B cap vs){i b}(hm:h.m i=some b)(he:b.elem≠3):B≠some ⟨i,0,none⟩:=by
 intro e;rcases st with _|⟨a,aM,aB⟩
 .cases e
 .injection e with e;cases e;rw[a] at hm;injection hm with hm;rw[<-hm] at he;exact he rfl
def avU aR ae A c bl(bM:bl≠[])(dO:bl.length<=100000)(rV:im bl) h(ar:Bk h aR ae A c bl):
 dw prog 63 [.pointer (some ⟨aR,0,none⟩)] h (λv aw=>∃dz ea,v=.slice dz (gW bl).length ea/\fR aw dz (gW bl)/\cW h aw/\∀a,dz=some a->h.n<=a.block):=by
 refine dw.i func63 ntmps63 λπ bF=>?_;conv=>arg 2;whnf
 have hx:=DV.2 bM;have aq:=bF.aO;have⟨dS,bz,aK,cz⟩:=ar.ar;have gh:=bF.aO _ _ bz;refine uU ?_;apply W.seq;repeat(first|refine J1 ?_|apply ad.gC;rfl;rfl;rfl;refine λdA bW=>⟨_,aMr _ U U dA,?_⟩;rintro v H1 Q ⟨bO,rfl,nA,hy,F1⟩ gM re|refine kJ ?_|refine gr ?_)
 have Dc:=bW.bk.trans hy;replace bz:=Dc.up aq _ _ bz;replace gh:=gM.aO _ _ bz;apply W.seq;apply W.seq;repeat(first|refine J1 ?_|refine wG ?_|refine hL ?_|refine EK ?_|refine oR ?_)
 apply W.seq;repeat(first|refine gP ?_|refine EL ?_)
 refine W.hH λB2 fE L=>?_;have avV:B2.m (Q 0)=bS [.int .i64 0] 3:=L.bJ 0 (eQ kP (hr 1));have avW:B2.m (Q 1)=bS [.slice (some ⟨Q 0,0,none⟩) 1 1] 51:=L.bJ 1 (dN 1);have nG:H1.n<=Q 0:=L.bL 0 (eQ kP (hr 1));have o2:H1.n<=Q 1:=L.bL 1 (dN 1);have auE:Q 1<B2.n:=L.ag 1 (dN 1);generalize Q 0=oD at *;generalize Q 1=f at *;have J0:=bx bF.rw (bx Dc.1 o2);have ahT:=bx bF.rw (bx bW.le F1);have rO:fR B2 (cV bO) (hi (bl.length:Int)):=.some (L.up _ _ nA) ahT;have fQ:(hi (bl.length:Int)).length<=1000000000:=abO;apply W.seq;repeat(first|apply ad.gC;rfl;rfl;rfl;refine λeW j2=>⟨_,bc.ex (Zr _ _ _ 0 Jk fQ eW (fx rO j2.up)),?_⟩;rintro v o3 fj ⟨rfl,rfl⟩ ua Lu|refine pw ?_|refine gr ?_)
 have tO:Lz h (hi (bl.length:Int)).length bO f (λ_=>False) (jU (hi (bl.length:Int)) 0) [0] (nn eW (cV bO) (jU (hi (bl.length:Int)) 0)):=by
  have bM:f≠bO:=by
   intro e;have:=L.up _ _ nA;rw[<-e,avW] at this;simp at this
  have Ds:oD≠bO:=by
   intro e;have:=L.up _ _ nA;rw[<-e,avV] at this;simp at this
  refine⟨?_,abi,yV _ _,cV oD,1,by show(if f=bO then _ else eW.m f)=_;exact ai bM▸j2.up _ _ avW,.row (t:=[]) (by show(if oD=bO then _ else eW.m oD)=_;exact ai Ds▸j2.up _ _ avV) (bx bF.rw (bx Dc.1 nG)) (.inr ⟨rfl,bo⟩),?_⟩
  .refine(((Dc.trans L.bk).trans j2.bk).off.dB (Ix (fx rO j2.up))).cx λi ag e=>?_;have e:some _=some _:=e;injection e with e;injection e with e;have:h.n<=dA.n:=bW.le;omega
  .intro a C;injection C with C;rw[<-C];exact⟨bx Dc.1 nG,id⟩
 have avX:(hi (bl.length:Int)).length=(bl.length+63)/64:=abO;apply W.seq;apply W.block;refine W.hz (X:=Nat×dc×List Int) (λx=>[(0,cE aR),(3,.slice (cV bO) (hi (bl.length:Int)).length (hi (bl.length:Int)).length),(4,cE f)])
  (λx B=>Lz h (hi (bl.length:Int)).length bO f (λ_=>False) x.2.1 x.2.2 B/\(∀k∈x.2.2,0<=k/\k<bl.length)/\(x.2.2.length+zv bl.length x.2.1<=x.1/\x.1<=2*bl.length+2)/\A5 bl x.1 x.2.1 x.2.2=gW bl) (λx=>x.1)
  (λaD a=>⟨(2*bl.length+2,jU (hi (bl.length:Int)) 0,[0]),?_,tO.up ua.aO a.bk,?_,?_,?_⟩) ?_
 .exact ca
 .intro k aj;simp only[gU] at aj;omega
 .have:zv bl.length (jU (hi (bl.length:Int)) 0)<=bl.length:=by
   unfold zv;exact amm
  simp only[DW];exact⟨U,b4 _⟩
 .show A5 bl (2*bl.length+2) _ [0]=gW bl;unfold gW;rw[ai U]
 .rintro⟨m,s,eg⟩ B π dd ⟨G,pt,⟨hm,AB⟩,gw⟩;dsimp only at G pt hm AB gw|-;obtain⟨o0,cap,V,sW,ahK⟩:=G.iF;have avY:=dd.aO _ _ V;have fQ:=G.ao;rcases eg with _|⟨n,sd⟩
  .rw[vg] at V;have rK:s=gW bl:=by rw[<-gw];cases m<;>rfl
   repeat(first|apply ad.dv;rfl;rfl;rfl;exact V;exact avY;rfl|refine Cx ?_|refine uS ?_)
   refine cf _ (dt rfl) λaD a=>⟨cV bO,_,by rw[<-fQ,rK];rfl,by rw[<-rK];exact .some (a.up _ _ G.aC) ahT,G.cx.trans a.bk,λa C=>?_⟩;injection C with C;rw[<-C];exact bx bW.le F1
  .rw[e5] at V;rw[Oa] at sW;obtain⟨aSS,aST⟩:=pt n aF;have hM:(qq sd).length<=1000000000:=by rw[uy];simp only[e5] at hm;omega
   obtain⟨m',rfl⟩:∃m',m=m'+1:=⟨m-1,by simp at hm;omega⟩;apply W.seq;apply W.seq;repeat(first|apply ad.dv;rfl;rfl;rfl;exact V;exact avY;rfl|refine iR ?_|apply ad.qg;iterate 3 rfl|refine lB ?_|(with_reducible first|apply W.block|apply W.skip|apply fr)|refine Wy ?_)
   apply W.seq;repeat(first|apply ad.gC;rfl;rfl;rfl;intro gv M;refine⟨_,aMq f o0 cap (qq sd) n hM gv (by rw[uy];exact M.up _ _ V) J0 (sW.up M.up),?_⟩;rintro v Bu rj ⟨rfl,avZ,aMt,Zu⟩ F9 avT|refine J9 ?_)
   have Ok:=bx Dc.1 o2;have adH:h.n<=bO:=bx bW.le F1;have Pj:cW h Bu:=((G.cx.trans M.bk).off.dB (Zu.mono (T:=λi=>i=f) λ_ _ e=>e)).cx λi ag e=>by subst e;omega
   have F5:Bu.m bO=bS (kb s) 153:=by
    rw[Zu.2 bO (M.j9.aO _ _ (M.up _ _ G.aC)) (λe=>by
     have:=G.aC;rw[e,V] at this;simp at this)]
    exact M.up _ _ G.aC
   have zG:=ar.up (Pj.up aq);obtain⟨aMu,bz,_,cz⟩:=zG.ar;have gh:=F9.aO _ _ bz;have Cw:n=(n.toNat:Int):=U;have NQ:n.toNat<bl.length:=U;obtain⟨b,I⟩:=cR bl n.toNat NQ;obtain⟨aL,off,cs,e,rfl,cQ,n5,rQ⟩:=zG.gK.get _ b I;have mD:=F9.aO _ _ cQ;obtain⟨Bl,ci,rQ,_⟩:=rQ;have lz:cr (off+n.toNat*9+1) 8 cs=kr b.av:=afU (n:=8) rQ bo;replace n5:off+n.toNat*9+1+8<=cs.length:=U;apply W.seq;repeat(first|refine J1 ?_|refine adK ?_|refine anr ?_|apply ad.gC;rfl;rfl;rfl;intro nK mw;refine⟨_,N4 b.av nK,?_⟩;rintro v mM zL ⟨qG,sw,rfl,e1,oh,GN⟩ u3 w0|refine wG ?_|refine tA ?_)
   have LB:=mw.bk.trans oh;have aSU:=F9.aO _ _ avZ;have afj:Lz h (hi (bl.length:Int)).length bO f (pU qG) s sd mM:=by
    refine⟨Pj.trans LB,LB.up F9.aO _ _ F5,fQ,o0,cap,?_,aMt.up (LB.up F9.aO),λa C=>⟨(ahK a C).1,λaa=>?_⟩⟩
    .have:=LB.up F9.aO _ _ avZ;rwa[uy] at this
    .obtain⟨r,t,O,lV,_⟩:=Yp sW aF;rw[C] at O;injection O with O;subst O;have J:=GN _ aa;have ab:=M.aO _ _ (M.up _ _ lV);have aK:Bu.n<=nK.n:=mw.le;simp only at J;omega
   generalize ao:di b.av=l at *;have jL:=λk aj=>rV b (bQ I) k (by rw[ao];exact aj);have qx:l.length<=2:=by
    rw[<-ao];unfold di;repeat' split
    all_goals simp
   have uZ:q6 bl n=l:=by unfold q6;rw[I];exact ao
   refine W.hz (X:=Nat×dc×List Int) (λx=>[(0,cE aR),(3,.slice (cV bO) (hi (bl.length:Int)).length (hi (bl.length:Int)).length),(4,cE f),(36,.slice qG l.length sw),(37,bm (l.length:Int)),(38,bm (x.1:Int))])
    (λx B=>x.1<=l.length/\Lz h (hi (bl.length:Int)).length bO f (pU qG) x.2.1 x.2.2 B/\Be B qG l/\(∀k∈x.2.2,0<=k/\k<bl.length)/\x.2.2.length+zv bl.length x.2.1<=m'/\pE s sd l=pE x.2.1 x.2.2 (l.drop x.1)) (λx=>l.length-x.1)
    (λaD a=>⟨(0,s,sd),?_,aF,afj.up u3.aO a.bk,e1.up a.up,λk aj=>pt k (by simp[aj]),?_,rfl⟩) ?_
   .exact ca
   .simp only[e5] at hm|-;omega
   .rintro⟨j,u,Y⟩ iN Dd pP ⟨aA,z,E,Zv,mA,Pk⟩;dsimp only at aA z E Zv mA Pk|-;by_cases hb:j<l.length
    .obtain⟨k,aj⟩:=cR l j hb;rcases E with E|⟨S,rfl,bA⟩
     .rw[E] at hb;exact Qe
     have mE:=pP.aO _ _ bA;have Ts:(l.map (Value.int .i64))[0+j*1]?=some (bm k):=by simp[aj]
     obtain⟨kl,fV⟩:=jL k (bQ aj);have av0:b8 k:=Jk;have av1:u.length<=1000000000:=by rw[z.ao,avX];omega
     have ahU:fR iN (cV bO) u:=.some z.aC ahT;have Pl:l.drop j=k::l.drop (j+1):=by
      obtain⟨J,ab⟩:=cS.1 aj;rw[sq J,ab]
     rw[Pl] at Pk;obtain⟨bj,av2,R,Tt,s8⟩:=z.iF;rw[<-uy Y] at R;have aMv:=N8 Tt R aF;have aMw:bj≠cV S:=λe=>(s8 _ e).2 rfl;have afB:=N8 Tt z.aC aF;rw[<-z.ao];repeat'(first|apply ad.dv;rfl;rfl;rfl;exact bA;exact mE;exact Ts|refine er ?_|apply ad.jy;rfl;rfl;rfl;exact λuQ D=>Rz u _ _ k av0 av1 uQ (fx ahU D.up)|refine gP ?_|apply ad.gC;rfl;rfl;rfl;intro uQ D;refine⟨_,bc.ex (Zr u _ _ k av0 av1 uQ (fx ahU D.up)),?_⟩;rintro v KP Og ⟨rfl,rfl⟩ afP arM;have yy:=fx ahU D.up;have Zw:=LA (s':=jU u k) yy (D.up _ _ R) aF;have aMx:=afP.aO _ _ Zw;have aMy:=aMs (s':=jU u k) yy (Tt.up D.up)|apply ad.dv;rfl;rfl;rfl;exact Zw;exact aMx;rfl|apply ad.Yh (vs:=qq Y);(iterate 5 rfl);exact λB cF=>⟨cF.bJ 0 (dN 0),aMy.up cF.up⟩;rfl;(simp only[uy];omega);(simp only[uy];omega);intro gL F mN Bg N yf s3 Fi oc lJ sZ;have Z:=(lJ f (F.aO _ _ (F.up _ _ Zw)) aMv).trans (F.up _ _ Zw);have aMz:=s3.aO _ _ Z|apply ad.gi;rfl;rfl;rfl;exact Z;exact aMz;exact J0;exact iu;iterate 3 rfl|refine W9 ?_|refine la ?_|refine kW ?_|(refine c7 ?_ ?_)<;>intro _)
     .have xB:(jU u k).length=u.length:=yV _ _;have hl:cU u k=false:=by simpa using ‹(!cU u k)=true›
      have aMA:S≠f:=by
       intro e;subst e;rw[bA] at R;simp at R
      have aMB:bO≠f:=by
       intro e;have:=z.aC;rw[e,R] at this;simp at this
      have w9:iN.n<=gL.n:=bx D.le F.le;refine eK rfl λaD a=>⟨(j+1,jU u k,k::Y),ca,⟨U,⟨?_,?_,xB,mN,Bg,?_,?_,?_⟩,?_,?_,?_,by rw[Pk,pE,ai (by rw[hl];simp)]⟩,U⟩
      .have jx:cT (λi=>h.n<=i) h gL:=((z.cx.trans D.bk).off.dB ((Ix yy).mono λi _ e=>by
        have e:some _=some _:=e;injection e with e;injection e with e;rw[<-e];exact adH)).dB F.bk.off
       have fD:cT (λi=>h.n<=i) gL N:=⟨oc,λi ag ak=>lJ i ag λe=>ak (s8 _ e).1⟩;have gX:cT (λi=>h.n<=i) N aD:=((cT.set N f _).mono λi _ e=>by rw[e];exact Ok).dB a.bk.off;exact((jx.dB fD).dB gX).cx λi ag ak=>U
      .refine a.up _ _ ?_;show(if bO=f then _ else N.m bO)=_;have aMC:(nn uQ (cV bO) (jU u k)).m bO=bS (kb (jU u k)) 153:=abi;have BH:=F.up _ _ aMC;rw[ai aMB,lJ bO (F.aO _ _ BH) afB];exact BH
      .refine a.up _ _ ?_;show(if f=f then _ else N.m f)=_;rw[au rfl,uy];rfl
      .rw[Oa];have aMD:ng (N.set f ⟨⟨[.slice mN ((qq Y).length+1) Bg]⟩,51⟩) 3 mN Bg (qq Y++[bm k]):=by
        obtain⟨r,t,rfl,O,lV,OB⟩:=Yp Fi aF;refine .row (t:=t) ?_ lV OB;have rP:r≠f:=by
         intro e;subst e;rw[Z] at O;simp at O
        show(if r=f then _ else N.m r)=_;rw[ai rP];exact O
       exact aMD.up a.up
      .intro b6 aME;rcases sZ b6 aME with e|e
       .exact s8 _ e
       .refine⟨bx z.cx.1 (bx w9 e),λaa=>?_⟩;have aa:some _=some _:=aa;injection aa with aa;injection aa with aa;omega
      .refine .inr ⟨S,rfl,a.up _ _ ?_⟩;show(if S=f then _ else N.m S)=_;have FU:=F.up _ _ (LA (s':=jU u k) yy (D.up _ _ bA) aF);rw[ai aMA,lJ S (F.aO _ _ FU) aMw];exact FU
      .intro k' oO;rcases dI.1 oO with e|e
       .rw[e];exact⟨kl,fV⟩
       .exact Zv k' e
      .have:=apW (n:=bl.length) kl fV hl (by rw[z.ao,avX];omega);simp only[e5];omega
     .exact eK rfl λaD a=>⟨(j+1,u,Y),ca,⟨U,by rw[z.ao];exact z.up pP.aO a.bk,.inr ⟨S,rfl,a.up _ _ bA⟩,Zv,mA,by rw[Pk,pE,au (by simpa using ‹(!cU u k)=false›)]⟩,U⟩
    .have vL:l.drop j=[]:=np U;rw[vL] at Pk;repeat(first|refine nD ?_|refine EM ?_)
     refine eK rfl λaD a=>⟨(m',u,Y),ca,⟨?_,Zv,⟨mA,U⟩,by rw[<-gw,A5,uZ,Pk];rfl⟩,U⟩
     .obtain⟨bj,av2,R,Tt,s8⟩:=z.iF;exact⟨z.cx.trans a.bk,a.up _ _ z.aC,z.ao,bj,av2,a.up _ _ R,Tt.up a.up,λa C=>⟨(s8 a C).1,id⟩⟩
def aMF{bl}(aS:im bl):∀(n:Nat) (k:Int),0<=k/\k<bl.length->0<=Dm bl n k/\Dm bl n k<bl.length:=by
 intro n;induction n with
 | zero=>exact λk aj=>aj
 | succ n a =>
  intro k aj;unfold Dm;split
  .rename_i b I;split
   .exact aj
   .rename_i aB;rw[not_or] at aB;refine a _ (aS b (bQ I) _ ?_);rw[di,au U];simp
  .exact aj
def anZ u ae A c bl f(F:0<=f/\f<bl.length)(R:bl.length<=100000)(E:∀b∈bl,b.ah.length<=1000000)(D:im bl) h(z:Bk h u ae A c bl):
 bc prog 40 ⟨[.pointer (some ⟨u,0,none⟩),.int .i64 f]⟩ h (.int .i64 (jg bl f)) h:=by
 refine bc.rX func40 ntmps40 (λs=>⟨b4 _,aF,λi b I=>⟨s.aO i b I,s.dP i b I⟩⟩) λπ s=>?_;conv=>arg 2;whnf
 have aq:=s.aO;have⟨Q,bz,_,cz⟩:=z.ar;have gh:=s.aO _ _ bz;repeat(first|refine Ru ?_|refine kJ ?_|refine mc ?_)
 refine W.hz (X:=Nat×Int) (λx=>[(0,cE u),(1,bm x.2),(10,bm (bl.length:Int)),(11,bm (x.1:Int))])
  (λx B=>cW h B/\x.1<=bl.length/\(0<=x.2/\x.2<bl.length)/\Dm bl (bl.length-x.1) x.2=jg bl f) (λx=>bl.length-x.1) (λaD a=>⟨(0,f),?_,a.bk,aF,F,rfl⟩) ?_
 .exact ca
 .rintro⟨i,k⟩ B π w ⟨eC,ag,⟨aj,G⟩,gw⟩;dsimp only at eC ag aj G gw|-;have v:=z.up (eC.up aq);have⟨L,bz,_,cz⟩:=v.ar;have gh:=w.aO _ _ bz;by_cases bs:i<bl.length
  .have Cw:k=(k.toNat:Int):=U;have⟨b,I⟩:=cR bl k.toNat U;obtain⟨S,off,cs,e,rfl,cQ,n5,rQ⟩:=v.gK.get _ b I;have mD:=w.aO _ _ cQ;have⟨T,ci,rQ,_⟩:=rQ;have O:=E b (bQ I);obtain⟨m,hm⟩:∃m,bl.length-i=m+1:=⟨bl.length-i-1,U⟩;rw[hm,Dm,I] at gw;simp only at gw;by_cases aB:b.ah.length>0\/b.av.bp≠1
   .rw[au aB] at gw;repeat'(first|refine Ru ?_|refine Rr ?_|refine kJ ?_|refine zo ?_|refine q0 ?_|refine hW ?_|refine fy ?_|refine Eu ?_|refine adK ?_|(with_reducible first|apply W.seq|apply W.block|apply W.exit|apply W.ret|apply W.skip|apply fr|apply mC|apply xU)|(with_reducible apply av3);rfl|(refine c7 ?_ ?_)<;>intro _)
    all_goals first
     | exact aa6
     | (exfalso;omega)
   .rw[ai aB] at gw;rw[not_or] at aB;have⟨qR,k6⟩:=aB;have N:m=bl.length-(i+1):=U;have C:=D b (bQ I) b.av.goto (by rw[di,au U];simp);repeat(first|refine Ru ?_|refine Rr ?_|refine kJ ?_|refine wQ ?_|refine jj ?_|refine CF ?_|refine adK ?_)
    repeat'(first|(refine c7 ?_ ?_)<;>intro _)
    all_goals first
     | (refine eK rfl λaD a=>⟨(i+1,b.av.goto),?_,⟨eC.trans a.bk,U,C,by rwa[<-N]⟩,U⟩;exact ca)
     | (exfalso;omega)
  .have M:bl.length-i=0:=U;rw[M,Dm] at gw;repeat(first|refine fi ?_|refine uS ?_)
   exact aa6
def aMG{r k}:∀{bl:List bT}{i j:Nat}{b:bT},bl[i]?=some b->u9 r k j (bl.drop i)=(if cU r (j:Int)=true then(di b.av).count k else 0)+u9 r k (j+1) (bl.drop (i+1)):=by
 intro bl i j b I;have⟨J,a⟩:=cS.1 I;rw[sq J,a];rfl
def ahW t:(di t).length<=2:=by
 unfold di;repeat' split
 all_goals simp
def aMH{r k}:∀{bl:List bT}{j:Nat},u9 r k j bl<=2*bl.length:=by
 intro bl;induction bl with
 | nil=>intro j;simp[u9]
 | cons b bl a =>
  intro j;have J:=a (j:=j+1);have c:(di b.av).count k<=2:=bx (ajA) (ahW _);rw[u9,e5];split<;>omega
def aAH aR ae A c bl r z O k(dO:bl.length<=100000)(hM:r.length<=1000000000) h(ar:Bk h aR ae A c bl)(aM:fR h z r):
 bc prog 64 ⟨[.pointer (some ⟨aR,0,none⟩),.slice z r.length O,.int .i64 k]⟩ h (.int .i64 (vU bl r k:Int)) h:=by
 refine bc.rX func64 ntmps64 (λw=>⟨b4 _,aF,λi b I=>⟨w.aO i b I,w.dP i b I⟩⟩) λπ w=>?_;conv=>arg 2;whnf
 have aq:=w.aO;have⟨dS,bz,_,cz⟩:=ar.ar;have gh:=w.aO _ _ bz;repeat(first|refine Ru ?_|refine kJ ?_|refine mc ?_)
 refine W.hz (X:=Nat×Nat) (λx=>[(1,.slice z r.length O),(2,bm k),(7,bm (x.2:Int)),(15,.slice A bl.length c),(16,bm (bl.length:Int)),(17,bm (x.1:Int))])
  (λx B=>cW h B/\x.1<=bl.length/\x.2+u9 r k x.1 (bl.drop x.1)=vU bl r k) (λx=>bl.length-x.1) (λaD a=>⟨(0,0),?_,a.bk,aF,by simp[vU]⟩) ?_
 .exact ca
 .rintro⟨i,n⟩ B π Z ⟨eC,ag,gw⟩;dsimp only at eC ag gw|-;have Ns:=fx aM (eC.up aq);by_cases bs:i<bl.length
  .have⟨b,I⟩:=cR bl i bs;obtain⟨aL,off,cs,e,rfl,cQ,n5,rQ⟩:=(ar.up (eC.up aq)).gK.get _ b I;have mD:=Z.aO _ _ cQ;have⟨Bl,ci,rQ,_⟩:=rQ;rw[aMG I] at gw;have RA:b8 (i:Int):=Jk;refine CI ?_;refine CJ ?_;refine zs ?_;apply W.seq;repeat(first|refine Rr ?_|refine er ?_|refine fi ?_|refine EL ?_)
   refine W.hH λB2 fE N=>?_;have aG:B2.m (π 0)=bS (kq b Bl ci) 48:=N.bJ 0 (dN 0);have s:=N.bk;generalize π 0=q at *;have uO:=N.aO _ _ aG;replace Ns:=fx Ns (s.up Z.aO);rcases b5:cU r (i:Int) with _|_
   .rw[b5] at gw;simp[nN,jE,ff] at gw;repeat'(first|refine aoX ?_|apply ad.gC;rfl;rfl;rfl;refine λG V=>⟨_,N4 b.av G,?_⟩;rintro v mM zL ⟨E,Q,rfl,Y,R,GN⟩ u3 w0|refine M7 ?_|refine jj ?_|refine lB ?_|refine Eu ?_|(with_reducible first|apply ad.move|apply ad.qg|apply ad.not|apply ad.fieldAddr);iterate 3 rfl|refine adw ?_|(refine c7 ?_ ?_)<;>intro _)
    all_goals first
     | exact absurd ‹(!cU r (i:Int))=false› VJ
     | (refine eK rfl λaD a => ⟨(i + 1, n), ?_, ⟨(eC.trans s).trans a.bk, by omega, gw⟩, ?_⟩; · (repeat'(first | exact p3| exact rfl | apply And.intro)); done
        .show bl.length-(i+1)<bl.length-i;omega)
   .rw[b5] at gw;simp[kB] at gw;apply W.seq;apply W.seq;repeat(first|refine aoX ?_|refine adP ?_|refine gr ?_)
    repeat'((first|(refine c7 ?_ ?_)<;>intro _)<;>repeat(first|apply ad.gC;rfl;rfl;rfl;refine λG V=>⟨_,N4 b.av G,?_⟩;rintro v mM zL ⟨E,Q,rfl,Y,R,GN⟩ u3 w0|refine M7 ?_|refine vv ?_|refine jj ?_|refine lB ?_|refine Eu ?_|refine adw ?_))
    .exact absurd ‹(!cU r (i:Int))=true› VJ
    have L:=((eC.trans s).trans V.bk).trans R;generalize ao:di b.av=l at *;have qx:l.length<=2:=ao▸ahW _;have vB:n<=200000:=by
     have J:vU bl r k<=2*bl.length:=aMH;omega
    refine W.hz (X:=Nat×Nat) (λx=>[(1,.slice z r.length O),(2,bm k),(7,bm (x.2:Int)),(15,.slice (some ⟨aL,off,none⟩) bl.length c),(16,bm (bl.length:Int)),(17,bm (i:Int)),(28,.slice E l.length Q),(29,bm (l.length:Int)),(30,bm (x.1:Int))])
     (λx B=>cW h B/\Be B E l/\x.1<=l.length/\x.2+(l.drop x.1).count k=n+l.count k) (λx=>l.length-x.1) (λaD a=>⟨(0,n),?_,L.trans a.bk,Y.up a.up,aF,rfl⟩) ?_
    .exact ca
    .rintro⟨j,m⟩ iN Dd pP ⟨D,f,aA,u⟩;dsimp only at D f aA u|-;by_cases hb:j<l.length
     .obtain⟨k',S⟩:∃k',l[j]?=some k':=⟨_,ey hb⟩;rcases f with f|⟨T,rfl,C⟩
      .rw[f] at hb;exact Qe
      have mE:=pP.aO _ _ C;have Ts:(l.map (Value.int .i64))[0+j*1]?=some (bm k'):=by simp[S]
      have Pl:l.drop j=k'::l.drop (j+1):=by
       have⟨J,ab⟩:=cS.1 S;rw[sq J,ab]
      have ahY:m<=300000:=by
       have:=ajA (a:=k) (l:=l);omega
      rw[Pl,List.count_cons] at u;repeat'(first|refine er ?_|refine uT ?_|refine k7 ?_|refine kW ?_|apply ad.dv;rfl;rfl;rfl;exact C;exact mE;exact Ts|(refine c7 ?_ ?_)<;>intro _)
      .have F:=‹k'=k›;refine eK rfl λaD a=>⟨(j+1,m+1),ca,⟨D.trans a.bk,.inr ⟨T,rfl,a.up _ _ C⟩,U,?_⟩,?_⟩
       .show m+1+(l.drop (j+1)).count k=_;rw[F] at u;simp at u;omega
       .show l.length-(j+1)<l.length-j;omega
      .have F:=‹¬k'=k›;refine eK rfl λaD a=>⟨(j+1,m),ca,⟨D.trans a.bk,.inr ⟨T,rfl,a.up _ _ C⟩,U,?_⟩,?_⟩
       .show m+(l.drop (j+1)).count k=_;simp[F] at u;omega
       .show l.length-(j+1)<l.length-j;omega
     .have M:l.drop j=[]:=np U;rw[M,List.count_nil,nq] at u;repeat(first|refine EJ ?_|refine EM ?_)
      refine eK rfl λaD a=>⟨(i+1,m),ca,⟨D.trans a.bk,U,by show m+u9 r k (i+1) (bl.drop (i+1))=_;omega⟩,?_⟩
      .show bl.length-(i+1)<bl.length-i;omega
  .have M:bl.drop i=[]:=np U;rw[M,u9,nq] at gw;repeat(first|refine fi ?_|refine uS ?_)
   exact aa6
def ahZ:∀(c r:List Value) (o:Nat) (vs:List Value),o+vs.length<=c.length->eB (c++r) o vs=eB c o vs++r
 | [],r,o,vs,h=>by
  have h:o+vs.length<=0:=h;have J:o=0:=U;have b:vs=[]:=mr.1 U;subst J;subst b;rw[u1,u1]
 | a::c,r,0,[],_=>by rw[u1,u1]
 | a::c,r,0,v::vs,h=>by
  have:=ahZ c r 0 vs (by simp at h|-;omega);simp[BW,eB,this]
 | a::c,r,o+1,vs,h=>by
  have:=ahZ c r o vs (by simp at h|-;omega);simp[BW,eB,this]
def Ya:∀(c r:List Value) (k:Nat) (vs:List Value),eB (c++r) (c.length+k) vs=c++eB r k vs
 | [],r,k,vs=>aF
 | a::c,r,k,vs=>by
  have:=Ya c r k vs;have e:(a::c).length+k=(c.length+k)+1:=jf;rw[e];simp[BW,eB,this]
def So{w}:∀{L:List (List Value)},(∀c∈L,c.length=w)->∀{i o:Nat}{x vs:List Value},L[i]?=some x->o+vs.length<=w->eB L.flatten (i*w+o) vs=(L.set i (eB x o vs)).flatten:=by
 intro L;induction L with
 | nil=>intro _ i o x vs aa;simp at aa
 | cons c L d =>
  intro hw i o x vs aa aH;have aB:=hw c aF;rcases i with _|i
  .simp[kC,dh] at aa;subst aa;rw[I4,ff,I5,ahZ _ _ _ _ U,BZ,I5]
  .have:=d (λb a=>hw b (by simp[a])) B6 aH;rw[I5,I6,I5,<-this];have e:(i+1)*w+o=c.length+(i*w+o):=by rw[aB,uu];omega
   rw[e,Ya]
def HZ{w}{L:List (List Value)}(hw:∀c∈L,c.length=w){i x}(aa:L[i]?=some x):cr (i*w) w L.flatten=x/\i*w+w<=L.flatten.length:=by
 have d:=hw x (bQ aa);have ag:=(cS.1 aa).1;have a:i*w+w<=L.flatten.length:=by
  rw[yi hw];have:(i+1)*w<=L.length*w:=I2 _ U;rw[uu] at this;exact dm
 refine⟨?_,a⟩;rw[hs];apply kg;intro j;by_cases b:j<w
 .rw[GD b,xq,G1 hw i j b,aa];rfl
 .have J:x[j]?=none:=Qa;rw[J,tl,ai b]
abbrev lK:=cO×Nat
def dK(x:lK):List Value:=[.int .i64 x.1.op,.int .i64 x.1.dst,.int .i64 x.1.a.ck,.int .i64 x.1.a.num,.int .i64 x.1.b.ck,.int .i64 x.1.b.num,.int .i64 x.1.size,.bool x.1.signed,.bool x.1.hO,.int .i64 x.1.ref,.int .i64 x.1.off,cD 2 x.2 x.1.args]
structure bG where
 ah:List lK
 r:Nat
 av:kt
def bG.s(b:bG):bT:=⟨b.ah.map (·.1),b.av⟩
def bG.c(b:bG):List Value:=cD 12 b.r b.ah::kr b.av
def mY(x:lK):Option Addr:=if x.1.args=[] then none else some ⟨x.2,0,none⟩
def qp(x:lK):Nat:=if x.1.args=[] then 0 else dF 2
def xF x:dK x=cL x.1 (mY x) (qp x):=by
 rw[dK,cL,mY,qp,jO]
def aMJ x:(dK x).length=12:=rfl
def bG.A(b:bG):Option Addr:=if b.ah=[] then none else some ⟨b.r,0,none⟩
def bG.k(b:bG):Nat:=if b.ah=[] then 0 else dF 12
def Pn(b:bG):b.c=kq b.s b.A b.k:=by
 rw[bG.c,kq,bG.A,bG.k,bG.s,jO];simp[kr]
structure hY(h:aV)(aL:Nat)(bv:List bG):Prop where
 rw:df<=aL
 m:h.m aL=some ⟨⟨(bv.map bG.c).flatten⟩,48⟩
 row:∀b∈bv,b.ah≠[]->df<=b.r/\h.m b.r=some ⟨⟨(b.ah.map dK).flatten⟩,42⟩
 arg:∀b∈bv,∀x∈b.ah,x.1.args≠[]->df<=x.2/\h.m x.2=some ⟨⟨fN x.1.args⟩,38⟩
 c4:∀(i j:Nat) (x y:bG),bv[i]?=some x->bv[j]?=some y->x.ah≠[]->y.ah≠[]->x.r=y.r->i=j
def bC(bv:List bG):List bT:=bv.map bG.s
def aMK{h x}(a:x.1.args≠[]->df<=x.2/\h.m x.2=some ⟨⟨fN x.1.args⟩,38⟩):HU h (dK x) x.1:=by
 refine⟨mY x,qp x,xF x,?_⟩;unfold mY;by_cases e:x.1.args=[]
 .rw[e];exact .nil
 .exact ai e▸Ly (a e).2
def aML{h}{b:bG}(aM:b.ah≠[]->df<=b.r/\h.m b.r=some ⟨⟨(b.ah.map dK).flatten⟩,42⟩)(d:∀x∈b.ah,x.1.args≠[]->df<=x.2/\h.m x.2=some ⟨⟨fN x.1.args⟩,38⟩):c0 h b.A 12 (b.ah.map (·.1)) (HU h):=by
 refine⟨λi x aa=>?_⟩;have a:b.ah≠[]:=amk;rw[gf] at aa;obtain⟨y,aN,rfl⟩:=GB.1 aa;have hw:∀c∈b.ah.map dK,c.length=12:=U1;obtain⟨J,f⟩:=HZ hw al0;refine⟨b.r,0,_,42,by rw[bG.A,ai a],(aM a).2,U,?_⟩;rw[ff,J];exact aMK (d y (bQ aN))
def hY.gK{h a bv}(o:hY h a bv):c0 h (some ⟨a,0,none⟩) 9 (bC bv) (yb h):=by
 refine⟨λi x aa=>?_⟩;rw[bC,gf] at aa;obtain⟨b,I,rfl⟩:=GB.1 aa;have hw:∀c∈bv.map bG.c,c.length=9:=U1;obtain⟨J,e⟩:=HZ hw amj;have d:=bQ I;refine⟨a,0,_,48,rfl,o.m,U,b.A,b.k,?_,aML (o.row b d) (o.arg b d)⟩;rw[ff,J];exact Pn b
def hY.up{h H a bv}(o:hY h a bv)(hu:∀i b,h.m i=some b->H.m i=some b):hY H a bv :=
 ⟨o.rw,hu _ _ o.m,λb I ak=>⟨(o.row b I ak).1,hu _ _ (o.row b I ak).2⟩,λb I x aa ak=>⟨(o.arg b I x aa ak).1,hu _ _ (o.arg b I x aa ak).2⟩,o.c4⟩
def mm(aL:Nat)(bv:List bG)(i:Nat):Prop:=i=aL\/∃b∈bv,b.ah≠[]/\b.r=i
def jF bv:(bC bv).length=bv.length:=by simp[bC]
def mem_set{α:Type}{l:List α}{i a b}(h:b∈l.set i a):b∈l\/b=a:=by
 rcases vh h with h|h
 .exact .inl h
 .exact .inr h
def hY.Db{h aL bv}(o:hY h aL bv){i b}(I:bv[i]?=some b)t:
 hY (h.set aL ⟨⟨((bv.set i {b with av:=t}).map bG.c).flatten⟩,48⟩) aL (bv.set i {b with av:=t}):=by
 have f:=bQ I;have g:∀{j:Nat}{x:cd},h.m j=some x->x.elem≠48->(h.set aL ⟨⟨((bv.set i {b with av:=t}).map bG.c).flatten⟩,48⟩).m j=some x:=by
  intro j x aa he;show(if j=aL then _ else h.m j)=_;rw[ai (λe=>?_)]
  .exact aa
  .subst e;rw[o.m] at aa;injection aa with aa;rw[<-aa] at he;exact he rfl
 refine⟨o.rw,GJ,λx aa ak=>?_,λx aa y d ak=>?_,λj k x y aa d s q he=>?_⟩
 .rcases mem_set aa with J|J
  .exact⟨(o.row x J ak).1,g (o.row x J ak).2 aF⟩
  .subst J;exact⟨(o.row b f ak).1,g (o.row b f ak).2 aF⟩
 .rcases mem_set aa with J|J
  .exact⟨(o.arg x J y d ak).1,g (o.arg x J y d ak).2 aF⟩
  .subst J;exact⟨(o.arg b f y d ak).1,g (o.arg b f y d ak).2 aF⟩
 .have n:∀{j:Nat}{x:bG},(bv.set i {b with av:=t})[j]?=some x->∃x',bv[j]?=some x'/\x'.ah=x.ah/\x'.r=x.r:=by
   intro j x aa;rw[fl] at aa;split at aa
   .rename_i e;subst e;split at aa
    .cases aa;exact⟨b,I,rfl,rfl⟩
    .cases aa
   .exact⟨x,aa,rfl,rfl⟩
  have⟨x',J,ab,aK⟩:=n aa;have⟨VE,g1,g2,g3⟩:=n d;exact akC
def Tu(bv:List bG):∀c∈bv.map bG.c,c.length=9:=U1
def Yy{bv:List bG}{i:Nat}{b}(I:bv[i]?=some b):(bv.map bG.c)[i]?=some b.c:=amj
def xD{bv:List bG}{i o off b b' vs}(I:bv[i]?=some b)(aH:off=i*9+o)(a:o+vs.length<=9)(aC:eB b.c o vs=b'.c):eB (bv.map bG.c).flatten off vs=((bv.set i b').map bG.c).flatten:=by
 rw[aH,So (Tu bv) (Yy I) a,aC,xu]
def vl{bv:List bG}{i o off b v}(I:bv[i]?=some b)(aH:off=i*9+o)(a:o<9)(aE:b.c[o]?=some v):(bv.map bG.c).flatten[off]?=some v:=by
 rwa[aH,G1 (Tu bv) i o a,Yy I]
def w7{bv:List bG}{i o n off b}(I:bv[i]?=some b)(aH:off=i*9+o)(a:o+n<=9):cr off n (bv.map bG.c).flatten=(b.c.drop o).take n/\off+n<=(bv.map bG.c).flatten.length:=by
 have⟨J,d⟩:=HZ (Tu bv) (Yy I);subst aH;exact⟨afU J a,U⟩
def P9 bv i b:bC (bv.set i b)=(bC bv).set i b.s:=by simp[bC,xu]
def vk{bv}{i:Nat}{b}(I:bv[i]?=some b):(bC bv)[i]?=some b.s:=by simp[bC,I]
def Mx{t}(h:t.bp=1):di t=[t.goto]:=by rw[di,au h]
def Cb{t}(h:t.bp=2):di t=[t.goto,t.dx]:=by rw[di,ai U,au h]
def av4{bl}(aS:im bl){b}(I:b∈bl):∀k∈di (nT bl b.av),0<=k/\k<bl.length:=by
 have a:=λk (aj:k∈di b.av)=>aMF aS bl.length k (aS b I k aj);unfold nT;by_cases J:b.av.bp=1
 .rw[Mx J] at a;rw[au J];intro k aj;rw[Mx (t:={b.av with goto:=jg bl b.av.goto}) J] at aj;simp only[gU] at aj a;subst aj;exact a _ rfl
 .rw[ai J];by_cases c:b.av.bp=2
  .rw[Cb c] at a;rw[au c];split
   .intro k aj;have aj:k∈[jg bl b.av.goto]:=aj;simp[gU] at aj;subst aj;exact a _ aF
   .intro k aj;rw[Cb (t:={b.av with goto:=jg bl b.av.goto,dx:=jg bl b.av.dx}) c] at aj;simp[dI,jP,j6] at aj;rcases aj with aj|aj
    .subst aj;exact a _ aF
    .subst aj;exact a _ aF
  .exact ai c▸aS b I
def Zy{bl}(aS:im bl){i b}(I:∀k∈di b.av,0<=k/\k<bl.length):im (bl.set i b):=by
 intro x aa k aj;rw[mq];rcases mem_set aa with h|h
 .exact aS x h k aj
 .subst h;exact I k aj
def aBM{bl}(aS:im bl)i:im (tt bl i)/\(tt bl i).length=bl.length:=by
 unfold tt;split
 .rename_i b I;exact⟨Zy aS (av4 aS (bQ I)),mq⟩
 .exact⟨aS,rfl⟩
def aMM{bv c i b}(I:bv[i]?=some b)t j:mm c (bv.set i {b with av:=t}) j↔mm c bv j:=by
 unfold mm;constructor
 .rintro(h|⟨x,aa,ak,aM⟩)
  .exact .inl h
  .rcases mem_set aa with J|J
   .exact .inr ⟨x,J,ak,aM⟩
   .subst J;exact .inr ⟨b,bQ I,ak,aM⟩
 .rintro(h|⟨x,aa,ak,aM⟩)
  .exact .inl h
  .have⟨k,aj⟩:=nO.1 aa;by_cases e:i=k
   .subst e;rw[I] at aj;cases aj;exact .inr ⟨{b with av:=t},bQ (by rw[fl,au rfl,au (cS.1 I).1]),ak,aM⟩
   .exact .inr ⟨x,bQ (by rwa[fl,ai e]),ak,aM⟩
structure Iz(h:aV)(aR:Nat)(f:dp)(bj:Option Addr)(aW:Nat)(a8:Option Addr)(aT:Nat)(aL bn:Nat):Prop where
 m:h.m aR=some ⟨⟨dj f bj aW a8 aT (some ⟨aL,0,none⟩) bn⟩,53⟩
 rw:df<=aR
def Iz.at{h c f d i k j a b bv}(o:Iz h c f d i k j a b)(e:hY h a bv)(g:f.blocks.length=bv.length):Bk h c f.ae (some ⟨a,0,none⟩) b (bC bv) :=
 ⟨⟨_,o.m,rfl,by rw[jF,<-g];rfl⟩,e.gK⟩
def hY.ah0{h H u bv}(o:hY h u bv){i b1}(hm:H.m u=some ⟨⟨((bv.set i b1).map bG.c).flatten⟩,48⟩)(v:∀j x,h.m j=some x->x.elem=38->H.m j=some x)(t:∀(j:Nat) (x:bG),bv[j]?=some x->j≠i->x.ah≠[]->H.m x.r=h.m x.r)(C:b1.ah≠[]->df<=b1.r/\H.m b1.r=some ⟨⟨(b1.ah.map dK).flatten⟩,42⟩)(F:∀x∈b1.ah,x.1.args≠[]->df<=x.2/\h.m x.2=some ⟨⟨fN x.1.args⟩,38⟩)(A:∀(j:Nat) (x:bG),bv[j]?=some x->j≠i->x.ah≠[]->b1.ah≠[]->x.r≠b1.r):hY H u (bv.set i b1):=by
 have g:∀{j:Nat}{x:bG},(bv.set i b1)[j]?=some x->(j=i/\x=b1)\/(j≠i/\bv[j]?=some x):=by
  intro j x aa;rw[fl] at aa;split at aa
  .rename_i e;split at aa
   .injection aa with aa;exact .inl ⟨e.symm,aa.symm⟩
   .cases aa
  .rename_i e;exact .inr ⟨λB=>e B.symm,aa⟩
 refine⟨o.rw,hm,λx aa ak=>?_,λx aa y f ak=>?_,λj k x y aa f p n he=>?_⟩
 .have⟨j,D⟩:=nO.1 aa;rcases g D with⟨_,e⟩|⟨e,w⟩
  .subst e;exact C ak
  .have:=o.row x (bQ w) ak;exact⟨this.1,t j x w e ak▸this.2⟩
 .rcases mem_set aa with J|J
  .have:=o.arg x J y f ak;exact⟨this.1,v _ _ this.2 rfl⟩
  .subst J;have:=F y f ak;exact⟨this.1,v _ _ this.2 rfl⟩
 .rcases g aa with⟨q,E⟩|⟨q,J⟩
  .rcases g f with⟨d,z⟩|⟨d,s⟩
   .rw[q,d]
   .subst E;exact absurd he.symm (A k y s d n p)
  .rcases g f with⟨d,z⟩|⟨d,s⟩
   .subst z;exact absurd he (A j x J q p n)
   .exact o.c4 j k x y J s p n he
def hY.Zz{h b bv}(o:hY h b bv){x}(aa:x∈bv)(ak:x.ah≠[]){j y}(a:h.m j=some y)(he:y.elem≠42):x.r≠j:=by
 intro e;have:=(o.row x aa ak).2;rw[e,a] at this;injection this with this;rw[this] at he;exact he rfl
def c2{h:aV}{i j x y}(aa:h.m i=some x)(a:h.m j=some y)(he:x.elem≠y.elem):i≠j:=by
 intro e;subst e;rw[aa] at a;injection a with a;exact he (by rw[a])
def BI(bv:List bG):Nat:=(bv.map λb=>b.ah.length).sum
def Yk{l:List Nat}{i v w}(h:l[i]?=some w):(l.set i v).sum+w=l.sum+v:=by
 induction l generalizing i with
 | nil=>simp at h
 | cons a l aP =>
  rcases i with _|i
  .simp[kC,dh] at h;subst h;simp[BZ,nP];omega
  .have:=aP lM;simp[I6,nP];omega
def ah1{bv i b c}(h:bv[i]?=some b):BI (bv.set i c)+b.ah.length=BI bv+c.ah.length:=by
 rw[BI,xu];exact Yk al8
def ah2{bv b}(h:b∈bv):b.ah.length<=BI bv:=by
 unfold BI;induction bv with
 | nil=>cases h
 | cons a l aP =>
  simp[gg,nP];rcases dI.1 h with e|e
  .subst e;omega
  .have:=aP e;omega
def countP_set{α:Type}{p}{l:List α}{i v w}(h:l[i]?=some w):(l.set i v).countP p+(if p w=true then 1 else 0)=l.countP p+(if p v=true then 1 else 0):=by
 induction l generalizing i with
 | nil=>simp at h
 | cons a l aP =>
  rcases i with _|i
  .simp[kC,dh] at h;subst h;simp[BZ,List.countP_cons];omega
  .have:=aP lM;simp[I6,List.countP_cons];omega
structure Ai(h:aV)(aL:Nat)(gb:List bG)(aR:Nat)(f:dp)(bj:Option Addr)(aW:Nat)(a8:Option Addr)(aT bn:Nat)(bv:List bG)(B:aV):Prop where
 bV:hY B aL bv
 fn:Iz B aR f bj aW a8 aT aL bn
 off:cT (mm aL gb) h B
 Dy:∀i,mm aL bv i->mm aL gb i\/h.n<=i
 len:bv.length=gb.length
 gV:im (bC bv)
 Tv:BI bv<=1000000
def Ai.up{h k a j f c e p g b bv B l}(m:Ai h k a j f c e p g b bv B)(d:∀i x,B.m i=some x->i<B.n)(o:cW B l):Ai h k a j f c e p g b bv l :=
 ⟨m.bV.up (o.up d),⟨o.up d _ _ m.fn.m,m.fn.rw⟩,m.off.dB o.off,m.Dy,m.len,m.gV,m.Tv⟩
def Xt n h:bc prog 9 ⟨[.int .i64 n]⟩ h (.agg ⟨[.int .i64 (-1),.int .i64 n]⟩) h:=by
 refine bc.jT func9 ntmps9 ?_;conv=>arg 2;whnf
 repeat(first|refine pw ?_|refine zn ?_|refine oq ?_|refine ov ?_)
 exact P5
def aBP{bl i k}:(me bl i k).length=bl.length:=by
 unfold me;split<;>simp
def XM{bl i k b o}(I:bl[i]?=some b)(aH:bl[k.toNat]?=some o):me bl i k=(bl.set i ⟨b.ah++o.ah,o.av⟩).set k.toNat ⟨[],qy⟩:=by
 rw[me,I,aH]
def apY{bl}(aS:im bl){i k b o}(I:bl[i]?=some b)(aH:bl[k.toNat]?=some o):im (me bl i k):=by
 rw[XM I aH];refine Zy (Zy aS (i:=i) (b:=⟨b.ah++o.ah,o.av⟩) (aS o (bQ aH))) λx aa=>?_;have aa:x∈([]:List Int):=aa;cases aa
def aMO{bl i k b o}(I:bl[i]?=some b)(aH:bl[k.toNat]?=some o)(c:k.toNat≠i)(aj:b.av.bp=1):Iw (me bl i k)+1=Iw bl:=by
 rw[XM I aH];unfold Iw;have J:=countP_set (p:=λb:bT=>decide (b.av.bp=1)) (v:=⟨b.ah++o.ah,o.av⟩) I;have d:=countP_set (p:=λb:bT=>decide (b.av.bp=1)) (l:=bl.set i ⟨b.ah++o.ah,o.av⟩) (v:=⟨[],qy⟩) (by rwa[fl,ai (λe=>c e.symm)]);simp[aj,decide_true,kB,(bo:decide (qy.bp=1)=false),nN,jE] at J d;omega
def KY{bv:List bG}{i off b}(I:bv[i]?=some b)(aH:off=i*9+1):cr off 8 (bv.map bG.c).flatten=kr b.av/\off+8<=(bv.map bG.c).flatten.length :=
 w7 I aH bo
def Dz{bv:List bG}{i off b}(I:bv[i]?=some b)(aH:off=i*9):cr off 9 (bv.map bG.c).flatten=kq b.s b.A b.k/\off+9<=(bv.map bG.c).flatten.length:=by
 have:=w7 (o:=0) (n:=9) I U bo;rw[Pn] at this;exact dm
def Bh{α sz r}{l:List α}(h:l≠[]):cD sz r l=.slice (some ⟨r,0,none⟩) l.length (dF sz):=by
 rcases l with _|⟨a,l⟩
 .exact absurd rfl h
 .rfl
def Fw(l:List lK):∀c∈l.map dK,c.length=12:=U1
def V3(l:List lK):(l.map dK).flatten.length=l.length*12:=by rw[yi (Fw l),fI]
def aMP(l:List lK):(l.map dK).flatten.all (·.oneCell')=true:=by
 rw[iB];intro v aE;have⟨c,aB,a⟩:=Ux.1 aE;obtain⟨x,_,rfl⟩:=ih.1 aB;unfold dK at a;have aM:(cD 2 x.2 x.1.args).oneCell'=true:=by cases x.1.args<;>rfl
 simp[dI,jP,j6] at a;rcases a with h|h|h|h|h|h|h|h|h|h|h|h<;>subst h<;>first|rfl|exact aM
def ah3(l:List lK):cr 0 (l.length*12) (l.map dK).flatten=(l.map dK).flatten:=by
 rw[<-V3];exact ahR _
def ajU{bv:List bG}{i off b b' v}(I:bv[i]?=some b)(aH:off=i*9)(aE:v=cD 12 b'.r b'.ah)(aS:b'.av=b.av):eB (bv.map bG.c).flatten off [v]=((bv.set i b').map bG.c).flatten:=by
 refine xD (o:=0) I U (dM rfl) ?_;unfold bG.c;rw[aS,aE];rfl
def aMQ{bv:List bG}{i off b v}(I:bv[i]?=some b)(aH:off=i*9)(aE:cD 12 b.r b.ah=v):(bv.map bG.c).flatten[off]?=some v :=
 vl (o:=0) I U bo (by rw[<-aE];rfl)
def aMR{h l G S f P Q V R O q B s}(w:Ai h l G S f P Q V R O q B)(D:∀i x,B.m i=some x->i<B.n){i g b o}(I:q[i]?=some b)(aH:q[g]?=some o)(Z:g≠i)a(L:s.m l=some ⟨⟨((q.set i ⟨b.ah++o.ah,a,b.av⟩).map bG.c).flatten⟩,48⟩)(ak:B.n<=s.n)(y:∀j,j<B.n->j≠l->(b.ah≠[]->o.ah≠[]->j≠b.r)->s.m j=B.m j)(M:b.ah++o.ah≠[]->df<=a/\s.m a=some ⟨⟨((b.ah++o.ah).map dK).flatten⟩,42⟩)(K:b.ah++o.ah≠[]->(o.ah=[]/\a=b.r)\/B.n<=a):
 hY s l (q.set i ⟨b.ah++o.ah,a,b.av⟩)/\cT (mm l G) h s/\(b.ah++o.ah≠[]->mm l q a\/h.n<=a):=by
 have v:=bQ I;have d:=w.bV;have Y:b.ah++o.ah≠[]->mm l q a\/h.n<=a:=by
  intro C;rcases K C with⟨J,E⟩|J
  .rw[J,l2] at C;exact .inl (.inr ⟨b,v,C,E.symm⟩)
  .exact .inr (bx w.off.1 J)
 refine⟨d.ah0 L (λj x aa he=>?_) (λj x aa A t=>?_) M (λx aa ak=>?_) (λj x aa A t k=>?_),?_,Y⟩
 .have J:=c2 aa d.m Qz;rw[y j (D _ _ aa) J λk _=>(c2 (d.row b v k).2 aa Qz).symm];exact aa
 .have z:=bQ aa;have u:=(d.row x z t).2;refine y x.r (D _ _ u) (c2 u d.m aF) λk _ e=>?_;exact A (d.c4 j i x b aa I t k e)
 .rcases ha.1 aa with J|J
  .exact d.arg b v x J ak
  .exact d.arg o (bQ aH) x J ak
 .have z:=bQ aa;have u:=(d.row x z t).2;rcases K k with⟨J,E⟩|J
  .intro e;have X:b.ah≠[]:=by
    intro W;apply k;show b.ah++o.ah=[];rw[J,W];rfl
   have e:x.r=a:=e;rw[E] at e;exact A (d.c4 j i x b aa I t X e)
  .have:=D _ _ u;show x.r≠a;omega
 .refine w.off.trans (T:=λj=>j=l\/(b.ah≠[]/\j=b.r)) ⟨ak,λj H F=>y j H (λe=>F (.inl e)) λk _ e=>F (.inr ⟨k,e⟩)⟩ λj H N=>?_;rcases N with e|⟨k,e⟩
  .exact .inl e
  .rcases w.Dy j (.inr ⟨b,v,k,e.symm⟩) with J|J
   .exact J
   .exact U
def hY.nn{h:aV}{a:Nat}{bv:List bG}(o:hY h a bv){A:Option Addr}{s s':dc}(aC:fR h A s):hY (nn h A s') a bv :=
 ⟨o.rw,LA aC o.m aF,λb I ak=>⟨(o.row b I ak).1,LA aC (o.row b I ak).2 aF⟩,λb I x aa ak=>⟨(o.arg b I x aa ak).1,LA aC (o.arg b I x aa ak).2 aF⟩,o.c4⟩
def apX:∀(l:List Int) (s:dc) (w:List Int),(pE s w l).1.length=s.length:=by
 intro l;induction l with
 | nil=>intro s w;rfl
 | cons k l a =>
  intro s w;unfold pE;split
  .exact a s w
  .rw[a,yV]
def aMS{bl}:∀(m:Nat) (s:dc) (w:List Int),(A5 bl m s w).length=s.length:=by
 intro m;induction m with
 | zero=>intro s w;rfl
 | succ m a =>
  intro s w;rcases w with _|⟨n,w⟩
  .rfl
  .rw[A5,a,apX]
def ah4 bl:(gW bl).length=(bl.length+63)/64:=by
 unfold gW;split
 .rename_i h;rw[h];rfl
 .rw[aMS,yV,QE];omega
def aMT h aL u aR f V aW a8 aT bn(qI:f.blocks.length=u.length)(hx:0<u.length)(dO:u.length<=100000)(je:hY h aL u)(n7:Iz h aR f V aW a8 aT aL bn)(rV:im (bC u))(YS:BI u<=1000000):
 dw prog 41 [.pointer (some ⟨aR,0,none⟩)] h (λ_ aw=>∃bv,Ai h aL u aR f V aW a8 aT bn bv aw/\bC bv=FN (bC u)):=by
 refine dw.i func41 ntmps41 λπ bF=>?_;conv=>arg 2;whnf
 have aq:=bF.aO;have bz:=n7.m;have gh:=aq _ _ bz;have tO:Ai h aL u aR f V aW a8 aT bn u h:=⟨je,n7,cT.refl _ _,λi ag=>.inl ag,rfl,rV,YS⟩;repeat(first|refine sO ?_|refine wG ?_|refine mc ?_)
 refine W.hz (X:=Nat×List bG) (λx=>[(0,cE aR),(10,bm (f.blocks.length:Int)),(11,bm (x.1:Int))])
  (λx B=>Ai h aL u aR f V aW a8 aT bn x.2 B/\x.1<=u.length/\sT u.length (u.length-x.1) (bC x.2)=FN (bC u)) (λx=>u.length-x.1)
  (λC a=>⟨(0,u),?_,⟨tO.up aq a.bk,aF,by show sT u.length u.length (bC u)=_;rw[FN,jF]⟩⟩) ?_
 .exact ca
 rintro⟨i,bv⟩ B π dd ⟨N,ag,gw⟩;dsimp only at N ag gw|-;have bz:=N.fn.m;have y1:=N.len;by_cases bs:i<u.length
 .have RA:b8 (i:Int):=Jk;have Tq:bC bv≠[]:=by
   intro e;have h0:(bC bv).length=0:=qH;rw[jF] at h0;omega
  have LD:(bC bv).length<=100000:=Jh;have hM:(gW (bC bv)).length<=1000000000:=by rw[ah4];omega
  obtain⟨m,hm⟩:∃m,u.length-i=m+1:=⟨u.length-i-1,U⟩;have wJ:u.length-(m+1)=i:=U;rw[hm,sT,wJ] at gw;have AB:u.length-(i+1)=m:=U;refine CI ?_;refine CJ ?_;refine zs ?_;refine ad0 ?_;apply W.seq;repeat(first|apply ad.gC;rfl;rfl;rfl;refine λdA bW=>⟨_,avU aR f.ae (cV aL) bn (bC bv) Tq LD N.gV dA ((N.fn.at N.bV (by rwa[N.len])).up bW.up),?_⟩;rintro v H1 fo ⟨qY,CA,rfl,nA,hy,BF⟩ gM re|refine fi ?_|refine gr ?_)
  have av5:=N.up dd.aO (bW.bk.trans hy);cases b5:cU (gW (bC bv)) (i:Int) with
  | false =>
   have oK:sT u.length m (bC bv)=FN (bC u):=by rw[<-gw];unfold x6;rw[ai (by rw[b5];simp)]
   apply W.seq;apply W.seq;repeat(first|refine aoD ?_|refine adP ?_|refine gr ?_)
   repeat'((first|(refine c7 ?_ ?_)<;>intro _)<;>repeat(first|refine pw ?_|refine jj ?_|refine lB ?_|(with_reducible first|apply W.block|apply W.exit|apply W.skip|apply fr|apply mC)|refine Eu ?_))
   .refine eK rfl λC a=>⟨(i+1,bv),ca,⟨av5.up gM.aO a.bk,U,by rwa[AB]⟩,?_⟩
    .show u.length-(i+1)<u.length-i;omega
   all_goals exact absurd ‹(!cU (gW (bC bv)) (i:Int))=false› VJ
  | true =>
   have oK:sT u.length m (uY i (Iw (bC bv)+1) (bC bv) (gW (bC bv)))=FN (bC u):=by rw[<-gw];rw[x6,au b5]
   apply W.seq;apply W.seq;repeat(first|refine aoD ?_|refine adP ?_|refine gr ?_)
   repeat'((first|(refine c7 ?_ ?_)<;>intro _)<;>repeat(first|refine pw ?_|refine jj ?_|refine lB ?_|(with_reducible first|apply W.block|apply W.exit|apply W.skip|apply fr|apply mC)|refine Eu ?_))
   .exact absurd ‹(!cU (gW (bC bv)) (i:Int))=true› VJ
   have av6:=λa aJ=>bx (bx N.off.1 bW.le) (BF a aJ);generalize nG:gW (bC bv)=oD at *;refine W.hz (X:=Nat×List bG×dc) (λx=>[(0,cE aR),(10,bm (f.blocks.length:Int)),(11,bm (i:Int)),(2,bm (i:Int)),(3,.slice qY oD.length CA)])
    (λx B=>Ai h aL u aR f V aW a8 aT bn x.2.1 B/\fR B qY x.2.2/\x.2.2.length=oD.length/\Iw (bC x.2.1)<x.1/\sT u.length m (uY i x.1 (bC x.2.1) x.2.2)=FN (bC u)) (λx=>x.1)
    (λC a=>⟨(Iw (bC bv)+1,bv,oD),?_,⟨av5.up gM.aO a.bk,fx nA a.up,rfl,dN _,oK⟩⟩) ?_
   .exact ca
   rintro⟨q,b0,r⟩ B2 fE rf ⟨M,Yq,Nl,aG,LF⟩;dsimp only at M Yq Nl aG LF|-;rw[<-Nl];obtain⟨Pp,rfl⟩:∃Pp,q=Pp+1:=⟨q-1,U⟩;have bz:=M.fn.m;have gh:=rf.aO _ _ bz;have eF:=M.bV.m;have te:=rf.aO _ _ eF;have xW:=M.len;have⟨b,I⟩:=cR b0 i U;rw[uY,vk I] at LF;have LF:sT u.length m (if b.av.bp≠1\/b.av.goto=i\/b.av.goto=0\/vU (bC b0) r b.av.goto≠1 then bC b0 else uY i Pp (me (bC b0) i b.av.goto) (o6 r b.av.goto))=FN (bC u):=LF;apply W.block;apply W.seq;repeat(first|refine er ?_|refine sO ?_|apply ad.hF;rfl;rfl;rfl;exact eF;exact te;exact(KY I U).2;exact(KY I U).1|refine nz ?_|refine EL ?_)
   refine W.hH λeW fj T=>?_;have wC:eW.m (fE 0)=bS (kr b.av) 46:=T.bJ 0 (dN 0);generalize fE 0=Bv at *;have aoT:=T.aO _ _ wC;have LG:=M.up rf.aO T.bk;have an3:=fx Yq T.up;have aAI:=LG.fn.at LG.bV (by rwa[LG.len]);have W4:(bC b0).length<=100000:=Jh;have an2:r.length<=1000000000:=by rw[Nl,<-nG,ah4,jF];omega
   by_cases aB:b.av.bp≠1\/b.av.goto=i\/b.av.goto=0\/vU (bC b0) r b.av.goto≠1
   .rw[au aB] at LF;apply W.seq;apply W.seq;repeat(first|refine adD ?_|refine n4 ?_|refine pv ?_|refine qU ?_)
    repeat'((first|(refine c7 ?_ ?_)<;>intro _)<;>repeat(first|refine an1 ?_|refine adD ?_|refine nz ?_|refine rR ?_|refine jj ?_|refine k7 ?_|refine hW ?_|refine ao4 ?_|refine fy ?_|refine Eu ?_|(with_reducible apply av3);rfl))
    rotate_left 4
    .exfalso;have ba:b.av.bp=1:=by simpa using ‹(b.av.bp != 1)=false›
     have iq:vU (bC b0) r b.av.goto=1:=by
      have:=‹(((vU (bC b0) r b.av.goto:Nat):Int) != 1)=false›;simp at this;omega
     omega
    all_goals
     refine eK rfl λC a=>⟨(i+1,b0),ca,⟨LG.up T.aO a.bk,U,by rwa[AB]⟩,?_⟩
     .show u.length-(i+1)<u.length-i;omega
   .rw[ai aB] at LF;simp[not_or,Decidable.not_not] at aB;have⟨qR,k6,H8,asM⟩:=aB;apply W.seq;apply W.seq;repeat(first|refine an1 ?_|refine adD ?_|refine n4 ?_|refine uL ?_|refine hL ?_|refine EK ?_|refine oR ?_)
    repeat'(first|(refine c7 ?_ ?_)<;>intro _)
    have wY:=M.gV b.s (bQ (vk I)) b.av.goto (by show _∈di b.av;rw[Mx qR];simp);rw[jF] at wY;obtain⟨g,bf⟩:∃g:Nat,b.av.goto=(g:Int):=⟨b.av.goto.toNat,U⟩;have G2:b.av.goto.toNat=g:=U;have HL:g≠i:=U;have⟨o,aH⟩:=cR b0 g U;have nB:=LG.fn.m;have Pq:=T.aO _ _ nB;have k4:=LG.bV.m;have ZB:=T.aO _ _ k4;apply W.seq;repeat(first|refine Xh ?_|(apply ad.dv;rfl;rfl;rfl;first|exact wC;exact aoT;rfl|exact nB;exact Pq;rfl)|apply ad.hF;rfl;rfl;rfl;exact k4;exact ZB;exact(Dz aH U).2;exact(Dz aH U).1|refine nz ?_|refine EL ?_)
    refine W.hH λG Q F=>?_;have ZC:G.m (fj 0)=bS (kq o.s o.A o.k) 48:=F.bJ 0 (dN 0);have ZD:eW.n<=fj 0:=F.bL 0 (dN 0);generalize fj 0=ZE at *;have aAB:=F.aO _ _ ZC;have E:=LG.up T.aO F.bk;have aMU:=fx an3 F.up;have av7:=F.up _ _ wC;have wN:=E.fn.m;have aAN:=F.aO _ _ wN;have Cy:=E.bV.m;have Ro:=F.aO _ _ Cy;have O:=bQ I;have vV:=bQ aH;have wq:=ah2 O;have E6:=ah2 vV;have aSV:=M.Tv;have av8:∀{x:bG},x∈b0->x.ah≠[]->x.r≠aL:=λaa ak=>E.bV.Zz aa ak Cy aF;have aMV:∀{x:bG},x∈b0->x.ah≠[]->x.r≠aR:=λaa ak=>E.bV.Zz aa ak wN aF;apply W.seq;refine W.KW (X:=Nat) (λ_=>[(0,cE aR),(10,bm (f.blocks.length:Int)),(11,bm (i:Int)),(2,bm (i:Int)),(3,.slice qY r.length CA),(4,cE Bv),(5,cE ZE)])
     (λL B=>hY B aL (b0.set i ⟨b.ah++o.ah,L,b.av⟩)/\B.m aR=bS (dj f V aW a8 aT (some ⟨aL,0,none⟩) bn) 53/\B.m Bv=bS (kr b.av) 46/\B.m ZE=bS (kq o.s o.A o.k) 48/\fR B qY r/\cT (mm aL u) h B/\(b.ah++o.ah≠[]->mm aL b0 L\/h.n<=L)) ?_ ?_
    .have ac0:G.m ZE=bS (cD 12 o.r o.ah::kr o.av) 48:=by rw[<-Pn] at ZC;exact ZC
     have aMW:∀{j:Nat}{x:cd},G.m j=some x->x.elem≠42->b.ah≠[]->j≠b.r:=λaa he ak=>(E.bV.Zz O ak aa he).symm;have bb:∀(L:Nat) (C:aV),C.m aL=bS (((b0.set i ⟨b.ah++o.ah,L,b.av⟩).map bG.c).flatten) 48->G.n<=C.n->(∀j,j<G.n->j≠aL->(b.ah≠[]->o.ah≠[]->j≠b.r)->C.m j=G.m j) ->
      (b.ah++o.ah≠[]->df<=L/\C.m L=bS (((b.ah++o.ah).map dK).flatten) 42)->(b.ah++o.ah≠[]->(o.ah=[]/\L=b.r)\/G.n<=L) ->
      hY C aL (b0.set i ⟨b.ah++o.ah,L,b.av⟩)/\C.m aR=bS (dj f V aW a8 aT (some ⟨aL,0,none⟩) bn) 53/\C.m Bv=bS (kr b.av) 46/\C.m ZE=bS (kq o.s o.A o.k) 48/\fR C qY r/\cT (mm aL u) h C/\(b.ah++o.ah≠[]->mm aL b0 L\/h.n<=L):=by
      intro L C zZ ak vX hv F0;have⟨g1,g2,g3⟩:=aMR E F.aO I aH HL L zZ ak vX hv F0;have Aj:∀{j:Nat}{x:cd},G.m j=some x->j≠aL->x.elem≠42->C.m j=some x:=λaa J he=>by
       rwa[vX _ (F.aO _ _ aa) J λiA _=>aMW aa he iA]
      refine⟨g1,Aj wN (c2 wN Cy aF) aF,Aj av7 (c2 av7 Cy aF) aF,Aj ZC (by have:=ZB;omega) aF,?_,g2,g3⟩;rcases aMU with _|⟨hm,aM⟩
      .exact .none
      .exact .some (Aj hm (c2 hm Cy aF) aF) aM
     have G7:∀{v:Value},cD 12 b.r b.ah=v->(b0.map bG.c).flatten[0+i*9+0]?=some v:=λaE=>aMQ I U aE;by_cases Ck:o.ah=[]
     .have ah5:cD 12 o.r o.ah=.slice none 0 0:=by rw[Ck];rfl
      rw[ah5] at ac0;by_cases lq:b.ah=[]
      .have vp:cD 12 b.r b.ah=.slice none 0 0:=by rw[lq];rfl
       obtain⟨fM,D⟩:∃fM:Nat,fM=0:=⟨0,rfl⟩;have xB:(Value.slice none 0 0)=cD 12 fM (b.ah++o.ah):=ab2;have LH:=Cy;have LI:=Ro;repeat(first|refine er ?_|refine Xb ?_|refine WW ?_|apply ad.KN;(iterate 5 rfl);kernel_rfl|apply ad.gi;rfl;rfl;rfl;exact LH;exact LI;exact E.bV.rw;(have:=(Dz I (off:=i*9) rfl).2;omega);rfl;rfl;exact U4|refine nz ?_|refine lB ?_)
       exact qw rfl λC a=>⟨fM,ca,bb fM C (a.up _ _ GJ) a.le (λj aA J _=>abb) (λak=>absurd ab2 ak) (λak=>absurd ab2 ak)⟩
      .have S:=(E.bV.row b O lq).2;have ah6:=(E.bV.row b O lq).1;have ah7:=F.aO _ _ S;have vp:=Bh (sz:=12) (r:=b.r) lq;obtain⟨fM,D⟩:∃fM:Nat,fM=b.r:=⟨_,rfl⟩;have xB:(Value.slice (some ⟨b.r,0,none⟩) b.ah.length (dF 12))=cD 12 fM (b.ah++o.ah):=by rw[D,Ck,l2,vp]
       have LH:=Cy;have LI:=Ro;repeat(first|refine er ?_|refine Xb ?_|refine WW ?_|apply ad.aMX;(iterate 5 rfl);exact S;exact ah7;exact ah6;exact IV (V3 _).symm|apply ad.gi;rfl;rfl;rfl;exact LH;exact LI;exact E.bV.rw;(have:=(Dz I (off:=i*9) rfl).2;omega);rfl;rfl;exact U4|refine nz ?_|refine lB ?_)
       refine qw rfl λC a=>⟨fM,ca,bb fM C (a.up _ _ GJ) a.le (λj aA J _=>abb) (λ_=>⟨by rwa[D],?_⟩) (λ_=>.inl ⟨Ck,D⟩)⟩
       .refine a.up _ _ ?_;show(if fM=aL then _ else G.m fM)=_;rw[ai (D▸av8 O lq),D,Ck,l2];exact S
     .have ah8:=(E.bV.row o vV Ck).2;have av9:=F.aO _ _ ah8;have aMY:=DV.2 Ck;have ah5:=Bh (sz:=12) (r:=o.r) Ck;rw[ah5] at ac0;by_cases lq:b.ah=[]
      .have vp:cD 12 b.r b.ah=.slice none 0 0:=by rw[lq];rfl
       obtain⟨fM,D⟩:∃fM:Nat,fM=Q 0:=⟨_,rfl⟩;have xB:(Value.slice (cV (Q 0)) o.ah.length (dF 12))=cD 12 fM (b.ah++o.ah):=by rw[D,lq,UC,Bh Ck]
       have LH:=Cy;have LI:=Ro;repeat(first|refine er ?_|refine Xb ?_|refine WW ?_|apply ad.Yg;(iterate 6 rfl);exact ah8;exact av9;exact amn;exact aMY;omega;omega;exact ah3 _|apply ad.gi;rfl;rfl;rfl;exact LH;exact LI;exact E.bV.rw;(have:=(Dz I (off:=i*9) rfl).2;omega);rfl;rfl;exact U4|refine nz ?_|refine lB ?_)
       refine qw rfl λC a=>?_;have hB:G.n<=Q 0:=a.bL 0 (dN 0);have y7:C.m (Q 0)=bS ((o.ah.map dK).flatten) 42:=a.bJ 0 (dN 0);exact⟨fM,ca,bb fM C (a.up _ _ GJ) a.le (λj aA J _=>abb) (λ_=>⟨D▸bx F.j9.rw hB,by rwa[D,lq,UC]⟩) (λ_=>.inr (by rwa[D]))⟩
      .have S:=(E.bV.row b O lq).2;have ah6:=(E.bV.row b O lq).1;have ah7:=F.aO _ _ S;have vp:=Bh (sz:=12) (r:=b.r) lq;have uV:=aMV O lq;obtain⟨fM,D⟩:∃fM:Nat,fM=Q 0:=⟨_,rfl⟩;have xB:(Value.slice (cV (Q 0)) (b.ah.length+o.ah.length) (dF 12))=cD 12 fM (b.ah++o.ah):=by rw[D,Bh (by simp[lq]),iM]
       have LH:(G.fB b.r).m aL=bS ((b0.map bG.c).flatten) 48:=by
        show(if aL=b.r then none else G.m aL)=_;rw[ai (λe=>av8 O lq e.symm)];exact Cy
       have LI:=Ro;repeat(first|refine er ?_|refine Xb ?_|refine WW ?_|apply ad.aMZ;(iterate 6 rfl);exact S;exact ah7;exact ah6;exact V3 _;exact ah8;exact av9;exact amn;(rw[ah3];exact aMP _);omega;omega|apply ad.ah9;exact mixed;(intro _;kernel_rfl);(intro _;exact aM0 (j:=b.r) (b:=aR) uV aka);rotate_left;rfl|apply ad.gi;rfl;rfl;rfl;exact LH;exact LI;exact E.bV.rw;(have:=(Dz I (off:=i*9) rfl).2;omega);rfl;rfl;exact U4|refine nz ?_|refine qU ?_)
       refine qw rfl λC a=>?_;have hB:G.n<=Q 0:=a.bL 0 (dN 0);have y7:C.m (Q 0)=bS ((b.ah.map dK).flatten++cr 0 (o.ah.length*12) (o.ah.map dK).flatten) 42:=a.bJ 0 (dN 0);refine⟨fM,ca,bb fM C (a.up _ _ GJ) a.le (λj aA J ab=>?_) (λ_=>⟨by rw[D];exact bx F.j9.rw hB,?_⟩) (λ_=>.inr (by rw[D];exact hB))⟩
       .rw[a.cx j aA];show(if j=aL then _ else(if j=b.r then none else G.m j))=_;rw[ai J,ai (ab lq Ck)]
       .rw[D,pW,ajB];rw[ah3] at y7;exact y7
    .intro fM R zL ZF aM1;obtain⟨oh,xZ,Pr,awa,aia,IA,aM2⟩:=aM1;have Z:=oh.m;have awb:=ZF.aO _ _ Z;have awc:=ZF.aO _ _ xZ;have awd:=ZF.aO _ _ Pr;have aM3:=ZF.aO _ _ awa;have lR:i<b0.length:=U;have oX:g<b0.length:=U;have hg:(b0.set i ⟨b.ah++o.ah,fM,b.av⟩)[i]?=some ⟨b.ah++o.ah,fM,b.av⟩:=ak6;apply W.seq;repeat(first|refine er ?_|apply ad.dv;rfl;rfl;rfl;exact xZ;exact awc;rfl|apply ad.hF;rfl;rfl;rfl;exact awa;exact aM3;exact iu;rfl|apply ad.gi;rfl;rfl;rfl;exact Z;exact awb;exact oh.rw;exact(KY hg U).2;rfl;rfl;exact xD (o:=1) (b':=⟨b.ah++o.ah,fM,o.av⟩) hg U (dM rfl) rfl|refine nz ?_|refine gr ?_)
     have Y:=oh.Db hg o.av;have yy:∀{j:Nat}{x:cd},R.m j=some x->x.elem≠48->(R.set aL ⟨⟨(((b0.set i ⟨b.ah++o.ah,fM,b.av⟩).set i ⟨b.ah++o.ah,fM,o.av⟩).map bG.c).flatten⟩,48⟩).m j=some x:=by
      intro j x aa he;show(if j=aL then _ else _)=_;rw[ai (c2 aa Z D1)];exact aa
     have Fl:=yy xZ aF;have awe:=yy Pr aF;have Ga:=Y.m;have Gb:((b0.set i ⟨b.ah++o.ah,fM,b.av⟩).set i ⟨b.ah++o.ah,fM,o.av⟩)[g]?=some o:=by
      rw[qF,fl,ai (λe=>HL e.symm)];exact aH
     apply W.seq;repeat(first|refine Xh ?_|(apply ad.dv;rfl;rfl;rfl;first|exact Fl;exact awc;rfl|exact awe;exact awd;rfl)|apply ad.wO;rfl;rfl;rfl;exact λH=>(Xt _ H);exact hS|apply ad.gi;rfl;rfl;rfl;exact Ga;exact awb;exact oh.rw;exact(Dz Gb U).2;rfl;rfl;exact xD (o:=0) (b':=⟨[],0,qy⟩) Gb U (dM rfl) rfl|refine nz ?_|refine oq ?_|refine gr ?_)
     have BH:∀{j:Nat}{x y:cd}{H:aV},H.m j=some x->x.elem≠48->H.m aL=some y->y.elem=48->∀z,(H.set aL z).m j=some x:=by
      intro j x y H aa he aN aM4 z;show(if j=aL then _ else _)=_;rw[ai (c2 aa aN (by rw[aM4];exact he))];exact aa
     have Da:=BH Fl aF Ga rfl;have aM5:=BH awe aF Ga rfl;have aM6:fR (R.set aL ⟨⟨(((b0.set i ⟨b.ah++o.ah,fM,b.av⟩).set i ⟨b.ah++o.ah,fM,o.av⟩).map bG.c).flatten⟩,48⟩) qY r:=by
      rcases aia with _|⟨hm,aM⟩
      .exact .none
      .exact .some (yy hm aF) aM
     have awf:∀z,fR ((R.set aL ⟨⟨(((b0.set i ⟨b.ah++o.ah,fM,b.av⟩).set i ⟨b.ah++o.ah,fM,o.av⟩).map bG.c).flatten⟩,48⟩).set aL z) qY r:=by
      intro z;rcases aM6 with _|⟨hm,aM⟩
      .exact .none
      .exact .some (BH hm aF Ga rfl z) aM
     have Ke:b8 b.av.goto:=Jk;repeat(first|apply ad.dv;rfl;rfl;rfl;exact aM5 _;exact awd;rfl|apply ad.gC;rfl;rfl;rfl;intro iN w4;refine⟨_,bc.ex (avJ r qY CA b.av.goto Ke an2 iN (fx (awf _) w4.up)),?_⟩;rintro v aSW Dd ⟨rfl,rfl⟩ aSX anw|refine c8 ?_|with_reducible apply rM)
     have SC:=Y.ah0 (i:=g) (b1:=⟨[],0,qy⟩) (H:=(R.set aL ⟨⟨(((b0.set i ⟨b.ah++o.ah,fM,b.av⟩).set i ⟨b.ah++o.ah,fM,o.av⟩).map bG.c).flatten⟩,48⟩).set aL ⟨⟨((((b0.set i ⟨b.ah++o.ah,fM,b.av⟩).set i ⟨b.ah++o.ah,fM,o.av⟩).set g ⟨[],0,qy⟩).map bG.c).flatten⟩,48⟩)
      GJ (λj x aa he=>BH aa Qz Ga rfl _) (λj x aa il jJ=>by
       have S:=(Y.row x (bQ aa) jJ).2;show(if x.r=aL then _ else _)=_;rw[ai (c2 S Ga aF)]) (λak=>absurd rfl ak) (λx aa=>by cases aa) (λj x aa il jJ iA=>absurd rfl iA)
     have ZG:=fx (awf ⟨⟨((((b0.set i ⟨b.ah++o.ah,fM,b.av⟩).set i ⟨b.ah++o.ah,fM,o.av⟩).set g ⟨[],0,qy⟩).map bG.c).flatten⟩,48⟩) w4.up;have aM7:=(SC.up w4.up).nn (s':=o6 r b.av.goto) ZG;have aM8:=LA (s':=o6 r b.av.goto) ZG (w4.up _ _ (Da ⟨⟨((((b0.set i ⟨b.ah++o.ah,fM,b.av⟩).set i ⟨b.ah++o.ah,fM,o.av⟩).set g ⟨[],0,qy⟩).map bG.c).flatten⟩,48⟩)) aF;have aM9:cT (mm aL u) h (nn iN qY (o6 r b.av.goto)):=by
      have jx:cT (mm aL u) R ((R.set aL ⟨⟨(((b0.set i ⟨b.ah++o.ah,fM,b.av⟩).set i ⟨b.ah++o.ah,fM,o.av⟩).map bG.c).flatten⟩,48⟩).set aL ⟨⟨((((b0.set i ⟨b.ah++o.ah,fM,b.av⟩).set i ⟨b.ah++o.ah,fM,o.av⟩).set g ⟨[],0,qy⟩).map bG.c).flatten⟩,48⟩):=by
       rw[aV.set_set];exact(cT.set R aL _).mono λj _ e=>.inl e
      refine((IA.dB jx).dB w4.bk.off).trans (Ix ZG) λj aA hT=>?_;have:=av6 _ hT;simp only at this;omega
     have Fj:bC (((b0.set i ⟨b.ah++o.ah,fM,b.av⟩).set i ⟨b.ah++o.ah,fM,o.av⟩).set g ⟨[],0,qy⟩)=me (bC b0) i b.av.goto:=by
      rw[XM (vk I) abK,G2,qF,P9,P9];simp[bG.s]
     refine eK rfl λC a=>⟨(Pp,((b0.set i ⟨b.ah++o.ah,fM,b.av⟩).set i ⟨b.ah++o.ah,fM,o.av⟩).set g ⟨[],0,qy⟩,o6 r b.av.goto),ca,⟨⟨aM7.up a.up,⟨a.up _ _ aM8,n7.rw⟩,aM9.dB a.bk.off,?_,jf,by rw[Fj];exact apY M.gV (vk I) abK,?_⟩,fx (Zs ZG (By _ _)) a.up,By _ _,?_,by rw[Fj];exact LF⟩,dN _⟩
     .rintro j (e|⟨x,aa,jJ,Bz⟩)
      .exact .inl (.inl e)
      .rw[qF] at aa;rcases mem_set aa with J|J
       .rcases mem_set J with ab|ab
        .exact M.Dy j (.inr ⟨x,ab,jJ,Bz⟩)
        .subst ab;rcases aM2 jJ with aK|aK
         .rw[<-Bz];exact M.Dy _ aK
         .exact .inr (by rw[<-Bz];exact aK)
       .subst J;exact absurd rfl jJ
     .have t1:=ah1 (c:=⟨b.ah++o.ah,fM,o.av⟩) I;have t2:=ah1 (bv:=b0.set i ⟨b.ah++o.ah,fM,o.av⟩) (i:=g) (b:=o) (c:=⟨[],0,qy⟩) (by rw[qF] at Gb;exact Gb);rw[qF];simp only[iM,vg] at t1 t2;show BI ((b0.set i ⟨b.ah++o.ah,fM,o.av⟩).set g ⟨[],0,qy⟩)<=1000000;omega
     .rw[Fj];have:=aMO (i:=i) (k:=b.av.goto) (vk I) abK (by rw[G2];exact HL) qR;show Iw (me (bC b0) i b.av.goto)<Pp;omega
 .have a7:u.length-i=0:=U;rw[a7,sT] at gw;repeat(first|refine nD ?_|refine Nf ?_|refine lC ?_)
  exact sx [] .nil (λC a=>⟨bv,N.up dd.aO a.bk,gw⟩)
end
end Go.Proofs.YtplleokmejppjaaGreatDoor
