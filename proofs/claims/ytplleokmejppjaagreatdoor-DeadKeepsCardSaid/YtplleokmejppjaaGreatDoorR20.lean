/- Contracts of functions that the law reaches -/
import Derived.Test.YtplleokmejppjaaGreatDoorR19
set_option linter.all false
set_option maxHeartbeats 9999999
set_option maxRecDepth 100000
namespace Go.Proofs.YtplleokmejppjaaGreatDoor
open Go.Proofs.Tryz
open Go.AH
section
attribute[local irreducible] W ad
def aED n:nd (ei (.agg ⟨[.int .i64 0,.int .i64 0]⟩)) n=kc (List.replicate n zw):=by
 induction n with
 | zero=>rfl
 | succ n a=>rw[nd,a,DY];rfl
def aEE n:nd (ei (.bool false)) n=(List.replicate n false).map .bool:=by
 induction n with
 | zero=>rfl
 | succ n a=>rw[nd,a,DY];rfl
def aEF n:List.replicate n (Value.slice none 0 0)=r7 (List.replicate n 0) (List.replicate n []):=by
 induction n with
 | zero=>rfl
 | succ n a=>rw[DY,DY,DY,r7,<-a];rfl
def aEG n i(h:i<n):(List.replicate i kK++List.replicate (n-i) zw).set i kK=List.replicate (i+1) kK++List.replicate (n-(i+1)) zw:=by
 apply kg;intro j;rw[fl];by_cases e:i=j
 .subst e;rw[au rfl,au jf,ur aF,Av,au U]
 .rw[ai e];by_cases J:j<i
  .rw[ur jf,ur jf,Av,Av,au J,au U]
  .rw[oI jf,oI jf,Av,Av,rz,rz];by_cases ab:j<n
   .rw[au U,au U]
   .rw[ai U,ai U]
def lI.set{h A l a}(s:lI h A l)(b:a.length=l.length):lI (zK h A a) A a:=by
 rcases s with _|⟨hm,aM⟩
 .have:a=[]:=mr.1 b;subst this;exact .none
 .exact .some akL aM
def aEH{h A l a N}(s:lI h A l)(b:∀x,A=Option.some x->N<=x.block):cT (λi=>N<=i) h (zK h A a):=by
 rcases s with _|⟨hm,aM⟩
 .exact .refl _ _
 .exact(cT.set h _ _).mono λj _ e=>e▸b _ rfl
def arB{h A l a}(s:lI h A l){i b}(I:h.m i=Option.some b)(he:b.elem≠134\/∀x,A=Option.some x->i≠x.block):(zK h A a).m i=Option.some b:=by
 rcases s with _|⟨hm,aM⟩
 .exact I
 .show(if i=_ then _ else h.m i)=_;rw[ai]
  .exact I
  .intro e;rcases he with he|he
   .exact c2 I hm he e
   .exact he _ rfl e
def jb.rI{h N q r g k f n s}(o:jb h N q r g k f n s){A l j}(aC:lI h A l)(u:∀x,A=some x->Bf f s.ah x.block):jb (zK h A j) N q r g k f n s:=by
 have aj:∀{i:Nat}{b:cd},h.m i=some b->b.elem≠134->(zK h A j).m i=some b:=λI he=>arB aC I (.inl he);refine⟨o.rw,o.AF,o.yS,o.C6,o.gs,o.pK,o.kF,aj o.ag aF,aj o.ak aF,λi a m J c d=>⟨(o.row i a m J c d).1,arB aC (o.row i a m J c d).2 (.inr λx aa e=>d (u x aa i m (by rwa[<-e]) c))⟩,o.c4,?_⟩
 .have⟨t,cap,J,c,d⟩:=o.iF;exact⟨t,cap,aj J aF,c.eT λi b I he=>aj I sv,d⟩
def afI{n r l}(b:l.length=r)(c:o1 l)(hw:yh l):∀(a:List Int) (s:pI),vG n r s->vK s->(∀k∈a,0<=k/\k<n)->vK (a.foldl (h8 l) s)/\tN r (a.foldl (h8 l) s)<=tN r s
 | [],s,_,g,_=>⟨g,b4 _⟩
 | k::a,s,w,g,aj=>by
  have⟨g1,e⟩:=afG w g b c hw (aj k aF).1 (aj k aF).2;have⟨f,_⟩:=aem w b (aj k aF).1 (aj k aF).2;have⟨g2,d⟩:=afI b c hw a (h8 l s k) f g1 λj aA=>aj j Ea;exact⟨g2,bx d e⟩
def afJ{B d a i N p j l k n s}(hu:∀i b,B.m i=some b->d.m i=some b)(o:jb B N a p j l k n s)(hw:N5 B a i):N5 d a i:=by
 have⟨q,cap,J,_⟩:=o.iF;intro f g e A n c el hm;rw[hu _ _ J,<-J] at hm;exact hw f g e A n c el hm
def arC{h H B N}(o:cW h H)(aH:cT (λi=>N<=i) H B)(a:h.n<=N):cW h B:=⟨bx o.1 aH.1,λi ag=>akn⟩
def afK{h B H}(o:cW h B)(aH:cT (λi=>h.n<=i) B H):cW h H:=(o.off.trans (S:=λi=>h.n<=i) aH λj _ e=>e).cx λj a e=>U
def aEI E(m:Nat) A c bl(hx:0<bl.length)(dO:bl.length<=100000)(hm:m<=1000000)(rV:im bl)(Bj:∀b∈bl,b.ah.length<=1000000)(zQ:∀b∈bl,∀x∈b.ah,x.ok/\x.dst<(m:Int)) h(ar:Bk h E (m:Int) A c bl):
 dw prog 66 [.pointer (some ⟨E,0,none⟩)] h (λv aw=>∃C L M cb s',v=.pointer (some ⟨C,0,none⟩)/\CS bl (u0 bl.length m) s'/\A6 bl m s'/\vK s'/\jb aw h.n C E L M cb bl.length s'/\cW h aw):=by
 refine dw.i func66 ntmps66 λπ bF=>?_;conv=>arg 2;whnf
 have aq:=bF.aO;obtain⟨dS,bz,aK,cz⟩:=ar.ar;have gh:=bF.aO _ _ bz;refine uU ?_;apply W.seq;repeat(first|refine J1 ?_|refine kJ ?_|refine gr ?_)
 apply W.seq;repeat(first|refine Hp ?_|(apply ad.M5;(iterate 6 rfl);first|omega;exact arD _;(intro u hu;rw[yD hu];exact amw _ _ _)|omega;exact aEE _;(intro u hu;obtain⟨_,_,rfl⟩:=ih.1 hu;simp))|(with_reducible first|apply ad.move|apply ad.assign|apply ad.box);iterate 3 rfl|refine oq ?_|refine gr ?_)
 apply W.seq;repeat(first|refine J1 ?_|refine qi ?_|refine gr ?_|apply ad.M5;(iterate 6 rfl);omega;exact aED _;exact aqV _)
 refine W.hH λds pD Q=>?_;have m0:ds.m (π 0)=bS (List.replicate bl.length (.slice none 0 0)) 132:=Q.bJ 0 (bo:(0:Nat)<4);have m1:ds.m (π 1)=bS ((List.replicate bl.length false).map .bool) 4:=Q.bJ 1 (bo:(1:Nat)<4);have m2:ds.m (π 2)=bS [.pointer (some ⟨E,0,none⟩),.slice (some ⟨π 0,0,none⟩) bl.length bl.length,.slice (some ⟨π 1,0,none⟩) bl.length bl.length,.slice none 0 0] 130:=Q.bJ 2 (bo:(2:Nat)<4);have m3:ds.m (π 3)=bS (kc (List.replicate m zw)) 134:=Q.bJ 3 (bo:(3:Nat)<4);have g0:h.n<=π 0:=Q.bL 0 (bo:(0:Nat)<4);have g1:h.n<=π 1:=Q.bL 1 (bo:(1:Nat)<4);have g2:h.n<=π 2:=Q.bL 2 (bo:(2:Nat)<4);have g3:h.n<=π 3:=Q.bL 3 (bo:(3:Nat)<4);generalize π 0=L at *;generalize π 1=M at *;generalize π 2=C at *;generalize π 3=q at *;have rP:=bF.rw;have arE:df<=q:=bx rP g3;rw[aEF] at m0;repeat(first|refine Hp ?_|refine EB ?_|refine mc ?_)
 refine W.hz (X:=Nat) (λi=>[(0,cE E),(4,cE C),(5,.slice (cV q) m m),(31,bm (m:Int)),(32,bm (i:Int))])
  (λi B=>i<=m/\cT (λj=>j=q) ds B/\B.m q=bS (kc (List.replicate i kK++List.replicate (m-i) zw)) 134) (λi=>m-i)
  (λaD x=>⟨0,?_,⟨dG _,x.bk.off,x.up _ _ m3⟩⟩) ?_
 .exact ca
 rintro i B fo dd ⟨ag,fw,j8⟩;have ze:=dd.aO _ _ j8;by_cases bs:i<m
 .have hle:0+i*2+2<=(kc (List.replicate i kK++List.replicate (m-i) zw)).length:=by rw[Js];simp;omega
  have kI:eB (kc (List.replicate i kK++List.replicate (m-i) zw)) (0+i*2) (lP kK)=kc (List.replicate (i+1) kK++List.replicate (m-(i+1)) zw):=by
   rw[R6 jf,aEG m i bs]
  repeat(first|refine Hp ?_|refine Nk ?_|refine uT ?_|refine oq ?_|refine kW ?_|apply ad.gi;rfl;rfl;rfl;exact j8;exact ze;exact arE;exact hle;rfl;rfl;exact kI)
  refine eK rfl λaD x=>⟨i+1,?_,⟨bs,(fw.trans (cT.set B q _) λj _ e=>e).dB x.bk.off,x.up _ _ akK⟩,U⟩;exact ca
 .have wJ:i=m:=U;subst wJ;rw[sr,List.replicate_zero,l2] at j8;have afL:∀{j:Nat}{x:cd},ds.m j=some x->x.elem≠134->B.m j=some x:=by
   intro j x aa he;rw[fw.2 j (Q.aO _ _ aa) (c2 aa m3 he)];exact aa
  have aEJ:cW h B:=⟨bx Q.bk.1 fw.1,λj aA=>by rw[fw.2 j (eQ aA Q.bk.1) U,Q.bk.2 j aA]⟩;have a7:∀(j:Nat) (l:List cX),(List.replicate bl.length ([]:List cX))[j]?=some l->l=[]:=λj l ao=>by
   rw[Av] at ao;split at ao
   .injection ao with ao;exact ao.symm
   .cases ao
  have mO:jb B h.n C E L M (List.replicate bl.length 0) bl.length ⟨List.replicate bl.length [],List.replicate bl.length false,[]⟩ :=
   ⟨rP,aF,aF,aF,g2,g0,g1,afL m0 aF,afL m1 aF,λi a l _ ao ak=>absurd (a7 i l ao) ak,λi j a l cp _ _ ao _ ak _=>absurd (a7 i l ao) ak,⟨none,0,afL m2 aF,.nil,λa aJ=>yU⟩⟩
  have HC:vG bl.length i ⟨List.replicate bl.length [],List.replicate bl.length false,[]⟩:=by
   refine⟨aF,aF,λk l _ aj=>?_,λk aj=>Jy⟩;have aj:(List.replicate bl.length false)[k]?=some true:=aj;rw[Av] at aj;split at aj<;>simp at aj
  have Yn:∀dA,fG (P:=prog) ⟨B,fo,0,[]⟩ dA->dw prog 87 [cE C,bm 0,.slice (cV q) i i] dA (λv aw=>v=.tuple #[]/\KK dA h.n C E L M (List.replicate bl.length 0) bl.length ⟨List.replicate bl.length [],List.replicate bl.length false,[]⟩ (u0 bl.length (i:Int)) aw):=λdA bW=>by
   have:=ard C E L M _ bl.length _ 0 (List.replicate i kK) (cV q) i h.n i U U dO Qt aF HC aF dA (mO.up bW.up) (.some (bW.up _ _ j8) arE) (λx aa j l lW zH=>a7 j l zH);rw[rz] at this;unfold u0;rw[ry];exact dm
  have tO:=RO hx (i:Int);rw[ry] at tO;have pM:vK ⟨List.replicate bl.length [],List.replicate bl.length false,[]⟩:=⟨λl ao=>UT,λl ao=>UT⟩;have oX:=afG HC pM (l:=List.replicate i kK) aF (λf ar=>by rw[yD ar];exact s4) (λf ar=>.inl (yD ar)) (k:=0) U U;have aEK:vK (u0 bl.length (i:Int)):=by unfold u0;rw[ry];exact oX.1
  have zh:tN i (u0 bl.length (i:Int))<=1000000000000:=by
   have J:tN i (u0 bl.length (i:Int))<=tN i ⟨List.replicate bl.length [],List.replicate bl.length false,[]⟩:=by unfold u0;rw[ry];exact oX.2
   have ab:=ari i (List.replicate bl.length []) (List.replicate bl.length false) (λl ao=>by rw[yD ao];exact dG _);rw[rz] at ab;have aK:bl.length*(i+1)<=100000*1000001:=Nat.mul_le_mul dO U;have br:tN i ⟨List.replicate bl.length [],List.replicate bl.length false,[]⟩=2*(w2 i (List.replicate bl.length []) (List.replicate bl.length false)).sum:=rfl;omega
  repeat(first|apply ad.gC;rfl;rfl;rfl;intro dA bW;refine⟨_,Yn dA bW,?_⟩;rintro v H1 fo ⟨rfl,aEL,jx,hy,aRE,aRF⟩ gM re|refine pw ?_|refine hL ?_|refine lB ?_|refine AV ?_|refine W3 ?_)
  refine W.hz (X:=pI×List Nat) (λ_=>[(0,cE E),(4,cE C)])
   (λx B=>jb B h.n C E L M x.2 bl.length x.1/\cW h B/\A6 bl i x.1/\vK x.1/\(∀s',CS bl x.1 s'->CS bl (u0 bl.length (i:Int)) s')/\tN i x.1<=1000000000000) (λx=>tN i x.1)
   (λaD x=>⟨(u0 bl.length (i:Int),aEL),?_,⟨jx.up x.up,?_,tO,aEK,λ_ h=>h,zh⟩⟩) ?_
  .exact ca
  .exact(afK (aEJ.trans bW.bk) hy).trans x.bk
  rintro⟨s,cb⟩ B2 fE rf ⟨eF,eC,S,Of,h4,aEM⟩;dsimp only at eF eC S Of h4 aEM|-;obtain⟨a8,Bi,cZ,sW,wM⟩:=eF.iF;have xX:=rf.aO _ _ cZ;cases R:s.eg with
  | nil =>
   rw[R,vg] at cZ;repeat(first|refine Ni ?_|refine kJ ?_|refine uS ?_)
   refine cf _ (dt rfl) λaD x=>⟨C,L,M,cb,s,rfl,h4 s (.stop R),S,Of,eF.up x.up,eC.trans x.bk⟩
  | cons k w =>
   rw[R,e5] at cZ;rw[R,Oa] at sW;have xW:w.length<=1000000000000:=by
    have:tN i s=2*(w2 i s.ah s.cm).sum+s.eg.length:=rfl;rw[R,e5] at this;omega
   obtain⟨r,t,rfl,nG,Yo,arF⟩:=Yp sW aF;have zj:=rf.aO _ _ nG;have e7:(qq w++[Value.int .i64 k]++t)[0+w.length*1]?=some (.int .i64 k):=by
    have:=uy w;rw[pX,oI U];simp
   have hle:w.length<=(qq w++[Value.int .i64 k]++t).length:=aF;have kH:Bi=dF 1\/(w.length<=Bi/\Bi<nw):=by
    rcases arF with aB|⟨aB,mJ⟩
    .exact .inl aB
    .exact .inr ⟨by simp at aB;omega,mJ⟩
   have Yq:df<=C:=bx eF.rw eF.gs;obtain⟨bK,bY,ra⟩:=S.eg k (by rw[R];simp);apply W.seq;apply W.seq;repeat(first|refine Ni ?_|refine wG ?_|refine iR ?_|refine lB ?_|(with_reducible first|apply W.block|apply W.skip|apply fr)|refine Wy ?_)
   apply W.seq;repeat(first|(apply ad.dv;rfl;rfl;rfl;first|exact cZ;exact xX;rfl|exact nG;exact zj;exact e7)|refine er ?_|refine kJ ?_|refine Ry ?_|refine gr ?_)
   apply W.seq;repeat(first|refine Ni ?_|apply ad.arG;(iterate 4 rfl);exact nG;exact zj;exact Yo;exact hle;exact kH|apply ad.gi;rfl;rfl;rfl;exact cZ;exact xX;exact Yq;exact iu;iterate 3 rfl|refine wG ?_|refine Ry ?_|refine gr ?_)
   refine W.hH λZ fj a3=>?_;have afM:Z.m C=bS [.pointer (some ⟨E,0,none⟩),.slice (some ⟨L,0,none⟩) bl.length bl.length,.slice (some ⟨M,0,none⟩) bl.length bl.length,.slice (some ⟨r,0,none⟩) w.length Bi] 130:=a3.up C _ (by show(if C=C then _ else _)=_;rw[au rfl];rfl);have arH:∀{j:Nat}{x:cd},B2.m j=some x->x.elem≠130->Z.m j=some x:=by
    intro j x aa he;refine a3.up j x ?_;show(if j=C then _ else B2.m j)=_;rw[ai (c2 aa cZ he)];exact aa
   have Yr:cW h Z:=by
    refine afK eC (((cT.set B2 C _).mono λj _ e=>?_).dB a3.bk.off);rw[e];exact eF.gs
   have gX:jb Z h.n C E L M cb bl.length ⟨s.ah,s.cm,w⟩:=eF.aqY (w:=w) (λj b I J ab=>arH I ab) ⟨cV r,Bi,afM,.row (t:=bm k::t) (by rw[arH nG aF];simp) Yo (by
    rcases arF with aB|⟨aB,mJ⟩
    .exact .inl aB
    .exact .inr ⟨by simp at aB|-;omega,mJ⟩),wM⟩
   have aAZ:k=(k.toNat:Int):=U;have Xn:k.toNat<bl.length:=U;obtain⟨l0,gD⟩:=cR s.ah k.toNat (by rw[S.ah];exact Xn);obtain⟨qt,zb⟩:=cR cb k.toNat (by rw[eF.AF];exact Xn);have KO:l0.length=i:=S.wid _ _ gD ra;have e1:=R7 zb gD;obtain⟨Ys,jX,afN,arI⟩:∃Ys jX,cD 2 qt l0=.slice Ys i jX/\(i≠0->Ys=cV qt):=by
    rw[jO,KO];exact⟨_,_,rfl,λak=>by rw[ai (λe=>ak (by rw[<-KO,e];rfl))]⟩
   rw[afN] at e1;have arJ:=gX.ag;have aEN:=a3.aO _ _ arJ;have RB:=a3.aO _ _ afM;have afO:∀B,fG (P:=prog) ⟨Z,fj,0,[]⟩ B->i≠0->∃b off cs a1,Ys=some ⟨b,off,none⟩/\B.m b=bS cs a1/\off+i*2<=cs.length/\cr off (i*2) cs=kc l0:=λB cF ak=>by
    have bM:l0≠[]:=λe=>ak (by rw[<-KO,e];rfl);have J:=(gX.row _ _ _ zb gD bM).2;refine⟨qt,0,kc l0,_,arI ak,cF.up _ _ J,by rw[Js,KO];omega,?_⟩;rw[hs,Mh,BY (by rw[Js,KO];exact xE)]
   apply W.seq;repeat(first|refine Hp ?_|(apply ad.dv;rfl;rfl;rfl;first|exact afM;exact RB;rfl|exact arJ;exact aEN;exact Xm e1)|refine adJ ?_|apply ad.Sb (vs:=kc l0);(iterate 6 rfl);exact afO;omega;omega;intro nK mw F Y KP Og afP arK arL arM aEO|refine qi ?_|refine gr ?_)
   have arN:cW Z KP:=mw.bk.trans ⟨arM,aEO⟩;have NY:=gX.up (arN.up a3.aO);have arO:=afP.aO;have aEP:lI KP F l0:=by
    by_cases ak:i=0
    .have:l0=[]:=mr.1 (KO.trans ak);rw[this,(arK ak).1];exact .none
    .obtain⟨Kg,ba,_,eh,iq⟩:=arL ak;rw[ba];exact .some iq (bx rP (bx Yr.1 (bx mw.le eh)))
   have afQ:∀x,F=some x->Z.n<=x.block:=λx aa=>by
    by_cases ak:i=0
    .rw[(arK ak).1] at aa;cases aa
    .obtain⟨Kg,ba,_,eh,_⟩:=arL ak;rw[ba] at aa;injection aa with aa;rw[<-aa];exact bx mw.le eh
   have arP:∀x,F=some x->Bf cb s.ah x.block:=λx aa j l J ab=>by
    rcases l with _|⟨f,l⟩
    .rfl
    .have:=a3.aO _ _ (gX.row j _ _ J ab aF).2;have:=afQ x aa;omega
   have aRG:∀x,F=some x->h.n<=x.block:=λx aa=>bx Yr.1 (afQ x aa);have afR:=Yr.trans arN;have aEQ:=ar.up (afR.up aq);obtain⟨aRH,Fl,_,aER⟩:=aEQ.ar;have afS:=arO _ _ Fl;obtain⟨b,I⟩:=cR bl k.toNat Xn;have dZ:=bQ I;obtain⟨fL,go,pB,ge,rfl,pM,n5,Bl,ci,rQ,nr⟩:=ar.gK.get _ b I;have cQ:=afR.up aq _ _ pM;have mD:=arO _ _ cQ;have jc:=Bj b dZ;repeat(first|refine Hp ?_|refine adJ ?_|(apply ad.dv;rfl;rfl;rfl;first|exact Fl;exact afS;exact aER|exact cQ;exact mD;exact ka (j:=0) rQ rfl)|refine wG ?_|refine mc ?_)
   refine W.hz (X:=Nat) (λj=>[(0,cE E),(4,cE C),(7,bm k),(8,.slice F i Y),(90,.slice Bl b.ah.length ci),(91,bm (b.ah.length:Int)),(92,bm (j:Int))])
    (λj B=>j<=b.ah.length/\jb B h.n C E L M cb bl.length ⟨s.ah,s.cm,w⟩/\cT (λj=>Z.n<=j) KP B/\lI B F ((b.ah.take j).foldl gz l0)) (λj=>b.ah.length-j)
    (λaD x=>⟨0,?_,⟨dG _,NY.up x.up,x.bk.off,aEP.up x.up⟩⟩) ?_
   .exact ca
   rintro j gL yf r8 ⟨aA,oZ,KQ,HV⟩;have Yt:cW h gL:=arC afR KQ Yr.1;have O:((b.ah.take j).foldl gz l0).length=i:=by rw[NG];exact KO
   have arQ:∀x∈b.ah,x.ok:=λx aa=>(zQ b dZ x aa).1;have Yu:o1 ((b.ah.take j).foldl gz l0):=R9 _ _ (Of.jB _ (bQ gD)) λx aa=>arQ x (GA aa);by_cases hb:j<b.ah.length
   .obtain⟨x,aa⟩:=cR b.ah j hb;have qu:=bQ aa;obtain⟨bN,cq,c1,eH,rfl,qZ,gq,arR,ae5,eP,_⟩:=nr.get j x aa;have cc:=Yt.up aq _ _ qZ;have dW:=r8.aO _ _ cc;have C8:∀G:aV,(∀i b,gL.m i=some b->G.m i=some b)->dw prog 88 [.slice F i Y,.agg ⟨cL x arR ae5⟩] G (λv aw=>v=.tuple #[]/\aw=zK G F (gz ((b.ah.take j).foldl gz l0) x)):=λG hu=>by
     have:=aEo _ F Y x arR ae5 (by rw[O];omega) Yu (arQ x qu) (by rw[O];exact(zQ b dZ x qu).2) G (HV.up hu);rw[O] at this;exact this.ex
    repeat(first|refine Hp ?_|refine er ?_|refine Rq ?_|apply ad.gC;rfl;rfl;rfl;intro G V;refine⟨_,C8 G V.up,?_⟩;rintro v afT C9 ⟨rfl,rfl⟩ Sc arS|refine pw ?_|refine la ?_|refine AX ?_)
    have Sd:=HV.up V.up;have uZ:(b.ah.take (j+1)).foldl gz l0=gz ((b.ah.take j).foldl gz l0) x:=by
     rw[Aw,aa,I8];rfl
    refine eK rfl λaD y=>⟨j+1,ca,⟨hb,((oZ.up V.up).rI Sd arP).up y.up,((KQ.dB V.bk.off).dB (aEH Sd afQ)).dB y.bk.off,?_⟩,U⟩
    .rw[uZ];exact(Sd.set (RM _ _)).up y.up
   .have vL:j=b.ah.length:=U;subst vL;rw[mv] at HV O Yu;obtain⟨D,hB⟩:=ld (b.ah.foldl gz l0);rw[hB] at HV O Yu;have aES:yh D:=by rw[<-hB];exact afD _ _ (Of.wf _ (bQ gD))
    have arT:=Yt.up aq _ _ pM;have aET:=r8.aO _ _ arT;have Da:=Yt.up aq _ _ bz;have aEU:=r8.aO _ _ Da;have lz:cr (go+k.toNat*9+1) 8 pB=kr b.av:=afU (n:=8) rQ bo;have aEV:go+k.toNat*9+1+8<=pB.length:=U;obtain⟨c3,HW⟩:=ld (jV b.av D);have lQ:∀G:aV,(∀i b,gL.m i=some b->G.m i=some b)->dw prog 71 [.agg ⟨kr b.av⟩,.slice F i Y] G (λv aw=>∃dz ea,v=.slice dz c3.length ea/\Be aw dz c3/\cW G aw/\∀a,dz=some a->G.n<=a.block):=λG hu=>by
     have:=aqX b.av D F Y (by rw[O];omega) G (HV.up hu);rw[O,HW] at this;exact dm
    have aRI:c3.length<=2:=by
     rw[<-HW];unfold jV di;repeat' split
     all_goals simp
    have kG:∀o∈c3,0<=o/\o<bl.length:=λo aH=>rV b dZ o (NH o (by rw[HW];exact aH));have dJ:vG bl.length i ⟨s.ah,s.cm,w⟩:=⟨S.ah,S.cm,S.wid,λj aA=>S.eg j (by rw[R];simp[aA])⟩;have aEW:vK ⟨s.ah,s.cm,w⟩:=⟨Of.jB,Of.wf⟩;have aRJ:=aEt (r:=i) R;repeat(first|refine Hp ?_|refine adJ ?_|apply ad.dv;rfl;rfl;rfl;exact Da;exact aEU;exact cz|apply ad.hF;rfl;rfl;rfl;exact arT;exact aET;exact aEV;exact lz|apply ad.gC;rfl;rfl;rfl;intro G V;refine⟨_,lQ G V.up,?_⟩;rintro v afT C9 ⟨qG,sw,rfl,lR,afV,aEX⟩ Sc arS|refine wG ?_|refine nD ?_|refine W3 ?_|refine lC ?_)
    have Fm:cW gL afT:=V.bk.trans afV;have ja:=(oZ.up (Fm.up r8.aO));refine W.hz (X:=Nat×List Nat) (λx=>[(0,cE E),(4,cE C),(8,.slice F i Y),(109,.slice qG c3.length sw),(110,bm (c3.length:Int)),(111,bm (x.1:Int))])
     (λx B=>x.1<=c3.length/\jb B h.n C E L M x.2 bl.length ((c3.take x.1).foldl (h8 D) ⟨s.ah,s.cm,w⟩)/\cW h B/\lI B F D/\(∀z,F=some z->Bf x.2 ((c3.take x.1).foldl (h8 D) ⟨s.ah,s.cm,w⟩).ah z.block)/\Be B qG c3/\∀a,qG=some a->N5 B C a.block) (λx=>c3.length-x.1)
     (λaD y=>⟨(0,cb),?_,⟨dG _,ja.up y.up,(Yt.trans Fm).trans y.bk,(HV.up (Fm.up r8.aO)).up y.up,arP,lR.up y.up,λa aJ f g e A n c el hm c5=>?_⟩⟩) ?_
    .exact ca
    .obtain⟨zg,aRK,aEY,aEZ,_⟩:=oZ.iF;have J:=y.up _ _ (Fm.up r8.aO _ _ aEY);rw[J] at hm;injection hm with hm;injection hm with hm _;injection hm with hm;simp only[IX,Value.slice.injEq] at hm;have Oh:zg=A:=hm.2.2.2.1.1;rw[<-Oh] at c5;subst c5;cases aEZ with
     | row aE0 _ _ =>
      have:=r8.aO _ _ aE0;have ab:=aEX a aJ;have aK:=V.le;dsimp only at aK;omega
    rintro⟨j,afW⟩ Fo arU aE1 ⟨aA,Fp,afX,Yv,Yw,arV,afY⟩;dsimp only at aA Fp afX Yv Yw arV afY|-;obtain⟨arW,aRL,_⟩:=aen (l:=D) O (c3.take j) _ dJ λo aH=>kG o (GA aH);obtain⟨g10,l10⟩:=afI (l:=D) O Yu aES (c3.take j) _ dJ aEW λo aH=>kG o (GA aH);by_cases hb:j<c3.length
    .obtain⟨o,aH⟩:=cR c3 j hb;obtain⟨jQ,hy⟩:=kG o (bQ aH);obtain⟨nh,aE2,cj⟩:∃nh,qG=cV nh/\Fo.m nh=bS (c3.map (.int .i64)) 3:=by
      rcases arV with e|e
      .rw[e] at hb;exact Qe
      .exact e
     subst aE2;have afZ:=aE1.aO _ _ cj;have aE3:(c3.map (Value.int .i64))[0+j*1]?=some (bm o):=Xm (by rw[gf,aH];rfl);have aE4:((c3.take j).foldl (h8 D) ⟨s.ah,s.cm,w⟩).eg.length<=1000000000000:=by
      have J:tN i ((c3.take j).foldl (h8 D) ⟨s.ah,s.cm,w⟩)=2*(w2 i ((c3.take j).foldl (h8 D) ⟨s.ah,s.cm,w⟩).ah ((c3.take j).foldl (h8 D) ⟨s.ah,s.cm,w⟩).cm).sum+((c3.take j).foldl (h8 D) ⟨s.ah,s.cm,w⟩).eg.length:=rfl;omega
     have aE5:∀Fq:aV,(∀i b,Fo.m i=some b->Fq.m i=some b)->dw prog 87 [cE C,bm o,.slice F i Y] Fq (λv aw=>v=.tuple #[]/\KK Fq h.n C E L M afW bl.length ((c3.take j).foldl (h8 D) ⟨s.ah,s.cm,w⟩) (h8 D ((c3.take j).foldl (h8 D) ⟨s.ah,s.cm,w⟩) o) aw):=λFq hu=>by
      have:=ard C E L M afW bl.length _ o D F Y h.n i jQ hy dO (by rw[O];exact hm) aE4 arW O Fq (Fp.up hu) (Yv.up hu) Yw;rw[O] at this;exact dm
     have uZ:(c3.take (j+1)).foldl (h8 D) ⟨s.ah,s.cm,w⟩=h8 D ((c3.take j).foldl (h8 D) ⟨s.ah,s.cm,w⟩) o:=by
      rw[Aw,aH,I8];rfl
     repeat(first|refine Hp ?_|refine er ?_|apply ad.dv;rfl;rfl;rfl;exact cj;exact afZ;exact aE3|apply ad.gC;rfl;rfl;rfl;intro Fq T;refine⟨_,aE5 Fq T.up,?_⟩;rintro v aRM aE6 ⟨rfl,aE7,Se,aE8,arX,arY⟩ aRN aRO|refine uT ?_|refine kW ?_)
     refine eK rfl λaD y=>⟨(j+1,aE7),ca,⟨hb,by dsimp only;rw[uZ];exact Se.up y.up,(afK (afX.trans T.bk) aE8).trans y.bk,?_,λz a7=>?_,.inr ⟨nh,rfl,y.up _ _ (arY nh _ (T.up _ _ cj) rfl (afJ T.up Fp (afY _ rfl))).1⟩,λa aJ=>?_⟩,hR⟩
     .have J:=Yv.up T.up;rcases J with _|⟨mA,fq⟩
      .exact .none
      .exact .some (y.up _ _ (arX _ _ mA rfl (Yw _ rfl)).1) fq
     .dsimp only;rw[uZ];have J:=Yv.up T.up;rcases J with _|⟨mA,fq⟩
      .cases a7
      .injection a7 with a7;subst a7;exact(arX _ _ mA rfl (Yw _ rfl)).2
     .injection aJ with aJ;subst aJ;exact afJ y.up Se (arY nh _ (T.up _ _ cj) rfl (afJ T.up Fp (afY _ rfl))).2
    .have vL:j=c3.length:=U;subst vL;rw[mv] at Fp arW g10 l10;have aE9:Hz bl ⟨s.ah,s.cm,w⟩ k=c3.foldl (h8 D) ⟨s.ah,s.cm,w⟩:=by
      have aH:rY bl ⟨s.ah,s.cm,w⟩ k=D:=by unfold rY;rw[I];dsimp only;rw[gD];exact hB
      unfold Hz;rw[I];dsimp only;rw[aH,HW]
     rw[<-aE9] at Fp g10 l10;repeat(first|refine nD ?_|refine EM ?_)
     refine eK rfl λaD y=>⟨(Hz bl ⟨s.ah,s.cm,w⟩ k,afW),?_,⟨Fp.up y.up,afX.trans y.bk,aeo rV S R,g10,λs' uC=>h4 s' (.go R uC),hR⟩,hR⟩;exact ca
end
section
def ia{α:Type}(a b:List α)(k:Nat):List α:=a.take k++b.drop k
def Oi{α}(a b:List α):ia a b 0=b:=by simp[ia]
def Oj{α}{a b:List α}(h:a.length=b.length):ia a b b.length=a:=by
 rw[ia,<-h,mv,h,I9,l2]
def Jt{α}{a b:List α}(h:a.length=b.length)k:(ia a b k).length=b.length:=by
 unfold ia;simp;omega
def af0{α}{a b:List α}(h:a.length=b.length)k i:(ia a b k)[i]?=if i<k then a[i]? else b[i]?:=by
 unfold ia;by_cases aj:k<=a.length
 .by_cases ag:i<k
  .rw[au ag,ur jf,tl,au ag]
  .rw[ai ag,oI jf,xq];congr 1;simp;omega
 .rw[BY U,np U,l2];split
  .rfl
  .rw[tj.2 U,tj.2 U]
def VG{α}{a b:List α}(h:a.length=b.length)k:(ia a b k)[k]?=b[k]?:=by rw[af0 h,ai (Nat.lt_irrefl _)]
def KR{α a b}(h:a.length=b.length){k}{x:α}(aa:a[k]?=some x):(ia a b k).set k x=ia a b (k+1):=by
 have aj:=(cS.1 aa).1;apply kg;intro i;rw[fl,Jt h,af0 h,af0 h];by_cases e:k=i
 .subst e;rw[au rfl,au U,au U,aa]
 .rw[ai e];by_cases J:i<k
  .rw[au J,au U]
  .rw[ai J,ai U]
structure oB(h:aV)(N aL:Nat)(bv:List bG):Prop where
 rw:df<=N
 ge:N<=aL
 m:h.m aL=some ⟨⟨(bv.map bG.c).flatten⟩,48⟩
 row:∀b∈bv,b.ah≠[]->N<=b.r/\h.m b.r=some ⟨⟨(b.ah.map dK).flatten⟩,42⟩
 arg:∀b∈bv,∀x∈b.ah,x.1.args≠[]->N<=x.2/\h.m x.2=some ⟨⟨fN x.1.args⟩,38⟩
 c4:∀(i j:Nat) (x y:bG),bv[i]?=some x->bv[j]?=some y->x.ah≠[]->y.ah≠[]->x.r=y.r->i=j
 zT:∀(i j k m:Nat) (x y:bG) (u v:lK),bv[i]?=some x->bv[j]?=some y->x.ah[k]?=some u->y.ah[m]?=some v->u.1.args≠[]->v.1.args≠[]->u.2=v.2->i=j/\k=m
def yj.arZ{h N aL bv}(o:yj h N bv)(g:df<=N)(I:N<=aL)(hm:h.m aL=some ⟨⟨(bv.map bG.c).flatten⟩,48⟩):oB h N aL bv:=by
 refine⟨g,I,hm,o.row,o.arg,(o.fC g (bx g I) hm).c4,?_⟩;have⟨q,p⟩:=List.pairwise_flatMap.1 o.zT;have l:∀(i j k m:Nat) (x y:bG) (u v:lK),i<j->bv[i]?=some x->bv[j]?=some y->x.ah[k]?=some u->y.ah[m]?=some v->u.1.args≠[]->v.1.args≠[]->u.2<v.2:=by
  intro i j k m x y u v r aa b hu aE J a;have⟨ag,s⟩:=cS.1 aa;have⟨t,w⟩:=cS.1 b;have:=UD.1 p i j ag t r;rw[s,w] at this;exact this u (bQ hu) v (bQ aE) J a
 have e:∀(k m:Nat) (x:bG) (u v:lK),x∈bv->k<m->x.ah[k]?=some u->x.ah[m]?=some v->u.1.args≠[]->v.1.args≠[]->u.2<v.2:=by
  intro k m x u v aa n hu aE J a;have⟨aj,A⟩:=cS.1 hu;have⟨hm,z⟩:=cS.1 aE;have:=UD.1 (q x aa) k m aj hm n;rw[A,z] at this;exact this J a
 intro i j k m x y u v aa b hu aE J a he;rcases PV i j with f|f|f
 .have:=l i j k m x y u v f aa b hu aE J a;omega
 .subst f;rw[aa] at b;cases b;rcases PV k m with d|d|d
  .have:=e k m x u v (bQ aa) d hu aE J a;omega
  .exact⟨rfl,d⟩
  .have:=e m k x v u (bQ aa) d aE hu a J;omega
 .have:=l j i m k y x v u f b aa aE hu a J;omega
section
variable{h H:aV}{N aL:Nat}{bv:List bG}
def oB.fC(o:oB h N aL bv):hY h aL bv :=
 ⟨bx o.rw o.ge,o.m,λb I ak=>⟨bx o.rw (o.row b I ak).1,(o.row b I ak).2⟩,λb I x aa ak=>⟨bx o.rw (o.arg b I x aa ak).1,(o.arg b I x aa ak).2⟩,o.c4⟩
def oB.up(o:oB h N aL bv)(hu:∀i b,h.m i=some b->H.m i=some b):oB H N aL bv :=
 ⟨o.rw,o.ge,hu _ _ o.m,λb I ak=>⟨(o.row b I ak).1,hu _ _ (o.row b I ak).2⟩,λb I x aa ak=>⟨(o.arg b I x aa ak).1,hu _ _ (o.arg b I x aa ak).2⟩,o.c4,o.zT⟩
def oB.eT(o:oB h N aL bv)(hu:∀i b,h.m i=some b->b.elem=48\/b.elem=42\/b.elem=38->H.m i=some b):oB H N aL bv :=
 ⟨o.rw,o.ge,hu _ _ o.m (.inl rfl),λb I ak=>⟨(o.row b I ak).1,hu _ _ (o.row b I ak).2 (.inr (.inl rfl))⟩,λb I x aa ak=>⟨(o.arg b I x aa ak).1,hu _ _ (o.arg b I x aa ak).2 (.inr (.inr rfl))⟩,o.c4,o.zT⟩
def oB.Db(o:oB h N aL bv){i b}(I:bv[i]?=some b)t(hm:H.m aL=some ⟨⟨((bv.set i {b with av:=t}).map bG.c).flatten⟩,48⟩)(aj:∀j x,h.m j=some x->x.elem≠48->H.m j=some x):
 oB H N aL (bv.set i {b with av:=t}):=by
 have f:=bQ I;have g:∀{j:Nat}{x:bG},(bv.set i {b with av:=t})[j]?=some x->∃x',bv[j]?=some x'/\x'.ah=x.ah/\x'.r=x.r:=by
  intro j x aa;rcases zM aa with⟨w,n⟩|⟨_,n⟩
  .subst w;subst n;exact⟨b,I,rfl,rfl⟩
  .exact⟨x,n,rfl,rfl⟩
 refine⟨o.rw,o.ge,hm,λx aa ak=>?_,λx aa y d ak=>?_,λj k x y aa d A z he=>?_,λp j k m x y u v aa d hu aE J ab he=>?_⟩
 .rcases mem_set aa with J|J
  .exact⟨(o.row x J ak).1,aj _ _ (o.row x J ak).2 aF⟩
  .subst J;exact⟨(o.row b f ak).1,aj _ _ (o.row b f ak).2 aF⟩
 .rcases mem_set aa with J|J
  .exact⟨(o.arg x J y d ak).1,aj _ _ (o.arg x J y d ak).2 aF⟩
  .subst J;exact⟨(o.arg b f y d ak).1,aj _ _ (o.arg b f y d ak).2 aF⟩
 .have⟨x',J,ab,aK⟩:=g aa;have⟨VE,g1,g2,g3⟩:=g d;exact akC
 .have⟨x',s,q,B⟩:=g aa;have⟨VE,g1,g2,g3⟩:=g d;exact o.zT p j k m x' VE u v s g1 (by rwa[q]) (by rwa[g2]) J ab he
def aFa(b:bG)k y:bG.c {b with ah:=b.ah.set k y}=b.c:=by
 unfold bG.c;rw[jO,jO];simp
def aFb{bv:List bG}{i k b}(I:bv[i]?=some b)y:(bv.set i {b with ah:=b.ah.set k y}).map bG.c=bv.map bG.c:=by
 rw[xu,aFa];exact tv (Yy I)
def oB.Yz(o:oB h N aL bv){i k b x}(I:bv[i]?=some b)(aa:b.ah[k]?=some x)y(M:y.args≠[]->x.1.args≠[])(S:H.m b.r=some ⟨⟨((b.ah.set k (y,x.2)).map dK).flatten⟩,42⟩)(V:y.args≠[]->H.m x.2=some ⟨⟨fN y.args⟩,38⟩)(aj:∀j z,h.m j=some z->z.elem=48\/z.elem=42\/z.elem=38->j≠b.r->(x.1.args≠[]->j≠x.2)->H.m j=some z):oB H N aL (bv.set i {b with ah:=b.ah.set k (y,x.2)}):=by
 have D:=bQ I;have C:b.ah≠[]:=amk;have L:=bQ aa;have aM:=(o.row b D C).2;have O:=λak=>(o.arg b D x L ak).2;have B:∀{j:Nat}{z:bG},(bv.set i {b with ah:=b.ah.set k (y,x.2)})[j]?=some z->∃a,bv[j]?=some a/\a.r=z.r/\(z.ah≠[]->a.ah≠[])/\((j=i/\z={b with ah:=b.ah.set k (y,x.2)})\/(j≠i/\z=a)):=by
  intro j z f;rcases zM f with⟨d,c⟩|⟨d,c⟩
  .subst d;subst c;exact⟨b,I,rfl,λ_=>C,.inl ⟨rfl,rfl⟩⟩
  .exact⟨z,c,rfl,id,.inr ⟨d,rfl⟩⟩
 have s:∀{j m:Nat}{z:bG}{u:lK},(bv.set i {b with ah:=b.ah.set k (y,x.2)})[j]?=some z->z.ah[m]?=some u->u.1.args≠[]->∃a g,bv[j]?=some a/\a.ah[m]?=some g/\g.2=u.2/\g.1.args≠[]/\((j=i/\m=k/\u=(y,x.2))\/(¬(j=i/\m=k)/\u=g)):=by
  intro j m z u f hu ak;have⟨a,J,_,_,A⟩:=B f;rcases A with⟨d,c⟩|⟨d,c⟩
  .subst d;subst c;rcases zM hu with⟨f1,f2⟩|⟨f1,f2⟩
   .subst f1;subst f2;exact⟨b,x,I,aa,rfl,M ak,.inl ⟨rfl,rfl,rfl⟩⟩
   .exact⟨b,u,I,f2,rfl,ak,.inr ⟨λe=>f1 e.2,rfl⟩⟩
  .subst c;exact⟨z,u,J,hu,rfl,ak,.inr ⟨λe=>d e.1,rfl⟩⟩
 refine⟨o.rw,o.ge,?_,λz f ak=>?_,λz f u hu ak=>?_,λj p z w f hw P U he=>?_,λj p m q z w u v f hw hu aE J t he=>?_⟩
 .rw[aFb I];refine aj _ _ o.m (.inl rfl) (c2 o.m aM aF) λak=>c2 o.m (O ak) aF
 .have⟨j,F⟩:=nO.1 f;have⟨a,J,t,E,A⟩:=B F;rcases A with⟨d,c⟩|⟨d,c⟩
  .subst c;exact⟨(o.row b D C).1,S⟩
  .subst c;have G:=o.row z (bQ J) ak;exact⟨G.1,aj _ _ G.2 (.inr (.inl rfl)) (λe=>d (o.c4 j i z b J I ak C e)) λK=>c2 G.2 (O K) aF⟩
 .have⟨j,F⟩:=nO.1 f;have⟨m,hm⟩:=nO.1 hu;have⟨a,g,J,t,E,A,T⟩:=s F hm ak;have n:=o.arg a (bQ J) g (bQ t) A;rcases T with⟨_,_,e⟩|⟨d,c⟩
  .subst e;exact⟨(o.arg b D x L (M ak)).1,V ak⟩
  .subst c;exact⟨n.1,aj _ _ n.2 (.inr (.inr rfl)) (c2 n.2 aM aF) λK e=>d (o.zT j i m k a b u x J I t aa ak K e)⟩
 .have⟨a,J,t,E,_⟩:=B f;have⟨w',g1,g2,g3,_⟩:=B hw;exact o.c4 j p a w' J g1 (E P) (g3 U) (by rwa[t,g2])
 .have⟨a,g,d,c,R,Q,_⟩:=s f hu J;have⟨w',W,f1,f2,f3,f4,_⟩:=s hw aE t;exact o.zT j p m q a w' g W d f1 c f2 Q f4 (by rwa[R,f3])
end
def vM:List cX->List lK->List lK
 | _,[]=>[]
 | l,x::xs=>(oU l x.1,x.2)::vM (gz l x.1) xs
def af3:∀(xs:List lK) (l:List cX),(vM l xs).length=xs.length
 | [],_=>rfl
 | _::xs,l=>by simp[vM,af3 xs]
def ar1:∀(xs:List lK) (l:List cX),(vM l xs).map (·.1)=zx l (xs.map (·.1))
 | [],_=>rfl
 | x::xs,l=>by simp[vM,zx,ar1 xs]
def ar2:∀{xs:List lK}{l:List cX}{k:Nat}{x:lK},xs[k]?=some x->(vM l xs)[k]?=some (oU (((xs.take k).map (·.1)).foldl gz l) x.1,x.2)
 | y::xs,l,0,x,h=>by
  simp[kC,dh] at h;subst h;rfl
 | y::xs,l,k+1,x,h=>by
  rw[vM,pg,ar2 lM];rfl
 | [],_,_,_,h=>p2
def Ol(l:List cX)(b:bG):bG:=⟨vM l b.ah,b.r,n9 ((b.ah.map (·.1)).foldl gz l) b.av⟩
def aFc l b:(Ol l b).s=HA l b.s:=by
 unfold Ol HA bG.s;simp[ar1]
def D3:List bG->List (List cX)->List Bool->List bG
 | b::bv,l::ls,s::jM=>(if s=true then Ol l b else b)::D3 bv ls jM
 | bv,_,_=>bv
def ar3:∀(bv:List bG) (ls:List (List cX)) (a:List Bool),bC (D3 bv ls a)=sA (bC bv) ls a
 | [],[],_=>Qk
 | [],_::_,[]=>Qk
 | [],_::_,_::_=>Qk
 | _::_,[],_=>Qk
 | _::_,_::_,[]=>Qk
 | b::bv,l::ls,s::a=>by
  have c:=ar3 bv ls a;unfold bC at c|-;simp[D3,gg,sA,c];congr 1;split
  .exact aFc l b
  .rfl
def ar4:∀(bv:List bG) (ls:List (List cX)) (a:List Bool),(D3 bv ls a).length=bv.length
 | [],[],_=>rfl
 | [],_::_,[]=>rfl
 | [],_::_,_::_=>rfl
 | _::_,[],_=>rfl
 | _::_,_::_,[]=>rfl
 | b::bv,l::ls,s::a=>by simp[D3,ar4 bv ls a]
def af4:∀{bv:List bG}{ls:List (List cX)}{c:List Bool}{k:Nat}{b:bG}{l:List cX}{s:Bool},bv[k]?=some b->ls[k]?=some l->c[k]?=some s->(D3 bv ls c)[k]?=some (if s=true then Ol l b else b)
 | _::_,_::_,_::_,0,_,_,_,J,ab,a=>by
  simp[kC,dh] at J ab a;subst J;subst ab;subst a;rfl
 | _::_,_::_,_::_,k+1,_,_,_,J,ab,a=>by
  rw[D3,pg];exact af4 p0 tn (by simpa using a)
 | [],_,_,_,_,_,_,J,_,_=>D5
 | _::_,[],_,_,_,_,_,_,ab,_=>GY
 | _::_,_::_,[],_,_,_,_,_,_,a=>by simp at a
end
end Go.Proofs.YtplleokmejppjaaGreatDoor
