/- Contracts of functions that the law reaches -/
import Derived.Test.YtplleokmejppjaaGreatDoorR17
import Derived.Test.YtplleokmejppjaaGreatDoorR18
set_option linter.all false
set_option maxHeartbeats 9999999
set_option maxRecDepth 100000
namespace Go.Proofs.YtplleokmejppjaaGreatDoor
open Go.Proofs.Tryz
open Go.AH
section
attribute[local irreducible] W ad
instance aRB:Kq prog 134 [.int .i64,.int .i64]:=⟨ax⟩
def aq0:∀{a l:List cX}{i:Nat}{f:cX},a[i]?=some f->(hD a (l.take i))[i]?=some f
 | x::a,[],0,f,h=>abS
 | x::a,y::l,0,f,h=>abS
 | x::a,[],i+1,f,h=>abS
 | x::a,y::l,i+1,f,h=>by
  rw[wi,hD,pg];exact aq0 lM
 | [],_,_,_,h=>p2
def afv:∀{a l:List cX}{i:Nat}{f g:cX},a[i]?=some f->l[i]?=some g->hD a (l.take (i+1))=(hD a (l.take i)).set i (pH f g)
 | x::a,y::l,0,f,g,J,ab=>by
  simp[kC,dh] at J ab;subst J;subst ab;simp[hD]
 | x::a,y::l,i+1,f,g,J,ab=>by
  rw[wi,wi,hD,hD,I6,afv p0 tn]
 | [],_,_,_,_,J,_=>D5
 | _::_,[],_,_,_,_,ab=>GY
def aq1:∀{a l:List cX}{i:Nat}{f g:cX},a[i]?=some f->l[i]?=some g->x7 (hD a (l.take (i+1))) a=(x7 (hD a (l.take i)) a&&Kk (pH f g) f)
 | x::a,y::l,0,f,g,J,ab=>by
  simp[kC,dh] at J ab;subst J;subst ab;have b:hD a []=a:=by cases a<;>rfl
  simp[wi,xp,hD,x7,(NF rfl).2 rfl,aek.2 rfl,b,Md,uk]
 | x::a,y::l,i+1,f,g,J,ab=>by
  rw[wi,wi,hD,hD,x7,x7,aq1 p0 tn,Bool.and_assoc]
 | [],_,_,_,_,J,_=>D5
 | _::_,[],_,_,_,_,ab=>GY
def aAz{s:List Bool}{i b}(h:s[i]?=some b):(s.map Value.bool)[0+i*1]?=some (.bool b):=by
 rw[ff,iV,gf,h];rfl
def aoj(s:List Bool)i b:eB (s.map Value.bool) (0+i*1) [.bool b]=(s.set i b).map .bool:=by
 rw[Xf,xu]
def Xm{l:List Value}{i v}(h:l[i]?=some v):l[0+i*1]?=some v:=by rwa[ff,iV]
def Bf(cb:List Nat)(ah:List (List cX))(i:Nat):Prop:=∀(j:Nat) (l:List cX),cb[j]?=some i->ah[j]?=some l->l=[]
def N5(h:aV)(bO i:Nat):Prop:=∀(f g e:Value) (A:Option Addr) (n c:Nat) (el:TypeId),h.m bO=some ⟨⟨[f,g,e,.slice A n c]⟩,el⟩->A≠some ⟨i,0,none⟩
def KK(h:aV)(N bO aR cv cP:Nat)(cb:List Nat)(n:Nat)(s t:pI)(aw:aV):Prop :=
 ∃N6,jb aw N bO aR cv cP N6 n t/\cT (λi=>N<=i) h aw/\(∀i b,h.m i=some b->b.elem=134->Bf cb s.ah i->aw.m i=some b/\Bf N6 t.ah i)/\∀i b,h.m i=some b->b.elem=3->N5 h bO i->aw.m i=some b/\N5 aw bO i
def afw{h j l d q N bO F D E Q G n s t k x u AD B vs Y}(aq:∀i b,h.m i=some b->i<h.n)(Z:h.n<=j.n)(O:jb j N bO F D E G n t)(E2:∀i,i<N->j.m i=h.m i)(KL:∀i b,h.m i=some b->b.elem=134->Bf Q s.ah i->j.m i=some b/\Bf G t.ah i)(cj:N<=h.n)(KM:∀i b,h.m i=some b->b.elem=3->j.m i=some b)(T:∀i,N5 h bO i->x≠some ⟨i,0,none⟩)(X:ng j 3 x AD (qq t.eg))(M:∀a,x=some a->N<=a.block)(z:∀i b,j.m i=some b->l.m i=some b)(P:cW j l)(S:∀i b,l.m i=some b->i<l.n)(Yf:vs=qq (k::t.eg))(Fi:ng d 3 u B vs)(oc:l.n<=d.n)(C:∀i,i<l.n->x≠some ⟨i,0,none⟩->d.m i=l.m i)(H:∀a,u=some a->x=some a\/l.n<=a.block)(r:∃b,d.m bO=some b/\b.elem=130)(K:Y=⟨⟨[.pointer (some ⟨F,0,none⟩),.slice (some ⟨D,0,none⟩) n n,.slice (some ⟨E,0,none⟩) n n,.slice u (t.eg.length+1) B]⟩,130⟩)(v:∀i b,(d.set bO Y).m i=some b->q.m i=some b)(aH:cW (d.set bO Y) q):KK h N bO F D E Q n s ⟨t.ah,t.cm,k::t.eg⟩ q:=by
 have⟨aRC,r,o⟩:=r;have V:∀i b,j.m i=some b->b.elem≠3->d.m i=some b:=λi b I he=>by
  exact C i (S _ _ (z _ _ I)) (N8 X I he)▸z _ _ I
 have y:∀i b,j.m i=some b->b.elem≠3->b.elem≠130->q.m i=some b:=λi b I he Ei=>by
  refine v i b ?_;show(if i=bO then _ else d.m i)=_;rw[ai (c2 (V i b I he) r (by rwa[o]))];exact V i b I he
 have aq3:ng q 3 u B vs:=Fi.eT λi b I he=>by
  refine v i b ?_;show(if i=bO then _ else d.m i)=_;rw[ai (c2 I r (by rw[o,he];decide))];exact I
 have rN:=O.gs;have s0:=bx Z P.1;have W:=O.aqY (w:=k::t.eg) y ⟨u,B,v bO _ (by show(if bO=bO then _ else _)=_;rw[au rfl,K];rfl),by rwa[<-Yf],λa aJ=>by
  rcases H a aJ with e|e
  .exact M a e
  .omega⟩
 refine⟨G,W,⟨?_,λi ag ak=>?_⟩,λi b I he aa=>?_,λi b I he aa=>⟨?_,λf g e A n c el hm R=>?_⟩⟩
 .have J:d.n<=q.n:=aH.1;omega
 .have J:=aH.2 i (show i<d.n by omega);rw[J];show(if i=bO then _ else d.m i)=_;rw[ai U,C i U (λe=>by have:=M _ e;dsimp only at this;omega),P.2 i U,E2 i U]
 .have⟨J,ab⟩:=KL i b I he aa;exact⟨y i b J sv sv,ab⟩
 .have J:=KM i b I he;have L:d.m i=some b:=C i (S _ _ (z _ _ J)) (T i aa)▸z _ _ J;refine v i b ?_;show(if i=bO then _ else d.m i)=_;rw[ai (c2 L r (by rw[o,he];decide))];exact L
 .rw[v bO _ abi,K] at hm;injection hm with hm;injection hm with hm _;injection hm with hm;simp only[IX,Value.slice.injEq] at hm;rw[<-hm.2.2.2.1.1] at R;rcases H _ R with e|e
  .exact T i aa e
  .have:=aq i b I;dsimp only at e;omega
def aEf bO G u f E(n:Nat) s(k:Int) l Q c N(h0:0<=k)(J:k<n)(s0:n<=100000)(ao:l.length<=1000000)(hw:s.eg.length<=1000000000000)(wK:s.cm[k.toNat]?=some false)(F:0<l.length) h(o:jb h N bO G u f E n s)(Y:h.m Q=some ⟨⟨kc l⟩,134⟩):
 dw prog 87 [.pointer (some ⟨bO,0,none⟩),.int .i64 k,.slice (some ⟨Q,0,none⟩) l.length c] h (λv aw=>v=.tuple #[]/\KK h N bO G u f E n s (h8 l s k) aw):=by
 refine dw.i func87 ntmps87 λπ bF=>?_;conv=>arg 2;whnf
 have aq:=bF.aO;have Cw:k=(k.toNat:Int):=U;have bs:k.toNat<n:=U;have⟨A,cap,cZ,sW,c5⟩:=o.iF;have xX:=aq _ _ cZ;have bd:=o.ag;have hIn:=aq _ _ bd;have zi:=o.ak;have M8:=aq _ _ zi;have aor:=bx o.rw o.pK;have Xd:=bx o.rw o.kF;have k9:E.length=s.ah.length:=VC;have lR:=o.yS;have fQ:=o.C6;have adh:=bx o.rw o.gs;apply W.seq;repeat(first|refine Rj ?_|refine AR ?_|refine Cs ?_|refine gr ?_)
 apply W.seq;apply W.seq;repeat(first|refine Ni ?_|refine AR ?_|apply ad.Yg;(iterate 6 rfl);exact Y;exact aq _ _ Y;(rw[Js];omega);exact F;omega;omega;exact by rw[hs,Mh,BY (by rw[Js];exact xE)]|refine aoq ?_|refine nz ?_|refine c8 ?_|refine fy ?_|refine MX ?_)
 refine W.hH λC fE D=>?_;have aG:C.m (π 0)=bS (kc l) 134:=D.bJ 0 (dN 0);have uO:h.n<=π 0:=D.bL 0 (dN 0);generalize π 0=q at *;have L:∀i,i<h.n->C.m i=if i=u then bS ((r7 E s.ah).set k.toNat (.slice (some ⟨q,0,none⟩) l.length (dF 2))) 132 else h.m i:=λi ag=>D.cx i ag
 have O:C.m u=bS ((r7 E s.ah).set k.toNat (cD 2 q l)) 132:=by
  rw[L u hIn,au rfl,Bh (DV.1 F)]
 have Jr:∀i b,h.m i=some b->b.elem≠132->C.m i=some b:=by
  intro i b I he;rwa[L i (aq i b I),ai (c2 I bd he)]
 have Z:=bx o.gs (ph xX);have M:=o.newRow O (λ_=>⟨bx Z uO,aG,λb I=>by have:=aq _ _ I;omega⟩) Jr;have Np:C.m f=bS (s.cm.map .bool) 4:=M.ak;have aoi:=D.aO _ _ Np;have⟨a8,Bi,xY,aEg,wM⟩:=M.iF;have xY:C.m bO=bS [.pointer (some ⟨G,0,none⟩),.slice (some ⟨u,0,none⟩) n n,.slice (some ⟨f,0,none⟩) n n,.slice a8 s.eg.length Bi] 130:=xY;have Xw:=D.aO _ _ xY;obtain⟨X,T⟩:∃X:cd,X=⟨⟨(s.cm.set k.toNat true).map .bool⟩,4⟩:=⟨_,rfl⟩;have yR:∀i b,C.m i=some b->b.elem≠4->(C.set f X).m i=some b:=λi b I he=>by
  show(if i=f then _ else C.m i)=_;rwa[ai (c2 I Np he)]
 have S:=M.afu (t:=s.cm.set k.toNat true) (by rwa[mq]) (show(C.set f X).m f=_ by show(if f=f then _ else _)=_;rw[au rfl,T]) yR;have⟨dr,AD,mb,tq,iy⟩:=S.iF;have mb:(C.set f X).m bO=bS [.pointer (some ⟨G,0,none⟩),.slice (some ⟨u,0,none⟩) n n,.slice (some ⟨f,0,none⟩) n n,.slice dr s.eg.length AD] 130:=mb;have tq:ng (C.set f X) 3 dr AD (qq s.eg):=tq;have RB:bO<(C.set f X).n:=Xw;refine apA ?_;rw[<-T];apply W.seq;repeat(first|refine gP ?_|refine nz ?_|refine c8 ?_|refine fy ?_|refine MX ?_|apply ad.Yh;rfl;rfl;exact aa8;rfl;rfl;exact abj;rfl;(simp[uy];omega);(simp[uy];omega);intro gL w mN Bg hJ yf s3 Fi oc R sZ;have vw:=(R bO (w.aO _ _ (w.up _ _ mb)) (N8 tq mb aF)).trans (w.up _ _ mb);have adg:=s3.aO _ _ vw|refine adF ?_|refine adf ?_)
 have e:h8 l s k=⟨s.ah.set k.toNat l,s.cm.set k.toNat true,k::s.eg⟩:=by rw[h8,wK];rfl
 rw[e];refine sx [] .nil λaD a=>⟨rfl,?_⟩;refine afw aq (show h.n<=(C.set f X).n from D.le) S (λi ag=>?_) (λi b I he aa=>⟨aj3,λj m J ab=>?_⟩) Z (λi b I he=>yR i b (Jr i b I sv) sv) (λi aa=>aa _ _ _ _ _ _ _ ((alA:(C.set f X).m bO=h.m bO)▸mb)) tq iy w.up w.bk w.aO (Oa k s.eg).symm Fi oc R sZ ⟨_,vw,rfl⟩ abv a.up a.bk
 .have HL:=o.pK;have zt:=o.kF;show(if i=f then _ else C.m i)=_;rw[ai U,L i U,ai U]
 .have ag:=aq i b I;rcases zM J with⟨V,a1⟩|⟨V,a1⟩
  .exact U
  .rcases zM ab with⟨f1,_⟩|⟨_,f2⟩
   .exact absurd f1 V
   .exact aa j m a1 f2
def aEh bO E u f D(n:Nat) s(k:Int) o0 c N(h0:0<=k)(J:k<n)(s0:n<=100000)(hw:s.eg.length<=1000000000000)(wK:s.cm[k.toNat]?=some false) h(o:jb h N bO E u f D n s):
 dw prog 87 [.pointer (some ⟨bO,0,none⟩),.int .i64 k,.slice o0 0 c] h (λv aw=>v=.tuple #[]/\KK h N bO E u f D n s (h8 [] s k) aw):=by
 refine dw.i func87 ntmps87 λπ bF=>?_;conv=>arg 2;whnf
 have aq:=bF.aO;have Cw:k=(k.toNat:Int):=U;have bs:k.toNat<n:=U;have⟨A,cap,cZ,sW,c5⟩:=o.iF;have xX:=aq _ _ cZ;have bd:=o.ag;have hIn:=aq _ _ bd;have zi:=o.ak;have M8:=aq _ _ zi;have aor:=bx o.rw o.pK;have Xd:=bx o.rw o.kF;have k9:D.length=s.ah.length:=VC;have lR:=o.yS;have fQ:=o.C6;have adh:=bx o.rw o.gs;apply W.seq;repeat(first|refine Rj ?_|refine AR ?_|refine Cs ?_|refine gr ?_)
 apply W.seq;apply W.seq;repeat(first|refine Ni ?_|refine AR ?_|refine aoq ?_|apply ad.KN;iterate 6 rfl|refine nz ?_|refine c8 ?_|refine fy ?_|refine MX ?_)
 refine W.hH λC fE F=>?_;have G:∀i,i<h.n->C.m i=if i=u then bS ((r7 D s.ah).set k.toNat (.slice none 0 0)) 132 else h.m i:=λi ag=>F.cx i ag
 have O:C.m u=bS ((r7 D s.ah).set k.toNat (cD 2 0 ([]:List cX))) 132:=by
  rw[G u hIn,au rfl];rfl
 have Jr:∀i b,h.m i=some b->b.elem≠132->C.m i=some b:=by
  intro i b I he;rwa[G i (aq i b I),ai (c2 I bd he)]
 have N9:=bx o.gs (ph xX);have L:=o.newRow O (λak=>absurd rfl ak) Jr;have Np:C.m f=bS (s.cm.map .bool) 4:=L.ak;have aoi:=F.aO _ _ Np;have⟨a8,Bi,xY,aEg,wM⟩:=L.iF;have xY:C.m bO=bS [.pointer (some ⟨E,0,none⟩),.slice (some ⟨u,0,none⟩) n n,.slice (some ⟨f,0,none⟩) n n,.slice a8 s.eg.length Bi] 130:=xY;have Xw:=F.aO _ _ xY;obtain⟨X,S⟩:∃X:cd,X=⟨⟨(s.cm.set k.toNat true).map .bool⟩,4⟩:=⟨_,rfl⟩;have yR:∀i b,C.m i=some b->b.elem≠4->(C.set f X).m i=some b:=λi b I he=>by
  show(if i=f then _ else C.m i)=_;rwa[ai (c2 I Np he)]
 have R:=L.afu (t:=s.cm.set k.toNat true) (by rwa[mq]) (show(C.set f X).m f=_ by show(if f=f then _ else _)=_;rw[au rfl,S]) yR;have⟨dr,AD,mb,tq,iy⟩:=R.iF;have mb:(C.set f X).m bO=bS [.pointer (some ⟨E,0,none⟩),.slice (some ⟨u,0,none⟩) n n,.slice (some ⟨f,0,none⟩) n n,.slice dr s.eg.length AD] 130:=mb;have tq:ng (C.set f X) 3 dr AD (qq s.eg):=tq;have RB:bO<(C.set f X).n:=Xw;refine apA ?_;rw[<-S];apply W.seq;repeat(first|refine gP ?_|refine nz ?_|refine c8 ?_|refine fy ?_|refine MX ?_|apply ad.Yh;rfl;rfl;exact aa8;rfl;rfl;exact abj;rfl;(simp[uy];omega);(simp[uy];omega);intro gL w mN Bg hJ yf Y Fi Z Q V;have vw:=(Q bO (w.aO _ _ (w.up _ _ mb)) (N8 tq mb aF)).trans (w.up _ _ mb);have adg:=Y.aO _ _ vw|refine adF ?_|refine adf ?_)
 have e:h8 [] s k=⟨s.ah.set k.toNat [],s.cm.set k.toNat true,k::s.eg⟩:=by rw[h8,wK];rfl
 rw[e];refine sx [] .nil λaD a=>⟨rfl,?_⟩;refine afw aq (show h.n<=(C.set f X).n from F.le) R (λi ag=>?_) (λi b I he aa=>⟨aj3,λj m J T=>?_⟩) N9 (λi b I he=>yR i b (Jr i b I sv) sv) (λi aa=>aa _ _ _ _ _ _ _ ((alA:(C.set f X).m bO=h.m bO)▸mb)) tq iy w.up w.bk w.aO (Oa k s.eg).symm Fi Z Q V ⟨_,vw,rfl⟩ abv a.up a.bk
 .have HL:=o.pK;have zt:=o.kF;show(if i=f then _ else C.m i)=_;rw[ai U,G i U,ai U]
 .rcases zM J with⟨M,a1⟩|⟨M,a1⟩
  .rcases zM T with⟨_,f1⟩|⟨f1,_⟩
   .exact f1
   .exact absurd M f1
  .rcases zM T with⟨f1,_⟩|⟨_,f2⟩
   .exact absurd f1 M
   .exact aa j m a1 f2
def aEi a b:r1 [.int .i64,.int .i64] (lP a) (lP b)=some (Kk a b):=by
 unfold lP Kk;show some ((a.bp==b.bp)&&((a.n==b.n)&&true))=_;rw[Md];congr 1
structure aq5(h:aV)(q:Nat)(a l:List cX)(i:Nat)(B:aV):Prop where
 off:cT (λj=>j=q/\l≠[]) h B
 row:l≠[]->B.m q=some ⟨⟨kc (hD a (l.take i))⟩,134⟩
def aEj C aR cv u E(n:Nat) s(k:Int) l o0 c N(h0:0<=k)(J:k<n)(s0:n<=100000)(ao:l.length<=1000000)(hw:s.eg.length<=1000000000000)(wK:s.cm[k.toNat]?=some true) a(D:s.ah[k.toNat]?=some a)(Cf:a.length=l.length) h(o:jb h N C aR cv u E n s)(aC:lI h o0 l)(KL:∀x,o0=some x->Bf E s.ah x.block):
 dw prog 87 [.pointer (some ⟨C,0,none⟩),.int .i64 k,.slice o0 l.length c] h (λv aw=>v=.tuple #[]/\KK h N C aR cv u E n s (h8 l s k) aw):=by
 refine dw.i func87 ntmps87 λπ bF=>?_;conv=>arg 2;whnf
 have aq:=bF.aO;have Cw:k=(k.toNat:Int):=U;have bs:k.toNat<n:=U;obtain⟨A,cap,Yi,sW,c5⟩:=o.iF;have V:=aq _ _ Yi;obtain⟨q,aG⟩:=cR E k.toNat (by rw[o.AF];exact bs);have fQ:=o.C6;have adh:=bx o.rw o.gs;have Xd:=bx o.rw o.kF;have G:l≠[]->df<=q/\h.m q=bS (kc a) 134:=λak=>by
  have:=o.row _ _ _ aG D (λe=>ak (by rw[e] at Cf;exact mr.1 Cf.symm));exact⟨bx o.rw this.1,this.2⟩
 have eT:∀{B:aV}{i:Nat},aq5 h q a l i B->∀j b,h.m j=some b->b.elem≠134->B.m j=some b:=by
  intro B i bd j b I he;rw[bd.off.2 j (aq j b I) (λe=>c2 I (G e.2).2 he e.1)];exact I
 have cZ:=Yi;have xX:=V;have zi:=o.ak;have M8:=aq _ _ zi;repeat(first|refine Rj ?_|refine AR ?_|refine aps ?_|refine ou ?_|refine aoO ?_)
 refine W.hz (X:=Nat) (λi=>[(0,cE C),(1,bm k),(2,.slice o0 l.length c),(27,bm (l.length:Int)),(28,bm (i:Int)),(6,.bool (!x7 (hD a (l.take i)) a))])
  (λi B=>i<=l.length/\aq5 h q a l i B) (λi=>l.length-i)
  (λO x=>⟨0,?_,⟨dG _,⟨x.bk.off,λak=>?_⟩⟩⟩) ?_
 .have sY:hD a (l.take 0)=a:=by cases a<;>rfl
  have ba:x7 a a=true:=(NF rfl).2 rfl;rw[sY,ba];exact ca
 .have sY:hD a (l.take 0)=a:=by cases a<;>rfl
  rw[sY];exact x.up _ _ (G ak).2
 rintro i B fo R ⟨ag,w⟩;have cZ:=eT w _ _ Yi aF;have xX:=R.aO _ _ cZ;have bd:=eT w _ _ o.ag aF;have hIn:=R.aO _ _ bd;by_cases Y:i<l.length
 .have nt:l≠[]:=by intro e;rw[e] at Y;exact absurd Y (Gs _)
  have L:a≠[]:=aj9;obtain⟨EG,Ob⟩:=cR a i U;obtain⟨ay,qI⟩:=cR l i Y;have aon:=aq0 (l:=l) Ob;have tG:i<(hD a (l.take i)).length:=by rw[EW];omega
  have j8:=w.row nt;have ze:=R.aO _ _ j8;have afA:=(G nt).1;have hle:0+i*2+2<=(kc (hD a (l.take i))).length:=by rw[Js,EW];omega
  have aAQ:0+i*2+2<=(kc l).length:=Vt;have e1:(r7 E s.ah)[k.toNat]?=some (.slice (cV q) a.length (dF 2)):=by rw[R7 aG D,Bh L]
  have yg:=aEi (pH EG ay) EG;have R8:=aq1 Ob qI;cases aC with
  | none=>exact absurd rfl nt
  | some A9 aEk =>
   rename_i qs;have bM:qs≠q:=by
    intro e;have:=KL ⟨qs,0,none⟩ rfl k.toNat a (by rw[e];exact aG) D;exact L this
   have bA:B.m qs=bS (kc l) 134:=by rw[w.off.2 qs (aq _ _ A9) (λe=>bM e.1)];exact A9
   have mE:=R.aO _ _ bA;obtain⟨sm,F⟩:=ld (Kk (pH EG ay) EG);rw[F] at yg R8;cases sm with
   | true =>
    repeat(first|refine aoV ?_|refine AR ?_|refine er ?_|refine qi ?_|refine la ?_|refine AX ?_|refine oR ?_|refine aom ?_|refine ao5 ?_|apply ad.aew;(iterate 4 rfl);exact yg)
    refine eK rfl λO x=>⟨i+1,?_,⟨Y,⟨w.off.dB x.bk.off,λak=>?_⟩⟩,U⟩
    .rw[R8,Md];exact ca
    .rw[afv Ob qI,aek.1 F,tv aon];exact x.up _ _ j8
   | false =>
    repeat(first|refine aoV ?_|refine AR ?_|refine er ?_|refine aom ?_|refine ao5 ?_|apply ad.aew;(iterate 4 rfl);exact yg|apply ad.gi;rfl;rfl;rfl;exact j8;exact ze;exact afA;exact hle;rfl;rfl;exact R6 (f:=pH EG ay) tG|refine qi ?_|refine la ?_|refine AX ?_)
    refine eK rfl λO x=>⟨i+1,?_,⟨Y,⟨(w.off.trans (cT.set B q _) λj _ e=>⟨e,nt⟩).dB x.bk.off,λak=>?_⟩⟩,U⟩
    .rw[R8,Uq];exact ca
    .rw[afv Ob qI];exact x.up _ _ akK
 .have lR:i=l.length:=U;subst lR;rw[mv] at *;have zi:=eT w _ _ o.ak aF;have M8:=R.aO _ _ zi;have N9:=bx o.gs (ph V);have aEl:jb B N C aR cv u E n ⟨s.ah.set k.toNat (hD a l),s.cm,s.eg⟩:=by
   by_cases nt:l=[]
   .have L:a=[]:=by rw[nt] at Cf;exact mr.1 Cf
    have e:hD a l=a:=by rw[L];cases l<;>rfl
    rw[e,tv D];exact o.up λj b I=>by rw[w.off.2 j (aq j b I) (λe=>e.2 nt)];exact I
   .have L:a≠[]:=aj9;have aM:=w.row nt;rw[mv] at aM;exact o.setRow aG D L (EW a l) aM λj b I _ aA=>by rw[w.off.2 j (aq j b I) (λe=>aA e.1)];exact I
  obtain⟨X,cc⟩:∃X:cd,X=⟨⟨(s.cm.set k.toNat true).map .bool⟩,4⟩:=⟨_,rfl⟩;have Z:∀i b,B.m i=some b->b.elem≠4->(B.set u X).m i=some b:=λi b I he=>by
   show(if i=u then _ else B.m i)=_;rw[ai (c2 I zi he)];exact I
  have Q:=aEl.afu (t:=s.cm.set k.toNat true) (by rw[mq];exact fQ) (show(B.set u X).m u=_ by show(if u=u then _ else _)=_;rw[au rfl,cc]) Z;obtain⟨dr,AD,mb,tq,iy⟩:=Q.iF;have mb:(B.set u X).m C=some ⟨⟨[.pointer (some ⟨aR,0,none⟩),.slice (some ⟨cv,0,none⟩) n n,.slice (some ⟨u,0,none⟩) n n,.slice dr s.eg.length AD]⟩,130⟩:=mb;have tq:ng (B.set u X) 3 dr AD (qq s.eg):=tq;have RB:C<(B.set u X).n:=xX;have afB:=N8 tq mb aF;have T:(B.set u X).m C=h.m C:=by rw[Z C _ cZ aF,Yi]
  have S:∀i b,h.m i=some b->b.elem=3->(B.set u X).m i=some b:=λi b I he=>Z i b (eT w i b I sv) sv;have E2:∀i,i<N->(B.set u X).m i=h.m i:=λi ag=>by
   have zt:=o.kF;show(if i=u then _ else B.m i)=_;rw[ai U,w.off.2 i U (λe=>by
    have b5:=(o.row _ _ _ aG D (λiD=>e.2 (by rw[iD] at Cf;exact mr.1 Cf.symm))).1;omega)]
  have Yj:∀i b,h.m i=some b->b.elem=134->Bf E s.ah i->(B.set u X).m i=some b/\Bf E (s.ah.set k.toNat (hD a l)) i:=λi b I he aa=>by
   refine⟨Z i b ?_ sv,λj m J ab=>?_⟩
   .rw[w.off.2 i (aq i b I) (λe=>by
     have:=aa k.toNat a (by rw[e.1];exact aG) D;rw[this] at Cf;exact e.2 (mr.1 Cf.symm))]
    exact I
   .rcases zM ab with⟨f1,f2⟩|⟨f1,f2⟩
    .subst f1;have:=aa k.toNat a J D;rw[f2,this];cases l<;>rfl
    .exact aa j m J f2
  obtain⟨sm,F⟩:∃b,x7 (hD a l) a=b:=⟨_,rfl⟩;rw[F];refine Hr ?_;refine Hs ?_;apply W.seq;repeat(first|refine Ni ?_|refine AR ?_|apply ad.gi;rfl;rfl;rfl;exact zi;exact M8;exact Xd;(rw[fI];omega);rfl;rfl;exact aoj _ _ _|refine nz ?_|refine gr ?_)
  rw[<-cc];cases sm with
  | true =>
   repeat(first|refine pw ?_|refine c8 ?_|refine zp ?_)
   have aEm:=(NF (EW a l)).1 F;have e:h8 l s k=s:=by unfold h8;rw[wK,D];simp[F]
   rw[e];rw[aEm,tv D] at Yj Q;rw[tv wK] at Q;refine sx [] .nil λO x=>⟨rfl,E,Q.up x.up,⟨?_,λi ag ak=>?_⟩,λi b I he aa=>⟨x.up _ _ (Yj i b I he aa).1,(Yj i b I he aa).2⟩,λi b I he aa=>⟨x.up _ _ (S i b I he),λf g e A n c el hm=>?_⟩⟩
   .have J:B.n<=O.n:=x.le;have ab:=w.off.1;omega
   .have J:O.m i=(B.set u X).m i:=x.cx i (show i<B.n by have:=w.off.1;omega);rw[J,E2 i U]
   .have J:=x.up _ _ mb;rw[J,<-mb,T] at hm;exact aa _ _ _ _ _ _ _ hm
  | false =>
   repeat(first|refine gP ?_|refine adF ?_|apply ad.Yh (vs:=qq s.eg);rfl;rfl;exact aa8;rfl;rfl;exact abj;rfl;(simp only[uy];omega);(simp only[uy];omega);intro gL M mN Bg hJ yf s3 Fi oc lJ sZ;have vw:=(lJ C (M.aO _ _ (M.up _ _ mb)) afB).trans (M.up _ _ mb);have adg:=s3.aO _ _ vw|refine adf ?_|refine nz ?_|refine c8 ?_|refine Cz ?_|refine fy ?_)
   have e:h8 l s k=⟨s.ah.set k.toNat (hD a l),s.cm.set k.toNat true,k::s.eg⟩:=by unfold h8;rw[wK,D,tv wK];simp[F]
   rw[e];refine sx [] .nil λO x=>⟨rfl,?_⟩;exact afw (t:=⟨s.ah.set k.toNat (hD a l),s.cm.set k.toNat true,s.eg⟩) aq (show h.n<=(B.set u X).n from w.off.1) Q E2 Yj N9 S (λi aa=>aa _ _ _ _ _ _ _ (T▸mb)) tq iy M.up M.bk M.aO (Oa k s.eg).symm Fi oc lJ sZ ⟨_,vw,rfl⟩ abv x.up x.bk
def o1(l:List cX):Prop:=∀f∈l,b8 f.n
def s4:b8 0:=⟨U,U⟩
def afC{l}(b:o1 l){a}(c:b8 a.num):b8 (gH l a).n:=by
 unfold gH;split
 .exact c
 .rcases h:l[a.ck.toNat]? with _|f
  .exact s4
  .exact b f (bQ h)
def aq9{l}(c:o1 l){x}(aa:x.ok):b8 (lg l x).n:=by
 have b:=afC c aa.a.2;unfold lg EV;repeat' split
 all_goals first|exact b|exact NI b|exact s4|exact aet b
def ara{l}(a:o1 l){x}(aa:x.ok):o1 (gz l x):=by
 unfold gz;split
 .intro f b;rcases vh b with h|h
  .exact a f h
  .exact h▸aq9 a aa
 .exact a
def R9:∀(xs:List cO) (l:List cX),o1 l->(∀x∈xs,x.ok)->o1 (xs.foldl gz l)
 | [],_,a,_=>a
 | x::xs,l,a,aa=>R9 xs (gz l x) (ara a (aa x aF)) λy aN=>aa y yN
def aEn{a b}(c:b8 a.n)(I:b8 b.n):b8 (pH a b).n:=by
 unfold pH;repeat' split
 all_goals first|exact c|exact I|exact s4
def arb:∀{l m:List cX},o1 l->o1 m->o1 (hD l m)
 | a::l,b::m,c,hm=>by
  intro f d;rw[hD] at d;rcases dI.1 d with e|e
  .exact e▸aEn (c a aF) (hm b aF)
  .exact arb (λg bf=>c g VW) (λg bf=>hm g VW) f e
 | [],_,c,_=>by simpa[hD] using c
 | _::_,[],c,_=>by simpa[hD] using c
def arc l A c x s j(ao:l.length<=1000000000)(i:o1 l)(aa:x.ok) h(aC:lI h A l):bc prog 67 ⟨[.slice A l.length c,.agg ⟨cL x s j⟩]⟩ h (.agg ⟨lP (lg l x)⟩) h:=by
 refine bc.aO λaq=>?_;have f:=afC i aa.b.2;refine bc.still (c:=(f67.body.getD .skip)) func67 ax ntmps67 ax Mq ?_;conv=>arg 2;whnf
 repeat'(first|refine aoz ?_|(apply ad.wO;rfl;rfl;rfl;first|exact λH=>(WD _ H);exact hS|exact λH=>(anP _ _ _ H);exact hS|exact λH=>aex _ _ _ f.1 f.2 H;exact hS)|refine Ey ?_|refine pA ?_|refine pv ?_|(with_reducible first|apply ad.extract|apply ad.build);iterate 4 rfl|refine vz ?_|refine CC ?_|(refine c7 ?_ ?_)<;>intro _)
 all_goals refine cf _ (.cons (.Ay rfl rfl rfl (dM rfl)) .nil) ⟨rfl,?_⟩
 all_goals try simp[bne_iff_ne,ne_eq,bne_eq_false_iff_eq] at *
 all_goals first
  | (have e : lg l x = gH l x.a := by unfold lg; rw[au U]
     rw[e];rfl)
  | (have e : lg l x = EU (q8 (gH l x.a).n x.size x.signed) := by unfold lg; rw[ai U, au U]
     rw[e];rfl)
  | (have e : lg l x = zw := by unfold lg; rw[ai U, ai U, au U]
     rw[e];rfl)
  | (have e : lg l x = EU (h7 x.op (gH l x.a).n (gH l x.b).n).1 := by unfold lg EV; rw[ai U, ai U, ai U, au h3, au U, au h3]
     rw[e];rfl)
  | (have e : lg l x = kK := by unfold lg EV; rw[ai U, ai U, ai U, au h3, au U, ai Mu]
     rw[e];rfl)
  | (have e : lg l x = zw := by unfold lg EV; rw[ai U, ai U, ai U, au h3, ai U, au U]
     rw[e];rfl)
  | (have e : lg l x = kK := by unfold lg EV; rw[ai U, ai U, ai U, au h3, ai U, ai U]
     rw[e];rfl)
  | (have e : lg l x = kK := by unfold lg; rw[ai U, ai U, ai U, ai Mu]
     rw[e];rfl)
def aEo l A c(x:cO) s j(v:l.length<=1000000000)(u:o1 l)(aa:x.ok)(w:x.dst<l.length) h(aC:lI h A l):bc prog 88 ⟨[.slice A l.length c,.agg ⟨cL x s j⟩]⟩ h (.tuple #[]) (zK h A (gz l x)):=by
 refine bc.rX func88 ntmps88 (λf=>⟨(aqW f aC).1,aF,(aqW f aC).2⟩) λπ f=>?_;conv=>arg 2;whnf
 have aq:=f.aO;by_cases h0:0<=x.dst
 .have Cw:x.dst=(x.dst.toNat:Int):=U;have bs:x.dst.toNat<l.length:=U;have i:0+x.dst.toNat*2+2<=(kc l).length:=Vt;have e:gz l x=l.set x.dst.toNat (lg l x):=by rw[gz,au h0]
  rw[e];rcases aC with _|⟨hm,aM⟩
  .exact absurd bs (Gs _)
  .rename_i b;repeat(first|apply ad.py;rfl;rfl;rfl;exact λH b7=>arc l _ c x s j v u aa H ((.some hm aM:lI h (cV b) l).up (Ho aq b7));exact kQ Mq|refine AR ?_|refine iR ?_|refine pz ?_|refine c8 ?_|refine Cz ?_|refine fy ?_|apply ad.gi;rfl;rfl;rfl;exact hm;exact aq _ _ hm;exact aM;exact i;rfl;rfl;exact R6 bs|(with_reducible first|apply ad.move|apply ad.fieldAddr|apply ad.box);iterate 3 rfl)
   exact Mj
 .have e:gz l x=l:=by rw[gz,ai h0]
  rw[e,aD8 aC];repeat(first|refine hL ?_|refine oS ?_|refine zp ?_|(with_reducible first|apply ad.fieldAddr|apply ad.box);iterate 3 rfl)
  repeat'(first|(refine c7 ?_ ?_)<;>intro _)
  all_goals exact Mj
def ard d i f g b(n:Nat) s(k:Int) l e c N r(h0:0<=k)(J:k<n)(m:n<=100000)(q:l.length<=1000000)(hw:s.eg.length<=1000000000000)(w:vG n r s)(u:l.length=r) h(o:jb h N d i f g b n s)(aC:lI h e l)(y:∀x,e=some x->Bf b s.ah x.block):
 dw prog 87 [.pointer (some ⟨d,0,none⟩),.int .i64 k,.slice e l.length c] h (λv aw=>v=.tuple #[]/\KK h N d i f g b n s (h8 l s k) aw):=by
 have⟨a,t⟩:=cR s.ah k.toNat (by rw[o.yS];omega);rcases RN (k:=k.toNat) (by rw[o.C6];omega) with j|j
 .exact aEj d i f g b n s k l e c N h0 J m q hw j a t ((w.wid _ _ t j).trans u.symm) h o aC y
 .by_cases p:l=[]
  .subst p;exact aEh d i f g b n s k e c N h0 J m hw j h o
  .rcases aC with _|⟨hm,aM⟩
   .exact absurd rfl p
   .exact aEf d i f g b n s k l _ c N h0 J m q hw j (DV.2 p) h o hm
def yh(l:List cX):Prop:=∀f∈l,f=kK\/f.bp=1
def are{l}(b:yh l)a:gH l a=kK\/(gH l a).bp=1:=by
 unfold gH;split
 .exact .inr rfl
 .rcases h:l[a.ck.toNat]? with _|f
  .exact xG
  .exact b f (bQ h)
def aEp{l}(f:yh l)x:lg l x=kK\/(lg l x).bp=1:=by
 have d:=are f x.a;have i:(gH l x.a).bp≠0:=by
  rcases d with e|e
  .rw[e];decide
  .exact U
 unfold lg;split
 .exact d
 .split
  .exact .inr rfl
  .split
   .rename_i h;exact absurd h.2 i
   .split
    .unfold EV;split
     .split
      .exact .inr rfl
      .exact xG
     .split
      .rename_i J g;rcases d with e|e
       .exact absurd qH g.1
       .rcases(are f x.b) with c|c
        .exact absurd (by rw[c];rfl) g.2
        .exact absurd ⟨e,c⟩ J
      .exact xG
    .exact xG
def aEq{l}(a:yh l)x:yh (gz l x):=by
 unfold gz;split
 .intro f b;rcases vh b with h|h
  .exact a f h
  .exact h▸aEp a x
 .exact a
def afD:∀(xs:List cO) (l:List cX),yh l->yh (xs.foldl gz l)
 | [],_,a=>a
 | x::xs,l,a=>afD xs (gz l x) (aEq a x)
def Fk(f:cX):Nat:=if f.bp=1 then 1 else 0
def zO(l:List cX):Nat:=(l.map Fk).sum
def aEr f:Fk f<=1:=by unfold Fk;split<;>omega
def arf l:zO l<=l.length:=by
 induction l with
 | nil=>exact xE
 | cons f l a =>
  unfold zO at *;have:=aEr f;simp[gg,nP,e5];omega
def aEs{a b}(c:a=kK\/a.bp=1)(I:b=kK\/b.bp=1):(pH a b=kK\/(pH a b).bp=1)/\Fk (pH a b)<=Fk a/\(pH a b≠a->Fk (pH a b)<Fk a):=by
 have d:a.bp≠0:=by
  rcases c with e|e
  .rw[e];decide
  .exact U
 have f:b.bp≠0:=by
  rcases I with e|e
  .rw[e];decide
  .exact U
 rw[pH,ai d,ai f];split
 .exact⟨c,b4 _,λh=>absurd rfl h⟩
 .refine⟨.inl rfl,dG _,λh=>?_⟩;rcases c with e|e
  .exact absurd e.symm h
  .show 0<Fk a;rw[Fk,au e];omega
def arh:∀{l m:List cX},yh l->yh m->yh (hD l m)/\zO (hD l m)<=zO l/\(hD l m≠l->zO (hD l m)<zO l)
 | a::l,b::m,c,hm=>by
  have⟨J,k,j⟩:=arh (l:=l) (m:=m) (λf d=>c f (by simp[d])) (λf d=>hm f (by simp[d]));have⟨g1,g2,g3⟩:=aEs (c a aF) (hm b aF);unfold zO at *;rw[hD];simp only[gg,nP];refine⟨λf d=>?_,U,λi=>?_⟩
  .rcases dI.1 d with e|e
   .rwa[e]
   .exact J f e
  .by_cases e:pH a b=a
   .have:hD l m≠l:=λg=>i (by rw[e,g]);have:=j this;omega
   .have:=g3 e;omega
 | [],_,c,_=>by
  have e:hD [] ‹List cX›=[]:=by cases ‹List cX›<;>rfl
  exact e▸⟨c,b4 _,λh=>absurd rfl h⟩
 | _::_,[],c,_=>⟨c,b4 _,λh=>absurd rfl h⟩
def w2(r:Nat):List (List cX)->List Bool->List Nat
 | l::ls,b::iz=>(if b=true then zO l else r+1)::w2 r ls iz
 | _,_=>[]
def afE{r}:∀{ls:List (List cX)}{a:List Bool}{i:Nat}{l:List cX}{b:Bool},ls[i]?=some l->a[i]?=some b->(w2 r ls a)[i]?=some (if b=true then zO l else r+1)
 | _::_,_::_,0,_,_,J,ab=>by
  simp[kC,dh] at J ab;subst J;subst ab;rfl
 | _::_,_::_,i+1,_,_,J,ab=>by
  rw[w2,pg];exact afE p0 tn
 | [],_,_,_,_,J,_=>D5
 | _::_,[],_,_,_,_,ab=>GY
def afF{r}:∀{ls:List (List cX)}{a:List Bool} (i:Nat) (l:List cX),ls.length=a.length->w2 r (ls.set i l) (a.set i true)=(w2 r ls a).set i (zO l)
 | [],[],_,_,_=>rfl
 | _::_,_::_,0,_,_=>rfl
 | _::ls,_::a,i+1,l,h=>by simp[w2,afF i l lM]
def tN(r:Nat)(s:pI):Nat:=2*(w2 r s.ah s.cm).sum+s.eg.length
structure vK(s:pI):Prop where
 jB:∀l∈s.ah,o1 l
 wf:∀l∈s.ah,yh l
def afG{n r s}(w:vG n r s)(g:vK s){l}(t:l.length=r)(q:o1 l)(hw:yh l){k:Int}(h0:0<=k)(J:k<n):vK (h8 l s k)/\tN r (h8 l s k)<=tN r s:=by
 have aj:k.toNat<n:=U;have⟨a,c⟩:=cR s.ah k.toNat QA;have m:=bQ c;have o:s.ah.length=s.cm.length:=by rw[w.ah,w.cm]
 rw[h8,c];rcases RN Qq with aC|aC
 .rw[aC];simp[yG,au];split
  .exact⟨g,b4 _⟩
  .rename_i d;have⟨m1,m2,m3⟩:=arh (g.wf a m) hw;have d:hD a l≠a:=λe=>d ((NF (EW a l)).2 e);refine⟨⟨λx aa=>?_,λx aa=>?_⟩,?_⟩
   .rcases vh aa with h|h
    .exact g.jB x h
    .exact h▸arb (g.jB a m) q
   .rcases vh aa with h|h
    .exact g.wf x h
    .rwa[h]
   .have aB:=afE (r:=r) c aC;have b:=afF (r:=r) k.toNat (hD a l) o;rw[tv aC] at b;have f:=Yk (v:=zO (hD a l)) aB;rw[au rfl] at f;have:=m3 d;unfold tN;simp[b,e5];omega
 .rw[aC];simp[yG,nN,jE];refine⟨⟨λx aa=>?_,λx aa=>?_⟩,?_⟩
  .rcases vh aa with h|h
   .exact g.jB x h
   .rwa[h]
  .rcases vh aa with h|h
   .exact g.wf x h
   .rwa[h]
  .have aB:=afE (r:=r) c aC;have b:=afF (r:=r) k.toNat l o;have f:=Yk (v:=zO l) aB;rw[ai aF] at f;have:=arf l;unfold tN;simp[b,e5];omega
def aEt{r s k w}(h:s.eg=k::w):tN r ⟨s.ah,s.cm,w⟩+1=tN r s:=by
 unfold tN;rw[h];simp[e5];omega
def ari r:∀(ls:List (List cX)) (a:List Bool),(∀l∈ls,l.length<=r)->(w2 r ls a).sum<=ls.length*(r+1)
 | [],_,_=>by simp[w2]
 | _::_,[],_=>by simp[w2]
 | l::ls,b::a,h=>by
  have d:=ari r ls a λx aa=>h x yO;have J:=arf l;have c:=h l aF;rw[w2,nP,e5,uu];split<;>omega
structure aEu(a:c9)(f:Int):Prop where
 b9:a.b9<=f
 out:a.out.length<=100000000
 bU:a.bU.length<=100000000
def Yl B(t:∀i b,B.m i=some b->i<B.n) p(u:p.ok)(o:C1 p) k f j d1 g d2(bh:nH B k p f j d1 g d2) b2 bI(bu:Int)(d:0<=bu/\bu<=1000000)(N:Nat)(A:bu<N):aEu (wZ p N b2 bI bu) bu:=by
 unfold wZ;by_cases aM:gy p=true
 .rw[au aM];have s:=o.run u aM;unfold gy at aM;simp[cA,ed] at aM;have⟨⟨⟨⟨l,z⟩,x⟩,G⟩,F⟩:=aM;obtain⟨n,ak⟩:∃n:Nat,p.data=n:=⟨p.data.toNat,U⟩;have y:(nV p b2 bI).length=n:=by rw[aqC,ak];rfl
  unfold gS;generalize e:List.replicate 416000 (0:Int)=c;have q:c.length=416000:=e▸rz;clear e;have⟨J,_,v⟩:=(aqu B t p s k f j d1 g d2 bh N 101 (HN bu (nV p b2 bI) c) p.fA [] ⟨⟨alL,by show c.length<=_;omega,⟨sl _,d.1⟩,d.2,Vq,Vq,⟨by show(0:Int)<=0;omega,by show(0:Int)<=101;omega⟩⟩,rfl,q,ak1,sl _,by show(101:Int)<=0+101;omega,by show(0:Int)<=100;omega,by show bu-0<N;omega⟩ (by rw[l];rfl) (λa aJ=>yU)).2;generalize cH p N 101 (HN bu (nV p b2 bI) c) p.fA []=r at *;have w:r.2.bu=bu:=v.bu;have C:=J.b9;have E:=J.out;have D:=J.bU;unfold HO;split
  .exact⟨by show r.2.b9<=bu;omega,by show r.2.out.length<=_;omega,by show r.2.bU.length<=_;omega⟩
  .exact⟨U,U,U⟩
 .exact ai aM▸⟨d.1,bo,bo⟩
def aEv{α w sz b e H R}(g:∀a,(w a).length=sz)(k:∀a,R (w a) a)(d f:List α)(hm:H.m b=some ⟨⟨((d++f).map w).flatten⟩,e⟩):c0 H (some ⟨b,0,none⟩) sz d R:=by
 have yW:∀c∈(d++f).map w,c.length=sz:=by intro c aB;obtain⟨_,_,rfl⟩:=ih.1 aB;exact g _
 refine⟨λi x aa=>⟨b,0,_,e,rfl,hm,?_,?_⟩⟩
 .have ag:=(cS.1 aa).1;rw[yi yW,fI,iM];have:(i+1)*sz<=(d.length+f.length)*sz:=I2 _ U;rw[uu] at this;omega
 .have ag:=(cS.1 aa).1;have aJ:((d++f).map w)[i]?=some (w x):=by rw[gf,ur ag,aa];rfl
  have:cr (0+i*sz) sz ((d++f).map w).flatten=w x:=by
   rw[hs];apply kg;intro j;rw[tl];by_cases aA:j<sz
   .exact aks
   .rw[ai aA,wh (by rw[g];omega)]
  exact this▸k x
def Ym{α w sz b e H R}(d:∀a,(w a).length=sz)(c:∀a,R (w a) a)(x l:List α)(hm:H.m b=gQ w e (x++l)):c0 H (if x++l=[] then none else some ⟨b,0,none⟩) sz l.reverse R:=by
 by_cases h:x++l=[]
 .have:l=[]:=by simp at h;exact h.2
  subst this;exact c0.nil
 .rw[ai h];rw[aEw h,aaD] at hm;exact aEv d c _ _ hm
end
end Go.Proofs.YtplleokmejppjaaGreatDoor
