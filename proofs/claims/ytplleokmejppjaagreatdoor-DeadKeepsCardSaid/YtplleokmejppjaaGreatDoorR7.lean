/- Contracts of functions that the law reaches -/
import Derived.Test.YtplleokmejppjaaGreatDoorR6
set_option linter.all false
set_option maxHeartbeats 9999999
set_option maxRecDepth 100000
namespace Go.Proofs.YtplleokmejppjaaGreatDoor
open Go.AH
open Go.Proofs.Tryz
section
attribute[local irreducible] W ad
def kA(r:dc):Nat->List bG->List bG
 | _,[]=>[]
 | i,b::bv=>if cU r i=true then b::kA r (i+1) bv else kA r (i+1) bv
def aNa r:∀(bv:List bG) (i:Nat),bC (kA r i bv)=jl r i (bC bv):=by
 intro bv;induction bv with
 | nil=>intro i;rfl
 | cons b bv a =>
  intro i;have e:bC (b::bv)=b.s::bC bv:=rfl;rw[e,kA,jl];split
  .show b.s::bC _=_;rw[a]
  .exact a _
def aNb r:∀(bv:List bG) (j i:Nat) (b:bG),bv[i]?=some b->kA r j (bv.take (i+1))=kA r j (bv.take i)++(if cU r ((j+i:Nat):Int)=true then[b] else[]):=by
 intro bv;induction bv with
 | nil=>intro j i b h;simp at h
 | cons a bv c =>
  intro j i b h;rcases i with _|i
  .simp[kC,dh] at h;subst h;simp[wi,xp,kA,nq,UC]
  .have:=c (j+1) i b lM;rw[wi,wi,kA,kA,this];rw[(U:j+1+i=j+(i+1))];split<;>simp
def awg r:∀(bv:List bG) (i:Nat) (b:bG),b∈kA r i bv->b∈bv:=by
 intro bv;induction bv with
 | nil=>exact λi b h=>h
 | cons a bv c =>
  intro i b h;rw[kA] at h;split at h
  .rcases dI.1 h with e|e
   .exact dI.2 (.inl e)
   .exact IT _ (c _ _ e)
  .exact IT _ (c _ _ h)
def aNc r:∀(bv:List bG) (i n k:Nat),k<bv.length->(pF r bv.length i n)[k]?=some ((n+(kA r i (bv.take k)).length:Nat):Int):=by
 intro bv;induction bv with
 | nil=>intro i n k h;simp at h
 | cons a bv b =>
  intro i n k h;rcases k with _|k
  .simp[pF,kA]
  .rw[e5,pF,pg,b (i+1) _ k lM,wi,kA];split
   .simp only[e5];congr 2;omega
   .rfl
def aNd r:∀(m i n:Nat),(pF r m i n).length=m:=by
 intro m;induction m with
 | zero=>intro i n;rfl
 | succ m a=>intro i n;rw[pF,e5,a]
def aNe{r bv}:∀{i:Nat},(∀(a b:Nat) (x y:bG),bv[a]?=some x->bv[b]?=some y->x.ah≠[]->y.ah≠[]->x.r=y.r->a=b) ->
 ∀(a b:Nat) (x y:bG),(kA r i bv)[a]?=some x->(kA r i bv)[b]?=some y->x.ah≠[]->y.ah≠[]->x.r=y.r->a=b:=by
 induction bv with
 | nil=>intro i _ a b x y h;simp[kA] at h
 | cons c bv n =>
  intro i aC;have m:∀(a b:Nat) (x y:bG),bv[a]?=some x->bv[b]?=some y->x.ah≠[]->y.ah≠[]->x.r=y.r->a=b:=λa b x y J ab l f d=>by
   have:=aC (a+1) (b+1) x y p0 tn l f d;omega
  rw[kA];split
  .intro a b x y J ab l f d;have g:∀{k:Nat}{z:bG},(kA r (i+1) bv)[k]?=some z->z.ah≠[]->c.ah≠[]->c.r≠z.r:=by
    intro k z q o s e;have⟨j,aA⟩:=nO.1 (awg r bv _ _ (bQ q));have:=aC 0 (j+1) c z aF Qu s o e;omega
   rcases a with _|a
   .simp[kC,dh] at J;subst J;rcases b with _|b
    .rfl
    .exact absurd d (g tn f l)
   .rcases b with _|b
    .simp[kC,dh] at ab;subst ab;exact absurd d.symm (g p0 l f)
    .have:=n m a b x y p0 tn l f d;omega
  .exact n m
def aec{k}:∀(l:List Int) (s:dc) (w:List Int),cU s k=true->cU (pE s w l).1 k=true:=by
 intro l;induction l with
 | nil=>exact λs w h=>h
 | cons a l b =>
  intro s w h;unfold pE;split
  .exact b _ _ h
  .exact b _ _ (by rw[CR,h];simp)
def aNf{bl k}:∀(m:Nat) (s:dc) (w:List Int),cU s k=true->cU (A5 bl m s w) k=true:=by
 intro m;induction m with
 | zero=>exact λs w h=>h
 | succ m a =>
  intro s w h;rcases w with _|⟨n,w⟩
  .exact h
  .rw[A5];exact a _ _ (aec _ _ _ h)
def aeg{bl}(h:0<bl.length):cU (gW bl) 0=true:=by
 rw[gW,ai U];refine aNf _ _ _ ?_;rw[CR,QE];simp;exact .inr U
def ints_set(l:List Int)i v:eB (l.map (.int .i64)) (0+i*1) [.int .i64 v]=(l.set i v).map (.int .i64):=by
 rw[wV,u1,xu,ff,iV]
def aNg n:nd (ei (.int .i64 0)) n=(List.replicate n (0:Int)).map (.int .i64):=by
 induction n with
 | zero=>rfl
 | succ n a=>rw[nd,a,DY];rfl
def hY.Ps{h H a bv}(o:hY h a bv)(hu:∀i b,h.m i=some b->b.elem≠53->H.m i=some b):hY H a bv :=
 ⟨o.rw,hu _ _ o.m aF,λb I ak=>⟨(o.row b I ak).1,hu _ _ (o.row b I ak).2 aF⟩,λb I x aa ak=>⟨(o.arg b I x aa ak).1,hu _ _ (o.arg b I x aa ak).2 aF⟩,o.c4⟩
def aNh h O bv f bj aW a8 aT bn(qI:f.blocks=bC bv)(hx:0<bv.length)(dO:bv.length<=100000)(je:hY h O bv)(rV:im (bC bv)):
 dw Tryz.prog 42 [.agg ⟨dj f bj aW a8 aT (some ⟨O,0,none⟩) bn⟩] h (λv aw=>∃D tD,v=.agg ⟨dj {f with blocks:=lf (bC bv)} bj aW a8 aT (some ⟨D,0,none⟩) (dF 9)⟩/\hY aw D tD/\bC tD=lf (bC bv)/\cW h aw/\∀i,mm D tD i->mm O bv i\/h.n<=i):=by
 refine dw.i Tryz.func42 Tryz.ntmps42 λπ bF=>?_;conv=>arg 2;whnf
 have aq:=bF.aO;have LK:f.blocks.length=bv.length:=ab1;have Tq:bC bv≠[]:=by
  intro e;have h0:(bC bv).length=0:=qH;rw[jF] at h0;omega
 have LD:(bC bv).length<=100000:=Jh;refine Hq ?_;refine W.hH λds pD R=>?_;have bz:ds.m (π 0)=bS (dj f bj aW a8 aT (some ⟨O,0,none⟩) bn) 53:=R.bJ 0 (eQ kP (hr 1));have eA:h.n<=π 0:=R.bL 0 (eQ kP (hr 1));have oi:h.n<=π 1:=R.bL 1 (dN 1);have N:ds.m (π 1)=bS (ei (.agg ⟨dj ⟨⟨#[]⟩,0,0,0,[],[]⟩ none 0 none 0 none 0⟩)) 53:=R.bJ 1 (dN 1);have aNi:π 0≠π 1:=λe=>absurd (R.inj 0 1 (eQ kP (hr 1)) (dN 1) e) bo;generalize π 0=aR at *;generalize π 1=ct at *;have uM:=bx bF.rw oi;have v8:=bx bF.rw eA;have wL:=Iz.at ⟨bz,v8⟩ (je.up R.up) LK;apply W.seq;repeat(first|apply ad.gC;rfl;rfl;rfl;intro dA bW;refine⟨_,avU aR f.ae (cV O) bn (bC bv) Tq LD rV dA (wL.up bW.up),?_⟩;rintro v H1 fo ⟨qY,CA,rfl,nA,hy,BF⟩ gM re|refine J9 ?_)
 have awi:=(bW.bk.trans hy).up R.aO;replace bz:=awi _ _ bz;replace N:=awi _ _ N;replace gh:=gM.aO _ _ bz;have Ft:=R.bk.trans (bW.bk.trans hy);have av6:∀a,qY=some a->h.n<=a.block:=λa aJ=>bx (bx R.le bW.le) (BF a aJ);apply W.seq;repeat(first|refine sO ?_|apply ad.M5;(iterate 6 rfl);omega;exact aNg _;(intro u hu;obtain⟨w,_,rfl⟩:=ih.1 hu;exact acg _ _ _)|(with_reducible first|apply ad.assign|apply ad.qg|apply ad.fieldAddr);iterate 3 rfl|refine gr ?_)
 refine uU ?_;apply W.seq;refine W.hH λB2 fE a2=>?_;have Ax:B2.m (fo 0)=bS ((List.replicate f.blocks.length (0:Int)).map (.int .i64)) 3:=a2.bJ 0 (dN 0);have cN:H1.n<=fo 0:=a2.bL 0 (dN 0);generalize fo 0=aU at *;have aNj:=bx gM.rw cN;replace bz:=a2.up _ _ bz;replace N:=a2.up _ _ N;have Tw:=Ft.trans a2.bk;replace nA:=fx nA a2.up;generalize nG:gW (bC bv)=r at *;have hM:r.length<=1000000000:=by rw[<-nG,ah4,jF];omega
 have aNk:=a2.aO _ _ bz;replace gh:=aNk;apply W.seq;repeat(first|refine sO ?_|refine vv ?_|refine tA ?_)
 refine W.hz (X:=Nat×List Int×Nat) (λx=>[(1,cE aR),(2,cE ct),(3,.slice qY r.length CA),(4,.slice (cV aU) f.blocks.length f.blocks.length),(5,cD 9 x.2.2 ((kA r 0 (bv.take x.1)).map bG.c)),(16,.slice (cV O) f.blocks.length bn),(17,bm (f.blocks.length:Int)),(18,bm (x.1:Int))])
  (λx B=>x.1<=bv.length/\cW h B/\B.m aR=bS (dj f bj aW a8 aT (some ⟨O,0,none⟩) bn) 53/\B.m ct=bS (ei (.agg ⟨dj ⟨⟨#[]⟩,0,0,0,[],[]⟩ none 0 none 0 none 0⟩)) 53/\fR B qY r/\(x.2.1.length=bv.length/\B.m aU=bS (x.2.1.map (.int .i64)) 3/\∀k,k<x.1->x.2.1[k]?=some (((kA r 0 (bv.take k)).length:Nat):Int))/\(kA r 0 (bv.take x.1)≠[]->df<=x.2.2/\h.n<=x.2.2/\B.m x.2.2=bS (((kA r 0 (bv.take x.1)).map bG.c).flatten) 48)) (λx=>bv.length-x.1)
  (λaD a=>⟨(0,List.replicate f.blocks.length 0,0),?_,⟨dG _,Tw.trans a.bk,a.up _ _ bz,a.up _ _ N,fx nA a.up,⟨by simp[LK],a.up _ _ Ax,λk aj=>U⟩,λak=>absurd Vu ak⟩⟩) ?_
 .rw[xp];exact ca
 rintro⟨i,p,D⟩ B fj dd ⟨ag,eC,bz,N,aC,⟨kY,ek,Pt⟩,du⟩;dsimp only at ag eC bz N aC kY ek Pt du|-;have bV:=je.up (eC.up aq);have eF:=bV.m;have te:=dd.aO _ _ eF;by_cases bs:i<bv.length
 .obtain⟨b,I⟩:=cR bv i bs;have RA:b8 (i:Int):=Jk;have xL:(kA r 0 (bv.take (i+1)))=kA r 0 (bv.take i)++(if cU r (i:Int)=true then[b] else[]):=by
   have:=aNb r bv 0 i b I;rwa[ff] at this
  generalize awj:kA r 0 (bv.take i)=E at *;refine CI ?_;refine CJ ?_;refine zs ?_;apply W.seq;repeat(first|refine er ?_|apply ad.hF;rfl;rfl;rfl;exact eF;exact te;exact(Dz I U).2;exact(Dz I U).1|refine fi ?_|refine EL ?_)
  refine W.hH λZ rj Q=>?_;have aG:Z.m (fj 0)=bS (kq b.s b.A b.k) 48:=Q.bJ 0 (dN 0);generalize fj 0=q at *;have aid:=Q.up _ _ ek;have aNl:=Q.aO _ _ aid;have aSY:E.length<=bv.length:=by
   have:∀(l:List bG) (j:Nat),(kA r j l).length<=l.length:=by
    intro l;induction l with
    | nil=>intro j;simp[kA]
    | cons a l aP =>
     intro j;have:=aP (j+1);rw[kA];split<;>simp<;>omega
   have J:=this (bv.take i) 0;rw[awj] at J;simp at J;omega
  apply W.seq;repeat(first|refine er ?_|refine Xu ?_|apply ad.gi;rfl;rfl;rfl;exact aid;exact aNl;exact aNj;(simp only[fI];omega);rfl;rfl;exact ints_set p i _|refine pw ?_|refine gr ?_)
  have eT:∀{j:Nat}{x:cd},Z.m j=some x->x.elem≠3->∀z,(Z.set aU z).m j=some x:=by
   intro j x aa he z;show(if j=aU then _ else _)=_;rw[ai (c2 aa aid he)];exact aa
  have F5:∀z,fR (Z.set aU z) qY r:=by
   intro z;have:=fx aC Q.up;rcases this with _|⟨hm,aM⟩
   .exact .none
   .exact .some (eT hm aF z) aM
  have ZD:=λz=>eT aG aF z;have aNm:=Q.aO _ _ aG;have qv:E≠[]->df<=D/\h.n<=D/\Z.m D=bS ((E.map bG.c).flatten) 48:=λak=>⟨(du ak).1,(du ak).2.1,Q.up _ _ (du ak).2.2⟩;have awk:∀(z:cd) (Ip:aV),(∀j x,(Z.set aU z).m j=some x->Ip.m j=some x)->E.map bG.c≠[]->df<=D/\Ip.m D=bS ((E.map bG.c).flatten) 48:=by
   intro z Ip hu ak;have ak:E≠[]:=λe=>ak qH;exact⟨(qv ak).1,hu _ _ (eT (qv ak).2.2 aF z)⟩
  have y5:∀k,k<i+1->(p.set i ((E.map bG.c).length:Int))[k]?=some (((kA r 0 (bv.take k)).length:Nat):Int):=by
   intro k aj;rw[fl];by_cases e:i=k
   .subst e;rw[au rfl,au U,awj,fI]
   .rw[ai e];exact Pt k U
  have awl:(p.set i ((E.map bG.c).length:Int)).length=bv.length:=by rw[mq];exact kY
  have nB:=Q.up _ _ bz;have ZH:=Q.up _ _ N;have aNn:=bx Ft.1 cN;have aie:∀z,cW h (Z.set aU z):=by
   intro z;exact((eC.trans Q.bk).off.dB ((cT.set Z aU z).mono (T:=λj=>h.n<=j) λj _ e=>by rw[e];exact aNn)).cx λj aA e=>U
  apply W.seq;repeat(first|apply ad.jy;rfl;rfl;rfl;exact λuQ n6=>Rz r _ _ (i:Int) RA hM uQ (fx (F5 _) n6.up)|refine pw ?_|refine gr ?_)
  repeat'((first|(refine c7 ?_ ?_)<;>intro _)<;>repeat(first|apply ad.hF;rfl;rfl;rfl;exact ZD _;exact aNm;exact iu;rfl|refine gP ?_|apply ad.Sw (v:=kq b.s b.A b.k) (L:=E.map bG.c);(iterate 6 rfl);exact λIp BA=>⟨BA.bJ 0 (dN 0),λak=>awk _ Ip BA.up ak⟩;exact Tu E;rfl;rfl;(rw[fI];omega);(rw[fI];omega);intro gL Y GP hJ yf s3 FU OS oc lJ|refine fi ?_|refine jj ?_|refine lB ?_|(with_reducible first|apply W.skip|apply fr|apply rM)))
  .have b5:=‹cU r (i:Int)=true›;rw[au b5] at xL;have ba:(E++[b]).map bG.c=E.map bG.c++[kq b.s b.A b.k]:=by rw[pW,<-Pn];rfl
   have C2:∀{j:Nat}{x:cd},gL.m j=some x->x.elem≠48->hJ.m j=some x:=by
    intro j x aa he;rw[lJ j (Y.aO _ _ aa) λak e=>by
     have:=(awk _ gL Y.up ak).2;rw[<-e,aa] at this;injection this with this;rw[this] at he;exact he rfl]
    exact aa
   have aNo:cW h hJ:=by
    refine(((aie _).trans Y.bk).off.dB (S:=λj=>h.n<=j) ⟨oc,λj aA ak=>lJ j aA λaNp e=>ak ?_⟩).cx λj aA e=>U;rw[e];exact(qv λe=>aNp qH).2.1
   have awm:=bx (bx (aie ⟨⟨(p.set i ((E.map bG.c).length:Int)).map (.int .i64)⟩,3⟩).1 Y.le) FU;refine eK rfl λaD a=>⟨(i+1,p.set i ((E.map bG.c).length:Int),GP),?_,⟨U,aNo.trans a.bk,a.up _ _ (C2 (Y.up _ _ (eT nB aF _)) aF),a.up _ _ (C2 (Y.up _ _ (eT ZH aF _)) aF),?_,⟨awl,a.up _ _ (C2 (Y.up _ _ akE) aF),y5⟩,?_⟩,?_⟩
   .dsimp only;rw[xL,ba];exact ca
   .have:=fx (F5 ⟨⟨(p.set i ((E.map bG.c).length:Int)).map (.int .i64)⟩,3⟩) Y.up;rcases this with _|⟨hm,aM⟩
    .exact .none
    .exact .some (a.up _ _ (C2 hm aF)) aM
   .dsimp only;rw[xL,ba];exact λ_=>⟨bx bF.rw awm,awm,a.up _ _ OS⟩
   .show bv.length-(i+1)<bv.length-i;omega
  .have b5:=‹cU r (i:Int)=false›;rw[ai (by rw[b5];simp),l2] at xL;refine eK rfl λaD a=>⟨(i+1,p.set i ((E.map bG.c).length:Int),D),?_,⟨U,(aie _).trans a.bk,a.up _ _ (eT nB aF _),a.up _ _ (eT ZH aF _),fx (F5 _) a.up,⟨awl,a.up _ _ akE,y5⟩,?_⟩,?_⟩
   .dsimp only;rw[xL];exact ca
   .dsimp only;rw[xL];exact λak=>⟨(qv ak).1,(qv ak).2.1,a.up _ _ (eT (qv ak).2.2 aF _)⟩
   .show bv.length-(i+1)<bv.length-i;omega
 .have tT:i=bv.length:=U;subst tT;rw[mv] at *;generalize Tx:kA r 0 bv=C at *;have awn:C≠[]:=by
   rw[<-Tx];rcases bv with _|⟨b,bv⟩
   .simp at hx
   .have a7:cU r 0=true:=by rw[<-nG];exact aeg (by rw[jF];exact hx)
    have a7:cU r ((0:Nat):Int)=true:=a7;rw[kA,au a7];simp
  obtain⟨w1,ayQ,zN⟩:=du awn;have OW:p=pF r bv.length 0 0:=by
   apply kg;intro k;by_cases aj:k<bv.length
   .rw[Pt k aj,aNc r bv 0 0 k aj,ff]
   .rw[tj.2 U,tj.2 (by rw[aNd];omega)]
  have ZI:=λb I=>awg r bv 0 b (by rw[Tx];exact I);have aNq:hY B D C:=⟨w1,zN,λb I ak=>bV.row b (ZI b I) ak,λb I=>bV.arg b (ZI b I),by rw[<-Tx];exact aNe bV.c4⟩;have aSZ:C.length<=bv.length:=by
   have:∀(l:List bG) (j:Nat),(kA r j l).length<=l.length:=by
    intro l;induction l with
    | nil=>intro j;simp[kA]
    | cons a l aP =>
     intro j;have:=aP (j+1);rw[kA];split<;>simp<;>omega
   have J:=this bv 0;rwa[Tx] at J
  obtain⟨F,Ty⟩:∃F:Nat->List bG,∀k,F k=(C.take k).map (λb=>{b with av:=hX p b.av})++C.drop k:=⟨_,λk=>rfl⟩;have aNr:F 0=C:=by rw[Ty];simp
  have aif:∀k,(F k).length=C.length:=by intro k;rw[Ty];simp;omega
  have aNs:∀k b,C[k]?=some b->(F k)[k]?=some b/\F (k+1)=(F k).set k {b with av:=hX p b.av}:=by
   intro k b I;have aj:=(cS.1 I).1;have jL:((C.take k).map (λb=>{b with av:=hX p b.av})).length=k:=jf;obtain⟨_,iQ⟩:=cS.1 I;have pG:C.drop k=b::C.drop (k+1):=by rw[sq aj,iQ]
   rw[Ty,Ty];constructor
   .rw[oI U,jL,sr,pG];rfl
   .rw[P3 _ _ U,jL,sr,pG,BZ,BX aj,iQ];simp
  have M3:=Bh (sz:=9) (r:=D) (l:=C.map bG.c) (by simpa using awn);refine Hr ?_;refine Hs ?_;apply W.seq;apply W.seq;repeat(first|refine Xu ?_|refine pw ?_|refine tA ?_)
  refine W.hz (X:=Nat) (λk=>[(1,cE aR),(2,cE ct),(4,.slice (cV aU) f.blocks.length f.blocks.length),(5,.slice (cV D) (C.map bG.c).length (dF 9)),(37,bm ((C.map bG.c).length:Int)),(38,bm (k:Int))])
   (λk B=>k<=C.length/\cW h B/\B.m aR=bS (dj f bj aW a8 aT (some ⟨O,0,none⟩) bn) 53/\B.m ct=bS (ei (.agg ⟨dj ⟨⟨#[]⟩,0,0,0,[],[]⟩ none 0 none 0 none 0⟩)) 53/\B.m aU=bS (p.map (.int .i64)) 3/\hY B D (F k)) (λk=>C.length-k)
   (λaD a=>⟨0,?_,⟨dG _,eC.trans a.bk,a.up _ _ bz,a.up _ _ N,a.up _ _ ek,by rw[aNr];exact aNq.up a.up⟩⟩) ?_
  .rw[<-M3];exact ca
  intro k G C9 DA aNt;obtain⟨aS0,Fm,Ak,DB,LL,Tz⟩:=aNt;have Xq:=DA.aO _ _ Ak;have aoG:=DA.aO _ _ DB;have aih:=DA.aO _ _ LL;have M:=Tz.m;have V:=DA.aO _ _ M;have tF:(C.map bG.c).length=C.length:=fI _;by_cases jL:k<C.length
  .obtain⟨b,I⟩:=cR C k jL;obtain⟨ht,lQ⟩:=aNs k b I;have IB:=ZI b (bQ I);have Ib:=rV b.s (by unfold bC;exact GF IB);have aii:∀{t:Int}{g:Nat},t=(g:Int)->g<bv.length->∃yQ,p[t.toNat]?=some yQ/\(p.map (Value.int .i64))[0+g*1]?=some (bm yQ):=by
    intro t g e bf;have a1:t.toNat=g:=U;exact⟨p[g],by rw[a1];exact ey U,aF⟩
   by_cases fV:b.av.bp=1
   .have xz:=Ib b.av.goto ak9;rw[jF] at xz;obtain⟨g,bf⟩:∃g:Nat,b.av.goto=(g:Int):=⟨b.av.goto.toNat,U⟩;obtain⟨yQ,LM,aij⟩:=aii bf U;have TA:hX p b.av={b.av with goto:=yQ}:=by unfold hX;rw[au fV,LM];rfl
    rw[TA] at lQ;have tS:∀{j:Nat}{x:cd},G.m j=some x->x.elem≠48->∀z,(G.set D z).m j=some x:=by
     intro j x aa he z;show(if j=D then _ else _)=_;rw[ai (c2 aa M he)];exact aa
    have aik:∀z,cW h (G.set D z):=λz=>(Fm.off.dB ((cT.set G D z).mono (T:=λj=>h.n<=j) λj _ e=>ab7)).cx λj aA e=>U;repeat(first|refine er ?_|(apply ad.dv;rfl;rfl;rfl;first|exact M;exact V;exact abX|exact M;exact V;exact vl (o:=7) ht U bo rfl|exact LL;exact aih;exact aij)|refine Xh ?_|apply ad.gi;rfl;rfl;rfl;exact M;exact V;exact w1;exact(w7 (o:=7) (n:=1) ht U bo).2;rfl;rfl;exact ajX|refine qi ?_|refine la ?_|refine kW ?_)
    repeat'(first|(refine c7 ?_ ?_)<;>intro _)
    refine eK rfl λaD a=>⟨k+1,ca,⟨U,(aik _).trans a.bk,a.up _ _ (tS Ak aF _),a.up _ _ (tS DB aF _),a.up _ _ (tS LL aF _),by rw[lQ];exact(Tz.Db ht _).up a.up⟩,?_⟩
    .show C.length-(k+1)<C.length-k;omega
   .by_cases hk:b.av.bp=2
    .have xz:=Ib b.av.goto Vb;have Tm:=Ib b.av.dx Vb;rw[jF] at xz Tm;obtain⟨g,bf⟩:∃g:Nat,b.av.goto=(g:Int):=⟨b.av.goto.toNat,U⟩;obtain⟨g2,oa⟩:∃g:Nat,b.av.dx=(g:Int):=⟨b.av.dx.toNat,U⟩;obtain⟨yQ,LM,aij⟩:=aii bf U;obtain⟨ail,asj,aNu⟩:=aii oa U;have TA:hX p b.av={b.av with goto:=yQ,dx:=ail}:=by unfold hX;rw[ai fV,au hk,LM,asj];rfl
     rw[TA] at lQ;have TB:=Tz.Db ht {b.av with goto:=yQ};have aNv:=TB.m;have hg:((F k).set k {b with av:={b.av with goto:=yQ}})[k]?=some {b with av:={b.av with goto:=yQ}}:=by rw[fl,au rfl,au (by rw[aif];exact jL)]
     have ZJ:=TB.Db hg {b.av with goto:=yQ,dx:=ail};rw[aV.set_set] at ZJ;have tS:∀{j:Nat}{x:cd},G.m j=some x->x.elem≠48->∀z,(G.set D z).m j=some x:=by
      intro j x aa he z;show(if j=D then _ else _)=_;rw[ai (c2 aa M he)];exact aa
     have aik:∀z,cW h (G.set D z):=λz=>(Fm.off.dB ((cT.set G D z).mono (T:=λj=>h.n<=j) λj _ e=>ab7)).cx λj aA e=>U;repeat(first|refine er ?_|(apply ad.dv;rfl;rfl;rfl;first|exact M;exact V;exact abX|exact M;exact V;exact vl (o:=7) ht U bo rfl|exact M;exact V;exact vl (o:=8) ht U bo rfl|exact LL;exact aih;exact aij|exact LL;exact aih;exact aNu)|(apply ad.qf;(iterate 4 rfl);first|exact bf;omega|exact oa;omega)|(apply ad.gi;rfl;rfl;rfl;first|exact M;exact V;exact w1;exact(w7 (o:=7) (n:=1) ht U bo).2;rfl;rfl;exact ajX|exact aNv;exact V;exact w1;exact(w7 (o:=8) (n:=1) hg U bo).2;rfl;rfl;exact xD (o:=8) (b':={b with av:={b.av with goto:=yQ,dx:=ail}}) hg U (dM rfl) rfl)|refine qi ?_|refine nC ?_|refine jj ?_|refine kW ?_|refine oR ?_)
     repeat'(first|(refine c7 ?_ ?_)<;>intro _)
     rw[aV.set_set];refine eK rfl λaD a=>⟨k+1,ca,⟨U,(aik _).trans a.bk,a.up _ _ (tS Ak aF _),a.up _ _ (tS DB aF _),a.up _ _ (tS LL aF _),?_⟩,?_⟩
     .have:=ZJ.up a.up;rw[qF] at this;rw[lQ];exact dm
     .show C.length-(k+1)<C.length-k;omega
    .have TA:hX p b.av=b.av:=by unfold hX;rw[ai fV,ai hk]
     rw[TA] at lQ;have yg:F (k+1)=F k:=by
      rw[lQ];apply kg;intro j;rw[fl];by_cases e:k=j
      .subst e;rw[au rfl,au (by rw[aif];exact jL),ht]
      .rw[ai e]
     repeat(first|refine er ?_|apply ad.dv;rfl;rfl;rfl;exact M;exact V;exact abX|refine qi ?_|refine nC ?_|refine jj ?_|refine kW ?_|refine oR ?_)
     repeat'(first|(refine c7 ?_ ?_)<;>intro _)
     refine eK rfl λaD a=>⟨k+1,ca,⟨U,Fm.trans a.bk,a.up _ _ Ak,a.up _ _ DB,a.up _ _ LL,by rw[yg];exact Tz.up a.up⟩,?_⟩
     .show C.length-(k+1)<C.length-k;omega
  .have q7:k=C.length:=U;have awo:F k=C.map (λb=>{b with av:=hX p b.av}):=by rw[Ty,q7];simp
   have Pl:bC (F k)=lf (bC bv):=by
    unfold lf;rw[awo,nG,<-aNa,Tx,jF,<-OW];simp[bC,bG.s]
   have aNw:(C.map bG.c).length=(lf (bC bv)).length:=by rw[<-Pl,jF,aif,tF]
   rw[aNw];have rG:=aNi;have ao2:∀X,(G.set aR X).m aR=some X:=λX=>U2;have aoF:∀X,(G.set aR X).m ct=bS (ei (.agg ⟨dj ⟨⟨#[]⟩,0,0,0,[],[]⟩ none 0 none 0 none 0⟩)) 53:=λX=>by
    show(if ct=aR then _ else G.m ct)=_;rw[ai (λe=>rG e.symm)];exact DB
   repeat(first|apply ad.gi;rfl;rfl;rfl;exact Ak;exact Xq;exact v8;exact iu;rfl;rfl;exact(show eB (dj f bj aW a8 aT (cV O) bn) (0+5) [.slice (cV D) (lf (bC bv)).length (dF 9)]=dj {f with blocks:=lf (bC bv)} bj aW a8 aT (cV D) (dF 9) from rfl)|refine ao1 ?_|refine aoE ?_|refine n4 ?_|refine uS ?_)
   refine cf _ (.cons (.rk (vs:=dj {f with blocks:=lf (bC bv)} bj aW a8 aT (cV D) (dF 9)) rfl GI (dM rfl) rfl) .nil) λaD a=>⟨D,F k,rfl,?_,Pl,by refine((Fm.off.dB (S:=λj=>h.n<=j) ((cT.set G aR _).mono λj _ e=>by rw[e];exact eA)).dB ((cT.set _ ct _).mono λj _ e=>by rw[e];exact oi)).dB a.bk.off |>.cx λj aA e=>U,?_⟩
   .refine Tz.Ps λj x aa he=>a.up _ _ ?_;show(if j=ct then _ else(if j=aR then _ else G.m j))=_;rw[ai (c2 aa DB he),ai (c2 aa Ak he)];exact aa
   .rintro j (e|⟨x,aa,jJ,Bz⟩)
    .exact .inr ab7
    .rw[awo] at aa;obtain⟨y,aN,rfl⟩:=ih.1 aa;exact .inl (.inr ⟨y,ZI y aN,jJ,Bz⟩)
def aNx{h B a b bv}(aH:cT (mm a b) h B)(c:∀i,mm a bv i->mm a b i\/h.n<=i){i}(ag:i<h.n)(aa:mm a bv i):mm a b i:=by
 rcases c i aa with J|J
 .exact J
 .exact U
def aim{h n q o f s u y x r g B}(d:Ai h n q o f s u y x r g B){i b}(I:g[i]?=some b)t(aS:∀k∈di t,0<=k/\k<(bC g).length):
 Ai h n q o f s u y x r (g.set i {b with av:=t}) (B.set n ⟨⟨((g.set i {b with av:=t}).map bG.c).flatten⟩,48⟩):=by
 refine⟨d.bV.Db I t,⟨?_,d.fn.rw⟩,d.off.trans (cT.set B n _) λj _ e=>.inl e,λj z=>d.Dy j ((aMM I t j).1 z),by rw[mq];exact d.len,?_,?_⟩
 .show(if o=n then _ else B.m o)=_;exact ai (c2 d.fn.m d.bV.m aF)▸d.fn.m
 .rw[P9];exact Zy d.gV aS
 .have:=ah1 (c:={b with av:=t}) I;have A:=d.Tv;have C:({b with av:=t}:bG).ah.length=b.ah.length:=rfl;omega
def tv{α:Type}{l:List α}{i a}(h:l[i]?=some a):l.set i a=l:=by
 apply kg;intro j;rw[fl];by_cases e:i=j
 .subst e;rw[au rfl,au (cS.1 h).1,h]
 .rw[ai e]
def ain{bl}(aS:im bl){i:Nat}{b}(I:bl[i]?=some b){t}(e:nT bl b.av=t):∀k∈di t,0<=k/\k<bl.length:=e▸av4 aS (bQ I)
def aum h u bv f z A D C bn(qI:f.blocks=bC bv)(hx:0<bv.length)(dO:bv.length<=100000)(Y:hY h u bv)(rV:im (bC bv))(YS:BI bv<=1000000):
 dw prog 22 [.agg ⟨dj f z A D C (some ⟨u,0,none⟩) bn⟩] h (λv aw=>∃N T,v=.agg ⟨dj {f with blocks:=vD (bC bv)} z A D C (some ⟨N,0,none⟩) (dF 9)⟩/\hY aw N T/\bC T=vD (bC bv)/\cT (mm u bv) h aw/\∀i,mm N T i->mm u bv i\/h.n<=i):=by
 refine dw.intro (c:=(f22.body.getD .skip)) func22 ax ntmps22 ax λπ bF=>?_;conv=>arg 2;whnf
 have LK:f.blocks.length=bv.length:=ab1;refine Hq ?_;refine W.hH λds pD M=>?_;have bz:ds.m (π 0)=some ⟨⟨dj f z A D C (some ⟨u,0,none⟩) bn⟩,53⟩:=M.bJ 0 (eQ kP (hr 1));have eA:h.n<=π 0:=M.bL 0 (eQ kP (hr 1));have oi:h.n<=π 1:=M.bL 1 (dN 1);have w:ds.m (π 1)=some ⟨⟨ei (.agg ⟨dj ⟨⟨#[]⟩,0,0,0,[],[]⟩ none 0 none 0 none 0⟩)⟩,53⟩:=M.bJ 1 (dN 1);have rG:π 0≠π 1:=λe=>absurd (M.inj 0 1 (eQ kP (hr 1)) (dN 1) e) bo;generalize π 0=aR at *;generalize π 1=ct at *;have uM:=bx bF.rw oi;have v8:=bx bF.rw eA;have gh:=M.aO _ _ bz;have mE:=M.aO _ _ w;have agB:Ai h u bv aR f z A D C bn bv ds:=⟨Y.up M.up,⟨bz,v8⟩,M.bk.off,λi ag=>.inl ag,rfl,rV,YS⟩;apply W.seq;apply W.seq;repeat(first|refine sO ?_|refine vv ?_|refine tA ?_)
 refine W.hz (X:=Nat×List bG) (λx=>[(1,.pointer (some ⟨aR,0,none⟩)),(2,.pointer (some ⟨ct,0,none⟩)),(7,.int .i64 (f.blocks.length:Int)),(8,.int .i64 (x.1:Int))])
  (λx B=>Ai h u bv aR f z A D C bn x.2 B/\B.m ct=some ⟨⟨ei (.agg ⟨dj ⟨⟨#[]⟩,0,0,0,[],[]⟩ none 0 none 0 none 0⟩)⟩,53⟩/\x.1<=bv.length/\sS bv.length (bv.length-x.1) (bC x.2)=x5 (bC bv)) (λx=>bv.length-x.1)
  (λaD a=>⟨(0,bv),?_,⟨agB.up M.aO a.bk,a.up _ _ w,dG _,by show sS bv.length bv.length (bC bv)=_;rw[x5,jF]⟩⟩) ?_
 .exact ca
 rintro⟨i,b0⟩ B fj dd ⟨bd,w,ag,gw⟩;dsimp only at bd w ag gw|-;have uB:=dd.aO;have bz:=bd.fn.m;have gh:=uB _ _ bz;have mE:=uB _ _ w;have F:=bd.bV.m;have G:=uB _ _ F;have xW:=bd.len;have wL:=bd.fn.at bd.bV (by rwa[bd.len]);have W4:(bC b0).length<=100000:=Jh;have an0:∀b∈bC b0,b.ah.length<=1000000:=by
  intro b I;obtain⟨x,aa,rfl⟩:=ih.1 I;have J:=ah2 aa;have ab:=bd.Tv;show(x.ah.map (·.1)).length<=1000000;rw[fI];omega
 by_cases bs:i<bv.length
 .obtain⟨b,I⟩:∃b,b0[i]?=some b:=⟨_,ey U⟩;obtain⟨m,hm⟩:∃m,bv.length-i=m+1:=⟨bv.length-i-1,U⟩;have wJ:bv.length-(m+1)=i:=U;have AB:bv.length-(i+1)=m:=U;rw[hm,sS,wJ] at gw;have aNy:tt (bC b0) i=(bC b0).set i {b.s with av:=nT (bC b0) b.av}:=by rw[tt,vk I];rfl
  rw[aNy] at gw;have Ib:=bd.gV b.s (bQ (vk I));have S:∀{t:kt} (j:Nat) (x:cd),(B.set u ⟨⟨((b0.set i {b with av:=t}).map bG.c).flatten⟩,48⟩).m j=some x->j<(B.set u ⟨⟨((b0.set i {b with av:=t}).map bG.c).flatten⟩,48⟩).n:=by
   intro t j x aa;have aa:(if j=u then _ else B.m j)=some x:=aa;split at aa
   .rename_i e;rwa[e]
   .exact uB j x aa
  by_cases fV:b.av.bp=1
  .have xz:=Ib b.av.goto ak9;repeat(first|refine sO ?_|refine er ?_|refine qi ?_|refine la ?_|refine kW ?_|(apply ad.dv;rfl;rfl;rfl;first|exact F;exact G;exact abZ|exact F;exact G;exact vl (o:=7) I U bo rfl)|refine anY ?_|apply ad.gi;rfl;rfl;rfl;exact F;exact G;exact Y.rw;exact(w7 (o:=7) (n:=1) I U bo).2;rfl;rfl;exact ajW)
   repeat'(first|(refine c7 ?_ ?_)<;>intro _)
   have hT:nT (bC b0) b.av={b.av with goto:=jg (bC b0) b.av.goto}:=by rw[nT,au fV]
   refine eK rfl λaD a=>⟨(i+1,b0.set i {b with av:={b.av with goto:=jg (bC b0) b.av.goto}}),ca,⟨(aim bd I _ (ain bd.gV (vk I) hT)).up S a.bk,a.up _ _ ?_,U,aa7⟩,?_⟩
   .show(if ct=u then _ else B.m ct)=_;rwa[ai (c2 w F aF)]
   .show bv.length-(i+1)<bv.length-i;omega
  .by_cases hk:b.av.bp=2
   .have xz:=Ib b.av.goto Vb;have Tm:=Ib b.av.dx Vb;have TB:=bd.bV.Db I {b.av with goto:=jg (bC b0) b.av.goto};have YA:=TB.m;have lR:i<b0.length:=U;have hg:(b0.set i {b with av:={b.av with goto:=jg (bC b0) b.av.goto}})[i]?=some {b with av:={b.av with goto:=jg (bC b0) b.av.goto}}:=ak6;have ZJ:=TB.Db hg {b.av with goto:=jg (bC b0) b.av.goto,dx:=jg (bC b0) b.av.dx};have R:=ZJ.m;have iQ:((b0.set i {b with av:={b.av with goto:=jg (bC b0) b.av.goto}}).set i {b with av:={b.av with goto:=jg (bC b0) b.av.goto,dx:=jg (bC b0) b.av.dx}})[i]?=some {b with av:={b.av with goto:=jg (bC b0) b.av.goto,dx:=jg (bC b0) b.av.dx}}:=by rw[qF,fl,au rfl,au lR]
    repeat'(first|refine sO ?_|refine er ?_|refine qi ?_|refine nC ?_|refine jj ?_|refine k7 ?_|refine oq ?_|refine kW ?_|refine oR ?_|(apply ad.dv;rfl;rfl;rfl;first|exact F;exact G;exact abZ|exact F;exact G;exact vl (o:=7) I U bo rfl|exact F;exact G;exact vl (o:=8) I U bo rfl)|refine anY ?_|apply ad.lT true [];rfl;rfl;rfl;exact λH b7=>anZ aR f.ae _ bn (bC b0) b.av.dx Tm W4 an0 bd.gV H (wL.up (pk b7 uB));exact hS|(apply ad.gi;rfl;rfl;rfl;first|exact F;exact G;exact Y.rw;exact(w7 (o:=7) (n:=1) I U bo).2;rfl;rfl;exact ajW|exact YA;exact G;exact Y.rw;exact(w7 (o:=8) (n:=1) hg U bo).2;rfl;rfl;exact xD (o:=8) (b':={b with av:={b.av with goto:=jg (bC b0) b.av.goto,dx:=jg (bC b0) b.av.dx}}) hg U (dM rfl) rfl)|(apply ad.dv;rfl;rfl;rfl;first|exact R;exact G;exact vl (o:=7) iQ U bo rfl|exact R;exact G;exact vl (o:=8) iQ U bo rfl)|apply ad.gi;rfl;rfl;rfl;exact R;exact G;exact Y.rw;exact(KY iQ U).2;rfl;rfl;exact xD (o:=1) (b':={b with av:=rZ (jg (bC b0) b.av.goto)}) iQ U (dM rfl) rfl|(refine c7 ?_ ?_)<;>intro _)
    .have aG:=‹jg (bC b0) b.av.goto=jg (bC b0) b.av.dx›;have hT:nT (bC b0) b.av=rZ (jg (bC b0) b.av.goto):=by rw[nT,ai fV,au hk,au aG]
     rw[aV.set_set,aV.set_set,qF,qF];refine eK rfl λaD a=>⟨(i+1,b0.set i {b with av:=rZ (jg (bC b0) b.av.goto)}),ca,⟨(aim bd I _ (ain bd.gV (vk I) hT)).up S a.bk,a.up _ _ ?_,U,aa7⟩,?_⟩
     .show(if ct=u then _ else B.m ct)=_;rwa[ai (c2 w F aF)]
     .show bv.length-(i+1)<bv.length-i;omega
    .have aG:=‹¬jg (bC b0) b.av.goto=jg (bC b0) b.av.dx›;have hT:nT (bC b0) b.av={b.av with goto:=jg (bC b0) b.av.goto,dx:=jg (bC b0) b.av.dx}:=by unfold nT;rw[ai fV,au hk,ai aG]
     rw[aV.set_set,qF];refine eK rfl λaD a=>⟨(i+1,b0.set i {b with av:={b.av with goto:=jg (bC b0) b.av.goto,dx:=jg (bC b0) b.av.dx}}),ca,⟨(aim bd I _ (ain bd.gV (vk I) hT)).up S a.bk,a.up _ _ ?_,U,aa7⟩,?_⟩
     .show(if ct=u then _ else B.m ct)=_;rw[ai (c2 w F aF)];exact w
     .show bv.length-(i+1)<bv.length-i;omega
   .repeat(first|refine sO ?_|refine er ?_|apply ad.dv;rfl;rfl;rfl;exact F;exact G;exact abZ|refine qi ?_|refine nC ?_|refine jj ?_|refine kW ?_|refine oR ?_)
    repeat'(first|(refine c7 ?_ ?_)<;>intro _)
    have hT:nT (bC b0) b.av=b.av:=by unfold nT;rw[ai fV,ai hk]
    rw[hT] at gw;have gw:sS bv.length m ((bC b0).set i b.s)=x5 (bC bv):=gw;rw[tv (vk I)] at gw;refine eK rfl λaD a=>⟨(i+1,b0),ca,⟨bd.up uB a.bk,a.up _ _ w,U,by rw[AB];exact gw⟩,?_⟩
    .show bv.length-(i+1)<bv.length-i;omega
 .have tT:i=bv.length:=U;subst tT;rw[sr,sS] at gw;have aNz:0<b0.length:=U;have aNA:b0.length<=100000:=U;have aNB:f.blocks.length=b0.length:=U;have Ns:∀{x:bG},x∈b0->x.ah≠[]->x.r≠ct:=λaa ak=>bd.bV.Zz aa ak w aF;refine Hr ?_;refine Hs ?_;apply W.seq;repeat(first|apply ad.gC;rfl;rfl;rfl;intro dA O;refine⟨_,aMT dA u b0 aR f z A D C bn aNB aNz aNA (bd.bV.up O.up) ⟨O.up _ _ bz,v8⟩ bd.gV bd.Tv,?_⟩;rintro v H1 fo ⟨E,L,aNC⟩ gM re|refine gr ?_)
  have amN:f.blocks.length=(bC E).length:=by rw[jF,L.len];omega
  have KS:dj f z A D C (some ⟨u,0,none⟩) bn=dj {f with blocks:=bC E} z A D C (some ⟨u,0,none⟩) bn:=by unfold dj;rw[amN]
  have Fl:=L.fn.m;rw[KS] at Fl;have afS:=gM.aO _ _ Fl;have aND:0<E.length:=by rw[L.len];omega
  have aNE:E.length<=100000:=by rw[L.len];omega
  have aNF:H1.m ct=some ⟨⟨ei (.agg ⟨dj ⟨⟨#[]⟩,0,0,0,[],[]⟩ none 0 none 0 none 0⟩)⟩,53⟩:=by
   rw[L.off.2 ct (O.aO _ _ (O.up _ _ w)) (λe=>by
    rcases e with e|⟨x,aa,jJ,Bz⟩
    .exact c2 w F aF e
    .exact Ns aa jJ Bz)]
   exact O.up _ _ w
  repeat(first|apply ad.hF;rfl;rfl;rfl;exact Fl;exact afS;exact iu;exact(show cr 0 6 (dj {f with blocks:=bC E} z A D C (some ⟨u,0,none⟩) bn)=dj {f with blocks:=bC E} z A D C (some ⟨u,0,none⟩) bn from rfl)|apply ad.gC;rfl;rfl;rfl;intro B2 V;refine⟨_,aNh B2 u E {f with blocks:=bC E} z A D C bn rfl aND aNE (L.bV.up V.up) L.gV,?_⟩;rintro v lD fE ⟨N,T,rfl,aNG,aNH,awp,aNI⟩ q5 uX;have Q:=awp.up V.aO _ _ (V.up _ _ aNF);have aNJ:=q5.aO _ _ Q|apply ad.gi;rfl;rfl;rfl;exact Q;exact aNJ;exact uM;exact iu;rfl;rfl;exact(show eB (ei (.agg ⟨dj ⟨⟨#[]⟩,0,0,0,[],[]⟩ none 0 none 0 none 0⟩)) 0 (dj {f with blocks:=lf (bC E)} z A D C (some ⟨N,0,none⟩) (dF 9))=dj {f with blocks:=lf (bC E)} z A D C (some ⟨N,0,none⟩) (dF 9) from rfl)|refine ov ?_)
  have Z:lf (bC E)=vD (bC bv):=by unfold vD;rw[aNC,gw]
  have aNK:∀j,mm u E j->mm u bv j\/h.n<=j:=by
   intro j aA;rcases L.Dy j aA with J|J
   .exact bd.Dy j J
   .exact .inr (bx bd.off.1 (bx O.le J))
  refine cf _ (.cons (.rk (vs:=dj {f with blocks:=lf (bC E)} z A D C (some ⟨N,0,none⟩) (dF 9)) rfl GI (dM rfl) rfl) .nil) λaD a=>⟨N,T,by rw[<-Z];rfl,?_,by rw[aNH,Z],?_,?_⟩
  .refine aNG.Ps λj x aa he=>a.up _ _ ?_;show(if j=ct then _ else lD.m j)=_;rw[ai (c2 aa Q he)];exact aa
  .have jx:=(bd.off.dB O.bk.off).trans L.off λj aA hT=>aNx bd.off bd.Dy aA hT;have fD:=(jx.dB V.bk.off).dB awp.off;refine(fD.trans (cT.set lD ct _) λj aA e=>?_).dB a.bk.off;subst e;omega
  .intro j aA;rcases aNI j aA with J|J
   .exact aNK j J
   .exact .inr (bx bd.off.1 (bx O.le (bx L.off.1 (bx V.le J))))
def BK(w:Nat):Nat->List Value->List (List Value)
 | 0,_=>[]
 | n+1,l=>l.take w::BK w n (l.drop w)
def awr w:∀(n:Nat) (l:List Value),l.length=n*w->(BK w n l).flatten=l/\(BK w n l).length=n/\(∀c∈BK w n l,c.length=w)/\∀j,j<n->(BK w n l)[j]?=some (cr (j*w) w l):=by
 intro n;induction n with
 | zero =>
  intro l a;have:l=[]:=mr.1 U;subst this;exact⟨rfl,rfl,(λc aB=>by cases aB),λj b=>absurd b (Gs _)⟩
 | succ n g =>
  intro l a;rw[uu] at a;have⟨J,f,i,d⟩:=g (l.drop w) jf;refine⟨by rw[BK,I5,J,GC],by simp[BK,f],λc aB=>?_,λj b=>?_⟩
  .rw[BK] at aB;rcases dI.1 aB with e|e
   .subst e;simp;omega
   .exact i c e
  .rcases j with _|j
   .simp[BK,hs]
   .rw[BK,pg,d j U,hs,hs,xt];congr 3;rw[uu];omega
def Zm(cs:List Value)(b:Bool):Prop:=cs=[.bool b]
def ZK{α h A w l}{R:List Value->α->Prop}(s:c0 h A w l R)(c:l≠[]):∃b off cs e,A=some ⟨b,off,none⟩/\h.m b=some ⟨⟨cs⟩,e⟩/\off+l.length*w<=cs.length/\∀i x,l[i]?=some x->R (cr (off+i*w) w cs) x:=by
 have g:=DV.2 c;obtain⟨x,aa⟩:∃x,l[l.length-1]?=some x:=⟨_,ey U⟩;have⟨b,off,cs,e,J,a,j,_⟩:=s.get _ x aa;refine⟨b,off,cs,e,J,a,?_,λi y d=>?_⟩
 .have:l.length*w=(l.length-1)*w+w:=by rw[<-uu];congr 1;omega
  omega
 .have⟨b',off',cs',f,g1,g2,g3,g4⟩:=s.get i y d;rw[J] at g1;injection g1 with g1;cases g1;rw[a] at g2;injection g2 with g2;injection g2 with g7 g8;cases g7;exact g4
def rW{α:Type}(h:aV)(N:Nat)(e:TypeId)(A:Option Addr)(l:List α)(dy:α->Value):Prop:=l=[]\/∃r,A=some ⟨r,0,none⟩/\N<=r/\h.m r=some ⟨⟨l.map dy⟩,e⟩
def rW.up{α h H N e A l}{dy:α->Value}(s:rW h N e A l dy)(hu:∀i b,h.m i=some b->b.elem=e->H.m i=some b):rW H N e A l dy:=by
 rcases s with s|⟨r,J,a,c⟩
 .exact .inl s
 .exact .inr ⟨r,J,a,hu _ _ c rfl⟩
def rW.gK{α h N e A l dy}(s:rW h N e A l dy){R:List Value->α->Prop}(a:∀x,R [dy x] x):c0 h A 1 l R:=by
 rcases s with rfl|⟨r,rfl,_,c⟩
 .exact .nil
 .refine⟨λi x aa=>⟨r,0,_,e,rfl,c,?_,?_⟩⟩
  .have:=(cS.1 aa).1;rw[fI];omega
  .have:cr (0+i*1) 1 (l.map dy)=[dy x]:=by
    rw[hs,ff,iV];have⟨J,b⟩:=cS.1 aa;rw[sq p0];simp[b]
   exact this▸a x
def aws{α h A l R}{dy:α->Value}{vs}(s:c0 h A 1 l R)(aE:l≠[]->∃b off cs e,A=some ⟨b,off,none⟩/\h.m b=some ⟨⟨cs⟩,e⟩/\off+l.length*1<=cs.length/\cr off (l.length*1) cs=vs)(ak:l≠[])(c:∀cs x,R cs x->cs=[dy x]):vs=l.map dy:=by
 have⟨b,off,cs,e,J,d,g,a⟩:=aE ak;subst a;apply kg;intro i;rw[hs,gf];by_cases ag:i<l.length
 .rw[GD U,xq,ey ag];have⟨b',off',cs',f,g1,g2,g3,g4⟩:=s.get i l[i] (ey ag);rw[J] at g1;injection g1 with g1;cases g1;rw[d] at g2;injection g2 with g2;injection g2 with g7 _;cases g7;have:=ka (c _ _ g4) (j:=0) rfl;rw[iV,nq] at this;rw[this];rfl
 .rw[tj.2 jf,tj.2 U];rfl
structure yj(h:aV)(N:Nat)(bv:List bG):Prop where
 row:∀b∈bv,b.ah≠[]->N<=b.r/\h.m b.r=some ⟨⟨(b.ah.map dK).flatten⟩,42⟩
 arg:∀b∈bv,∀x∈b.ah,x.1.args≠[]->N<=x.2/\h.m x.2=some ⟨⟨fN x.1.args⟩,38⟩
 c4:bv.Pairwise λx y=>x.ah≠[]->y.ah≠[]->x.r<y.r
 zT:(bv.flatMap (·.ah)).Pairwise λx y=>x.1.args≠[]->y.1.args≠[]->x.2<y.2
def yj.up{h H N bv}(o:yj h N bv)(hu:∀i b,h.m i=some b->H.m i=some b):yj H N bv :=
 ⟨λb I ak=>⟨(o.row b I ak).1,hu _ _ (o.row b I ak).2⟩,λb I x aa ak=>⟨(o.arg b I x aa ak).1,hu _ _ (o.arg b I x aa ak).2⟩,o.c4,o.zT⟩
def yj.fC{h N a bv}(o:yj h N bv)(g:df<=N)(I:df<=a)(hm:h.m a=some ⟨⟨(bv.map bG.c).flatten⟩,48⟩):hY h a bv:=by
 refine⟨I,hm,λb I ak=>⟨bx g (o.row b I ak).1,(o.row b I ak).2⟩,λb I x aa ak=>⟨bx g (o.arg b I x aa ak).1,(o.arg b I x aa ak).2⟩,λi j x y aa n f d he=>?_⟩;have⟨ag,e⟩:=cS.1 aa;have⟨k,l⟩:=cS.1 n;rcases PV i j with J|J|J
 .have:=UD.1 o.c4 i j ag k J;rw[e,l] at this;have:=this f d;omega
 .exact J
 .have:=UD.1 o.c4 j i k ag J;rw[e,l] at this;have:=this d f;omega
def air{α h A w l}{R:List Value->α->Prop}(s:c0 h A w l R):∃vs:List Value,l≠[]->∃b off cs e,A=some ⟨b,off,none⟩/\h.m b=some ⟨⟨cs⟩,e⟩/\off+l.length*w<=cs.length/\cr off (l.length*w) cs=vs:=by
 by_cases a:l=[]
 .exact⟨[],λh=>absurd a h⟩
 .have⟨b,off,cs,e,J,c,d,_⟩:=ZK s a;exact⟨_,λ_=>⟨b,off,cs,e,J,c,d,rfl⟩⟩
def LN{h H:aV}{A:Option Addr}{n w vs}(aE:n≠0->∃b off cs e,A=some ⟨b,off,none⟩/\h.m b=some ⟨⟨cs⟩,e⟩/\off+n*w<=cs.length/\cr off (n*w) cs=vs)(hu:∀i b,h.m i=some b->H.m i=some b):n≠0->∃b off cs e,A=some ⟨b,off,none⟩/\H.m b=some ⟨⟨cs⟩,e⟩/\off+n*w<=cs.length/\cr off (n*w) cs=vs:=by
 intro ak;have⟨b,off,cs,e,J,a,d⟩:=aE ak;exact⟨b,off,cs,e,J,hu _ _ a,d⟩
def anN{w}{L:List (List Value)}(hw:∀c∈L,c.length=w){i x}(aa:L[i]?=some x){o}(aH:o+1<=w):0+i*w+o+1<=L.flatten.length:=by
 have:=(HZ hw aa).2;omega
def anO{w}{L:List (List Value)}(hw:∀c∈L,c.length=w){i x y}(aa:L[i]?=some x){o v}(aH:o+1<=w)(a:eB x o [v]=y):eB L.flatten (0+i*w+o) [v]=(L.set i y).flatten:=by
 rw[ff,So hw aa (by simpa using aH),a]
def awt h f bj aW a8 aT dr bn bI(jw:bI.length=f.hO)(cZ:c0 h bj 1 bI Zm)(eM:c0 h a8 1 f.bZ CP)(cF:c0 h dr 9 f.blocks (yb h))(hx:0<f.blocks.length)(hg:f.hO<=1000000)(iQ:f.bZ.length<=1000000)(tH:f.blocks.length<=100000)(Bj:∀b∈f.blocks,b.ah.length<=1000000)(zQ:∀b∈f.blocks,∀x∈b.ah,x.args.length<=1000000):
 dw prog 37 [.agg ⟨dj f bj aW a8 aT dr bn⟩] h (λv aw=>∃M V Q s9 aL bv,v=.agg ⟨dj f M V Q s9 (some ⟨aL,0,none⟩) (dF 9)⟩/\aw.m aL=some ⟨⟨(bv.map bG.c).flatten⟩,48⟩/\h.n<=aL/\yj aw h.n bv/\bC bv=f.blocks/\cW h aw/\rW aw h.n 4 M bI .bool/\rW aw h.n 3 Q f.bZ (.int .i64)):=by
 refine dw.i func37 ntmps37 λπ bF=>?_;conv=>arg 2;whnf
 have aq:=bF.aO;obtain⟨TC,rJ⟩:=air cZ;obtain⟨ZL,yd⟩:=air eM;have aNL:=rJ;have aNM:=yd;replace rJ:f.hO≠0->∃b off cs e,bj=some ⟨b,off,none⟩/\h.m b=bS cs e/\off+f.hO*1<=cs.length/\cr off (f.hO*1) cs=TC:=by
  rw[<-jw];exact λak=>rJ (λe=>ak qH)
 replace yd:f.bZ.length≠0->∃b off cs e,a8=some ⟨b,off,none⟩/\h.m b=bS cs e/\off+f.bZ.length*1<=cs.length/\cr off (f.bZ.length*1) cs=ZL:=λak=>yd (λe=>ak qH);obtain⟨hZ,Z,awu,eh,rfl,OY,E7,aNN⟩:=ZK cF (DV.1 hx);refine Hq ?_;refine W.hH λds pD a0=>?_;have bz:ds.m (π 0)=bS (dj f bj aW a8 aT (some ⟨hZ,Z,none⟩) bn) 53:=a0.bJ 0 (eQ kP (hr 1));have eA:h.n<=π 0:=a0.bL 0 (eQ kP (hr 1));have oi:h.n<=π 1:=a0.bL 1 (dN 1);have iU:ds.m (π 1)=bS (ei (.agg ⟨dj ⟨⟨#[]⟩,0,0,0,[],[]⟩ none 0 none 0 none 0⟩)) 53:=a0.bJ 1 (dN 1);have rG:π 0≠π 1:=λe=>absurd (a0.inj 0 1 (eQ kP (hr 1)) (dN 1) e) bo;generalize π 0=aR at *;generalize π 1=ct at *;have uM:=bx bF.rw oi;have v8:=bx bF.rw eA;have gh:=a0.aO _ _ bz;replace rJ:=LN rJ a0.up;have awv:∀{H:aV}{x:cd},H.m aR=some x->Sat prog H->∀{h0:aV},cW h0 H->h0.n<=aR->∀z,cW h0 (H.set aR z):=λaa ZM h0 o bs z=>(o.off.dB ((cT.set _ aR z).mono (T:=λj=>h0.n<=j) λj _ e=>by rw[e];exact bs)).cx λj aA e=>U;apply W.seq;repeat(first|refine sO ?_|apply ad.Sb (vs:=TC);(iterate 6 rfl);exact λB cF=>LN rJ cF.up;omega;omega;intro dA bW M V H1 fo gM z8 BF re ZN;have zV:=(ZN aR (bW.aO _ _ (bW.up _ _ bz))).trans (bW.up _ _ bz);have ais:=gM.aO _ _ zV|apply ad.gi;rfl;rfl;rfl;exact zV;exact ais;exact v8;exact iu;rfl;rfl;exact(show eB (dj f bj aW a8 aT (some ⟨hZ,Z,none⟩) bn) (0+2) [.slice M f.hO V]=dj f M V a8 aT (some ⟨hZ,Z,none⟩) bn from rfl)|refine Nn ?_|refine gr ?_)
 refine W.hH λB2 fE a2=>?_;have Tw:=(awv zV gM ((a0.bk.trans bW.bk).trans ⟨re,ZN⟩) eA _).trans a2.bk;have aww:∀{j:Nat}{x:cd},ds.m j=some x->j≠aR->B2.m j=some x:=by
  intro j x aa bM;refine a2.up _ _ ?_;show(if j=aR then _ else H1.m j)=_;rw[ai bM,ZN j (bW.aO _ _ (bW.up _ _ aa))];exact bW.up _ _ aa
 have awx:=aww iU (λe=>rG e.symm);have s8:f.hO≠0->∃r,M=cV r/\h.n<=r/\B2.m r=bS TC 4:=by
  intro ak;obtain⟨r,J,_,ab,aK⟩:=BF ak;have dR:ds.n<=dA.n:=bW.le;refine⟨r,J,bx a0.le (bx bW.le ab),a2.up _ _ ?_⟩;show(if r=aR then _ else H1.m r)=_;rw[ai (by have:=a0.aO _ _ bz;omega)];exact aK
 replace bz:B2.m aR=bS (dj f M V a8 aT (some ⟨hZ,Z,none⟩) bn) 53:=a2.up _ _ U2;replace gh:=a2.aO _ _ bz;replace yd:=LN yd (Tw.up aq);apply W.seq;repeat(first|refine sO ?_|apply ad.Sb (vs:=ZL);(iterate 6 rfl);exact λB cF=>LN yd cF.up;omega;omega;intro eW j2 Q s9 o3 fj ua SH Pb Lu IC;have nB:=(IC aR (j2.aO _ _ (j2.up _ _ bz))).trans (j2.up _ _ bz);have Pq:=ua.aO _ _ nB|apply ad.gi;rfl;rfl;rfl;exact nB;exact Pq;exact v8;exact iu;rfl;rfl;exact(show eB (dj f M V a8 aT (some ⟨hZ,Z,none⟩) bn) (0+4) [.slice Q f.bZ.length s9]=dj f M V Q s9 (some ⟨hZ,Z,none⟩) bn from rfl)|refine Nn ?_|refine gr ?_)
 refine W.hH λgv rj a4=>?_;have ait:∀{j:Nat}{x:cd},B2.m j=some x->j≠aR->gv.m j=some x:=by
  intro j x aa bM;refine a4.up _ _ ?_;show(if j=aR then _ else o3.m j)=_;rw[ai bM,IC j (j2.aO _ _ (j2.up _ _ aa))];exact j2.up _ _ aa
 have Pj:=(awv nB ua ((Tw.trans j2.bk).trans ⟨Lu,IC⟩) eA _).trans a4.bk;have EF:=ait awx (λe=>rG e.symm);have wM:f.bZ.length≠0->∃r,Q=cV r/\h.n<=r/\gv.m r=bS ZL 3:=by
  intro ak;obtain⟨r,J,_,ab,aK⟩:=Pb ak;have bs:B2.n<=r:=bx j2.le ab;refine⟨r,J,bx Tw.1 bs,a4.up _ _ ?_⟩;show(if r=aR then _ else o3.m r)=_;rw[ai U];exact aK
 replace s8:f.hO≠0->∃r,M=cV r/\h.n<=r/\gv.m r=bS TC 4:=by
  intro ak;obtain⟨r,J,ab,aK⟩:=s8 ak;exact⟨r,J,ab,ait aK (c2 aK bz aF)⟩
 replace bz:gv.m aR=bS (dj f M V Q s9 (some ⟨hZ,Z,none⟩) bn) 53:=a4.up _ _ U2;replace gh:=a4.aO _ _ bz;obtain⟨TD,aiu⟩:=ld (cr Z (f.blocks.length*9) awu);have Tn:f.blocks.length≠0->∃b off cs e,some (⟨hZ,Z,none⟩:Addr)=some ⟨b,off,none⟩/\gv.m b=bS cs e/\off+f.blocks.length*9<=cs.length/\cr off (f.blocks.length*9) cs=TD:=λ_=>⟨hZ,Z,awu,eh,rfl,Pj.up aq _ _ OY,E7,aiu⟩;apply W.seq;repeat(first|refine sO ?_|apply ad.Sb (vs:=TD);(iterate 6 rfl);exact λB cF=>LN Tn cF.up;omega;omega;intro nK mw aS1 aS2 mM zL u3 aS3 awy w0 IA|refine Xg ?_|refine gr ?_)
 obtain⟨aL,rfl,rfl,rD,dZ⟩:=awy U;have aNO:TD.length=f.blocks.length*9:=by rw[<-aiu,hs];simp;omega
 obtain⟨g1,g2,g3,g4⟩:=awr 9 f.blocks.length TD aNO;generalize BK 9 f.blocks.length TD=R at *;have iU:∀(i:Nat) (b:bT),f.blocks[i]?=some b->∃A c,R[i]?=some (kq b A c)/\c0 h A 12 b.ah (HU h):=by
  intro i b I;have ag:=(cS.1 I).1;obtain⟨A,c,J,ab⟩:=aNN i b I;refine⟨A,c,?_,ab⟩;rw[g4 i ag,<-J,<-aiu];congr 1;rw[hs,hs,hs,UA,xt,UB,I0 U]
 obtain⟨Gd,ZO⟩:∃Gd:aV->Prop,∀B,Gd B↔(cW h B/\B.m aR=bS (dj f M V Q s9 (some ⟨hZ,Z,none⟩) bn) 53/\B.m ct=bS (ei (.agg ⟨dj ⟨⟨#[]⟩,0,0,0,[],[]⟩ none 0 none 0 none 0⟩)) 53/\(f.hO≠0->∃r,M=cV r/\h.n<=r/\B.m r=bS TC 4)/\(f.bZ.length≠0->∃r,Q=cV r/\h.n<=r/\B.m r=bS ZL 3)):=⟨_,λB=>Iff.rfl⟩;have TE:∀{B C:aV},Gd B->cW h C->(∀j x,B.m j=some x->x.elem≠48->x.elem≠42->C.m j=some x)->Gd C:=by
  intro B C ar aH aj;rw[ZO] at ar|-;obtain⟨bY,dk,eD,ju,Ll⟩:=ar;refine⟨aH,aj _ _ dk aF aF,aj _ _ eD aF aF,λak=>?_,λak=>?_⟩
  .obtain⟨r,G,F,fK⟩:=ju ak;exact⟨r,G,F,aj _ _ fK aF aF⟩
  .obtain⟨r,G,F,fK⟩:=Ll ak;exact⟨r,G,F,aj _ _ fK aF aF⟩
 have Ge:∀{B:aV},Gd B->cW h B:=λar=>((ZO _).1 ar).1;have TF:∀{j:Nat}{x:cd},gv.m j=some x->mM.m j=some x:=by
  intro j x aa;rw[IA j (mw.aO _ _ (mw.up _ _ aa))];exact mw.up _ _ aa
 have LB:=(Pj.trans mw.bk).trans ⟨w0,IA⟩;have TG:=bx Pj.1 (bx mw.le rD);have aNP:=bx bF.rw TG;have aNQ:Gd mM:=by
  rw[ZO];refine⟨LB,TF bz,TF EF,λak=>?_,λak=>?_⟩
  .obtain⟨r,G,F,fK⟩:=s8 ak;exact⟨r,G,F,TF fK⟩
  .obtain⟨r,G,F,fK⟩:=wM ak;exact⟨r,G,F,TF fK⟩
 clear bz gh awx EF aww ait TF s8 wM BF Pb awy ZN IC IA;apply W.seq;apply W.seq;repeat(first|refine EB ?_|refine tA ?_)
 refine W.hz (X:=Nat×List bG) (λx=>[(1,cE aR),(2,cE ct),(3,.slice (cV aL) f.blocks.length (dF 9)),(18,bm (f.blocks.length:Int)),(19,bm (x.1:Int))])
  (λx B=>x.1<=f.blocks.length/\x.2.length=x.1/\bC x.2=f.blocks.take x.1/\Gd B/\B.m aL=bS ((x.2.map bG.c++R.drop x.1).flatten) 48/\yj B h.n x.2) (λx=>f.blocks.length-x.1)
  (λC a=>⟨(0,[]),?_,⟨dG _,rfl,Vu,TE aNQ (LB.trans a.bk) λj x aa _ _=>a.up _ _ aa,a.up _ _ (by rw[dZ,<-g1];rfl),⟨(λb I=>by cases I),(λb I=>by cases I),List.Pairwise.nil,List.Pairwise.nil⟩⟩⟩) ?_
 .exact ca
 rintro⟨i,D⟩ B Og dd ⟨ag,sV,Gf,oQ,eF,L⟩;dsimp only at ag sV Gf oQ eF L|-;have te:=dd.aO _ _ eF;have ZP:∀c∈D.map bG.c++R.drop i,c.length=9:=by
  intro c aB;rcases ha.1 aB with e|e
  .exact Tu D c e
  .exact g3 c (Gz e)
 have Td:(D.map bG.c++R.drop i).length=f.blocks.length:=by simp[sV,g2];omega
 by_cases bs:i<f.blocks.length
 .obtain⟨b,I⟩:=cR f.blocks i bs;obtain⟨A,c,awz,fQ⟩:=iU i b I;have p7:=Bj b (bQ I);have ZQ:(D.map bG.c++R.drop i)[i]?=some (kq b A c):=by
   rw[oI (by simp[sV]),fI,sV,sr,xq,nq];exact awz
  have Ki:(D.map bG.c++R.drop i).flatten[0+i*9+0]?=some (.slice A b.ah.length c):=by
   rw[ff,G1 ZP i 0 bo,ZQ];rfl
  obtain⟨LO,ZR⟩:=air fQ;replace ZR:b.ah.length≠0->∃q off cs e,A=some ⟨q,off,none⟩/\B.m q=bS cs e/\off+b.ah.length*12<=cs.length/\cr off (b.ah.length*12) cs=LO:=LN (λak=>ZR (λe=>ak qH)) ((Ge oQ).up aq);refine CI ?_;refine CJ ?_;refine zs ?_;refine ad0 ?_;apply W.seq;repeat(first|refine er ?_|apply ad.dv;rfl;rfl;rfl;exact eF;exact te;exact Ki|apply ad.Sb (vs:=LO);(iterate 6 rfl);exact λB cF=>LN ZR cF.up;omega;omega;intro gL ft hn e3 hJ yf s3 aNR awA oc lJ;have awB:=(lJ aL (ft.aO _ _ (ft.up _ _ eF))).trans (ft.up _ _ eF);have aNS:=s3.aO _ _ awB|apply ad.gi;rfl;rfl;rfl;exact awB;exact aNS;exact aNP;exact anN ZP ZQ (o:=0) bo;rfl;rfl;exact anO ZP ZQ (o:=0) (y:=kq b hn e3) bo rfl|refine n4 ?_|refine gr ?_)
  refine W.hH λiN Dd o4=>?_;have Pu:=o4.up _ _ GJ;have aiv:=o4.aO _ _ Pu;have aNT:∀c∈(D.map bG.c++R.drop i).set i (kq b hn e3),c.length=9:=by
   intro c aB;rcases mem_set aB with e|e
   .exact ZP c e
   .exact qH
  have aNU:((D.map bG.c++R.drop i).set i (kq b hn e3))[i]?=some (kq b hn e3):=by rw[fl,au rfl,au (by rw[Td];exact bs)]
  have aoZ:((D.map bG.c++R.drop i).set i (kq b hn e3)).flatten[0+i*9+0]?=some (.slice hn b.ah.length e3):=by
   rw[ff,G1 aNT i 0 bo,aNU];rfl
  have ZS:∀{j:Nat}{x:cd},B.m j=some x->j≠aL->iN.m j=some x:=by
   intro j x aa bM;refine o4.up _ _ ?_;show(if j=aL then _ else hJ.m j)=_;rw[ai bM,lJ j (ft.aO _ _ (ft.up _ _ aa))];exact ft.up _ _ aa
  have oZ:=((Ge oQ).trans ft.bk).trans ⟨oc,lJ⟩;have awC:=((oZ.off.dB ((cT.set _ aL _).mono (T:=λj=>h.n<=j) λj _ e=>by rw[e];exact TG)).cx λj aA e=>U).trans o4.bk;have aNV:=TE oQ awC λj x aa J _=>ZS aa (c2 aa eF p0);have awD:yj iN h.n D:=⟨λx aa ak=>⟨(L.row x aa ak).1,ZS (L.row x aa ak).2 (c2 (L.row x aa ak).2 eF aF)⟩,λx aa y aN ak=>⟨(L.arg x aa y aN ak).1,ZS (L.arg x aa y aN ak).2 (c2 (L.arg x aa y aN ak).2 eF aF)⟩,L.c4,L.zT⟩;have aNW:B.n<=gL.n:=ft.le;have Sm:b.ah.length≠0->∃r,hn=cV r/\e3=dF 12/\B.n<=r/\iN.m r=bS LO 42:=by
   intro ak;obtain⟨r,J,ab,aK,br⟩:=awA ak;refine⟨r,J,ab,bx aNW aK,o4.up _ _ ?_⟩;show(if r=aL then _ else hJ.m r)=_;rw[ai (by have:=dd.aO _ _ eF;omega)];exact br
  have lx:∀{j:Nat}{x:cd},B.m j=some x->j<B.n:=λaa=>dd.aO _ _ aa;clear awA lJ ZS;obtain⟨r,aM⟩:∃r,b.ah.length≠0->hn=cV r/\e3=dF 12/\B.n<=r/\iN.m r=bS LO 42:=by
   by_cases ak:b.ah.length=0
   .exact⟨0,λh=>absurd ak h⟩
   .obtain⟨r,J⟩:=Sm ak;exact⟨r,λ_=>J⟩
  obtain⟨N,zE⟩:∃N:List (List Value),b.ah.length≠0->N.flatten=LO/\N.length=b.ah.length/\(∀c∈N,c.length=12)/\∀(k:Nat) (x:cO),b.ah[k]?=some x->∃A c,N[k]?=some (cL x A c)/\c0 h A 2 x.args kL:=by
   by_cases ak:b.ah.length=0
   .exact⟨[],λh=>absurd ak h⟩
   .have bM:b.ah≠[]:=λe=>ak qH;obtain⟨q,off,cs,e,G,F,fK,r3⟩:=ZK fQ bM;obtain⟨Pp,off',cs',iD,rh,ri,Zf,Tb⟩:=ZR ak;rw[G] at rh;injection rh with rh;injection rh with aNX aNY;subst aNX;subst aNY;have aNZ:=(Ge oQ).up aq _ _ F;rw[aNZ] at ri;injection ri with ri;injection ri with aiw _;injection aiw with aiw;subst aiw;have aN0:LO.length=b.ah.length*12:=by rw[<-Tb,hs];simp;omega
    obtain⟨bY,dk,eD,ju⟩:=awr 12 b.ah.length LO aN0;refine⟨_,λ_=>⟨bY,dk,eD,λk x aa=>?_⟩⟩;have aj:=(cS.1 aa).1;obtain⟨zg,uP,rU,sQ⟩:=r3 k x aa;refine⟨zg,uP,?_,sQ⟩;rw[ju k aj,<-rU,<-Tb];congr 1;rw[hs,hs,hs,UA,xt,UB,I0 U]
  apply W.seq;repeat(first|refine er ?_|apply ad.dv;rfl;rfl;rfl;exact Pu;exact aiv;exact aoZ|refine vv ?_|refine tA ?_)
  refine W.hz (X:=Nat×List lK) (λx=>[(1,cE aR),(2,cE ct),(3,.slice (cV aL) f.blocks.length (dF 9)),(18,bm (f.blocks.length:Int)),(19,bm (i:Int)),(4,bm (i:Int)),(37,bm (b.ah.length:Int)),(38,bm (x.1:Int))])
   (λx B=>x.1<=b.ah.length/\x.2.length=x.1/\x.2.map (·.1)=b.ah.take x.1/\Gd B/\B.m aL=bS (((D.map bG.c++R.drop i).set i (kq b hn e3)).flatten) 48/\yj B h.n D/\(b.ah.length≠0->B.m r=bS ((x.2.map dK++N.drop x.1).flatten) 42)/\(∀y∈x.2,y.1.args≠[]->h.n<=y.2/\B.m y.2=bS (fN y.1.args) 38)/\(D.flatMap (·.ah)++x.2).Pairwise λx y=>x.1.args≠[]->y.1.args≠[]->x.2<y.2) (λx=>b.ah.length-x.1)
   (λC a=>⟨(0,[]),?_,⟨dG _,rfl,Vu,TE aNV (awC.trans a.bk) λj x aa _ _=>a.up _ _ aa,a.up _ _ Pu,awD.up a.up,λak=>a.up _ _ (by rw[(aM ak).2.2.2,<-(zE ak).1];rfl),(λy aN=>JA),by rw[l2];exact awD.zT⟩⟩) ?_
  .exact ca
  rintro⟨k,u⟩ lv C9 DA ⟨aj,Pv,ZT,LP,J7,BL,AS,LQ,Po⟩;dsimp only at aj Pv ZT LP J7 BL AS LQ Po|-;have aAY:=DA.aO _ _ J7;by_cases kG:k<b.ah.length
  .have O:b.ah.length≠0:=U;obtain⟨rfl,rfl,zj,rp⟩:=aM O;obtain⟨bY,dk,eD,ju⟩:=zE O;replace AS:=AS O;have anM:=DA.aO _ _ AS;obtain⟨x,aa⟩:=cR b.ah k kG;obtain⟨fP,gp,awE,mZ⟩:=ju k x aa;have Sn:=zQ b (bQ I) x (bQ aa);have ac5:∀c∈u.map dK++N.drop k,c.length=12:=by
    intro c aB;rcases ha.1 aB with e|e
    .exact Fw u c e
    .exact eD c (Gz e)
   have ac6:(u.map dK++N.drop k)[k]?=some (cL x fP gp):=by
    rw[oI (by simp[Pv]),fI,Pv,sr,xq,nq];exact awE
   have adI:(u.map dK++N.drop k).flatten[0+k*12+11]?=some (.slice fP x.args.length gp):=by
    rw[ff,G1 ac5 k 11 bo,ac6];rfl
   have rP:=bx dd.rw zj;have aix:=bx (Ge oQ).1 zj;have pG:N.drop k=cL x fP gp::N.drop (k+1):=by
    obtain⟨G,F⟩:=cS.1 awE;rw[sq G,F]
   have bb:∀(ma:Nat) (C:aV),C.m r=bS (((u.map dK++N.drop k).set k (dK (x,ma))).flatten) 42->(∀j y,lv.m j=some y->j≠r->C.m j=some y)->cW h C->(x.args≠[]->lv.n<=ma/\C.m ma=bS (fN x.args) 38) ->
    k+1<=b.ah.length/\(u++[(x,ma)]).length=k+1/\(u++[(x,ma)]).map (·.1)=b.ah.take (k+1)/\Gd C/\C.m aL=bS (((D.map bG.c++R.drop i).set i (kq b (some ⟨r,0,none⟩) (dF 12))).flatten) 48/\yj C h.n D/\(b.ah.length≠0->C.m r=bS (((u++[(x,ma)]).map dK++N.drop (k+1)).flatten) 42)/\(∀y∈u++[(x,ma)],y.1.args≠[]->h.n<=y.2/\C.m y.2=bS (fN y.1.args) 38)/\(D.flatMap (·.ah)++(u++[(x,ma)])).Pairwise λx y=>x.1.args≠[]->y.1.args≠[]->x.2<y.2:=by
    intro ma C aN1 tb eC hv;have kI:(u.map dK++N.drop k).set k (dK (x,ma))=(u++[(x,ma)]).map dK++N.drop (k+1):=by
     rw[P3 _ _ (by simp[Pv]),fI,Pv,sr,pG,BZ,pW,pX];rfl
    refine⟨U,by simp[Pv],?_,TE LP eC λj y aN J ab=>tb j y aN (c2 aN AS tn),tb _ _ J7 (c2 J7 AS aF),⟨λz E ak=>⟨(BL.row z E ak).1,tb _ _ (BL.row z E ak).2 ?_⟩,λz E y aN ak=>⟨(BL.arg z E y aN ak).1,tb _ _ (BL.arg z E y aN ak).2 (c2 (BL.arg z E y aN ak).2 AS aF)⟩,BL.c4,BL.zT⟩,λ_=>by rw[aN1,kI],?_,?_⟩
    .obtain⟨G,F⟩:=cS.1 aa;rw[pW,ZT,BX G,F];rfl
    .have:=lx (L.row z E ak).2;omega
    .intro y aN r9;rcases ha.1 aN with e|e
     .exact⟨(LQ y e r9).1,tb _ _ (LQ y e r9).2 (c2 (LQ y e r9).2 AS aF)⟩
     .simp only[gU] at e;subst e;exact⟨bx (Ge LP).1 (hv r9).1,(hv r9).2⟩
    .rw[<-pX,ajC];refine⟨Po,ajD _ _,λy aN z E r9 zC=>?_⟩;simp only[gU] at E;subst E;have J:=(hv zC).1;have ab:y.2<lv.n:=by
      rcases ha.1 aN with e|e
      .obtain⟨w,hw,af8⟩:=aaU.1 e;exact DA.aO _ _ (BL.arg w hw y af8 r9).2
      .exact DA.aO _ _ (LQ y e r9).2
     show y.2<ma;omega
   have awF:∀z,cW h (lv.set r z):=λz=>((Ge LP).off.dB ((cT.set lv r z).mono (T:=λj=>h.n<=j) λj _ e=>by rw[e];exact aix)).cx λj aA e=>U;by_cases HF:x.args=[]
   .have mF:x.args.length=0:=by rw[HF];rfl
    obtain⟨ma,og⟩:∃ma:Nat,ma=0:=⟨0,rfl⟩;have xB:(Value.slice none 0 0)=cD 2 ma x.args:=by rw[HF];rfl
    repeat(first|refine er ?_|refine aoY ?_|apply ad.KN;(iterate 4 rfl);exact mF;kernel_rfl|refine anL ?_|refine na ?_|refine la ?_|refine kW ?_)
    refine eK rfl λC a=>⟨(k+1,u++[(x,ma)]),?_,bb ma C (a.up _ _ P7) (λj y aN bM=>a.up _ _ akj) ((awF _).trans a.bk) (λak=>absurd HF ak),?_⟩
    .exact ca
    .show b.ah.length-(k+1)<b.ah.length-k;omega
   .obtain⟨q,off,cs,e,rfl,aN2,ahL,Pr⟩:=ZK mZ HF;have AM:=(Ge LP).up aq _ _ aN2;have aN3:=DA.aO _ _ AM;have ZD:=arz ahL λi a aJ=>Pr i a aJ;have aS4:=DV.2 HF;obtain⟨ma,og⟩:∃ma:Nat,ma=C9 0:=⟨_,rfl⟩;have xB:(Value.slice (cV (C9 0)) x.args.length (dF 2))=cD 2 ma x.args:=by rw[og,Bh HF]
    repeat(first|refine er ?_|refine aoY ?_|apply ad.Yg;(iterate 6 rfl);exact AM;exact aN3;exact ahL;omega;omega;omega;exact ZD|refine anL ?_|refine na ?_|refine la ?_|refine kW ?_)
    refine eK rfl λC a=>?_;have hB:lv.n<=C9 0:=a.bL 0 (dN 0);have y7:C.m (C9 0)=bS (fN x.args) 38:=a.bJ 0 (dN 0);refine⟨(k+1,u++[(x,ma)]),?_,bb ma C (a.up _ _ P7) (λj y aN bM=>a.up _ _ akj) ((awF _).trans a.bk) (λ_=>by rw[og];exact⟨hB,y7⟩),?_⟩
    .exact ca
    .show b.ah.length-(k+1)<b.ah.length-k;omega
  .have q7:k=b.ah.length:=U;rw[q7,mv] at ZT;have zY:(⟨u,r,b.av⟩:bG).s=b:=by unfold bG.s;rw[ZT]
   have ZU:u=[]↔b.ah.length=0:=by
    rw[<-mr];omega
   have aN4:(⟨u,r,b.av⟩:bG).c=kq b hn e3:=by
    rw[Pn,zY];unfold bG.A bG.k;by_cases O:b.ah.length=0
    .obtain⟨ba,a1⟩:=aNR O;have:u=[]:=ZU.2 O;subst this;rw[ba,a1];rfl
    .obtain⟨ba,a1,_,_⟩:=aM O;have:u≠[]:=λe=>O (ZU.1 e);rw[ai this,ai this,ba,a1]
   have aN5:R.drop i=kq b A c::R.drop (i+1):=by
    obtain⟨G,F⟩:=cS.1 awz;rw[sq G,F]
   have kI:(D.map bG.c++R.drop i).set i (kq b hn e3)=(D++[(⟨u,r,b.av⟩:bG)]).map bG.c++R.drop (i+1):=by
    rw[P3 _ _ (by simp[sV]),fI,sV,sr,aN5,BZ,pW,pX,<-aN4];rfl
   rw[kI] at J7;repeat(first|refine EJ ?_|refine EM ?_)
   refine eK rfl λC a=>⟨(i+1,D++[⟨u,r,b.av⟩]),?_,⟨U,by simp[sV],?_,TE LP ((Ge LP).trans a.bk) λj x aa _ _=>a.up _ _ aa,a.up _ _ J7,?_⟩,?_⟩
   .exact ca
   .show bC (D++[⟨u,r,b.av⟩])=f.blocks.take (i+1);obtain⟨G,F⟩:=cS.1 I;have e:bC (D++[⟨u,r,b.av⟩])=bC D++[(⟨u,r,b.av⟩:bG).s]:=by simp[bC]
    rw[e,Gf,zY,BX G,F]
   .have awG:=BL.up a.up;have aiy:u≠[]->h.n<=r/\C.m r=bS ((u.map dK).flatten) 42:=by
     intro ak;have O:b.ah.length≠0:=λe=>ak (ZU.2 e);refine⟨bx (Ge oQ).1 (aM O).2.2.1,a.up _ _ ?_⟩;rw[AS O,np (by rw[(zE O).2.1];omega),l2]
    refine⟨λz E ak=>?_,λz E y aN ak=>?_,?_,?_⟩
    .rcases ha.1 E with e|e
     .exact awG.row z e ak
     .simp only[gU] at e;subst e;exact aiy ak
    .rcases ha.1 E with e|e
     .exact awG.arg z e y aN ak
     .simp only[gU] at e;subst e;exact⟨(LQ y aN ak).1,a.up _ _ (LQ y aN ak).2⟩
    .rw[ajC];refine⟨BL.c4,ajD _ _,λy aN z E r9 zC=>?_⟩;simp only[gU] at E;subst E;have O:b.ah.length≠0:=λe=>zC (ZU.2 e);have J:=lx (L.row y aN r9).2;have ab:=(aM O).2.2.1;show y.r<r;omega
    .rw[List.flatMap_append];simpa using Po
   .show f.blocks.length-(i+1)<f.blocks.length-i;omega
 .have tT:i=f.blocks.length:=U;have aN6:bC D=f.blocks:=by rw[Gf,tT,mv]
  have mE:R.drop i=[]:=np (by rw[g2];omega);rw[mE,l2] at eF;obtain⟨aN7,Ak,DB,s8,wM⟩:=(ZO _).1 oQ;have Xq:=dd.aO _ _ Ak;have aoG:=dd.aO _ _ DB;have ao2:∀X,(B.set aR X).m aR=some X:=λX=>U2;have aoF:∀X,(B.set aR X).m ct=bS (ei (.agg ⟨dj ⟨⟨#[]⟩,0,0,0,[],[]⟩ none 0 none 0 none 0⟩)) 53:=λX=>by
   show(if ct=aR then _ else B.m ct)=_;rw[ai (λe=>rG e.symm)];exact DB
  repeat(first|apply ad.gi;rfl;rfl;rfl;exact Ak;exact Xq;exact v8;exact iu;rfl;rfl;exact(show eB (dj f M V Q s9 (some ⟨hZ,Z,none⟩) bn) (0+5) [.slice (cV aL) f.blocks.length (dF 9)]=dj f M V Q s9 (cV aL) (dF 9) from rfl)|refine ao1 ?_|refine aoE ?_|refine n4 ?_|refine uS ?_)
  have TH:∀(X Y:cd) {j:Nat}{x:cd},B.m j=some x->x.elem≠53->((B.set aR X).set ct Y).m j=some x:=by
   intro X Y j x aa he;show(if j=ct then _ else(if j=aR then _ else B.m j))=_;rw[ai (c2 aa DB he),ai (c2 aa Ak he)];exact aa
  refine cf _ (.cons (.rk (vs:=dj f M V Q s9 (cV aL) (dF 9)) rfl GI (dM rfl) rfl) .nil) λC a=>⟨M,V,Q,s9,aL,D,rfl,a.up _ _ (TH _ _ eF aF),TG,?_,aN6,?_,?_,?_⟩
  .exact⟨λz E ak=>⟨(L.row z E ak).1,a.up _ _ (TH _ _ (L.row z E ak).2 aF)⟩,λz E y aN ak=>⟨(L.arg z E y aN ak).1,a.up _ _ (TH _ _ (L.arg z E y aN ak).2 aF)⟩,L.c4,L.zT⟩
  .exact((aN7.off.dB (S:=λj=>h.n<=j) ((cT.set B aR _).mono λj _ e=>by rw[e];exact eA)).dB ((cT.set _ ct _).mono λj _ e=>by rw[e];exact oi)).dB a.bk.off |>.cx λj aA e=>U
  .by_cases ak:bI=[]
   .exact .inl ak
   obtain⟨r,G,F,fK⟩:=s8 (by rw[<-jw];exact λe=>ak (mr.1 e));exact .inr ⟨r,G,F,a.up _ _ (TH _ _ (by rw[fK,aws cZ aNL ak λ_ _ h=>h]) aF)⟩
  .by_cases ak:f.bZ=[]
   .exact .inl ak
   obtain⟨r,G,F,fK⟩:=wM (λe=>ak (mr.1 e));exact .inr ⟨r,G,F,a.up _ _ (TH _ _ (by rw[fK,aws eM aNM ak λ_ _ h=>h]) aF)⟩
def LR(L:Nat)(a:Nat):Value:=.slice (some ⟨a,0,none⟩) L L
structure uf(h:aV)(N cv:Nat)(cb:List Nat)(jM:List dc)(L:Nat):Prop where
 m:h.m cv=some ⟨⟨cb.map (LR L)⟩,120⟩
 len:cb.length=jM.length
 mT:∀(i a:Nat) (s:dc),cb[i]?=some a->jM[i]?=some s->h.m a=some ⟨⟨kb s⟩,153⟩/\s.length=L/\N<=a
def uf.up{h H N d e c L}(s:uf h N d e c L)(hu:∀i b,h.m i=some b->H.m i=some b):uf H N d e c L :=
 ⟨hu _ _ s.m,s.len,λi a x J f=>⟨hu _ _ (s.mT i a x J f).1,(s.mT i a x J f).2⟩⟩
def uf.set{h N f g k L}(s:uf h N f g k L)(o:g.Nodup){i a}(d:g[i]?=some a){x}(aa:x.length=L):uf (h.set a ⟨⟨kb x⟩,153⟩) N f g (k.set i x) L:=by
 have ag:=(cS.1 d).1;have⟨y,l⟩:=cR k i (by rwa[<-s.len]);refine⟨?_,by rw[mq];exact s.len,λj b z J c=>?_⟩
 .show(if f=a then _ else h.m f)=_;exact ai (c2 s.m ((s.mT i a y d l).1) aF)▸s.m
 .rw[fl] at c;by_cases e:i=j
  .subst e;rw[au rfl,au (by rwa[<-s.len])] at c;cases c;rw[d] at J;cases J;exact⟨by show(if a=a then _ else _)=_;rw[au rfl],aa,(s.mT i a y d l).2.2⟩
  .rw[ai e] at c;have n:b≠a:=by
    intro q;subst q;exact e ((List.getElem?_inj ag o).1 (by rw[d,J]))
   exact⟨by show(if b=a then _ else h.m b)=_;exact ai n▸(s.mT j b z J c).1,(s.mT j b z J c).2⟩
def uf.other{h N d f g L}(s:uf h N d f g L){a b}(I:h.m a=some b)(he:b.elem=153)(k:a∉f)z:uf (h.set a z) N d f g L:=by
 refine⟨?_,s.len,λj c x J i=>?_⟩
 .show(if d=a then _ else h.m d)=_;rw[ai (c2 s.m I Qz)];exact s.m
 .exact⟨by show(if c=a then _ else h.m c)=_;exact ai (λe=>k (e▸bQ J):c≠a)▸(s.mT j c x J i).1,(s.mT j c x J i).2⟩
def aN8{h n}(h0:0<=n)(J:n<=1000000)H(a:sh h true [] H):bc Tryz.prog 82 ⟨[.int .i64 n]⟩ H (.slice (some ⟨h.π h.k,0,none⟩) (hi n).length (hi n).length) (H.push ⟨⟨kb (hi n)⟩,153⟩):=by
 have:=avK n h0 J H;rw[a.n] at this;exact dm
def arD n:nd (ei (.slice none 0 0)) n=List.replicate n (.slice none 0 0):=by
 induction n with
 | zero=>rfl
 | succ n a=>rw[nd,a,DY];rfl
def Xf l i v:eB l (0+i*1) [v]=l.set i v:=by
 rw[wV,u1,ff,iV]
def xj(L n:Nat)(cb:List Nat):List Value:=cb.map (LR L)++List.replicate (n-cb.length) (.slice none 0 0)
def awH{L n cb a}(h:cb.length<n):(xj L n cb).set cb.length (LR L a)=xj L n (cb++[a]):=by
 unfold xj;obtain⟨m,hm⟩:∃m,n-cb.length=m+1:=⟨n-cb.length-1,U⟩;rw[hm,P3 _ _ aF,fI,sr,DY,BZ,pW,iM];have:n-(cb.length+[a].length)=m:=jf;rw[this];simp
def awI{L n cb}(h:cb.length<=n):(xj L n cb).length=n:=by unfold xj;simp;omega
structure aN9(h:aV)(N cv bV n L:Nat)(E:dc)(j3 gY:List Nat)(B:aV):Prop where
 cx:cW h B
 aOa:B.m cv=some ⟨⟨xj L n j3⟩,120⟩
 F7:B.m bV=some ⟨⟨xj L n gY⟩,120⟩
 mT:∀a∈j3++gY,B.m a=some ⟨⟨kb E⟩,153⟩/\N<=a
 awJ:(j3++gY).Nodup
def yz(s:dc):Nat:=(s.map λw=>2^64-w.toNat).sum
def si(l:List dc):Nat:=(l.map yz).sum
def aOb(a b:BitVec 64):a.toNat<=(a|||b).toNat:=by
 rw[BitVec.toNat_or];exact Nat.left_le_or
def awK:∀(s t:dc),yz (fT s t)<=yz s/\(fT s t≠s->yz (fT s t)<yz s)
 | [],[]=>⟨b4 _,λh=>absurd rfl h⟩
 | [],_::_=>⟨b4 _,λh=>absurd rfl h⟩
 | w::s,[]=>⟨b4 _,λh=>absurd rfl h⟩
 | w::s,o::t=>by
  have⟨J,d⟩:=awK s t;have g:=aOb w o;have f:=(w|||o).isLt;have a:yz (fT (w::s) (o::t))=(2^64-(w|||o).toNat)+yz (fT s t):=by simp[fT,yz]
  have b:yz (w::s)=(2^64-w.toNat)+yz s:=by simp[yz]
  refine⟨by rw[a,b];omega,λc=>?_⟩;rw[a,b];by_cases hw:(w|||o)=w
  .have:fT s t≠s:=λe=>c (by rw[fT,hw,e]);have:=d this;omega
  .have:w.toNat≠(w|||o).toNat:=λe=>hw (ajz e.symm);omega
def aOc{l i a b}(h:l[i]?=some a):si (l.set i b)+yz a=si l+yz b:=by
 rw[si,xu];exact Yk al8
def aOd bl st i(ag:i<st.ah.length):si (o7 bl st i).ah<=si st.ah/\((o7 bl st i).again=true->st.again=true\/si (o7 bl st i).ah<si st.ah)/\(o7 bl st i).ah.length=st.ah.length:=by
 unfold o7;split
 .rename_i b I;have⟨a,c⟩:=cR st.ah i ag;have e:st.ah[i]?.getD []=a:=by rw[c];rfl
  simp only[e];have⟨J,d⟩:=awK a (xd b (pQ st.ah (st.c3[i]?.getD []) (di b.av)));have f:=aOc (b:=fT a (xd b (pQ st.ah (st.c3[i]?.getD []) (di b.av)))) c;refine⟨U,λh=>?_,mq⟩;rw[l3] at h;rcases h with h|h
  .exact .inl h
  .have:=d lM;exact .inr U
 .exact⟨b4 _,λh=>.inl h,rfl⟩
def aOe bl:∀(i:Nat) (st:nj),i<=st.ah.length->si (o8 bl i st).ah<=si st.ah/\((o8 bl i st).again=true->st.again=true\/si (o8 bl i st).ah<si st.ah)/\(o8 bl i st).ah.length=st.ah.length:=by
 intro i;induction i with
 | zero=>exact λst _=>⟨b4 _,λh=>.inl h,rfl⟩
 | succ i b =>
  intro st ag;have⟨J,a,c⟩:=aOd bl st i U;have⟨g1,g2,g3⟩:=b (o7 bl st i) U;rw[o8];refine⟨U,λh=>?_,U⟩;rcases g2 h with g|g
  .rcases a g with k|k
   .exact .inl k
   .exact .inr U
  .exact .inr U
def aiz bl st(ao:st.ah.length=bl.length):si (sR bl st).ah<=si st.ah/\((sR bl st).again=true->si (sR bl st).ah<si st.ah)/\(sR bl st).ah.length=bl.length:=by
 have⟨J,a,b⟩:=aOe bl bl.length {st with again:=false} (by simp[ao]);refine⟨J,λh=>?_,VZ⟩;rcases a h with k|k
 .cases k
 .exact k
def aOf bl:∀(n:Nat) (st:nj),st.ah.length=bl.length->si st.ah<=n->∃Dl,vE bl st Dl:=by
 intro n;induction n with
 | zero =>
  intro st b hm;have⟨J,c,d⟩:=aiz bl st b;rcases a:(sR bl st).again with _|_
  .exact⟨_,.stop a⟩
  .have:=c a;omega
 | succ n e =>
  intro st b hm;have⟨J,c,d⟩:=aiz bl st b;rcases a:(sR bl st).again with _|_
  .exact⟨_,.stop a⟩
  .have⟨Dl,h⟩:=e (sR bl st) d (by have:=c a;omega);exact⟨Dl,.go a h⟩
end
end Go.Proofs.YtplleokmejppjaaGreatDoor
