/- Contracts of functions that the law reaches -/
import Derived.Test.YtplleokmejppjaaGreatDoorR27
set_option linter.all false
set_option maxHeartbeats 9999999
set_option maxRecDepth 100000
namespace Go.Proofs.YtplleokmejppjaaGreatDoor
open Go.Proofs.Tryz
open Go.AH
attribute[local irreducible] W ad
def aho m{t}(h:t<mapM):iv m≠t:=λe=>by have:=JC m;rw[e] at this;exact absurd this (UG.2 h)
def j1.eT{h H N aL bt s}(o:j1 h N aL bt s)(hu:∀i b,h.m i=some b->b.elem≠38->b.elem≠42->H.m i=some b):j1 H N aL bt s:=by
 have⟨r,l,J,e,d⟩:=o.row;exact⟨o.rw,o.fL,o.FT,hu _ _ o.hm (aho _ bo) (aho _ bo),o.ok,r,l,J,hu _ _ e aF aF,λa=>⟨(d a).1,hu _ _ (d a).2 aF aF⟩⟩
def j1.MG{h N aL bt s}(o:j1 h N aL bt s){i b}(I:h.m i=some b)(he:b.elem<mapM):i≠bt:=λe=>by
 rw[e,o.hm] at I;cases I;exact absurd (JC s.m) (UG.2 he)
def j1.MF{h N aL bt s}(o:j1 h N aL bt s){i b}(I:h.m i=some b)(he:b.elem≠143):i≠aL:=λe=>by
 have⟨_,_,_,a,_⟩:=o.row;rw[e,a] at I;cases I;exact he rfl
def OR.el{h H N aL bt s}(k:OR aL bt h H)(o:j1 h N aL bt s){i b}(I:h.m i=some b)(J:b.elem=38\/b.elem=42):H.m i=some b:=by
 rcases J with J|J
 .exact ams
 .exact ams
def j1.auQ{h N aL bt s}(o:j1 h N aL bt s){k a}(aj:b8 k)(g:a.ok):j1 (h.set bt ⟨⟨[]⟩,iv (s.m.put (mQ k a))⟩) N aL bt (FQ s k a):=by
 have⟨r,l,J,f,e⟩:=o.row;have off:∀{i:Nat}{b:cd},h.m i=some b->b.elem<mapM->(h.set bt ⟨⟨[]⟩,iv (s.m.put (mQ k a))⟩).m i=some b:=λ{i b} I he=>by
  show(if i=bt then _ else h.m i)=_;rwa[ai (o.MG I he)]
 exact⟨o.rw,o.fL,o.FT,qj _ _ _,o.ok.put aj g,r,l,J,off f (by show 143<mapM;decide),λd=>⟨(e d).1,off (e d).2 (by show 164<mapM;decide)⟩⟩
structure Lm(N aL bt:Nat)(x:lK)(h aw:aV):Prop where
 le:h.n<=aw.n
 m:∀i b,h.m i=some b->i≠aL->i≠bt->(b.elem≠164\/i<N)->(x.1.args≠[]->i≠x.2)->aw.m i=some b
def auR{x y}(h:x.args.length=y.1.args.length):dK (x,y.2)=cL x (mY y) (qp y):=by
 rw[xF];unfold mY qp;simp[(by rw[<-mr,<-mr,h]:(x.args=[])=(y.1.args=[]))]
structure O0(B:aV)(bN hN ct:Nat)(x y:cO)(A:Option Addr)(c:Nat):Prop where
 x:B.m bN=some ⟨⟨cL x A c⟩,42⟩
 y:B.m hN=some ⟨⟨cL y A c⟩,42⟩
 r:B.m ct=some ⟨⟨ei (.agg ⟨cL ⟨0,0,ND,ND,0,false,false,0,0,[]⟩ none 0⟩)⟩,42⟩
def O0.eT{B H bN hN ct x y A c}(s:O0 B bN hN ct x y A c)(hu:∀i b,B.m i=some b->b.elem=42->H.m i=some b):O0 H bN hN ct x y A c:=⟨hu _ _ s.x rfl,hu _ _ s.y rfl,hu _ _ s.r rfl⟩
def auS{x}:∀{w:List FP},(∀k∈w,b8 k.2)->b8 (mi w x)
 | [],_=>by unfold mi b8;omega
 | k::w,h=>by
  unfold mi;split
  .exact h k aF
  .exact auS λj aA=>h j Ea
structure qz(h H:aV)(N aL bt bN hN ct:Nat)(x:lK)(V:List ho)(u y:cO)(A:Option Addr)(c:Nat):Prop where
 b:O0 H bN hN ct u y A c
 le:h.n<=H.n
 k:∀i b,h.m i=some b->i≠aL->i≠bt->(b.elem≠164\/i<N)->(x.1.args≠[]->i≠x.2)->H.m i=some b
 v:x.1.args≠[]->H.m x.2=some ⟨⟨fN V⟩,38⟩
 d:∀i b,h.m i=some b->i<h.n
 O1:h.n<=bN
 O2:h.n<=ct
 rx:ct≠bN
 O3:bN≠hN
section
variable{h H H':aV}{N aL bt bN hN ct:Nat}{x:lK}{V:List ho}{u y:cO}{A:Option Addr}{c:Nat}{s:nk}
def qz.up(z:qz h H N aL bt bN hN ct x V u y A c)(hu:∀i b,H.m i=some b->H'.m i=some b)(f:H.n<=H'.n):qz h H' N aL bt bN hN ct x V u y A c :=
 ⟨z.b.eT λi b I _=>hu i b I,bx z.le f,λi b J g j e a=>hu _ _ (z.k i b J g j e a),λak=>hu _ _ (z.v ak),z.d,z.O1,z.O2,z.rx,z.O3⟩
def qz.call(z:qz h H N aL bt bN hN ct x V u y A c)(o:j1 H N aL bt s)(k:OR aL bt H H'):qz h H' N aL bt bN hN ct x V u y A c :=
 ⟨z.b.eT λ_ _ I he=>k.el o I (.inr he),bx z.le k.le,λi b J a e g f=>k.m i b (z.k i b J a e g f) a e,λak=>k.el o (z.v ak) (.inl rfl),z.d,z.O1,z.O2,z.rx,z.O3⟩
def qz.Ad(z:qz h H N aL bt bN hN ct x V u y A c)(o:j1 H N aL bt s)w:qz h (H.set bt w) N aL bt bN hN ct x V u y A c:=by
 have hu:∀i b,H.m i=some b->i≠bt->(H.set bt w).m i=some b:=λi b I ak=>by
  show(if i=bt then _ else H.m i)=_;rwa[ai ak]
 exact⟨z.b.eT λi b I he=>hu i b I (o.MG I sv),z.le,λi b J g a f e=>hu _ _ (z.k i b J g a f e) a,λak=>hu _ _ (z.v ak) (o.MG (z.v ak) (by show 38<mapM;decide)),z.d,z.O1,z.O2,z.rx,z.O3⟩
def qz.Yz(z:qz h H N aL bt bN hN ct x V u y A c)a:qz h (H.set bN ⟨⟨cL a A c⟩,42⟩) N aL bt bN hN ct x V a y A c:=by
 have hu:∀i b,H.m i=some b->i≠bN->(H.set bN ⟨⟨cL a A c⟩,42⟩).m i=some b:=λi b I ak=>by
  show(if i=bN then _ else H.m i)=_;rwa[ai ak]
 exact⟨⟨qj _ _ _,hu _ _ z.b.y λe=>z.O3 e.symm,hu _ _ z.b.r z.rx⟩,z.le,λi b J j l g f=>hu _ _ (z.k i b J j l g f) λe=>by have:=z.d i b J;have:=z.O1;omega,λak=>hu _ _ (z.v ak) (c2 (z.v ak) z.b.x aF),z.d,z.O1,z.O2,z.rx,z.O3⟩
def qz.off(z:qz h H N aL bt bN hN ct x V u y A c)(o:j1 H N aL bt s)(hu:∀i b,H.m i=some b->i≠aL->(b.elem≠164\/i<N)->H'.m i=some b)(g:H.n<=H'.n):qz h H' N aL bt bN hN ct x V u y A c :=
 ⟨z.b.eT λi b I he=>hu i b I (o.MF I sv) (.inl sv),bx z.le g,λi b J e j a f=>hu _ _ (z.k i b J e j a f) e a,λak=>hu _ _ (z.v ak) (o.MF (z.v ak) aF) (.inl aF),z.d,z.O1,z.O2,z.rx,z.O3⟩
def qz.auT(z:qz h H N aL bt bN hN ct x V u y A c){w}(f:∀i b,(H.set ct w).m i=some b->H'.m i=some b)(j:H.n<=H'.n):Lm N aL bt x h H'/\(x.1.args≠[]->H'.m x.2=some ⟨⟨fN V⟩,38⟩):=by
 have hu:∀i b,H.m i=some b->i≠ct->H'.m i=some b:=λi b I ak=>f i b (by
  show(if i=ct then _ else H.m i)=_;rwa[ai ak])
 exact⟨⟨bx z.le j,λi b J l o g a=>hu _ _ (z.k i b J l o g a) λe=>by have:=z.d i b J;have:=z.O2;omega⟩,λak=>hu _ _ (z.v ak) (c2 (z.v ak) z.b.r aF)⟩
def qz.bb(z:qz h H N aL bt bN hN ct x V u y A c)(o:j1 H N aL bt s){w}(a:∀i b,(H.set ct w).m i=some b->H'.m i=some b)(d:H.n<=H'.n):j1 H' N aL bt s/\Lm N aL bt x h H'/\(x.1.args≠[]->H'.m x.2=some ⟨⟨fN V⟩,38⟩):=by
 have hu:∀i b,H.m i=some b->i≠ct->H'.m i=some b:=λi b I ak=>a i b (by
  show(if i=ct then _ else H.m i)=_;rwa[ai ak])
 exact⟨o.eT λi b I _ he=>hu i b I (c2 I z.b.r he),z.auT a d⟩
end
def aKe x s(KU:x.1.ok)(og:x.1.args.length<=1000000)(hw:s.w.length<=999999999)(Ae:∀k∈s.w,b8 k.2) h N aL bt(o:j1 h N aL bt s)(Zg:x.1.args≠[]->df<=x.2/\h.m x.2=some ⟨⟨fN x.1.args⟩,38⟩):
 dw prog 72 [.pointer (some ⟨aL,0,none⟩),.agg ⟨dK x⟩] h (λv aw=>v=.agg ⟨dK (jq s x.1,x.2)⟩/\j1 aw N aL bt (ic s x.1)/\Lm N aL bt x h aw/\(x.1.args≠[]->aw.m x.2=some ⟨⟨fN (x.1.args.map λa=>hA s.m a (-1))⟩,38⟩)):=by
 obtain⟨fP,Jz⟩:∃A,A=mY x:=⟨_,rfl⟩;obtain⟨gp,Sh⟩:∃c,c=qp x:=⟨_,rfl⟩;rw[xF,<-Jz,<-Sh];refine dw.intro (c:=(f72.body.getD .skip)) func72 ax ntmps72 ax λπ bF=>?_;conv=>arg 2;whnf
 have aq:=bF.aO;have Nj:=aq;have anS:=o;have pr:(x.1.args.map λa=>hA s.m a (-1)).length=x.1.args.length:=fI _;refine Hq ?_;apply W.seq;repeat(first|refine RF ?_|refine gr ?_)
 apply W.seq;repeat(first|refine ac9 ?_|refine n4 ?_|refine Ra ?_|refine MV ?_|refine gr ?_)
 apply W.seq;repeat(first|refine ac9 ?_|refine n4 ?_|refine pz ?_|refine MV ?_|refine gr ?_)
 refine W.hH λds pD S=>?_;have tO:O0 ds (π 0) (π 2) (π 1) {x.1 with a:=hA s.m x.1.a x.1.dst,b:=hA s.m x.1.b x.1.dst} {x.1 with a:=hA s.m x.1.a (-1),b:=hA s.m x.1.b (-1)} fP gp:=⟨S.bJ 0 (bo:(0:Nat)<3),S.bJ 2 (bo:(2:Nat)<3),S.bJ 1 (bo:(1:Nat)<3)⟩;have Si:h.n<=π 0:=S.bL 0 (bo:(0:Nat)<3);have E4:h.n<=π 1:=S.bL 1 (bo:(1:Nat)<3);have FZ:π 1≠π 0:=λe=>absurd (S.inj 1 0 (bo:(1:Nat)<3) (bo:(0:Nat)<3) e) bo;have Tc:π 1≠π 2:=λe=>absurd (S.inj 1 2 (bo:(1:Nat)<3) (bo:(2:Nat)<3) e) bo;have CQ:π 0≠π 2:=λe=>absurd (S.inj 0 2 (bo:(0:Nat)<3) (bo:(2:Nat)<3) e) bo;generalize π 0=bN at *;generalize π 1=ct at *;generalize π 2=hN at *;have adj:=bx bF.rw Si;have uM:=bx bF.rw E4;have cc:=tO.x;have dW:=S.aO _ _ cc;repeat(first|refine qh ?_|refine vv ?_|refine mc ?_)
 refine W.hz (X:=Nat) (λj=>[(0,.pointer (some ⟨aL,0,none⟩)),(3,.pointer (some ⟨bN,0,none⟩)),(4,.pointer (some ⟨ct,0,none⟩)),(5,.pointer (some ⟨hN,0,none⟩)),(35,.slice fP x.1.args.length gp),(36,.int .i64 (x.1.args.length:Int)),(37,.int .i64 (j:Int))])
  (λj B=>j<=x.1.args.length/\h.n<=B.n/\(∀i b,h.m i=some b->(x.1.args≠[]->i≠x.2)->B.m i=some b)/\O0 B bN hN ct {x.1 with a:=hA s.m x.1.a x.1.dst,b:=hA s.m x.1.b x.1.dst} {x.1 with a:=hA s.m x.1.a (-1),b:=hA s.m x.1.b (-1)} fP gp/\(x.1.args≠[]->B.m x.2=some ⟨⟨fN (ia (x.1.args.map λa=>hA s.m a (-1)) x.1.args j)⟩,38⟩)) (λj=>x.1.args.length-j)
  (λaD y=>⟨0,?_,⟨dG _,bx S.le y.le,?_,?_,λak=>?_⟩⟩) ?_
 .exact ca
 .exact λi b I _=>y.up _ _ (S.up _ _ I)
 .exact tO.eT λi b I _=>y.up _ _ I
 .rw[Oi];exact y.up _ _ (S.up _ _ (Zg ak).2)
 rintro j gL yf r8 ⟨aA,oc,HS,AA,Fx⟩;clear cc dW;have cc:=AA.x;have dW:=r8.aO _ _ cc;have T:j1 gL N aL bt s:=o.eT λi b I J _=>HS i b I λak=>c2 I (Zg ak).2 J;by_cases hb:j<x.1.args.length
 .have vm:x.1.args≠[]:=aml;obtain⟨Sj,VX⟩:∃a,x.1.args[j]?=some a:=⟨_,ey hb⟩;have zm:=Fx vm;have adL:=r8.aO _ _ zm;have ao7:=(Zg vm).1;have Nj:=r8.aO;have anS:=T;have apm:(ia (x.1.args.map λa=>hA s.m a (-1)) x.1.args j)[j]?=some Sj:=by rw[VG pr];exact VX
  have oX:=Jt pr j;have adM:0+j*2+2<=(fN (ia (x.1.args.map λa=>hA s.m a (-1)) x.1.args j)).length:=by rw[abw,oX];omega
  have agb:fP=some ⟨x.2,0,none⟩:=alB;subst agb;repeat(first|refine ac9 ?_|apply ad.qf;(iterate 5 rfl);exact hb|refine apl ?_|refine ao6 ?_|refine qh ?_|refine na ?_|refine la ?_|refine AX ?_)
  refine eK rfl λaD y=>⟨j+1,?_,⟨hb,bx oc y.le,λi b I ak=>y.up _ _ ?_,AA.eT λi b I he=>y.up _ _ ?_,λ_=>y.up _ _ ?_⟩,U⟩
  .exact ca
  .show(if i=x.2 then _ else gL.m i)=_;rw[ai (ak vm)];exact HS i b I ak
  .show(if i=x.2 then _ else gL.m i)=_;rw[ai (c2 I zm Qz)];exact I
  .show(if x.2=x.2 then _ else _)=_;rw[au rfl];have e:fN (ia (x.1.args.map λa=>hA s.m a (-1)) x.1.args (j+1))=eB (fN (ia (x.1.args.map λa=>hA s.m a (-1)) x.1.args j)) (0+j*2) (dX (hA s.m Sj (-1))):=by
    rw[af5 (by rw[oX];exact hb),KR pr alR]
   rw[e];rfl
 .have vL:j=x.1.args.length:=U;subst vL;rw[Oj pr] at Fx;obtain⟨C,vW⟩:∃u,jo s.m x.1=u:=⟨_,rfl⟩;obtain⟨O4,auU⟩:∃u,SW s.m x.1=u:=⟨_,rfl⟩;have ex:cL {x.1 with a:=hA s.m x.1.a x.1.dst,b:=hA s.m x.1.b x.1.dst} fP gp=cL C fP gp:=by rw[<-vW];unfold cL jo;simp
  have aKf:cL {x.1 with a:=hA s.m x.1.a (-1),b:=hA s.m x.1.b (-1)} fP gp=cL O4 fP gp:=by rw[<-auU];unfold cL SW;simp
  have Dw:qz h gL N aL bt bN hN ct x (x.1.args.map λa=>hA s.m a (-1)) C O4 fP gp:=⟨⟨by rw[<-ex];exact AA.x,by rw[<-aKf];exact AA.y,AA.r⟩,oc,λi b J _ _ _ cz=>HS i b J cz,Fx,aq,Si,E4,FZ,CQ⟩;have dC:C.op=x.1.op:=by rw[<-vW];rfl
  have lE:C.dst=x.1.dst:=by rw[<-vW];rfl
  have dO:C.args.length=x.1.args.length:=by rw[<-vW];simp[jo]
  have Qy:dK (C,x.2)=cL C fP gp:=by rw[Jz,Sh];exact auR dO
  have aKg:C.a.ok:=by rw[<-vW];exact Lg o.ok KU.a _
  have aKh:b8 C.dst:=by rw[lE];exact KU.dst
  have J8:=bx o.rw o.FT;have xW:s.w.length<=1000000000:=U;have aKi:(sf s.w).length<=1000000000:=bx (Gu _ _) xW;clear cc dW;have cc:=Dw.b.x;have dW:=r8.aO _ _ cc;have bA:=Dw.b.r;have mE:=r8.aO _ _ bA;by_cases aW:C.op=2\/C.op=1
  .have ba:jq s x.1=C:=by unfold jq;rw[au U,vW]
   have a1:ic s x.1=if C.a.ck≠C.dst then FQ (kz s C.dst) C.dst C.a else kz s C.dst:=by unfold ic;rw[au U,vW,lE]
   by_cases aT:C.a.ck≠C.dst
   .rw[au aT] at a1;rcases aW with aW|aW;all_goals
     repeat(first|refine AZ ?_|apply ad.gC;rfl;rfl;rfl;intro Q E;refine⟨_,OZ Q N aL bt s C.dst (T.up E.up) xW,?_⟩;rintro v G fo ⟨rfl,kp,Ln⟩ F re;have L:=(Dw.up E.up E.le).call (T.up E.up) Ln;have cc:=L.b.x;have dW:=F.aO _ _ cc;have bA:=L.b.r;have mE:=F.aO _ _ bA;have Y:=kp.hm;have p4:=F.aO _ _ Y;have mF:=kp.ok.bF;obtain⟨fM,aKj,aKk,cF,aKl⟩:=kp.row;have k8:=F.aO _ _ cF;have dZ:bw G.n (.map (some bt)):=Mp;have O5:=(L.Ad kp ⟨⟨[]⟩,iv ((kz s C.dst).m.put (mQ C.dst C.a))⟩).b.x;have It:=(L.Ad kp ⟨⟨[]⟩,iv ((kz s C.dst).m.put (mQ C.dst C.a))⟩).b.r|apply ad.hF;rfl;rfl;rfl;exact O5;exact dW;exact iu;rfl|apply ad.gi;rfl;rfl;rfl;exact It;exact mE;exact uM;exact iu;iterate 3 rfl|refine W5 ?_|apply(ad.mapUpdate (row:=mQ C.dst C.a));(iterate 4 rfl);exact Y;exact p4;exact J8;exact mF|refine qi ?_|refine pA ?_|refine hW ?_|refine ade ?_|refine q1 ?_)
     refine cf _ (.cons (.rk (vs:=cL C fP gp) rfl (qj _ _ _) (dM rfl) rfl) .nil) λaD a=>⟨Qx,?_⟩;rw[a1];exact(L.Ad kp _).bb (kp.auQ aKh aKg) a.up a.le
   .rw[ai aT] at a1;rcases aW with aW|aW;all_goals
     repeat(first|refine AZ ?_|refine Hj ?_|apply ad.gC;rfl;rfl;rfl;intro Q E;refine⟨_,OZ Q N aL bt s C.dst (T.up E.up) xW,?_⟩;rintro v G fo ⟨rfl,kp,Ln⟩ F re;have L:=(Dw.up E.up E.le).call (T.up E.up) Ln;have cc:=L.b.x;have dW:=F.aO _ _ cc;have bA:=L.b.r;have mE:=F.aO _ _ bA;have Y:=kp.hm;have p4:=F.aO _ _ Y;have mF:=kp.ok.bF;obtain⟨fM,aKj,aKk,cF,aKl⟩:=kp.row;have k8:=F.aO _ _ cF;have dZ:bw G.n (.map (some bt)):=Mp;have O5:=(L.Ad kp ⟨⟨[]⟩,iv ((kz s C.dst).m.put (mQ C.dst C.a))⟩).b.x;have It:=(L.Ad kp ⟨⟨[]⟩,iv ((kz s C.dst).m.put (mQ C.dst C.a))⟩).b.r|refine na ?_|refine pA ?_|refine hW ?_|refine aot ?_|refine q1 ?_)
     refine cf _ (.cons (.rk (vs:=cL C fP gp) rfl (qj _ _ _) (dM rfl) rfl) .nil) λaD a=>⟨Qx,?_⟩;rw[a1];exact L.bb kp a.up a.le
  by_cases bn:C.op=27\/C.op=28\/C.op=29
  .have ba:jq s x.1=C:=by unfold jq;rw[ai U,au U,vW]
   have a1:ic s x.1=if 0<=C.dst then kz ⟨s.m,sf s.w⟩ C.dst else⟨s.m,sf s.w⟩:=by unfold ic;rw[ai U,au U,lE]
   by_cases aT:0<=C.dst
   .rw[au aT] at a1;rcases bn with bn|bn|bn;all_goals
     repeat(first|refine AZ ?_|refine Hj ?_|(apply ad.gC;rfl;rfl;rfl;first|intro Q E;refine⟨_,aus Q N aL bt s xW (T.up E.up),?_⟩;rintro v G fo ⟨rfl,kp,Ln⟩ F re;have L:=(Dw.up E.up E.le).call (T.up E.up) Ln;have cc:=L.b.x;have dW:=F.aO _ _ cc;have bA:=L.b.r;have mE:=F.aO _ _ bA|intro B2 kM;refine⟨_,OZ B2 N aL bt ⟨s.m,sf s.w⟩ C.dst (kp.up kM.up) aKi,?_⟩;rintro v R fE ⟨rfl,D,Lo⟩ q5 uX;have M:=(L.up kM.up kM.le).call (kp.up kM.up) Lo;have cc:=M.b.x;have dW:=q5.aO _ _ cc;have bA:=M.b.r;have mE:=q5.aO _ _ bA)|refine na ?_|refine pA ?_|refine hW ?_|refine ade ?_|refine q1 ?_)
     refine cf _ (.cons (.rk (vs:=cL C fP gp) rfl (qj _ _ _) (dM rfl) rfl) .nil) λaD a=>⟨Qx,?_⟩;rw[a1];exact M.bb D a.up a.le
   .rw[ai aT] at a1;rcases bn with bn|bn|bn;all_goals
     repeat(first|refine AZ ?_|refine Hj ?_|apply ad.gC;rfl;rfl;rfl;intro Q E;refine⟨_,aus Q N aL bt s xW (T.up E.up),?_⟩;rintro v G fo ⟨rfl,kp,Ln⟩ F re;have L:=(Dw.up E.up E.le).call (T.up E.up) Ln;have cc:=L.b.x;have dW:=F.aO _ _ cc;have bA:=L.b.r;have mE:=F.aO _ _ bA|refine na ?_|refine pA ?_|refine hW ?_|refine aot ?_|refine q1 ?_)
     refine cf _ (.cons (.rk (vs:=cL C fP gp) rfl (qj _ _ _) (dM rfl) rfl) .nil) λaD a=>⟨Qx,?_⟩;rw[a1];exact L.bb kp a.up a.le
  by_cases e3:C.op=30
  .have ba:jq s x.1=C:=by unfold jq;rw[ai U,ai U,au U,vW]
   have a1:ic s x.1=s:=by unfold ic;rw[ai U,ai U,au U]
   repeat(first|refine AZ ?_|refine Hj ?_|refine na ?_|refine wQ ?_|refine c8 ?_|refine ade ?_|refine q1 ?_)
   refine cf _ (.cons (.rk (vs:=cL C fP gp) rfl (qj _ _ _) (dM rfl) rfl) .nil) λaD a=>⟨Qx,?_⟩;rw[a1];exact Dw.bb T a.up a.le
  obtain⟨fs,Im⟩:∃u,lN C=u:=⟨_,rfl⟩;obtain⟨Ex,auV⟩:∃u,lN O4=u:=⟨_,rfl⟩;have ym:fs.dst=x.1.dst:=by rw[<-Im,ag2,lE]
  have E7:fs.args.length=x.1.args.length:=by rw[<-Im,Y4,dO]
  have ayR:dK (fs,x.2)=cL fs fP gp:=by rw[Jz,Sh];exact auR E7
  have aKm:b8 fs.dst:=by rw[ym];exact KU.dst
  have ahp:pa s x.1=if mi s.w Ex<0 then mi s.w fs else mi s.w Ex:=by unfold pa;rw[vW,auU,Im,auV]
  have WB:∀a,fP=some a->a.block<h.n:=λa aJ=>by
   rw[Jz] at aJ;unfold mY at aJ;split at aJ
   .exact yU
   .injection aJ with aJ;subst aJ;exact aq _ _ (Zg h3).2
  have gB:∀aD:aV,h.n<=aD.n->bc prog 94 ⟨[.agg ⟨cL C fP gp⟩]⟩ aD (.agg ⟨cL fs fP gp⟩) aD:=λaD I=>by
   rw[<-Im];exact aup C fP gp aD λa aJ=>eQ (WB a aJ) I
  have aAq:∀aD:aV,h.n<=aD.n->bc prog 94 ⟨[.agg ⟨cL O4 fP gp⟩]⟩ aD (.agg ⟨cL Ex fP gp⟩) aD:=λaD I=>by
   rw[<-auV];exact aup O4 fP gp aD λa aJ=>eQ (WB a aJ) I
  repeat(first|refine AZ ?_|apply ad.jy;rfl;rfl;rfl;exact λaD eL=>gB aD (bx oc eL.le)|refine adi ?_|refine na ?_|refine uL ?_|refine nD ?_|(with_reducible first|apply W.seq|apply W.block|apply W.exit|apply W.skip|apply fr|apply mC|apply rM|apply xU)|refine lC ?_)
  refine ad.hH λiN Dd o4=>?_;have aSF:=r8.aO _ _ Dw.b.x;have L:=(Dw.Yz fs).up o4.up o4.le;have kp:j1 iN N aL bt s:=(T.eT (H:=gL.set bN ⟨⟨cL fs fP gp⟩,42⟩) λi b I _ ag=>by
   show(if i=bN then _ else gL.m i)=_;rw[ai (c2 I Dw.b.x ag)];exact I).up o4.up
  have anw:h.n<=iN.n:=L.le;clear cc dW bA mE;have cc:=L.b.x;have dW:=o4.aO _ _ cc;have bA:=L.b.r;have mE:=o4.aO _ _ bA;have lA:=L.b.y;have zk:=o4.aO _ _ lA;by_cases jX:0<=mi s.w Ex\/0<=mi s.w fs
  .obtain⟨z,z8,K1,SH⟩:∃z,pa s x.1=z/\0<=z/\((0<=mi s.w Ex/\z=mi s.w Ex)\/(mi s.w Ex<0/\z=mi s.w fs)):=by
    by_cases J:mi s.w Ex<0
    .exact⟨_,by rw[ahp,au J],U,.inr ⟨J,rfl⟩⟩
    .exact⟨_,by rw[ahp,ai J],U,.inl ⟨U,rfl⟩⟩
   have iX:b8 z:=by
    rcases SH with⟨_,e⟩|⟨_,e⟩
    all_goals rw[e];exact auS Ae
   have ba:jq s x.1=ow 2 fs.dst ⟨z,0⟩:=by unfold jq;rw[ai U,ai U,ai U,z8,au K1,ym]
   have a1:ic s x.1=if z≠fs.dst then FQ (kz s fs.dst) fs.dst ⟨z,0⟩ else s:=by unfold ic;rw[ai U,ai U,ai U,z8,au K1,ym]
   have aKn:(⟨z,0⟩:ho).ok:=⟨iX,by show b8 0;unfold b8;omega⟩;by_cases hI:z≠fs.dst
   .rw[au hI] at a1;rcases SH with⟨J,ab⟩|⟨J,ab⟩
    all_goals
     subst ab;repeat(first|refine AZ ?_|refine W5 ?_|refine W1 ?_|refine WI ?_|apply ad.gC;rfl;rfl;rfl;intro Q E;refine⟨_,OZ Q N aL bt s fs.dst (kp.up E.up) xW,?_⟩;rintro v G fo ⟨rfl,D,Lo⟩ F re;have M:=(L.up E.up E.le).call (kp.up E.up) Lo;have cc:=M.b.x;have dW:=F.aO _ _ cc;have bA:=M.b.r;have mE:=F.aO _ _ bA;have Y:=D.hm;have p4:=F.aO _ _ Y;have mF:=D.ok.bF;obtain⟨Z,O,Zh,cF,ahq⟩:=D.row;have k8:=F.aO _ _ cF;have dZ:bw G.n (.map (some bt)):=Mp;have O5:=λw=>(M.Ad D w).b.x;have It:=λw=>(M.Ad D w).b.r|apply ad.dv;rfl;rfl;rfl;exact O5 _;exact dW;rfl|apply ad.gi;rfl;rfl;rfl;exact It _;exact mE;exact uM;exact iu;iterate 3 rfl|apply(ad.mapUpdate (row:=mQ fs.dst ⟨_,0⟩));(iterate 4 rfl);exact Y;exact p4;exact J8;exact mF|refine ape ?_|refine qi ?_|refine nC ?_|refine oq ?_|refine c8 ?_|refine Ez ?_|refine vy ?_)
     refine cf _ (.cons (.rk (vs:=cL (ow 2 fs.dst ⟨_,0⟩) none 0) rfl (qj _ _ _) (dM rfl) rfl) .nil) λaD a=>⟨by rw[ba];rfl,?_⟩;rw[a1];exact(M.Ad D _).bb (D.auQ aKm aKn) a.up a.le
   .rw[ai hI] at a1;rcases SH with⟨J,ab⟩|⟨J,ab⟩
    all_goals
     subst ab;repeat(first|refine AZ ?_|refine Hj ?_|refine W1 ?_|refine WI ?_|refine ape ?_|refine x1 ?_|refine oq ?_|refine c8 ?_|refine Ez ?_|refine vy ?_)
     refine cf _ (.cons (.rk (vs:=cL (ow 2 fs.dst ⟨_,0⟩) none 0) rfl (qj _ _ _) (dM rfl) rfl) .nil) λaD a=>⟨by rw[ba];rfl,?_⟩;rw[a1];exact L.bb kp a.up a.le
  .have z8:¬0<=pa s x.1:=by rw[ahp];split<;>omega
   have ba:jq s x.1=fs:=by unfold jq;rw[ai U,ai U,ai U,ai z8,vW,Im]
   have a1:ic s x.1=if fs.a.ck≠fs.dst/\fs.b.ck≠fs.dst then⟨(kz s fs.dst).m,(kz s fs.dst).w++[(fs,fs.dst)]⟩ else kz s fs.dst:=by unfold ic;rw[ai U,ai U,ai U,ai z8,vW,Im,ym]
   by_cases hI:fs.a.ck≠fs.dst/\fs.b.ck≠fs.dst
   .rw[au hI] at a1;obtain⟨ob,vR⟩:=hI;repeat(first|refine qh ?_|(apply ad.hF;rfl;rfl;rfl;first|exact cc;exact dW;exact iu;rfl|exact lA;exact zk;exact iu;rfl)|refine WI ?_|apply ad.gC;rfl;rfl;rfl;intro Q E;refine⟨_,OZ Q N aL bt s fs.dst (kp.up E.up) xW,?_⟩;rintro v G fo ⟨rfl,D,Lo⟩ F re;have M:=(L.up E.up E.le).call (kp.up E.up) Lo;have cc:=M.b.x;have dW:=F.aO _ _ cc;have bA:=M.b.r;have mE:=F.aO _ _ bA;have Y:=D.hm;have p4:=F.aO _ _ Y;have mF:=D.ok.bF;obtain⟨Z,O,Zh,cF,ahq⟩:=D.row;have k8:=F.aO _ _ cF;have dZ:bw G.n (.map (some bt)):=Mp;have O5:=λw=>(M.Ad D w).b.x;have It:=λw=>(M.Ad D w).b.r|refine qi ?_|refine tz ?_|refine nC ?_|refine c8 ?_|refine WL ?_|refine vy ?_)
    have bM:=D.ne;have Za:=D.fL;have H3:=bx D.rw D.fL;have qx:O.length<=999999999:=by
     have J:O.length=(kz s fs.dst).w.length:=by rw[<-Zh];simp
     have ab:(kz s fs.dst).w.length<=s.w.length:=Gu _ _;omega
    have auW:=D.MF cc aF;have iU:=D.MF bA aF;have bb:∀(R aD:aV) (w:Value) (cu:Nat) (oT:cd),(∀i b,G.m i=some b->(b.elem≠164\/i<N)->R.m i=some b)->R.n=G.n->w=cD 13 cu (eZ (O++[⟨(fs,fs.dst),fP,gp⟩]))->(∀i b,((R.set aL ⟨⟨[.map (some bt),w]⟩,143⟩).set ct oT).m i=some b->aD.m i=some b)->R.n<=aD.n->N<=cu->aD.m cu=some ⟨⟨(eZ (O++[⟨(fs,fs.dst),fP,gp⟩])).flatten⟩,164⟩ ->
     j1 aD N aL bt ⟨(kz s fs.dst).m,(kz s fs.dst).w++[(fs,fs.dst)]⟩/\Lm N aL bt x h aD/\(x.1.args≠[]->aD.m x.2=some ⟨⟨fN (x.1.args.map λa=>hA s.m a (-1))⟩,38⟩):=by
     intro R aD w cu oT ab ak vb eL ahd F0 e1;subst vb;have off:∀{i:Nat}{b:cd},G.m i=some b->i≠aL->(b.elem≠164\/i<N)->(R.set aL ⟨⟨[.map (some bt),cD 13 cu (eZ (O++[⟨(fs,fs.dst),fP,gp⟩]))]⟩,143⟩).m i=some b:=λ{i b} I ag he=>by
      show(if i=aL then _ else R.m i)=_;rw[ai ag];exact ab i b I he
     have aKo:qz h (R.set aL ⟨⟨[.map (some bt),cD 13 cu (eZ (O++[⟨(fs,fs.dst),fP,gp⟩]))]⟩,143⟩) N aL bt bN hN ct x (x.1.args.map λa=>hA s.m a (-1)) fs O4 fP gp:=M.off D (λi b I ag he=>off I ag he) (IV ak.symm);have up:∀{i:Nat}{b:cd},(R.set aL ⟨⟨[.map (some bt),cD 13 cu (eZ (O++[⟨(fs,fs.dst),fP,gp⟩]))]⟩,143⟩).m i=some b->i≠ct->aD.m i=some b:=λ{i b} I ag=>eL i b (by
      show(if i=ct then _ else(R.set aL _).m i)=_;rw[ai ag];exact I)
     refine⟨⟨D.rw,D.fL,D.FT,up (off D.hm bM (.inl (aho _ bo))) (λe=>D.MG bA (by show 42<mapM;decide) e.symm),D.ok,cu,O++[⟨(fs,fs.dst),fP,gp⟩],by simp[Zh],up (qj _ _ _) iU.symm,λ_=>⟨F0,e1⟩⟩,aKo.auT eL (by show R.n<=_;exact ahd)⟩
    by_cases gD:O=[]
    .subst gD;have Lp:G.m aL=some ⟨⟨[.map (some bt),.slice none 0 0]⟩,143⟩:=cF;have RC:∀w,(G.set aL w).m bN=some ⟨⟨cL fs fP gp⟩,42⟩:=λw=>by
      show(if bN=aL then _ else G.m bN)=_;rw[ai auW];exact cc
     have aoN:∀w,(G.set aL w).m ct=_:=λw=>B0 (by
      show(if ct=aL then _ else G.m ct)=_;rw[ai iU]) bA
     repeat(first|refine AZ ?_|apply ad.dv;rfl;rfl;rfl;exact Lp;exact k8;rfl|refine gP ?_|refine an7 ?_|apply ad.gi;rfl;rfl;rfl;exact Lp;exact k8;exact H3;exact iu;iterate 3 rfl|refine ao3 ?_|refine aoM ?_|(with_reducible first|apply ad.nilCheck|apply ad.fieldAddr);iterate 3 rfl|refine oq ?_|refine ov ?_)
     refine cf _ (.cons (.rk (vs:=cL fs fP gp) rfl (qj _ _ _) (dM rfl) rfl) .nil) λaD a=>⟨acc,?_⟩;rw[a1];exact bb G aD _ (fo 1) _ (λi b I _=>I) rfl rfl a.up a.le (bx (bx Za (ph k8)) (a.bL 1 (bo:(1:Nat)<2))) (a.bJ 1 (bo:(1:Nat)<2))
    .have hM:(eZ O).length=O.length:=Ms;have Yn:eZ O≠[]:=λe=>gD (ahc.1 e);obtain⟨HY,Lq⟩:=ahq gD;have ahr:=F.aO _ _ Lq;have ahs:df<=Z:=bx D.rw HY;have Td:(eZ O).flatten.length=(eZ O).length*13:=yi (S1 O);have Lp:G.m aL=some ⟨⟨[.map (some bt),.slice (some ⟨Z,0,none⟩) (eZ O).length (dF 13)]⟩,143⟩:=by rw[cF,jO,ai Yn,ai Yn]
     have fB:∀{i:Nat}{b:cd},G.m i=some b->(b.elem≠164\/i<N)->(G.fB Z).m i=some b:=λ{i b} I he=>by
      show(if i=Z then none else G.m i)=_;rw[ai (he.elim (λhe=>c2 I Lq he) λhe=>U)];exact I
     have aKp:=fB Lp (.inl aF);have RC:∀w,((G.fB Z).set aL w).m bN=some ⟨⟨cL fs fP gp⟩,42⟩:=λw=>by
      show(if bN=aL then _ else(G.fB Z).m bN)=_;rw[ai auW];exact fB cc (.inl aF)
     have aoN:∀w,((G.fB Z).set aL w).m ct=_:=λw=>B0 (by
      show(if ct=aL then _ else(G.fB Z).m ct)=_;rw[ai iU]) (fB bA (.inl aF))
     repeat(first|refine AZ ?_|apply ad.dv;rfl;rfl;rfl;exact Lp;exact k8;rfl|refine gP ?_|refine ao3 ?_|refine aoM ?_|apply ad.agr;(iterate 6 rfl);exact Lq;exact ahr;exact ahs;exact Td;exact kP;rfl;rfl;rfl;omega;omega|apply ad.gi;rfl;rfl;rfl;exact aKp;exact k8;exact H3;exact iu;iterate 3 rfl|(with_reducible first|apply ad.nilCheck|apply ad.fieldAddr);iterate 3 rfl|refine oq ?_|refine ov ?_)
     refine cf _ (.cons (.rk (vs:=cL fs fP gp) rfl (qj _ _ _) (dM rfl) rfl) .nil) λaD a=>⟨acc,?_⟩;rw[a1];refine bb (G.fB Z) aD _ (fo 1) _ (λi b I he=>fB I he) rfl ?_ a.up a.le (bx (bx Za (ph k8)) (a.bL 1 (bo:(1:Nat)<2))) ?_
     .rw[<-UY,jO,ai aF,ai aF];simp
     .have:=a.bJ 1 (bo:(1:Nat)<2);rw[this,<-UY,ajB];rfl
   .rw[ai hI] at a1;by_cases ob:fs.a.ck=fs.dst;all_goals
     try have vR:fs.b.ck=fs.dst:=aaW λe=>hI ⟨ob,e⟩
     repeat(first|refine AZ ?_|refine Hj ?_|refine W1 ?_|refine WI ?_|apply ad.gC;rfl;rfl;rfl;intro Q E;refine⟨_,OZ Q N aL bt s fs.dst (kp.up E.up) xW,?_⟩;rintro v G fo ⟨rfl,D,Lo⟩ F re;have M:=(L.up E.up E.le).call (kp.up E.up) Lo;have cc:=M.b.x;have dW:=F.aO _ _ cc;have bA:=M.b.r;have mE:=F.aO _ _ bA;have Y:=D.hm;have p4:=F.aO _ _ Y;have mF:=D.ok.bF;obtain⟨Z,O,Zh,cF,ahq⟩:=D.row;have k8:=F.aO _ _ cF;have dZ:bw G.n (.map (some bt)):=Mp;have O5:=λw=>(M.Ad D w).b.x;have It:=λw=>(M.Ad D w).b.r|refine na ?_|refine pA ?_|refine hW ?_|refine EC ?_|refine vy ?_)
     refine cf _ (.cons (.rk (vs:=cL fs fP gp) rfl (qj _ _ _) (dM rfl) rfl) .nil) λaD a=>⟨acc,?_⟩;rw[a1];exact M.bb D a.up a.le
end Go.Proofs.YtplleokmejppjaaGreatDoor
