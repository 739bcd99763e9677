/- Contracts of functions that the law reaches -/
import Derived.Test.YtplleokmejppjaaGreatDoorR11
set_option linter.all false
set_option maxHeartbeats 9999999
set_option maxRecDepth 100000
namespace Go.Proofs.YtplleokmejppjaaGreatDoor
open Go.Proofs.Tryz
open Go.AH
attribute[local irreducible] W ad
def lP(f:cX):List Value:=[.int .i64 f.bp,.int .i64 f.n]
def kc(l:List cX):List Value:=l.flatMap lP
def Js l:(kc l).length=l.length*2:=by
 induction l with
 | nil=>rfl
 | cons a l b=>unfold kc at *;rw[List.flatMap_cons,iM,b];simp[lP];omega
def N3 a l:kc (a::l)=lP a++kc l:=rfl
def aqV l:∀v∈kc l,bw 0 v:=by
 intro v aE;have⟨f,_,a⟩:=aaU.1 aE;simp[lP,dI,jP,j6] at a;rcases a with e|e<;>subst e<;>simp
def Xe:∀{l:List cX}{i:Nat}{f:cX},l[i]?=some f->cr (0+i*2) 2 (kc l)=lP f
 | a::l,0,f,h=>by
  simp[kC,dh] at h;subst h;rw[hs,N3];rfl
 | a::l,i+1,f,h=>by
  have:=Xe lM;rw[hs] at this|-;rw[N3,show 0+(i+1)*2=(0+i*2)+2 by omega,<-xt,<-this];show List.take 2 (List.drop 2 (List.drop (0+i*2) _))=_;rw[xt,Mf (0+i*2) 2,<-xt];rfl
def R6:∀{l:List cX}{i:Nat}{f:cX},i<l.length->eB (kc l) (0+i*2) (lP f)=kc (l.set i f)
 | a::l,0,f,_=>by
  rw[N3,BZ,N3];unfold lP;rw[wV,wV,u1];rfl
 | a::l,i+1,f,h=>by
  have:=R6 (f:=f) lM;rw[N3,I6,N3,<-this,show 0+(i+1)*2=(lP a).length+(0+i*2) by simp[lP];omega];exact Ya (lP a) (kc l) _ _
inductive lI(h:aV):Option Addr->List cX->Prop
 | none:lI h Option.none []
 | some {b:Nat}{l:List cX} (hm:h.m b=Option.some ⟨⟨kc l⟩,134⟩) (aM:df<=b):lI h (Option.some ⟨b,0,Option.none⟩) l
def zK(h:aV)(A:Option Addr)(l:List cX):aV:=match A with
 | some a=>h.set a.block ⟨⟨kc l⟩,134⟩
 | none=>h
def lI.up{h H A l}(s:lI h A l)(hu:∀i b,h.m i=Option.some b->H.m i=Option.some b):lI H A l:=by
 rcases s with _|⟨hm,aM⟩
 .exact .none
 .exact .some (hu _ _ hm) aM
def aD8{h A l}(aC:lI h A l):zK h A l=h:=by
 rcases aC with _|⟨hm,aM⟩
 .rfl
 .rename_i k;refine aV.eq (λi=>?_) rfl;show(if i=k then some _ else h.m i)=h.m i;split
  .rename_i e;rw[e,hm]
  .rfl
def aqW{P h}(bF:Sat P h){A s s'}(aC:lI h A s):h.n<=(zK h A s').n/\∀i b,(zK h A s').m i=some b->i<(zK h A s').n/\∀u∈b.cells,bw (zK h A s').n u:=by
 rcases aC with _|⟨hm,aM⟩
 .exact alG
 .rename_i k;refine⟨b4 _,λi b I=>?_⟩;have I:(if i=k then bS (kc s') 134 else h.m i)=some b:=I;split at I
  .rename_i e;simp only[dh] at I;subst I;subst e;exact⟨bF.aO _ _ hm,λu hu=>hc (dG _) _ (aqV _ u GS)⟩
  .exact⟨bF.aO i b I,bF.dP i b I⟩
def aD9{l a}(h:a.ck<0):gH l a=EU a.num:=by rw[gH,au h]
def aEa{l a}(h:(l.length:Int)<=a.ck):gH l a=kK:=by
 rw[gH,ai U,tj.2 U];rfl
def aEb{l a f}(h0:0<=a.ck)(h:l[a.ck.toNat]?=some f):gH l a=f:=by
 rw[gH,ai U,h];rfl
def aoA l A c a(w:l.length<=1000000000) h(aC:lI h A l):bc prog 89 ⟨[.slice A l.length c,.agg ⟨dX a⟩]⟩ h (.agg ⟨lP (gH l a)⟩) h:=by
 by_cases v:a.ck<0
 .rw[aD9 v];refine bc.still (c:=(f89.body.getD .skip)) func89 ax ntmps89 ax (by simp[lP,EU]) ?_;conv=>arg 2;whnf
  repeat(first|refine wH ?_|refine iR ?_|refine q0 ?_|refine oq ?_|refine c8 ?_|refine Hi ?_|refine fy ?_)
  exact P5
 .by_cases u:(l.length:Int)<=a.ck
  .rw[aEa u];refine bc.still (c:=(f89.body.getD .skip)) func89 ax ntmps89 ax (by simp[lP,kK]) ?_;conv=>arg 2;whnf
   repeat(first|refine WY ?_|refine nC ?_|refine q0 ?_|refine oq ?_|refine c8 ?_|refine EI ?_)
   exact P5
  .have bs:a.ck.toNat<l.length:=U;have Cw:a.ck=(a.ck.toNat:Int):=U;have⟨f,j⟩:=cR l a.ck.toNat bs;rw[aEb U j];rcases aC with _|⟨hm,aM⟩
   .simp at bs
   .rename_i b;refine bc.aO λaq=>?_;have i:0+a.ck.toNat*2+2<=(kc l).length:=Vt;refine bc.still (c:=(f89.body.getD .skip)) func89 ax ntmps89 ax Mq ?_;conv=>arg 2;whnf
    repeat(first|refine AR ?_|refine hL ?_|refine q0 ?_|refine c8 ?_|refine Na ?_|refine ou ?_|apply ad.hF;rfl;rfl;rfl;exact hm;exact aq _ _ hm;exact i;exact Xe j|refine WY ?_)
    exact P5
def aA0 a b h:bc prog 105 ⟨[.agg ⟨lP a⟩,.agg ⟨lP b⟩]⟩ h (.agg ⟨lP (pH a b)⟩) h:=by
 refine bc.still (c:=(f105.body.getD .skip)) func105 ax ntmps105 ax Mq ?_;conv=>arg 2;whnf
 unfold pH;repeat'(first|refine Ey ?_|refine rR ?_|refine k7 ?_|refine vz ?_|refine oq ?_|refine RE ?_|refine ou ?_|(refine c7 ?_ ?_)<;>intro _)
 all_goals exact cf _ (.cons (.Ay rfl rfl rfl (dM rfl)) .nil) ⟨rfl,by(repeat' split)<;>first|rfl|exfalso;simp_all;done|exfalso;omega⟩
def Ho{h H:aV}(d:∀i b,h.m i=some b->i<h.n)(a:∀id,id<h.n->H.m id=h.m id):∀i b,h.m i=some b->H.m i=some b:=λi b I=>by rwa[a i (d i b I)]
def afr l A c a(f:l.length<=1000000000) h(aC:lI h A l):bc prog 68 ⟨[.slice A l.length c,.agg ⟨dX a⟩]⟩ h (.agg ⟨dX (ga l a)⟩) h:=by
 refine bc.aO λaq=>?_;refine bc.still (c:=(f68.body.getD .skip)) func68 ax ntmps68 ax yL ?_;conv=>arg 2;whnf
 repeat'(first|(apply ad.py;rfl;rfl;rfl;first|exact λH b7=>aoA l A c _ f H (aC.up (Ho aq b7));exact kQ Mq|exact λH b7=>(Xt _ H);exact hS)|(with_reducible first|apply ad.move|apply ad.fieldAddr|apply ad.box);iterate 3 rfl|refine pv ?_|refine vz ?_|refine c8 ?_|refine Ez ?_|refine qU ?_|(refine c7 ?_ ?_)<;>intro _)
 all_goals refine cf _ (.cons (.Ay rfl rfl rfl (dM rfl)) .nil) ⟨rfl,?_⟩
 all_goals first
  | (rw[ga,au h3];rfl)
  | (rw[ga,ai h3];rfl)
def KJ(x:cO)(A:Option Addr)(c:Nat):List Value :=
 if 3<=x.op/\x.op<=15/\x.b.ck<0 then
  if x.b.num=0/\(x.op=3\/x.op=4\/x.op=11\/x.op=12\/13<=x.op) then cL (ow 2 x.dst x.a) none 0
  else if x.b.num=0/\(x.op=5\/x.op=10) then cL (ow 1 x.dst ⟨-1,0⟩) none 0
  else if x.b.num=1/\(x.op=5\/x.op=6\/x.op=7) then cL (ow 2 x.dst x.a) none 0
  else cL x A c
 else cL x A c
def aEc x r:KJ x (mY (x,r)) (qp (x,r))=dK (wT x,r):=by
 unfold KJ wT;repeat' split
 all_goals first|rfl|exact(xF (x,r)).symm
def afs{n}x{A c}(b:∀a,A=some a->a.block<n):∀v∈cL x A c,bw n v:=by
 intro v aE;simp[cL,dI,jP,j6] at aE;rcases aE with e|e|e|e|e|e|e|e|e|e|e|e<;>subst e;any_goals simp
 rcases A with _|a
 .exact aF
 .simpa using b a rfl
def aEd{n}x{A c}(b:∀a,A=some a->a.block<n):bw n (.agg ⟨KJ x A c⟩):=by
 rw[qK];intro v aE;have aE:v∈KJ x A c:=lL;unfold KJ at aE;repeat' split at aE
 all_goals first|exact afs _ b v aE|exact afs _ (λa h=>jh) v aE
def aEe x A c h(j:∀a,A=some a->a.block<h.n):bc prog 70 ⟨[.agg ⟨cL x A c⟩]⟩ h (.agg ⟨KJ x A c⟩) h:=by
 refine bc.rX func70 ntmps70 (λf=>⟨b4 _,aEd x j,λi b I=>⟨f.aO i b I,f.dP i b I⟩⟩) λπ f=>?_;conv=>arg 2;whnf
 unfold KJ;repeat'(first|refine apb ?_|refine Ey ?_|refine pA ?_|refine pv ?_|refine vz ?_|refine oq ?_|refine CC ?_|(refine c7 ?_ ?_)<;>intro _)
 all_goals refine cf _ (.cons (.Ay rfl rfl rfl (dM rfl)) .nil) λu a=>⟨?_,a.up⟩
 all_goals first
  | (rw[ai U];rfl)
  | (rw[au U,au U];rfl)
  | (rw[au U,ai U,au U];rfl)
  | (rw[au U,ai U,ai U,au U];rfl)
  | (rw[au U,ai U,ai U,ai U];rfl)
def aqX t l A c(ao:l.length<=1000000000) h(aC:lI h A l):
 dw prog 71 [.agg ⟨kr t⟩,.slice A l.length c] h (λv aw=>∃j C,v=.slice j (jV t l).length C/\Be aw j (jV t l)/\cW h aw/\∀a,j=some a->h.n<=a.block):=by
 refine dw.i func71 ntmps71 λπ F=>?_;conv=>arg 2;whnf
 have aq:=F.aO;by_cases aj:t.bp=2
 .repeat(first|refine aoz ?_|refine Ey ?_|refine A0 ?_|refine vz ?_|refine c8 ?_|refine zp ?_)
  repeat'((first|(refine c7 ?_ ?_)<;>intro _)<;>repeat(first|apply ad.gC;rfl;rfl;rfl;refine λf mw=>⟨_,N4 t f,?_⟩;rintro v B u ⟨qG,sw,rfl,e1,oh,GN⟩ z w|refine gP ?_|refine rR ?_|refine pz ?_|refine hW ?_|refine Ez ?_|refine fy ?_|refine ao8 ?_|refine Xg ?_))
  .have e:jV t l=di t:=by rw[jV,ai U,au (.inl (by simpa using ‹((gH l t.a).bp != 1)=true›))]
   rw[e];exact aa2
  .have e:jV t l=di t:=by unfold jV;rw[ai U,au (.inr (by simpa using ‹((gH l t.b).bp != 1)=true›))]
   rw[e];exact aa2
  .have E:(gH l t.a).bp=1:=alq;have D:(gH l t.b).bp=1:=alp;have e:jV t l=[t.goto]:=by unfold jV;rw[ai U,ai U,au h3]
   rw[e];exact ajS
  .have E:(gH l t.a).bp=1:=alq;have D:(gH l t.b).bp=1:=alp;have e:jV t l=[t.dx]:=by unfold jV;rw[ai U,ai U,ai Mu]
   rw[e];exact ajS
 .have e:jV t l=di t:=by unfold jV;rw[au aj]
  rw[e];repeat(first|apply ad.gC;rfl;rfl;rfl;refine λf mw=>⟨_,N4 t f,?_⟩;rintro v B u ⟨qG,sw,rfl,e1,oh,GN⟩ z w|refine wH ?_|refine iR ?_|refine pz ?_|refine c8 ?_|refine CE ?_)
  exact aa2
def r7:List Nat->List (List cX)->List Value
 | a::cb,l::ls=>cD 2 a l::r7 cb ls
 | _,_=>[]
def aos:∀{cb:List Nat}{ls:List (List cX)},cb.length=ls.length->(r7 cb ls).length=ls.length
 | [],[],_=>rfl
 | a::cb,l::ls,h=>by simp[r7,aos lM]
def R7:∀{cb:List Nat}{ls:List (List cX)}{i a:Nat}{l:List cX},cb[i]?=some a->ls[i]?=some l->(r7 cb ls)[i]?=some (cD 2 a l)
 | _::_,_::_,0,_,_,J,ab=>by
  simp[kC,dh] at J ab;subst J;subst ab;rfl
 | _::_,_::_,i+1,_,_,J,ab=>by
  rw[r7,pg];exact R7 p0 tn
 | [],_,_,_,_,J,_=>D5
 | _::_,[],_,_,_,_,ab=>GY
def aft:∀{cb:List Nat}{ls:List (List cX)} (i a:Nat) (l:List cX),cb.length=ls.length->(r7 cb ls).set i (cD 2 a l)=r7 (cb.set i a) (ls.set i l)
 | [],[],_,_,_,_=>rfl
 | _::_,_::_,0,_,_,_=>rfl
 | _::cb,_::ls,i+1,a,l,h=>by simp[r7,aft i a l lM]
structure jb(h:aV)(N bO aR cv cP:Nat)(cb:List Nat)(n:Nat)(s:pI):Prop where
 rw:df<=N
 AF:cb.length=n
 yS:s.ah.length=n
 C6:s.cm.length=n
 gs:N<=bO
 pK:N<=cv
 kF:N<=cP
 ag:h.m cv=some ⟨⟨r7 cb s.ah⟩,132⟩
 ak:h.m cP=some ⟨⟨s.cm.map .bool⟩,4⟩
 row:∀(i a:Nat) (l:List cX),cb[i]?=some a->s.ah[i]?=some l->l≠[]->N<=a/\h.m a=some ⟨⟨kc l⟩,134⟩
 c4:∀(i j a:Nat) (l m:List cX),cb[i]?=some a->cb[j]?=some a->s.ah[i]?=some l->s.ah[j]?=some m->l≠[]->m≠[]->i=j
 iF:∃A cap,h.m bO=some ⟨⟨[.pointer (some ⟨aR,0,none⟩),.slice (some ⟨cv,0,none⟩) n n,.slice (some ⟨cP,0,none⟩) n n,.slice A s.eg.length cap]⟩,130⟩/\ng h 3 A cap (qq s.eg)/\∀a,A=some a->N<=a.block
def _root_.Go.AH.ng.eT{h H:aV}{e:TypeId}{A:Option Addr}{cap:Nat}{vs:List Value}(s:ng h e A cap vs)(hu:∀i b,h.m i=some b->b.elem=e->H.m i=some b):ng H e A cap vs:=by
 cases s with
 | nil=>exact .nil
 | row hm aM aB=>exact .row (hu _ _ hm rfl) aM aB
section
variable{h H:aV}{N bO aR cv cP:Nat}{cb:List Nat}{n:Nat}{s:pI}
def jb.up(o:jb h N bO aR cv cP cb n s)(hu:∀i b,h.m i=some b->H.m i=some b):jb H N bO aR cv cP cb n s :=
 ⟨o.rw,o.AF,o.yS,o.C6,o.gs,o.pK,o.kF,hu _ _ o.ag,hu _ _ o.ak,λi a l J c d=>⟨(o.row i a l J c d).1,hu _ _ (o.row i a l J c d).2⟩,o.c4,by
  have⟨A,cap,J,c,d⟩:=o.iF;exact⟨A,cap,hu _ _ J,c.up hu,d⟩⟩
def jb.afu(o:jb h N bO aR cv cP cb n s){t}(aS:t.length=n)(I:H.m cP=some ⟨⟨t.map .bool⟩,4⟩)(aj:∀i b,h.m i=some b->b.elem≠4->H.m i=some b):jb H N bO aR cv cP cb n ⟨s.ah,t,s.eg⟩ :=
 ⟨o.rw,o.AF,o.yS,aS,o.gs,o.pK,o.kF,aj _ _ o.ag aF,I,λi a l J ab aK=>⟨(o.row i a l J ab aK).1,aj _ _ (o.row i a l J ab aK).2 aF⟩,o.c4,by
  have⟨A,cap,J,ab,aK⟩:=o.iF;exact alb⟩
def jb.aqY(o:jb h N bO aR cv cP cb n s){w}(aj:∀i b,h.m i=some b->b.elem≠3->b.elem≠130->H.m i=some b)(aC:∃A cap,H.m bO=some ⟨⟨[.pointer (some ⟨aR,0,none⟩),.slice (some ⟨cv,0,none⟩) n n,.slice (some ⟨cP,0,none⟩) n n,.slice A w.length cap]⟩,130⟩/\ng H 3 A cap (qq w)/\∀a,A=some a->N<=a.block):jb H N bO aR cv cP cb n ⟨s.ah,s.cm,w⟩ :=
 ⟨o.rw,o.AF,o.yS,o.C6,o.gs,o.pK,o.kF,aj _ _ o.ag aF aF,aj _ _ o.ak aF aF,λi a l J c d=>⟨(o.row i a l J c d).1,aj _ _ (o.row i a l J c d).2 aF aF⟩,o.c4,aC⟩
def zM{α:Type}{l:List α}{k i x y}(h:(l.set k x)[i]?=some y):(i=k/\y=x)\/(i≠k/\l[i]?=some y):=by
 rw[fl] at h;by_cases e:k=i
 .rw[au e] at h;split at h
  .injection h with h;exact .inl ⟨e.symm,h.symm⟩
  .exact jh
 .rw[ai e] at h;exact .inr ⟨λiD=>e iD.symm,h⟩
def jb.newRow(o:jb h N bO aR cv cP cb n s){k q l}(I:H.m cv=some ⟨⟨(r7 cb s.ah).set k (cD 2 q l)⟩,132⟩)(u:l≠[]->N<=q/\H.m q=some ⟨⟨kc l⟩,134⟩/\∀b,h.m q≠some b)(aj:∀i b,h.m i=some b->b.elem≠132->H.m i=some b):jb H N bO aR cv cP (cb.set k q) n ⟨s.ah.set k l,s.cm,s.eg⟩:=by
 have v:∀(i a:Nat) (m:List cX),(cb.set k q)[i]?=some a->(s.ah.set k l)[i]?=some m->m≠[]->(i=k/\a=q/\m=l)\/(i≠k/\cb[i]?=some a/\s.ah[i]?=some m):=by
  intro i a m J ab aK;rcases zM J with⟨c,g⟩|⟨c,g⟩<;>rcases zM ab with⟨f1,f2⟩|⟨f1,f2⟩
  .exact .inl ⟨c,g,f2⟩
  .exact absurd c f1
  .exact absurd f1 c
  .exact .inr ⟨c,g,f2⟩
 refine⟨o.rw,by rw[mq];exact o.AF,alZ,o.C6,o.gs,o.pK,o.kF,by rw[I,aft _ _ _ VC],aj _ _ o.ak aF,λi a m J ab aK=>?_,λi j a m m' J ab aK C t r=>?_,?_⟩
 .rcases v i a m J ab aK with⟨_,rfl,rfl⟩|⟨_,f,d⟩
  .exact⟨(u aK).1,(u aK).2.1⟩
  .exact⟨(o.row i a m f d aK).1,aj _ _ (o.row i a m f d aK).2 aF⟩
 .rcases v i a m J aK t with⟨c,g,B⟩|⟨_,f,d⟩<;>rcases v j a m' ab C r with⟨f1,f2,f3⟩|⟨_,z,w⟩
  .rw[c,f1]
  .subst g;subst B;exact absurd (o.row j a m' z w r).2 ((u t).2.2 _)
  .subst f2;subst f3;exact absurd (o.row i a m f d t).2 ((u r).2.2 _)
  .exact o.c4 i j a m m' f z d w t r
 .have⟨A,cap,J,ab,aK⟩:=o.iF;exact alb
def Yc(e:TypeId):Prop:=e=132\/e=4\/e=134\/e=130\/e=3
def jb.aqZ(o:jb h N bO aR cv cP cb n s)(hu:∀i b,h.m i=some b->Yc b.elem->H.m i=some b):jb H N bO aR cv cP cb n s :=
 ⟨o.rw,o.AF,o.yS,o.C6,o.gs,o.pK,o.kF,hu _ _ o.ag (.inl rfl),hu _ _ o.ak (.inr (.inl rfl)),λi a l J c d=>⟨(o.row i a l J c d).1,hu _ _ (o.row i a l J c d).2 (.inr (.inr (.inl rfl)))⟩,o.c4,by
  have⟨A,cap,J,c,d⟩:=o.iF;exact⟨A,cap,hu _ _ J (.inr (.inr (.inr (.inl rfl)))),c.eT λi b I he=>hu i b I (.inr (.inr (.inr (.inr he)))),d⟩⟩
def jb.setRow(o:jb h N bO aR cv cP cb n s){k q l m}(u:cb[k]?=some q)(t:s.ah[k]?=some l)(d:l≠[])(B:m.length=l.length)(I:H.m q=some ⟨⟨kc m⟩,134⟩)(aj:∀i b,h.m i=some b->Yc b.elem->i≠q->H.m i=some b):jb H N bO aR cv cP cb n ⟨s.ah.set k m,s.cm,s.eg⟩:=by
 have D:m≠[]:=by intro e;rw[e] at B;exact d (mr.1 B.symm)
 have w:∀{i:Nat}{b:cd},h.m i=some b->Yc b.elem->b.elem≠134->H.m i=some b:=by
  intro i b I L he;refine aj i b I L λe=>?_;rw[e,(o.row k q l u t d).2] at I;injection I with I;exact he (by rw[<-I])
 have O:=(cS.1 t).1;have C:∀(i:Nat) (x:List cX),(s.ah.set k m)[i]?=some x->(i=k/\x=m)\/(i≠k/\s.ah[i]?=some x):=by
  exact λi x f=>zM f
 refine⟨o.rw,o.AF,alZ,o.C6,o.gs,o.pK,o.kF,?_,w o.ak (.inr (.inl rfl)) aF,λi a x J f g=>?_,λi j a x y J f g K G E=>?_,?_⟩
 .have e:=aft k q m VC;have c:=tv u;have F:(r7 cb s.ah).set k (cD 2 q m)=r7 cb s.ah:=by
   apply tv;rw[R7 u t,jO,jO,ai d,ai D,ai d,ai D,B]
  rw[c] at e;rw[<-e,F];exact w o.ag (.inl rfl) aF
 .rcases C i x f with⟨r,c⟩|⟨r,c⟩
  .subst r;subst c;rw[u] at J;cases J;exact⟨(o.row i q l u t d).1,I⟩
  .refine⟨(o.row i a x J c g).1,aj _ _ (o.row i a x J c g).2 (.inr (.inr (.inl rfl))) λe=>?_⟩;subst e;exact r (o.c4 i k a x l J u c t g d)
 .have v:∀(i:Nat) (x:List cX),(s.ah.set k m)[i]?=some x->x≠[]->∃z,s.ah[i]?=some z/\z≠[]:=by
   intro i x aa ak;rcases C i x aa with⟨r,c⟩|⟨r,c⟩
   .subst r;exact⟨l,t,d⟩
   .exact⟨x,c,ak⟩
  have⟨M,g1,g2⟩:=v i x g G;have⟨z2,g3,g4⟩:=v j y K E;exact o.c4 i j a M z2 J f g1 g3 g2 g4
 .have⟨A,cap,J,f,g⟩:=o.iF;exact⟨A,cap,w J (.inr (.inr (.inr (.inl rfl)))) aF,f.eT λi b I he=>w I (.inr (.inr (.inr (.inr he)))) sv,g⟩
end
end Go.Proofs.YtplleokmejppjaaGreatDoor
