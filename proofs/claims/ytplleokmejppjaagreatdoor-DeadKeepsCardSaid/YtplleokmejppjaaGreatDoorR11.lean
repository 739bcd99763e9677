/- Contracts of functions that the law reaches -/
import Derived.Test.YtplleokmejppjaaGreatDoorR10
import Derived.Test.YtplleokmejppjaaGreatDoorR9
set_option linter.all false
set_option maxHeartbeats 9999999
set_option maxRecDepth 100000
namespace Go.Proofs.YtplleokmejppjaaGreatDoor
open Go.Proofs.Tryz
open Go.AH
attribute[local irreducible] W ad
def aBi:∀{l:List cO}{n m:Nat},Ht l n=some m->n<=4000->n<=m/\m<=4000/\∀x∈l,x.args.length<=4000:=by
 intro l;induction l with
 | nil =>
  intro n m h ak;cases h;exact⟨b4 _,ak,λx aa=>by cases aa⟩
 | cons a l c =>
  intro n m h ak;rw[Ht] at h;split at h
  .rename_i aB;have⟨J,b,e⟩:=c h U;refine⟨U,b,λx aa=>?_⟩;rcases dI.1 aa with rfl|aa
   .exact U
   .exact e x aa
  .exact jh
def aBj:∀{l:List bT}{n m:Nat},CL l n=some m->n<=4000->n+gJ l<=m/\m<=4000/\∀b∈l,∀x∈b.ah,x.args.length<=4000:=by
 intro l;induction l with
 | nil =>
  intro n m h ak;cases h;exact⟨b4 _,ak,λx aa=>by cases aa⟩
 | cons a l g =>
  intro n m h ak;rw[CL] at h;split at h
  .rename_i aB;have⟨k,J,f⟩:=UH.1 h;have⟨i1,i2,i3⟩:=aBi J U;have⟨j,c,i⟩:=g f i2;have e:gJ (a::l)=a.ah.length+gJ l:=by simp[gJ]
   refine⟨U,c,λb I=>?_⟩;rcases dI.1 I with rfl|I
   .exact i3
   .exact i b I
  .exact jh
def ad5:∀{l:List dp}{n m:Nat},x2 l n=some m->∀f∈l,(0<=f.ae/\f.ae<=300)/\f.bZ.length<=2000/\f.blocks.length<=2000/\gJ f.blocks<=4000/\∀b∈f.blocks,∀x∈b.ah,x.args.length<=4000:=by
 intro l;induction l with
 | nil=>intro n m _ f c;cases c
 | cons a l g =>
  intro n m h f c;rw[x2] at h;split at h
  .rename_i aB;have⟨k,J,e⟩:=UH.1 h;rcases dI.1 c with rfl|c
   .have⟨o,j,i⟩:=aBj J U;exact⟨⟨aB.2.1,aB.2.2.1⟩,U,U,U,i⟩
   .exact g e f c
  .exact jh
def aBk{f}{b:bT}(h:lU f b.av=true):∀k∈di b.av,0<=k/\k<f.blocks.length:=by
 unfold lU at h;simp[cA] at h;intro k aj;have:=iB.1 h.2 k aj;simpa using this
structure aBl(p:fX)(f:dp):Prop where
 ok:pC f.ae f.blocks
 aRo:Hw f
def aBm{x}(h:x.ok):∀a∈eI x,b8 a.ck:=by
 intro a aJ;unfold eI at aJ;have key:a=x.a\/a=x.b\/a∈x.args:=by
  repeat' split at aJ
  all_goals try simp[dI,jP,j6] at aJ
  all_goals first
   | exact .inr (.inr aJ)
   | (rcases aJ with aJ | aJ
      .exact .inl aJ
      .first|exact .inr (.inr aJ)|exact .inr (.inl aJ))
   | exact aJ.elim
   | exact .inl aJ
 rcases key with rfl|rfl|J
 .exact h.a.1
 .exact h.b.1
 .exact(h.args a J).1
def aBn{t}(h:t.ok):∀a∈e2 t,b8 a.ck:=by
 intro a aJ;unfold e2 at aJ;repeat' split at aJ
 all_goals simp[dI,jP,j6] at aJ
 .rcases aJ with rfl|rfl
  .exact h.a.1
  .exact h.b.1
 .subst aJ;exact h.a.1
def XG{p}(y:p.ok)(j:kj p=true)(aM:gy p=true):∀f∈p.funcs,aBl p f:=by
 intro f i;unfold kj at j;simp[cA,ed] at j;have⟨_,u⟩:=j;have⟨m,hm⟩:=Me.1 u;have⟨⟨v,B⟩,G,w,E,r⟩:=ad5 hm f i;unfold gy at aM;simp only[cA,ed] at aM;have g:=iB.1 aM.2 f i;unfold p5 at g;simp only[cA,ed] at g;have⟨⟨⟨⟨⟨D,C⟩,A⟩,F⟩,q⟩,z⟩:=g;have n:=y.funcs f i;have s:im f.blocks:=by
  intro b I;have:=iB.1 z b I;unfold uW at this;simp[cA] at this;exact aBk this.2
 refine⟨⟨q,U,v,U,s,U,λb I x aa=>?_,λb I=>aBn ((n.blocks b I).av)⟩,⟨q,U,U,U,λb I=>?_,λb I x aa=>?_⟩⟩
 .have J:=r b I x aa;have o:=(n.blocks b I).ah x aa;exact⟨U,o.dst,aBm o⟩
 .have:=Kh I;omega
 .have J:=r b I x aa;omega
def XJ(f f':dp):Prop:=∃jz,vC f.ae f.blocks jz/\f'={f with blocks:=vD jz}
def aBo:NA 26 (λf=>pC f.ae f.blocks) XJ:=by
 intro B N F bv f j k o n C E w g r hm Q a z t;have⟨O,M,L,rg,y,bl⟩:=f;have a:bC bv=bl:=a;subst a;refine(aBp B F bv ⟨O,M,L,rg,y,bC bv⟩ j k o n (dF 9) (Q.fC g (bx g r) hm) E).mono ?_;rintro v aw s ⟨x,R,u,rfl,q,G,H,c,D⟩;have eT:∀{e:TypeId},e≠48->∀i b,B.m i=some b->b.elem=e->aw.m i=some b:=by
  intro e he i b I lq;rw[c.2 i (s.aO _ _ I) (c2 I hm xA)];exact I
 have row:∀{α:Type}{e:TypeId}{A:Option Addr}{l:List α}{dy:α->Value},e≠48->e≠53->e≠25->rW B N e A l dy->rW (q4 aw) N e A l dy:=by
  intro α e A l dy J S T aM;exact ak8
 refine⟨_,_,rfl,⟨j,k,o,n,cV x,dF 9,C,rfl,w,(row bo bo bo z).gK λ_=>rfl,(row bo bo bo t).gK λ_=>rfl,?_⟩,⟨u,G,rfl⟩,c.mono λi _ e=>by rwa[e]⟩;have:=q.cut.gK;rw[H] at this;exact dm
def apL p(C:∀f∈p.funcs,pC f.ae f.blocks/\Hw f)(ak:p.funcs.length<=100000) h s e j z w u(B:h.m s=some ⟨⟨hd p j z w u⟩,e⟩)(aC:c0 h j 6 p.funcs (lb h)):
 dw prog 11 [.pointer (some ⟨s,0,none⟩)] h (λv aw=>∃bV A c cJ,v=.pointer (some ⟨bV,0,none⟩)/\aw.m bV=some ⟨⟨hd {p with funcs:=cJ} A c w u⟩,25⟩/\c0 aw A 6 cJ (lb aw)/\cJ.length=p.funcs.length/\(∀(i:Nat) (f f':dp),p.funcs[i]?=some f->cJ[i]?=some f'->XJ f f')/\cW h aw/\h.n<=bV):=by
 refine dw.i func11 ntmps11 λπ L=>?_;conv=>arg 2;whnf
 repeat(first|apply ad.gC;rfl;rfl;rfl;refine λD bW=>⟨_,RH 26 _ _ aBo p C ak D s e j z w u (bW.up _ _ B) (aC.mono bW.up λ_ _ h=>lp bW.up h),?_⟩;rintro v G J ⟨bV,A,c,cJ,rfl,eF,cZ,ao,bA,aH,hB⟩ F E|refine fi ?_|refine ov ?_)
 exact aa0
end Go.Proofs.YtplleokmejppjaaGreatDoor
namespace Go.AH
variable{P:Program}
section
variable{an:Array Oper}{bg:Bool}{rs:List fZ}{l:List Oper}{ay:List (Nat×Value)}{al:Nat}{h:aY}{K:Fr->aY->Prop}{d:Tmp}{ty:TypeId}{pos:String}{af:Array Edge}{gd:Option (Nat×Bool)}
def ad.aBq{t e c x y A}[hu:ee P t (.pointer e)](hw:cw an ⟨some d,.binOp .neq t x y c,ty,pos,af,gd⟩ ⟨ay,al⟩=some true)(aq:Nat.blt d al=true)(aa:Fr.ev ⟨ay,al⟩ x=some (.pointer A))(aN:Fr.ev ⟨ay,al⟩ y=some (.pointer none))(aj:ad P an bg (de h.k false [] (some [])::rs) l ⟨(d,.bool (!A.isNone))::ay,al⟩ h K):ad P an bg rs (⟨some d,.binOp .neq t x y c,ty,pos,af,gd⟩::l) ⟨ay,al⟩ h K :=
 ad.km hw aq (λa g H=>by
  have:=bE.Wg (P:=P) (o:=⟨some d,.binOp .neq t x y c,ty,pos,af,gd⟩) (h:=H) rfl rfl hu.eq (g.ev aa) (g.ev aN);simpa using this) aF aj
end
end Go.AH
namespace Go.Proofs.YtplleokmejppjaaGreatDoor
open Go.Proofs.Tryz
open Go.AH
section
attribute[local irreducible] W ad
def apf n h:bc prog 10 ⟨[.int .i64 n]⟩ h (.agg ⟨[.int .i64 n,.int .i64 0]⟩) h:=by
 refine bc.jT func10 ntmps10 ?_;conv=>arg 2;whnf
 repeat(first|refine pw ?_|refine zn ?_|refine oq ?_|refine ov ?_)
 exact P5
def XK:kt:=⟨3,0,⟨0,0⟩,⟨0,0⟩,0,0⟩
def x3:List bT:=[⟨[⟨1,1,⟨-1,5⟩,⟨0,0⟩,0,false,false,0,0,[]⟩],XK⟩]
def x4:List bT:=[⟨[],XK⟩]
def A4:dp:=⟨⟨#[109,97,105,110]⟩,0,0,2,[],x3⟩
def RI:fX:=⟨[A4],[],0,0⟩
def apM{ae bl ef st}(a:vE bl (yZ bl ae) st)(aH:zu ae bl ef):ef=wS bl st.c3:=by
 cases aH with
 | mk h=>rw[h.aBr a]
def aBs:vE x3 (yZ x3 2) (sR x3 (sR x3 (yZ x3 2))) :=
 .go ax (.stop ax)
def aBt:vE x4 (yZ x4 2) (sR x4 (sR x4 (yZ x4 2))) :=
 .go ax (.stop ax)
def apN{bl}(h:zu 2 x3 bl):bl=x4:=by
 rw[apM aBs h];kernel_rfl
def apO{bl}(h:zu 2 x4 bl):bl=x4:=by
 rw[apM aBt h];kernel_rfl
def aBu{bl}:vC 2 x4 bl->bl=x4:=by
 intro h;rcases h with⟨h,he⟩|⟨h,ak,_⟩
 .exact apO h
 .have:=apO h;subst this;exact absurd rfl ak
def aBv{bl}(h:vC 2 x3 bl):bl=x4:=by
 rcases h with⟨h,he⟩|⟨h,ak,aM⟩
 .exact apN h
 .have:=apN h;subst this;exact aBu aM
def aBw{f'}(h:XJ A4 f'):f'.blocks=x4:=by
 obtain⟨jz,aB,rfl⟩:=h;show vD jz=x4;rw[aBv aB];kernel_rfl
def ad6{α h b w cs e x}{R:List Value->α->Prop}(hm:h.m b=some ⟨⟨cs⟩,e⟩)(f:w<=cs.length)(c:R (cr 0 w cs) x):c0 h (some ⟨b,0,none⟩) w [x] R:=by
 refine⟨λi y a=>?_⟩;rcases i with _|i
 .simp at a;subst a;exact⟨b,0,cs,e,rfl,hm,U,by simpa using c⟩
 .simp at a
def aBx:pC A4.ae A4.blocks/\Hw A4:=by
 refine⟨⟨bo,bo,bo,bo,?_,bo,?_,?_⟩,⟨bo,bo,bo,bo,?_,?_⟩⟩
 .intro b I k aj;simp[A4,x3,gU] at I;subst I;simp[di,XK] at aj
 .intro b I x aa;simp[A4,x3,gU] at I;subst I;simp[gU] at aa;subst aa;refine⟨bo,⟨bo,bo⟩,λa c=>?_⟩;have c:a∈[(⟨-1,5⟩:ho)]:=c;simp[gU] at c;subst c;exact⟨bo,bo⟩
 .intro b I a c;simp[A4,x3,gU] at I;subst I;have c:a∈[(⟨0,0⟩:ho)]:=c;simp[gU] at c;subst c;exact⟨bo,bo⟩
 .intro b I;simp[A4,x3,gU] at I;subst I;decide
 .intro b I x aa;simp[A4,x3,gU] at I;subst I;simp[gU] at aa;subst aa;decide
def apP h:bc prog 4 ⟨[]⟩ h (.bool true) h:=by
 refine bc.rX func4 ntmps4 (λD=>⟨b4 _,aF,λi b I=>⟨D.aO i b I,D.dP i b I⟩⟩) λπ D=>?_;conv=>arg 2;whnf
 refine uU ?_;apply W.seq;repeat(first|(apply ad.py;rfl;rfl;rfl;first|exact λH b7=>(Xt _ H);exact hS|exact λH b7=>(apf _ H);exact hS)|refine gP ?_|refine zn ?_|refine oq ?_|refine gr ?_)
 refine W.hH λQ pD s=>?_;have aC:c0 Q (cV (π 2)) 6 RI.funcs (lb Q):=by
  refine ad6 (s.bJ 2 (bo:(2:Nat)<4)) (b4 _) ⟨none,0,none,0,cV (π 1),1,[],rfl,rfl,c0.nil,c0.nil,?_⟩;refine ad6 (s.bJ 1 (bo:(1:Nat)<4)) (b4 _) ⟨cV (π 0),1,rfl,?_⟩;exact ad6 (s.bJ 0 (bo:(0:Nat)<4)) (b4 _) ⟨none,0,rfl,c0.nil⟩
 have du:∀f∈RI.funcs,pC f.ae f.blocks/\Hw f:=by
  intro f T;simp[RI,gU] at T;subst T;exact aBx
 apply W.seq;repeat(first|apply ad.gC;rfl;rfl;rfl;refine λdA z=>⟨_,apL RI du bo dA (π 3) 25 _ _ _ _ (z.up _ _ (s.bJ 3 (bo:(3:Nat)<4))) (aC.mono z.up λ_ _ h=>lp z.up h),?_⟩;rintro v lD fE ⟨bV,A,c,C,rfl,O,cZ,E,bA,aH,hB⟩ B uX|refine J9 ?_)
 have E:C.length=1:=E;obtain⟨f',M⟩:∃f',C[0]?=some f':=⟨_,ey U⟩;have L:=aBw (bA 0 A4 f' rfl M);obtain⟨N,go,X,ge,rfl,R,n5,apQ,g1,apR,g2,F,g3,bI,Z,_,_,_,u⟩:=cZ.get 0 f' M;have G:X[go+0*6+5]?=some (.slice F 1 g3):=ka Z (by rw[dj,L];rfl);rw[L] at u;obtain⟨aL,Y,XE,be,rfl,S,EE,CO,cB,V,_⟩:=u.get 0 ⟨[],XK⟩ rfl;have Ki:(hd {RI with funcs:=C} (some ⟨N,go,none⟩) c none 0)[0+0]?=some (.slice (some ⟨N,go,none⟩) 1 c):=by rw[hd,<-E];rfl
 repeat(first|apply ad.aBq;iterate 4 rfl|(apply ad.dv;rfl;rfl;rfl;first|exact O;exact B.aO _ _ O;exact Ki|exact R;exact B.aO _ _ R;exact G|exact S;exact B.aO _ _ S;exact(ka V rfl:XE[Y+0*9+0]?=some (.slice CO 0 cB)))|apply(ad.qf);(iterate 5 rfl);exact Nat.succ_pos _|refine kJ ?_|refine tz ?_|refine iR ?_|refine ov ?_)
 exact cf _ (dt rfl) λaD a=>⟨rfl,λj x aA=>a.up _ _ ((z.bk.trans aH).up s.aO _ _ (s.up _ _ aA))⟩
def apT i c j u f s h:bc prog 14 ⟨[.agg ⟨[.slice i c j,.slice u f s]⟩]⟩ h (.bool (decide (c<3000)&&decide (f<3000))) h:=by
 refine bc.aO λaq=>?_;refine bc.jT func14 ntmps14 ?_;conv=>arg 2;whnf
 repeat'(first|refine WY ?_|refine rR ?_|refine xT ?_|refine AW ?_|(refine c7 ?_ ?_)<;>intro _)
 .refine cf _ (dt rfl) ⟨rfl,?_⟩;rw[qE (U:c<3000),uk];show Value.bool (decide ((f:Int)<3000))=_;congr 1;exact decide_eq_decide.2 U
 .refine cf _ (dt rfl) ⟨rfl,?_⟩;rw[Ao (U:¬c<3000)];rfl
def aBz a b c B u C(V:a.length<=281474976710656)(I:b.length<=281474976710656) h(s1:c0 h c 1 a CP)(s2:c0 h u 1 b CP):bc prog 18 ⟨[.slice c a.length B,.slice u b.length C]⟩ h (.bool (decide (a=b))) h:=by
 refine bc.aO λaq=>?_;refine bc.jT func18 ntmps18 ?_;conv=>arg 2;whnf
 repeat'(first|refine Cx ?_|apply ad.ad8;iterate 5 rfl|refine c8 ?_|refine JZ ?_|refine qU ?_|(refine c7 ?_ ?_)<;>intro _)
 .refine cf _ (dt rfl) ⟨rfl,?_⟩;have f:¬a.length=b.length:=ak5;rw[Ao (λe=>f Jx)];rfl
 .have D:a.length=b.length:=akY;refine W.loop (X:=Nat) (λπ i=>[(0,.slice c a.length B),(1,.slice u b.length C),(12,bm a.length),(13,bm i)]) (λ_=>h) (λπ i=>[]) (λi=>i<=a.length/\decide (a=b)=decide (a.drop i=b.drop i)) (λi=>a.length-i) [] 0 ⟨dG _,rfl⟩ kh ?_;rintro π i ⟨ag,bd⟩;dsimp only at ag bd|-;by_cases bs:i<a.length
  .have⟨x,aa⟩:=cR a i bs;have⟨y,aN⟩:=cR b i U;obtain⟨T,R,S,Q,rfl,A,O,E⟩:=s1.get i x aa;obtain⟨N,L,G,Y,rfl,z,F,s⟩:=s2.get i y aN;rw[A1 aa,A1 aN] at bd;repeat'(first|refine er ?_|refine uT ?_|refine k7 ?_|refine c8 ?_|refine Ew ?_|refine fy ?_|(apply ad.dv;rfl;rfl;rfl;first|exact A;exact aq _ _ A;exact(ka (j:=0) E rfl)|exact z;exact aq _ _ z;exact ka (j:=0) s rfl)|(refine c7 ?_ ?_)<;>intro _)
   .refine cf _ (dt rfl) ⟨rfl,?_⟩;have f:¬x=y:=by simpa using ‹(x != y)=true›
    rw[bd,Ao (λe=>f (by injection e))];rfl
   .have M:x=y:=by simpa using ‹(x != y)=false›
    subst M;exact ak3
  .repeat(first|refine EH ?_|refine CD ?_)
   rw[np U,np U] at bd;exact cf _ (dt rfl) ⟨rfl,by rw[bd];rfl⟩
def aBC{p}(a:kj p=true):∀f∈p.funcs,∀b∈f.blocks,∀x∈b.ah,x.args.length<=1000000000:=by
 intro f e b I x aa;unfold kj at a;simp[cA,ed] at a;have⟨_,c⟩:=a;have⟨m,hm⟩:=Me.1 c;have⟨_,_,_,_,g⟩:=ad5 hm f e;have:=g b I x aa;omega
def RK(eb eo:Nat):Bool:=decide (eb<3000)&&decide (eo<3000)
def aBD p(aQ:p.ok) h cK d1 cM d2(kU:c0 h cK 6 p.funcs (Kc h))(rN:c0 h cM 4 p.globals (CM h)) bj bY aW a8 dk aT dr eD bn hn ju e3:
 bc prog 5 ⟨[.agg ⟨hd p cK d1 cM d2⟩,.agg ⟨[.slice bj bY aW,.slice a8 dk aT]⟩,.agg ⟨[.slice dr eD bn,.slice hn ju e3]⟩]⟩ h (.bool (kj p&&gy p&&RK bY dk&&RK eD ju)) h:=by
 refine bc.rX func5 ntmps5 (λu=>⟨b4 _,aF,λi b I=>⟨u.aO i b I,u.dP i b I⟩⟩) λπ u=>?_;conv=>arg 2;whnf
 refine Kb ?_;refine W.hH λs A a0=>?_;have m0:s.m (π 0)=bS (hd p cK d1 cM d2) 25:=a0.bJ 0 (bo:(0:Nat)<3);have m1:s.m (π 1)=bS [.slice bj bY aW,.slice a8 dk aT] 28:=a0.bJ 1 (bo:(1:Nat)<3);have m2:s.m (π 2)=bS [.slice dr eD bn,.slice hn ju e3] 28:=a0.bJ 2 (bo:(2:Nat)<3);have n0:=a0.aO _ _ m0;have AQ:=a0.aO _ _ m1;have zd:=a0.aO _ _ m2;replace kU:=kU.mono a0.up λ_ _ h=>Rf a0.up h;replace rN:=rN.mono a0.up λ_ _ h=>AP a0.up h;have mZ:=@aBC p;have⟨s1,f⟩:=ld (decide (bY<3000)&&decide (dk<3000));have⟨s2,c⟩:=ld (decide (eD<3000)&&decide (ju<3000));unfold RK;rw[f,c];have Rs:∀aD,bc prog 14 ⟨[.agg ⟨[.slice bj bY aW,.slice a8 dk aT]⟩]⟩ aD (.bool s1) aD:=by intro aD;exact f▸apT bj bY aW a8 dk aT aD
 have xY:∀aD,bc prog 14 ⟨[.agg ⟨[.slice dr eD bn,.slice hn ju e3]⟩]⟩ aD (.bool s2) aD:=by intro aD;exact c▸apT dr eD bn hn ju e3 aD
 clear f c;generalize acW:kj p=w at *;cases w with
 | false =>
  repeat(first|refine aob ?_|refine Re ?_|refine fi ?_|refine uL ?_|refine AW ?_)
  exact Ja
 | true =>
  replace mZ:=mZ rfl;generalize v:gy p=z at *;cases z with
  | false =>
   have M3:(if gy p=true then(0:Int) else 50)=50:=by rw[v];rfl
   repeat(first|refine aob ?_|refine Re ?_|refine fi ?_|refine vx ?_|refine hL ?_|refine AW ?_|refine WJ ?_)
   exact Ja
  | true =>
   have M3:(if gy p=true then(0:Int) else 50)=0:=by rw[v];rfl
   rcases s1 with _|_
   .repeat(first|(apply ad.hF;rfl;rfl;rfl;first|exact m0;exact n0;exact iu;exact aky|exact m1;exact AQ;exact iu;exact(show cr 0 2 [Value.slice bj bY aW,.slice a8 dk aT]=[Value.slice bj bY aW,.slice a8 dk aT] from rfl))|refine Re ?_|refine fi ?_|refine rR ?_|refine AW ?_|refine WJ ?_|apply(ad.jy);rfl;rfl;rfl;exact λaD eL=>Rs aD)
    exact Ja
   .rcases s2 with _|_
    .repeat(first|refine anv ?_|refine Re ?_|refine fi ?_|refine tz ?_|refine pv ?_|refine ov ?_|refine WJ ?_|refine ao0 ?_)
     exact Ja
    .repeat(first|refine anv ?_|refine Re ?_|refine fi ?_|refine tz ?_|refine pv ?_|refine ov ?_|refine WJ ?_|refine ao0 ?_)
     exact Ja
structure aBE(bl w:List bT):Prop where
 pos:0<w.length
 le:w.length<=bl.length
 ok:∀(i:Nat) (b:bT),w[i]?=some b->cU (gW w) i=true/\¬(b.av.bp=2/\b.av.goto=b.av.dx)
 gV:im w
end
inductive Reach(bl:List bT):Int->Prop
 | zero:Reach bl 0
 | step {k k':Int} (h:Reach bl k) (ak:k'∈q6 bl k):Reach bl k'
def apV{bl}(aS:im bl){k k'}(h:k'∈q6 bl k):0<=k'/\k'<bl.length:=by
 unfold q6 at h;split at h
 .rename_i b I;exact aS b (bQ I) k' h
 .exact jh
def Reach.NC{bl}(hx:0<bl.length)(aS:im bl){k}(h:Reach bl k):0<=k/\k<bl.length:=by
 rcases h with _|⟨_,ak⟩
 .exact U
 .exact apV aS ak
def XL{n k}(aj:0<=k):∀(l:List Int) (s:dc) (w:List Int),n<=s.length*64->(∀x∈l,0<=x/\x<n)->(cU (pE s w l).1 k=true↔cU s k=true\/k∈l):=by
 intro l;induction l with
 | nil=>intro s w _ _;simp[pE]
 | cons a l c =>
  intro s w aC b;have f:=b a aF;unfold pE;split
  .rename_i h;rw[c s w aC λx aa=>b x yO];constructor
   .rintro(J|J)
    .exact .inl J
    .exact .inr QG
   .rintro(J|J)
    .exact .inl J
    .rcases dI.1 J with e|e
     .subst e;exact .inl h
     .exact .inr e
  .rw[c (jU s a) (a::w) VB λx aa=>b x yO,CR];have:a.toNat/64<s.length:=U;simp[l3,cA,ed,dI];constructor
   .rintro((J|⟨⟨J,_⟩,_⟩)|J)
    .exact .inl J
    .exact .inr (.inl J.symm)
    .exact .inr (.inr J)
   .rintro(J|J|J)
    .exact .inl (.inl J)
    .subst J;exact .inl (.inr ⟨⟨rfl,aj⟩,this⟩)
    .exact .inr J
def aea{n}:∀(l:List Int) (s:dc) (w:List Int),n<=s.length*64->(∀x∈l,0<=x/\x<n)->∀x,(x∈(pE s w l).2->x∈w\/x∈l)/\(x∈w->x∈(pE s w l).2)/\(x∈l->cU s x=false->x∈(pE s w l).2):=by
 intro l;induction l with
 | nil=>exact λs w _ _ x=>⟨λh=>.inl h,λh=>h,λh=>jh⟩
 | cons a l g =>
  intro s w aC f x;have j:=f a aF;unfold pE;split
  .rename_i h;have⟨i1,i2,i3⟩:=g s w aC (λx aa=>f x yO) x;refine⟨λJ=>?_,i2,λJ b=>?_⟩
   .rcases i1 J with h|h
    .exact .inl h
    .exact .inr yY
   .rcases dI.1 J with e|e
    .subst e;rw[h] at b;cases b
    .exact i3 e b
  .have⟨i1,i2,i3⟩:=g (jU s a) (a::w) VB (λx aa=>f x yO) x;refine⟨λJ=>?_,λJ=>i2 QG,λJ b=>?_⟩
   .rcases i1 J with h|h
    .rcases dI.1 h with e|e
     .subst e;exact .inr aF
     .exact .inl e
    .exact .inr yY
   .by_cases e:x=a
    .subst e;exact i2 aF
    .rcases dI.1 J with c|c
     .exact absurd c e
     .refine i3 c ?_;rw[CR,b];simp;exact λi=>absurd i.symm e
def aBF{n}:∀(l:List Int) (s:dc) (w:List Int),n<=s.length*64->(∀x∈l,0<=x/\x<n)->zv n (pE s w l).1+(pE s w l).2.length=zv n s+w.length:=by
 intro l;induction l with
 | nil=>intro s w _ _;rfl
 | cons a l c =>
  intro s w aC b;have e:=b a aF;unfold pE;split
  .exact c s w aC λx aa=>b x yO
  .rename_i h;rw[c (jU s a) (a::w) VB λx aa=>b x yO];have:=apW (n:=n) e.1 U lM U;simp[e5];omega
structure aeb(bl:List bT)(s:dc)(w:List Int):Prop where
 len:bl.length<=s.length*64
 sound:∀k:Int,0<=k->k<bl.length->cU s k=true->Reach bl k
 eg:∀x∈w,0<=x/\x<bl.length/\cU s x=true
 done:∀k:Int,0<=k->k<bl.length->cU s k=true->k∈w\/∀k'∈q6 bl k,cU s k'=true
def aBG{bl}(aS:im bl):∀(m:Nat) (s:dc) (w:List Int),aeb bl s w->zv bl.length s+w.length<=m->aeb bl (A5 bl m s w) []:=by
 intro m;induction m with
 | zero =>
  intro s w h hm;have:w=[]:=mr.1 U;subst this;exact h
 | succ m t =>
  intro s w h hm;rcases w with _|⟨n,w⟩
  .exact h
  .rw[A5];have a:∀x∈q6 bl n,0<=x/\x<bl.length:=λx aa=>apV aS aa;have⟨r,q,o⟩:=h.eg n aF;refine t _ _ ⟨by rw[apX];exact h.len,λk f j aj=>?_,λx aa=>?_,λk f j aj=>?_⟩ (by rw[aBF (q6 bl n) s w h.len a];simp[e5] at hm;omega)
   .rcases(XL f (q6 bl n) s w h.len a).1 aj with J|J
    .exact h.sound k f j J
    .exact .step (h.sound n r q o) J
   .rcases(aea (q6 bl n) s w h.len a x).1 aa with J|J
    .have⟨i,a2,a3⟩:=h.eg x QG;exact⟨i,a2,aec _ _ _ a3⟩
    .have⟨i,a2⟩:=a x J;exact⟨i,a2,(XL i (q6 bl n) s w h.len a).2 (.inr J)⟩
   .by_cases c:cU s k=true
    .rcases h.done k f j c with J|J
     .rcases dI.1 J with e|e
      .subst e;exact .inr λk' g=>(XL (a k' g).1 _ s w h.len a).2 (.inr g)
      .exact .inl ((aea (q6 bl n) s w h.len a k).2.1 e)
     .exact .inr λk' g=>aec _ _ _ (J k' g)
    .rcases(XL f (q6 bl n) s w h.len a).1 aj with J|J
     .exact absurd J c
     .exact .inl ((aea (q6 bl n) s w h.len a k).2.2 J (by simpa using c))
def aBH n s:zv n s<=n:=by
 unfold zv;have:=Gu (λi:Nat=>!cU s (i:Int)) (List.range n);simpa using this
def aee{bl}(a:0<bl.length)(aS:im bl):aeb bl (gW bl) []:=by
 have he:(hi (bl.length:Int)).length=(bl.length+63)/64:=abO;have h0:∀k:Int,cU (jU (hi (bl.length:Int)) 0) k=true->k=0:=by
  intro k aj;rw[CR,aBI] at aj;simp at aj;exact aj.1.1.symm
 rw[gW,ai U];refine aBG aS _ _ _ ⟨by rw[yV,he];omega,λk _ _ aj=>h0 k aj▸.zero,λx aa=>?_,λk _ _ aj=>h0 k aj▸.inl aF⟩ (by have:=aBH bl.length (jU (hi (bl.length:Int)) 0);simp[DW];omega)
 .simp[gU] at aa;subst aa;refine⟨U,U,?_⟩;rw[CR,he];simp;exact .inr U
def aef{bl}(hx:0<bl.length)(aS:im bl){k:Int}(h0:0<=k)(J:k<bl.length):cU (gW bl) k=true↔Reach bl k:=by
 have aE:=aee hx aS;refine⟨aE.sound k h0 J,λh=>?_⟩;clear h0 J;induction h with
 | zero=>exact aeg hx
 | step h ak c =>
  have a:=h.NC hx aS;rcases aE.done _ a.1 a.2 c with J|J
  .cases J
  .exact J _ ak
def Kj(b:bT):Prop:=¬(b.av.bp=2/\b.av.goto=b.av.dx)
def aBJ bl t:¬((nT bl t).bp=2/\(nT bl t).goto=(nT bl t).dx):=by
 unfold nT;split
 .rename_i h;rintro⟨J,_⟩;rw[show t.bp=2 from J] at h;cases h
 .split
  .split
   .rintro⟨J,_⟩;cases J
   .rename_i h;rintro⟨_,a⟩;exact h a
  .rename_i h;rintro⟨J,_⟩;exact h J
def aBK bl i j b(h:(tt bl i)[j]?=some b):(i=j/\Kj b)\/(i≠j/\bl[j]?=some b):=by
 unfold tt at h;split at h
 .rename_i c aB;rw[fl] at h;split at h
  .rename_i e;split at h
   .have h:=uj h;subst h;exact .inl ⟨e,aBJ bl c.av⟩
   .exact jh
  .rename_i e;exact .inr ⟨e,h⟩
 .rename_i ak;by_cases e:i=j
  .subst e;rw[ak] at h;cases h
  .exact .inr ⟨e,h⟩
def aBL{n}:∀(d:Nat) (bl:List bT),d<=n->bl.length=n->im bl->(∀(j:Nat) (b:bT),j<n-d->bl[j]?=some b->Kj b)->(∀b∈sS n d bl,Kj b)/\im (sS n d bl)/\(sS n d bl).length=n:=by
 intro d;induction d with
 | zero =>
  refine λbl _ a aS I=>⟨λb k=>?_,aS,a⟩;have⟨j,f⟩:=nO.1 k;exact I j b (by have J:=(cS.1 f).1;have g:(sS n 0 bl).length=n:=a;omega) f
 | succ d m =>
  intro bl q a aS I;rw[sS];have⟨t1,t2⟩:=aBM aS (n-(d+1));refine m _ U (by rwa[t2]) t1 λj b f o=>?_;rcases aBK bl _ j b o with⟨_,h⟩|⟨J,g⟩
  .exact h
  .exact I j b U g
def aBN{bl}(aS:im bl):(∀b∈x5 bl,Kj b)/\im (x5 bl)/\(x5 bl).length=bl.length :=
 aBL bl.length bl (b4 _) rfl aS λj b a=>U
structure Hy(n:Nat)(bl:List bT):Prop where
 ne:∀b∈bl,Kj b
 gV:im bl
 len:bl.length=n
def aBO{n bl}(h:Hy n bl)i k:Hy n (me bl i k):=by
 rcases I:bl[i]? with _|b
 .have:me bl i k=bl:=by rw[me,I]
  rwa[this]
 .rcases aH:bl[k.toNat]? with _|o
  .have:me bl i k=bl:=by rw[me,I,aH]
   rwa[this]
  .refine⟨λx aa=>?_,apY h.gV I aH,by rw[aBP];exact h.len⟩;rw[XM I aH] at aa;rcases vh aa with J|J
   .rcases vh J with ab|ab
    .exact h.ne x ab
    .exact ab▸h.ne o (bQ aH)
   .rw[J];rintro⟨ab,_⟩;cases ab
def aBQ{n i}:∀(m:Nat) (bl:List bT) (r:dc),Hy n bl->Hy n (uY i m bl r):=by
 intro m;induction m with
 | zero=>exact λbl r h=>h
 | succ m a =>
  intro bl r h;rw[uY];split
  .split
   .exact h
   .exact a _ _ (aBO h _ _)
  .exact h
def aBR{n bl}(h:Hy n bl)i:Hy n (x6 bl i):=by
 unfold x6;split
 .exact aBQ _ _ _ h
 .exact h
def aBS{n q}:∀(d:Nat) (bl:List bT),Hy n bl->Hy n (sT q d bl):=by
 intro d;induction d with
 | zero=>exact λbl h=>h
 | succ d a=>intro bl h;rw[sT];exact a _ (aBR h _)
def aeh r:∀(a b:List bT) (j:Nat),jl r j (a++b)=jl r j a++jl r (j+a.length) b:=by
 intro a;induction a with
 | nil=>intro b j;rfl
 | cons x a c =>
  intro b j;have e:j+(x::a).length=j+1+a.length:=jf;rw[BW,jl,jl,c b (j+1),e];split<;>rfl
def aBT r:∀(bl:List bT) (j:Nat),(jl r j bl).length<=bl.length:=by
 intro bl;induction bl with
 | nil=>exact λj=>b4 _
 | cons x a b =>
  intro j;have:=b (j+1);rw[jl];split<;>simp<;>omega
def tE(r:dc)(bl:List bT)(k:Nat):Nat:=(jl r 0 (bl.take k)).length
def XN{r bl}{k:Nat}{b}(I:bl[k]?=some b)(aj:cU r (k:Int)=true):(jl r 0 bl)[tE r bl k]?=some b/\tE r bl (k+1)=tE r bl k+1:=by
 have⟨J,c⟩:=cS.1 I;have e:bl=bl.take k++b::bl.drop (k+1):=by
  rw[<-c,<-sq J,GC]
 have a:(bl.take k).length=k:=jf;constructor
 .have f:jl r 0 bl=jl r 0 (bl.take k)++(b::jl r (k+1) (bl.drop (k+1))):=by
   rw[(by rw[<-e]:jl r 0 bl=jl r 0 (bl.take k++b::bl.drop (k+1))),aeh,a,ff,(by rw[jl,au aj]:jl r k (b::bl.drop (k+1))=b::jl r (k+1) (bl.drop (k+1)))]
  rw[f];rw[tE,oI (b4 _),sr];rfl
 .rw[tE,BX J,c,aeh,a,ff,iM];have:jl r k [b]=[b]:=by rw[jl,au aj];rfl
  rw[this];rfl
def apZ r bl:∀(d k:Nat),tE r bl k<=tE r bl (k+d):=by
 intro d k;unfold tE;rw[(by rw[List.take_add]:bl.take (k+d)=bl.take k++(bl.drop k).take d),aeh,iM];omega
def aBU{r bl}{b a:Nat}{b1 e}(J:bl[b]?=some b1)(j:bl[a]?=some e)(i:cU r (b:Int)=true)(f:cU r (a:Int)=true)(he:tE r bl b=tE r bl a):b=a:=by
 rcases PV b a with h|h|h
 .have g:=(XN J i).2;have c:=apZ r bl (a-(b+1)) (b+1);rw[show b+1+(a-(b+1))=a by omega] at c;omega
 .exact h
 .have g:=(XN j f).2;have c:=apZ r bl (b-(a+1)) (a+1);rw[show a+1+(b-(a+1))=b by omega] at c;omega
def aBV{r}:∀(bl:List bT) (j i:Nat),i<(jl r j bl).length->∃k b,bl[k]?=some b/\cU r ((j+k:Nat):Int)=true/\(jl r j (bl.take k)).length=i:=by
 intro bl;induction bl with
 | nil=>intro j i h;simp[jl] at h
 | cons x bl c =>
  intro j i h;rw[jl] at h;split at h
  .rename_i aa;rcases i with _|i
   .exact⟨0,x,rfl,aa,rfl⟩
   .have⟨k,b,J,e,a⟩:=c (j+1) i lM;refine⟨k+1,b,p0,alX,?_⟩;rw[wi,jl,au aa,e5,a]
  .rename_i aa;have⟨k,b,J,e,a⟩:=c (j+1) i h;refine⟨k+1,b,p0,alX,?_⟩;rw[wi,jl,ai aa,a]
def aei r:∀(bl:List bT) (i n k:Nat),k<bl.length->(pF r bl.length i n)[k]?=some ((n+(jl r i (bl.take k)).length:Nat):Int):=by
 intro bl;induction bl with
 | nil=>intro i n k h;simp at h
 | cons a bl b =>
  intro i n k h;rcases k with _|k
  .simp[pF,jl]
  .rw[e5,pF,pg,b (i+1) _ k lM,wi,jl];split
   .simp only[e5];congr 2;omega
   .rfl
def aBW{bl}(hx:0<bl.length)(aS:im bl)(S:∀b∈bl,Kj b):aBE bl (lf bl):=by
 have aE:=aee hx aS;have L:=aeg hx;have⟨r,aM⟩:=ld (gW bl);have u:∀{k:Int},0<=k->k<bl.length->(cU r k=true↔Reach bl k):=λh0 J=>aM▸aef hx aS h0 J;rw[aM] at aE L;have⟨pl,G⟩:=ld (pF r bl.length 0 0);have z:lf bl=(jl r 0 bl).map λb=>{b with av:=hX pl b.av}:=by rw[lf,aM,G]
 have v:∀k:Int,0<=k->k<bl.length->pl[k.toNat]?.getD 0=(tE r bl k.toNat:Int):=by
  intro k h0 J;have:=aei r bl 0 0 k.toNat U;rw[G,ff] at this;rw[this];rfl
 have g:∀{k:Nat}{b:bT},bl[k]?=some b->cU r (k:Int)=true->∀k'∈di b.av,(0<=k'/\k'<bl.length)/\cU r k'=true:=by
  intro k b I aj k' A;have f:=aS b (bQ I) k' A;have N:=(cS.1 I).1;refine⟨f,?_⟩;rcases aE.done (k:Int) U U aj with J|J
  .cases J
  .refine J k' ?_;unfold q6;rwa[ry,I]
 have E:∀{k:Nat}{b:bT},bl[k]?=some b->cU r (k:Int)=true->di (hX pl b.av)=(di b.av).map λk'=>(tE r bl k'.toNat:Int):=by
  intro k b I aj;have aB:=g I aj;by_cases m:b.av.bp=1
  .have e:=Mx m;rw[e] at aB|-;have J:=aB b.av.goto aF;unfold hX;rw[au m,Mx (t:={b.av with goto:=pl[b.av.goto.toNat]?.getD 0}) m,v _ J.1.1 J.1.2];rfl
  .by_cases o:b.av.bp=2
   .have e:=Cb o;rw[e] at aB|-;have J:=aB b.av.goto aF;have a:=aB b.av.dx aF;unfold hX;rw[ai m,au o,Cb (t:={b.av with goto:=pl[b.av.goto.toNat]?.getD 0,dx:=pl[b.av.dx.toNat]?.getD 0}) o,v _ J.1.1 J.1.2,v _ a.1.1 a.1.2];rfl
   .have e:di b.av=[]:=by rw[di,ai m,ai o]
    rw[hX,ai m,ai o,e];rfl
 have w:∀{k:Nat}{b:bT},bl[k]?=some b->cU r (k:Int)=true->(lf bl)[tE r bl k]?=some {b with av:=hX pl b.av}:=by
  intro k b I aj;rw[z,gf,(XN I aj).1];rfl
 have c:∀{i:Nat}{x:bT},(lf bl)[i]?=some x->∃(k:Nat) (b:bT),bl[k]?=some b/\cU r (k:Int)=true/\tE r bl k=i/\x={b with av:=hX pl b.av}:=by
  intro i x aa;have ag:i<(jl r 0 bl).length:=by
   have:=(cS.1 aa).1;rw[z,fI] at this;exact dm
  have⟨k,b,J,a,C⟩:=aBV bl 0 i ag;rw[ff] at a;have H:tE r bl k=i:=C;have:=w J a;rw[H,aa] at this;exact⟨k,b,J,a,H,uj this⟩
 have s:0<(lf bl).length:=by
  have⟨W,R⟩:=cR bl 0 hx;have:=(cS.1 (w R L)).1;omega
 have F:im (lf bl):=by
  intro x aa q y;have⟨i,ag⟩:=nO.1 aa;obtain⟨k,b,J,a,_,rfl⟩:=c ag;have y:q∈di (hX pl b.av):=y;rw[E J a] at y;obtain⟨k',A,rfl⟩:=ih.1 y;have⟨f,V⟩:=g J a k' A;obtain⟨b',Q⟩:∃b',bl[k'.toNat]?=some b':=⟨_,ey U⟩;have:=(cS.1 (w Q (by rwa[tk f.1]))).1;omega
 have D:∀{k:Int},Reach bl k->Reach (lf bl) (tE r bl k.toNat:Int):=by
  intro k h;induction h with
  | zero=>exact .zero
  | step h ak T =>
   rename_i k k';have f:=h.NC hx aS;have⟨b,I⟩:=cR bl k.toNat U;have aj:cU r ((k.toNat:Nat):Int)=true:=tk f.1▸(u f.1 f.2).2 h;refine .step T ?_;rw[q6,ry,w I aj];show _∈di (hX pl b.av);rw[E I aj];rw[q6,I] at ak;exact GF ak
 refine⟨s,by rw[z,fI];exact aBT r bl 0,λi x aa=>?_,F⟩;obtain⟨k,b,J,a,C,rfl⟩:=c aa;have X:=(cS.1 aa).1;have N:=(cS.1 J).1;refine⟨?_,?_⟩
 .rw[aef s F U U];have:=D ((u U U).1 a);rw[ry,C] at this;exact dm
 .rintro⟨j,n⟩;have B:b.av.bp=2:=by
   unfold hX at j;split at j
   .exact j
   .split at j
    .exact j
    .exact j
  have aB:=g J a;rw[Cb B] at aB;have⟨g1,g2⟩:=aB b.av.goto aF;have⟨g3,g4⟩:=aB b.av.dx aF;have n:(hX pl b.av).goto=(hX pl b.av).dx:=n;rw[hX,ai U,au B] at n;have n:pl[b.av.goto.toNat]?.getD 0=pl[b.av.dx.toNat]?.getD 0:=n;rw[v _ g1.1 g1.2,v _ g3.1 g3.2] at n;have⟨Y,M⟩:=cR bl b.av.goto.toNat U;have⟨Z,O⟩:=cR bl b.av.dx.toNat U;have:=aBU M O (by rwa[tk g1.1]) (by rwa[tk g3.1]) U;exact S b (bQ J) ⟨B,U⟩
structure cX where
 bp:Int
 n:Int
def kK:cX:=⟨2,0⟩
def zw:cX:=⟨0,0⟩
def EU(n:Int):cX:=⟨1,n⟩
def pH(a b:cX):cX:=if a.bp=0 then b else if b.bp=0 then a else if a.bp=1/\b.bp=1/\a.n=b.n then a else kK
def gH(l:List cX)(a:ho):cX:=if a.ck<0 then EU a.num else(l[a.ck.toNat]?).getD kK
def EV(op:Int)(a b:cX):cX :=
 if a.bp=1/\b.bp=1 then(if(h7 op a.n b.n).2=true then EU (h7 op a.n b.n).1 else kK)
 else if a.bp≠2/\b.bp≠2 then zw else kK
def lg(l:List cX)(x:cO):cX :=
 if x.op=1\/x.op=2 then gH l x.a
 else if x.op=22/\(gH l x.a).bp=1 then EU (q8 (gH l x.a).n x.size x.signed)
 else if x.op=22/\(gH l x.a).bp=0 then zw
 else if e6 x.op=true then EV x.op (gH l x.a) (gH l x.b)
 else kK
def gz(l:List cX)(x:cO):List cX:=if 0<=x.dst then l.set x.dst.toNat (lg l x) else l
def jV(t:kt)(l:List cX):List Int :=
 if t.bp≠2 then di t
 else if(gH l t.a).bp≠1\/(gH l t.b).bp≠1 then di t
 else if nc t.op (gH l t.a).n (gH l t.b).n=true then[t.goto] else[t.dx]
def hD:List cX->List cX->List cX
 | a::l,b::m=>pH a b::hD l m
 | l,_=>l
def Kk(a b:cX):Bool:=decide (a.bp=b.bp)&&decide (a.n=b.n)
def x7:List cX->List cX->Bool
 | a::l,b::m=>Kk a b&&x7 l m
 | _,_=>true
structure pI where
 ah:List (List cX)
 cm:List Bool
 eg:List Int
def h8(l:List cX)(s:pI)(k:Int):pI :=
 if s.cm[k.toNat]?.getD false=true then
  if x7 (hD (s.ah[k.toNat]?.getD []) l) (s.ah[k.toNat]?.getD [])=true then s
  else⟨s.ah.set k.toNat (hD (s.ah[k.toNat]?.getD []) l),s.cm,k::s.eg⟩
 else⟨s.ah.set k.toNat l,s.cm.set k.toNat true,k::s.eg⟩
def rY(bl:List bT)(s:pI)(k:Int):List cX:=match bl[k.toNat]? with
 | some b=>b.ah.foldl gz (s.ah[k.toNat]?.getD [])
 | none=>[]
def Hz(bl:List bT)(s:pI)(k:Int):pI:=match bl[k.toNat]? with
 | some b=>(jV b.av (rY bl s k)).foldl (h8 (rY bl s k)) s
 | none=>s
inductive CS(bl:List bT):pI->pI->Prop
 | stop {s:pI} (h:s.eg=[]):CS bl s s
 | go {s s':pI}{k:Int}{w:List Int} (h:s.eg=k::w) (aM:CS bl (Hz bl ⟨s.ah,s.cm,w⟩ k) s'):CS bl s s'
def u0(n:Nat)(ae:Int):pI:=h8 (List.replicate ae.toNat kK) ⟨List.replicate n [],List.replicate n false,[]⟩ 0
def ga(l:List cX)(a:ho):ho:=if(gH l a).bp=1 then⟨-1,(gH l a).n⟩ else a
def ow(op dst:Int)(a:ho):cO:=⟨op,dst,a,ND,0,false,false,0,0,[]⟩
def wT(x:cO):cO :=
 if 3<=x.op/\x.op<=15/\x.b.ck<0 then
  if x.b.num=0/\(x.op=3\/x.op=4\/x.op=11\/x.op=12\/13<=x.op) then ow 2 x.dst x.a
  else if x.b.num=0/\(x.op=5\/x.op=10) then ow 1 x.dst ⟨-1,0⟩
  else if x.b.num=1/\(x.op=5\/x.op=6\/x.op=7) then ow 2 x.dst x.a
  else x
 else x
def lS(l:List cX)(x:cO):cX:=if 0<=x.dst then lg l x else kK
def pJ(l:List cX)(x:cO):cO :=
 if(lS l x).bp=1/\vF x.op=true then ow 1 x.dst ⟨-1,(lS l x).n⟩ else{x with a:=ga l x.a,b:=ga l x.b,args:=x.args.map (ga l)}
def oU(l:List cX)(x:cO):cO:=wT (pJ l x)
def zx:List cX->List cO->List cO
 | _,[]=>[]
 | l,x::xs=>oU l x::zx (gz l x) xs
def q9(l:List cX)(t:kt):kt:={t with a:=ga l t.a,b:=ga l t.b}
def n9(l:List cX)(t:kt):kt :=
 match jV (q9 l t) l with
 | [k]=>if t.bp=2 then rZ k else q9 l t
 | _=>q9 l t
def HA(l:List cX)(b:bT):bT:=⟨zx l b.ah,n9 (b.ah.foldl gz l) b.av⟩
def sA:List bT->List (List cX)->List Bool->List bT
 | b::bl,l::ls,s::jM=>(if s=true then HA l b else b)::sA bl ls jM
 | bl,_,_=>bl
inductive XO(ae:Int)(bl:List bT):List bT->Prop
 | mk {s:pI} (h:CS bl (u0 bl.length ae) s):XO ae bl (sA bl s.ah s.cm)
def CT(a b:cX):Prop:=a.bp=0\/b.bp=2\/a=b
def CT.refl a:CT a a:=.inr (.inr rfl)
def CT.trans{a b c}(J:CT a b)(e:CT b c):CT a c:=by
 rcases J with h|h|h
 .exact .inl h
 .rcases e with g|g|g
  .exact U
  .exact .inr (.inl g)
  .subst g;exact .inr (.inl h)
 .subst h;exact e
def cX.ext'{a b:cX}(J:a.bp=b.bp)(c:a.n=b.n):a=b:=by cases a;cases b;simp_all
def aBY a b:CT a (pH a b):=by
 unfold pH;split
 .rename_i h;exact .inl h
 .split
  .exact .refl _
  .split
   .exact .refl _
   .exact .inr (.inl rfl)
def aBZ a b:CT b (pH a b):=by
 unfold pH;split
 .exact .refl _
 .split
  .rename_i h;exact .inl h
  .split
   .rename_i h;exact .inr (.inr (cX.ext' (h.2.1.trans h.1.symm) h.2.2.symm))
   .exact .inr (.inl rfl)
def EW:∀l m:List cX,(hD l m).length=l.length
 | [],[]=>rfl
 | [],_::_=>rfl
 | _::_,[]=>rfl
 | _::l,_::m=>by simp[hD,EW l m]
def aek{a b}:Kk a b=true↔a=b:=by
 unfold Kk;simp[cA,ed];exact⟨λh=>cX.ext' h.1 h.2,λh=>by subst h;exact⟨rfl,rfl⟩⟩
def NF:∀{l m:List cX},l.length=m.length->(x7 l m=true↔l=m)
 | [],[],_=>by simp[x7]
 | a::l,b::m,h=>by
  have:=NF lM;simp[x7,cA,aek,this,IX]
structure x8(l m:List cX):Prop where
 len:l.length=m.length
 le:∀(i:Nat) (a b:cX),l[i]?=some a->m[i]?=some b->CT a b
def x8.refl l:x8 l l:=⟨rfl,λi a b J ab=>alC⟩
def x8.trans{l m k}(J:x8 l m)(e:x8 m k):x8 l k :=
 ⟨J.len.trans e.len,λi a c f aB=>by
  have ag:=(cS.1 f).1;have⟨b,I⟩:=cR m i (by rwa[<-J.len]);exact(J.le i a b f I).trans (e.le i b c I aB)⟩
def ael:∀{l m:List cX}{i:Nat}{a b:cX},l[i]?=some a->m[i]?=some b->(hD l m)[i]?=some (pH a b)
 | x::l,y::m,0,a,b,J,ab=>by
  simp[kC,dh] at J ab;subst J;subst ab;rfl
 | x::l,y::m,i+1,a,b,J,ab=>by
  rw[hD,pg];exact ael p0 tn
 | [],_,_,_,_,J,_=>D5
 | _::_,[],_,_,_,_,ab=>GY
def aB0{l m}(ao:l.length=m.length):x8 l (hD l m) :=
 ⟨(EW l m).symm, λi a c e aB => by
   have ag:=(cS.1 e).1;have⟨b,I⟩:=cR m i VZ;rw[ael e I] at aB;cases aB;exact aBY a b⟩
def ap2{l m}(e:l.length=m.length):x8 m (hD l m) :=
 ⟨by rw[EW,e],λi b c I aB=>by
  have ag:=(cS.1 I).1;have⟨a,f⟩:=cR l i (by rwa[e]);rw[ael f I] at aB;cases aB;exact aBZ a b⟩
def RM l x:(gz l x).length=l.length:=by unfold gz;split<;>simp
def NG:∀(xs:List cO) (l:List cX),(xs.foldl gz l).length=l.length
 | [],_=>rfl
 | x::xs,l=>by rw[At,NG xs,RM]
structure vG(n r:Nat)(s:pI):Prop where
 ah:s.ah.length=n
 cm:s.cm.length=n
 wid:∀(k:Nat) (l:List cX),s.ah[k]?=some l->s.cm[k]?=some true->l.length=r
 eg:∀k∈s.eg,0<=k/\k<n/\s.cm[k.toNat]?=some true
structure EX(s t:pI):Prop where
 cm:∀k:Nat,s.cm[k]?=some true->t.cm[k]?=some true
 eg:∀k∈s.eg,k∈t.eg
 new:∀k:Nat,t.cm[k]?=some true->(k:Int)∉t.eg->s.cm[k]?=some true/\t.ah[k]?=s.ah[k]?
 up:∀(k:Nat) (l m:List cX),s.cm[k]?=some true->s.ah[k]?=some l->t.ah[k]?=some m->x8 l m
def EX.refl s:EX s s:=⟨λ_ h=>h,λ_ h=>h,λ_ h _=>⟨h,rfl⟩,λk l m _ J ab=>alC⟩
def EX.trans{n r a b c}(g:vG n r b)(J:EX a b)(e:EX b c)(ao:a.ah.length=b.ah.length):EX a c :=
 ⟨λk h=>e.cm k (J.cm k h),λk h=>e.eg k (J.eg k h),λk h aj=>by
  have⟨g1,g2⟩:=e.new k h aj;have⟨g3,g4⟩:=J.new k g1 λhm=>aj (e.eg _ hm);exact⟨g3,g2.trans g4⟩,λk l m aC f aB=>by
  have ag:=(cS.1 f).1;have⟨x,aa⟩:=cR b.ah k VZ;exact(J.up k l x aC f aa).trans (e.up k x m (J.cm k aC) aa aB)⟩
def RN{l:List Bool}{k}(aj:k<l.length):l[k]?=some true\/l[k]?=some false:=by
 rw[ey aj];cases l[k]<;>simp
def aem{n r s}(w:vG n r s){l}(f:l.length=r){k:Int}(h0:0<=k)(J:k<n):
 vG n r (h8 l s k)/\EX s (h8 l s k)/\(h8 l s k).cm[k.toNat]?=some true/\∀m,(h8 l s k).ah[k.toNat]?=some m->x8 l m:=by
 have aj:k.toNat<n:=U;have⟨a,g⟩:=cR s.ah k.toNat QA;rw[h8,g];rcases RN Qq with aC|aC
 .rw[aC];simp[yG,au];have c:=w.wid _ _ g aC;have i:=EW a l;split
  .rename_i he;have he:=(NF i).1 he;refine⟨w,.refl s,aC,λm hm=>?_⟩;rw[g] at hm;cases hm;have:=ap2 (m:=l) (by rw[c,f]);rwa[he] at this
  .refine⟨⟨by simp[w.ah],w.cm,λj x aa b=>?_,λj b=>?_⟩,⟨λj h=>h,λj h=>yY,λj b ak=>?_,λj x y b aa aN=>?_⟩,aC,λm hm=>?_⟩
   .rw[fl] at aa;split at aa
    .split at aa
     .injection aa with aa;rw[<-aa,i,c]
     .cases aa
    .exact w.wid j x aa b
   .simp[dI] at b;rcases b with e|e
    .subst e;exact⟨h0,J,aC⟩
    .exact w.eg j e
   .refine⟨b,?_⟩;simp[dI,not_or] at ak;rw[fl,ai U]
   .rw[fl] at aN;split at aN
    .rename_i e;subst e;split at aN
     .injection aN with aN;rw[g] at aa;injection aa with aa;subst aa;subst aN;exact aB0 (by rw[c,f])
     .exact JA
    .rw[aa] at aN;cases aN;exact .refl _
   .rw[fl,au rfl,au QA] at hm;cases hm;exact ap2 (by rw[c,f])
 .rw[aC];simp[yG,nN,jE];refine⟨⟨by simp[w.ah],by simp[w.cm],λj x aa b=>?_,λj b=>?_⟩,⟨λj h=>?_,λj h=>yY,λj b ak=>?_,λj x y b aa aN=>?_⟩,ak7,λm hm=>?_⟩
  .rw[fl] at aa;split at aa
   .split at aa
    .injection aa with aa;rw[<-aa,f]
    .cases aa
   .rw[fl] at b;split at b
    .rename_i o q;exact absurd q o
    .exact w.wid j x aa b
  .simp[dI] at b;rcases b with e|e
   .subst e;exact⟨h0,J,ak7⟩
   .have⟨g1,g2,g3⟩:=w.eg j e;refine⟨g1,g2,?_⟩;rw[fl];split
    .rename_i e;rw[au Qq]
    .exact g3
  .rw[fl];split
   .rw[au Qq]
   .exact h
  .simp[dI,not_or] at ak;rw[fl,ai U] at b;exact⟨b,by rw[fl,ai U]⟩
  .by_cases e:k.toNat=j
   .subst e;rw[aC] at b;cases b
   .rw[fl,ai e,aa] at aN;cases aN;exact .refl _
  .rw[fl,au rfl,au QA] at hm;cases hm;exact .refl _
def aen{n r l}(f:l.length=r):∀(a:List Int) (s:pI),vG n r s->(∀k∈a,0<=k/\k<n) ->
 vG n r (a.foldl (h8 l) s)/\EX s (a.foldl (h8 l) s)/\∀k∈a,(a.foldl (h8 l) s).cm[k.toNat]?=some true/\∀m,(a.foldl (h8 l) s).ah[k.toNat]?=some m->x8 l m
 | [],s,w,_=>⟨w,.refl s,λk aj=>Jy⟩
 | k::a,s,w,aj=>by
  have⟨b,g,s1,m1⟩:=aem w f (aj k aF).1 (aj k aF).2;have⟨i,c,s2⟩:=aen f a (h8 l s k) b λj aA=>aj j Ea;refine⟨i,EX.trans b g c (by rw[w.ah,b.ah]),λj aA=>?_⟩;rcases dI.1 aA with e|e
  .subst e;refine⟨c.cm _ s1,λm hm=>?_⟩;have o:j.toNat<n:=by have:=aj j aF;omega
   obtain⟨x,aa⟩:∃x,(h8 l s j).ah[j.toNat]?=some x:=⟨_,ey (by rwa[b.ah])⟩;exact(m1 x aa).trans (c.up _ _ _ s1 aa hm)
  .exact s2 j e
def NH{t l}:∀k∈jV t l,k∈di t:=by
 intro k aj;unfold jV at aj;split at aj
 .exact aj
 .rename_i h;split at aj
  .exact aj
  .rw[Cb U];split at aj<;>simp at aj<;>simp[aj]
structure A6(bl:List bT)(r:Nat)(s:pI):Prop extends vG bl.length r s where
 zero:s.cm[0]?=some true
 top:∀l,s.ah[0]?=some l->∀f∈l,f.bp=2
 done:∀(k:Nat) (b:bT),bl[k]?=some b->s.cm[k]?=some true->(k:Int)∉s.eg->∀o∈jV b.av (rY bl s k),s.cm[o.toNat]?=some true/\∀m,s.ah[o.toNat]?=some m->x8 (rY bl s k) m
def aB1{bl r s}(w:vG bl.length r s){k:Nat}(aj:k<bl.length)(aC:s.cm[k]?=some true):(rY bl s k).length=r:=by
 unfold rY;have⟨b,I⟩:=cR bl k aj;have⟨l,a⟩:=cR s.ah k QA;simp[ry,I,a,yG];rw[NG,w.wid k l a aC]
def ap3{bl s t}{k:Nat}(h:t.ah[k]?=s.ah[k]?):rY bl t k=rY bl s k:=by
 unfold rY;rw[ry,h]
def aeo{bl}(aS:im bl){r s}(i:A6 bl r s){k w}(hw:s.eg=k::w):A6 bl r (Hz bl ⟨s.ah,s.cm,w⟩ k):=by
 have⟨S,R,G⟩:=i.eg k VN;have C:k.toNat<bl.length:=U;have⟨b,I⟩:=cR bl k.toNat C;have B:((k.toNat:Nat):Int)=k:=U;have aH:rY bl ⟨s.ah,s.cm,w⟩ k=rY bl s k:=by
  have:=ap3 (bl:=bl) (t:=⟨s.ah,s.cm,w⟩) (k:=k.toNat) rfl;rwa[B] at this
 have O:(rY bl s k).length=r:=by have:=aB1 i.tovG C G;rwa[B] at this
 rw[Hz,I,aH];dsimp only;have⟨J,a,s1⟩:=aen O (jV b.av (rY bl s k)) ⟨s.ah,s.cm,w⟩ ⟨i.ah,i.cm,i.wid,λj u=>i.eg j (by rw[hw];simp[u])⟩ λj u=>aS b (bQ I) j (NH j u);refine⟨J,a.cm 0 i.zero,λl H f M=>?_,λj c aB u ak o v=>?_⟩
 .have h0:0<s.ah.length:=by rw[i.ah];omega
  have⟨l0,n⟩:=cR s.ah 0 h0;have g:=a.up 0 l0 l i.zero n H;have⟨q,E⟩:=nO.1 M;have Q:=(cS.1 E).1;have⟨f0,F⟩:=cR l0 q (by rwa[g.len]);have T:=i.top l0 n f0 (bQ F);rcases g.le q f0 f F E with e|e|e
  .exact U
  .exact e
  .rwa[<-e]
 .have⟨y,g2⟩:=a.new j u ak;have y:s.cm[j]?=some true:=y;rw[ap3 g2] at v|-;by_cases e:(j:Int)=k
  .have A:j=k.toNat:=U;subst A;rw[I] at aB;cases aB;rw[B] at v|-;exact s1 o v
  .have z:(j:Int)∉s.eg:=by
    rw[hw];simp[dI,not_or];exact⟨e,λh=>ak (a.eg _ h)⟩
   have⟨D,L⟩:=i.done j c aB y z o v;refine⟨a.cm _ D,λm hm=>?_⟩;have N:=aS c (bQ aB) o (NH o v);have⟨x,aa⟩:=cR s.ah o.toNat (by rw[i.ah];omega);exact(L x aa).trans (a.up _ x m D aa hm)
def aep{bl}(aS:im bl){r s s'}(h:CS bl s s'):A6 bl r s->A6 bl r s'/\s'.eg=[]:=by
 induction h with
 | stop h=>exact λi=>⟨i,h⟩
 | go h _ aP=>exact λi=>aP (aeo aS i h)
def RO{bl}(n:0<bl.length)ae:A6 bl ae.toNat (u0 bl.length ae):=by
 have i:vG bl.length ae.toNat ⟨List.replicate bl.length [],List.replicate bl.length false,[]⟩:=by
  refine⟨aF,aF,λk l _ aj=>?_,λk aj=>Jy⟩;have aj:(List.replicate bl.length false)[k]?=some true:=aj;rw[Av] at aj;split at aj<;>simp at aj
 have⟨c,j,s1,m1⟩:=aem i (l:=List.replicate ae.toNat kK) aF (k:=0) U U;have e:u0 bl.length ae=⟨(List.replicate bl.length []).set 0 (List.replicate ae.toNat kK),(List.replicate bl.length false).set 0 true,[0]⟩:=by
  unfold u0 h8;obtain⟨m,hm⟩:∃m,bl.length=m+1:=⟨bl.length-1,U⟩;rw[hm];rfl
 refine⟨c,s1,λl a f g=>?_,λk b I aj ak=>?_⟩
 .rw[e,fl,au rfl,au jf] at a;cases a;rw[yD g];rfl
 .rw[e] at aj ak;simp[gU] at ak;rw[fl,ai U,Av] at aj;split at aj<;>simp at aj
def Kn:∀(bl:List bT) (ls:List (List cX)) (a:List Bool),(sA bl ls a).length=bl.length
 | [],_,_=>by cases ‹List (List cX)›<;>cases ‹List Bool›<;>rfl
 | _::_,[],_=>rfl
 | _::_,_::_,[]=>rfl
 | _::bl,_::ls,_::a=>by simp[sA,Kn bl ls a]
def aeq:∀{bl:List bT}{ls:List (List cX)}{c:List Bool}{k:Nat}{b:bT}{l:List cX}{s:Bool},bl[k]?=some b->ls[k]?=some l->c[k]?=some s->(sA bl ls c)[k]?=some (if s=true then HA l b else b)
 | _::_,_::_,_::_,0,_,_,_,J,ab,a=>by
  simp[kC,dh] at J ab a;subst J;subst ab;subst a;rfl
 | _::_,_::_,_::_,k+1,_,_,_,J,ab,a=>by
  rw[sA,pg];exact aeq p0 tn (by simpa using a)
 | [],_,_,_,_,_,_,J,_,_=>D5
 | _::_,[],_,_,_,_,_,_,ab,_=>GY
 | _::_,_::_,[],_,_,_,_,_,_,a=>by simp at a
def aB4 l a:gH l (ga l a)=gH l a:=by
 unfold ga;split
 .rename_i h;have:gH l ⟨-1,(gH l a).n⟩=EU (gH l a).n:=by rw[gH,au (show(-1:Int)<0 by omega)]
  exact this▸cX.ext' h.symm rfl
 .rfl
def XP l t:jV (q9 l t) l=jV t l:=by
 unfold jV q9;simp[aB4];rfl
def aB5{l t}:∀k∈di (n9 l t),k∈jV t l:=by
 intro k aj;rw[n9,XP] at aj;have a:t.bp≠2\/(jV t l=di t)->k∈di (q9 l t)->k∈jV t l:=by
  intro h aj;have aj:k∈di t:=aj;rcases h with h|h
  .unfold jV;rwa[au h]
  .rwa[h]
 split at aj
 .rename_i j b;split at aj
  .have:k=j:=by simpa[di,rZ] using aj
   rw[b,this];simp
  .rename_i h;exact a (.inl h) aj
 .rename_i b;refine a ?_ aj;by_cases c:t.bp=2
  .right;unfold jV at b|-;rw[ai U] at b|-;split
   .rfl
   .rename_i e;rw[ai e] at b;split at b
    .exact absurd rfl (b _)
    .exact absurd rfl (b _)
  .exact .inl c
def rC{op}:e6 op=true↔3<=op/\op<=21:=by simp[e6]
def CU{op}:vF op=true↔1<=op/\op<=25:=by simp[vF]
def aer:∀(xs:List cO) (l:List cX),(zx l xs).length=xs.length
 | [],_=>rfl
 | _::xs,l=>by simp[zx,aer xs]
def ap6:∀{xs:List cO}{l:List cX}{y:cO},y∈zx l xs->∃x∈xs,∃m,m.length=l.length/\y=oU m x
 | x::xs,l,y,h=>by
  rw[zx] at h;rcases dI.1 h with e|e
  .exact⟨x,aF,l,rfl,e⟩
  .have⟨x',J,m,a,b⟩:=ap6 e;exact⟨x',QG,m,by rw[a,RM],b⟩
 | [],_,_,h=>jh
def aes{bl s r}(i:A6 bl r s){k:Nat}{b'}(h:(sA bl s.ah s.cm)[k]?=some b'):
 ∃b l,bl[k]?=some b/\s.ah[k]?=some l/\((s.cm[k]?=some true/\b'=HA l b)\/(s.cm[k]?=some false/\b'=b)):=by
 have aj:=(cS.1 h).1;rw[Kn] at aj;have⟨b,I⟩:=cR bl k aj;have⟨l,a⟩:=cR s.ah k (by rwa[i.ah]);refine⟨b,l,I,a,?_⟩;rcases RN (by rwa[i.cm]) with aC|aC
 .left;rw[aeq I a aC] at h;injection h with h;exact⟨aC,by rw[<-h,au rfl]⟩
 .right;rw[aeq I a aC] at h;injection h with h;exact⟨aC,by rw[<-h,ai aF]⟩
def wrap64_in n:-9223372036854775808<=IntKind.i64.wrap n/\IntKind.i64.wrap n<=9223372036854775807:=by
 simp only[IntKind.wrap,IntKind.signed,IntKind.bits];simp;omega
def aoe n:b8 (IntKind.i64.wrap n):=wrap64_in n
def CV n:b8 (i64 n):=wrap64_in n
def ap7{a}(h:b8 a)k:b8 (a.fdiv (2^k)):=by
 have bh:(0:Int)<2^k:=Int.pow_pos U;rw[ajy _ (Int.le_of_lt bh)];have⟨J,ab⟩:=h;refine⟨?_,?_⟩
 .have:=Int.le_ediv_of_mul_le (a:=-9223372036854775808) (b:=a) bh (by
   have:(1:Int)<=2^k:=bh;have:=Int.mul_le_mul_of_nonpos_left (a:=(-9223372036854775808:Int)) U this;omega)
  exact dm
 .by_cases aJ:0<=a
  .have:=Int.ediv_le_self (2^k) aJ;omega
  .have:=Int.ediv_neg_of_neg_of_pos (show a<0 by omega) bh;omega
def aB6{a b:Int}(h:b8 a):b8 (a.tmod b):=by
 have⟨J,ab⟩:=h;have ak:=Int.natAbs_tmod a b;have hm:=Nat.mod_le a.natAbs b.natAbs;by_cases aJ:0<=a
 .have:=Int.tmod_nonneg b aJ;constructor<;>omega
 .have aK:=Int.tmod_nonneg b (show 0<=-a by omega);rw[Int.neg_tmod] at aK;constructor<;>omega
def aB7{op a b}(aJ:b8 a):b8 (Ko op a b).1:=by
 unfold Ko;split
 .split
  .exact Mi
  .exact CV _
 .split
  .exact Mi
  .split
   .split
    .exact Mi
    .exact aB6 aJ
   .split<;>exact CV _
def aet{op a b}(aJ:b8 a):b8 (h7 op a b).1:=by
 unfold h7;repeat' split
 all_goals first|exact CV _|exact ap7 aJ _|exact aB7 aJ|exact⟨by show(_:Int)<=1;omega,by show(1:Int)<=_;omega⟩|exact Mi
def NI{n size c}(ak:b8 n):b8 (q8 n size c):=by
 unfold q8;repeat' split
 .exact ak
 .exact ap7 (CV _) _
 .exact CV _
section
attribute[local irreducible] W ad
structure qk where
 bp:Int
 a:Int
 b:Int
structure c9 where
 bb:Int
 exit:Int
 out:List Int
 bU:List qk
 b9:Int
 bu:Int
 data:List Int
 stack:List Int
 sp:Int
 et:Int
def kV(x:qk):List Value:=[.int .i64 x.bp,.int .i64 x.a,.int .i64 x.b]
def jI(n:Int):List Value:=[.int .i64 n]
def fc(l:List Int):List Value:=l.map (.int .u8 ·)
def xV(l:List Int):List Value:=l.map (.int .i64 ·)
def r0(aU:Nat)(s:c9)(o l d t:Nat):List Value:=[.pointer (some ⟨aU,0,none⟩),.int .i64 s.bb,.int .i64 s.exit,cD 1 o s.out,cD 3 l s.bU,.int .i64 s.b9,.int .i64 s.bu,.slice (some ⟨d,0,none⟩) s.data.length s.data.length,.slice (some ⟨t,0,none⟩) s.stack.length s.stack.length,.int .i64 s.sp,.int .i64 s.et]
def nF(aU:Nat)(s:c9)(π:Nat->Nat):List (Nat×Option cd):=[(0,some ⟨⟨r0 aU s (π 1) (π 2) (π 3) (π 4)⟩,88⟩),(1,gQ jI 2 s.out),(2,gQ kV 91 s.bU),(3,some ⟨⟨fc s.data⟩,5⟩),(4,some ⟨⟨fc s.stack⟩,5⟩)]
def WC f cs i h(c:h.m i=some ⟨⟨cs⟩,88⟩)(j:cs[1]?=some (.int .i64 f)):bc prog 36 ⟨[.pointer (some ⟨i,0,none⟩)]⟩ h (.bool (f==0)) h:=by
 refine bc.aO λaq=>?_;refine bc.jT func36 ntmps36 ?_;conv=>arg 2;whnf
 repeat(first|apply ad.dv;rfl;rfl;rfl;exact c;exact aq _ _ c;exact j|refine qi ?_|refine pv ?_|refine ov ?_)
 repeat'(first|(refine c7 ?_ ?_)<;>intro _)
 all_goals exact GO
def bq(ae:List Int)(a:ho):Int:=if a.ck<0 then a.num else ae.getD a.ck.toNat 0
def Rb a ae u cs z h(C:ae.length<=1000000000)(c:h.m z=some ⟨⟨cs⟩,113⟩)(A:cs[1]?=some (.slice (some ⟨u,0,none⟩) ae.length ae.length))(w:h.m u=some ⟨⟨xV ae⟩,2⟩):bc prog 80 ⟨[.pointer (some ⟨z,0,none⟩),.agg ⟨dX a⟩]⟩ h (.int .i64 (bq ae a)) h:=by
 refine bc.aO λaq=>?_;have s:=aq _ _ c;by_cases ak:0<=a.ck/\a.ck<ae.length
 .have⟨v,aE⟩:=cR ae a.ck.toNat U;have i:bq ae a=v:=by rw[bq,ai U,oG,aE];rfl
  have f:(xV ae)[0+a.ck.toNat*1]?=some (bm v):=by
   rw[xV,ff,iV,gf,aE];rfl
  refine bc.jT func80 ntmps80 ?_;conv=>arg 2;whnf
  repeat(first|(apply ad.dv;rfl;rfl;rfl;first|exact c;exact s;exact A|exact w;exact aq _ _ w;exact f)|refine ans ?_|refine M6 ?_|refine hL ?_|refine oS ?_|refine Na ?_|refine ou ?_)
  repeat'(first|(refine c7 ?_ ?_)<;>intro _)
  all_goals exact cf _ (dt rfl) ⟨rfl,by rw[i];rfl⟩
 .have B:¬a.ck<0->bq ae a=0:=λj=>by
   rw[bq,ai j,oG,wh U];rfl
  refine bc.jT func80 ntmps80 ?_;conv=>arg 2;whnf
  repeat'(first|apply ad.dv;rfl;rfl;rfl;exact c;exact s;exact A|refine M6 ?_|refine Nt ?_|refine oS ?_|refine Hi ?_|refine fy ?_|(refine c7 ?_ ?_)<;>intro _)
  .exact cf _ (dt rfl) ⟨rfl,by rw[(λj=>by rw[bq,au j]:a.ck<0->bq ae a=a.num) h3];rfl⟩
  .exact cf _ (dt rfl) ⟨rfl,by rw[B h3];rfl⟩
  all_goals(exfalso;omega)
def NK{n K cs e}(h:∀v∈cs,bw 0 v):XQ n K (λ_=>some ⟨⟨cs⟩,e⟩):=by
 refine⟨λdD π iG=>?_,λπ N b cj bh I u hu=>?_⟩
 .show some _=_;congr 1;unfold oo;congr 1;apply k3;simp[so];exact(As λv aE=>Q9 (λi ag=>U) v (h v aE)).trans (List.map_id cs)
 .cases I;exact hc (dG _) u (h u GS)
def HD{n K α w e}(h:∀a,∀v∈w a,bw 0 v)(l:List α):XQ n K (λ_=>gQ w e l):=by
 have n1:∀l:List α,∀v∈ql w l,bw 0 v:=by
  intro l;induction l with
  | nil=>intro v aE;cases aE
  | cons a l aP =>
   intro v aE;rw[ql,ha] at aE;rcases aE with aE|aE
   .exact aP v aE
   .exact h a v aE
 rcases l with _|⟨a,l⟩
 .exact⟨λdD π iG=>rfl,λπ N b cj bh I=>by cases I⟩
 .exact NK (n1 (a::l))
def XR{α b sz a}{l:List α}:sub b (cD sz a l)=cD sz (b a) l:=by
 cases l<;>simp[cD]
def XS{α N sz a}{l:List α}(h:a<N):bw N (cD sz a l):=by
 cases l<;>simp[cD,h]
def Kp{n K j}s(bh:j<n)(k:5<=K):zy n K (nF j s) 5:=by
 refine⟨NK λv aE=>P8,NK λv aE=>P8,HD (λa v aE=>?_) s.bU,HD (λa v aE=>?_) s.out,⟨λdD π iG=>?_,λπ N b cj g I u hu=>?_⟩,ew⟩
 .simp[kV,dI,jP,j6] at aE;rcases aE with rfl|rfl|rfl<;>simp
 .simp[jI,dI,jP,j6] at aE;subst aE;simp
 .show some _=some _;congr 1;unfold oo r0;congr 1;apply k3;simp[XR,iG j bh]
 .have I:some _=some b:=I;cases I;have J:=g 1 U;have o:=g 2 U;have q:=g 3 U;have m:=g 4 U;have hu:u∈r0 j s (π 1) (π 2) (π 3) (π 4):=GS;simp[r0,dI,jP,j6] at hu;rcases hu with rfl|rfl|rfl|rfl|rfl|rfl|rfl|rfl|rfl|rfl|rfl;all_goals first|exact XS h3|simp;done|simp;omega
def gk(s:c9)(e:Int):c9:=if s.bb=0 then{s with bb:=e} else s
def M4 B c(f:c<B.n) s e:ku prog 55 B 5 0 (λπ=>[.pointer (some ⟨π 0,0,none⟩),.int .i64 e]) (nF c s) (λ_=>.tuple #[]) (nF c (gk s e)):=by
 refine ku.i func55 ntmps55 (Kp _ f U) ⟨λu π j=>aF,λπ N v bh=>aF⟩ λπ=>?_;conv=>arg 2;whnf
 repeat'(first|apply ad.lT false [0];rfl;rfl;rfl;exact λH b7=>WC s.bb _ _ H (b7.l 0 rfl aF) rfl;exact hS|refine nz ?_|refine MV ?_|refine c8 ?_|refine WL ?_|refine qU ?_|(refine c7 ?_ ?_)<;>intro _)
 .rw[show gk s e={s with bb:=e} from au ‹_›];exact⟨[],.nil,aaZ⟩
 .rw[show gk s e=s from ai ‹_›];exact⟨[],.nil,aaZ⟩
def aX(s:c9):c9:=if s.bb=0 then(if s.b9>=s.bu then{s with bb:=42} else{s with b9:=s.b9+1}) else s
def aj2 c s e π:EY (nF c s π) (nF c (gk s e) π) 5:=by
 have J:(gk s e).out=s.out:=Jg;have f:(gk s e).bU=s.bU:=Jg;refine⟨.inr ⟨_,rfl⟩,.inr ⟨_,rfl⟩,?_,?_,.inr ⟨_,rfl⟩,ew⟩
 .show gQ kV 91 (gk s e).bU=none\/∃b,gQ kV 91 s.bU=some b;rw[f];cases s.bU with
  | nil=>exact xG
  | cons a l=>exact .inr ⟨_,rfl⟩
 .show gQ jI 2 (gk s e).out=none\/∃b,gQ jI 2 s.out=some b;rw[J];cases s.out with
  | nil=>exact xG
  | cons a l=>exact .inr ⟨_,rfl⟩
def ann B u(v:u<B.n) s(z:0<=s.b9/\s.b9<=1000000000):ku prog 79 B 5 0 (λπ=>[.pointer (some ⟨π 0,0,none⟩)]) (nF u s) (λ_=>.bool ((aX s).bb==0)) (nF u (aX s)):=by
 refine ku.i func79 ntmps79 (Kp _ v U) ⟨λA π w=>aF,λπ N C bh=>aF⟩ λπ=>?_;conv=>arg 2;whnf
 repeat'(first|refine AO ?_|refine qi ?_|refine vx ?_|refine iR ?_|refine jH ?_|refine k7 ?_|refine Nu ?_|refine hW ?_|refine EC ?_|refine ou ?_|apply(ad.qV (vs:=[]) [0,1,2,3,4] 0);rfl;rfl;exact M4 _ u v s 42;rfl;rfl;exact wm;exact Jp|(refine c7 ?_ ?_)<;>intro _)
 .rename_i c f j;exfalso;rw[show gk s 42={s with bb:=42} from au c] at j;exact absurd j (show¬(42:Int)=0 by decide)
 .rename_i c f j;rw[show aX s=gk s 42 by rw[aX,gk,au c,au f,au c]];exact Mn
 .rename_i c f j;rw[show aX s={s with b9:=s.b9+1} by rw[aX,au c,ai f]];exact Mn
 .exact absurd ‹s.bb=0› ‹¬s.bb=0›
 .exact absurd ‹s.bb=0› ‹¬s.bb=0›
 .rename_i c f;rw[show aX s=s by rw[aX,ai c]];exact Mn
structure c9.ok(s:c9):Prop where
 data:s.data.length<=1000000
 stack:s.stack.length<=1000000
 b9:0<=s.b9/\s.b9<=1000000000
 bU:s.bU.length<=1000000000
 out:s.out.length<=1000000000
def my(s:c9)(aI:Int)(n:Nat):Prop:=65536<=aI/\aI<=65536+s.data.length-n
def oL(s:c9)(aI:Int)(n:Nat):Prop:=134217728-(s.stack.length:Int)<=aI/\aI<=134217728-n
def ap8 B c(f:c<B.n) s(aC:s.ok) aI n(ak:1<=n/\n<=8)(dQ:my s aI n):ku prog 113 B 5 0 (λπ=>[.pointer (some ⟨π 0,0,none⟩),.int .i64 aI,.int .i64 n]) (nF c s) (λπ=>.slice (some ⟨π 3,0+(aI-65536).toNat*1,none⟩) n (s.data.length-(aI-65536).toNat)) (nF c s):=by
 have⟨j,u⟩:=dQ;have aq:=aC.data;have aj:=aC.stack;refine ku.i func113 ntmps113 (Kp _ f U) ⟨λw π v=>aF,λπ N z bh=>by simpa using bh 3 U⟩ λπ=>?_;conv=>arg 2;whnf
 repeat(first|refine ac1 ?_|refine adv ?_|refine kJ ?_|refine tz ?_|refine iR ?_|refine jH ?_|refine oS ?_|refine Hi ?_|refine fy ?_)
 repeat'(first|(refine c7 ?_ ?_)<;>intro _)
 all_goals exact Mn
def ap9 B c(j:c<B.n) s(aC:s.ok) aI n(ak:1<=n/\n<=8)(f:¬my s aI n)(dQ:oL s aI n):ku prog 113 B 5 0 (λπ=>[.pointer (some ⟨π 0,0,none⟩),.int .i64 aI,.int .i64 n]) (nF c s) (λπ=>.slice (some ⟨π 4,0+(aI-(134217728-(s.stack.length:Int))).toNat*1,none⟩) n (s.stack.length-(aI-(134217728-(s.stack.length:Int))).toNat)) (nF c s):=by
 have⟨u,v⟩:=dQ;have aq:=aC.data;have aj:=aC.stack;refine ku.i func113 ntmps113 (Kp _ j U) ⟨λz π w=>aF,λπ N A bh=>by simpa using bh 4 U⟩ λπ=>?_;conv=>arg 2;whnf
 repeat(first|refine ac1 ?_|refine adv ?_|refine kJ ?_|refine tz ?_|refine nC ?_|refine jH ?_|refine oS ?_|refine EI ?_)
 repeat'(first|(refine c7 ?_ ?_)<;>intro _)
 all_goals first|exact Mn|exfalso;exact f ⟨U,U⟩|exfalso;omega
def aqa B c(f:c<B.n) s(aC:s.ok) aI(w:-9223372036854775808<=aI/\aI<=9223372036854775807) n(ak:1<=n/\n<=8)(j:¬my s aI n)(u:¬oL s aI n):ku prog 113 B 5 0 (λπ=>[.pointer (some ⟨π 0,0,none⟩),.int .i64 aI,.int .i64 n]) (nF c s) (λπ=>.slice none 0 0) (nF c (gk s 40)):=by
 have aq:=aC.data;have aj:=aC.stack;refine ku.i func113 ntmps113 (Kp _ f U) ⟨λz π v=>aF,λπ N A bh=>aF⟩ λπ=>?_;conv=>arg 2;whnf
 repeat'(first|apply(ad.qV (vs:=[]) [0,1,2,3,4] 0);rfl;rfl;exact M4 _ c f s 40;rfl;rfl;exact wm;exact Jp|refine ac1 ?_|refine adv ?_|refine kJ ?_|refine vx ?_|refine A0 ?_|refine jH ?_|refine k7 ?_|refine xT ?_|refine RE ?_|refine ou ?_|(refine c7 ?_ ?_)<;>intro _)
 all_goals first|exact Mn|exfalso;exact j ⟨U,U⟩|exfalso;exact u ⟨U,U⟩|exfalso;omega|skip
def eE(s:c9)(x:qk):c9:={s with bU:=x::s.bU}
def wU(aU:Nat)(s:c9)(π:Nat->Nat):List (Nat×Option cd):=[(0,some ⟨⟨r0 aU s (π 1) (π 5) (π 3) (π 4)⟩,88⟩),(1,gQ jI 2 s.out),(2,none),(3,some ⟨⟨fc s.data⟩,5⟩),(4,some ⟨⟨fc s.stack⟩,5⟩),(5,gQ kV 91 s.bU)]
def NL{n K j}s(bh:j<n)(k:6<=K):zy n K (wU j s) 6:=by
 refine⟨HD (λa v aE=>?_) s.bU,NK λv aE=>P8,NK λv aE=>P8,⟨λdD π iG=>rfl,λπ N b cj bh I=>by cases I⟩,HD (λa v aE=>?_) s.out,⟨λdD π iG=>?_,λπ N b cj g I u hu=>?_⟩,ew⟩
 .simp[kV,dI,jP,j6] at aE;rcases aE with rfl|rfl|rfl<;>simp
 .simp[jI,dI,jP,j6] at aE;subst aE;simp
 .show some _=some _;congr 1;unfold oo r0;congr 1;apply k3;simp[XR,iG j bh]
 .have I:some _=some b:=I;cases I;have J:=g 1 U;have o:=g 5 U;have q:=g 3 U;have m:=g 4 U;have hu:u∈r0 j s (π 1) (π 5) (π 3) (π 4):=GS;simp[r0,dI,jP,j6] at hu;rcases hu with rfl|rfl|rfl|rfl|rfl|rfl|rfl|rfl|rfl|rfl|rfl;all_goals first|exact XS h3|simp;done|simp;omega
def aB9(v b:Int)(i:Nat):Int:=IntKind.i64.wrap ((BitVec.ofInt IntKind.i64.bits v|||BitVec.ofInt IntKind.i64.bits (IntKind.i64.wrap (IntKind.i64.wrap b*2^(min (8*(i:Int)).toNat IntKind.i64.bits)))).toNat:Int)
def zz(dl:List Int)(o:Nat):Nat->Int
 | 0=>0
 | i+1=>aB9 (zz dl o i) (dl.getD (o+i) 0) i
def DZ.opt{ao:List (Nat×Option cd)}{m:List Nat}{i j:Nat}{bV:Option cd}{l:List (Nat×Option cd)}(aA:gE m i=some j)(h:ec ao j=bV)(aS:DZ ao m l):DZ ao m ((i,bV)::l):=by
 cases bV with
 | none=>exact aS
 | some b=>exact⟨by rw[aA];exact h,aS⟩
def RQ{α}w e(l:List α):gQ w e l=none\/∃b,gQ w e l=some b:=by
 rcases l with _|⟨a,l⟩
 .exact xG
 .exact .inr ⟨_,rfl⟩
def XT a s π:EY (nF a s π) (nF a s π) 5:=⟨.inr ⟨_,rfl⟩,.inr ⟨_,rfl⟩,RQ _ _ _,RQ _ _ _,.inr ⟨_,rfl⟩,ew⟩
def aCa B c(A:c<B.n) s aI(aC:(eE s ⟨2,aI,0⟩).ok) n(ak:1<=n/\n<=8) f(dQ:my s aI n):ku prog 102 B 5 1 (λπ=>[.pointer (some ⟨π 0,0,none⟩),.int .i64 aI,.int .i64 n,.bool f]) (nF c s) (λπ=>.int .i64 (q8 (zz s.data (aI-65536).toNat n) n f)) (wU c (eE s ⟨2,aI,0⟩)):=by
 have aq:s.data.length<=1000000:=aC.data;have G:s.bU.length+1<=1000000000:=aC.bU;have⟨E,F⟩:=dQ;refine ku.i func102 ntmps102 (NL _ A U) ⟨λL π J=>aF,λπ N M bh=>aF⟩ λπ=>?_;conv=>arg 2;whnf
 repeat(first|refine ac2 ?_|refine gP ?_|refine kJ ?_|refine zq ?_|refine mc ?_|apply(ad.qV (vs:=[]) [0,1,6,3,4] 0);rfl;rfl;exact ap8 B c A (eE s ⟨2,aI,0⟩) aC aI n ak dQ;rfl;rfl;exact wm;exact XT _ _ _)
 refine W.A7 (X:=Nat×Int) (λπ y=>[(0,cE (π 0)),(2,bm n),(3,.bool f),(9,bm y.2),(28,.slice (some ⟨π 3,0+(aI-65536).toNat*1,none⟩) n (s.data.length-(aI-65536).toNat)),(29,bm n),(30,bm y.1)]) (λ_=>B) (λπ _=>wU c (eE s ⟨2,aI,0⟩) π) (λz y=>x9 z π 5/\y.1<=n/\y.2=zz s.data (aI-65536).toNat y.1) (λy=>n-y.1) [0,1,2,3,4,6] (0,0) ⟨⟨rfl,rfl,rfl,rfl,rfl,ew⟩,dG _,rfl⟩ kD ?_;rintro z ⟨i,v⟩ ⟨C,D,aE⟩;dsimp only at D aE|-;subst aE;by_cases bs:i<n
 .have I:s.data[(aI-65536).toNat+i]?=some (s.data.getD ((aI-65536).toNat+i) 0):=by
   rw[oG,ey U];rfl
  have u:(fc s.data)[0+(aI-65536).toNat*1+i*1]?=some (.int .u8 (s.data.getD ((aI-65536).toNat+i) 0)):=by
   rw[fc,ff,iV,iV,gf,I];rfl
  repeat(first|apply ad.shl;(iterate 4 rfl);omega|refine er ?_|refine wI ?_|refine la ?_|refine jH ?_|refine k7 ?_|refine kW ?_|apply ad.RR;(iterate 5 rfl);exact u)
  exact D9 (i+1,zz s.data (aI-65536).toNat (i+1)) [0,1,2,3,4,5] rfl rfl ⟨C,hR,rfl⟩ hR kD
 .repeat(first|refine W0 ?_|refine fi ?_|refine nD ?_|refine Nb ?_|refine lC ?_)
  refine cf _ (dt rfl) (xw.mk [0,1,2,3,4,5] rfl rfl rfl C ca ?_);rw[<-(U:i=n)];rfl
def aCb B c(A:c<B.n) s aI(aC:(eE s ⟨2,aI,0⟩).ok) n(ak:1<=n/\n<=8) f(D:¬my s aI n)(dQ:oL s aI n):ku prog 102 B 5 1 (λπ=>[.pointer (some ⟨π 0,0,none⟩),.int .i64 aI,.int .i64 n,.bool f]) (nF c s) (λπ=>.int .i64 (q8 (zz s.stack (aI-(134217728-(s.stack.length:Int))).toNat n) n f)) (wU c (eE s ⟨2,aI,0⟩)):=by
 have aq:s.stack.length<=1000000:=aC.stack;have J:s.bU.length+1<=1000000000:=aC.bU;have⟨F,G⟩:=dQ;refine ku.i func102 ntmps102 (NL _ A U) ⟨λM π L=>aF,λπ N O bh=>aF⟩ λπ=>?_;conv=>arg 2;whnf
 repeat(first|refine ac2 ?_|refine gP ?_|refine kJ ?_|refine zq ?_|refine mc ?_|apply(ad.qV (vs:=[]) [0,1,6,3,4] 0);rfl;rfl;exact ap9 B c A (eE s ⟨2,aI,0⟩) aC aI n ak D dQ;rfl;rfl;exact wm;exact XT _ _ _)
 refine W.A7 (X:=Nat×Int) (λπ y=>[(0,cE (π 0)),(2,bm n),(3,.bool f),(9,bm y.2),(28,.slice (some ⟨π 4,0+(aI-(134217728-(s.stack.length:Int))).toNat*1,none⟩) n (s.stack.length-(aI-(134217728-(s.stack.length:Int))).toNat)),(29,bm n),(30,bm y.1)]) (λ_=>B) (λπ _=>wU c (eE s ⟨2,aI,0⟩) π) (λz y=>x9 z π 5/\y.1<=n/\y.2=zz s.stack (aI-(134217728-(s.stack.length:Int))).toNat y.1) (λy=>n-y.1) [0,1,2,3,4,6] (0,0) ⟨⟨rfl,rfl,rfl,rfl,rfl,ew⟩,dG _,rfl⟩ kD ?_;rintro z ⟨i,v⟩ ⟨C,E,aE⟩;dsimp only at E aE|-;subst aE;by_cases bs:i<n
 .have I:s.stack[(aI-(134217728-(s.stack.length:Int))).toNat+i]?=some (s.stack.getD ((aI-(134217728-(s.stack.length:Int))).toNat+i) 0):=by
   rw[oG,ey U];rfl
  have u:(fc s.stack)[0+(aI-(134217728-(s.stack.length:Int))).toNat*1+i*1]?=some (.int .u8 (s.stack.getD ((aI-(134217728-(s.stack.length:Int))).toNat+i) 0)):=by
   rw[fc,ff,iV,iV,gf,I];rfl
  repeat(first|apply ad.shl;(iterate 4 rfl);omega|refine er ?_|refine wI ?_|refine la ?_|refine jH ?_|refine k7 ?_|refine kW ?_|apply ad.RR;(iterate 5 rfl);exact u)
  exact D9 (i+1,zz s.stack (aI-(134217728-(s.stack.length:Int))).toNat (i+1)) [0,1,2,3,4,5] rfl rfl ⟨C,hR,rfl⟩ hR kD
 .repeat(first|refine W0 ?_|refine fi ?_|refine nD ?_|refine Nb ?_|refine lC ?_)
  refine cf _ (dt rfl) (xw.mk [0,1,2,3,4,5] rfl rfl rfl C ca ?_);rw[<-(U:i=n)];rfl
def aCc B c(v:c<B.n) s aI(aC:(eE s ⟨2,aI,0⟩).ok)(A:-9223372036854775808<=aI/\aI<=9223372036854775807) n(ak:1<=n/\n<=8) f(z:¬my s aI n)(D:¬oL s aI n):ku prog 102 B 5 1 (λπ=>[.pointer (some ⟨π 0,0,none⟩),.int .i64 aI,.int .i64 n,.bool f]) (nF c s) (λπ=>.int .i64 (q8 0 n f)) (wU c (gk (eE s ⟨2,aI,0⟩) 40)):=by
 have E:s.bU.length+1<=1000000000:=aC.bU;refine ku.i func102 ntmps102 (NL _ v U) ⟨λG π F=>aF,λπ N J bh=>aF⟩ λπ=>?_;conv=>arg 2;whnf
 repeat(first|refine ac2 ?_|refine gP ?_|refine kJ ?_|refine zq ?_|refine mc ?_|apply(ad.qV (vs:=[]) [0,1,6,3,4] 0);rfl;rfl;exact aqa B c v (eE s ⟨2,aI,0⟩) aC aI A n ak z D;rfl;rfl;exact wm;exact Jp)
 refine W.A7 (X:=Unit) (λπ y=>[(0,cE (π 0)),(2,bm n),(3,.bool f),(9,bm 0),(28,.slice none 0 0),(29,bm (0:Nat)),(30,bm 0)]) (λ_=>B) (λπ _=>wU c (gk (eE s ⟨2,aI,0⟩) 40) π) (λu y=>x9 u π 5) (λy=>0) [0,1,2,3,4,6] () ⟨rfl,rfl,rfl,rfl,rfl,ew⟩ kD ?_;intro u _ C;repeat(first|refine W0 ?_|refine fi ?_|refine nD ?_|refine Nb ?_|refine lC ?_)
 refine cf _ (dt rfl) (xw.mk [0,1,2,3,4,5] rfl rfl rfl C ca ?_);rfl
def XU(v:Int)(i:Nat):Int:=IntKind.u8.wrap (v.fdiv (2^(min (8*(i:Int)).toNat IntKind.i64.bits)))
def po(d:List Int)(o:Nat)(v:Int):Nat->List Int
 | 0=>d
 | i+1=>(po d o v i).set (o+i) (XU v i)
def Ch d o v:∀i,(po d o v i).length=d.length:=by
 intro i;induction i with
 | zero=>rfl
 | succ i a=>rw[po,mq,a]
def aev d k b:eB (fc d) k [.int .u8 b]=fc (d.set k b):=by
 rw[wV,u1];unfold fc;rw[xu]
def aCd aU s d o l fF t(h:d.length=s.data.length):r0 aU {s with data:=d} o l fF t=r0 aU s o l fF t:=by
 unfold r0;dsimp only;rw[h]
def aCe aU s d o l fF t(h:d.length=s.stack.length):r0 aU {s with stack:=d} o l fF t=r0 aU s o l fF t:=by
 unfold r0;dsimp only;rw[h]
def aqb(aU:Nat)(s:c9)(d k:List Int)(π:Nat->Nat):List (Nat×Option cd):=[(0,some ⟨⟨r0 aU s (π 1) (π 5) (π 3) (π 4)⟩,88⟩),(1,gQ jI 2 s.out),(2,none),(3,some ⟨⟨fc d⟩,5⟩),(4,some ⟨⟨fc k⟩,5⟩),(5,gQ kV 91 s.bU)]
def aCf B aU(u:aU<B.n) s aI(aC:(eE s ⟨3,aI,0⟩).ok) n(ak:1<=n/\n<=8) v(dQ:my s aI n):ku prog 103 B 5 1 (λπ=>[.pointer (some ⟨π 0,0,none⟩),.int .i64 aI,.int .i64 n,.int .i64 v]) (nF aU s) (λπ=>.tuple #[]) (wU aU {eE s ⟨3,aI,0⟩ with data:=po s.data (aI-65536).toNat v n}):=by
 have aq:s.data.length<=1000000:=aC.data;have E:s.bU.length+1<=1000000000:=aC.bU;have⟨C,D⟩:=dQ;refine ku.i func103 ntmps103 (NL _ u U) ⟨λG π F=>aF,λπ N J bh=>aF⟩ λπ=>?_;conv=>arg 2;whnf
 repeat(first|refine ac3 ?_|refine gP ?_|refine kJ ?_|refine zq ?_|refine mc ?_|apply(ad.qV (vs:=[]) [0,1,6,3,4] 0);rfl;rfl;exact ap8 B aU u (eE s ⟨3,aI,0⟩) aC aI n ak dQ;rfl;rfl;exact wm;exact XT _ _ _)
 refine W.A7 (X:=Nat) (λπ y=>[(0,cE (π 0)),(3,bm v),(8,.slice (some ⟨π 3,0+(aI-65536).toNat*1,none⟩) n (s.data.length-(aI-65536).toNat)),(28,bm n),(29,bm y)]) (λ_=>B) (λπ y=>aqb aU (eE s ⟨3,aI,0⟩) (po s.data (aI-65536).toNat v y) s.stack π) (λf y=>x9 f π 5/\y<=n) (λy=>n-y) [0,1,2,3,4,6] 0 ⟨⟨rfl,rfl,rfl,rfl,rfl,ew⟩,dG _⟩ kD ?_;rintro f i ⟨bB,A⟩;dsimp only at A|-;by_cases bs:i<n
 .have kI:eB (fc (po s.data (aI-65536).toNat v i)) (0+(aI-65536).toNat*1+i*1) [.int .u8 (XU v i)]=fc (po s.data (aI-65536).toNat v (i+1)):=by
   rw[ff,iV,iV];exact aev _ _ _
  have qN:0+(aI-65536).toNat*1+i*1+1<=(fc (po s.data (aI-65536).toNat v i)).length:=by
   rw[fc,fI,Ch];omega
  repeat(first|refine adU ?_|refine er ?_|refine wI ?_|refine la ?_|refine jH ?_|refine kW ?_|refine ady ?_)
  exact alU
 .have z:i=n:=U;subst z;repeat(first|refine hL ?_|refine lB ?_|refine AV ?_|refine adC ?_)
  exact⟨[],.nil,xw.mk [0,1,2,3,4,5] rfl rfl rfl bB ⟨hq (λc=>some (cd.mk ⟨c⟩ 88)) (aCd aU (eE s ⟨3,aI,0⟩) _ _ _ _ _ (Ch _ _ _ _)),rfl,rfl,rfl,rfl,rfl,ew⟩ rfl⟩
def aCg B aU(u:aU<B.n) s aI(aC:(eE s ⟨3,aI,0⟩).ok) n(ak:1<=n/\n<=8) v(A:¬my s aI n)(dQ:oL s aI n):ku prog 103 B 5 1 (λπ=>[.pointer (some ⟨π 0,0,none⟩),.int .i64 aI,.int .i64 n,.int .i64 v]) (nF aU s) (λπ=>.tuple #[]) (wU aU {eE s ⟨3,aI,0⟩ with stack:=po s.stack (aI-(134217728-(s.stack.length:Int))).toNat v n}):=by
 have aq:s.stack.length<=1000000:=aC.stack;have F:s.bU.length+1<=1000000000:=aC.bU;have⟨D,E⟩:=dQ;refine ku.i func103 ntmps103 (NL _ u U) ⟨λJ π G=>aF,λπ N L bh=>aF⟩ λπ=>?_;conv=>arg 2;whnf
 repeat(first|refine ac3 ?_|refine gP ?_|refine kJ ?_|refine zq ?_|refine mc ?_|apply(ad.qV (vs:=[]) [0,1,6,3,4] 0);rfl;rfl;exact ap9 B aU u (eE s ⟨3,aI,0⟩) aC aI n ak A dQ;rfl;rfl;exact wm;exact XT _ _ _)
 refine W.A7 (X:=Nat) (λπ y=>[(0,cE (π 0)),(3,bm v),(8,.slice (some ⟨π 4,0+(aI-(134217728-(s.stack.length:Int))).toNat*1,none⟩) n (s.stack.length-(aI-(134217728-(s.stack.length:Int))).toNat)),(28,bm n),(29,bm y)]) (λ_=>B) (λπ y=>aqb aU (eE s ⟨3,aI,0⟩) s.data (po s.stack (aI-(134217728-(s.stack.length:Int))).toNat v y) π) (λf y=>x9 f π 5/\y<=n) (λy=>n-y) [0,1,2,3,4,6] 0 ⟨⟨rfl,rfl,rfl,rfl,rfl,ew⟩,dG _⟩ kD ?_;rintro f i ⟨bB,C⟩;dsimp only at C|-;by_cases bs:i<n
 .have kI:eB (fc (po s.stack (aI-(134217728-(s.stack.length:Int))).toNat v i)) (0+(aI-(134217728-(s.stack.length:Int))).toNat*1+i*1) [.int .u8 (XU v i)]=fc (po s.stack (aI-(134217728-(s.stack.length:Int))).toNat v (i+1)):=by
   rw[ff,iV,iV];exact aev _ _ _
  have qN:0+(aI-(134217728-(s.stack.length:Int))).toNat*1+i*1+1<=(fc (po s.stack (aI-(134217728-(s.stack.length:Int))).toNat v i)).length:=by
   rw[fc,fI,Ch];omega
  repeat(first|refine adU ?_|refine er ?_|refine wI ?_|refine la ?_|refine jH ?_|refine kW ?_|refine ady ?_)
  exact alU
 .have z:i=n:=U;subst z;repeat(first|refine hL ?_|refine lB ?_|refine AV ?_|refine adC ?_)
  exact⟨[],.nil,xw.mk [0,1,2,3,4,5] rfl rfl rfl bB ⟨hq (λc=>some (cd.mk ⟨c⟩ 88)) (aCe aU (eE s ⟨3,aI,0⟩) _ _ _ _ _ (Ch _ _ _ _)),rfl,rfl,rfl,rfl,rfl,ew⟩ rfl⟩
def aCh B c(u:c<B.n) s aI(aC:(eE s ⟨3,aI,0⟩).ok)(A:-9223372036854775808<=aI/\aI<=9223372036854775807) n(ak:1<=n/\n<=8) v(z:¬my s aI n)(D:¬oL s aI n):ku prog 103 B 5 1 (λπ=>[.pointer (some ⟨π 0,0,none⟩),.int .i64 aI,.int .i64 n,.int .i64 v]) (nF c s) (λπ=>.tuple #[]) (wU c (gk (eE s ⟨3,aI,0⟩) 40)):=by
 have E:s.bU.length+1<=1000000000:=aC.bU;refine ku.i func103 ntmps103 (NL _ u U) ⟨λG π F=>aF,λπ N J bh=>aF⟩ λπ=>?_;conv=>arg 2;whnf
 repeat(first|refine ac3 ?_|refine gP ?_|refine kJ ?_|refine zq ?_|refine mc ?_|apply(ad.qV (vs:=[]) [0,1,6,3,4] 0);rfl;rfl;exact aqa B c u (eE s ⟨3,aI,0⟩) aC aI A n ak z D;rfl;rfl;exact wm;exact Jp)
 refine W.A7 (X:=Unit) (λπ y=>[(0,cE (π 0)),(8,.slice none 0 0),(28,bm (0:Nat)),(29,bm 0)]) (λ_=>B) (λπ _=>wU c (gk (eE s ⟨3,aI,0⟩) 40) π) (λf y=>x9 f π 5) (λy=>0) [0,1,2,3,4,6] () ⟨rfl,rfl,rfl,rfl,rfl,ew⟩ kD ?_;intro f _ C;repeat(first|refine hL ?_|refine lB ?_|refine AV ?_|refine adC ?_)
 exact⟨[],.nil,xw.mk [0,1,2,3,4,5] rfl rfl rfl C ca rfl⟩
instance:Kq prog 91 [.int .i64,.int .i64,.int .i64]:=⟨ax⟩
deriving instance DecidableEq for qk
def XV(cs:List Value)(x:qk):Prop:=cs=kV x
def aCi x y:r1 [.int .i64,.int .i64,.int .i64] (kV x) (kV y)=some (decide (x=y)):=by
 have:r1 [.int .i64,.int .i64,.int .i64] (kV x) (kV y)=some (decide (x.bp=y.bp)&&(decide (x.a=y.a)&&(decide (x.b=y.b)&&true))):=rfl;rw[this];congr 1;cases x;cases y;simp[qk.mk.injEq,Bool.decide_and]
def aCj a b c z u A(R:a.length<=281474976710656)(I:b.length<=281474976710656) h(s1:c0 h c 3 a XV)(s2:c0 h u 3 b XV):bc prog 19 ⟨[.slice c a.length z,.slice u b.length A]⟩ h (.bool (decide (a=b))) h:=by
 refine bc.aO λaq=>?_;refine bc.jT func19 ntmps19 ?_;conv=>arg 2;whnf
 repeat'(first|refine Cx ?_|apply ad.ad8;iterate 5 rfl|refine c8 ?_|refine JZ ?_|refine qU ?_|(refine c7 ?_ ?_)<;>intro _)
 .refine cf _ (dt rfl) ⟨rfl,?_⟩;have f:¬a.length=b.length:=ak5;rw[Ao (λe=>f Jx)];rfl
 .have B:a.length=b.length:=akY;refine W.loop (X:=Nat) (λπ i=>[(0,.slice c a.length z),(1,.slice u b.length A),(12,bm a.length),(13,bm i)]) (λ_=>h) (λπ i=>[]) (λi=>i<=a.length/\decide (a=b)=decide (a.drop i=b.drop i)) (λi=>a.length-i) [] 0 ⟨dG _,rfl⟩ kh ?_;rintro π i ⟨ag,bd⟩;dsimp only at ag bd|-;by_cases bs:i<a.length
  .have⟨x,aa⟩:=cR a i bs;have⟨y,aN⟩:=cR b i U;obtain⟨Q,N,O,M,rfl,w,C,D⟩:=s1.get i x aa;obtain⟨L,F,E,S,rfl,v,j,s⟩:=s2.get i y aN;rw[A1 aa,A1 aN] at bd;repeat'(first|apply ad.aew;(iterate 4 rfl);exact aCi _ _|refine er ?_|refine uT ?_|refine c8 ?_|refine Ew ?_|refine fy ?_|(apply ad.hF;rfl;rfl;rfl;first|exact w;exact aq _ _ w;exact C;exact D|exact v;exact aq _ _ v;exact j;exact s)|(refine c7 ?_ ?_)<;>intro _)
   .refine cf _ (dt rfl) ⟨rfl,?_⟩;have f:¬x=y:=by simpa using ‹(!decide (x=y))=true›
    rw[bd,Ao (λe=>f (by injection e))];rfl
   .have G:x=y:=by simpa using ‹(!decide (x=y))=false›
    subst G;exact ak3
  .repeat(first|refine EH ?_|refine CD ?_)
   rw[np U,np U] at bd;exact cf _ (dt rfl) ⟨rfl,by rw[bd];rfl⟩
end
end Go.Proofs.YtplleokmejppjaaGreatDoor
