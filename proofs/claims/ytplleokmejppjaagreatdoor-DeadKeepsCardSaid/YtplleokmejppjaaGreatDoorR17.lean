/- Contracts of functions that the law reaches -/
import Derived.Test.YtplleokmejppjaaGreatDoorR15
import Derived.Test.YtplleokmejppjaaGreatDoorR16
set_option linter.all false
set_option maxHeartbeats 9999999
set_option maxRecDepth 100000
namespace Go.Proofs.YtplleokmejppjaaGreatDoor
open Go.Proofs.Tryz
open Go.AH
section
attribute[local irreducible] W ad
def aDv a d x:(KA a d x).b.length=d.b.length:=by
 unfold KA;split
 .exact RY _ _ _
 .split
  .exact Ch _ _ _ _
  .split<;>exact RY _ _ _
def aDw:∀(l:List zI) (a:Int) (d:E8),(KB l a d).b.length=d.b.length:=by
 intro l;induction l with
 | nil=>intro a d;rfl
 | cons x l c=>intro a d;rw[KB,c,aDv]
def aDx:∀(l:List CK) (d:E8),(Ba l d).b.length=d.b.length:=by
 intro l;induction l with
 | nil=>intro d;rfl
 | cons x l a=>intro d;rw[Ba,a,aDw]
def aqC p b a:(nV p b a).length=p.data.toNat:=by
 rw[nV,aDx];exact rz
def nI.up{h H}(hu:∀i b,h.m i=some b->H.m i=some b){A n c l}(r:nI h A n c l):nI H A n c l :=
 ⟨r.aI.mono hu λ_ _ h=>h,r.len,r.le,r.cap,r.nil,r.spot⟩
def aAu l:∀u∈fc l,bw 0 u:=by
 intro u hu;unfold fc at hu;obtain⟨_,_,rfl⟩:=ih.1 hu;simp
def HN(bu:Int)(Xl iF:List Int):c9:={bb:=0,exit:=0,out:=[],bU:=[],b9:=0,bu:=bu,data:=Xl,stack:=iF,sp:=134217728,et:=0}
def HO(r:Int×c9):c9:=if r.2.bb=0 then{r.2 with exit:=r.1} else r.2
def gS(p:fX)(N:Nat)(b2 bI:List Int)(bu:Int):c9:=HO (cH p N 101 (HN bu (nV p b2 bI) (List.replicate 416000 0)) p.fA [])
def ae8:c9:={bb:=50,exit:=0,out:=[],bU:=[],b9:=0,bu:=0,data:=[],stack:=[],sp:=0,et:=0}
def NU(s:c9)(o l:Nat):Value:=.agg ⟨[.int .i64 s.bb,.int .i64 s.exit,cD 1 o s.out,cD 3 l s.bU,.int .i64 s.b9]⟩
def X1(s:c9)(_:Nat->Nat):List (Nat×Option cd):=[(0,gQ jI 2 s.out),(1,gQ kV 91 s.bU)]
def aqD{n}s:zy n 2 (X1 s) 2:=by
 refine⟨HD (λa v aE=>?_) s.bU,HD (λa v aE=>?_) s.out,ew⟩
 .simp[kV,dI,jP,j6] at aE;rcases aE with rfl|rfl|rfl<;>simp
 .simp[jI,dI,jP,j6] at aE;subst aE;simp
def aqE{n}s:ae9 n 2 (λπ=>NU s (π 0) (π 1)):=by
 refine⟨λb π c=>?_,λπ N d bh=>?_⟩
 .unfold NU;rw[show ∀l:List Value,sub b (.agg ⟨l⟩)=.agg ⟨l.map (sub b)⟩ from λl=>aF];simp[XR]
 .have h0:=bh 0 U;have J:=bh 1 U;unfold NU;rw[qK];intro v aE;have aE:v∈[Value.int .i64 s.bb,.int .i64 s.exit,cD 1 (π 0) s.out,cD 3 (π 1) s.bU,.int .i64 s.b9]:=lL;simp[dI,jP,j6] at aE;rcases aE with rfl|rfl|rfl|rfl|rfl;all_goals first|exact XS h3|simp
def aAF{a b c o l}{x:List Int}{y:List qk}:([.int .i64 a,.int .i64 b,cD 1 o x,cD 3 l y,.int .i64 c]:List Value).all (·.oneCell')=true:=by
 cases x<;>cases y<;>rfl
def aDy B(aq:∀i b,B.m i=some b->i<B.n) p(bA:RV p)(M:p.globals.length<=1000000)(S:∀g∈p.globals,g.dn.length<=1000000) aU eV cK d1 cM d2(bh:nH B aU p eV cK d1 cM d2) C A D F w E b2 bI(O:nI B C A D b2)(R:nI B F w E bI)(bu:Int)(ar:0<=bu/\bu<=1000000)(N:Nat)(cj:bu<N):
 ku prog 17 B 0 2 (λ_=>[.pointer (some ⟨aU,0,none⟩),.agg ⟨[.slice C A D,.slice F w E]⟩,.int .i64 bu]) (λ_=>[]) (λπ=>NU (gS p N b2 bI bu) (π 0) (π 1)) (X1 (gS p N b2 bI bu)):=by
 have cN:=aq _ _ bh.m;have s:=bA.right;unfold gy at s;simp only[cA,ed] at s;obtain⟨⟨⟨⟨T,Z⟩,Y⟩,X⟩,XI⟩:=s;obtain⟨n,ak⟩:∃n:Nat,p.data=n:=⟨p.data.toNat,U⟩;unfold gS;generalize G:List.replicate 416000 (0:Int)=iF;have dO:iF.length=416000:=by rw[<-G];exact rz
 have aAt:nd [.int .u8 0] iF.length=fc iF:=by rw[dO,aqx,G]
 clear G;have L:(nV p b2 bI).length=n:=by rw[aqC,ak];rfl
 have aoR:∀{k:Nat} (H:aV),H.n=k->(∀i b,B.m i=some b->H.m i=some b)->bc prog 34 ⟨[cE aU,.agg ⟨[.slice C A D,.slice F w E]⟩]⟩ H (.slice (cV k) (nV p b2 bI).length (nV p b2 bI).length) (H.push ⟨⟨fc (nV p b2 bI)⟩,5⟩):=by
  intro k H aj hu;subst aj;rw[L];exact aDn p X bA.rB M S n ak U aU eV cK d1 cM d2 H (bh.up hu) C A D F w E b2 bI (O.up hu) (R.up hu)
 have J:E1 B aU (cH p N 101) (HN bu (nV p b2 bI) iF) p.fA [] :=
  (aqu B aq p bA aU eV cK d1 cM d2 bh N 101 (HN bu (nV p b2 bI) iF) p.fA [] ⟨⟨alL,by show iF.length<=_;omega,⟨sl _,ar.1⟩,ar.2,Vq,Vq,⟨by show(0:Int)<=0;omega,by show(0:Int)<=101;omega⟩⟩,rfl,dO,ak1,sl _,by show(101:Int)<=0+101;omega,by show(0:Int)<=100;omega,by show bu-0<N;omega⟩ (by rw[T];rfl) (λa aJ=>yU)).1
 unfold E1 at J;generalize nV p b2 bI=Xl at *;generalize cH p N 101 (HN bu Xl iF) p.fA []=r at *;refine ku.i func17 ntmps17 (aqD _) (aqE _) λπ=>?_;refine W.ghost (W.ghost (W.ghost ?_));conv=>arg 2;whnf
 by_cases v:r.2.bb=0
 .have Q:(r.2.bb==0)=true:=by simpa using v
  rw[show HO r={r.2 with exit:=r.1} from au v];repeat(first|refine WZ ?_|apply W.MW;kernel_rfl;(refine hq (λz=>some (Value.bool z)) (?_:_=true);assumption)|apply ad.lT true [];rfl;rfl;rfl;exact ajO;exact hS|refine aoQ ?_|refine anB ?_|refine adE ?_|apply(ad.HG [7,0,1,5,6,2] [0,3,4]);rfl;rfl;exact J;rfl;rfl;exact Vp;intro V u;rw[<-u 7 bo (oJ rfl),<-u 4 bo (oJ rfl)]|refine aoy ?_|refine WX ?_|refine pv ?_|refine RF ?_|refine oq ?_|refine c8 ?_|refine EC ?_|refine ou ?_)
  exact abp
 .have Q:(r.2.bb==0)=false:=by simpa using v
  rw[show HO r=r.2 from ai v];repeat(first|refine WZ ?_|apply W.Hf;kernel_rfl;(refine hq (λz=>some (Value.bool z)) (?_:_=false);assumption)|apply ad.lT true [];rfl;rfl;rfl;exact ajO;exact hS|refine aoQ ?_|refine anB ?_|refine adE ?_|apply(ad.HG [7,0,1,5,6,2] [0,3,4]);rfl;rfl;exact J;rfl;rfl;exact Vp;intro V u;rw[<-u 7 bo (oJ rfl),<-u 4 bo (oJ rfl)]|refine aoy ?_|refine WX ?_|refine pv ?_|refine Ra ?_|refine Hg ?_|refine oq ?_|refine c8 ?_|refine EC ?_|refine ou ?_)
  exact abp
def aDz B(aq:∀i b,B.m i=some b->i<B.n) p(F:p.ok)(v:∀f∈p.funcs,∀b∈f.blocks,∀x∈b.ah,x.args.length<=1000000000)(w:gy p=false) c j u d1 s d2(bh:nH B c p j u d1 s d2) C A D G z E bu:
 ku prog 17 B 0 2 (λ_=>[.pointer (some ⟨c,0,none⟩),.agg ⟨[.slice C A D,.slice G z E]⟩,.int .i64 bu]) (λ_=>[]) (λπ=>NU ae8 (π 0) (π 1)) (X1 ae8):=by
 refine ku.i func17 ntmps17 (aqD _) (aqE _) λπ=>?_;refine W.ghost (W.ghost (W.ghost ?_));conv=>arg 2;whnf
 repeat(first|apply ad.lT true [];rfl;rfl;rfl;exact λH b7=>(show bc _ _ _ H (bm 50) H by have h0:=UU p F v c j u d1 s d2 H (bh.up (pk b7 aq));rw[ai (by rw[w];decide)] at h0;exact h0);exact hS|(with_reducible first|apply ad.move|apply ad.box);iterate 3 rfl|refine iR ?_|refine zn ?_|refine oq ?_|refine c8 ?_|refine CE ?_)
 exact abp
def aDA:∀{l:List cO}{n m:Nat},Ht l n=some m->∀x∈l,x.args.length<=4000:=by
 intro l;induction l with
 | nil=>intro n m _ x aa;cases aa
 | cons a l b =>
  intro n m h x aa;rw[Ht] at h;split at h
  .rename_i aB;rcases dI.1 aa with rfl|aa
   .exact U
   .exact b h x aa
  .exact jh
def aDB:∀{l:List bT}{n m:Nat},CL l n=some m->∀b∈l,b.ah.length<=2000/\∀x∈b.ah,x.args.length<=4000:=by
 intro l;induction l with
 | nil=>intro n m _ x aa;cases aa
 | cons a l d =>
  intro n m h x aa;rw[CL] at h;split at h
  .rename_i aB;have⟨k,J,c⟩:=UH.1 h;rcases dI.1 aa with rfl|aa
   .exact⟨U,aDA J⟩
   .exact d c x aa
  .exact jh
def aDC{f}(h:Nw f=true):f.bZ.length<=4/\∀z∈f.bZ,0<=z/\z<=1000:=by
 unfold Nw at h;have h:=iB.1 h;refine⟨?_,λz a7=>?_⟩
 .rcases aC:f.bZ with _|⟨a,l⟩
  .exact aF
  .have:=h a (by rw[aC];simp);simp[cA,ed] at this;exact aC▸this.2
 .have:=h z a7;simp[cA,ed] at this;exact this.1
def aDD:∀{l:List dp}{n m:Nat},x2 l n=some m->∀f∈l,f.ae<=300/\(f.bZ.length<=4/\∀z∈f.bZ,0<=z/\z<=1000)/\∀b∈f.blocks,b.ah.length<=2000/\∀x∈b.ah,x.args.length<=4000:=by
 intro l;induction l with
 | nil=>intro n m _ x aa;cases aa
 | cons a l d =>
  intro n m h x aa;rw[x2] at h;split at h
  .rename_i aB;have⟨k,J,c⟩:=UH.1 h;rcases dI.1 aa with rfl|aa
   .exact⟨U,aDC aB.2.2.2,aDB J⟩
   .exact d c x aa
  .exact jh
structure C1(p:fX):Prop where
 rB:p.funcs.length<=20
 afb:p.globals.length<=20
 afc:∀g∈p.globals,g.dn.length<=50
 f:∀f∈p.funcs,f.ae<=300/\(f.bZ.length<=4/\∀z∈f.bZ,0<=z/\z<=1000)/\∀b∈f.blocks,b.ah.length<=1000000/\∀x∈b.ah,x.args.length<=4000
def aqF{p}(h:kj p=true):C1 p:=by
 unfold kj at h;simp only[cA,ed] at h;have⟨⟨⟨⟨⟨J,ab⟩,aK⟩,br⟩,cz⟩,gx⟩:=h;have⟨m,hm⟩:=Me.1 gx;refine⟨J,ab,λg bf=>?_,λf ar=>?_⟩
 rotate_left
 .have⟨a,b,c⟩:=aDD hm f ar;exact⟨a,b,λz a7=>⟨by have:=(c z a7).1;omega,(c z a7).2⟩⟩
 have:=iB.1 cz g bf;unfold yX at this;simp[cA,ed] at this;exact this.1.2
def C1.run{p}(h:C1 p)(a:p.ok)(aM:gy p=true):RV p :=
 ⟨a,aM,by have:=h.rB;omega,λf ar=>by have:=(h.f f ar).1;omega,λf ar=>(h.f f ar).2.1.1,λf ar=>(h.f f ar).2.1.2,λf ar b I=>by have:=((h.f f ar).2.2 b I).1;omega,λf ar b I x aa=>by have:=((h.f f ar).2.2 b I).2 x aa;omega⟩
def wZ(p:fX)(N:Nat)(b2 bI:List Int)(bu:Int):c9:=if gy p=true then gS p N b2 bI bu else ae8
def X2 B(w:∀i b,B.m i=some b->i<B.n) p(y:p.ok)(d:C1 p) o s u d1 t d2(bh:nH B o p s u d1 t d2) e c l r a q k j(z:nI B e c l k)(A:nI B r a q j)(bu:Int)(v:0<=bu/\bu<=1000000)(N:Nat)(C:bu<N):
 ku prog 17 B 0 2 (λ_=>[.pointer (some ⟨o,0,none⟩),.agg ⟨[.slice e c l,.slice r a q]⟩,.int .i64 bu]) (λ_=>[]) (λπ=>NU (wZ p N k j bu) (π 0) (π 1)) (X1 (wZ p N k j bu)):=by
 unfold wZ;by_cases aM:gy p=true
 .exact au aM▸aDy B w p (d.run y aM) (by have:=d.afb;omega) (λg bf=>by have:=d.afc g bf;omega) o s u d1 t d2 bh e c l r a q k j z A bu v N C
 .exact ai aM▸aDz B w p y (λf v b I x aa=>by have:=((d.f f v).2.2 b I).2 x aa;omega) ab5 o s u d1 t d2 bh e c l r a q bu
end
abbrev oY:=List qk->Option (List qk×List qk)
def oA:oY:=λC2=>some ([],C2)
def HP(a b:oY):oY:=λC2=>match a C2 with
 | none=>none
 | some (o,r)=>match b r with
  | none=>none
  | some (fD,hV)=>some (o++fD,hV)
def C3(eT:Bool)(k:qk->oY):oY:=λC2=>match C2 with
 | []=>none
 | l::r=>match k l r with
  | none=>none
  | some (o,cu)=>some ((if eT=true then[l] else[])++o,cu)
def lX(gc:Int->oY)(x x':cO):oY :=
 if x.op=26\/x.op=27 then C3 (decide (x'.op=x.op)) λ_=>oA
 else if x.op=28 then gc x.ref
 else if x.op=29 then C3 true λl=>gc (zD l.a)
 else oA
def afd(gc:Int->oY):List cO->List cO->oY
 | x::xs,x'::lj=>HP (lX gc x x') (afd gc xs lj)
 | _,_=>oA
def KE(gc:Int->oY)(bl ef:List bT):Nat->Int->oY
 | 0,_=>oA
 | k+1,bi=>match bl[bi.toNat]?,ef[bi.toNat]? with
  | some b,some b'=>HP (afd gc b.ah b'.ah)
   (if b.av.bp=3 then oA
   else if b.av.bp=1 then KE gc bl ef k b.av.goto
   else C3 (decide (b'.av.bp=2)) λl=>if l.a=1 then KE gc bl ef k b.av.goto else KE gc bl ef k b.av.dx)
  | _,_=>oA
def Fc(p q:fX)(N:Nat):Nat->Int->oY
 | 0,_=>oA
 | d+1,n=>match p.funcs[n.toNat]?,q.funcs[n.toNat]? with
  | some f,some f'=>KE (Fc p q N d) f.blocks f'.blocks N 0
  | _,_=>oA
def fS(g:oY)(a b6 b b':List qk):Prop:=∃n oW,b6=n.reverse++a/\b'=oW.reverse++b/\∀r,g (n++r)=some (oW,r)
def fS.none a b:fS oA a a b b:=⟨[],[],rfl,rfl,λ_=>rfl⟩
def fS.seq{f d a g i b b1 c}(J:fS f a g b b1)(u:fS d g i b1 c):fS (HP f d) a i b c:=by
 obtain⟨m,s,rfl,rfl,t⟩:=J;obtain⟨j,o,rfl,rfl,v⟩:=u;refine⟨m++j,s++o,aF,aF,λr=>?_⟩;rw[HP,pX,t];dsimp only;rw[v]
def fS.one{eT k a b6 b b' l}(h:fS (k l) (l::a) b6 (if eT=true then l::b else b) b'):fS (C3 eT k) a b6 b b':=by
 obtain⟨n,q,rfl,rfl,e⟩:=h;exact⟨l::n,(if eT=true then[l] else[])++q,aF,by cases eT<;>simp,λr=>by simp[C3,BW,e]⟩
def fg(s:c9)(l:List qk):c9:={s with bU:=l}
def NV s l:aX (fg s l)=fg (aX s) l:=by
 unfold aX;by_cases h0:s.bb=0
 .rw[au (show(fg s l).bb=0 from h0),au h0];by_cases J:s.b9>=s.bu
  .rw[au (show(fg s l).b9>=(fg s l).bu from J),au J];rfl
  .rw[ai (show¬(fg s l).b9>=(fg s l).bu from J),ai J];rfl
 .exact alM
def Fe s:(aX s).bU=s.bU:=by
 unfold aX;split
 .split<;>rfl
 .rfl
def ayH s e l:gk (fg s l) e=fg (gk s e) l:=by
 unfold gk;by_cases h0:s.bb=0
 .rw[au (show(fg s l).bb=0 from h0),au h0];rfl
 .exact alM
def aqG s e:(gk s e).bU=s.bU:=Jg
def UQ s{e}(he:e≠0):¬(gk s e).bb=0:=by
 unfold gk;split
 .exact he
 .exact h3
def akl s x l:eE (fg s l) x=fg (eE s x) (x::l):=rfl
def aDE s aI n a l:jA (fg s l) aI n a=((jA s aI n a).1,fg (jA s aI n a).2 (⟨2,aI,0⟩::l)):=by
 unfold jA;by_cases J:my s aI n
 .exact ak2
 .rw[ai (show¬my (fg s l) aI n from J),ai J];by_cases ab:oL s aI n
  .exact akT
  .exact akk
def aqH s aI n a:(jA s aI n a).2.bU=⟨2,aI,0⟩::s.bU:=by
 unfold jA;split
 .rfl
 .split
  .rfl
  .rw[aqG];rfl
def aDF s aI n v l:ox (fg s l) aI n v=fg (ox s aI n v) (⟨3,aI,0⟩::l):=by
 unfold ox;by_cases J:my s aI n
 .exact ak2
 .rw[ai (show¬my (fg s l) aI n from J),ai J];by_cases ab:oL s aI n
  .exact akT
  .exact akk
def aqI s aI n v:(ox s aI n v).bU=⟨3,aI,0⟩::s.bU:=by
 unfold ox;split
 .rfl
 .split
  .rfl
  .rw[aqG];rfl
structure qm(r:Nat)(ae:List Int):Prop where
 len:ae.length=r
 jB:∀v∈ae,b8 v
def qm.set{r ae}(h:qm r ae)d{v}(aE:b8 v):qm r (eR ae d v):=⟨by rw[ya,h.len],EZ h.jB aE⟩
structure X3(p q:fX)(r:Nat)(x x':cO)(qn HQ:List Int->c9->List Int->Prop):Prop where
 call:(x.op=28\/x.op=29)->x'.op=x.op/\x'.dst=x.dst/\x'.ref=x.ref/\x'.args.length=x.args.length/\∀aI s ae,qn aI s ae->qm r ae->bq ae x'.a=bq ae x.a/\iS ae x'.args x.args.length=iS ae x.args x.args.length/\∀s1 v,b8 v->HQ aI s1 (eR ae x.dst v)
 plain:¬(x.op=28\/x.op=29)->∀cl cl' aI s ae l,qn aI s ae->qm r ae->(bX p cl aI s ae x).1.bb=0 ->
  ∃cp,bX q cl' aI (fg s l) ae x'=(fg (bX p cl aI s ae x).1 cp,(bX p cl aI s ae x).2)/\(∀gc,fS (lX gc x x') s.bU (bX p cl aI s ae x).1.bU l cp)/\HQ aI (bX p cl aI s ae x).1 (bX p cl aI s ae x).2
def X4(p q:fX)(N d:Nat):Prop:=∀(s:c9) (n:Int) (args:List Int) (l:List qk),(∀v∈args,b8 v)->lF p n=some (args.length:Int)->(cH p N d s n args).2.bb=0 ->
 b8 (cH p N d s n args).1/\∃cp,cH q N d (fg s l) n args=((cH p N d s n args).1,fg (cH p N d s n args).2 cp)/\fS (Fc p q N d n) s.bU (cH p N d s n args).2.bU l cp
structure ye(p q:fX):Prop where
 fu:q.globals=p.globals
 data:q.data=p.data
 fA:q.fA=p.fA
 len:q.funcs.length=p.funcs.length
 par:∀n,lF q n=lF p n
def aqJ{p cl aI s ae x}(h:x.op=28\/x.op=29):bX p cl aI s ae x=if(aX s).bb=0 then((cl (aX s) ae x).2,eR ae x.dst (cl (aX s) ae x).1) else(aX s,ae):=by
 unfold bX;have ab:e6 x.op=false:=by
  rcases I:e6 x.op with _|_
  .rfl
  .have:=rC.1 I;omega
 rw[ai (show¬(x.op=1\/x.op=2) by omega),ab,ai (show¬(false=true) by decide),ai (show¬x.op=22 by omega),ai (show¬x.op=23 by omega),ai (show¬x.op=24 by omega),ai (show¬x.op=25 by omega),ai (show¬x.op=26 by omega),ai (show¬x.op=27 by omega),ai (show¬x.op=30 by omega)]
def aDG{p f cl aI s ae x r}(aM:qm r ae)(aa:x.ok)(d:iH p f x=true)(n:p.funcs.length<=1000000)(aB:x.op=28\/x.op=29->b8 (cl (aX s) ae x).1):qm r (bX p cl aI s ae x).2:=by
 have c:=zA aM.jB aa.a;refine Kt (Q:=λz=>qm r z.2) (λ_=>aM) (λ_ _=>aM.set _ c) (λ_ _=>aM.set _ (aet c)) (λ_ _=>aM.set _ (NI c)) (λ_ _=>aM.set _ (CV _)) (λ_ _=>aM.set _ (CV _)) (λ_ m=>aM.set _ ?_) (λ_ _=>aM.set _ (aqf _ _ _ _)) (λ_ _=>aM) (λ_ _=>aM) (λ_ l k j g=>aM.set _ (aB ?_))
 .have b:=d;unfold iH at b;simp[cA,ed] at b;have e:=b.2;have i:k0 p f x=(decide (0<=x.dst)&&decide (0<=x.ref)&&decide (x.ref<p.funcs.length)):=by
   rw[k0,ai U,ai U,ai U,ai U,au m]
  rw[i] at e;simp[cA,ed] at e;exact⟨U,U⟩
 .have b:=d;unfold iH at b;simp[cA,ed] at b;exact XX ⟨b.1.1.1.1.1,b.1.1.1.1.2⟩ l k j g
def aDH{p q}(w:ye p q){N d r f}(u:X4 p q N d){x x' qn F}(z:X3 p q r x x' qn F)(aa:x.ok)(B:iH p f x=true)(G:p.funcs.length<=1000000){aI s ae}(y:qn aI s ae)(aM:qm r ae)l(h0:(bX p (dL p (cH p N d)) aI s ae x).1.bb=0):
 qm r (bX p (dL p (cH p N d)) aI s ae x).2/\F aI (bX p (dL p (cH p N d)) aI s ae x).1 (bX p (dL p (cH p N d)) aI s ae x).2/\
  ∃c,bX q (dL q (cH q N d)) aI (fg s l) ae x'=(fg (bX p (dL p (cH p N d)) aI s ae x).1 c,(bX p (dL p (cH p N d)) aI s ae x).2)/\fS (lX (Fc p q N d) x x') s.bU (bX p (dL p (cH p N d)) aI s ae x).1.bU l c:=by
 by_cases aB:x.op=28\/x.op=29
 .have⟨P,Q,O,L,j⟩:=z.call aB;have⟨j,J,H⟩:=j aI s ae y aM;rw[aqJ aB] at h0|-;rw[aqJ U];by_cases aC:(aX s).bb=0
  .rw[au aC] at h0|-;rw[NV,au (show(fg (aX s) l).bb=0 from aC),Q];have m:∀v∈iS ae x.args x.args.length,b8 v:=aqs aM.jB aa.args _;have i:b8 (dL p (cH p N d) (aX s) ae x).1/\∃c,dL q (cH q N d) (fg (aX s) l) ae x'=((dL p (cH p N d) (aX s) ae x).1,fg (dL p (cH p N d) (aX s) ae x).2 c)/\fS (lX (Fc p q N d) x x') s.bU (dL p (cH p N d) (aX s) ae x).2.bU l c:=by
    have h0:(dL p (cH p N d) (aX s) ae x).2.bb=0:=h0;rw[<-Fe s];generalize aX s=t at h0|-;unfold dL at h0|-;rw[lX,ai (show¬(x.op=26\/x.op=27) by omega)];rw[P,O,L,j,J];by_cases g:x.op=29
    .rw[au g] at h0|-;rw[au g,ai (show¬x.op=28 by omega),au g];split at h0
     .exact xy
     .rename_i D;rw[ai D,w.len,ai D,w.par];split at h0
      .rename_i bh;rw[au bh,au bh];have⟨f1,c,e,E⟩:=u (eE t ⟨4,bq ae x.a,0⟩) (zD (bq ae x.a)) (iS ae x.args x.args.length) (⟨4,bq ae x.a,0⟩::l) m VI h0;exact⟨f1,c,by rwa[akl],fS.one (l:=⟨4,bq ae x.a,0⟩) (by rwa[au rfl])⟩
      .exact xy
    .have o:x.op=28:=U;rw[ai g] at h0|-;rw[ai g,au o];have bh:lF p x.ref=some (x.args.length:Int):=by
      have ab:=B;unfold iH at ab;simp[cA,ed] at ab;have C:=ab.2;rw[k0,ai U,ai U,ai U,ai U,ai U,au o] at C;simpa using C
     exact u t x.ref _ l m VI h0
   have⟨A,c,M,K⟩:=i;refine⟨aM.set _ A,H _ _ A,c,?_,K⟩;rw[M]
  .rw[ai aC] at h0;exact MA
 .have⟨c,e,E,R⟩:=z.plain aB (dL p (cH p N d)) (dL q (cH q N d)) aI s ae l y aM h0;exact⟨aDG aM aa B G (λh=>absurd h aB),R,c,e,E _⟩
inductive KF(p q:fX)(r:Nat):(List Int->c9->List Int->Prop)->List cO->List cO->(List Int->c9->List Int->Prop)->Prop
 | nil {qn}:KF p q r qn [] [] qn
 | cons {qn afe aff x x' xs lj} (h:X3 p q r x x' qn afe) (aS:KF p q r afe xs lj aff):KF p q r qn (x::xs) (x'::lj) aff
def aDI{p q}(A:ye p q){N d r f}(u:X4 p q N d)(m:p.funcs.length<=1000000){qn j xs lj}(B:KF p q r qn xs lj j):(∀x∈xs,x.ok/\iH p f x=true)->∀{aI:List Int}{s:c9}{ae:List Int},qn aI s ae->qm r ae->∀(l:List qk),
 (gu (bX p (dL p (cH p N d)) aI) xs s ae).1.bb=0 ->
 qm r (gu (bX p (dL p (cH p N d)) aI) xs s ae).2/\j aI (gu (bX p (dL p (cH p N d)) aI) xs s ae).1 (gu (bX p (dL p (cH p N d)) aI) xs s ae).2/\
  ∃i,gu (bX q (dL q (cH q N d)) aI) lj (fg s l) ae=(fg (gu (bX p (dL p (cH p N d)) aI) xs s ae).1 i,(gu (bX p (dL p (cH p N d)) aI) xs s ae).2)/\fS (afd (Fc p q N d) xs lj) s.bU (gu (bX p (dL p (cH p N d)) aI) xs s ae).1.bU l i:=by
 induction B with
 | nil=>exact λ_ aI s ae c aM l _=>⟨aM,c,l,rfl,fS.none _ _⟩
 | cons h aS D =>
  rename_i qn afe aff x x' xs lj;intro aa aI s ae c aM l h0;rw[gu] at h0|-;by_cases J:(bX p (dL p (cH p N d)) aI s ae x).1.bb=0
  .rw[au J] at h0|-;have⟨z,t,g,C,s1⟩:=aDH A u h (aa x aF).1 (aa x aF).2 m c aM l J;have⟨w,o,v,E,s2⟩:=D (λy aN=>aa y yN) t z g h0;refine⟨w,o,v,?_,s1.seq s2⟩;rw[gu,C];dsimp only;rw[au (show(fg (bX p (dL p (cH p N d)) aI s ae x).1 g).bb=0 from J),E]
  .rw[ai J] at h0;exact absurd h0 J
structure afg(r:Nat)(t b3:kt)(R:List Int->Prop)(E:Nat->List Int->Prop):Prop where
 ret:t.bp=3->b3.bp=3/\∀ae,R ae->qm r ae->bq ae b3.a=bq ae t.a
 jump:t.bp=1->b3.bp=1/\b3.goto=t.goto/\∀ae,R ae->qm r ae->E t.goto.toNat ae
 yes:t.bp=2->∀ae,R ae->qm r ae->nc t.op (bq ae t.a) (bq ae t.b)=true->E t.goto.toNat ae/\((b3.bp=1/\b3.goto=t.goto)\/(b3.bp=2/\b3.goto=t.goto/\nc b3.op (bq ae b3.a) (bq ae b3.b)=true))
 no:t.bp=2->∀ae,R ae->qm r ae->nc t.op (bq ae t.a) (bq ae t.b)=false->E t.dx.toNat ae/\((b3.bp=1/\b3.goto=t.dx)\/(b3.bp=2/\b3.dx=t.dx/\nc b3.op (bq ae b3.a) (bq ae b3.b)=false))
structure aqK(p q:fX)(r:Nat)(b b':bT)(R:List Int->Prop)(E:Nat->List Int->Prop):Prop where
 NW:∃afh qn:List Int->c9->List Int->Prop,(∀aI s ae,R ae->afh aI s ae)/\KF p q r afh b.ah b'.ah qn/\afg r b.av b'.av (λae=>∃aI s,qn aI s ae) E
structure afi(p q:fX)(f f':dp):Prop where
 ae:f'.ae=f.ae
 bZ:f'.bZ=f.bZ
 len:f'.blocks.length=f.blocks.length
 NW:∃E:Nat->List Int->Prop,(∀ae,qm f.ae.toNat ae->E 0 ae)/\∀(i:Nat) (b b':bT),f.blocks[i]?=some b->f'.blocks[i]?=some b'->(∃ae,E i ae)->aqK p q f.ae.toNat b b' (E i) E
def lH(ah:c9->List Int->cO->c9×List Int)(f:dp)(k:Nat)(t:kt)(r:c9×List Int):Int×c9×List Int :=
 if r.1.bb=0 then
  if(aX r.1).bb=0 then
   if t.bp=3 then(bq r.2 t.a,aX r.1,r.2)
   else if t.bp=1 then iI ah f k t.goto (aX r.1) r.2
   else if nc t.op (bq r.2 t.a) (bq r.2 t.b)=true then iI ah f k t.goto (eE (aX r.1) (jN true)) r.2
   else iI ah f k t.dx (eE (aX r.1) (jN false)) r.2
  else(0,aX r.1,r.2)
 else(0,r.1,r.2)
def KG ah f k a s ae(h0:s.bb=0) b(I:f.blocks[a.toNat]?=some b):iI ah f (k+1) a s ae=lH ah f k b.av (gu ah b.ah s ae):=by
 rw[iI,au h0,I];rfl
def aDJ{p q}(R:ye p q){N d r f f'}(O:X4 p q N d)(L:p.funcs.length<=1000000)(Z:f'.blocks.length=f.blocks.length){E}(S:∀(i:Nat) (b b':bT),f.blocks[i]?=some b->f'.blocks[i]?=some b'->(∃ae,E i ae)->aqK p q r b b' (E i) E)(W:∀b∈f.blocks,(∀x∈b.ah,x.ok/\iH p f x=true)/\b.av.ok/\1<=b.av.bp/\b.av.bp<=3)aI:∀(k:Nat) (c:Int) (s:c9) (ae:List Int) (l:List qk),qm r ae->E c.toNat ae->(iI (bX p (dL p (cH p N d)) aI) f k c s ae).2.1.bb=0 ->
 b8 (iI (bX p (dL p (cH p N d)) aI) f k c s ae).1/\∃J,iI (bX q (dL q (cH q N d)) aI) f' k c (fg s l) ae=((iI (bX p (dL p (cH p N d)) aI) f k c s ae).1,fg (iI (bX p (dL p (cH p N d)) aI) f k c s ae).2.1 J,(iI (bX p (dL p (cH p N d)) aI) f k c s ae).2.2)/\
  fS (KE (Fc p q N d) f.blocks f'.blocks k c) s.bU (iI (bX p (dL p (cH p N d)) aI) f k c s ae).2.1.bU l J:=by
 intro k;induction k with
 | zero=>exact λc s ae l _ _ _=>⟨wv,l,rfl,fS.none _ _⟩
 | succ k y =>
  intro c s ae l aM K h0;by_cases aC:s.bb=0
  .rcases I:f.blocks[c.toNat]? with _|b
   .have u:f'.blocks[c.toNat]?=none:=by rw[tj] at I|-;omega
    have v:iI (bX p (dL p (cH p N d)) aI) f (k+1) c s ae=(0,s,ae):=by rw[iI,au aC,I]
    rw[v,(by rw[iI,au (show(fg s l).bb=0 from aC),u]:iI (bX q (dL q (cH q N d)) aI) f' (k+1) c (fg s l) ae=(0,fg s l,ae)),KE,I];exact⟨wv,l,rfl,fS.none _ _⟩
   .have X:=(cS.1 I).1;obtain⟨b',u⟩:∃b',f'.blocks[c.toNat]?=some b':=⟨_,ey U⟩;have⟨V,qn,F,T,B⟩:=(S _ b b' I u ⟨ae,K⟩).NW;have⟨P,Q,Y⟩:=W b (bQ I);rw[KG _ _ _ _ _ _ aC b I] at h0|-;rw[KG _ _ _ _ _ _ (show(fg s l).bb=0 from aC) b' u,KE,I,u];have G:=aDI R O L T P (F aI s ae K) aM l;dsimp only;generalize gu (bX p (dL p (cH p N d)) aI) b.ah s ae=z at h0 G|-;unfold lH at h0|-;by_cases A:z.1.bb=0
    .have⟨g,M,m,v,s1⟩:=G A;rw[v];rw[au A] at h0|-;rw[au (show(fg z.1 m).bb=0 from A),NV];by_cases aS:(aX z.1).bb=0
     .rw[au aS] at h0|-;rw[au (show(fg (aX z.1) m).bb=0 from aS)];have o:=s1;rw[<-Fe z.1] at o;have C:∃aI s,qn aI s z.2:=⟨_,_,M⟩;by_cases t:b.av.bp=3
      .have⟨t1,t2⟩:=B.ret t;rw[au t] at h0|-;rw[au t1,au t,t2 z.2 C g];exact⟨zA g.jB Q.a,m,rfl,o.seq (fS.none _ _)⟩
      .rw[ai t] at h0|-;rw[ai t];by_cases w:b.av.bp=1
       .have⟨t1,t2,t3⟩:=B.jump w;rw[au w] at h0|-;rw[ai (show¬b'.av.bp=3 by omega),au t1,au w,t2];have⟨i1,j,i2,i3⟩:=y b.av.goto (aX z.1) z.2 m g (t3 z.2 C g) h0;exact⟨i1,j,i2,o.seq i3⟩
       .have H:b.av.bp=2:=U;rw[ai w] at h0|-;rw[ai w];by_cases D:nc b.av.op (bq z.2 b.av.a) (bq z.2 b.av.b)=true
        .have⟨t1,t2⟩:=B.yes H z.2 C g D;rw[au D] at h0|-;rcases t2 with⟨t2,t3⟩|⟨t2,t3,t4⟩
         .rw[ai (show¬b'.av.bp=3 by omega),au t2,t3];have⟨i1,j,i2,i3⟩:=y b.av.goto (eE (aX z.1) (jN true)) z.2 m g t1 h0;refine⟨i1,j,i2,o.seq (fS.one (l:=jN true) ?_)⟩;rw[au (show(jN true).a=1 from rfl),ai Vi];exact i3
         .rw[ai (show¬b'.av.bp=3 by omega),ai (show¬b'.av.bp=1 by omega),au t4,t3];have⟨i1,j,i2,i3⟩:=y b.av.goto (eE (aX z.1) (jN true)) z.2 (jN true::m) g t1 h0;refine⟨i1,j,i2,o.seq (fS.one (l:=jN true) ?_)⟩;rw[au (show(jN true).a=1 from rfl),au Vi];exact i3
        .have⟨t1,t2⟩:=B.no H z.2 C g (by simpa using D);rw[ai D] at h0|-;rcases t2 with⟨t2,t3⟩|⟨t2,t3,t4⟩
         .rw[ai (show¬b'.av.bp=3 by omega),au t2,t3];have⟨i1,j,i2,i3⟩:=y b.av.dx (eE (aX z.1) (jN false)) z.2 m g t1 h0;refine⟨i1,j,i2,o.seq (fS.one (l:=jN false) ?_)⟩;rw[ai (show¬(jN false).a=1 by decide),ai Vi];exact i3
         .rw[ai (show¬b'.av.bp=3 by omega),ai (show¬b'.av.bp=1 by omega),ai (by rw[t4];decide),t3];have⟨i1,j,i2,i3⟩:=y b.av.dx (eE (aX z.1) (jN false)) z.2 (jN false::m) g t1 h0;refine⟨i1,j,i2,o.seq (fS.one (l:=jN false) ?_)⟩;rw[ai (show¬(jN false).a=1 by decide),au Vi];exact i3
     .rw[ai aS] at h0;exact absurd h0 aS
    .rw[ai A] at h0;exact absurd h0 A
  .have v:iI (bX p (dL p (cH p N d)) aI) f (k+1) c s ae=(0,s,ae):=by rw[iI,ai aC]
   rw[v] at h0;exact MA
structure C4(p q:fX):Prop extends ye p q where
 rB:p.funcs.length<=1000000
 ok:p.ok
 right:gy p=true
 NW:∀(i:Nat) (f f':dp),p.funcs[i]?=some f->q.funcs[i]?=some f'->afi p q f f'
def C4.func{p q}(h:C4 p q){f}(ar:f∈p.funcs):p5 p f=true:=by
 have:=h.right;unfold gy at this;simp only[cA] at this;exact iB.1 this.2 f ar
def aDK{p q}(h:C4 p q)N:∀d,X4 p q N d:=by
 intro d;induction d with
 | zero=>exact λs n args l _ _ _=>⟨wv,l,rfl,fS.none _ _⟩
 | succ d aP =>
  intro s n args l aJ bh h0;rw[cH] at h0|-;by_cases J:100<s.et+1
  .rw[au J] at h0;exact xy
  .rw[ai J] at h0|-;rw[cH,ai (show¬100<(fg s l).et+1 from J),Fc];rcases ar:p.funcs[n.toNat]? with _|f
   .have fb:q.funcs[n.toNat]?=none:=UX;rw[fb];exact⟨wv,l,rfl,fS.none _ _⟩
   .have ao:=(cS.1 ar).1;obtain⟨f',fb⟩:∃f',q.funcs[n.toNat]?=some f':=⟨_,ey GQ⟩;have q2:=bQ ar;have q3:=h.func q2;unfold p5 at q3;simp only[cA,ed] at q3;have Kv:f.params=(args.length:Int):=by
     unfold lF at bh;split at bh
     .rw[ar] at bh;simpa using bh
     .cases bh
    have⟨E,aDL,cF⟩:=(h.NW _ f f' ar fb).NW;have kU:=h.NW _ f f' ar fb;rw[ar] at h0;rw[fb];dsimp only at h0|-;have KI:jW f' args=jW f args:=by unfold jW;rw[kU.ae]
    have aM:qm f.ae.toNat (jW f args):=by
     refine⟨by unfold jW;simp;omega,λv aE=>?_⟩;unfold jW at aE;rcases ha.1 aE with e|e
     .exact aJ v (by simpa using e)
     .exact(List.mem_replicate.1 e).2▸wv
    have Cq:mf (fg s l) f'=fg (mf s f) l:=by rw[mf,kU.bZ];rfl
    have aQ:∀b∈f.blocks,(∀x∈b.ah,x.ok/\iH p f x=true)/\b.av.ok/\1<=b.av.bp/\b.av.bp<=3:=by
     intro b I;have qo:=iB.1 q3.2 b I;have ht:=(h.ok.funcs f q2).blocks b I;unfold uW at qo;simp only[cA] at qo;have he:=qo.2;unfold lU at he;simp[cA,ed] at he;exact⟨λx aa=>⟨ht.ah x aa,iB.1 qo.1 x aa⟩,ht.av,he.1.1.1.1,he.1.1.1.2⟩
    have⟨i1,cp,i2,i3⟩:=aDJ h.toye aP h.rB kU.len cF aQ (mI s.sp f.bZ f.bZ.length) N 0 (mf s f) (jW f args) l aM (aDL _ aM) h0;refine⟨i1,cp,?_,i3⟩;rw[kU.bZ,KI,Cq,show(fg s l).sp=s.sp from rfl,i2];rfl
def afk{p q}(h:C4 p q)N b2 bI bu(h0:(gS p N b2 bI bu).bb=0):
 ∃cp,gS q N b2 bI bu=fg (gS p N b2 bI bu) cp/\Fc p q N 101 p.fA (gS p N b2 bI bu).bU.reverse=some (cp.reverse,[]):=by
 have hm:lF p p.fA=some 0:=by
  have:=h.right;unfold gy at this;simp[cA,ed] at this;exact this.1.1.1.1
 have g:nV q b2 bI=nV p b2 bI:=ame;unfold gS at h0|-;rw[g,h.fA];generalize gl:HN bu (nV p b2 bI) (List.replicate 416000 0)=st at *;have ao:st.bU=[]:=VR;have J:(cH p N 101 st p.fA []).2.bb=0:=by
  unfold HO at h0;split at h0
  .exact h3
  .exact h0
 have⟨_,cp,e,n,i,g1,g2,g3⟩:=aDK h N 101 st p.fA [] [] (λv aE=>by cases aE) hm J;have c:fg st []=st:=by rw[<-ao];rfl
 rw[c] at e;rw[e];unfold HO;rw[au J,au (show(fg (cH p N 101 st p.fA []).2 cp).bb=0 from J)];refine⟨cp,rfl,?_⟩;show Fc p q N 101 p.fA (cH p N 101 st p.fA []).2.bU.reverse=_;rw[g1,g2,ao];have:=g3 [];simpa using this
def aDN{p q}(h:C4 p q)N b2 bI jm ix bu(h0:(gS p N b2 bI bu).bb=0)(J:(gS p N jm ix bu).bb=0)(ao:(gS p N b2 bI bu).bU=(gS p N jm ix bu).bU):(gS q N b2 bI bu).bU=(gS q N jm ix bu).bU:=by
 have⟨fY,ba,g1⟩:=afk h N b2 bI bu h0;have⟨hh,a1,g2⟩:=afk h N jm ix bu J;rw[ao,g2] at g1;have:fY.reverse=hh.reverse:=akw;rw[ba,a1];exact List.reverse_inj.1 this
def tL(f:cX)(v:Int):Prop:=(f.bp=1/\v=f.n)\/f.bp=2
structure mK(l:List cX)(ae:List Int):Prop where
 len:l.length=ae.length
 aI:∀(i:Nat) (f:cX) (v:Int),l[i]?=some f->ae[i]?=some v->tL f v
def tL.any v:tL kK v:=.inr rfl
def tL.num n:tL (EU n) n:=.inl ⟨rfl,rfl⟩
def tL.le{a b v}(h:tL a v)(ao:CT a b):tL b v:=by
 rcases ao with e|e|e
 .rcases h with⟨h,_⟩|h<;>omega
 .exact .inr e
 .rwa[<-e]
def mK.le{l m ae}(h:mK l ae)(ao:x8 l m):mK m ae:=by
 refine⟨by rw[<-ao.len,h.len],λi f v ar aE=>?_⟩;have ag:=(cS.1 ar).1;have⟨a,aJ⟩:=cR l i (by rwa[ao.len]);exact(h.aI i a v aJ aE).le (ao.le i a f aJ ar)
def mK.set{l ae}(h:mK l ae){f v}(ar:tL f v)d:mK (l.set d f) (ae.set d v):=by
 refine⟨by simp[h.len],λi g w bf hw=>?_⟩;rw[fl] at bf hw;by_cases e:d=i
 .rw[au e] at bf hw;split at bf
  .split at hw
   .injection bf with bf;injection hw with hw;rwa[<-bf,<-hw]
   .cases hw
  .cases bf
 .rw[ai e] at bf hw;exact h.aI i g w bf hw
def mK.of{l ae}(h:mK l ae)a:tL (gH l a) (bq ae a):=by
 unfold gH bq;by_cases aM:a.ck<0
 .rw[au aM,au aM];exact .num _
 .rw[ai aM,ai aM];rcases ao:l[a.ck.toNat]? with _|f
  .exact .any _
  .have ag:=(cS.1 ao).1;have⟨v,aE⟩:=cR ae a.ck.toNat (by rwa[<-h.len]);rw[oG,aE];exact h.aI _ f v ao aE
def Ff{l ae}(h:mK l ae)a:bq ae (ga l a)=bq ae a:=by
 unfold ga;split
 .rename_i aj;rw[(by rw[bq,au (show(-1:Int)<0 by decide)]:bq ae ⟨-1,(gH l a).n⟩=(gH l a).n)];rcases h.of a with⟨_,ab⟩|ab
  .exact ab.symm
  .exact U
 .rfl
def r6(p:fX)(aI:List Int)(ae:List Int)(x:cO):Int :=
 if x.op=1\/x.op=2 then bq ae x.a
 else if e6 x.op=true then(h7 x.op (bq ae x.a) (bq ae x.b)).1
 else if x.op=22 then q8 (bq ae x.a) x.size x.signed
 else if x.op=23 then i64 (i64 (65536+CW p x.ref)+x.off)
 else if x.op=24 then i64 (NM aI x.ref+x.off)
 else 4194304+16*x.ref
def NX{p cl aI s ae x}(bh:vF x.op=true)(h0:(bX p cl aI s ae x).1.bb=0):
 (aX s).bb=0/\bX p cl aI s ae x=(aX s,eR ae x.dst (r6 p aI ae x))/\(e6 x.op=true->(h7 x.op (bq ae x.a) (bq ae x.b)).2=true):=by
 have bh:=CU.1 bh;unfold bX at h0|-;unfold r6;by_cases aC:(aX s).bb=0
 .rw[au aC] at h0|-;refine⟨aC,?_⟩;by_cases e:x.op=1\/x.op=2
  .rw[au e,au e];exact⟨rfl,λh=>Ji⟩
  rw[ai e] at h0|-;rw[ai e];by_cases c:e6 x.op=true
  .rw[au c] at h0|-;rw[au c];by_cases q:(h7 x.op (bq ae x.a) (bq ae x.b)).2=true
   .exact au q▸⟨rfl,λ_=>q⟩
   .rw[ai q] at h0;exact xy
  rw[ai c] at h0|-;rw[ai c];refine⟨?_,λh=>absurd h c⟩;have aS:¬(3<=x.op/\x.op<=21):=λh=>c (rC.2 h);by_cases f:x.op=22
  .rw[au f,au f]
  rw[ai f,ai f];by_cases d:x.op=23
  .rw[au d,au d]
  rw[ai d,ai d];by_cases g:x.op=24
  .rw[au g,au g]
  rw[ai g,ai g,au (show x.op=25 by omega)]
 .rw[ai aC] at h0;exact MA
def tL.two{a b op v w}(f:tL a v)(I:tL b w)(aj:(h7 op v w).2=true):tL (EV op a b) (h7 op v w).1:=by
 unfold EV;split
 .rename_i h;rcases f with⟨_,c⟩|c
  .rcases I with⟨_,d⟩|d
   .rw[c,d] at aj|-;exact au aj▸.num _
   .exact U
  .exact U
 .rename_i J;split
  .rename_i g;rcases f with⟨c,_⟩|c
   .rcases I with⟨d,_⟩|d
    .exact absurd ⟨c,d⟩ J
    .exact U
   .exact U
  .exact .any _
def aqL{p l aI ae x}(h:mK l ae)(bh:vF x.op=true)(aj:e6 x.op=true->(h7 x.op (bq ae x.a) (bq ae x.b)).2=true):tL (lg l x) (r6 p aI ae x):=by
 unfold lg r6;by_cases jx:x.op=1\/x.op=2
 .rw[au jx,au jx];exact h.of _
 rw[ai jx,ai jx];by_cases gX:x.op=22
 .have aS:¬e6 x.op=true:=λh=>Ji;rw[ai aS,ai aS,au gX];rcases h.of x.a with⟨J,ab⟩|J
  .rw[au ⟨gX,J⟩,ab];exact .num _
  .rw[ai U,ai U];exact .any _
 .rw[ai U,ai U];by_cases fD:e6 x.op=true
  .rw[au fD,au fD];exact tL.two (h.of _) (h.of _) (aj fD)
  .exact ai fD▸.any _
def aqM{l x}(bh:26<=x.op):lg l x=kK:=by
 rw[lg,ai U,ai U,ai U,ai (λh=>Ji)]
def afm{l ae x v}(h:mK l ae)(aE:tL (lg l x) v):mK (gz l x) (eR ae x.dst v):=by
 unfold gz eR;by_cases aq:0<=x.dst
 .rw[au aq,au aq];exact h.set aE _
 .rwa[ai aq,ai aq]
def aDO{l ae x}(h:mK l ae)(aa:x.dst=-1):mK (gz l x) ae:=by
 unfold gz;rwa[ai U]
def R1{p q}(bf:q.globals=p.globals){cl cl' aI s ae x x'}(aB:¬(x.op=28\/x.op=29))(dC:1<=x.op/\x.op<=30)l(v:x'.op=x.op)(E:x'.dst=x.dst)(C:x'.size=x.size)(B:x'.signed=x.signed)(y:x'.ref=x.ref)(w:x'.off=x.off)(F:bq ae x'.a=bq ae x.a)(z:bq ae x'.b=bq ae x.b)(h0:(bX p cl aI s ae x).1.bb=0):
 ∃u,bX q cl' aI (fg s l) ae x'=(fg (bX p cl aI s ae x).1 u,(bX p cl aI s ae x).2)/\∀gc,fS (lX gc x x') s.bU (bX p cl aI s ae x).1.bU l u:=by
 have A:CW q x.ref=CW p x.ref:=by unfold CW;rw[bf]
 have key:∀gc,¬(x.op=26\/x.op=27)->fS (lX gc x x') s.bU (aX s).bU l l:=by
  intro gc ak;rw[lX,ai ak,ai U,ai U,Fe];exact Cc
 unfold bX at h0|-;by_cases aC:(aX s).bb=0
 .rw[au aC] at h0|-;rw[NV,au (show(fg (aX s) l).bb=0 from aC),v,E,C,B,y,w,F,z,A];by_cases i:x.op=1\/x.op=2
  .rw[au i,au i];exact Jj
  rw[ai i] at h0|-;rw[ai i];by_cases c:e6 x.op=true
  .have G:=rC.1 c;rw[au c] at h0|-;rw[au c];by_cases q:(h7 x.op (bq ae x.a) (bq ae x.b)).2=true
   .rw[au q,au q];exact Jj
   .rw[ai q] at h0;exact xy
  rw[ai c] at h0|-;rw[ai c];have aS:¬(3<=x.op/\x.op<=21):=λh=>c (rC.2 h);by_cases j:x.op=22
  .rw[au j,au j];exact Jj
  rw[ai j] at h0|-;rw[ai j];by_cases g:x.op=23
  .rw[au g,au g];exact Jj
  rw[ai g] at h0|-;rw[ai g];by_cases o:x.op=24
  .rw[au o,au o];exact Jj
  rw[ai o] at h0|-;rw[ai o];by_cases m:x.op=25
  .rw[au m,au m];exact Jj
  rw[ai m] at h0|-;rw[ai m];have one:∀gc b6,x.op=26\/x.op=27->∀k:qk,b6=k::(aX s).bU->fS (lX gc x x') s.bU b6 l (k::l):=by
   intro gc b6 aH k D;rw[lX,au aH,D,Fe];refine fS.one (l:=k) ?_;rw[au (v▸qE rfl)];exact Cc
  by_cases d:x.op=26
  .rw[au d,au d,aDE];exact⟨_,rfl,λgc=>one gc _ (.inl d) _ (aqH _ _ _ _)⟩
  rw[ai d] at h0|-;rw[ai d];by_cases f:x.op=27
  .rw[au f,au f,aDF];exact⟨_,rfl,λgc=>one gc _ (.inr f) _ (aqI _ _ _ _)⟩
  rw[ai f] at h0|-;rw[ai f];have t:x.op=30:=U;rw[au t] at h0|-;rw[au t];by_cases q:(aX s).out.length=10000
  .rw[au q] at h0;exact xy
  .rw[ai q,ai (show¬(fg (aX s) l).out.length=10000 from q)];exact Jj
 .rw[ai aC] at h0;exact MA
def V0{p q cl cl' aI s ae x x'}(bh:vF x.op=true)(h0:(bX p cl aI s ae x).1.bb=0)l(J:x'.op=1\/x'.op=2)(f:x'.dst=x.dst)(aE:bq ae x'.a=r6 p aI ae x):
 ∃d,bX q cl' aI (fg s l) ae x'=(fg (bX p cl aI s ae x).1 d,(bX p cl aI s ae x).2)/\∀c,fS (lX c x x') s.bU (bX p cl aI s ae x).1.bU l d:=by
 have⟨g,i,_⟩:=NX bh h0;have bh:=CU.1 bh;rw[i];refine⟨l,?_,λc=>?_⟩
 .rw[bX,NV,au (show(fg (aX s) l).bb=0 from g),au J,f,aE]
 .rw[lX,ai U,ai U,ai U];show fS oA s.bU (aX s).bU l l;rw[Fe];exact Cc
def R2{a}(h:b8 a):i64 a=a:=by
 unfold b8 at h;simp only[i64,IntKind.wrap,IntKind.signed,IntKind.bits];simp;omega
def aDP{a}(h:b8 a):i64 ((BitVec.ofInt 64 a).toNat:Int)=a:=by
 unfold b8 at h;simp only[i64,IntKind.wrap,IntKind.signed,IntKind.bits,BitVec.toNat_ofInt];simp;omega
def aqN{a}(h:b8 a):i64 (max (a%18446744073709551616) 0)=a:=by
 unfold b8 at h;simp only[i64,IntKind.wrap,IntKind.signed,IntKind.bits];simp;omega
def afn:X5 0=0:=bo
def aDQ{op a}(aJ:b8 a)(h:op=3\/op=4\/op=11\/op=12\/op=13\/op=14\/op=15):h7 op a 0=(a,true):=by
 rcases h with e|e|e|e|e|e|e<;>subst e<;>simp[h7]
 .simp[R2 aJ]
 .simp[R2 aJ]
 .simp[R3,aqN aJ]
 .simp[R4,aqN aJ]
 .simp[afn,R2 aJ]
 .simp[afn]
 .simp[afn];have:=aDP aJ;unfold u64;unfold b8 at aJ;simp only[i64,IntKind.wrap,IntKind.signed,IntKind.bits];simp;omega
def aDR{op a}(h:op=5\/op=10):h7 op a 0=(0,true):=by
 rcases h with e|e<;>subst e<;>simp[h7,NZ,i64,IntKind.wrap,IntKind.signed,IntKind.bits]
def aDS{op a}(aJ:b8 a)(h:op=5\/op=6\/op=7):h7 op a 1=(a,true):=by
 have hu:i64 (u64 ((u64 a).tdiv (u64 1)))=a:=by
  rw[(bo:u64 1=1),Int.tdiv_one];unfold b8 at aJ;simp only[i64,u64,IntKind.wrap,IntKind.signed,IntKind.bits];simp;omega
 rcases h with e|e|e<;>subst e
 .simp[h7,R2 aJ]
 .simp[h7,Ko,R2 aJ]
 .simp[h7,Ko,hu]
def aDT{p aI ae x}(h:e6 x.op=true):r6 p aI ae x=(h7 x.op (bq ae x.a) (bq ae x.b)).1:=by
 have:=rC.1 h;rw[r6,ai U,au h]
def aDU{p q}(bf:q.globals=p.globals){cl cl' aI s ae x x'}(aM:∀v∈ae,b8 v)(aa:x.ok)(aB:¬(x.op=28\/x.op=29))(dC:1<=x.op/\x.op<=30)l(w:x'.op=x.op)(a1:x'.dst=x.dst)(u:x'.size=x.size)(o:x'.signed=x.signed)(m:x'.ref=x.ref)(j:x'.off=x.off)(y:bq ae x'.a=bq ae x.a)(g:bq ae x'.b=bq ae x.b)(h0:(bX p cl aI s ae x).1.bb=0):
 ∃i,bX q cl' aI (fg s l) ae (wT x')=(fg (bX p cl aI s ae x).1 i,(bX p cl aI s ae x).2)/\∀t,fS (lX t x (wT x')) s.bU (bX p cl aI s ae x).1.bU l i:=by
 have aJ:=zA aM aa.a;have z:=R1 bf (cl':=cl') aB dC l w a1 u o m j y g h0;unfold wT;by_cases J:3<=x'.op/\x'.op<=15/\x'.b.ck<0
 .rw[au J];have⟨g1,g2,g3⟩:=J;have bh:vF x.op=true:=CU.2 U;have I:bq ae x.b=x'.b.num:=by rw[<-g];rw[bq,au g3]
  have aE:=aDT (p:=p) (aI:=aI) (ae:=ae) (rC.2 U:e6 x.op=true);rw[I] at aE;by_cases f:x'.b.num=0/\(x'.op=3\/x'.op=4\/x'.op=11\/x'.op=12\/13<=x'.op)
  .rw[au f];rw[f.1,aDQ aJ U] at aE;exact ama
  .rw[ai f];by_cases d:x'.b.num=0/\(x'.op=5\/x'.op=10)
   .rw[au d];rw[d.1,aDR U] at aE;exact V0 bh h0 l (.inl rfl) a1 (by rw[aE];rfl)
   .rw[ai d];by_cases c:x'.b.num=1/\(x'.op=5\/x'.op=6\/x'.op=7)
    .rw[au c];rw[c.1,aDS aJ U] at aE;exact ama
    .rwa[ai c]
 .rwa[ai J]
def aqO{l ae}(h:mK l ae)c:∀n,iS ae (c.map (ga l)) n=iS ae c n
 | 0=>rfl
 | n+1=>by
  rw[iS,iS,aqO h c n];congr 1;rw[oG,oG,gf];rcases c[n]? with _|a
  .rfl
  .exact Ff h a
def aDV{p q}(bf:q.globals=p.globals){f r l x}(aa:x.ok)(y:iH p f x=true):X3 p q r x (oU l x) (λ_ _ ae=>mK l ae) (λ_ _ ae=>mK (gz l x) ae):=by
 have ab:=y;unfold iH at ab;simp[cA,ed] at ab;have d:=ab.2;refine⟨λaB=>?_,λaB cl cl' aI s ae i c aM h0=>?_⟩
 .have aj:pJ l x={x with a:=ga l x.a,b:=ga l x.b,args:=x.args.map (ga l)}:=by
   rw[pJ,ai (λh=>by have:=CU.1 h.2;omega)]
  have ag:oU l x={x with a:=ga l x.a,b:=ga l x.b,args:=x.args.map (ga l)}:=by
   rw[oU,aj];rw[wT,ai (by show¬(3<=x.op/\x.op<=15/\_);omega)]
  rw[ag];refine⟨rfl,rfl,rfl,aF,λaI s ae c aM=>⟨Ff c _,aqO c _ _,λA v aE=>afm c ?_⟩⟩;rw[aqM U];exact .any _
 .have w:∃j,bX q cl' aI (fg s i) ae (oU l x)=(fg (bX p cl aI s ae x).1 j,(bX p cl aI s ae x).2)/\∀u,fS (lX u x (oU l x)) s.bU (bX p cl aI s ae x).1.bU i j:=by
   unfold oU pJ;by_cases aj:(lS l x).bp=1/\vF x.op=true
   .rw[au aj];have aC:wT (ow 1 x.dst ⟨-1,(lS l x).n⟩)=ow 1 x.dst ⟨-1,(lS l x).n⟩:=by
     rw[wT,ow,ai aF]
    rw[aC];refine V0 aj.2 h0 i (.inl rfl) rfl ?_;have⟨_,_,g3⟩:=NX aj.2 h0;have aE:=aqL (p:=p) (aI:=aI) c aj.2 g3;have aq:0<=x.dst:=by
     have:=aj.1;unfold lS at this;split at this
     .exact h3
     .exact absurd this bo
    have o:=aj.1;unfold lS at o|-;rw[au aq] at o|-;rcases aE with⟨_,e⟩|e
    .exact qH
    .exact U
   .exact ai aj▸aDU bf aM.jB aa aB ⟨ab.1.1.1.1.1,ab.1.1.1.1.2⟩ i rfl rfl rfl rfl rfl rfl (Ff c _) (Ff c _) h0
  have⟨j,m1,m2⟩:=w;refine⟨j,m1,m2,?_⟩;by_cases bh:vF x.op=true
  .have⟨_,g2,g3⟩:=NX bh h0;exact g2▸afm c (aqL c bh g3)
  .have t:26<=x.op:=by
    rcases Int.lt_or_le x.op 26 with h|h
    .exact absurd (CU.2 U) bh
    .exact h
   have g:∀v,mK (gz l x) (eR ae x.dst v):=λv=>afm c (aqM t▸.any _);have m:x.op=27\/x.op=30->mK (gz l x) ae:=by
    refine λh=>aDO c ?_;unfold k0 at d;rcases h with h|h
    .rw[ai U,au h] at d;simp[cA,uq] at d;exact d.1
    .rw[ai U,ai U,ai U,ai U,ai U,ai U,ai U,au h] at d;simpa using d
   refine Kt (Q:=λz=>z.1.bb=0->mK (gz l x) z.2) (λh aw=>absurd aw h) (λ_ h _=>U) (λ_ h _=>Ji) (λ_ h _=>U) (λ_ h _=>U) (λ_ h _=>U) (λ_ h _=>U) (λ_ _ _=>g _) (λ_ h _=>m (.inl h)) (λ_ h _=>m (.inr h)) (λ_ _ _ _ _ _=>g _) h0
def aqQ{p q}(bf:q.globals=p.globals){f r}:∀(xs:List cO) (l:List cX),(∀x∈xs,x.ok/\iH p f x=true)->KF p q r (λ_ _ ae=>mK l ae) xs (zx l xs) (λ_ _ ae=>mK (xs.foldl gz l) ae)
 | [],l,_=>.nil
 | x::xs,l,aa=>.cons (aDV bf (aa x aF).1 (aa x aF).2) (aqQ bf xs (gz l x) λy aN=>aa y yN)
def aDW{r l t E}(m:∀o∈jV t l,∀ae,mK l ae->qm r ae->E o.toNat ae){R}(q:∀ae,R ae->mK l ae):afg r t (n9 l t) R E:=by
 have w:t.bp≠2->n9 l t=q9 l t:=by
  intro h;unfold n9;split
  .rw[ai h]
  .rfl
 have ak:t.bp≠2->jV t l=di t:=by intro h;rw[jV,au h]
 have j:t.bp=2->∀ae,mK l ae->qm r ae ->
  (jV t l=di t/\n9 l t=q9 l t)\/(nc t.op (bq ae t.a) (bq ae t.b)=true/\jV t l=[t.goto]/\n9 l t=rZ t.goto)\/(nc t.op (bq ae t.a) (bq ae t.b)=false/\jV t l=[t.dx]/\n9 l t=rZ t.dx):=by
  intro ab ae c aM;have d:jV t l=(if(gH l t.a).bp≠1\/(gH l t.b).bp≠1 then di t else if nc t.op (gH l t.a).n (gH l t.b).n=true then[t.goto] else[t.dx]):=by
   rw[jV,ai U]
  by_cases aj:(gH l t.a).bp≠1\/(gH l t.b).bp≠1
  .left;rw[au aj] at d;refine⟨d,?_⟩;rw[n9,XP,d,Cb ab]
  .right;rw[ai aj] at d;have x:bq ae t.a=(gH l t.a).n:=by rcases c.of t.a with⟨_,e⟩|e<;>omega
   have I:bq ae t.b=(gH l t.b).n:=by rcases c.of t.b with⟨_,e⟩|e<;>omega
   rw[<-x,<-I] at d;by_cases s:nc t.op (bq ae t.a) (bq ae t.b)=true
   .left;rw[au s] at d;refine⟨s,d,?_⟩;rw[n9,XP,d];dsimp only;rw[au ab]
   .right;rw[ai s] at d;refine⟨by simpa using s,d,?_⟩;rw[n9,XP,d];dsimp only;rw[au ab]
 refine⟨λh=>?_,λh=>?_,λh ae J ab u=>?_,λh ae J ab u=>?_⟩
 .exact w U▸⟨h,λae J _=>Ff (q _ J) _⟩
 .rw[w U];refine⟨h,rfl,λae J ab=>m _ ?_ ae (q _ J) ab⟩;rw[ak U];rw[di,au h];simp
 .have c:=q _ J;rcases j h ae c ab with⟨g,i⟩|⟨g,i,k⟩|⟨g,i,k⟩
  .refine⟨m _ (by rw[g,Cb h];simp) ae c ab,.inr ?_⟩;rw[i];refine⟨h,rfl,?_⟩;show nc t.op (bq ae (ga l t.a)) (bq ae (ga l t.b))=true;rwa[Ff c,Ff c]
  .refine⟨m _ (by rw[i];simp) ae c ab,.inl ?_⟩;exact k▸⟨rfl,rfl⟩
  .rw[u] at g;cases g
 .have c:=q _ J;rcases j h ae c ab with⟨g,i⟩|⟨g,i,k⟩|⟨g,i,k⟩
  .refine⟨m _ (by rw[g,Cb h];simp) ae c ab,.inr ?_⟩;rw[i];refine⟨h,rfl,?_⟩;show nc t.op (bq ae (ga l t.a)) (bq ae (ga l t.b))=false;rwa[Ff c,Ff c]
  .rw[u] at g;cases g
  .refine⟨m _ (by rw[i];simp) ae c ab,.inl ?_⟩;exact k▸⟨rfl,rfl⟩
def N0(f f':dp):Prop:=∃ef,XO f.ae f.blocks ef/\f'={f with blocks:=ef}
def aDX{p q}(bf:q.globals=p.globals){f f'}(q3:p5 p f=true)(N1:f.ok)(aS:im f.blocks)(h:N0 f f'):afi p q f f':=by
 obtain⟨ef,bz,rfl⟩:=h;unfold p5 at q3;simp only[cA,ed] at q3;have⟨aM⟩:=bz;rename_i s;have⟨i,hw⟩:=aep aS aM (RO q3.1.2 f.ae);refine⟨rfl,rfl,Kn _ _ _,λk ae=>s.cm[k]?=some true/\∀l,s.ah[k]?=some l->mK l ae,λae E4=>⟨i.zero,λl ao=>?_⟩,λk b b' I da hex=>?_⟩
 .refine⟨?_,λj g v bf _=>.inr (i.top l ao g (bQ bf))⟩;rw[i.wid 0 l ao i.zero,E4.len]
 .have da:(sA f.blocks s.ah s.cm)[k]?=some b':=da;have⟨b1,l,hg,ao,b5⟩:=aes i da;rw[I] at hg;cases hg;have qo:=iB.1 q3.2 b (bQ I);unfold uW at qo;simp only[cA] at qo;have aa:∀x∈b.ah,x.ok/\iH p f x=true:=λx aa=>⟨(N1.blocks b (bQ I)).ah x aa,iB.1 qo.1 x aa⟩;rcases b5 with⟨aC,e⟩|⟨aC,e⟩
  .subst e;have N2:rY f.blocks s k=b.ah.foldl gz l:=by
    rw[rY,ry,I,ao];rfl
   refine⟨λ_ _ ae=>mK l ae,λ_ _ ae=>mK (b.ah.foldl gz l) ae,λ_ _ ae h=>h.2 l ao,aqQ bf b.ah l aa,?_⟩;refine aDW (λo aH ae ar E4=>?_) λae ⟨_,_,h⟩=>h;rw[<-N2] at aH;have⟨d1,d2⟩:=i.done k b I aC VN o aH;refine⟨d1,λm hm=>?_⟩;rw[<-N2] at ar;exact ar.le (d2 m hm)
  .have⟨ae,he,_⟩:=hex;rw[aC] at he;cases he
def mg(ae:Int)(a:ho):Prop:=-1<=a.ck/\a.ck<ae
def aqR{ae l}:zJ ae l=true↔∀a∈l,mg ae a:=by
 unfold zJ mg;simp[iB,cA,ed]
def aqS{ae}(h0:0<=ae){l a}(h:mg ae a):mg ae (ga l a):=by
 unfold ga;split
 .exact⟨by show(-1:Int)<=-1;omega,by show(-1:Int)<ae;omega⟩
 .exact h
def afo{ae}(h0:0<=ae)n:mg ae ⟨-1,n⟩:=⟨by show(-1:Int)<=-1;omega,by show(-1:Int)<ae;omega⟩
structure rb(p:fX)(f:dp)(x:cO):Prop where
 op:1<=x.op/\x.op<=30
 reads:∀a∈eI x,mg f.ae a
 dst:-1<=x.dst/\x.dst<f.ae
 right:k0 p f x=true
def aDY{p f x}:iH p f x=true↔rb p f x:=by
 unfold iH;simp[cA,ed,aqR];exact⟨λh=>⟨h.1.1.1.1,h.1.1.1.2,⟨h.1.1.2,h.1.2⟩,h.2⟩,λh=>⟨⟨⟨⟨h.op,h.reads⟩,h.dst.1⟩,h.dst.2⟩,h.right⟩⟩
structure Fg(p q:fX):Prop where
 fu:q.globals.length=p.globals.length
 len:q.funcs.length=p.funcs.length
 par:∀n,lF q n=lF p n
def X6{p q}(h:Fg p q){f f'}(aC:f'.bZ.length=f.bZ.length){x x'}(ba:x'.op=x.op)(a1:x'.dst=x.dst)(eh:x'.size=x.size)(iq:x'.ref=x.ref)(nf:x'.args.length=x.args.length):k0 q f' x'=k0 p f x:=by
 unfold k0;rw[ba,a1,eh,iq,nf,h.fu,h.len,h.par,aC]
def aDZ l x:eI {x with a:=ga l x.a,b:=ga l x.b,args:=x.args.map (ga l)}=(eI x).map (ga l):=by
 unfold eI;dsimp only;repeat' split
 all_goals rfl
def X7{p f x}(h:(1<=x.op/\x.op<=21)):k0 p f x=decide (0<=x.dst):=by
 rw[k0,ai U,ai U,ai U,ai U,ai U,ai U,ai U,ai U]
def R5{q f' op dst a}(aH:op=1\/op=2)(h0:0<=dst)(J:dst<f'.ae)(c:mg f'.ae a):rb q f' (ow op dst a):=by
 refine⟨by show 1<=op/\op<=30;omega,λb I=>?_,⟨by show -1<=dst;omega,J⟩,?_⟩
 .have:eI (ow op dst a)=[a]:=by
   unfold eI ow;dsimp only;rw[ai U,ai U,ai (λh=>by
    rcases h with h|h
    .exact Ji
    .omega),ai U]
  rw[this] at I;rwa[gU.1 I]
 .rw[X7 (by show 1<=op/\op<=21;omega)];exact qE h0
def aD0{q f' x}(h:rb q f' x)(aM:0<=f'.ae):rb q f' (wT x):=by
 unfold wT;split
 .rename_i J;have aq:0<=x.dst:=by
   have:=h.right;rw[X7 U] at this;simpa using this
  have aJ:mg f'.ae x.a:=by
   refine h.reads x.a ?_;rw[eI,ai U,ai U,au (.inl (rC.2 U))];simp
  split
  .exact R5 (.inr rfl) aq h.dst.2 aJ
  .split
   .exact R5 (.inl rfl) aq h.dst.2 (afo aM _)
   .split
    .exact R5 (.inr rfl) aq h.dst.2 aJ
    .exact h
 .exact h
def aD1{p q}(eM:Fg p q){f f'}(aC:f'.bZ.length=f.bZ.length)(bf:f'.ae=f.ae)(aM:0<=f.ae){x}(h:rb p f x)l:rb q f' (oU l x):=by
 unfold oU;refine aD0 ?_ U;unfold pJ;split
 .rename_i aj;have aq:0<=x.dst:=by
   have:=aj.1;unfold lS at this;split at this
   .exact h3
   .exact absurd this bo
  exact R5 (.inl rfl) aq (bf▸h.dst.2) (afo U _)
 .refine⟨h.op,λa aJ=>?_,⟨h.dst.1,bf▸h.dst.2⟩,(X6 (x:=x) (x':={x with a:=ga l x.a,b:=ga l x.b,args:=x.args.map (ga l)}) eM aC rfl rfl rfl rfl aF).trans h.right⟩
  .rw[aDZ] at aJ;obtain⟨b,I,rfl⟩:=ih.1 aJ;exact bf▸aqS aM (h.reads b I)
def X8{p q}(a:Fg p q){f f'}(aC:f'.bZ.length=f.bZ.length)(bf:f'.ae=f.ae){x}(h:rb p f x):rb q f' x :=
 ⟨h.op,bf▸h.reads,bf▸h.dst,X6 a aC rfl rfl rfl rfl rfl▸h.right⟩
structure X9(f:dp)(n:Nat)(t:kt):Prop where
 bp:1<=t.bp/\t.bp<=3
 reads:∀a∈e2 t,mg f.ae a
 op:t.bp=2->16<=t.op/\t.op<=21
 next:∀o∈di t,0<=o/\o<n
def aD2{f t}:lU f t=true↔X9 f f.blocks.length t:=by
 unfold lU tJ;simp[cA,ed,aqR,iB,l3,mV,beq_eq_false_iff_ne,ne_eq];constructor
 .rintro⟨⟨⟨J,c⟩,a⟩,b⟩;refine⟨J,c,λaj=>?_,b⟩;rcases a with a|a
  .exact absurd aj a
  .exact a
 .refine λh=>⟨⟨⟨h.bp,h.reads⟩,?_⟩,h.next⟩;by_cases aj:t.bp=2
  .exact .inr (h.op aj)
  .exact .inl aj
def aD3{f f' n yc}(ak:yc=n)(bf:f'.ae=f.ae)(aM:0<=f.ae){t}(h:X9 f n t)l:X9 f' yc (n9 l t):=by
 have lQ:∀o∈di (n9 l t),0<=o/\o<(yc:Int):=λo aH=>ak▸h.next o (NH o (aB5 o aH));have mZ:∀a∈e2 (q9 l t),mg f'.ae a:=by
  intro a aJ;have e:e2 (q9 l t)=(e2 t).map (ga l):=by
   unfold e2 q9;dsimp only;repeat' split
   all_goals rfl
  rw[e] at aJ;obtain⟨b,I,rfl⟩:=ih.1 aJ;exact bf▸aqS aM (h.reads b I)
 have vJ:n9 l t=q9 l t\/∃k,n9 l t=rZ k:=by
  unfold n9;split
  .split
   .exact .inr ⟨_,rfl⟩
   .exact xG
  .exact xG
 rcases vJ with e|⟨k,e⟩
 .exact(λe=>⟨e▸h.bp,by rwa[e],e▸h.op,lQ⟩) e
 .refine⟨e▸⟨by show(1:Int)<=1;decide,by show(1:Int)<=3;decide⟩,λa aJ=>?_,λaj=>?_,lQ⟩
  .rw[e] at aJ;exact absurd aJ (by unfold e2 rZ;simp)
  .rw[e] at aj;exact absurd aj (show¬(1:Int)=2 by decide)
structure pL(p:fX)(f:dp):Prop where
 params:0<=f.params/\f.params<=f.ae/\f.params<=6
 hO:(f.hO:Int)=f.params
 pos:0<f.blocks.length
 ah:∀b∈f.blocks,∀x∈b.ah,rb p f x
 av:∀b∈f.blocks,X9 f f.blocks.length b.av
def aqT{p f}:p5 p f=true↔pL p f:=by
 unfold p5 uW;simp[cA,ed,iB,aDY,aD2];exact⟨λh=>⟨⟨h.1.1.1.1.1,h.1.1.1.1.2,h.1.1.1.2⟩,h.1.1.2,h.1.2,λb I=>(h.2 b I).1,λb I=>(h.2 b I).2⟩,λh=>⟨⟨⟨⟨⟨h.params.1,h.params.2.1⟩,h.params.2.2⟩,h.hO⟩,h.pos⟩,λb I=>⟨h.ah b I,h.av b I⟩⟩⟩
def aD4{p q}(eM:Fg p q){f f'}(h:pL p f)(aS:im f.blocks)(bz:N0 f f'):pL q f':=by
 obtain⟨ef,cZ,rfl⟩:=bz;have⟨aM⟩:=cZ;rename_i s;have⟨i,hw⟩:=aep aS aM (RO h.pos f.ae);have aqU:0<=f.ae:=by have:=h.params;omega
 have e7:∀b'∈sA f.blocks s.ah s.cm,∃b∈f.blocks,b'=b\/∃l,b'=HA l b:=by
  intro b' da;have⟨k,aj⟩:=nO.1 da;have⟨b,l,I,ao,b5⟩:=aes i aj;exact⟨b,bQ I,by
   rcases b5 with⟨_,e⟩|⟨_,e⟩
   .exact .inr ⟨l,e⟩
   .exact .inl e⟩
 refine⟨h.params,h.hO,by show 0<(sA f.blocks s.ah s.cm).length;rw[Kn];exact h.pos,λb' da x aa=>?_,λb' da=>?_⟩
 .have⟨b,I,b5⟩:=e7 b' da;rcases b5 with e|⟨l,e⟩
  .subst e;exact X8 (f:=f) (f':={f with blocks:=sA f.blocks s.ah s.cm}) eM rfl rfl (h.ah _ I x aa)
  .subst e;obtain⟨x0,aD5,m,_,rfl⟩:=ap6 aa;exact aD1 (f:=f) (f':={f with blocks:=sA f.blocks s.ah s.cm}) eM rfl rfl aqU (h.ah b I x0 aD5) m
 .have⟨b,I,b5⟩:=e7 b' da;rcases b5 with e|⟨l,e⟩
  .subst e;have:=h.av _ I;exact⟨this.bp,this.reads,this.op,by rw[show({f with blocks:=sA f.blocks s.ah s.cm}:dp).blocks.length=f.blocks.length from Kn _ _ _];exact this.next⟩
  .subst e;exact aD3 (f:=f) (f':={f with blocks:=sA f.blocks s.ah s.cm}) (show(sA f.blocks s.ah s.cm).length=f.blocks.length from Kn _ _ _) rfl aqU (h.av b I) _
structure tM(R:dp->dp->Prop)(p q:fX):Prop where
 fu:q.globals=p.globals
 data:q.data=p.data
 fA:q.fA=p.fA
 len:q.funcs.length=p.funcs.length
 rel:∀(i:Nat) (f f':dp),p.funcs[i]?=some f->q.funcs[i]?=some f'->R f f'
def tM.dB{R p q}(h:tM R p q)(bh:∀f f',R f f'->f'.params=f.params):ye p q:=by
 refine⟨h.fu,h.data,h.fA,h.len,λn=>?_⟩;unfold lF;split
 .rcases ar:p.funcs[n.toNat]? with _|f
  .have fb:q.funcs[n.toNat]?=none:=UX;rw[fb]
  .have ao:=(cS.1 ar).1;obtain⟨f',fb⟩:∃f',q.funcs[n.toNat]?=some f':=⟨_,ey GQ⟩;rw[fb];simp[iW,bh f f' (h.rel _ f f' ar fb)]
 .rfl
def ye.afp{p q}(h:ye p q):Fg p q:=⟨by rw[h.fu],h.len,h.par⟩
def aD6{p q}(h:ye p q)g:sX q g=sX p g:=by
 unfold sX;rw[h.data,h.len]
def afq{R p q}(h:tM R p q)(cZ:ye p q)(aM:gy p=true)(bA:∀f f',f∈p.funcs->R f f'->pL p f->pL q f'):gy q=true:=by
 unfold gy at aM|-;simp[cA,ed,iB,aqT] at aM|-;have⟨⟨⟨⟨J,ab⟩,aK⟩,br⟩,cz⟩:=aM;refine⟨⟨⟨⟨by rwa[h.fA,cZ.par],by rwa[h.data]⟩,by rwa[h.data]⟩,λg bf=>?_⟩,λf' fb=>?_⟩
 .rw[h.fu] at bf;rw[aD6 cZ];exact br g bf
 .have⟨k,aj⟩:=nO.1 fb;have ao:=(cS.1 aj).1;have⟨f,ar⟩:=cR p.funcs k GQ;have hm:=bQ ar;exact bA f f' hm (h.rel k f f' ar aj) (cz f hm)
def aD7{p q}(h:tM N0 p q)(aQ:p.ok)(aM:gy p=true)(wR:p.funcs.length<=1000000)(aS:∀f∈p.funcs,im f.blocks):C4 p q/\gy q=true:=by
 have cZ:=h.dB λf f' ⟨bl,_,e⟩=>Jx;refine⟨⟨cZ,wR,aQ,aM,λi f f' ar fb=>?_⟩,afq h cZ aM λf f' ar bA bz=>aD4 cZ.afp bz (aS f ar) bA⟩;have hm:=bQ ar;have q3:p5 p f=true:=by
  have:=aM;unfold gy at this;simp only[cA] at this;exact iB.1 this.2 f hm
 exact aDX cZ.fu q3 (aQ.funcs f hm) (aS f hm) (h.rel i f f' ar fb)
def mL(bl:List bT):Nat:=(bl.map λb=>b.ah.length+1).sum
end Go.Proofs.YtplleokmejppjaaGreatDoor
