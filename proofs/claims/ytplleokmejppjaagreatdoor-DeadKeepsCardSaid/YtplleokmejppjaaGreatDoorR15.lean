/- Contracts of functions that the law reaches -/
import Derived.Test.YtplleokmejppjaaGreatDoorR14
set_option linter.all false
set_option maxHeartbeats 9999999
set_option maxRecDepth 100000
namespace Go.Proofs.YtplleokmejppjaaGreatDoor
open Go.Proofs.Tryz
open Go.AH
section
attribute[local irreducible] W ad
def Kw(z:Int):Int:=IntKind.i64.wrap ((BitVec.ofInt IntKind.i64.bits (IntKind.i64.wrap ((if 0>z then 0 else z)+7))&&&~~~(BitVec.ofInt IntKind.i64.bits 7)).toNat:Int)
def A8(sp:Int)(gK:List Int):Nat->Int
 | 0=>sp
 | i+1=>IntKind.i64.wrap (A8 sp gK i-Kw (gK.getD i 0))
def mI(sp:Int)(gK:List Int):Nat->List Int
 | 0=>[]
 | i+1=>A8 sp gK (i+1)::mI sp gK i
def aeJ a b:∀i,(mI a b i).length=i:=by
 intro i;induction i with
 | zero=>rfl
 | succ i c=>rw[mI,e5,c]
def jW(f:dp)(args:List Int):List Int:=args.reverse++List.replicate (f.ae.toNat-args.length) 0
def aCX:∀(vs cs:List Value) (i:Nat),vs.length+i<=cs.length->eB cs i vs=cs.take i++vs++cs.drop (i+vs.length):=by
 intro vs;induction vs with
 | nil=>intro cs i h;rw[u1];simp
 | cons v vs a =>
  intro cs i h;simp[e5] at h;rw[wV,a _ _ jf];have e:List.take (i+1) (cs.set i v)=List.take i cs++[v]:=by
   rw[Aw,List.take_set_of_le U];simp[fl];omega
  rw[e,List.drop_set_of_lt U];simp[PX,Mf 1]
def aCY{f:dp}{args}{n:Nat}(ak:f.ae=n)(a:args.length<=n):eB (nd [.int .i64 0] n) 0 (ql jI args)=xV (jW f args):=by
 rw[aeK,aeE,aCX _ _ _ jf];rw[jW,xV,ak];simp
def aCZ(aU aR bR m:Nat)(s:c9)(args ae aI:List Int)(π:Nat->Nat):List (Nat×Option cd):=[(0,some ⟨⟨r0 aU s (π 1) (π 2) (π 3) (π 4)⟩,88⟩),(1,gQ jI 2 s.out),(2,gQ kV 91 s.bU),(3,some ⟨⟨fc s.data⟩,5⟩),(4,some ⟨⟨fc s.stack⟩,5⟩),(5,gQ jI 2 args),(6,some ⟨⟨xV ae⟩,2⟩),(7,some ⟨⟨[.pointer (some ⟨aR,bR,none⟩),(.slice (some ⟨π 6,0,none⟩) m m),cD 1 (π 8) aI]⟩,113⟩),(8,gQ jI 2 aI)]
def aqn{n K d}s args(bh:d<n)(g:6<=K):zy n K (Ku d s args) 6:=by
 refine⟨HD (λa v aE=>?_) args,Kp s bh U⟩;simp[jI,dI,jP,j6] at aE;subst aE;simp
def aeL(B:aV)(aU aR bR:Nat)(s:c9)(ae aI:List Int)(r:Int×c9×List Int):Prop :=
 gR prog 56 B 8 [0,3,4,5,6] (λπ=>[.pointer (some ⟨π 0,0,none⟩),.pointer (some ⟨π 5,0,none⟩)]) (hp aU aR bR s ae aI) (.int .i64 r.1) (hp aU aR bR r.2.1 r.2.2 aI)
def aqo{f:dp}{args}{n:Nat}(ak:f.ae=n)(a:args.length<=n):(jW f args).length=n:=by
 unfold jW;simp[ak];omega
def mf(s:c9)(f:dp):c9:={s with et:=s.et+1,sp:=A8 s.sp f.bZ f.bZ.length}
def aC0 args:(ql jI args).all (·.oneCell')=true:=by
 rw[aeE,List.all_map,iB];intro _ _;rfl
def aC1 B(aq:∀i b,B.m i=some b->i<B.n) p c(M:c<B.n) eV N d1 cM d2(bh:nH B c p eV N d1 cM d2) s(aqp:0<=s.et/\s.et+1<=100)(u:Nat) n(ak:n=(u:Int))(NQ:u<p.funcs.length) args A go(R:N=some ⟨A,go,none⟩) f J fk Y aW D Q Z bn(bz:B.m A=some ⟨⟨J⟩,fk⟩)(gh:A<B.n)(F:cr (go+u*6) 6 J=dj f Y aW D Q Z bn)(cZ:c0 B D 1 f.bZ CP)(fQ:f.bZ.length<=1000000)(m:Nat)(hm:f.ae=(m:Int))(Kf:m<=1000000)(C:args.length<=m) r(E2:¬A8 s.sp f.bZ f.bZ.length<134217728-(s.stack.length:Int))(wX:s.stack.length<=1000000)(V:aeL B c A (go+u*6) (mf s f) (jW f args) (mI s.sp f.bZ f.bZ.length) r)(kv:0<=r.2.1.et/\r.2.1.et<=101):
 gR prog 35 B 6 [0,3,4] (λπ=>[.pointer (some ⟨π 0,0,none⟩),.int .i64 n,cD 1 (π 5) args]) (Ku c s args) (.int .i64 r.1) (Ku c {r.2.1 with sp:=s.sp,et:=r.2.1.et-1} args):=by
 subst R;refine gR.i func35 ntmps35 (λπ=>⟨⟨_,rfl⟩,⟨_,rfl⟩,⟨_,rfl⟩,ew⟩) (aqn _ _ M U) aF λπ=>?_;conv=>arg 2;whnf
 repeat(first|(apply ad.dv;rfl;rfl;rfl;first|exact bh.m;exact M;rfl|exact bz;exact gh;(first|exact ka F rfl|exact ka F rfl))|apply ad.qf;(iterate 4 rfl);exact ak;exact NQ|apply(ad.makeSlice (cs:=nd [bm 0] m));rfl;rfl;exact ajZ;exact ajZ;rfl;rfl;(constructor<;>omega);rfl|apply(ad.aC2 (l0:=args) (cs':=xV (jW f args)));(iterate 8 rfl);exact λ_=>rfl;exact C;(rw[aeK,rz];omega);exact aC0 args;exact aCY hm C|refine M6 ?_|refine hL ?_|refine jH ?_|refine zq ?_|refine c8 ?_|refine zf ?_|refine ou ?_)
 refine W.ghost ?_;refine W.A7 (X:=Nat) (λπ i=>[(0,cE (π 0)),(7,cE (π 7)),(8,bm s.sp),(65,.slice D f.bZ.length Q),(66,bm f.bZ.length),(67,bm i)]) (λ_=>B) (λπ i=>aCZ c A (go+u*6) m {s with et:=s.et+1,sp:=A8 s.sp f.bZ i} args (jW f args) (mI s.sp f.bZ i) π) (λG i=>x9 G π 6/\i<=f.bZ.length) (λi=>f.bZ.length-i) [0,1,2,3,4,5,6,7,8] 0 ⟨⟨rfl,rfl,rfl,rfl,rfl,rfl,ew⟩,dG _⟩ kD ?_;rintro G i ⟨O,bd⟩;dsimp only at bd|-;by_cases bs:i<f.bZ.length
 .have bf:f.bZ[i]?=some (f.bZ.getD i 0):=aa9;obtain⟨I,aH,pB,ge,rfl,L,n5,T⟩:=cZ.get _ _ bf;repeat(first|apply ad.dv;rfl;rfl;rfl;exact L;exact aq _ _ L;exact ka (j:=0) T rfl|refine er ?_|refine gP ?_|refine qi ?_|refine la ?_|refine k7 ?_|refine Nu ?_|refine kW ?_|apply ad.aeM;iterate 4 rfl|apply(ad.Hl (w:=jI) (l0:=mI s.sp f.bZ i) (q:=A8 s.sp f.bZ (i+1)));(iterate 11 rfl);exact iu;exact λ_=>rfl;rfl;(rw[aeJ];omega);(rw[aeJ];omega))
  exact D9 (i+1) [0,1,2,3,4,5,6,7,10] rfl rfl ⟨O,U⟩ U kD
 .have S:i=f.bZ.length:=U;subst S;repeat(first|apply ad.Wz;(iterate 5 rfl);(dsimp only;omega)|apply(ad.HG [0,1,2,3,4,7,6,8] [0,3,4,5,6]);rfl;rfl;exact V;rfl;rfl;exact⟨rfl,rfl,rfl,rfl,rfl,UK (aqo hm C),rfl,rfl,ew⟩;intro fE E;rw[<-E 0 bo (oJ rfl)]|refine kJ ?_|refine hL ?_|refine jH ?_|refine Nu ?_|refine lB ?_|refine AV ?_|(with_reducible first|apply W.seq|apply W.exit|apply W.ret|apply W.skip|apply fr|apply mC|apply Nc))
  exact cf _ (dt rfl) (by(refine ss.mk [0,1,2,3,4,5] rfl rfl rfl ?_ ?_ rfl<;>(repeat'(first|exact p3|exact rfl|exact(E _ bo (oJ rfl)).trans (O.get bo)|apply And.intro));done))
def gu(ah:c9->List Int->cO->c9×List Int):List cO->c9->List Int->c9×List Int
 | [],s,ae=>(s,ae)
 | x::l,s,ae=>if(ah s ae x).1.bb=0 then gu ah l (ah s ae x).1 (ah s ae x).2 else ah s ae x
def jN(yes:Bool):qk:=⟨1,if yes=true then 1 else 0,0⟩
def iI(ah:c9->List Int->cO->c9×List Int)(f:dp):Nat->Int->c9->List Int->Int×c9×List Int
 | 0,_,s,ae=>(0,s,ae)
 | k+1,bi,s,ae =>
  if s.bb=0 then
   match f.blocks[bi.toNat]? with
   | none=>(0,s,ae)
   | some b =>
    if(gu ah b.ah s ae).1.bb=0 then
     if(aX (gu ah b.ah s ae).1).bb=0 then
      if b.av.bp=3 then(bq (gu ah b.ah s ae).2 b.av.a,aX (gu ah b.ah s ae).1,(gu ah b.ah s ae).2)
      else if b.av.bp=1 then iI ah f k b.av.goto (aX (gu ah b.ah s ae).1) (gu ah b.ah s ae).2
      else if nc b.av.op (bq (gu ah b.ah s ae).2 b.av.a) (bq (gu ah b.ah s ae).2 b.av.b)=true then iI ah f k b.av.goto (eE (aX (gu ah b.ah s ae).1) (jN true)) (gu ah b.ah s ae).2
      else iI ah f k b.av.dx (eE (aX (gu ah b.ah s ae).1) (jN false)) (gu ah b.ah s ae).2
     else(0,aX (gu ah b.ah s ae).1,(gu ah b.ah s ae).2)
    else(0,(gu ah b.ah s ae).1,(gu ah b.ah s ae).2)
  else(0,s,ae)
structure l7(s s':c9):Prop where
 bu:s'.bu=s.bu
 b9:s.b9<=s'.b9
 et:(s'.et=s.et/\(¬s.bb=0->¬s'.bb=0))\/(s.bb=0/\¬s'.bb=0/\s'.et=s.et+1)
 sp:s'.sp=s.sp
 stack:s'.stack.length=s.stack.length
 data:s'.data.length=s.data.length
def l7.refl s:l7 s s:=⟨rfl,U,.inl ⟨rfl,id⟩,rfl,rfl,rfl⟩
def l7.trans{a b c}(h:l7 a b)(g:l7 b c):l7 a c:=⟨g.bu.trans h.bu,by have:=h.b9;have:=g.b9;omega,by
 rcases h.et with⟨J,e⟩|⟨J,e,j⟩<;>rcases g.et with⟨d,f⟩|⟨d,f,i⟩
 .exact .inl ⟨d.trans J,λh=>f (e h)⟩
 .exact .inr ⟨aaW λaB=>e aB d,f,by rw[i,J]⟩
 .exact .inr ⟨J,f e,by rw[d,j]⟩
 .exact absurd d e,g.sp.trans h.sp,g.stack.trans h.stack,g.data.trans h.data⟩
def Kx s:l7 s (aX s):=by
 unfold aX;split
 .split
  .exact⟨rfl,Ml,.inl ⟨rfl,λ_=>by show¬(42:Int)=0;omega⟩,rfl,rfl,rfl⟩
  .exact⟨rfl,by show s.b9<=s.b9+1;omega,.inl ⟨rfl,id⟩,rfl,rfl,rfl⟩
 .exact l7.refl s
def D7 s q:l7 s (eE s q):=⟨rfl,Ml,.inl ⟨rfl,id⟩,rfl,rfl,rfl⟩
def VK s e(he:¬e=0):l7 s (gk s e):=by
 unfold gk;split
 .exact⟨rfl,Ml,.inl ⟨rfl,λ_=>he⟩,rfl,rfl,rfl⟩
 .exact l7.refl s
def E3{s}(h:(aX s).bb=0):(aX s).b9=s.b9+1/\s.bb=0/\s.b9<s.bu:=by
 unfold aX at h|-;split at h
 .split at h
  .exact absurd (show(42:Int)=0 from h) bo
  .rw[au ‹_›,ai ‹_›];exact⟨rfl,‹_›,U⟩
 .exact absurd h ‹_›
structure Good(f:dp)(s:c9)(ae:List Int):Prop where
 dE:s.dE
 len:(ae.length:Int)=f.ae
 jB:∀r∈ae,b8 r
structure aqq(B:aV)(aU aR bR:Nat)(aI:List Int)(f:dp)(lh:c9->Prop)(ah:c9->List Int->cO->c9×List Int)(x:cO):Prop where
 aeN:∀s ae,Good f s ae->lh s->∀bN cq c1 eH A c,B.m bN=some ⟨⟨c1⟩,eH⟩->cq+12<=c1.length->cr cq 12 c1=cL x A c->c0 B A 2 x.args kL ->
  gR prog 78 B 8 [0,3,4,5,6] (λπ=>[.pointer (some ⟨π 0,0,none⟩),.pointer (some ⟨π 5,0,none⟩),.pointer (some ⟨bN,cq,none⟩)]) (hp aU aR bR s ae aI) (.bool ((ah s ae x).1.bb==0)) (hp aU aR bR (ah s ae x).1 (ah s ae x).2 aI)
 gj:∀s ae,Good f s ae->lh s->Good f (ah s ae x).1 (ah s ae x).2
 l8:∀s ae,Good f s ae->lh s->l7 s (ah s ae x).1
def aC3 B(aq:∀i b,B.m i=some b->i<B.n) aU(cN:aU<B.n) T V f dS fk jS aW jk aT jK bn(bz:B.m T=some ⟨⟨dS⟩,fk⟩)(gh:T<B.n)(ks:cr V 6 dS=dj f jS aW jk aT jK bn)(rG:f.ae<=1000000000)(aeO:c0 B jK 9 f.blocks (yb B)) aI Q(aQ:∀s s',Q s->l7 s s'->Q s') ah(nr:∀b∈f.blocks,∀x∈b.ah,aqq B aU T V aI f Q ah x)(aC4:∀b∈f.blocks,lU f b.av=true)(lR:∀b∈f.blocks,b.ah.length<=1000000000)(dR:0<f.blocks.length)(k:Nat) s ae(bf:Good f s ae)(aeP:Q s)(aj:s.bu-s.b9<k):aeL B aU T V s ae aI (iI ah f k 0 s ae):=by
 unfold aeL;generalize A9:iI ah f k 0 s ae=R;refine gR.i func56 ntmps56 (λπ=>⟨⟨_,rfl⟩,⟨_,rfl⟩,⟨_,rfl⟩,⟨_,rfl⟩,⟨_,rfl⟩,ew⟩) (r2 _ _ _ cN gh U) aF λπ=>?_;conv=>arg 2;whnf
 repeat(first|refine JT ?_|refine mc ?_)
 refine W.A7 (X:=Nat×Int×c9×List Int) (λπ y=>[(0,cE (π 0)),(1,cE (π 5)),(5,bm y.2.1)]) (λ_=>B) (λπ y=>hp aU T V y.2.2.1 y.2.2.2 aI π) (λdq y=>HH dq π [0,3,4,5,6]/\Good f y.2.2.1 y.2.2.2/\Q y.2.2.1/\(0<=y.2.1/\y.2.1<f.blocks.length)/\y.2.2.1.bu-y.2.2.1.b9<y.1/\iI ah f y.1 y.2.1 y.2.2.1 y.2.2.2=R) (λy=>y.1) [0,1,2,3,4,5,6,7] (k,0,s,ae) ⟨⟨rfl,rfl,rfl,rfl,rfl,ew⟩,bf,aeP,⟨sl _,by show(0:Int)<_;omega⟩,aj,A9⟩ kD ?_;rintro dq ⟨k',bi,s',Ky⟩ ⟨bB,L,Y,p7,oO,u⟩;dsimp only at L Y p7 oO u|-;cases k' with
 | zero=>have:=L.dE.b9;omega
 | succ k' =>
 by_cases ar:s'.bb=0
 .have⟨b,I⟩:=cR f.blocks bi.toNat U;have dZ:=bQ I;obtain⟨aL,nE,XE,be,rfl,cF,EE,aRs,abr,uR,RG⟩:=aeO.get _ _ I;have k8:=aq _ _ cF;have lx:=lR b dZ;rw[iI,au ar,I] at u;dsimp only at u;have ki:(s'.bb==0)=true:=acd;repeat(first|apply W.MW;kernel_rfl;(refine hq (λz=>some (Value.bool z)) (?_:_=true);assumption)|refine AO ?_|refine kJ ?_|refine oS ?_|refine zf ?_|refine qU ?_|(apply ad.dv;rfl;rfl;rfl;first|exact bz;exact gh;exact ka (j:=5) ks rfl|exact cF;exact k8;exact ka (j:=0) uR rfl)|apply ad.qf;(iterate 4 rfl);exact(tk p7.1).symm;omega)
  refine W.A7 (X:=Nat×c9×List Int) (λπ y=>[(0,cE (π 0)),(1,cE (π 5)),(6,.pointer (some ⟨aL,nE+bi.toNat*9,none⟩)),(26,bm b.ah.length),(27,bm y.1)]) (λ_=>B) (λπ y=>hp aU T V y.2.1 y.2.2 aI π) (λG y=>HH G π [0,3,4,5,6]/\Good f y.2.1 y.2.2/\Q y.2.1/\l7 s' y.2.1/\y.2.1.bb=0/\y.1<=b.ah.length/\gu ah (b.ah.drop y.1) y.2.1 y.2.2=gu ah b.ah s' Ky) (λy=>b.ah.length-y.1) [0,1,2,3,4,5,6,7] (0,s',Ky) ⟨bB,L,Y,l7.refl _,ar,dG _,rfl⟩ kD ?_;rintro G ⟨i,s2,zl⟩ ⟨Z,C,M,r4,HJ,ag,D⟩;dsimp only at C M r4 HJ ag D|-;have cy:∀j,j∈[0,3,4,5,6]->G j=π j:=λj aA=>Z.get aA;by_cases bs:i<b.ah.length
  .have⟨x,D0⟩:=cR b.ah i bs;obtain⟨bN,cq,c1,eH,rfl,cc,gq,A,c,eP,aeS⟩:=RG.get _ _ D0;have bd:=nr b dZ x (bQ D0);have aa:=bd.aeN s2 zl C M bN (cq+i*12) c1 eH A c cc gq eP aeS;rw[A1 D0,gu] at D;by_cases O:(ah s2 zl x).1.bb=0
   .have aC5:(!((ah s2 zl x).1.bb==0))=false:=by simpa using O
    rw[au O] at D;repeat(first|apply W.Hf;kernel_rfl;(refine hq (λz=>some (Value.bool z)) (?_:_=false);assumption)|refine apg ?_|refine er ?_|refine Cs ?_|refine la ?_|refine kW ?_|apply(ad.HG [0,1,2,3,4,5,6,7] [0,3,4,5,6]);rfl;rfl;exact aa;rfl;rfl;exact aby;intro fE E;rw[<-E 0 bo (oJ rfl),<-E 5 bo (oJ rfl)])
    exact D9 (i+1,(ah s2 zl x).1,(ah s2 zl x).2) [0,1,2,3,4,5,6,7] rfl rfl ⟨by(repeat'(first|exact p3|exact(E _ bo (oJ rfl)).trans (cy _ aF)|apply And.intro)),bd.gj _ _ C M,aQ _ _ M (bd.l8 _ _ C M),r4.trans (bd.l8 _ _ C M),O,B7,D⟩ B4 kD
   .have aC5:(!((ah s2 zl x).1.bb==0))=true:=by simpa using O
    rw[ai O] at D;rw[<-D,ai O] at u;rw[<-u];repeat(first|apply W.MW;kernel_rfl;(refine hq (λz=>some (Value.bool z)) (?_:_=true);assumption)|refine apg ?_|refine er ?_|refine Cs ?_|refine iR ?_|refine c8 ?_|refine fy ?_|apply(ad.HG [0,1,2,3,4,5,6,7] [0,3,4,5,6]);rfl;rfl;exact aa;rfl;rfl;exact aby;intro fE E;rw[<-E 0 bo (oJ rfl),<-E 5 bo (oJ rfl)]|(with_reducible first|apply W.seq|apply W.block|apply W.ret|apply W.skip|apply fr|apply sN|apply wF|apply aeT))
    exact cf _ (dt rfl) (by(refine ss.mk [0,1,2,3,4,5,6,7] rfl rfl rfl ?_ ?_ rfl<;>(repeat'(first|exact p3|exact rfl|exact(E _ bo (oJ rfl)).trans (cy _ aF)|apply And.intro));done))
  .have rT:i=b.ah.length:=U;subst rT;rw[I9,gu] at D;rw[<-D] at u;dsimp only at u;rw[au HJ] at u;have rO:0<=s2.b9/\s2.b9<=1000000000:=⟨C.dE.b9.1,by have:=C.dE.b9.2;have:=C.dE.bu;omega⟩;have Nl:zl.length<=1000000000:=by have:=C.len;omega
   have S:=Kr C.dE;have jL:(aX s2).bU.length<=1000000:=by have:=S.bU;have:=S.b9;have:=S.bu;omega
   have aC6:=r4.trans (Kx s2);have F:=aQ _ _ M (Kx s2);by_cases N:(aX s2).bb=0
   .have aeV:(!((aX s2).bb==0))=false:=by simpa using N
    rw[au N] at u;have NR:=aC4 b dZ;unfold lU at NR;simp[cA,ed] at NR;have⟨⟨⟨⟨ba,a1⟩,eh⟩,iq⟩,nf⟩:=NR;have nZ:=Ks C.dE N;have aRt:=(E3 N).1;have aC7:=aC6.bu;have aRu:=r4.b9;by_cases tI:b.av.bp=3
    .rw[au tI] at u;rw[<-u];repeat(first|apply W.Hf;kernel_rfl;(refine hq (λz=>some (Value.bool z)) (?_:_=false);assumption)|refine WQ ?_|refine adn ?_|refine an4 ?_|refine Cs ?_|refine nC ?_|refine vz ?_|refine c8 ?_|refine q1 ?_|(with_reducible first|apply W.seq|apply W.block|apply W.exit|apply W.ret|apply W.skip|apply fr|apply mC|apply sN|apply wF|apply Nc|apply aeT))
     exact cf _ (dt rfl) ajT
    rw[ai tI] at u;by_cases fV:b.av.bp=1
    .rw[au fV] at u;have CY:0<=b.av.goto/\b.av.goto<f.blocks.length:=by
      rw[di,au fV] at nf;simpa[tJ] using nf
     repeat(first|apply W.Hf;kernel_rfl;(refine hq (λz=>some (Value.bool z)) (?_:_=false);assumption)|refine WQ ?_|refine adn ?_|refine Cs ?_|refine nC ?_|refine q0 ?_|refine c8 ?_|refine q1 ?_|refine aoS ?_)
     exact D9 (k',b.av.goto,aX s2,zl) [0,1,2,3,4,5,6,7] rfl rfl ⟨Z,⟨S,C.len,C.jB⟩,F,CY,abh,u⟩ (dN _) kD
    .rw[ai fV] at u;have CY:(0<=b.av.goto/\b.av.goto<f.blocks.length)/\0<=b.av.dx/\b.av.dx<f.blocks.length:=by
      rw[di,ai fV,au U] at nf;simpa[tJ] using nf
     repeat'(first|apply W.Hf;kernel_rfl;(refine hq (λz=>some (Value.bool z)) (?_:_=false);assumption)|refine WQ ?_|refine adn ?_|refine an4 ?_|apply ad.lT false [5,6];rfl;rfl;rfl;exact λH b7=>Rb b.av.b zl _ _ _ H Nl (b7.l 5 rfl aF) rfl (b7.l 6 rfl aF);exact hS|refine ao8 ?_|refine gP ?_|refine Cs ?_|refine hL ?_|refine vz ?_|refine oq ?_|refine lB ?_|refine AV ?_|apply(ad.Hl (w:=kV) (l0:=(aX s2).bU) (q:=jN true));(iterate 11 rfl);exact iu;exact λ_=>rfl;rfl;omega;omega|apply(ad.Hl (w:=kV) (l0:=(aX s2).bU) (q:=jN false));(iterate 11 rfl);exact iu;exact λ_=>rfl;rfl;omega;omega|refine aoS ?_|(refine c7 ?_ ?_)<;>intro _)
     .rw[au ‹_›] at u;exact D9 (k',b.av.goto,eE (aX s2) (jN true),zl) [0,1,11,3,4,5,6,7] rfl rfl ⟨Z,⟨CX S nZ.1 _,C.len,C.jB⟩,aQ _ _ F (D7 _ _),CY.1,abh,u⟩ (dN _) kD
     .rw[ai (by simp[*])] at u;exact D9 (k',b.av.dx,eE (aX s2) (jN false),zl) [0,1,11,3,4,5,6,7] rfl rfl ⟨Z,⟨CX S nZ.1 _,C.len,C.jB⟩,aQ _ _ F (D7 _ _),CY.2,abh,u⟩ (dN _) kD
   .have aeV:(!((aX s2).bb==0))=true:=by simpa using N
    rw[ai N] at u;rw[<-u];repeat(first|apply W.MW;kernel_rfl;(refine hq (λz=>some (Value.bool z)) (?_:_=true);assumption)|refine WQ ?_|refine W9 ?_|refine hL ?_|refine lB ?_|refine AV ?_|(with_reducible first|apply W.seq|apply W.exit|apply W.ret|apply fr|apply mC|apply sN|apply wF|apply Nc|apply aeT))
    exact cf _ (dt rfl) ajT
 .have ki:(s'.bb==0)=false:=acd;rw[iI,ai ar] at u;rw[<-u];repeat(first|apply W.Hf;kernel_rfl;(refine hq (λz=>some (Value.bool z)) (?_:_=false);assumption)|refine AO ?_|refine fi ?_|refine c8 ?_|refine Nb ?_|refine qU ?_|refine Eu ?_)
  have q:∀j,j∈[0,3,4,5,6]->dq j=π j:=λj aA=>bB.get aA;exact cf _ (dt rfl) (by(refine ss.mk [0,1,2,3,4,5,6,7] rfl rfl rfl ?_ ?_ rfl<;>(repeat'(first|exact p3|exact rfl|exact q _ aF|apply And.intro));done))
def aC8 B c(f:c<B.n) s(j:100<s.et+1/\s.et<=1000) n args:
 gR Tryz.prog 35 B 6 [0,3,4] (λπ=>[.pointer (some ⟨π 0,0,none⟩),.int .i64 n,cD 1 (π 5) args]) (Ku c s args) (.int .i64 0) (Ku c (gk {s with et:=s.et+1} 45) args):=by
 refine gR.i Tryz.func35 Tryz.ntmps35 (λπ=>⟨⟨_,rfl⟩,⟨_,rfl⟩,⟨_,rfl⟩,ew⟩) (aqn _ _ f U) aF λπ=>?_;conv=>arg 2;whnf
 repeat(first|apply(ad.qV (vs:=[]) [0,1,2,3,4] 0);rfl;rfl;exact M4 _ c f {s with et:=s.et+1} 45;rfl;rfl;exact wm;exact Jp|refine qi ?_|refine iR ?_|refine jH ?_|refine Nu ?_|refine c8 ?_|refine CE ?_)
 exact cf _ (dt rfl) (by(refine ss.mk [0,1,2,3,4,5] rfl rfl rfl ?_ ?_ rfl<;>exact ca))
def cH(p:fX)(N:Nat):Nat->c9->Int->List Int->Int×c9
 | 0,s,_,_=>(0,s)
 | d+1,s,n,args =>
  if 100<s.et+1 then(0,gk {s with et:=s.et+1} 45) else
  match p.funcs[n.toNat]? with
  | none=>(0,s)
  | some f =>
   ((iI (bX p (dL p (cH p N d)) (mI s.sp f.bZ f.bZ.length)) f N 0 (mf s f) (jW f args)).1,
     {(iI (bX p (dL p (cH p N d)) (mI s.sp f.bZ f.bZ.length)) f N 0 (mf s f) (jW f args)).2.1 with sp:=s.sp,et:=(iI (bX p (dL p (cH p N d)) (mI s.sp f.bZ f.bZ.length)) f N 0 (mf s f) (jW f args)).2.1.et-1})
structure RV(p:fX):Prop where
 ok:p.ok
 right:gy p=true
 rB:p.funcs.length<=1000000
 ae:∀f∈p.funcs,f.ae<=1000000
 aC9:∀f∈p.funcs,f.bZ.length<=4
 bZ:∀f∈p.funcs,∀z∈f.bZ,0<=z/\z<=1000
 aDa:∀f∈p.funcs,∀b∈f.blocks,b.ah.length<=1000000000
 ajP:∀f∈p.funcs,∀b∈f.blocks,∀x∈b.ah,x.args.length<=1000000
def RV.func{p}(h:RV p){f}(ar:f∈p.funcs):p5 p f=true:=by
 have:=h.right;unfold gy at this;simp only[cA] at this;exact iB.1 this.2 f ar
def aDb s aI n a:l7 s (jA s aI n a).2:=by
 unfold jA;split
 .exact D7 _ _
 .split
  .exact D7 _ _
  .exact amt
def aDc s aI n v:l7 s (ox s aI n v):=by
 unfold ox;split
 .exact⟨rfl,Ml,.inl ⟨rfl,id⟩,rfl,rfl,Ch _ _ _ _⟩
 .split
  .exact⟨rfl,Ml,.inl ⟨rfl,id⟩,rfl,Ch _ _ _ _,rfl⟩
  .exact amt
def aDd{p cl aI s ae x}(dC:1<=x.op/\x.op<=30)(aB:(aX s).bb=0->(x.op=28\/x.op=29)->l7 (aX s) (cl (aX s) ae x).2):l7 s (bX p cl aI s ae x).1:=by
 have J:=Kx s;refine Kt (Q:=λr=>l7 s r.1) (λ_=>J) (λ_ _=>J) (λ_ _=>?_) (λ_ _=>J) (λ_ _=>J) (λ_ _=>J) (λ_ _=>J) (λa _=>J.trans (aDb _ _ _ _)) (λa _=>J.trans (aDc _ _ _ _)) (λa _=>?_) (λa e d c b=>J.trans (aB a (XX dC e d c b)))
 .dsimp only;split
  .exact J
  .exact J.trans (VK _ _ bo)
 .dsimp only;split
  .exact J.trans (VK _ _ bo)
  .exact J.trans ⟨rfl,by show(aX s).b9<=(aX s).b9;omega,.inl ⟨rfl,id⟩,rfl,rfl,rfl⟩
structure RW(s:c9)(r:Int×c9):Prop where
 dE:r.2.dE
 jB:b8 r.1
 l8:l7 s r.2
def wv:b8 0:=⟨U,U⟩
def aDe{p cl s ae x}(h:s.dE)(aM:(s.bU.length:Int)+1<=s.b9)(mG:x.op≠29->lF p x.ref=some (x.args.length:Int))(tG:∀s' n args,(s'=s\/∃q,s'=eE s q)->lF p n=some (args.length:Int)->(∃k,args=iS ae x.args k)->RW s' (cl s' n args)):RW s (dL p cl s ae x):=by
 unfold dL;split
 .have ao:=CX h aM ⟨4,bq ae x.a,0⟩;split
  .exact akM
  .split
   .rename_i bh;have⟨g1,g2,g3⟩:=tG (eE s ⟨4,bq ae x.a,0⟩) (zD (bq ae x.a)) (iS ae x.args x.args.length) (.inr ⟨_,rfl⟩) VI ⟨_,rfl⟩;exact⟨g1,g2,(D7 _ _).trans g3⟩
   .exact akM
 .rename_i dC;exact tG s x.ref _ (.inl rfl) (by rw[QD];exact mG dC) ⟨_,rfl⟩
def aqs{ae l}(aM:∀r∈ae,b8 r)(b:∀a∈l,a.ok):∀k,∀v∈iS ae l k,b8 v:=by
 intro k;induction k with
 | zero=>intro v aE;cases aE
 | succ k c =>
  intro v aE;rw[iS,dI] at aE;rcases aE with rfl|aE
  .refine zA aM ?_;rw[oG];rcases h:l[k]? with _|a
   .exact⟨wv,wv⟩
   .exact b a (bQ h)
  .exact c v aE
structure aeW(f:dp)(lh:c9->Prop)(ah:c9->List Int->cO->c9×List Int)(x:cO):Prop where
 gj:∀s ae,Good f s ae->lh s->Good f (ah s ae x).1 (ah s ae x).2
 l8:∀s ae,Good f s ae->lh s->l7 s (ah s ae x).1
def aDf{f a}(c:∀s s',a s->l7 s s'->a s'){ah}:∀{l:List cO},(∀x∈l,aeW f a ah x)->∀{s:c9}{ae:List Int},Good f s ae->a s->Good f (gu ah l s ae).1 (gu ah l s ae).2/\l7 s (gu ah l s ae).1:=by
 intro l;induction l with
 | nil=>exact λ_ s ae bf _=>⟨bf,l7.refl _⟩
 | cons x l d =>
  intro aa s ae bf aH;have J:=aa x aF;have b:=J.l8 s ae bf aH;rw[gu];split
  .have⟨g1,g2⟩:=d (λy aN=>aa y yN) (J.gj s ae bf aH) (c _ _ aH b);exact⟨g1,b.trans g2⟩
  .exact⟨J.gj s ae bf aH,b⟩
def aDg{f m}(n:∀s s',m s->l7 s s'->m s'){ah}(v:∀b∈f.blocks,∀x∈b.ah,aeW f m ah x)(r:∀b∈f.blocks,b.av.ok):∀{k:Nat}{i:Int}{s:c9}{ae:List Int},Good f s ae->m s ->
 (iI ah f k i s ae).2.1.dE/\b8 (iI ah f k i s ae).1/\l7 s (iI ah f k i s ae).2.1:=by
 intro k;induction k with
 | zero=>intro i s ae bf _;exact ab8
 | succ k o =>
  intro i s ae bf aH;rw[iI];split
  .split
   .exact ab8
   .rename_i b I;have t:=bQ I;have⟨g1,u⟩:=aDf n (v b t) bf aH;split
    .have d:=Kr g1.dE;have c:=u.trans (Kx (gu ah b.ah s ae).1);split
     .rename_i ar;have aM:=(Ks g1.dE ar).1;split
      .exact⟨d,zA g1.jB (r b t).a,c⟩
      .split
       .obtain⟨g,l,j⟩:=o ⟨d,g1.len,g1.jB⟩ (n _ _ aH c);exact⟨g,l,c.trans j⟩
       .split
        .have e:=c.trans (D7 _ (jN true));obtain⟨g,l,j⟩:=o ⟨CX d aM _,g1.len,g1.jB⟩ (n _ _ aH e);exact⟨g,l,e.trans j⟩
        .have e:=c.trans (D7 _ (jN false));obtain⟨g,l,j⟩:=o ⟨CX d aM _,g1.len,g1.jB⟩ (n _ _ aH e);exact⟨g,l,e.trans j⟩
     .exact⟨d,wv,c⟩
    .exact⟨g1.dE,wv,u⟩
  .exact ab8
def aDi{z}(h:0<=z/\z<=1000):0<=Kw z/\Kw z<=1008:=by
 obtain⟨n,rfl⟩:∃n:Nat,z=n:=⟨z.toNat,U⟩;exact(VQ:∀n:Fin 1001,0<=Kw (n.val:Int)/\Kw (n.val:Int)<=1008) ⟨n,U⟩
def aDj{b:Int}{a}(h0:0<=b-1008*a.length)(J:b<=134217728)(d:∀z∈a,0<=z/\z<=1000):∀i,i<=a.length->b-1008*i<=A8 b a i/\A8 b a i<=b:=by
 intro i;induction i with
 | zero=>intro _;simp[A8]
 | succ i c =>
  intro ag;have e:=c U;have f:0<=Kw (a.getD i 0)/\Kw (a.getD i 0)<=1008:=by
   refine aDi (d _ ?_);rw[oG,ey U];exact aaM _
  rw[A8,NP U U];omega
def aDk{f args}(h:∀a∈args,b8 a):∀r∈jW f args,b8 r:=by
 intro r aM;rw[jW,ha] at aM;rcases aM with aM|aM
 .exact h r ab5
 .exact yD aM▸wv
structure aqt(N d:Nat)(s:c9):Prop where
 dE:s.dE
 bb:s.bb=0
 stack:s.stack.length=416000
 bL:134217728-4032*s.et<=s.sp
 ag:s.sp<=134217728
 depth:101<=s.et+d
 et:s.et<=100
 b9:s.bu-s.b9<N
def aqu B(H:∀i b,B.m i=some b->i<B.n) p(l:RV p) o eV cK d1 cM d2(bh:nH B o p eV cK d1 cM d2) N:∀d,∀s n args,aqt N d s->lF p n=some (args.length:Int)->(∀a∈args,b8 a) ->
 E1 B o (cH p N d) s n args/\RW s (cH p N d s n args):=by
 have cN:=H _ _ bh.m;intro d;induction d with
 | zero=>intro s n args aC _ _;have:=aC.depth;have:=aC.et;omega
 | succ d aP =>
  intro s n args aC Kv qN;have sV:=aC.et;by_cases Hm:100<s.et+1
  .have e:cH p N (d+1) s n args=(0,gk {s with et:=s.et+1} 45):=by rw[cH,au Hm]
   rw[E1,e];refine⟨aC8 B o cN s ⟨Hm,U⟩ n args,⟨Mv ?_ _,wv,?_⟩⟩
   .have⟨P,X,W,V,T,M,vH⟩:=aC.dE;exact⟨P,X,W,V,T,M,⟨by show 0<=s.et+1;omega,by show s.et+1<=101;omega⟩⟩
   .exact(by rw[gk,au (show({s with et:=s.et+1}:c9).bb=0 from aC.bb)]:gk {s with et:=s.et+1} 45={s with et:=s.et+1,bb:=45})▸⟨rfl,Ml,.inr ⟨aC.bb,by show¬(45:Int)=0;omega,rfl⟩,rfl,rfl,rfl⟩
  ·
   have y:=Kv;unfold lF at y;by_cases ir:0<=n;case neg=>rw[ai ir] at y;cases y
   rw[au ir] at y;rcases F:p.funcs[n.toNat]? with _|f
   .rw[F] at y;cases y
   .rw[F] at y;simp[iW,dh] at y;have C:=bQ F;have q3:=l.func C;unfold p5 at q3;simp only[cA,ed] at q3;have⟨⟨⟨⟨⟨f1,f2⟩,f3⟩,f4⟩,f5⟩,f6⟩:=q3;obtain⟨m,hm⟩:∃m:Nat,f.ae=m:=⟨f.ae.toNat,U⟩;have E4:=l.ae f C;have XZ:=l.ok.funcs f C;have⟨O,go,dS,fk,uv,bz,uz,jS,aW,jk,aT,jK,bn,ks,cZ,aeO⟩:=bh.cJ.get _ _ F;have Z:=H _ _ bz;have aqv:=l.aC9 f C;have hB:=aC.bL;have sL:=aC.ag;have Cq:=aDj U sL (l.bZ f C) f.bZ.length (b4 _);have sW:=aC.stack;have e:cH p N (d+1) s n args=((iI (bX p (dL p (cH p N d)) (mI s.sp f.bZ f.bZ.length)) f N 0 (mf s f) (jW f args)).1,{(iI (bX p (dL p (cH p N d)) (mI s.sp f.bZ f.bZ.length)) f N 0 (mf s f) (jW f args)).2.1 with sp:=s.sp,et:=(iI (bX p (dL p (cH p N d)) (mI s.sp f.bZ f.bZ.length)) f N 0 (mf s f) (jW f args)).2.1.et-1}):=by
     rw[cH,ai Hm,F]
    have S:Good f (mf s f) (jW f args):=by
     obtain⟨P,X,W,V,T,M,vH⟩:=aC.dE;exact⟨⟨P,X,W,V,T,M,⟨by show 0<=s.et+1;omega,by show s.et+1<=101;omega⟩⟩,by rw[aqo hm U];exact hm.symm,aDk qN⟩
    let w:c9->Prop:=λt=>(t.bb=0->t.et=s.et+1)/\t.sp=A8 s.sp f.bZ f.bZ.length/\t.stack.length=416000/\t.bu=s.bu/\s.b9<=t.b9
    have aQ:∀t b3,w t->l7 t b3->w b3:=by
     rintro t b3 ⟨cB,cy,fK,r3,NS⟩ aj;refine⟨λh0=>?_,aj.sp.trans cy,aj.stack.trans fK,aj.bu.trans r3,aaX NS aj.b9⟩;rcases aj.et with⟨R,D⟩|⟨_,D,_⟩
     .rw[R];exact cB (aaW λaB=>D aB h0)
     .exact absurd h0 D
    have aH:w (mf s f):=⟨λ_=>rfl,rfl,sW,rfl,sl _⟩;have Ef:∀b∈f.blocks,b.ah.all (iH p f)=true/\lU f b.av=true:=by
     intro b I;have:=iB.1 f6 b I;unfold uW at this;simpa[cA] using this
    have Y:=λb I x aa=>iB.1 (Ef b I).1 x aa;have dC:∀b∈f.blocks,∀x∈b.ah,1<=x.op/\x.op<=30:=by
     intro b I x aa;have:=Y b I x aa;unfold iH at this;simp only[cA,ed] at this;obtain⟨⟨⟨⟨⟨jx,fD⟩,_⟩,_⟩,_⟩,_⟩:=this;exact⟨jx,fD⟩
    have Cn:∀t ae,Good f t ae->w t->(aX t).bb=0->∀b∈f.blocks,∀x∈b.ah,∀s' j u,(s'=aX t\/∃q,s'=eE (aX t) q)->lF p j=some (u.length:Int)->(∃k,u=iS ae x.args k)->E1 B o (cH p N d) s' j u/\RW s' (cH p N d s' j u):=by
     rintro t ae bf ⟨cB,cy,fK,r3,NS⟩ g b I x aa s' j u uC y5 ⟨k,rfl⟩;have L:=(XZ.blocks b I).ah x aa;have G:=Kr bf.dE;have mA:=E3 g;have fV:=Kx t;have aqp:(aX t).et=s.et+1:=by
      rcases fV.et with⟨R,_⟩|⟨_,D,_⟩
      .rw[R];exact cB mA.2.1
      .exact absurd g D
     have bD:aqt N d (aX t):=by
      have:=aC.b9;have:=aC.depth;have ba:=fV.sp;have a1:=fV.stack;have eh:=fV.bu;exact⟨G,g,U,U,U,U,U,U⟩
     refine aP s' j _ ?_ y5 (aqs bf.jB L.args k);rcases uC with rfl|⟨q,rfl⟩
     .exact bD
     .exact⟨CX G (Ks bf.dE g).1 q,bD.bb,bD.stack,bD.bL,bD.ag,bD.depth,bD.et,bD.b9⟩
    have E:∀t ae,Good f t ae->w t->(aX t).bb=0->∀b∈f.blocks,∀x∈b.ah,x.op=28\/x.op=29->RW (aX t) (dL p (cH p N d) (aX t) ae x):=by
     intro t ae bf z g b I x aa aRv;refine aDe (Kr bf.dE) (Ks bf.dE g).1 (λoz=>?_) λs' j u J ab aK=>(Cn t ae bf z g b I x aa s' j u J ab aK).2;have:=Y b I x aa;unfold iH at this;simp only[cA,ed] at this;have aS:=this.2;unfold k0 at aS;rw[ai U,ai U,ai U,ai U,ai U,au U] at aS;simpa using aS
    have rS:∀b∈f.blocks,∀x∈b.ah,aeW f w (bX p (dL p (cH p N d)) (mI s.sp f.bZ f.bZ.length)) x:=by
     intro b I x aa;have L:=(XZ.blocks b I).ah x aa;refine⟨λt ae bf z=>⟨aCH bf.dE (λg aB=>(E t ae bf z g b I x aa aB).dE) (dC b I x aa),by rw[aCI];exact bf.len,aCJ bf.jB L (dC b I x aa) (λg aB=>(E t ae bf z g b I x aa aB).jB) λRT=>?_⟩,λt ae bf z=>aDd (dC b I x aa) λg aB=>(E t ae bf z g b I x aa aB).l8⟩;have:=Y b I x aa;unfold iH at this;simp only[cA,ed] at this;have aS:=this.2;unfold k0 at aS;rw[ai U,ai U,ai U,ai U,au RT] at aS;simp only[cA,ed] at aS;have:=l.rB;omega
    have aDl:∀b∈f.blocks,∀x∈b.ah,aqq B o O (go+n.toNat*6) (mI s.sp f.bZ f.bZ.length) f w (bX p (dL p (cH p N d)) (mI s.sp f.bZ f.bZ.length)) x:=by
     intro b I x aa;have L:=(XZ.blocks b I).ah x aa;refine⟨λt ae bf z bN cq c1 eH A c cc gq eP aeS=>?_,(rS b I x aa).gj,(rS b I x aa).l8⟩;have dO:=bf.len;refine aCK B H p o eV cK d1 cM d2 bh l.rB O (go+n.toNat*6) Z f U t bf.dE ae _ bf.len bf.jB (aeJ _ _ _) x L (Y b I x aa) bN cq c1 eH A c cc gq eP _ λg aB=>?_;have G:=Kr bf.dE;have lW:=G.bU;have zH:=G.b9;have E7:=G.bu;exact aCW B H p o eV cK d1 cM d2 bh O (go+n.toNat*6) Z f (aX t) U ae _ U x (Y b I x aa) aB (l.ajP f C b I x aa) bN cq c1 eH A c cc gq eP aeS _ λs' j u J ab aK=>(Cn t ae bf z g b I x aa s' j u J ab aK).1
    have wq:=aC3 B H o cN O (go+n.toNat*6) f dS fk jS aW jk aT jK bn bz Z ks U aeO (mI s.sp f.bZ f.bZ.length) w aQ _ aDl (λb I=>(Ef b I).2) (l.aDa f C) f5 N (mf s f) (jW f args) S aH aC.b9;obtain⟨gn,hV,K⟩:=aDg aQ rS (λb I=>(XZ.blocks b I).av) S aH;unfold E1;rw[e];generalize iI (bX p (dL p (cH p N d)) (mI s.sp f.bZ f.bZ.length)) f N 0 (mf s f) (jW f args)=r at *;have pG:r.2.1.et=s.et+1\/(¬r.2.1.bb=0/\r.2.1.et=s.et+2):=by
     rcases K.et with⟨R,_⟩|⟨_,D,eD⟩
     .exact .inl R
     .exact .inr ⟨D,by rw[eD];show s.et+1+1=_;omega⟩
    have za:=(cS.1 F).1;refine⟨aC1 B H p o cN eV cK d1 cM d2 bh s ⟨aC.dE.et.1,U⟩ n.toNat n (tk ir).symm za args O go uv f dS fk jS aW jk aT jK bn bz Z ks cZ U m hm U U r U U wq U,⟨?_,hV,?_⟩⟩
    .obtain⟨P,X,W,V,T,M,vH⟩:=gn;exact⟨P,X,W,V,T,M,⟨by show 0<=r.2.1.et-1;omega,by show r.2.1.et-1<=101;omega⟩⟩
    .refine⟨K.bu,K.b9,?_,rfl,K.stack,K.data⟩;rcases pG with h|⟨h,aw⟩
     .exact .inl ⟨by show r.2.1.et-1=_;omega,λaB=>absurd aC.bb aB⟩
     .exact .inr ⟨aC.bb,h,by show r.2.1.et-1=_;omega⟩
end
end Go.Proofs.YtplleokmejppjaaGreatDoor
