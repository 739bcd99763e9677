/- Contracts of functions that the law reaches -/
import Derived.Test.YtplleokmejppjaaGreatDoorR13
set_option linter.all false
set_option maxHeartbeats 9999999
set_option maxRecDepth 100000
namespace Go.Proofs.YtplleokmejppjaaGreatDoor
open Go.Proofs.Tryz
open Go.AH
section
def zA{ae a}(aM:∀r∈ae,b8 r)(b:a.ok):b8 (bq ae a):=by
 unfold bq;split
 .exact b.2
 .rw[oG];rcases h:ae[a.ck.toNat]? with _|v
  .exact Mi
  .exact aM v (bQ h)
def aqe{d o}:∀n,b8 (zz d o n):=by
 intro n;rcases n with _|n
 .exact Mi
 .exact aoe _
def aqf s aI n a:b8 (jA s aI n a).1:=by
 unfold jA;split
 .exact NI (aqe _)
 .split
  .exact NI (aqe _)
  .exact NI ⟨U,U⟩
def ya ae d v:(eR ae d v).length=ae.length:=by unfold eR;split<;>simp
def EZ{ae d v}(aM:∀r∈ae,b8 r)(aE:b8 v):∀r∈eR ae d v,b8 r:=by
 unfold eR;split
 .intro r h;rcases vh h with h|h
  .exact aM r h
  .rwa[h]
 .exact aM
def CW(p:fX)(i:Int):Int:=match p.globals[i.toNat]? with|some g=>g.qM|none=>0
def NM(aI:List Int)(i:Int):Int:=aI.reverse.getD i.toNat 0
def bX(p:fX)(cl:c9->List Int->cO->Int×c9)(aI:List Int)(s:c9)(ae:List Int)(x:cO):c9×List Int :=
 if(aX s).bb=0 then
  if x.op=1\/x.op=2 then(aX s,eR ae x.dst (bq ae x.a))
  else if e6 x.op=true then(if(h7 x.op (bq ae x.a) (bq ae x.b)).2=true then aX s else gk (aX s) 41,eR ae x.dst (h7 x.op (bq ae x.a) (bq ae x.b)).1)
  else if x.op=22 then(aX s,eR ae x.dst (q8 (bq ae x.a) x.size x.signed))
  else if x.op=23 then(aX s,eR ae x.dst (i64 (i64 (65536+CW p x.ref)+x.off)))
  else if x.op=24 then(aX s,eR ae x.dst (i64 (NM aI x.ref+x.off)))
  else if x.op=25 then(aX s,eR ae x.dst (4194304+16*x.ref))
  else if x.op=26 then((jA (aX s) (i64 (bq ae x.a+x.off)) x.size.toNat x.signed).2,eR ae x.dst (jA (aX s) (i64 (bq ae x.a+x.off)) x.size.toNat x.signed).1)
  else if x.op=27 then(ox (aX s) (i64 (bq ae x.a+x.off)) x.size.toNat (bq ae x.b),ae)
  else if x.op=30 then(if(aX s).out.length=10000 then gk (aX s) 45 else{aX s with out:=bq ae x.a::(aX s).out},ae)
  else((cl (aX s) ae x).2,eR ae x.dst (cl (aX s) ae x).1)
 else(aX s,ae)
structure c9.dE(s:c9):Prop where
 data:s.data.length<=1000000
 stack:s.stack.length<=1000000
 b9:0<=s.b9/\s.b9<=s.bu
 bu:s.bu<=1000000
 bU:(s.bU.length:Int)<=s.b9
 out:(s.out.length:Int)<=s.b9
 et:0<=s.et/\s.et<=101
def Kr{s}(h:s.dE):(aX s).dE:=by
 have⟨J,ab,aK,br,cz,gx,j7⟩:=h;unfold aX;split
 .split
  .exact VP
  .exact⟨J,ab,⟨by show 0<=s.b9+1;omega,by show s.b9+1<=s.bu;omega⟩,br,by show(s.bU.length:Int)<=s.b9+1;omega,by show(s.out.length:Int)<=s.b9+1;omega,j7⟩
 .exact VP
def Mv{s}(h:s.dE)e:(gk s e).dE:=by
 have⟨J,ab,aK,br,cz,gx,j7⟩:=h;unfold gk;split<;>exact VP
def Ks{s}(h:s.dE)(ar:(aX s).bb=0):((aX s).bU.length:Int)+1<=(aX s).b9/\((aX s).out.length:Int)+1<=(aX s).b9:=by
 have cz:=h.bU;have gx:=h.out;unfold aX at ar|-;split at ar
 .split at ar
  .exact absurd (show(42:Int)=0 from ar) bo
  .rw[au ‹_›,ai ‹_›];exact⟨by show(s.bU.length:Int)+1<=s.b9+1;omega,by show(s.out.length:Int)+1<=s.b9+1;omega⟩
 .rename_i q;exact absurd ar q
def CX{s}(h:s.dE)(aM:(s.bU.length:Int)+1<=s.b9)q:(eE s q).dE:=by
 have⟨J,ab,aK,br,cz,gx,j7⟩:=h;exact⟨J,ab,aK,br,by show((s.bU.length+1:Nat):Int)<=s.b9;omega,gx,j7⟩
def aCB{s}(h:s.dE)(aM:(s.bU.length:Int)+1<=s.b9)aI n gA:(jA s aI n gA).2.dE:=by
 unfold jA;split
 .exact CX h aM _
 .split
  .exact CX h aM _
  .exact Mv (CX h aM _) _
def aCC{s}(h:s.dE)(aM:(s.bU.length:Int)+1<=s.b9)aI n v:(ox s aI n v).dE:=by
 unfold ox;have⟨J,ab,aK,br,cz,gx,j7⟩:=CX h aM ⟨3,aI,0⟩;split
 .exact⟨akZ,ab,aK,br,cz,gx,j7⟩
 .split
  .exact⟨J,akZ,aK,br,cz,gx,j7⟩
  .exact Mv ⟨J,ab,aK,br,cz,gx,j7⟩ _
def Kt{Q:c9×List Int->Prop}{p cl aI s ae x}(h0:¬(aX s).bb=0->Q (aX s,ae))(J:(aX s).bb=0->x.op=1\/x.op=2->Q (aX s,eR ae x.dst (bq ae x.a)))(w:(aX s).bb=0->e6 x.op=true->Q (if(h7 x.op (bq ae x.a) (bq ae x.b)).2=true then aX s else gk (aX s) 41,eR ae x.dst (h7 x.op (bq ae x.a) (bq ae x.b)).1))(n:(aX s).bb=0->x.op=22->Q (aX s,eR ae x.dst (q8 (bq ae x.a) x.size x.signed)))(t:(aX s).bb=0->x.op=23->Q (aX s,eR ae x.dst (i64 (i64 (65536+CW p x.ref)+x.off))))(r:(aX s).bb=0->x.op=24->Q (aX s,eR ae x.dst (i64 (NM aI x.ref+x.off))))(y:(aX s).bb=0->x.op=25->Q (aX s,eR ae x.dst (4194304+16*x.ref)))(u:(aX s).bb=0->x.op=26->Q ((jA (aX s) (i64 (bq ae x.a+x.off)) x.size.toNat x.signed).2,eR ae x.dst (jA (aX s) (i64 (bq ae x.a+x.off)) x.size.toNat x.signed).1))(q:(aX s).bb=0->x.op=27->Q (ox (aX s) (i64 (bq ae x.a+x.off)) x.size.toNat (bq ae x.b),ae))(o:(aX s).bb=0->x.op=30->Q (if(aX s).out.length=10000 then gk (aX s) 45 else{aX s with out:=bq ae x.a::(aX s).out},ae))(v:(aX s).bb=0->¬(x.op=1\/x.op=2)->e6 x.op=false->¬(22<=x.op/\x.op<=27)->¬x.op=30->Q ((cl (aX s) ae x).2,eR ae x.dst (cl (aX s) ae x).1)):Q (bX p cl aI s ae x):=by
 unfold bX;by_cases c:(aX s).bb=0
 .rw[au c];by_cases k:x.op=1\/x.op=2
  .exact au k▸J c k
  rw[ai k];by_cases l:e6 x.op=true
  .exact au l▸w c l
  rw[ai l];by_cases e:x.op=22
  .exact au e▸n c e
  rw[ai e];by_cases d:x.op=23
  .exact au d▸t c d
  rw[ai d];by_cases j:x.op=24
  .exact au j▸r c j
  rw[ai j];by_cases i:x.op=25
  .exact au i▸y c i
  rw[ai i];by_cases g:x.op=26
  .exact au g▸u c g
  rw[ai g];by_cases f:x.op=27
  .exact au f▸q c f
  rw[ai f];by_cases m:x.op=30
  .exact au m▸o c m
  exact ai m▸v c k (by simpa using l) U m
 .exact ai c▸h0 c
def XX{op}(dC:1<=op/\op<=30)(J:¬(op=1\/op=2))(b:e6 op=false)(d:¬(22<=op/\op<=27))(c:¬op=30):op=28\/op=29:=by
 have:¬(3<=op/\op<=21):=λa=>by unfold e6 at b;simp[a.1,a.2] at b
 omega
def aCH{p cl aI s ae x}(h:s.dE)(aB:(aX s).bb=0->(x.op=28\/x.op=29)->(cl (aX s) ae x).2.dE)(dC:1<=x.op/\x.op<=30):(bX p cl aI s ae x).1.dE:=by
 have J:=Kr h;refine Kt (Q:=λr=>r.1.dE) (λ_=>J) (λ_ _=>J) (λ_ _=>?_) (λ_ _=>J) (λ_ _=>J) (λ_ _=>J) (λ_ _=>J) (λar _=>aCB J (Ks h ar).1 _ _ _) (λar _=>aCC J (Ks h ar).1 _ _ _) (λar _=>?_) (λar cB cy fK r3=>aB ar (XX dC cB cy fK r3))
 .dsimp only;split
  .exact J
  .exact Mv J _
 .dsimp only;split
  .exact Mv J _
  .have hV:=(Ks h ar).2;have⟨J,ab,aK,br,cz,gx,j7⟩:=J;exact⟨J,ab,aK,br,cz,by show(((aX s).out.length+1:Nat):Int)<=_;dsimp only;omega,j7⟩
def aCI{p cl aI s ae x}:(bX p cl aI s ae x).2.length=ae.length :=
 Kt (Q:=λr=>r.2.length=ae.length) (λ_=>rfl) (λ_ _=>ya _ _ _) (λ_ _=>ya _ _ _) (λ_ _=>ya _ _ _) (λ_ _=>ya _ _ _) (λ_ _=>ya _ _ _) (λ_ _=>ya _ _ _) (λ_ _=>ya _ _ _) (λ_ _=>rfl) (λ_ _=>rfl) (λ_ _ _ _ _=>ya _ _ _)
def aCJ{p cl aI s ae x}(aM:∀r∈ae,b8 r)(aa:x.ok)(dC:1<=x.op/\x.op<=30)(aB:(aX s).bb=0->(x.op=28\/x.op=29)->b8 (cl (aX s) ae x).1)(b:x.op=25->0<=x.ref/\x.ref<=1000000):∀r∈(bX p cl aI s ae x).2,b8 r :=
 Kt (Q:=λq=>∀r∈q.2,b8 r) (λ_=>aM) (λ_ _=>EZ aM (zA aM aa.a)) (λ_ _=>EZ aM (aet (zA aM aa.a))) (λ_ _=>EZ aM (NI (zA aM aa.a))) (λ_ _=>EZ aM (CV _)) (λ_ _=>EZ aM (CV _))
  (λ_ q=>EZ aM ⟨by have:=b q;omega,by have:=b q;omega⟩) (λ_ _=>EZ aM (aqf _ _ _ _)) (λ_ _=>aM) (λ_ _=>aM) (λg f e d c=>EZ aM (aB g (XX dC f e d c)))
def aeE:∀l:List Int,ql jI l=l.reverse.map (.int .i64 ·):=by
 intro l;induction l with
 | nil=>rfl
 | cons a l b=>rw[ql,b];simp[jI]
def aqi{z}(h:NN z=true):∃n:Nat,z=n/\1<=n/\n<=8:=by
 unfold NN at h;simp[l3,uq] at h;rcases h with((h|h)|h)|h
 .exact⟨1,U,U,U⟩
 .exact⟨2,U,U,U⟩
 .exact⟨4,U,U,U⟩
 .exact⟨8,U,U,U⟩
def aqj{s}(h:s.dE)q:(eE s q).ok:=by
 have⟨J,ab,aK,br,cz,gx,j7⟩:=h;exact⟨J,ab,⟨aK.1,by show s.b9<=_;omega⟩,by show s.bU.length+1<=_;omega,by show s.out.length<=_;omega⟩
def aCK B(Z:∀i b,B.m i=some b->i<B.n) p j eV cK d1 cM d2(bh:nH B j p eV cK d1 cM d2)(wR:p.funcs.length<=1000000) k o(F:k<B.n) f(rG:f.ae<=1000000000) s(hinv:s.dE) ae aI(hM:(ae.length:Int)=f.ae)(R:∀r∈ae,b8 r)(X:aI.length=f.bZ.length) x(T:x.ok)(aa:iH p f x=true) u l t v A c(w:B.m u=some ⟨⟨t⟩,v⟩)(C:l+12<=t.length)(E:cr l 12 t=cL x A c) cl(tG:(aX s).bb=0->(x.op=28\/x.op=29)->gR prog 104 B 8 [0,3,4,5,6] (λπ=>[.pointer (some ⟨π 0,0,none⟩),.pointer (some ⟨π 5,0,none⟩),.pointer (some ⟨u,l,none⟩)]) (hp j k o (aX s) ae aI) (.int .i64 (cl (aX s) ae x).1) (hp j k o (cl (aX s) ae x).2 ae aI)):
 gR prog 78 B 8 [0,3,4,5,6] (λπ=>[.pointer (some ⟨π 0,0,none⟩),.pointer (some ⟨π 5,0,none⟩),.pointer (some ⟨u,l,none⟩)]) (hp j k o s ae aI) (.bool ((bX p cl aI s ae x).1.bb==0)) (hp j k o (bX p cl aI s ae x).1 (bX p cl aI s ae x).2 aI):=by
 have H:=Z _ _ bh.m;have G:=Z _ _ w;have D:0<=s.b9/\s.b9<=1000000000:=⟨hinv.b9.1,by have:=hinv.b9.2;have:=hinv.bu;omega⟩;have O:=Kr hinv;unfold iH at aa;simp[cA,ed] at aa;have⟨⟨⟨⟨⟨jx,fD⟩,aqk⟩,aCL⟩,aCM⟩,d⟩:=aa;have I:x.dst<ae.length:=U;have y:ae.length<=1000000000:=U;by_cases dC:x.op=1\/x.op=2
 .have e:bX p cl aI s ae x=(aX s,if(aX s).bb=0 then eR ae x.dst (bq ae x.a) else ae):=by
   unfold bX;split<;>simp
  exact e▸aCk B j k o H F s D ae aI y x u l t v A c w G C E dC I
 by_cases S:e6 x.op=true
 .by_cases aG:(h7 x.op (bq ae x.a) (bq ae x.b)).2=true
  .have e:bX p cl aI s ae x=(aX s,if(aX s).bb=0 then eR ae x.dst (h7 x.op (bq ae x.a) (bq ae x.b)).1 else ae):=by
    unfold bX;split<;>simp[aG]
   exact e▸aCn B j k o H F s D ae aI y x u l t v A c w G C E S (zA R T.b).1 (zA R T.b).2 aG I
  .have e:bX p cl aI s ae x=(if(aX s).bb=0 then gk (aX s) 41 else aX s,if(aX s).bb=0 then eR ae x.dst (h7 x.op (bq ae x.a) (bq ae x.b)).1 else ae):=by
    unfold bX;split<;>simp[aG]
   exact e▸aCp B j k o H F s D ae aI y x u l t v A c w G C E S (zA R T.b).1 (zA R T.b).2 abA I
 have aqg:x.op<=2\/22<=x.op:=by unfold e6 at S;simp at S;omega
 by_cases P:x.op=22
 .have e:bX p cl aI s ae x=(aX s,if(aX s).bb=0 then eR ae x.dst (q8 (bq ae x.a) x.size x.signed) else ae):=by
   unfold bX;split<;>simp[P]
  exact e▸aCl B j k o H F s D ae aI y x u l t v A c w G C E P I
 by_cases N:x.op=23
 .rw[k0,ai U,ai U,au N] at d;simp[cA,ed] at d;have⟨g,bf⟩:=cR p.globals x.ref.toNat U;obtain⟨fL,go,pB,ge,rfl,cQ,n5,RS,gc,lz,_⟩:=bh.gs.get _ _ bf;have e:bX p cl aI s ae x=(aX s,if(aX s).bb=0 then eR ae x.dst (i64 (i64 (65536+g.qM)+x.off)) else ae):=by
   rw[bX,CW,bf];split<;>simp[N]
  exact e▸aCq B j k o H F s D ae aI y x u l t v A c w G C E N p eV cK d1 fL go d2 bh.m g d.1.2 d.2 pB ge RS gc cQ (Z _ _ cQ) n5 lz I
 by_cases Q:x.op=24
 .rw[k0,ai U,ai U,ai N,au Q] at d;simp[cA,ed] at d;have e:bX p cl aI s ae x=(aX s,if(aX s).bb=0 then eR ae x.dst (i64 (NM aI x.ref+x.off)) else ae):=by
   unfold bX;split<;>simp[Q]
  rw[e];rcases e7:aI with _|⟨a0,Y⟩
  .rw[e7] at X;simp[vg] at X;omega
  .rw[e7,e5] at X;refine aCr B j k o H F s D ae (a0::Y) y x u l t v A c w G C E Q a0 Y rfl d.1.2 U (NM (a0::Y) x.ref) ?_ I;rw[ff,iV,aeE,gf];rw[NM,oG,ey jf];rfl
 by_cases V:x.op=25
 .rw[k0,ai U,ai U,ai N,ai Q,au V] at d;simp[cA,ed] at d;have e:bX p cl aI s ae x=(aX s,if(aX s).bb=0 then eR ae x.dst (4194304+16*x.ref) else ae):=by
   unfold bX;split<;>simp[V]
  exact e▸aCm B j k o H F s D ae aI y x u l t v A c w G C E V ⟨d.1.2,U⟩ I
 by_cases M:x.op=26
 .rw[k0,au (Or.inr M)] at d;simp[cA,ed] at d;have⟨n,a7,ak⟩:=aqi d.2;have W:x.size.toNat=n:=U;have e:bX p cl aI s ae x=(if(aX s).bb=0 then(jA (aX s) (i64 (bq ae x.a+x.off)) n x.signed).2 else aX s,if(aX s).bb=0 then eR ae x.dst (jA (aX s) (i64 (bq ae x.a+x.off)) n x.signed).1 else ae):=by
   rw[bX,W];split<;>simp[M]
  exact e▸aCw B j k o H F s D ae aI y x u l t v A c w G C E M n ak a7 (aqj O _) I
 by_cases L:x.op=27
 .rw[k0,ai U,au L] at d;simp[cA,uq] at d;have⟨n,a7,ak⟩:=aqi d.2;have W:x.size.toNat=n:=U;have e:bX p cl aI s ae x=(if(aX s).bb=0 then ox (aX s) (i64 (bq ae x.a+x.off)) n (bq ae x.b) else aX s,ae):=by
   rw[bX,W];split<;>simp[L]
  exact e▸aCx B j k o H F s D ae aI y x u l t v A c w G C E L n ak a7 (aqj O _) d.1
 by_cases K:x.op=30
 .rw[k0,ai U,ai U,ai N,ai Q,ai V,ai U,ai U,au K] at d;simp[uq] at d;by_cases aH:(aX s).out.length=10000
  .have e:bX p cl aI s ae x=(if(aX s).bb=0 then gk (aX s) 45 else aX s,ae):=by
    unfold bX;split<;>simp[aH]
   exact e▸aCz B j k o H F s D ae aI y x u l t v A c w G C E K aH d
  .have e:bX p cl aI s ae x=(if(aX s).bb=0 then{aX s with out:=bq ae x.a::(aX s).out} else aX s,ae):=by
    unfold bX;split<;>simp[aH]
   exact e▸aCy B j k o H F s D ae aI y x u l t v A c w G C E K aH (by have:=O.out;have:=O.b9;have:=O.bu;omega) d
 have mG:x.op=28\/x.op=29:=U;have e:bX p cl aI s ae x=(if(aX s).bb=0 then(cl (aX s) ae x).2 else aX s,if(aX s).bb=0 then eR ae x.dst (cl (aX s) ae x).1 else ae):=by
  unfold bX;split<;>rfl
 exact e▸aCA B j k o H F s D ae aI y x u l t v A c w G C E mG (cl (aX s) ae x) (λar=>tG ar mG) I
attribute[local irreducible] W ad
def iS(ae:List Int)(l:List ho):Nat->List Int
 | 0=>[]
 | i+1=>bq ae (l.getD i ⟨0,0⟩)::iS ae l i
def QD ae l:∀i,(iS ae l i).length=i:=by
 intro i;induction i with
 | zero=>rfl
 | succ i a=>rw[iS,e5,a]
def E0(a:Int):Int:=i64 (a-4194304)
def zD(a:Int):Int:=i64 ((E0 a).tdiv 16)
def dL(p:fX)(cl:c9->Int->List Int->Int×c9)(s:c9)(ae:List Int)(x:cO):Int×c9 :=
 if x.op=29 then
  if E0 (bq ae x.a)<0\/¬(E0 (bq ae x.a)).tmod 16=0\/(p.funcs.length:Int)<=zD (bq ae x.a) then(0,gk (eE s ⟨4,bq ae x.a,0⟩) 43)
  else if lF p (zD (bq ae x.a))=some (x.args.length:Int) then cl (eE s ⟨4,bq ae x.a,0⟩) (zD (bq ae x.a)) (iS ae x.args x.args.length)
  else(0,gk (eE s ⟨4,bq ae x.a,0⟩) 43)
 else cl s x.ref (iS ae x.args x.args.length)
def Ku(aU:Nat)(s:c9)(args:List Int)(π:Nat->Nat):List (Nat×Option cd):=[(0,some ⟨⟨r0 aU s (π 1) (π 2) (π 3) (π 4)⟩,88⟩),(1,gQ jI 2 s.out),(2,gQ kV 91 s.bU),(3,some ⟨⟨fc s.data⟩,5⟩),(4,some ⟨⟨fc s.stack⟩,5⟩),(5,gQ jI 2 args)]
def aqm(aU aR bR:Nat)(s:c9)(ae aI dY:List Int)(π:Nat->Nat):List (Nat×Option cd):=[(0,some ⟨⟨r0 aU s (π 1) (π 2) (π 3) (π 4)⟩,88⟩),(1,gQ jI 2 s.out),(2,gQ kV 91 s.bU),(3,some ⟨⟨fc s.data⟩,5⟩),(4,some ⟨⟨fc s.stack⟩,5⟩),(5,some ⟨⟨[.pointer (some ⟨aR,bR,none⟩),.slice (some ⟨π 6,0,none⟩) ae.length ae.length,cD 1 (π 7) aI]⟩,113⟩),(6,some ⟨⟨xV ae⟩,2⟩),(7,gQ jI 2 aI),(8,gQ jI 2 dY)]
def E1(B:aV)(aU:Nat)(cl:c9->Int->List Int->Int×c9)(s:c9)(n:Int)(args:List Int):Prop :=
 gR prog 35 B 6 [0,3,4] (λπ=>[.pointer (some ⟨π 0,0,none⟩),.int .i64 n,cD 1 (π 5) args]) (Ku aU s args) (.int .i64 (cl s n args).1) (Ku aU (cl s n args).2 args)
def ayO{p a b6 b b' n}{aI:List Int}(J:a=b6)(c:b=b'):(some ⟨⟨[.pointer p,.slice (some ⟨a,0,none⟩) n n,cD 1 b aI]⟩,113⟩:Option cd)=some ⟨⟨[.pointer p,.slice (some ⟨b6,0,none⟩) n n,cD 1 b' aI]⟩,113⟩:=by rw[J,c]
def aCN B f u D(O:f<B.n)(N:u<B.n)(aq:∀i b,B.m i=some b->i<B.n) s ae aI(hM:ae.length<=1000000000) x E z C M A c(cc:B.m E=some ⟨⟨C⟩,M⟩)(dW:E<B.n)(V:z+12<=C.length)(eP:cr z 12 C=cL x A c)(Q:c0 B A 2 x.args kL)(T:x.args.length<=1000000)(dC:x.op=28) cl(G:E1 B f cl s x.ref (iS ae x.args x.args.length)):
 gR prog 104 B 8 [0,3,4,5,6] (λπ=>[.pointer (some ⟨π 0,0,none⟩),.pointer (some ⟨π 5,0,none⟩),.pointer (some ⟨E,z,none⟩)]) (hp f u D s ae aI) (.int .i64 (cl s x.ref (iS ae x.args x.args.length)).1) (hp f u D (cl s x.ref (iS ae x.args x.args.length)).2 ae aI):=by
 refine gR.i func104 ntmps104 (λπ=>⟨⟨_,rfl⟩,⟨_,rfl⟩,⟨_,rfl⟩,⟨_,rfl⟩,⟨_,rfl⟩,ew⟩) (r2 _ _ _ O N U) aF λπ=>?_;refine W.ghost ?_;conv=>arg 2;whnf
 repeat(first|refine M1 ?_|refine kJ ?_|refine nD ?_|refine zf ?_|refine ou ?_)
 refine W.A7 (X:=Nat) (λπ i=>[(0,cE (π 0)),(1,cE (π 5)),(7,bm x.ref),(89,.slice A x.args.length c),(90,bm x.args.length),(91,bm i),(10,cD 1 (π 8) (iS ae x.args i))]) (λ_=>B) (λπ i=>aqm f u D s ae aI (iS ae x.args i) π) (λF i=>x9 F π 8/\i<=x.args.length) (λi=>x.args.length-i) [0,1,2,3,4,5,6,7,8] 0 ⟨⟨rfl,rfl,rfl,rfl,rfl,rfl,rfl,rfl,ew⟩,dG _⟩ kD ?_;rintro F i ⟨bB,R⟩;dsimp only at R|-;by_cases bs:i<x.args.length
 .have bf:x.args[i]?=some (x.args.getD i ⟨0,0⟩):=aa9;obtain⟨Z,go,S,Y,rfl,cQ,n5,lz⟩:=Q.get _ _ bf;have mD:=aq _ _ cQ;repeat(first|refine gP ?_|refine AY ?_|refine uT ?_|refine AX ?_|refine anX ?_|refine anQ ?_)
  exact alg
 .have J:i=x.args.length:=U;subst J;repeat(first|apply(ad.HG [0,1,2,3,4,8] [0,3,4]);rfl;rfl;exact G;rfl;rfl;exact Vp;intro L ns|refine fi ?_|refine nD ?_|refine Nb ?_|refine lC ?_)
  exact cf _ (dt rfl) (by(refine ss.mk [0,1,2,3,4,5,6,7] rfl rfl rfl ?_ ?_ rfl<;>(repeat'(first|exact p3|exact rfl|exact aln|exact(λj aA aj=>(ns j (Uw aA) aj).trans (bB.get aA):∀j,j<8->(∀i,gE [0,1,2,3,4,8] i=some j->i∈[0,3,4])->L j=π j) _ U (oJ rfl)|apply And.intro));done))
end
section
attribute[local irreducible] W ad
def aCO B aU C D(cN:aU<B.n)(G:C<B.n)(aq:∀i b,B.m i=some b->i<B.n) p E L d1 J d2(bh:nH B aU p E L d1 J d2) s(M:s.bU.length+1<=1000000000) ae aI(hM:ae.length<=1000000000) x z f u F A c(cc:B.m z=some ⟨⟨u⟩,F⟩)(dW:z<B.n)(N:f+12<=u.length)(eP:cr f 12 u=cL x A c)(dC:x.op=29) k(aj:k=IntKind.i64.wrap (bq ae x.a-4194304)) q(aG:q=IntKind.i64.wrap ((IntKind.i64.wrap (bq ae x.a-4194304)).tdiv 16))(I:k<0):
 gR prog 104 B 8 [0,3,4,5,6] (λπ=>[.pointer (some ⟨π 0,0,none⟩),.pointer (some ⟨π 5,0,none⟩),.pointer (some ⟨z,f,none⟩)]) (hp aU C D s ae aI) (.int .i64 0) (hp aU C D (gk (eE s ⟨4,bq ae x.a,0⟩) 43) ae aI):=by
 refine gR.i func104 ntmps104 (λπ=>⟨⟨_,rfl⟩,⟨_,rfl⟩,⟨_,rfl⟩,⟨_,rfl⟩,⟨_,rfl⟩,ew⟩) (r2 _ _ _ cN G U) aF λπ=>?_;conv=>arg 2;whnf
 repeat(first|refine gP ?_|refine M1 ?_|refine Rl ?_|refine MY ?_|refine Rh ?_|refine qi ?_|refine tz ?_|refine iR ?_|refine k7 ?_|refine zq ?_|refine hW ?_|refine CE ?_|refine WO ?_)
 exact VF
def aCP B aU C D(cN:aU<B.n)(G:C<B.n)(aq:∀i b,B.m i=some b->i<B.n) p E L d1 J d2(bh:nH B aU p E L d1 J d2) s(M:s.bU.length+1<=1000000000) ae aI(hM:ae.length<=1000000000) x z f u F A c(cc:B.m z=some ⟨⟨u⟩,F⟩)(dW:z<B.n)(O:f+12<=u.length)(eP:cr f 12 u=cL x A c)(dC:x.op=29) k(aj:k=IntKind.i64.wrap (bq ae x.a-4194304)) q(aG:q=IntKind.i64.wrap ((IntKind.i64.wrap (bq ae x.a-4194304)).tdiv 16))(I:0<=k)(N:¬(IntKind.i64.wrap (bq ae x.a-4194304)).tmod 16=0):
 gR prog 104 B 8 [0,3,4,5,6] (λπ=>[.pointer (some ⟨π 0,0,none⟩),.pointer (some ⟨π 5,0,none⟩),.pointer (some ⟨z,f,none⟩)]) (hp aU C D s ae aI) (.int .i64 0) (hp aU C D (gk (eE s ⟨4,bq ae x.a,0⟩) 43) ae aI):=by
 refine gR.i func104 ntmps104 (λπ=>⟨⟨_,rfl⟩,⟨_,rfl⟩,⟨_,rfl⟩,⟨_,rfl⟩,⟨_,rfl⟩,ew⟩) (r2 _ _ _ cN G U) aF λπ=>?_;conv=>arg 2;whnf
 repeat(first|refine gP ?_|refine M1 ?_|refine Rl ?_|refine MY ?_|refine Rh ?_|refine qi ?_|refine pA ?_|refine k7 ?_|refine zq ?_|refine hW ?_|refine CE ?_|refine Xr ?_|refine WO ?_)
 exact VF
def aCQ B aU C D(cN:aU<B.n)(G:C<B.n)(aq:∀i b,B.m i=some b->i<B.n) p E L d1 J d2(bh:nH B aU p E L d1 J d2) s(N:s.bU.length+1<=1000000000) ae aI(hM:ae.length<=1000000000) x z f u F A c(cc:B.m z=some ⟨⟨u⟩,F⟩)(dW:z<B.n)(Q:f+12<=u.length)(eP:cr f 12 u=cL x A c)(dC:x.op=29) k(aj:k=IntKind.i64.wrap (bq ae x.a-4194304)) q(aG:q=IntKind.i64.wrap ((IntKind.i64.wrap (bq ae x.a-4194304)).tdiv 16))(I:0<=k)(O:(IntKind.i64.wrap (bq ae x.a-4194304)).tmod 16=0)(M:(p.funcs.length:Int)<=q):
 gR prog 104 B 8 [0,3,4,5,6] (λπ=>[.pointer (some ⟨π 0,0,none⟩),.pointer (some ⟨π 5,0,none⟩),.pointer (some ⟨z,f,none⟩)]) (hp aU C D s ae aI) (.int .i64 0) (hp aU C D (gk (eE s ⟨4,bq ae x.a,0⟩) 43) ae aI):=by
 refine gR.i func104 ntmps104 (λπ=>⟨⟨_,rfl⟩,⟨_,rfl⟩,⟨_,rfl⟩,⟨_,rfl⟩,⟨_,rfl⟩,ew⟩) (r2 _ _ _ cN G U) aF λπ=>?_;conv=>arg 2;whnf
 repeat(first|refine gP ?_|refine M1 ?_|refine Rl ?_|refine MY ?_|refine Rh ?_|refine kJ ?_|refine wQ ?_|refine k7 ?_|refine zq ?_|refine c8 ?_|refine CE ?_|refine adV ?_|refine Xr ?_|refine adE ?_|refine WO ?_)
 exact VF
def aCR B aU E J(cN:aU<B.n)(T:E<B.n)(aq:∀i b,B.m i=some b->i<B.n) p R G d1 V d2(bh:nH B aU p R G d1 V d2) s(jL:s.bU.length+1<=1000000000) ae aI(hM:ae.length<=1000000000) x D z C S A c(cc:B.m D=some ⟨⟨C⟩,S⟩)(dW:D<B.n)(gq:z+12<=C.length)(eP:cr z 12 C=cL x A c)(dC:x.op=29) k(aj:k=IntKind.i64.wrap (bq ae x.a-4194304)) q(aG:q=IntKind.i64.wrap ((IntKind.i64.wrap (bq ae x.a-4194304)).tdiv 16))(I:0<=k)(iQ:(IntKind.i64.wrap (bq ae x.a-4194304)).tmod 16=0)(f:Nat)(Q8:IntKind.i64.wrap ((IntKind.i64.wrap (bq ae x.a-4194304)).tdiv 16)=(f:Int))(tH:f<p.funcs.length) u go(L:G=some ⟨u,go,none⟩) g F Q N Y M Z O X(bz:B.m u=some ⟨⟨F⟩,Q⟩)(gh:u<B.n)(ks:cr (go+f*6) 6 F=dj g N Y M Z O X)(bM:¬g.params=x.args.length):
 gR prog 104 B 8 [0,3,4,5,6] (λπ=>[.pointer (some ⟨π 0,0,none⟩),.pointer (some ⟨π 5,0,none⟩),.pointer (some ⟨D,z,none⟩)]) (hp aU E J s ae aI) (.int .i64 0) (hp aU E J (gk (eE s ⟨4,bq ae x.a,0⟩) 43) ae aI):=by
 refine gR.i func104 ntmps104 (λπ=>⟨⟨_,rfl⟩,⟨_,rfl⟩,⟨_,rfl⟩,⟨_,rfl⟩,⟨_,rfl⟩,ew⟩) (r2 _ _ _ cN T U) aF λπ=>?_;subst L;conv=>arg 2;whnf
 repeat(first|refine gP ?_|refine M1 ?_|refine adV ?_|refine Xr ?_|refine Rl ?_|refine MY ?_|refine Rh ?_|refine aoH ?_|apply ad.qf;(iterate 4 rfl);exact Q8;omega|refine WO ?_|refine kJ ?_|refine wQ ?_|refine k7 ?_|refine zq ?_|refine c8 ?_|refine Ez ?_|refine vy ?_)
 exact VF
def aCS B f z F(cN:f<B.n)(eA:z<B.n)(aq:∀i b,B.m i=some b->i<B.n) p Z M d1 cM d2(bh:nH B f p Z M d1 cM d2) s(jL:s.bU.length+1<=1000000000) ae aI(hM:ae.length<=1000000000) x G D E eH A c(cc:B.m G=some ⟨⟨E⟩,eH⟩)(dW:G<B.n)(gq:D+12<=E.length)(eP:cr D 12 E=cL x A c)(dC:x.op=29) k(aj:k=IntKind.i64.wrap (bq ae x.a-4194304)) q(aG:q=IntKind.i64.wrap ((IntKind.i64.wrap (bq ae x.a-4194304)).tdiv 16))(I:0<=k)(iQ:(IntKind.i64.wrap (bq ae x.a-4194304)).tmod 16=0)(C:Nat)(Q8:IntKind.i64.wrap ((IntKind.i64.wrap (bq ae x.a-4194304)).tdiv 16)=(C:Int))(tH:C<p.funcs.length) u go(N:M=some ⟨u,go,none⟩) g L V S aW R aT T bn(bz:B.m u=some ⟨⟨L⟩,V⟩)(gh:u<B.n)(ks:cr (go+C*6) 6 L=dj g S aW R aT T bn)(bM:g.params=x.args.length)(c5:c0 B A 2 x.args kL)(k9:x.args.length<=1000000) cl(O:E1 B f cl (eE s ⟨4,bq ae x.a,0⟩) q (iS ae x.args x.args.length)):
 gR prog 104 B 8 [0,3,4,5,6] (λπ=>[.pointer (some ⟨π 0,0,none⟩),.pointer (some ⟨π 5,0,none⟩),.pointer (some ⟨G,D,none⟩)]) (hp f z F s ae aI) (.int .i64 (cl (eE s ⟨4,bq ae x.a,0⟩) q (iS ae x.args x.args.length)).1) (hp f z F (cl (eE s ⟨4,bq ae x.a,0⟩) q (iS ae x.args x.args.length)).2 ae aI):=by
 refine gR.i func104 ntmps104 (λπ=>⟨⟨_,rfl⟩,⟨_,rfl⟩,⟨_,rfl⟩,⟨_,rfl⟩,⟨_,rfl⟩,ew⟩) (r2 _ _ _ cN eA U) aF λπ=>?_;subst N;subst aG;conv=>arg 2;whnf
 repeat(first|refine gP ?_|refine M1 ?_|refine adV ?_|refine Xr ?_|refine Rl ?_|refine MY ?_|refine Rh ?_|refine aoH ?_|apply ad.qf;(iterate 4 rfl);exact Q8;omega|refine kJ ?_|refine wQ ?_|refine k7 ?_|refine zq ?_|refine c8 ?_|refine zf ?_|refine vy ?_)
 refine W.ghost ?_;refine W.A7 (X:=Nat) (λπ i=>[(0,cE (π 0)),(1,cE (π 5)),(7,bm (IntKind.i64.wrap ((IntKind.i64.wrap (bq ae x.a-4194304)).tdiv 16))),(89,.slice A x.args.length c),(90,bm x.args.length),(91,bm i),(10,cD 1 (π 8) (iS ae x.args i))]) (λ_=>B) (λπ i=>aqm f z F (eE s ⟨4,bq ae x.a,0⟩) ae aI (iS ae x.args i) π) (λJ i=>HH J π [0,3,4,5,6]/\i<=x.args.length) (λi=>x.args.length-i) [0,1,9,3,4,5,6,7,10] 0 ⟨⟨rfl,rfl,rfl,rfl,rfl,ew⟩,dG _⟩ kD ?_;rintro J i ⟨bB,bd⟩;dsimp only at bd|-;by_cases bs:i<x.args.length
 .have bf:x.args[i]?=some (x.args.getD i ⟨0,0⟩):=aa9;obtain⟨u,go,pB,ge,rfl,cQ,n5,lz⟩:=c5.get _ _ bf;have mD:=aq _ _ cQ;repeat(first|refine gP ?_|refine AY ?_|refine uT ?_|refine AX ?_|refine anX ?_|refine anQ ?_)
  exact alg
 .have Q:i=x.args.length:=U;subst Q;repeat(first|apply(ad.HG [0,1,2,3,4,8] [0,3,4]);rfl;rfl;exact O;rfl;rfl;exact Vp;intro Y ns|refine fi ?_|refine nD ?_|refine Nb ?_|refine lC ?_)
  have q:∀j,j∈[0,3,4,5,6]->j<9->(∀i,gE [0,1,2,3,4,8] i=some j->i∈[0,3,4])->Y j=π j:=λj hm aA aj=>(ns j aA aj).trans (bB.get hm);exact cf _ (dt rfl) (by(refine ss.mk [0,1,2,3,4,5,6,7] rfl rfl rfl ?_ ?_ rfl<;>(repeat'(first|exact p3|exact rfl|exact aln|exact q _ aF bo (oJ rfl)|apply And.intro));done))
def aCT{n}(h:b8 n):IntKind.i64.wrap n=n:=NP h.1 h.2
def aCU{k}(h:b8 k):b8 (k.tdiv 16):=by
 have⟨J,ab⟩:=h;have e:(k.tdiv 16).natAbs=k.natAbs/16:=by rw[Int.natAbs_tdiv];rfl
 have:(k.tdiv 16).natAbs<=k.natAbs:=e▸Nat.div_le_self _ _;by_cases aj:k=-9223372036854775808
 .subst aj;exact⟨bo,bo⟩
 .constructor<;>omega
def aCV{k:Int}(h:0<=k):0<=k.tdiv 16:=Int.tdiv_nonneg h U
def aCW B(d:∀i b,B.m i=some b->i<B.n) p j D K d1 I d2(bh:nH B j p D K d1 I d2) r t(F:r<B.n) f s(L:s.bU.length+1<=1000000000) ae aI(z:ae.length<=1000000000) x(aa:iH p f x=true)(dC:x.op=28\/x.op=29)(Z:x.args.length<=1000000) u l o v A c(w:B.m u=some ⟨⟨o⟩,v⟩)(C:l+12<=o.length)(E:cr l 12 o=cL x A c)(c5:c0 B A 2 x.args kL) cl(V:∀s' n args,(s'=s\/∃q,s'=eE s q)->lF p n=some (args.length:Int)->(∃k,args=iS ae x.args k)->E1 B j cl s' n args):
 gR prog 104 B 8 [0,3,4,5,6] (λπ=>[.pointer (some ⟨π 0,0,none⟩),.pointer (some ⟨π 5,0,none⟩),.pointer (some ⟨u,l,none⟩)]) (hp j r t s ae aI) (.int .i64 (dL p cl s ae x).1) (hp j r t (dL p cl s ae x).2 ae aI):=by
 have H:=d _ _ bh.m;have G:=d _ _ w;unfold iH at aa;simp[cA,ed] at aa;have⟨⟨⟨⟨⟨jx,fD⟩,aqk⟩,aCL⟩,aCM⟩,X⟩:=aa;rcases dC with dC|dC
 .rw[k0,ai U,ai U,ai U,ai U,ai U,au dC] at X;simp[uq] at X;exact(by rw[dL,ai U]:dL p cl s ae x=cl s x.ref (iS ae x.args x.args.length))▸aCN B j r t H F d s ae aI z x u l o v A c w G C E c5 Z dC cl (V s x.ref _ (.inl rfl) VI ⟨_,rfl⟩)
 .rw[dL,au dC];by_cases J:E0 (bq ae x.a)<0
  .rw[au (.inl J)];exact aCO B j r t H F d p D K d1 I d2 bh s L ae aI z x u l o v A c w G C E dC _ rfl _ rfl J
  have N:0<=E0 (bq ae x.a):=U;by_cases ab:¬(E0 (bq ae x.a)).tmod 16=0
  .rw[au (.inr (.inl ab))];exact aCP B j r t H F d p D K d1 I d2 bh s L ae aI z x u l o v A c w G C E dC _ rfl _ rfl N ab
  have y:(E0 (bq ae x.a)).tmod 16=0:=U;by_cases S:(p.funcs.length:Int)<=zD (bq ae x.a)
  .rw[au (.inr (.inr S))];exact aCQ B j r t H F d p D K d1 I d2 bh s L ae aI z x u l o v A c w G C E dC _ rfl _ rfl N y S
  rw[ai (λh=>h.elim J λh=>h.elim ab S)];have aG:zD (bq ae x.a)=(E0 (bq ae x.a)).tdiv 16:=aCT (aCU (CV _:b8 (E0 (bq ae x.a))));have W:0<=zD (bq ae x.a):=aG▸aCV N;obtain⟨O,R⟩:∃n:Nat,zD (bq ae x.a)=n:=⟨_,(tk W).symm⟩;have Q:O<p.funcs.length:=U;have⟨g,bf⟩:=cR p.funcs O Q;have⟨fL,go,dS,fk,T,P,uz,jS,aW,jk,aT,jK,bn,Y,_⟩:=bh.cJ.get _ _ bf;have Kv:lF p (zD (bq ae x.a))=some g.params:=by
   rw[lF,au W,R];simp[bf]
  rw[Kv];by_cases M:g.params=(x.args.length:Int)
  .rw[au (by rw[M])];exact aCS B j r t H F d p D K d1 I d2 bh s L ae aI z x u l o v A c w G C E dC _ rfl _ rfl N y O R Q fL go T g dS fk jS aW jk aT jK bn P (d _ _ P) Y M c5 Z cl (V _ _ _ (.inr ⟨_,rfl⟩) (by rwa[QD,<-M]) ⟨_,rfl⟩)
  .rw[ai (λh=>M (by injection h))];exact aCR B j r t H F d p D K d1 I d2 bh s L ae aI z x u l o v A c w G C E dC _ rfl _ rfl N y O R Q fL go T g dS fk jS aW jk aT jK bn P (d _ _ P) Y M
end
end Go.Proofs.YtplleokmejppjaaGreatDoor
