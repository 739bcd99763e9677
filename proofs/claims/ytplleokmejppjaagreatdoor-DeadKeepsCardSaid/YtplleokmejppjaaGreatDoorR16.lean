/- Contracts of functions that the law reaches -/
import Derived.Test.YtplleokmejppjaaGreatDoorR11
set_option linter.all false
set_option maxHeartbeats 9999999
set_option maxRecDepth 100000
namespace Go.Proofs.YtplleokmejppjaaGreatDoor
open Go.Proofs.Tryz
open Go.AH
attribute[local irreducible] W ad
def r5:List Int->Nat->List Int->List Int
 | b,_,[]=>b
 | b,o,v::l=>r5 (b.set o v) (o+1) l
def RY:∀(l:List Int) (b:List Int) (o:Nat),(r5 b o l).length=b.length:=by
 intro l;induction l with
 | nil=>intro b o;rfl
 | cons v l a=>intro b o;rw[r5,a,mq]
def aeY:∀(l:List Int) (b:List Int) (o:Nat),eB (fc b) o (fc l)=fc (r5 b o l):=by
 intro l;induction l with
 | nil=>intro b o;rw[show fc ([]:List Int)=[] from rfl,u1];rfl
 | cons v l a =>
  intro b o;rw[show fc (v::l)=.int .u8 v::fc l from rfl,wV,r5,<-a];congr 1;unfold fc;rw[xu]
structure E8 where
 b:List Int
 b2:List Int
 bI:List Int
def G3(x:zI):Int:=if x.bp=0 then x.data.length else if x.bp=1 then 8 else x.n
def KA(a:Int)(d:E8)(x:zI):E8 :=
 if x.bp=0 then{d with b:=r5 d.b a.toNat x.data}
 else if x.bp=1 then{d with b:=po d.b a.toNat (4194304+16*x.n) 8}
 else if x.bp=2 then{d with b:=r5 d.b a.toNat (d.b2.take x.n.toNat),b2:=d.b2.drop x.n.toNat}
 else{d with b:=r5 d.b a.toNat (d.bI.take x.n.toNat),bI:=d.bI.drop x.n.toNat}
def KB:List zI->Int->E8->E8
 | [],_,d=>d
 | x::l,a,d=>KB l (a+G3 x) (KA a d x)
def Ba:List CK->E8->E8
 | [],d=>d
 | g::l,d=>Ba l (KB g.dn g.qM d)
def nV(p:fX)(b2 bI:List Int):List Int:=(Ba p.globals ⟨List.replicate p.data.toNat 0,b2,bI⟩).b
def aeZ{h b off l}(s:c0 h (some ⟨b,off,none⟩) 1 l E9)(r:0<l.length):∃a e,h.m b=some ⟨⟨a⟩,e⟩/\off+l.length<=a.length/\∀k,k<=l.length->cr off k a=fc (l.take k):=by
 have⟨b',off',a,e,he,I,t,aE⟩:=s.get (l.length-1) _ (ey U);injection he with he;cases he;refine⟨a,e,I,U,λk aj=>?_⟩;rw[hs];apply kg;intro i;rw[fc,tl,gf,tl];by_cases ag:i<k
 .rw[au ag,au ag,xq];have⟨q,x,n,u,d,c,o,f⟩:=s.get i _ (ey U);injection d with d;cases d;rw[I] at c;injection c with c;injection c with g;cases g;have:=ka (j:=0) f rfl;rw[iV,nq] at this;rw[this,ey U];rfl
 .rw[ai ag,ai ag];rfl
def c0.aDm{h b off l}(s:c0 h (some ⟨b,off,none⟩) 1 l E9)k:c0 h (some ⟨b,off+k*1,none⟩) 1 (l.drop k) E9:=by
 refine⟨λi x aa=>?_⟩;rw[xq] at aa;have⟨b',off',a,e,he,I,c,aE⟩:=s.get _ _ aa;injection he with he;cases he;refine⟨b,off+k*1,a,e,rfl,I,U,?_⟩;rwa[show off+k*1+i*1=off+(k+i)*1 by omega]
structure nI(h:aV)(A:Option Addr)(n c:Nat)(l:List Int):Prop where
 aI:c0 h A 1 l E9
 len:n=l.length
 le:n<=c
 cap:c<nw
 nil:A=none->c=0
 spot:∀a,A=some a->a.spot=none
structure Bb where
 b:List Int
 b2:List Int
 bI:List Int
 bj:Option Addr
 eb:Nat
 aW:Nat
 a8:Option Addr
 eo:Nat
 aT:Nat
def Bb.d(x:Bb):E8:=⟨x.b,x.b2,x.bI⟩
structure Bb.ok(h:aV)(n:Nat)(x:Bb):Prop where
 b:x.b.length=n
 b2:nI h x.bj x.eb x.aW x.b2
 bI:nI h x.a8 x.eo x.aT x.bI
def ae0(x:Bb)(_:Nat->Nat):List (Nat×Option cd):=[(0,some ⟨⟨[.slice x.bj x.eb x.aW,.slice x.a8 x.eo x.aT]⟩,28⟩),(1,some ⟨⟨fc x.b⟩,5⟩)]
def ae1 l:(fc l).all (·.oneCell')=true:=by
 rw[fc,List.all_map,iB];intro _ _;rfl
def nI.drop{h b off n c k l}(r:nI h (some ⟨b,off,none⟩) n c l)(aj:k<=n):nI h (some ⟨b,if c=k then off else off+k*1,none⟩) (n-k) (c-k) (l.drop k):=by
 have J:=r.len;have e:=r.le;have f:=r.cap;refine⟨?_,by rw[P4];omega,U,U,(λh=>jh),λa d=>by injection d with d;rw[<-d]⟩;split
 .rw[np U];exact c0.nil
 .exact r.aI.aDm k
def aqx n:nd [.int .u8 0] n=fc (List.replicate n 0):=by
 rw[aeK];unfold fc;simp
def aDn p(aM:p.globals.all (sX p)=true)(wR:p.funcs.length<=1000000)(oX:p.globals.length<=1000000)(N:∀g∈p.globals,g.dn.length<=1000000)(n:Nat)(ak:p.data=(n:Int))(nJ:n<=1000000) aU eV cK d1 cM d2 h(bh:nH h aU p eV cK d1 cM d2) E u B F s C b2 bI(oV:nI h E u B b2)(kZ:nI h F s C bI):
 bc prog 34 ⟨[.pointer (some ⟨aU,0,none⟩),.agg ⟨[.slice E u B,.slice F s C]⟩]⟩ h (.slice (some ⟨h.n,0,none⟩) n n) (h.push ⟨⟨fc (nV p b2 bI)⟩,5⟩):=by
 refine bc.aO λaq=>?_;have CB:=aq _ _ bh.m;refine bc.ends (c:=(f34.body.getD .skip)) (Q:=Bc (λ_=>fc (nV p b2 bI)) 5 n n h) func34 ax ntmps34 ax ?_ (CZ λv aE=>by unfold fc at aE;obtain⟨_,_,rfl⟩:=ih.1 aE;simp);conv=>arg 2;whnf
 repeat(first|refine Xa ?_|apply(ad.makeSlice (n:=n) (kx:=.i64) (ky:=.i64) (cs:=fc (List.replicate n 0)));rfl;rfl;exact ajY;exact ajY;rfl;rfl;(constructor<;>omega);exact aqx n|refine M6 ?_|refine mc ?_)
 refine W.loop (X:=Nat×Bb) (λπ y=>[(3,.pointer (some ⟨π 0,0,none⟩)),(5,.slice (some ⟨π 1,0,none⟩) n n),(21,.slice cM p.globals.length d2),(22,.int .i64 p.globals.length),(23,.int .i64 y.1)]) (λ_=>h) (λπ y=>ae0 y.2 π) (λy=>y.1<=p.globals.length/\y.2.ok h n/\Ba (p.globals.drop y.1) y.2.d=Ba p.globals ⟨List.replicate n 0,b2,bI⟩) (λy=>p.globals.length-y.1) [0,1] (0,⟨List.replicate n 0,b2,bI,E,u,B,F,s,C⟩) ⟨dG _,⟨rz,oV,kZ⟩,rfl⟩ kD ?_;rintro π ⟨J,aqy⟩ ⟨HL,ae2,f⟩;dsimp only at HL ae2 f|-;by_cases bs:J<p.globals.length
 .obtain⟨g,bf⟩:∃g,p.globals[J]?=some g:=⟨_,ey bs⟩;obtain⟨fL,go,pB,ge,rfl,cQ,n5,RS,gc,lz,aDo⟩:=bh.gs.get _ _ bf;have mD:=aq _ _ cQ;have ER:=bQ bf;have aRx:=N g ER;have ae3:=iB.1 aM g ER;unfold sX at ae3;simp[cA,ed] at ae3;have⟨⟨⟨⟨g1,g2⟩,g3⟩,g4⟩,g5⟩:=ae3;rw[A1 bf,Ba] at f;repeat(first|refine AY ?_|refine Cv ?_|refine iR ?_|refine q0 ?_|refine c8 ?_|refine zf ?_|refine fy ?_)
  refine W.loop (X:=Nat×Int×Int×Bb) (λπ y=>[(3,.pointer (some ⟨π 0,0,none⟩)),(5,.slice (some ⟨π 1,0,none⟩) n n),(21,.slice (some ⟨fL,go,none⟩) p.globals.length d2),(22,.int .i64 p.globals.length),(23,.int .i64 J),(8,.int .i64 y.2.1),(30,.slice RS g.dn.length gc),(31,.int .i64 g.dn.length),(32,.int .i64 y.1)]) (λ_=>h) (λπ y=>ae0 y.2.2.2 π) (λy=>y.1<=g.dn.length/\y.2.2.2.ok h n/\Fa p.funcs.length (g.dn.drop y.1) y.2.2.1=true/\0<=y.2.1/\y.2.1+y.2.2.1<=n/\Ba (p.globals.drop (J+1)) (KB (g.dn.drop y.1) y.2.1 y.2.2.2.d)=Ba p.globals ⟨List.replicate n 0,b2,bI⟩) (λy=>g.dn.length-y.1) [0,1] (0,g.qM,g.size,aqy) ⟨dG _,ae2,g5,g1,by show g.qM+g.size<=(n:Int);omega,f⟩ kD ?_;generalize Ba p.globals ⟨List.replicate n 0,b2,bI⟩=R;rintro fE ⟨i,a,left,⟨b,b2,bI,E,u,B,F,s,C⟩⟩ ⟨ag,⟨lx,p6,jw⟩,ek,ae4,k9,f⟩;dsimp only at ag lx p6 jw ek ae4 k9 f|-;by_cases C0:i<g.dn.length
  .obtain⟨x,aa⟩:∃x,g.dn[i]?=some x:=⟨_,ey C0⟩;obtain⟨aDp,aDq,aRy,X0,rfl,j8,anz,aRz,ae5,WK,aqz⟩:=aDo.get _ _ aa;have ze:=aq _ _ j8;rw[A1 aa,KB] at f;rw[A1 aa,Fa] at ek;have aJ:a=(a.toNat:Int):=U;by_cases M:x.bp=0
   .have O:tu p.funcs.length x=some (x.data.length:Int):=by rw[tu,au M]
    rw[O] at ek;dsimp only at ek;have D:¬((x.data.length:Int)<0\/left<x.data.length):=λaB=>Vk;rw[ai D] at ek;have N:G3 x=x.data.length:=by rw[G3,au M]
    rw[N] at f;unfold KA at f;rw[au M] at f;by_cases bM:x.data.length=0
    .rw[Gt bM] at f;repeat(first|refine CG ?_|refine Rt ?_|refine na ?_|refine la ?_|refine jH ?_|refine Ka ?_|apply(ad.Hk (b:=fE 1) (L:=a.toNat) (H:=n) (off':=(if n=a.toNat then 0 else 0+a.toNat*1)));rfl;rfl;rfl;exact⟨_,_,rfl,aJ⟩;rfl;omega;exact xE;(show _<18446744073709551616;omega);rfl)
     refine mW (i+1,a+((0:Nat):Int),left-x.data.length,⟨b,b2,bI,E,u,B,F,s,C⟩) [0,1] rfl rfl ⟨B7,?_,ek,hR,hR,?_⟩ B4 kD
     .exact QH
     .simpa[r5] using f
    .obtain⟨_,_,_,_,aDr,_⟩:=aqz.get 0 _ (ey U);subst aDr;obtain⟨cI,aqA,T,aqB,S⟩:=aeZ aqz U;have RZ:=aq _ _ T;have NT:min x.data.length (n-a.toNat)=x.data.length:=U;have KD:∀o,eB (fc b) a.toNat (cr o (min x.data.length (n-a.toNat)*1) cI)=eB (fc b) a.toNat (cr o x.data.length cI):=λo=>by rw[NT,iV]
     repeat(first|refine CG ?_|refine na ?_|refine la ?_|refine jH ?_|refine Ka ?_|apply(ad.Hk (b:=fE 1) (L:=a.toNat) (H:=n) (off':=a.toNat));rfl;rfl;rfl;exact⟨_,_,rfl,aJ⟩;rfl;omega;exact xE;(show _<18446744073709551616;omega);(rw[ai U];omega)|apply(ad.ae6 (i:=1) (cs':=fc (r5 b a.toNat x.data)));(iterate 6 rfl);exact T;exact RZ;(unfold fc;rw[fI];dsimp only;omega);(first|omega|dsimp only;omega);(rw[NT,iV,S _ (b4 _)];exact ae1 _);(refine(KD _).trans ?_;rw[S _ (b4 _),mv,aeY]))
     refine mW (i+1,a+((min x.data.length (n-a.toNat):Nat):Int),left-x.data.length,⟨r5 b a.toNat x.data,b2,bI,E,u,B,F,s,C⟩) [0,1] rfl rfl ⟨B7,?_,ek,hR,hR,?_⟩ B4 kD
     .exact⟨(RY _ _ _).trans lx,p6,jw⟩
     .rw[NT];exact f
   by_cases fV:x.bp=1
   .by_cases lV:x.n<0\/(p.funcs.length:Int)<=x.n
    .have O:tu p.funcs.length x=none:=by unfold tu;rw[ai M,au fV,au lV]
     rw[O] at ek;cases ek
    have O:tu p.funcs.length x=some 8:=by unfold tu;rw[ai M,au fV,ai lV]
    rw[O] at ek;dsimp only at ek;have D:¬((8:Int)<0\/left<8):=λaB=>Vk;rw[ai D] at ek;have N:G3 x=8:=by unfold G3;rw[ai M,au fV]
    rw[N] at f;unfold KA at f;rw[ai M,au fV] at f;repeat(first|refine CG ?_|refine x1 ?_|refine jH ?_|refine q0 ?_|refine c8 ?_|refine zf ?_|refine vy ?_)
    refine W.loop (X:=Nat) (λπ j=>[(3,.pointer (some ⟨π 0,0,none⟩)),(5,.slice (some ⟨π 1,0,none⟩) n n),(21,.slice (some ⟨fL,go,none⟩) p.globals.length d2),(22,.int .i64 p.globals.length),(23,.int .i64 J),(8,.int .i64 a),(30,.slice (some ⟨aDp,aDq,none⟩) g.dn.length gc),(31,.int .i64 g.dn.length),(32,.int .i64 i),(11,.int .i64 (4194304+16*x.n)),(54,.int .i64 j)]) (λ_=>h) (λπ j=>ae0 ⟨po b a.toNat (4194304+16*x.n) j,b2,bI,E,u,B,F,s,C⟩ π) (λj=>j<=8) (λj=>8-j) [0,1] 0 (dG _) kD ?_;intro fj j aA;dsimp only at aA|-;by_cases aRA:j<8
    .have kI:eB (fc (po b a.toNat (4194304+16*x.n) j)) (0+(a.toNat+j)*1) [.int .u8 (XU (4194304+16*x.n) j)]=fc (po b a.toNat (4194304+16*x.n) (j+1)):=by
      rw[ff,iV];exact aev _ _ _
     have qN:0+(a.toNat+j)*1+1<=(fc (po b a.toNat (4194304+16*x.n) j)).length:=by
      unfold fc;rw[fI,Ch];omega
     repeat(first|refine adU ?_|apply(ad.qf (n:=a.toNat+j));(iterate 4 rfl);(first|omega|dsimp only;omega);omega|refine ady ?_|refine wI ?_|refine la ?_|refine jH ?_|refine kW ?_)
     exact mW (j+1) [0,1] rfl rfl (by show j+1<=8;omega) (by show 8-(j+1)<8-j;omega) kD
    .have aDs:j=8:=U;subst aDs;repeat(first|refine fi ?_|refine adX ?_|refine jH ?_|refine c8 ?_|refine M9 ?_|refine lC ?_)
     refine mW (i+1,a+8,left-8,⟨po b a.toNat (4194304+16*x.n) 8,b2,bI,E,u,B,F,s,C⟩) [0,1] rfl rfl ⟨B7,?_,ek,hR,hR,?_⟩ B4 kD
     .exact⟨(Ch _ _ _ _).trans lx,p6,jw⟩
     .exact f
   by_cases hk:x.bp=2
   .have O:tu p.funcs.length x=some x.n:=akP;rw[O] at ek;dsimp only at ek;have D:¬(x.n<0\/left<x.n):=λaB=>Vk;rw[ai D] at ek;obtain⟨m,hm⟩:∃m:Nat,x.n=m:=⟨x.n.toNat,U⟩;have N:G3 x=x.n:=alo;rw[N] at f;unfold KA at f;rw[ai U,ai U,au U] at f;rw[hm,ry] at f;rw[<-hm] at f;by_cases M:min u m=0
    .have ba:b2.take m=[]:=by
      have:=p6.len;by_cases h0:m=0
      .rw[h0];rfl
      .exact al2
     have a1:b2.drop m=b2:=by
      have:=p6.len;by_cases h0:m=0
      .rw[h0];rfl
      .exact al2
     simp only[Bb.d,ba,a1,r5] at f;rcases A:E with _|q
     .have JN:=p6.nil A;have Y:u=0:=by have:=p6.le;omega
      subst A;subst JN;subst Y;repeat(first|refine CG ?_|refine Rt ?_|refine x1 ?_|refine jj ?_|refine jH ?_|refine CF ?_|refine WH ?_|apply ad.MN;rfl;rfl;rfl;exact Ce;rfl)
      refine mW (i+1,a+x.n,left-x.n,⟨b,b2,bI,none,0,0,F,s,C⟩) [0,1] rfl rfl ⟨B7,?_,ek,hR,hR,?_⟩ B4 kD
      .exact QH
      .exact f
     .have aG:=p6.spot q A;obtain⟨G,w,Z⟩:=q;dsimp only at aG;subst aG;subst A;have uX:=p6.le;have V:=p6.cap;repeat(first|refine CG ?_|refine Rt ?_|refine x1 ?_|refine jj ?_|refine jH ?_|refine CF ?_|refine WH ?_|apply(ad.Hk (b:=G) (L:=0) (H:=u) (off':=w));rfl;rfl;rfl;exact Ce;rfl;omega;omega;exact V;(split<;>omega))
      refine mW (i+1,a+x.n,left-x.n,⟨b,b2,bI,some ⟨G,w,none⟩,u,B,F,s,C⟩) [0,1] rfl rfl ⟨B7,?_,ek,hR,hR,?_⟩ B4 kD
      .exact QH
      .exact f
    .have Y:0<b2.length:=by have:=p6.len;omega
     have uX:=p6.le;have V:=p6.cap;have NQ:=p6.len;rcases A:E with _|q
     .have:=p6.nil A;omega
     .have aG:=p6.spot q A;obtain⟨G,w,Z⟩:=q;dsimp only at aG;subst aG;subst A;obtain⟨cI,aqA,T,aqB,S⟩:=aeZ p6.aI Y;have RZ:=aq _ _ T;have eh:b2.take (min u (a.toNat+m-a.toNat))=b2.take m:=by
       rw[ajE];omega
      have iq:b2.drop (min u (a.toNat+m-a.toNat))=b2.drop m:=by
       by_cases h0:m<=u
       .rw[show min u (a.toNat+m-a.toNat)=m by omega]
       .exact alw
      have KD:eB (fc b) a.toNat (cr w ((min u (a.toNat+m-a.toNat))*1) cI)=fc (r5 b a.toNat (b2.take m)):=by
       rw[iV,S _ U,eh,aeY]
      repeat(first|refine CG ?_|refine x1 ?_|refine jj ?_|refine jH ?_|refine CF ?_|refine anK ?_|apply(ad.ae6 (i:=1) (cs':=fc (r5 b a.toNat (b2.take m))));(iterate 6 rfl);exact T;exact RZ;(unfold fc;rw[fI];dsimp only;omega);(first|omega|dsimp only;omega);(dsimp only;rw[iV,S _ U];exact ae1 _);exact KD|apply(ad.Hk (b:=G) (L:=min u (a.toNat+m-a.toNat)) (H:=u) (off':=(if B=min u (a.toNat+m-a.toNat) then w else w+(min u (a.toNat+m-a.toNat))*1)));rfl;rfl;rfl;exact Ce;rfl;omega;omega;exact V;rfl)
      refine mW (i+1,a+x.n,left-x.n,⟨r5 b a.toNat (b2.take m),b2.drop (min u (a.toNat+m-a.toNat)),bI,some ⟨G,if B=min u (a.toNat+m-a.toNat) then w else w+(min u (a.toNat+m-a.toNat))*1,none⟩,u-(min u (a.toNat+m-a.toNat)),B-(min u (a.toNat+m-a.toNat)),F,s,C⟩) [0,1] rfl rfl ⟨B7,?_,ek,hR,hR,?_⟩ B4 kD
      .exact⟨(RY _ _ _).trans lx,nI.drop p6 U,jw⟩
      .simp only[Bb.d,iq];exact f
   have tI:x.bp=3:=by
    by_cases tI:x.bp=3
    .exact tI
    .have:tu p.funcs.length x=none:=by unfold tu;rw[ai M,ai fV,ai U]
     rw[this] at ek;cases ek
   refine(λ_=>?_) trivial;by_cases aDt:x.bp=3
   .have O:tu p.funcs.length x=some x.n:=akP;rw[O] at ek;dsimp only at ek;have D:¬(x.n<0\/left<x.n):=λaB=>Vk;rw[ai D] at ek;obtain⟨m,hm⟩:∃m:Nat,x.n=m:=⟨x.n.toNat,U⟩;have N:G3 x=x.n:=alo;rw[N] at f;unfold KA at f;rw[ai U,ai U,ai U] at f;rw[hm,ry] at f;rw[<-hm] at f;by_cases M:min s m=0
    .have ba:bI.take m=[]:=by
      have:=jw.len;by_cases h0:m=0
      .rw[h0];rfl
      .exact al1
     have a1:bI.drop m=bI:=by
      have:=jw.len;by_cases h0:m=0
      .rw[h0];rfl
      .exact al1
     simp only[Bb.d,ba,a1,r5] at f;rcases A:F with _|q
     .have JN:=jw.nil A;have Y:s=0:=by have:=jw.le;omega
      subst A;subst JN;subst Y;repeat(first|refine CG ?_|refine Rt ?_|refine x1 ?_|refine jj ?_|refine jH ?_|refine CF ?_|refine WH ?_|apply ad.MN;rfl;rfl;rfl;exact Ce;rfl)
      refine mW (i+1,a+x.n,left-x.n,⟨b,b2,bI,E,u,B,none,0,0⟩) [0,1] rfl rfl ⟨B7,?_,ek,hR,hR,?_⟩ B4 kD
      .exact QH
      .exact f
     .have aG:=jw.spot q A;obtain⟨G,w,Z⟩:=q;dsimp only at aG;subst aG;subst A;have uX:=jw.le;have V:=jw.cap;repeat(first|refine CG ?_|refine Rt ?_|refine x1 ?_|refine jj ?_|refine jH ?_|refine CF ?_|refine WH ?_|apply(ad.Hk (b:=G) (L:=0) (H:=s) (off':=w));rfl;rfl;rfl;exact Ce;rfl;omega;omega;exact V;(split<;>omega))
      refine mW (i+1,a+x.n,left-x.n,⟨b,b2,bI,E,u,B,some ⟨G,w,none⟩,s,C⟩) [0,1] rfl rfl ⟨B7,?_,ek,hR,hR,?_⟩ B4 kD
      .exact QH
      .exact f
    .have Y:0<bI.length:=by have:=jw.len;omega
     have uX:=jw.le;have V:=jw.cap;have NQ:=jw.len;rcases A:F with _|q
     .have:=jw.nil A;omega
     .have aG:=jw.spot q A;obtain⟨G,w,Z⟩:=q;dsimp only at aG;subst aG;subst A;obtain⟨cI,aqA,T,aqB,S⟩:=aeZ jw.aI Y;have RZ:=aq _ _ T;have eh:bI.take (min s (a.toNat+m-a.toNat))=bI.take m:=by
       rw[ajE];omega
      have iq:bI.drop (min s (a.toNat+m-a.toNat))=bI.drop m:=by
       by_cases h0:m<=s
       .rw[show min s (a.toNat+m-a.toNat)=m by omega]
       .exact alw
      have KD:eB (fc b) a.toNat (cr w ((min s (a.toNat+m-a.toNat))*1) cI)=fc (r5 b a.toNat (bI.take m)):=by
       rw[iV,S _ U,eh,aeY]
      repeat(first|refine CG ?_|refine x1 ?_|refine jj ?_|refine jH ?_|refine CF ?_|refine anK ?_|apply(ad.ae6 (i:=1) (cs':=fc (r5 b a.toNat (bI.take m))));(iterate 6 rfl);exact T;exact RZ;(unfold fc;rw[fI];dsimp only;omega);(first|omega|dsimp only;omega);(dsimp only;rw[iV,S _ U];exact ae1 _);exact KD|apply(ad.Hk (b:=G) (L:=min s (a.toNat+m-a.toNat)) (H:=s) (off':=(if C=min s (a.toNat+m-a.toNat) then w else w+(min s (a.toNat+m-a.toNat))*1)));rfl;rfl;rfl;exact Ce;rfl;omega;omega;exact V;rfl)
      refine mW (i+1,a+x.n,left-x.n,⟨r5 b a.toNat (bI.take m),b2,bI.drop (min s (a.toNat+m-a.toNat)),E,u,B,some ⟨G,if C=min s (a.toNat+m-a.toNat) then w else w+(min s (a.toNat+m-a.toNat))*1,none⟩,s-(min s (a.toNat+m-a.toNat)),C-(min s (a.toNat+m-a.toNat))⟩) [0,1] rfl rfl ⟨B7,?_,ek,hR,hR,?_⟩ B4 kD
      .exact⟨(RY _ _ _).trans lx,p6,nI.drop jw U⟩
      .simp only[Bb.d,iq];exact f
   .exact absurd tI aDt
  .have aDu:i=g.dn.length:=U;subst aDu;rw[I9,KB] at f;repeat(first|refine EJ ?_|refine M9 ?_|refine lC ?_)
   exact mW (J+1,⟨b,b2,bI,E,u,B,F,s,C⟩) [0,1] rfl rfl ⟨by show J+1<=_;omega,⟨lx,p6,jw⟩,f⟩ (by show _-(J+1)<_-J;omega) kD
 .have rT:J=p.globals.length:=U;subst rT;rw[I9,Ba] at f;have I:aqy.b=nV p b2 bI:=by unfold nV;rw[ak,ry,<-f];rfl
  repeat(first|refine fi ?_|refine nD ?_|refine CD ?_)
  exact cf _ (.cons (.tmp rfl) .nil) ⟨rfl,1,dN _,by rw[<-I];rfl,rfl⟩
end Go.Proofs.YtplleokmejppjaaGreatDoor
