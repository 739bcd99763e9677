/- Contracts of functions that the law reaches -/
import Derived.Test.YtplleokmejppjaaGreatDoorR11
set_option linter.all false
set_option maxHeartbeats 9999999
set_option maxRecDepth 100000
namespace Go.Proofs.YtplleokmejppjaaGreatDoor
open Go.Proofs.Tryz
open Go.AH
attribute[local irreducible] W ad
def hp(aU aR bR:Nat)(s:c9)(ae aI:List Int)(π:Nat->Nat):List (Nat×Option cd):=[(0,some ⟨⟨r0 aU s (π 1) (π 2) (π 3) (π 4)⟩,88⟩),(1,gQ jI 2 s.out),(2,gQ kV 91 s.bU),(3,some ⟨⟨fc s.data⟩,5⟩),(4,some ⟨⟨fc s.stack⟩,5⟩),(5,some ⟨⟨[.pointer (some ⟨aR,bR,none⟩),.slice (some ⟨π 6,0,none⟩) ae.length ae.length,cD 1 (π 7) aI]⟩,113⟩),(6,some ⟨⟨xV ae⟩,2⟩),(7,gQ jI 2 aI)]
def r2{n K k d j}s ae aI(bh:k<n)(m:d<n)(o:8<=K):zy n K (hp k d j s ae aI) 8:=by
 refine⟨HD (λa v aE=>?_) aI,NK λv aE=>P8,⟨λdD π iG=>?_,λπ N b cj g I u hu=>?_⟩,Kp s bh U⟩
 .simp[jI,dI,jP,j6] at aE;subst aE;simp
 .show some _=some _;congr 1;unfold oo;congr 1;apply k3;simp[XR,iG d m]
 .have I:some _=some b:=I;cases I;have J:=g 6 U;have q:=g 7 U;have hu:u∈[Value.pointer (some ⟨d,j,none⟩),.slice (cV (π 6)) ae.length ae.length,cD 1 (π 7) aI]:=GS;simp[dI,jP,j6] at hu;rcases hu with rfl|rfl|rfl;all_goals first|exact XS h3|simp;omega
def ano a s π:EY (nF a s π) (nF a (aX s) π) 5:=by
 have J:(aX s).out=s.out:=alv;have c:(aX s).bU=s.bU:=alv;refine⟨.inr ⟨_,rfl⟩,.inr ⟨_,rfl⟩,?_,?_,.inr ⟨_,rfl⟩,ew⟩
 .show gQ kV 91 (aX s).bU=none\/∃b,gQ kV 91 s.bU=some b;exact c▸RQ _ _ _
 .show gQ jI 2 (aX s).out=none\/∃b,gQ jI 2 s.out=some b;exact J▸RQ _ _ _
def WA{off w j n cs vs}(h:cr off w cs=vs)(aA:j+n<=w):cr (off+j) n cs=(vs.drop j).take n:=by
 subst h;rw[hs,hs,UA,xt,UB,I0 U]
def eR(ae:List Int)(d v:Int):List Int:=if d>=0 then ae.set d.toNat v else ae
def UK{p a z n m}(h:n=m):(some ⟨⟨[.pointer p,.slice a n n,z]⟩,113⟩:Option cd)=some ⟨⟨[.pointer p,.slice a m m,z]⟩,113⟩:=by rw[h]
def aAm d k b:eB (xV d) (0+k*1) [.int .i64 b]=xV (d.set k b):=by
 rw[ff,iV,wV,u1];unfold xV;rw[xu]
def aCk B aU E F(cN:aU<B.n)(L:E<B.n) s(gl:0<=s.b9/\s.b9<=1000000000) ae aI(hM:ae.length<=1000000000) x D u C G A c(cc:B.m D=some ⟨⟨C⟩,G⟩)(dW:D<B.n)(N:u+12<=C.length)(eP:cr u 12 C=cL x A c)(dC:x.op=1\/x.op=2)(M:x.dst<ae.length):
 gR prog 78 B 8 [0,3,4,5,6] (λπ=>[.pointer (some ⟨π 0,0,none⟩),.pointer (some ⟨π 5,0,none⟩),.pointer (some ⟨D,u,none⟩)]) (hp aU E F s ae aI) (.bool ((aX s).bb==0)) (hp aU E F (aX s) (if(aX s).bb=0 then eR ae x.dst (bq ae x.a) else ae) aI):=by
 refine gR.i func78 ntmps78 (λπ=>⟨⟨_,rfl⟩,⟨_,rfl⟩,⟨_,rfl⟩,⟨_,rfl⟩,⟨_,rfl⟩,ew⟩) (r2 _ _ _ cN L U) aF λπ=>?_;conv=>arg 2;whnf
 repeat'(first|refine zc ?_|refine EN ?_|refine apy ?_|refine zo ?_|refine xT ?_|refine hW ?_|refine acU ?_|refine fy ?_|refine ac8 ?_|apply ad.dv;rfl;rfl;rfl;exact cc;exact dW;(first|exact ka (j:=0) eP rfl|exact ka (j:=1) eP rfl|exact ka (j:=4) eP rfl|exact ka (j:=7) eP rfl|exact ka (j:=10) eP rfl)|(refine c7 ?_ ?_)<;>intro _)
 .have f:¬(aX s).bb=0:=yH;rw[ai f,show((aX s).bb==0)=false by simpa using f];exact ab9
 all_goals
  have f:(aX s).bb=0:=xv;rw[au f];unfold eR;first
   | exact abt
   | exact abo
def aCl B aU E F(cN:aU<B.n)(L:E<B.n) s(gl:0<=s.b9/\s.b9<=1000000000) ae aI(hM:ae.length<=1000000000) x D u C G A c(cc:B.m D=some ⟨⟨C⟩,G⟩)(dW:D<B.n)(N:u+12<=C.length)(eP:cr u 12 C=cL x A c)(dC:x.op=22)(M:x.dst<ae.length):
 gR prog 78 B 8 [0,3,4,5,6] (λπ=>[.pointer (some ⟨π 0,0,none⟩),.pointer (some ⟨π 5,0,none⟩),.pointer (some ⟨D,u,none⟩)]) (hp aU E F s ae aI) (.bool ((aX s).bb==0)) (hp aU E F (aX s) (if(aX s).bb=0 then eR ae x.dst (q8 (bq ae x.a) x.size x.signed) else ae) aI):=by
 have qW:e6 x.op=false:=GV;refine gR.i func78 ntmps78 (λπ=>⟨⟨_,rfl⟩,⟨_,rfl⟩,⟨_,rfl⟩,⟨_,rfl⟩,⟨_,rfl⟩,ew⟩) (r2 _ _ _ cN L U) aF λπ=>?_;conv=>arg 2;whnf
 repeat'(first|refine zc ?_|refine Ev ?_|refine EN ?_|refine CH ?_|refine wQ ?_|refine pv ?_|refine oS ?_|refine EO ?_|refine W0 ?_|refine ac8 ?_|(refine c7 ?_ ?_)<;>intro _)
 .have f:¬(aX s).bb=0:=yH;rw[ai f,show((aX s).bb==0)=false by simpa using f];exact ab9
 all_goals
  have f:(aX s).bb=0:=xv;rw[au f];unfold eR;first
   | exact abt
   | exact abo
def aCm B aU E F(cN:aU<B.n)(L:E<B.n) s(gl:0<=s.b9/\s.b9<=1000000000) ae aI(hM:ae.length<=1000000000) x D u C G A c(cc:B.m D=some ⟨⟨C⟩,G⟩)(dW:D<B.n)(N:u+12<=C.length)(eP:cr u 12 C=cL x A c)(dC:x.op=25)(aM:0<=x.ref/\x.ref<=1000000)(M:x.dst<ae.length):
 gR prog 78 B 8 [0,3,4,5,6] (λπ=>[.pointer (some ⟨π 0,0,none⟩),.pointer (some ⟨π 5,0,none⟩),.pointer (some ⟨D,u,none⟩)]) (hp aU E F s ae aI) (.bool ((aX s).bb==0)) (hp aU E F (aX s) (if(aX s).bb=0 then eR ae x.dst (4194304+16*x.ref) else ae) aI):=by
 have qW:e6 x.op=false:=GV;refine gR.i func78 ntmps78 (λπ=>⟨⟨_,rfl⟩,⟨_,rfl⟩,⟨_,rfl⟩,⟨_,rfl⟩,⟨_,rfl⟩,ew⟩) (r2 _ _ _ cN L U) aF λπ=>?_;conv=>arg 2;whnf
 repeat'(first|refine zc ?_|refine Ev ?_|refine EN ?_|refine CH ?_|refine wQ ?_|refine pv ?_|refine jH ?_|refine oS ?_|refine EO ?_|refine ac8 ?_|(refine c7 ?_ ?_)<;>intro _)
 .have f:¬(aX s).bb=0:=yH;rw[ai f,show((aX s).bb==0)=false by simpa using f];exact ab9
 all_goals
  have f:(aX s).bb=0:=xv;rw[au f];unfold eR;first
   | exact abt
   | exact abo
def aCn B aU E G(cN:aU<B.n)(N:E<B.n) s(gl:0<=s.b9/\s.b9<=1000000000) ae aI(hM:ae.length<=1000000000) x D u C M A c(cc:B.m D=some ⟨⟨C⟩,M⟩)(dW:D<B.n)(S:u+12<=C.length)(eP:cr u 12 C=cL x A c)(dC:e6 x.op=true)(O:-9223372036854775808<=bq ae x.b)(L:bq ae x.b<=9223372036854775807)(aG:(h7 x.op (bq ae x.a) (bq ae x.b)).2=true)(R:x.dst<ae.length):
 gR prog 78 B 8 [0,3,4,5,6] (λπ=>[.pointer (some ⟨π 0,0,none⟩),.pointer (some ⟨π 5,0,none⟩),.pointer (some ⟨D,u,none⟩)]) (hp aU E G s ae aI) (.bool (((aX s):c9).bb==0)) (hp aU E G (aX s) (if(aX s).bb=0 then eR ae x.dst (h7 x.op (bq ae x.a) (bq ae x.b)).1 else ae) aI):=by
 have qW:=dC;have Q:3<=x.op/\x.op<=21:=alP;refine gR.i func78 ntmps78 (λπ=>⟨⟨_,rfl⟩,⟨_,rfl⟩,⟨_,rfl⟩,⟨_,rfl⟩,⟨_,rfl⟩,ew⟩) (r2 _ _ _ cN N U) aF λπ=>?_;conv=>arg 2;whnf
 repeat'(first|refine zc ?_|refine EN ?_|refine AO ?_|refine CH ?_|refine uL ?_|refine A0 ?_|refine No ?_|refine oS ?_|refine EO ?_|refine aof ?_|apply ad.lT true [];rfl;rfl;rfl;exact λH b7=>(show bc _ _ _ H (.tuple ⟨[bm (h7 x.op (bq ae x.a) (bq ae x.b)).1,.bool true]⟩) H by have F:=aex x.op (bq ae x.a) (bq ae x.b) O L H;rw[HE,aG] at F;exact F);exact hS|(refine c7 ?_ ?_)<;>intro _)
 .have f:¬(aX s).bb=0:=yH;simp only[ai f];rw[show((aX s).bb==0)=false by simpa using f];exact su
 all_goals
  have f:(aX s).bb=0:=xv;simp only[au f];unfold eR;first
   | rw[au ‹x.dst>=0›];exact su
   | rw[ai ‹¬x.dst>=0›];exact su
def aCp B aU E G(cN:aU<B.n)(N:E<B.n) s(gl:0<=s.b9/\s.b9<=1000000000) ae aI(hM:ae.length<=1000000000) x D u C M A c(cc:B.m D=some ⟨⟨C⟩,M⟩)(dW:D<B.n)(S:u+12<=C.length)(eP:cr u 12 C=cL x A c)(dC:e6 x.op=true)(O:-9223372036854775808<=bq ae x.b)(L:bq ae x.b<=9223372036854775807)(aG:(h7 x.op (bq ae x.a) (bq ae x.b)).2=false)(R:x.dst<ae.length):
 gR prog 78 B 8 [0,3,4,5,6] (λπ=>[.pointer (some ⟨π 0,0,none⟩),.pointer (some ⟨π 5,0,none⟩),.pointer (some ⟨D,u,none⟩)]) (hp aU E G s ae aI) (.bool (((if(aX s).bb=0 then gk (aX s) 41 else aX s):c9).bb==0)) (hp aU E G (if(aX s).bb=0 then gk (aX s) 41 else aX s) (if(aX s).bb=0 then eR ae x.dst (h7 x.op (bq ae x.a) (bq ae x.b)).1 else ae) aI):=by
 have qW:=dC;have Q:3<=x.op/\x.op<=21:=alP;refine gR.i func78 ntmps78 (λπ=>⟨⟨_,rfl⟩,⟨_,rfl⟩,⟨_,rfl⟩,⟨_,rfl⟩,⟨_,rfl⟩,ew⟩) (r2 _ _ _ cN N U) aF λπ=>?_;conv=>arg 2;whnf
 repeat'(first|refine zc ?_|refine EN ?_|refine AO ?_|refine CH ?_|refine uL ?_|refine A0 ?_|refine No ?_|refine oS ?_|refine EO ?_|refine aof ?_|apply ad.lT true [];rfl;rfl;rfl;exact λH b7=>(show bc _ _ _ H (.tuple ⟨[bm (h7 x.op (bq ae x.a) (bq ae x.b)).1,.bool false]⟩) H by have F:=aex x.op (bq ae x.a) (bq ae x.b) O L H;rw[HE,aG] at F;exact F);exact hS|apply(ad.qV (vs:=[]) [0,1,2,3,4] 0);rfl;rfl;exact M4 _ aU cN (aX s) 41;rfl;rfl;exact wm;exact Jp|(refine c7 ?_ ?_)<;>intro _)
 .have f:¬(aX s).bb=0:=yH;simp only[ai f];rw[show((aX s).bb==0)=false by simpa using f];exact su
 all_goals
  have f:(aX s).bb=0:=xv;simp only[au f];unfold eR;first
   | rw[au ‹x.dst>=0›];exact su
   | rw[ai ‹¬x.dst>=0›];exact su
def aCq B aU G L(cN:aU<B.n)(S:G<B.n) s(gl:0<=s.b9/\s.b9<=1000000000) ae aI(hM:ae.length<=1000000000) x F D E R A c(cc:B.m F=some ⟨⟨E⟩,R⟩)(dW:F<B.n)(gq:D+12<=E.length)(eP:cr D 12 E=cL x A c)(dC:x.op=23) p Q V d1 C go d2(O:B.m aU=some ⟨⟨hd p V d1 (some ⟨C,go,none⟩) d2⟩,Q⟩) g(Y:0<=x.ref)(lR:x.ref<p.globals.length) u ge X gc(T:B.m C=some ⟨⟨u⟩,ge⟩)(M:C<B.n)(Z:go+x.ref.toNat*4+4<=u.length)(N:cr (go+x.ref.toNat*4) 4 u=XA g X gc)(lE:x.dst<ae.length):
 gR prog 78 B 8 [0,3,4,5,6] (λπ=>[.pointer (some ⟨π 0,0,none⟩),.pointer (some ⟨π 5,0,none⟩),.pointer (some ⟨F,D,none⟩)]) (hp aU G L s ae aI) (.bool (((aX s):c9).bb==0)) (hp aU G L (aX s) (if(aX s).bb=0 then eR ae x.dst (i64 (i64 (65536+g.qM)+x.off)) else ae) aI):=by
 have qW:e6 x.op=false:=GV;refine gR.i func78 ntmps78 (λπ=>⟨⟨_,rfl⟩,⟨_,rfl⟩,⟨_,rfl⟩,⟨_,rfl⟩,⟨_,rfl⟩,ew⟩) (r2 _ _ _ cN S U) aF λπ=>?_;conv=>arg 2;whnf
 repeat'(first|refine zc ?_|refine Ev ?_|refine EN ?_|refine AO ?_|refine CH ?_|refine wQ ?_|refine zr ?_|refine oS ?_|refine EO ?_|(apply ad.dv;rfl;rfl;rfl;first|exact O;exact cN;rfl|exact T;exact M;exact ka (j:=1) N rfl)|(refine c7 ?_ ?_)<;>intro _)
 .have f:¬(aX s).bb=0:=yH;simp[ai f];rw[show((aX s).bb==0)=false by simpa using f];exact su
 all_goals
  have f:(aX s).bb=0:=xv;simp only[au f];unfold eR;first
   | rw[au ‹x.dst>=0›];exact su
   | rw[ai ‹¬x.dst>=0›];exact su
end Go.Proofs.YtplleokmejppjaaGreatDoor
