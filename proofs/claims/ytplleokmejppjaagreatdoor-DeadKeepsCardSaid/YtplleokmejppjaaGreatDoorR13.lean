/- Contracts of functions that the law reaches -/
import Derived.Test.YtplleokmejppjaaGreatDoorR12
set_option linter.all false
set_option maxHeartbeats 9999999
set_option maxRecDepth 100000
namespace Go.Proofs.YtplleokmejppjaaGreatDoor
open Go.Proofs.Tryz
open Go.AH
attribute[local irreducible] W ad
def aCr B aU F G(cN:aU<B.n)(M:F<B.n) s(gl:0<=s.b9/\s.b9<=1000000000) ae aI(hM:ae.length<=1000000000) x E u D L A c(cc:B.m E=some ⟨⟨D⟩,L⟩)(dW:E<B.n)(T:u+12<=D.length)(eP:cr u 12 D=cL x A c)(dC:x.op=24) a0 C(O:aI=a0::C)(Q:0<=x.ref)(R:x.ref<C.length+1) v(N:(ql jI (a0::C))[0+x.ref.toNat*1]?=some (.int .i64 v))(S:x.dst<ae.length):
 gR prog 78 B 8 [0,3,4,5,6] (λπ=>[.pointer (some ⟨π 0,0,none⟩),.pointer (some ⟨π 5,0,none⟩),.pointer (some ⟨E,u,none⟩)]) (hp aU F G s ae aI) (.bool (((aX s):c9).bb==0)) (hp aU F G (aX s) (if(aX s).bb=0 then eR ae x.dst (i64 (v+x.off)) else ae) aI):=by
 have qW:e6 x.op=false:=GV;subst O;refine gR.i func78 ntmps78 (λπ=>⟨⟨_,rfl⟩,⟨_,rfl⟩,⟨_,rfl⟩,⟨_,rfl⟩,⟨_,rfl⟩,ew⟩) (r2 _ _ _ cN M U) aF λπ=>?_;conv=>arg 2;whnf
 repeat'(first|refine zc ?_|refine Ev ?_|refine EN ?_|refine AO ?_|refine CH ?_|refine wQ ?_|refine zr ?_|refine oS ?_|refine EO ?_|apply ad.RR;(iterate 5 rfl);exact N|(refine c7 ?_ ?_)<;>intro _)
 .have f:¬(aX s).bb=0:=yH;simp[ai f];rw[show((aX s).bb==0)=false by simpa using f];exact su
 all_goals
  have f:(aX s).bb=0:=xv;simp only[au f];unfold eR;first
   | rw[au ‹x.dst>=0›];exact su
   | rw[ai ‹¬x.dst>=0›];exact su
instance(s:c9) (aI:Int) (n:Nat):Decidable (my s aI n):=by unfold my;infer_instance
instance(s:c9) (aI:Int) (n:Nat):Decidable (oL s aI n):=by unfold oL;infer_instance
def jA(s:c9)(aI:Int)(n:Nat)(gA:Bool):Int×c9 :=
 if my s aI n then(q8 (zz s.data (aI-65536).toNat n) n gA,eE s ⟨2,aI,0⟩)
 else if oL s aI n then(q8 (zz s.stack (aI-(134217728-(s.stack.length:Int))).toNat n) n gA,eE s ⟨2,aI,0⟩)
 else(q8 0 n gA,gk (eE s ⟨2,aI,0⟩) 40)
def ox(s:c9)(aI:Int)(n:Nat)(v:Int):c9 :=
 if my s aI n then{eE s ⟨3,aI,0⟩ with data:=po s.data (aI-65536).toNat v n}
 else if oL s aI n then{eE s ⟨3,aI,0⟩ with stack:=po s.stack (aI-(134217728-(s.stack.length:Int))).toNat v n}
 else gk (eE s ⟨3,aI,0⟩) 40
def aqc s e:(gk s e).out=s.out:=Jg
def aCs s aI n a:(jA s aI n a).2.out=s.out:=by
 unfold jA;split
 .rfl
 .split
  .rfl
  .exact aqc _ _
def aCt s aI n v:(ox s aI n v).out=s.out:=by
 unfold ox;split
 .rfl
 .split
  .rfl
  .exact aqc _ _
def aqd aU s s'(h:s'.out=s.out) π:EY (nF aU s π) (wU aU s' π) 5:=by
 refine⟨.inr ⟨_,rfl⟩,.inr ⟨_,rfl⟩,.inl rfl,?_,.inr ⟨_,rfl⟩,ew⟩;show gQ jI 2 s'.out=none\/∃b,gQ jI 2 s.out=some b;exact h▸RQ _ _ _
def aCu B b(c:b<B.n) s aI(aC:(eE s ⟨2,aI,0⟩).ok)(d:-9223372036854775808<=aI/\aI<=9223372036854775807)(n:Nat)(ak:1<=n/\n<=8)(z:Int)(e:z=n) a:ku prog 102 B 5 1 (λπ=>[.pointer (some ⟨π 0,0,none⟩),.int .i64 aI,.int .i64 z,.bool a]) (nF b s) (λπ=>.int .i64 (jA s aI n a).1) (wU b (jA s aI n a).2):=by
 subst e;unfold jA;split
 .exact aCa B b c s aI aC n ak a ‹_›
 .split
  .exact aCb B b c s aI aC n ak a ‹_› ‹_›
  .exact aCc B b c s aI aC d n ak a ‹_› ‹_›
def aCv B a(b:a<B.n) s aI(aC:(eE s ⟨3,aI,0⟩).ok)(c:-9223372036854775808<=aI/\aI<=9223372036854775807)(n:Nat)(ak:1<=n/\n<=8)(z:Int)(d:z=n) v:ku prog 103 B 5 1 (λπ=>[.pointer (some ⟨π 0,0,none⟩),.int .i64 aI,.int .i64 z,.int .i64 v]) (nF a s) (λπ=>.tuple #[]) (wU a (ox s aI n v)):=by
 subst d;unfold ox;split
 .exact aCf B a b s aI aC n ak v ‹_›
 .split
  .exact aCg B a b s aI aC n ak v ‹_› ‹_›
  .exact aCh B a b s aI aC c n ak v ‹_› ‹_›
def aCw B aU E F(cN:aU<B.n)(L:E<B.n) s(gl:0<=s.b9/\s.b9<=1000000000) ae aI(hM:ae.length<=1000000000) x D u C G A c(cc:B.m D=some ⟨⟨C⟩,G⟩)(dW:D<B.n)(O:u+12<=C.length)(eP:cr u 12 C=cL x A c)(dC:x.op=26)(n:Nat)(ak:1<=n/\n<=8)(M:x.size=(n:Int))(aC:(eE (aX s) ⟨2,i64 (bq ae x.a+x.off),0⟩).ok)(N:x.dst<ae.length):
 gR prog 78 B 8 [0,3,4,5,6] (λπ=>[.pointer (some ⟨π 0,0,none⟩),.pointer (some ⟨π 5,0,none⟩),.pointer (some ⟨D,u,none⟩)]) (hp aU E F s ae aI) (.bool (((if(aX s).bb=0 then(jA (aX s) (i64 (bq ae x.a+x.off)) n x.signed).2 else aX s):c9).bb==0)) (hp aU E F (if(aX s).bb=0 then(jA (aX s) (i64 (bq ae x.a+x.off)) n x.signed).2 else aX s) (if(aX s).bb=0 then eR ae x.dst (jA (aX s) (i64 (bq ae x.a+x.off)) n x.signed).1 else ae) aI):=by
 have qW:e6 x.op=false:=GV;refine gR.i func78 ntmps78 (λπ=>⟨⟨_,rfl⟩,⟨_,rfl⟩,⟨_,rfl⟩,⟨_,rfl⟩,⟨_,rfl⟩,ew⟩) (r2 _ _ _ cN L U) aF λπ=>?_;conv=>arg 2;whnf
 repeat'(first|refine zc ?_|refine Ev ?_|refine EN ?_|refine AO ?_|refine CH ?_|refine wQ ?_|refine zr ?_|refine oS ?_|refine EO ?_|apply(ad.qV (vs:=[]) [0,1,2,3,4] 1);rfl;rfl;exact aCu B aU cN (aX s) (i64 (bq ae x.a+x.off)) aC (wrap64_in _) n ak x.size M x.signed;rfl;rfl;exact wm;exact aqd _ _ _ (aCs _ _ _ _) _|(refine c7 ?_ ?_)<;>intro _)
 .have f:¬(aX s).bb=0:=yH;simp[ai f];rw[show((aX s).bb==0)=false by simpa using f];exact su
 all_goals
  have f:(aX s).bb=0:=xv;simp only[au f];unfold eR;first
   | rw[au ‹x.dst>=0›];exact ab4
   | rw[ai ‹¬x.dst>=0›];exact ab4
def aCx B aU E F(cN:aU<B.n)(L:E<B.n) s(gl:0<=s.b9/\s.b9<=1000000000) ae aI(hM:ae.length<=1000000000) x D u C G A c(cc:B.m D=some ⟨⟨C⟩,G⟩)(dW:D<B.n)(O:u+12<=C.length)(eP:cr u 12 C=cL x A c)(dC:x.op=27)(n:Nat)(ak:1<=n/\n<=8)(M:x.size=(n:Int))(aC:(eE (aX s) ⟨3,i64 (bq ae x.a+x.off),0⟩).ok)(N:x.dst=-1):
 gR prog 78 B 8 [0,3,4,5,6] (λπ=>[.pointer (some ⟨π 0,0,none⟩),.pointer (some ⟨π 5,0,none⟩),.pointer (some ⟨D,u,none⟩)]) (hp aU E F s ae aI) (.bool (((if(aX s).bb=0 then ox (aX s) (i64 (bq ae x.a+x.off)) n (bq ae x.b) else aX s):c9).bb==0)) (hp aU E F (if(aX s).bb=0 then ox (aX s) (i64 (bq ae x.a+x.off)) n (bq ae x.b) else aX s) (ae) aI):=by
 have qW:e6 x.op=false:=GV;refine gR.i func78 ntmps78 (λπ=>⟨⟨_,rfl⟩,⟨_,rfl⟩,⟨_,rfl⟩,⟨_,rfl⟩,⟨_,rfl⟩,ew⟩) (r2 _ _ _ cN L U) aF λπ=>?_;conv=>arg 2;whnf
 repeat'(first|refine zc ?_|refine Ev ?_|refine AO ?_|refine CH ?_|refine wQ ?_|refine k7 ?_|refine c8 ?_|refine EO ?_|apply(ad.qV (vs:=[]) [0,1,2,3,4] 1);rfl;rfl;exact aCv B aU cN (aX s) (i64 (bq ae x.a+x.off)) aC (wrap64_in _) n ak x.size M (bq ae x.b);rfl;rfl;exact wm;exact aqd _ _ _ (aCt _ _ _ _) _|(refine c7 ?_ ?_)<;>intro _)
 .have f:¬(aX s).bb=0:=yH;simp[ai f];rw[show((aX s).bb==0)=false by simpa using f];exact su
 all_goals
  have f:(aX s).bb=0:=xv;simp only[au f];exact ab4
def aCy B aU E F(cN:aU<B.n)(L:E<B.n) s(gl:0<=s.b9/\s.b9<=1000000000) ae aI(hM:ae.length<=1000000000) x D u C G A c(cc:B.m D=some ⟨⟨C⟩,G⟩)(dW:D<B.n)(O:u+12<=C.length)(eP:cr u 12 C=cL x A c)(dC:x.op=30)(aH:¬(aX s).out.length=10000)(M:(aX s).out.length<=100000000)(N:x.dst=-1):
 gR prog 78 B 8 [0,3,4,5,6] (λπ=>[.pointer (some ⟨π 0,0,none⟩),.pointer (some ⟨π 5,0,none⟩),.pointer (some ⟨D,u,none⟩)]) (hp aU E F s ae aI) (.bool (((if(aX s).bb=0 then{aX s with out:=bq ae x.a::(aX s).out} else aX s):c9).bb==0)) (hp aU E F (if(aX s).bb=0 then{aX s with out:=bq ae x.a::(aX s).out} else aX s) (ae) aI):=by
 have qW:e6 x.op=false:=GV;refine gR.i func78 ntmps78 (λπ=>⟨⟨_,rfl⟩,⟨_,rfl⟩,⟨_,rfl⟩,⟨_,rfl⟩,⟨_,rfl⟩,ew⟩) (r2 _ _ _ cN L U) aF λπ=>?_;conv=>arg 2;whnf
 repeat'(first|refine zc ?_|refine Ev ?_|refine AO ?_|refine anm ?_|refine apx ?_|refine gP ?_|refine Cs ?_|refine wQ ?_|refine Nu ?_|refine c8 ?_|refine EO ?_|apply(ad.Hl (w:=jI) (l0:=(aX s).out) (q:=bq ae x.a));(iterate 11 rfl);exact iu;exact λ_=>rfl;rfl;omega;omega|refine Xu ?_|(refine c7 ?_ ?_)<;>intro _)
 .have f:¬(aX s).bb=0:=yH;simp[ai f];rw[show((aX s).bb==0)=false by simpa using f];exact su
 all_goals
  have f:(aX s).bb=0:=xv;simp only[au f];exact cf _ (dt rfl) (by(refine ss.mk [0,9,2,3,4,5,6,7] rfl rfl rfl ?_ ?_ rfl<;>exact ajI))
def aCz B aU E F(cN:aU<B.n)(L:E<B.n) s(gl:0<=s.b9/\s.b9<=1000000000) ae aI(hM:ae.length<=1000000000) x D u C G A c(cc:B.m D=some ⟨⟨C⟩,G⟩)(dW:D<B.n)(N:u+12<=C.length)(eP:cr u 12 C=cL x A c)(dC:x.op=30)(aH:(aX s).out.length=10000)(M:x.dst=-1):
 gR prog 78 B 8 [0,3,4,5,6] (λπ=>[.pointer (some ⟨π 0,0,none⟩),.pointer (some ⟨π 5,0,none⟩),.pointer (some ⟨D,u,none⟩)]) (hp aU E F s ae aI) (.bool (((if(aX s).bb=0 then gk (aX s) 45 else aX s):c9).bb==0)) (hp aU E F (if(aX s).bb=0 then gk (aX s) 45 else aX s) (ae) aI):=by
 have qW:e6 x.op=false:=GV;refine gR.i func78 ntmps78 (λπ=>⟨⟨_,rfl⟩,⟨_,rfl⟩,⟨_,rfl⟩,⟨_,rfl⟩,⟨_,rfl⟩,ew⟩) (r2 _ _ _ cN L U) aF λπ=>?_;conv=>arg 2;whnf
 repeat'(first|refine zc ?_|refine Ev ?_|refine CH ?_|refine wQ ?_|refine oS ?_|refine vy ?_|apply(ad.qV (vs:=[]) [0,1,2,3,4] 0);rfl;rfl;exact M4 _ aU cN (aX s) 45;rfl;rfl;exact wm;exact Jp|refine Xu ?_|(with_reducible first|apply W.seq|apply W.block|apply W.ret|apply W.skip|apply fr|apply sN|apply wF)|(refine c7 ?_ ?_)<;>intro _)
 .have f:¬(aX s).bb=0:=yH;simp[ai f];rw[show((aX s).bb==0)=false by simpa using f];exact su
 all_goals
  have f:(aX s).bb=0:=xv;simp only[au f];rw[show((gk (aX s) 45).bb==0)=false by unfold gk;rw[au f];rfl];exact su
def aCA B aU f C(cN:aU<B.n)(M:f<B.n) s(gl:0<=s.b9/\s.b9<=1000000000) ae aI(hM:ae.length<=1000000000) x D u F L A c(cc:B.m D=some ⟨⟨F⟩,L⟩)(dW:D<B.n)(O:u+12<=F.length)(eP:cr u 12 F=cL x A c)(dC:x.op=28\/x.op=29)(r:Int×c9)(G:(aX s).bb=0->gR prog 104 B 8 [0,3,4,5,6] (λπ=>[.pointer (some ⟨π 0,0,none⟩),.pointer (some ⟨π 5,0,none⟩),.pointer (some ⟨D,u,none⟩)]) (hp aU f C (aX s) ae aI) (.int .i64 r.1) (hp aU f C r.2 ae aI))(N:x.dst<ae.length):
 gR prog 78 B 8 [0,3,4,5,6] (λπ=>[.pointer (some ⟨π 0,0,none⟩),.pointer (some ⟨π 5,0,none⟩),.pointer (some ⟨D,u,none⟩)]) (hp aU f C s ae aI) (.bool (((if(aX s).bb=0 then r.2 else aX s):c9).bb==0)) (hp aU f C (if(aX s).bb=0 then r.2 else aX s) (if(aX s).bb=0 then eR ae x.dst r.1 else ae) aI):=by
 have qW:e6 x.op=false:=by rcases dC with dC|dC<;>rw[dC]<;>rfl
 refine gR.i func78 ntmps78 (λπ=>⟨⟨_,rfl⟩,⟨_,rfl⟩,⟨_,rfl⟩,⟨_,rfl⟩,⟨_,rfl⟩,ew⟩) (r2 _ _ _ cN M U) aF λπ=>?_;conv=>arg 2;whnf
 repeat'(first|refine zc ?_|refine Ev ?_|refine EN ?_|refine AO ?_|refine CH ?_|refine uL ?_|refine A0 ?_|refine oS ?_|refine acU ?_|refine ou ?_|apply(ad.HG [0,1,2,3,4,5,6,7] [0,3,4,5,6]);rfl;rfl;exact G xv;rfl;rfl;exact aby;intro Q ns;rw[<-ns 0 bo (oJ rfl),<-ns 5 bo (oJ rfl)]|(refine c7 ?_ ?_)<;>intro _)
 .have E:¬(aX s).bb=0:=yH;simp[ai E];rw[show((aX s).bb==0)=false by simpa using E];exact su
 all_goals
  have E:(aX s).bb=0:=xv;simp only[au E];unfold eR;first
   | rw[au ‹x.dst>=0›];exact cf _ (dt rfl) ajQ
   | rw[ai ‹¬x.dst>=0›];exact cf _ (dt rfl) ajQ
end Go.Proofs.YtplleokmejppjaaGreatDoor
