/-
  What the functions that the law reaches compute,told by plain data;it holds of programs that pass the check of right form and are light.
-/
import Derived.Test.YtgpigfcagppohaaGreatDoorR18
import Derived.Test.YtgpigfcagppohaaGreatDoorR7
import Derived.Test.YtgpigfcagppohaaGreatDoorS2
set_option linter.unusedVariables false
set_option linter.unusedSimpArgs false
namespace Go.Proofs.YtgpigfcagppohaaGreatDoor
open Go.AH
attribute [local irreducible] W RS WR
theorem set_dom {h:Hp} {i:Nat} {b:Blk} (hd:∀ j c,h.m j=some c→j < h.n) (hi:i < h.n):∀ j c,(h.set i b).m j=some c→j < (h.set i b).n:=by
 intro j c hc
 have hc:(if j=i then some b else h.m j)=some c:=hc
 by_cases e:j=i
 ·rw [e];exact hi
 ·rw [if_neg e] at hc;exact hd j c hc
section
variable {L:List TokS} {tb cap pb:Nat} {h:Hp} {st:PS}
theorem ParAt.sees {B H:Hp} {π:Nat→Nat} {k:Nat} {l:List (Nat × Option Blk)} {vl:List Nat} (p:ParAt L tb cap pb B st) (hd:∀ j c,B.m j=some c→j < B.n) (hH:Sees ⟨B,π,k,l⟩ true vl H):ParAt L tb cap pb H st :=
 ⟨by rw [hH.b rfl _ (hd _ _ p.tok)];exact p.tok,by rw [hH.b rfl _ (hd _ _ p.par)];exact p.par,p.fits,p.rw,p.ne⟩
theorem ParAt.absd {P:Program} {B B':Hp} {π:Nat→Nat} {k:Nat} {l:List (Nat × Option Blk)} (p:ParAt L tb cap pb B st) (hd:∀ j c,B.m j=some c→j < B.n) (a:Absb (P:=P) ⟨B,π,k,l⟩ B'):ParAt L tb cap pb B' st:=p.off ⟨a.le,a.old⟩ hd
theorem set_set (h:Hp) (i:Nat) (a b:Blk):(h.set i a).set i b=h.set i b:=Hp.eq (fun j=>by show (if j=i then some b else (if j=i then some a else h.m j))=(if j=i then some b else h.m j);split<;>rfl) rfl
structure Now (L:List TokS) (tb cap pb:Nat) (h B:Hp) (st:PS):Prop where
 p:ParAt L tb cap pb B st
 d:∀ i b,B.m i=some b→i < B.n
 o:OffP pb h B
theorem Now.set {B:Hp} {st':PS} (q:Now L tb cap pb h B st) (f:st'.Fits):Now L tb cap pb h (B.set pb (psB L tb cap st')) st':=⟨q.p.set f,set_dom q.d (q.d _ _ q.p.par),q.o.trans (OffP.set _ _)⟩
theorem Now.ends {P:Program} {B B':Hp} {π:Nat→Nat} {k:Nat} {l:List (Nat × Option Blk)} (q:Now L tb cap pb h B st) (a:Absb (P:=P) ⟨B,π,k,l⟩ B'):ParAt L tb cap pb B' st∧OffP pb h B':=⟨q.p.absd q.d a,q.o.abs a⟩
theorem spec_iff {T:Nat→TokS} {s:SpecS} {t:PS} (hs:specS T st=some (s,t)):∃ b1 u1 u2,st.take T bSecret=some (b1,u1)∧((b1=true∧u2=u1)∨(b1=false∧∃ b2,u1.take T bPublic=some (b2,u2)))∧∃ u3,u2.take T bStruct=some (false,u3)∧∃ b4 u4,u3.take T bVoid=some (b4,u4) ∧
 ((b4=true∧s=⟨b1,bVoid,false,⟨#[]⟩,(st.tok T).pos⟩∧t=u4)∨(b4=false∧∃ b5 u5,u4.take T bUns=some (b5,u5)∧∃ g u6,((b5=true∧g=false∧u6=u5)∨(b5=false∧u5.take T bSig=some (g,u6)))∧specW T ⟨b1,⟨#[]⟩,b5,⟨#[]⟩,(st.tok T).pos⟩ u6 g [bChar,bShort,bInt,bLong]=some (s,t))):=by
 unfold specS at hs
 obtain ⟨⟨b1,u1⟩,h1,hs⟩:=bind_some' hs
 obtain ⟨u2,h2,hs⟩:=bind_some' hs
 obtain ⟨⟨b3,u3⟩,h3,hs⟩:=bind_some' hs
 refine ⟨b1,u1,u2,h1,?_,?_⟩
 ·unfold specPub at h2
  cases b1 with
  | true=>simp only [if_true,Option.some.injEq] at h2;exact .inl ⟨rfl,h2.symm⟩
  | false =>
   simp only [Bool.false_eq_true,if_false] at h2
   obtain ⟨⟨b2,u2'⟩,h2',rfl⟩:=Option.map_eq_some_iff.1 h2
   exact .inr ⟨rfl,b2,h2'⟩
 ·cases b3 with
  | true=>simp at hs
  | false =>
   simp only [Bool.false_eq_true,if_false] at hs
   obtain ⟨⟨b4,u4⟩,h4,hs⟩:=bind_some' hs
   refine ⟨u3,h3,b4,u4,h4,?_⟩
   cases b4 with
   | true=>simp only [if_true,Option.some.injEq,Prod.mk.injEq] at hs;exact .inl ⟨rfl,hs.1.symm,hs.2.symm⟩
   | false =>
    simp only [Bool.false_eq_true,if_false] at hs
    obtain ⟨⟨b5,u5⟩,h5,hs⟩:=bind_some' hs
    obtain ⟨⟨g,u6⟩,h6,hs⟩:=bind_some' hs
    refine .inr ⟨rfl,b5,u5,h5,g,u6,?_,hs⟩
    unfold specSig at h6
    cases b5 with
    | true=>simp only [if_true,Option.some.injEq,Prod.mk.injEq] at h6;exact .inl ⟨rfl,h6.1.symm,h6.2.symm⟩
    | false=>simp only [Bool.false_eq_true,if_false] at h6;exact .inr ⟨rfl,h6⟩
theorem specW_iff {T:Nat→TokS} {s0 s:SpecS} {t:PS} {g:Bool} {w:ByteArray} {l:List ByteArray} (hs:specW T s0 st g (w::l)=some (s,t)):∃ b u,st.take T w=some (b,u)∧((b=true∧s={ s0 with word:=w }∧t=u)∨(b=false∧specW T s0 u g l=some (s,t))):=by
 rw [specW] at hs
 obtain ⟨⟨b,u⟩,h,hs⟩:=bind_some' hs
 refine ⟨b,u,h,?_⟩
 cases b with
 | true=>simp only [if_true,Option.some.injEq,Prod.mk.injEq] at hs;exact .inl ⟨rfl,hs.1.symm,hs.2.symm⟩
 | false=>exact .inr ⟨rfl,hs⟩
set_option maxHeartbeats 0 in
theorem spec_ex (hL:ToksOK L) (p:ParAt L tb cap pb h st) {s:SpecS} {t:PS} (hs:specS (tokN L) st=some (s,t)):EX Tryz.prog 62 [ptrC pb] h (StepQ L tb cap pb h (.agg ⟨specC s⟩) t):=by
 refine EX.intro (fn:=Tryz.f62) (c:=(Tryz.f62.body.getD .skip)) Tryz.func62 (by kernel_rfl) Tryz.ntmps62 (by kernel_rfl) fun π s0=>?_
 conv=>arg 2;whnf
 have q:Now L tb cap pb h h st:=⟨p,s0.dom,OffP.refl pb h⟩
 have q0:=q
 obtain ⟨b1,u1,u2,h1,hp,u3,h3,b4,u4,h4,hr⟩:=spec_iff hs
 have f1:=p.fits.take h1
 have f2:u2.Fits:=by
  rcases hp with ⟨_,rfl⟩|⟨_,b2,h2⟩
  ·exact f1
  ·exact f1.take h2
 ((with_reducible apply W.seq);repeat (first|refine Y9 ?_|refine Y0 ?_|refine Y1 ?_|refine Ym ?_))
 ((with_reducible apply W.seq);repeat (first|refine Y2u ?_|refine Y4k ?_|refine Y11 ?_|refine Y2 ?_|refine Y9 ?_|refine Ya ?_|refine Y0 ?_|refine Y1 ?_|refine Ym ?_))
 with_reducible apply W.seq
 refine W.joinT (X:=Unit) (fun π _=>[(0,ptrC pb),(2,ptrC (π 0)),(3,ptrC (π 1))]) (fun _=>h.set pb (psB L tb cap u2)) (fun π _=>[(0,some ⟨⟨[.bool false,.string ⟨#[]⟩,.bool false,.string ⟨#[]⟩,.int .i64 0]⟩,111⟩),(1,some ⟨⟨[.bool b1,.string ⟨#[]⟩,.bool false,.string ⟨#[]⟩,.int .i64 (st.tok (tokN L)).pos]⟩,111⟩)]) (fun _=>True) 2 ?_ ?_
 ·rcases hp with ⟨rfl,rfl⟩|⟨rfl,b2,h2⟩
  ·repeat (first|((with_reducible apply (RS.callWB (g0:=66) []));(iterate 3 exact rfl);exact q.p.par;exact q.d _ _ q.p.par;exact fun H hH=>take_tf hL (q.p.sees q.d hH) _ h1;(have q:=q.set (q.p.fits.take h1));(try (rw [set_set];rw [set_set] at q)))|refine Y1r ?_|refine Y2 ?_|refine Y0 ?_|refine Y1x ?_|refine Y1 ?_|refine Y5 ?_)
   exact joinK_n () [0,1] rfl rfl trivial (by (refine FitL.mk ?_ ?_ ?_ ?_<;>(repeat' (first|exact trivial|exact rfl|apply And.intro));done))
  ·repeat (first|((with_reducible apply (RS.callWB (g0:=66) []));(iterate 3 exact rfl);first|exact q.p.par;exact q.d _ _ q.p.par;exact fun H hH=>take_tf hL (q.p.sees q.d hH) _ h1;(have q:=q.set (q.p.fits.take h1));(try (rw [set_set];rw [set_set] at q))|exact q.p.par;exact q.d _ _ q.p.par;exact fun H hH=>take_tf hL (q.p.sees q.d hH) _ h2;(have q:=q.set (q.p.fits.take h2));(try (rw [set_set];rw [set_set] at q)))|refine Y11 ?_|refine Y0 ?_|refine Y1x ?_|refine Y1 ?_|refine Y3 ?_)
   exact joinK_n () [0,1] rfl rfl trivial (by (refine FitL.mk ?_ ?_ ?_ ?_<;>(repeat' (first|exact trivial|exact rfl|apply And.intro));done))
 ·intro π1 _ _
  have q:=q0.set f2
  clear hp
  rcases hr with ⟨rfl,rfl,rfl⟩|⟨rfl,b5,u5,h5,g,u6,hg,hw⟩
  ·repeat (first|((with_reducible apply (RS.callWB (g0:=66) []));(iterate 3 exact rfl);first|exact q.p.par;exact q.d _ _ q.p.par;exact fun H hH=>take_tf hL (q.p.sees q.d hH) _ h3;(have q:=q.set (q.p.fits.take h3));(try (rw [set_set];rw [set_set] at q))|exact q.p.par;exact q.d _ _ q.p.par;exact fun H hH=>take_tf hL (q.p.sees q.d hH) _ h4;(have q:=q.set (q.p.fits.take h4));(try (rw [set_set];rw [set_set] at q)))|refine Yu ?_|refine Yg ?_|refine Y2 ?_|refine Y0 ?_|refine Yz ?_|refine Y1 ?_|refine Y5 ?_|refine Y3 ?_)
   exact endsK_ret _ (.cons (.cellN rfl rfl rfl (Nat.le_of_ble_eq_true rfl)) .nil) fun B' a=>⟨rfl,(q.ends a).1,(q.ends a).2⟩
  have f4:=(f2.take h3).take h4
  have f6:u6.Fits:=by
   rcases hg with ⟨_,_,rfl⟩|⟨_,h6⟩
   ·exact f4.take h5
   ·exact (f4.take h5).take h6
  ((with_reducible apply W.seq);repeat (first|(with_reducible apply W.block)))
  ((with_reducible apply W.seq);repeat (first|((with_reducible apply (RS.callWB (g0:=66) []));(iterate 3 exact rfl);exact q.p.par;exact q.d _ _ q.p.par;exact fun H hH=>take_tf hL (q.p.sees q.d hH) _ h3;(have q:=q.set (q.p.fits.take h3));(try (rw [set_set];rw [set_set] at q)))|refine Y7 ?_|refine Y0 ?_|refine Y1 ?_|refine Y3 ?_|refine Ym ?_))
  ((with_reducible apply W.seq);repeat (first|((with_reducible apply (RS.callWB (g0:=66) []));(iterate 3 exact rfl);exact q.p.par;exact q.d _ _ q.p.par;exact fun H hH=>take_tf hL (q.p.sees q.d hH) _ h4;(have q:=q.set (q.p.fits.take h4));(try (rw [set_set];rw [set_set] at q)))|refine Y7 ?_|refine Y0 ?_|refine Y1 ?_|(with_reducible first|apply W.skip|apply thenK_n|apply blockK_n)|refine Y3 ?_))
  ((with_reducible apply W.seq);repeat (first|refine Yw ?_|refine Y0 ?_|refine Y1 ?_|refine Ym ?_))
  with_reducible apply W.seq
  refine W.joinT (X:=Unit) (fun π _=>[(0,ptrC pb),(2,ptrC (π 0)),(3,ptrC (π 1)),(4,.bool g)]) (fun _=>h.set pb (psB L tb cap u6)) (fun π _=>[(0,some ⟨⟨[.bool false,.string ⟨#[]⟩,.bool false,.string ⟨#[]⟩,.int .i64 0]⟩,111⟩),(1,some ⟨⟨[.bool b1,.string ⟨#[]⟩,.bool b5,.string ⟨#[]⟩,.int .i64 (st.tok (tokN L)).pos]⟩,111⟩)]) (fun _=>True) 2 ?_ ?_
  ·rcases hg with ⟨rfl,rfl,rfl⟩|⟨rfl,h6⟩
   ·repeat (first|((with_reducible apply (RS.callWB (g0:=66) []));(iterate 3 exact rfl);exact q.p.par;exact q.d _ _ q.p.par;exact fun H hH=>take_tf hL (q.p.sees q.d hH) _ h5;(have q:=q.set (q.p.fits.take h5));(try (rw [set_set];rw [set_set] at q)))|refine Y1r ?_|refine Y2 ?_|refine Y0 ?_|refine Y1x ?_|refine Y1 ?_|refine Y5 ?_)
    exact joinK_n () [0,1] rfl rfl trivial (by (refine FitL.mk ?_ ?_ ?_ ?_<;>(repeat' (first|exact trivial|exact rfl|apply And.intro));done))
   ·repeat (first|((with_reducible apply (RS.callWB (g0:=66) []));(iterate 3 exact rfl);first|exact q.p.par;exact q.d _ _ q.p.par;exact fun H hH=>take_tf hL (q.p.sees q.d hH) _ h5;(have q:=q.set (q.p.fits.take h5));(try (rw [set_set];rw [set_set] at q))|exact q.p.par;exact q.d _ _ q.p.par;exact fun H hH=>take_tf hL (q.p.sees q.d hH) _ h6;(have q:=q.set (q.p.fits.take h6));(try (rw [set_set];rw [set_set] at q)))|refine Y7 ?_|refine Y0 ?_|refine Y1x ?_|refine Y1 ?_|refine Y3 ?_)
    exact joinK_n () [0,1] rfl rfl trivial (by (refine FitL.mk ?_ ?_ ?_ ?_<;>(repeat' (first|exact trivial|exact rfl|apply And.intro));done))
  ·intro π2 _ _
   have q:=q0.set f6
   clear hg
   obtain ⟨b7,u7,h7,hw⟩:=specW_iff hw
   rcases hw with ⟨rfl,rfl,rfl⟩|⟨rfl,hw⟩
   ·repeat (first|((with_reducible apply (RS.callWB (g0:=66) []));(iterate 3 exact rfl);exact q.p.par;exact q.d _ _ q.p.par;exact fun H hH=>take_tf hL (q.p.sees q.d hH) _ h7;(have q:=q.set (q.p.fits.take h7));(try (rw [set_set];rw [set_set] at q)))|refine Yi ?_|refine Y5h ?_|refine Y1l ?_|refine Y64 ?_|refine Y10 ?_|refine Y3c ?_|refine Y6 ?_|refine Yh ?_|refine Yg ?_|refine Y2 ?_|refine Y0 ?_|refine Ys ?_|refine Y1 ?_|refine Y5 ?_)
    exact endsK_ret _ (.cons (.cellN rfl rfl rfl (Nat.le_of_ble_eq_true rfl)) .nil) fun B' a=>⟨rfl,(q.ends a).1,(q.ends a).2⟩
   obtain ⟨b8,u8,h8,hw⟩:=specW_iff hw
   rcases hw with ⟨rfl,rfl,rfl⟩|⟨rfl,hw⟩
   ·repeat (first|((with_reducible apply (RS.callWB (g0:=66) []));(iterate 3 exact rfl);first|exact q.p.par;exact q.d _ _ q.p.par;exact fun H hH=>take_tf hL (q.p.sees q.d hH) _ h7;(have q:=q.set (q.p.fits.take h7));(try (rw [set_set];rw [set_set] at q))|exact q.p.par;exact q.d _ _ q.p.par;exact fun H hH=>take_tf hL (q.p.sees q.d hH) _ h8;(have q:=q.set (q.p.fits.take h8));(try (rw [set_set];rw [set_set] at q)))|refine Yi ?_|refine Y5h ?_|refine Y1l ?_|refine Y2z ?_|refine Y64 ?_|refine Y10 ?_|refine Y3c ?_|refine Y6 ?_|refine Y1q ?_|refine Yh ?_|refine Yg ?_|refine Y2 ?_|refine Y0 ?_|refine Y1m ?_|refine Y1 ?_|refine Y5 ?_|refine Y3 ?_)
    exact endsK_ret _ (.cons (.cellN rfl rfl rfl (Nat.le_of_ble_eq_true rfl)) .nil) fun B' a=>⟨rfl,(q.ends a).1,(q.ends a).2⟩
   obtain ⟨b9,u9,h9,hw⟩:=specW_iff hw
   rcases hw with ⟨rfl,rfl,rfl⟩|⟨rfl,hw⟩
   ·repeat (first|((with_reducible apply (RS.callWB (g0:=66) []));(iterate 3 exact rfl);first|exact q.p.par;exact q.d _ _ q.p.par;exact fun H hH=>take_tf hL (q.p.sees q.d hH) _ h7;(have q:=q.set (q.p.fits.take h7));(try (rw [set_set];rw [set_set] at q))|exact q.p.par;exact q.d _ _ q.p.par;exact fun H hH=>take_tf hL (q.p.sees q.d hH) _ h8;(have q:=q.set (q.p.fits.take h8));(try (rw [set_set];rw [set_set] at q))|exact q.p.par;exact q.d _ _ q.p.par;exact fun H hH=>take_tf hL (q.p.sees q.d hH) _ h9;(have q:=q.set (q.p.fits.take h9));(try (rw [set_set];rw [set_set] at q)))|refine Yi ?_|refine Y5h ?_|refine Y1l ?_|refine Y2z ?_|refine Y64 ?_|refine Y10 ?_|refine Y3c ?_|refine Y6 ?_|refine Y1q ?_|refine Yh ?_|refine Yg ?_|refine Y2 ?_|refine Y0 ?_|refine Y1m ?_|refine Y1 ?_|refine Y5 ?_|refine Y3 ?_)
    exact endsK_ret _ (.cons (.cellN rfl rfl rfl (Nat.le_of_ble_eq_true rfl)) .nil) fun B' a=>⟨rfl,(q.ends a).1,(q.ends a).2⟩
   obtain ⟨b10,u10,h10,hw⟩:=specW_iff hw
   rcases hw with ⟨rfl,rfl,rfl⟩|⟨rfl,hw⟩
   ·repeat (first|((with_reducible apply (RS.callWB (g0:=66) []));(iterate 3 exact rfl);first|exact q.p.par;exact q.d _ _ q.p.par;exact fun H hH=>take_tf hL (q.p.sees q.d hH) _ h7;(have q:=q.set (q.p.fits.take h7));(try (rw [set_set];rw [set_set] at q))|exact q.p.par;exact q.d _ _ q.p.par;exact fun H hH=>take_tf hL (q.p.sees q.d hH) _ h8;(have q:=q.set (q.p.fits.take h8));(try (rw [set_set];rw [set_set] at q))|exact q.p.par;exact q.d _ _ q.p.par;exact fun H hH=>take_tf hL (q.p.sees q.d hH) _ h9;(have q:=q.set (q.p.fits.take h9));(try (rw [set_set];rw [set_set] at q))|exact q.p.par;exact q.d _ _ q.p.par;exact fun H hH=>take_tf hL (q.p.sees q.d hH) _ h10;(have q:=q.set (q.p.fits.take h10));(try (rw [set_set];rw [set_set] at q)))|refine Yi ?_|refine Y5h ?_|refine Y1l ?_|refine Y2z ?_|refine Y64 ?_|refine Y10 ?_|refine Y3c ?_|refine Y6 ?_|refine Y1q ?_|refine Yh ?_|refine Yg ?_|refine Y2 ?_|refine Y0 ?_|refine Y1m ?_|refine Y1 ?_|refine Y5 ?_|refine Y3 ?_)
    exact endsK_ret _ (.cons (.cellN rfl rfl rfl (Nat.le_of_ble_eq_true rfl)) .nil) fun B' a=>⟨rfl,(q.ends a).1,(q.ends a).2⟩
   rw [specW] at hw
   simp only [Option.some.injEq,Prod.mk.injEq] at hw
   obtain ⟨rfl,rfl⟩:=hw
   cases b5 with
   | true =>
    repeat (first|((with_reducible apply (RS.callWB (g0:=66) []));(iterate 3 exact rfl);first|exact q.p.par;exact q.d _ _ q.p.par;exact fun H hH=>take_tf hL (q.p.sees q.d hH) _ h7;(have q:=q.set (q.p.fits.take h7));(try (rw [set_set];rw [set_set] at q))|exact q.p.par;exact q.d _ _ q.p.par;exact fun H hH=>take_tf hL (q.p.sees q.d hH) _ h8;(have q:=q.set (q.p.fits.take h8));(try (rw [set_set];rw [set_set] at q))|exact q.p.par;exact q.d _ _ q.p.par;exact fun H hH=>take_tf hL (q.p.sees q.d hH) _ h9;(have q:=q.set (q.p.fits.take h9));(try (rw [set_set];rw [set_set] at q))|exact q.p.par;exact q.d _ _ q.p.par;exact fun H hH=>take_tf hL (q.p.sees q.d hH) _ h10;(have q:=q.set (q.p.fits.take h10));(try (rw [set_set];rw [set_set] at q)))|refine Yi ?_|refine Y5h ?_|refine Y1l ?_|refine Y2z ?_|refine Y23 ?_|refine Y10 ?_|refine Y45 ?_|refine Yc ?_|refine Y6 ?_|refine Y4 ?_|refine Y1q ?_|refine Yh ?_|refine Yg ?_|refine Y2 ?_|refine Yk ?_|refine Y0 ?_|refine Y1w ?_|refine Y1 ?_|refine Y5 ?_|refine Y3 ?_|refine Yn ?_)
    exact endsK_ret _ (.cons (.cellN rfl rfl rfl (Nat.le_of_ble_eq_true rfl)) .nil) fun B' a=>⟨rfl,(q.ends a).1,(q.ends a).2⟩
   | false =>
    cases g with
    | true =>
     repeat (first|((with_reducible apply (RS.callWB (g0:=66) []));(iterate 3 exact rfl);first|exact q.p.par;exact q.d _ _ q.p.par;exact fun H hH=>take_tf hL (q.p.sees q.d hH) _ h7;(have q:=q.set (q.p.fits.take h7));(try (rw [set_set];rw [set_set] at q))|exact q.p.par;exact q.d _ _ q.p.par;exact fun H hH=>take_tf hL (q.p.sees q.d hH) _ h8;(have q:=q.set (q.p.fits.take h8));(try (rw [set_set];rw [set_set] at q))|exact q.p.par;exact q.d _ _ q.p.par;exact fun H hH=>take_tf hL (q.p.sees q.d hH) _ h9;(have q:=q.set (q.p.fits.take h9));(try (rw [set_set];rw [set_set] at q))|exact q.p.par;exact q.d _ _ q.p.par;exact fun H hH=>take_tf hL (q.p.sees q.d hH) _ h10;(have q:=q.set (q.p.fits.take h10));(try (rw [set_set];rw [set_set] at q)))|refine Yi ?_|refine Y5h ?_|refine Y1l ?_|refine Y2z ?_|refine Y23 ?_|refine Y10 ?_|refine Y45 ?_|refine Yd ?_|refine Y6 ?_|refine Y4 ?_|refine Y1q ?_|refine Yh ?_|refine Yg ?_|refine Y2 ?_|refine Y0 ?_|refine Y1w ?_|refine Y1 ?_|refine Y5 ?_|refine Y3 ?_|refine Yn ?_)
     exact endsK_ret _ (.cons (.cellN rfl rfl rfl (Nat.le_of_ble_eq_true rfl)) .nil) fun B' a=>⟨rfl,(q.ends a).1,(q.ends a).2⟩
    | false =>
     repeat (first|((with_reducible apply (RS.callWB (g0:=66) []));(iterate 3 exact rfl);first|exact q.p.par;exact q.d _ _ q.p.par;exact fun H hH=>take_tf hL (q.p.sees q.d hH) _ h7;(have q:=q.set (q.p.fits.take h7));(try (rw [set_set];rw [set_set] at q))|exact q.p.par;exact q.d _ _ q.p.par;exact fun H hH=>take_tf hL (q.p.sees q.d hH) _ h8;(have q:=q.set (q.p.fits.take h8));(try (rw [set_set];rw [set_set] at q))|exact q.p.par;exact q.d _ _ q.p.par;exact fun H hH=>take_tf hL (q.p.sees q.d hH) _ h9;(have q:=q.set (q.p.fits.take h9));(try (rw [set_set];rw [set_set] at q))|exact q.p.par;exact q.d _ _ q.p.par;exact fun H hH=>take_tf hL (q.p.sees q.d hH) _ h10;(have q:=q.set (q.p.fits.take h10));(try (rw [set_set];rw [set_set] at q)))|((with_reducible apply (RS.callWB (g0:=59) []));(iterate 3 exact rfl);exact q.p.par;exact q.d _ _ q.p.par;exact fun H hH=>fail_tf hL (q.p.sees q.d hH) 11;(have q:=q.set (q.p.fits.fail (L:=tokN L) 11));(try (rw [set_set];rw [set_set] at q)))|refine Yi ?_|refine Y5h ?_|refine Y1l ?_|refine Y2z ?_|refine Y23 ?_|refine Y10 ?_|refine Y45 ?_|refine Yd ?_|refine Y6 ?_|refine Y4 ?_|refine Y1q ?_|refine Yh ?_|refine Yg ?_|refine Y2 ?_|refine Y0 ?_|refine Y1w ?_|refine Y1 ?_|refine Y5 ?_|refine Y3 ?_|refine Yn ?_)
     exact endsK_ret _ (.cons (.cellN rfl rfl rfl (Nat.le_of_ble_eq_true rfl)) .nil) fun B' a=>⟨rfl,(q.ends a).1,(q.ends a).2⟩
end
end Go.Proofs.YtgpigfcagppohaaGreatDoor
