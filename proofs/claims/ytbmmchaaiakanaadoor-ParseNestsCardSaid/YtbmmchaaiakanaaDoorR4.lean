/-
  What the functions that the law reaches compute,told by plain data;it holds of programs that pass the check of right form and are light.
-/
import Derived.Test.YtbmmchaaiakanaaDoorR3
import Derived.Test.YtbmmchaaiakanaaDoorS2
set_option linter.unusedVariables false
set_option linter.unusedSimpArgs false
namespace Go.Proofs.YtbmmchaaiakanaaDoor
open Go.AH
attribute [local irreducible] W RS WR
theorem set_dom {h:Hp} {i:Nat} {b:Blk} (hd:∀ j c,h.m j=some c→j < h.n) (hi:i < h.n):∀ j c,(h.set i b).m j=some c→j < (h.set i b).n:=by
 intro j c hc
 have hc:(if j=i then some b else h.m j)=some c:=hc
 by_cases e:j=i
 ·rw [e];exact hi
 ·rw [if_neg e] at hc;exact hd j c hc
section
variable {L:List TokS} {tb cap pb:Nat} {h:Hp} {st:PS}
theorem ParAt.sees {B H:Hp} {π:Nat→Nat} {k:Nat} {l:List (Nat × Option Blk)} {vl:List Nat} (p:ParAt L tb cap pb B st) (hd:∀ j c,B.m j=some c→j < B.n) (hH:Sees ⟨B,π,k,l⟩ true vl H):ParAt L tb cap pb H st :=
 ⟨by rw [hH.b rfl _ (hd _ _ p.tok)];exact p.tok,by rw [hH.b rfl _ (hd _ _ p.par)];exact p.par,p.fits,p.rw,p.ne⟩
theorem ParAt.absd {P:Program} {B B':Hp} {π:Nat→Nat} {k:Nat} {l:List (Nat × Option Blk)} (p:ParAt L tb cap pb B st) (hd:∀ j c,B.m j=some c→j < B.n) (a:Absb (P:=P) ⟨B,π,k,l⟩ B'):ParAt L tb cap pb B' st:=p.off ⟨a.le,a.old⟩ hd
theorem set_set (h:Hp) (i:Nat) (a b:Blk):(h.set i a).set i b=h.set i b:=Hp.eq (fun j=>by show (if j=i then some b else (if j=i then some a else h.m j))=(if j=i then some b else h.m j);split<;>rfl) rfl
structure Now (L:List TokS) (tb cap pb:Nat) (h B:Hp) (st:PS):Prop where
 p:ParAt L tb cap pb B st
 d:∀ i b,B.m i=some b→i < B.n
 o:OffP pb h B
theorem Now.set {B:Hp} {st':PS} (q:Now L tb cap pb h B st) (f:st'.Fits):Now L tb cap pb h (B.set pb (psB L tb cap st')) st':=⟨q.p.set f,set_dom q.d (q.d _ _ q.p.par),q.o.trans (OffP.set _ _)⟩
theorem Now.ends {P:Program} {B B':Hp} {π:Nat→Nat} {k:Nat} {l:List (Nat × Option Blk)} (q:Now L tb cap pb h B st) (a:Absb (P:=P) ⟨B,π,k,l⟩ B'):ParAt L tb cap pb B' st∧OffP pb h B':=⟨q.p.absd q.d a,q.o.abs a⟩
theorem spec_iff {T:Nat→TokS} {s:SpecS} {t:PS} (hs:specS T st=some (s,t)):∃ b1 u1 u2,st.take T bSecret=some (b1,u1)∧((b1=true∧u2=u1)∨(b1=false∧∃ b2,u1.take T bPublic=some (b2,u2)))∧∃ u3,u2.take T bStruct=some (false,u3)∧∃ b4 u4,u3.take T bVoid=some (b4,u4) ∧
 ((b4=true∧s=⟨b1,bVoid,false,⟨#[]⟩,(st.tok T).pos⟩∧t=u4)∨(b4=false∧∃ b5 u5,u4.take T bUns=some (b5,u5)∧∃ g u6,((b5=true∧g=false∧u6=u5)∨(b5=false∧u5.take T bSig=some (g,u6)))∧specW T ⟨b1,⟨#[]⟩,b5,⟨#[]⟩,(st.tok T).pos⟩ u6 g [bChar,bShort,bInt,bLong]=some (s,t))):=by
 unfold specS at hs
 obtain ⟨⟨b1,u1⟩,h1,hs⟩:=bind_some' hs
 obtain ⟨u2,h2,hs⟩:=bind_some' hs
 obtain ⟨⟨b3,u3⟩,h3,hs⟩:=bind_some' hs
 refine ⟨b1,u1,u2,h1,?_,?_⟩
 ·unfold specPub at h2
  cases b1 with
  | true=>simp only [if_true,Option.some.injEq] at h2;exact .inl ⟨rfl,h2.symm⟩
  | false =>
   simp only [Bool.false_eq_true,if_false] at h2
   obtain ⟨⟨b2,u2'⟩,h2',rfl⟩:=Option.map_eq_some_iff.1 h2
   exact .inr ⟨rfl,b2,h2'⟩
 ·cases b3 with
  | true=>simp at hs
  | false =>
   simp only [Bool.false_eq_true,if_false] at hs
   obtain ⟨⟨b4,u4⟩,h4,hs⟩:=bind_some' hs
   refine ⟨u3,h3,b4,u4,h4,?_⟩
   cases b4 with
   | true=>simp only [if_true,Option.some.injEq,Prod.mk.injEq] at hs;exact .inl ⟨rfl,hs.1.symm,hs.2.symm⟩
   | false =>
    simp only [Bool.false_eq_true,if_false] at hs
    obtain ⟨⟨b5,u5⟩,h5,hs⟩:=bind_some' hs
    obtain ⟨⟨g,u6⟩,h6,hs⟩:=bind_some' hs
    refine .inr ⟨rfl,b5,u5,h5,g,u6,?_,hs⟩
    unfold specSig at h6
    cases b5 with
    | true=>simp only [if_true,Option.some.injEq,Prod.mk.injEq] at h6;exact .inl ⟨rfl,h6.1.symm,h6.2.symm⟩
    | false=>simp only [Bool.false_eq_true,if_false] at h6;exact .inr ⟨rfl,h6⟩
theorem specW_iff {T:Nat→TokS} {s0 s:SpecS} {t:PS} {g:Bool} {w:ByteArray} {l:List ByteArray} (hs:specW T s0 st g (w::l)=some (s,t)):∃ b u,st.take T w=some (b,u)∧((b=true∧s={ s0 with word:=w }∧t=u)∨(b=false∧specW T s0 u g l=some (s,t))):=by
 rw [specW] at hs
 obtain ⟨⟨b,u⟩,h,hs⟩:=bind_some' hs
 refine ⟨b,u,h,?_⟩
 cases b with
 | true=>simp only [if_true,Option.some.injEq,Prod.mk.injEq] at hs;exact .inl ⟨rfl,hs.1.symm,hs.2.symm⟩
 | false=>exact .inr ⟨rfl,hs⟩
set_option maxHeartbeats 0 in
theorem spec_ex (hL:ToksOK L) (p:ParAt L tb cap pb h st) {s:SpecS} {t:PS} (hs:specS (tokN L) st=some (s,t)):EX Tryd.prog 20 [ptrC pb] h (StepQ L tb cap pb h (.agg ⟨specC s⟩) t):=by
 refine EX.intro (fn:=Tryd.f20) (c:=(Tryd.f20.body.getD .skip)) Tryd.func20 (by kernel_rfl) Tryd.ntmps20 (by kernel_rfl) fun π s0=>?_
 conv=>arg 2;whnf
 have q:Now L tb cap pb h h st:=⟨p,s0.dom,OffP.refl pb h⟩
 have q0:=q
 obtain ⟨b1,u1,u2,h1,hp,u3,h3,b4,u4,h4,hr⟩:=spec_iff hs
 have f1:=p.fits.take h1
 have f2:u2.Fits:=by
  rcases hp with ⟨_,rfl⟩|⟨_,b2,h2⟩
  ·exact f1
  ·exact f1.take h2
 ((with_reducible apply W.seq);repeat (first|refine Y8 ?_|refine Y0 ?_|refine Y1 ?_|refine Ym ?_))
 ((with_reducible apply W.seq);repeat (first|refine Y1i ?_|refine Y2f ?_|refine Yq ?_|refine Y2 ?_|refine Y8 ?_|refine Yi ?_|refine Y0 ?_|refine Y1 ?_|refine Ym ?_))
 with_reducible apply W.seq
 refine W.joinT (X:=Unit) (fun π _=>[(0,ptrC pb),(2,ptrC (π 0)),(3,ptrC (π 1))]) (fun _=>h.set pb (psB L tb cap u2)) (fun π _=>[(0,some ⟨⟨[.bool false,.string ⟨#[]⟩,.bool false,.string ⟨#[]⟩,.int .i64 0]⟩,39⟩),(1,some ⟨⟨[.bool b1,.string ⟨#[]⟩,.bool false,.string ⟨#[]⟩,.int .i64 (st.tok (tokN L)).pos]⟩,39⟩)]) (fun _=>True) 2 ?_ ?_
 ·rcases hp with ⟨rfl,rfl⟩|⟨rfl,b2,h2⟩
  ·repeat (first|((with_reducible apply (RS.callWB (g0:=24) []));(iterate 3 exact rfl);exact q.p.par;exact q.d _ _ q.p.par;exact fun H hH=>take_tf hL (q.p.sees q.d hH) _ h1;(have q:=q.set (q.p.fits.take h1));(try (rw [set_set];rw [set_set] at q)))|refine Y2h ?_|refine Y2 ?_|refine Y0 ?_|refine Y12 ?_|refine Y1 ?_|refine Y5 ?_)
   exact joinK_n () [0,1] rfl rfl trivial (by (refine FitL.mk ?_ ?_ ?_ ?_<;>(repeat' (first|exact trivial|exact rfl|apply And.intro));done))
  ·repeat (first|((with_reducible apply (RS.callWB (g0:=24) []));(iterate 3 exact rfl);first|exact q.p.par;exact q.d _ _ q.p.par;exact fun H hH=>take_tf hL (q.p.sees q.d hH) _ h1;(have q:=q.set (q.p.fits.take h1));(try (rw [set_set];rw [set_set] at q))|exact q.p.par;exact q.d _ _ q.p.par;exact fun H hH=>take_tf hL (q.p.sees q.d hH) _ h2;(have q:=q.set (q.p.fits.take h2));(try (rw [set_set];rw [set_set] at q)))|refine Yq ?_|refine Y0 ?_|refine Y12 ?_|refine Y1 ?_|refine Y3 ?_)
   exact joinK_n () [0,1] rfl rfl trivial (by (refine FitL.mk ?_ ?_ ?_ ?_<;>(repeat' (first|exact trivial|exact rfl|apply And.intro));done))
 ·intro π1 _ _
  have q:=q0.set f2
  clear hp
  rcases hr with ⟨rfl,rfl,rfl⟩|⟨rfl,b5,u5,h5,g,u6,hg,hw⟩
  ·repeat (first|((with_reducible apply (RS.callWB (g0:=24) []));(iterate 3 exact rfl);first|exact q.p.par;exact q.d _ _ q.p.par;exact fun H hH=>take_tf hL (q.p.sees q.d hH) _ h3;(have q:=q.set (q.p.fits.take h3));(try (rw [set_set];rw [set_set] at q))|exact q.p.par;exact q.d _ _ q.p.par;exact fun H hH=>take_tf hL (q.p.sees q.d hH) _ h4;(have q:=q.set (q.p.fits.take h4));(try (rw [set_set];rw [set_set] at q)))|refine Yg ?_|refine Yk ?_|refine Y2 ?_|refine Y0 ?_|refine Y1u ?_|refine Y1 ?_|refine Y5 ?_|refine Y3 ?_)
   exact endsK_ret _ (.cons (.cellN rfl rfl rfl (Nat.le_of_ble_eq_true rfl)) .nil) fun B' a=>⟨rfl,(q.ends a).1,(q.ends a).2⟩
  have f4:=(f2.take h3).take h4
  have f6:u6.Fits:=by
   rcases hg with ⟨_,_,rfl⟩|⟨_,h6⟩
   ·exact f4.take h5
   ·exact (f4.take h5).take h6
  ((with_reducible apply W.seq);repeat (first|(with_reducible apply W.block)))
  ((with_reducible apply W.seq);repeat (first|((with_reducible apply (RS.callWB (g0:=24) []));(iterate 3 exact rfl);exact q.p.par;exact q.d _ _ q.p.par;exact fun H hH=>take_tf hL (q.p.sees q.d hH) _ h3;(have q:=q.set (q.p.fits.take h3));(try (rw [set_set];rw [set_set] at q)))|refine Y4 ?_|refine Y0 ?_|refine Y1 ?_|refine Y3 ?_|refine Ym ?_))
  ((with_reducible apply W.seq);repeat (first|((with_reducible apply (RS.callWB (g0:=24) []));(iterate 3 exact rfl);exact q.p.par;exact q.d _ _ q.p.par;exact fun H hH=>take_tf hL (q.p.sees q.d hH) _ h4;(have q:=q.set (q.p.fits.take h4));(try (rw [set_set];rw [set_set] at q)))|refine Y4 ?_|refine Y0 ?_|refine Y1 ?_|(with_reducible first|apply W.skip|apply thenK_n|apply blockK_n)|refine Y3 ?_))
  ((with_reducible apply W.seq);repeat (first|refine Ys ?_|refine Y0 ?_|refine Y1 ?_|refine Ym ?_))
  with_reducible apply W.seq
  refine W.joinT (X:=Unit) (fun π _=>[(0,ptrC pb),(2,ptrC (π 0)),(3,ptrC (π 1)),(4,.bool g)]) (fun _=>h.set pb (psB L tb cap u6)) (fun π _=>[(0,some ⟨⟨[.bool false,.string ⟨#[]⟩,.bool false,.string ⟨#[]⟩,.int .i64 0]⟩,39⟩),(1,some ⟨⟨[.bool b1,.string ⟨#[]⟩,.bool b5,.string ⟨#[]⟩,.int .i64 (st.tok (tokN L)).pos]⟩,39⟩)]) (fun _=>True) 2 ?_ ?_
  ·rcases hg with ⟨rfl,rfl,rfl⟩|⟨rfl,h6⟩
   ·repeat (first|((with_reducible apply (RS.callWB (g0:=24) []));(iterate 3 exact rfl);exact q.p.par;exact q.d _ _ q.p.par;exact fun H hH=>take_tf hL (q.p.sees q.d hH) _ h5;(have q:=q.set (q.p.fits.take h5));(try (rw [set_set];rw [set_set] at q)))|refine Y2h ?_|refine Y2 ?_|refine Y0 ?_|refine Y12 ?_|refine Y1 ?_|refine Y5 ?_)
    exact joinK_n () [0,1] rfl rfl trivial (by (refine FitL.mk ?_ ?_ ?_ ?_<;>(repeat' (first|exact trivial|exact rfl|apply And.intro));done))
   ·repeat (first|((with_reducible apply (RS.callWB (g0:=24) []));(iterate 3 exact rfl);first|exact q.p.par;exact q.d _ _ q.p.par;exact fun H hH=>take_tf hL (q.p.sees q.d hH) _ h5;(have q:=q.set (q.p.fits.take h5));(try (rw [set_set];rw [set_set] at q))|exact q.p.par;exact q.d _ _ q.p.par;exact fun H hH=>take_tf hL (q.p.sees q.d hH) _ h6;(have q:=q.set (q.p.fits.take h6));(try (rw [set_set];rw [set_set] at q)))|refine Y4 ?_|refine Y0 ?_|refine Y12 ?_|refine Y1 ?_|refine Y3 ?_)
    exact joinK_n () [0,1] rfl rfl trivial (by (refine FitL.mk ?_ ?_ ?_ ?_<;>(repeat' (first|exact trivial|exact rfl|apply And.intro));done))
  ·intro π2 _ _
   have q:=q0.set f6
   clear hg
   obtain ⟨b7,u7,h7,hw⟩:=specW_iff hw
   rcases hw with ⟨rfl,rfl,rfl⟩|⟨rfl,hw⟩
   ·repeat (first|((with_reducible apply (RS.callWB (g0:=24) []));(iterate 3 exact rfl);exact q.p.par;exact q.d _ _ q.p.par;exact fun H hH=>take_tf hL (q.p.sees q.d hH) _ h7;(have q:=q.set (q.p.fits.take h7));(try (rw [set_set];rw [set_set] at q)))|refine Yh ?_|refine Y2j ?_|refine Y1w ?_|((with_reducible apply roundR_r))|refine Ya ?_|refine Y1o ?_|refine Y6 ?_|refine Yl ?_|refine Yk ?_|refine Y2 ?_|refine Y0 ?_|refine Y2a ?_|refine Y1 ?_|refine Y5 ?_)
    exact endsK_ret _ (.cons (.cellN rfl rfl rfl (Nat.le_of_ble_eq_true rfl)) .nil) fun B' a=>⟨rfl,(q.ends a).1,(q.ends a).2⟩
   obtain ⟨b8,u8,h8,hw⟩:=specW_iff hw
   rcases hw with ⟨rfl,rfl,rfl⟩|⟨rfl,hw⟩
   ·repeat (first|((with_reducible apply (RS.callWB (g0:=24) []));(iterate 3 exact rfl);first|exact q.p.par;exact q.d _ _ q.p.par;exact fun H hH=>take_tf hL (q.p.sees q.d hH) _ h7;(have q:=q.set (q.p.fits.take h7));(try (rw [set_set];rw [set_set] at q))|exact q.p.par;exact q.d _ _ q.p.par;exact fun H hH=>take_tf hL (q.p.sees q.d hH) _ h8;(have q:=q.set (q.p.fits.take h8));(try (rw [set_set];rw [set_set] at q)))|refine Yh ?_|refine Y2j ?_|refine Y1w ?_|refine Y3c ?_|((with_reducible apply roundR_r))|refine Ya ?_|refine Y1o ?_|refine Y6 ?_|refine Y1g ?_|refine Yl ?_|refine Yk ?_|refine Y2 ?_|refine Y0 ?_|refine Yw ?_|refine Y1 ?_|refine Y5 ?_|refine Y3 ?_)
    exact endsK_ret _ (.cons (.cellN rfl rfl rfl (Nat.le_of_ble_eq_true rfl)) .nil) fun B' a=>⟨rfl,(q.ends a).1,(q.ends a).2⟩
   obtain ⟨b9,u9,h9,hw⟩:=specW_iff hw
   rcases hw with ⟨rfl,rfl,rfl⟩|⟨rfl,hw⟩
   ·repeat (first|((with_reducible apply (RS.callWB (g0:=24) []));(iterate 3 exact rfl);first|exact q.p.par;exact q.d _ _ q.p.par;exact fun H hH=>take_tf hL (q.p.sees q.d hH) _ h7;(have q:=q.set (q.p.fits.take h7));(try (rw [set_set];rw [set_set] at q))|exact q.p.par;exact q.d _ _ q.p.par;exact fun H hH=>take_tf hL (q.p.sees q.d hH) _ h8;(have q:=q.set (q.p.fits.take h8));(try (rw [set_set];rw [set_set] at q))|exact q.p.par;exact q.d _ _ q.p.par;exact fun H hH=>take_tf hL (q.p.sees q.d hH) _ h9;(have q:=q.set (q.p.fits.take h9));(try (rw [set_set];rw [set_set] at q)))|refine Yh ?_|refine Y2j ?_|refine Y1w ?_|refine Y3c ?_|((with_reducible apply roundR_r))|refine Ya ?_|refine Y1o ?_|refine Y6 ?_|refine Y1g ?_|refine Yl ?_|refine Yk ?_|refine Y2 ?_|refine Y0 ?_|refine Yw ?_|refine Y1 ?_|refine Y5 ?_|refine Y3 ?_)
    exact endsK_ret _ (.cons (.cellN rfl rfl rfl (Nat.le_of_ble_eq_true rfl)) .nil) fun B' a=>⟨rfl,(q.ends a).1,(q.ends a).2⟩
   obtain ⟨b10,u10,h10,hw⟩:=specW_iff hw
   rcases hw with ⟨rfl,rfl,rfl⟩|⟨rfl,hw⟩
   ·repeat (first|((with_reducible apply (RS.callWB (g0:=24) []));(iterate 3 exact rfl);first|exact q.p.par;exact q.d _ _ q.p.par;exact fun H hH=>take_tf hL (q.p.sees q.d hH) _ h7;(have q:=q.set (q.p.fits.take h7));(try (rw [set_set];rw [set_set] at q))|exact q.p.par;exact q.d _ _ q.p.par;exact fun H hH=>take_tf hL (q.p.sees q.d hH) _ h8;(have q:=q.set (q.p.fits.take h8));(try (rw [set_set];rw [set_set] at q))|exact q.p.par;exact q.d _ _ q.p.par;exact fun H hH=>take_tf hL (q.p.sees q.d hH) _ h9;(have q:=q.set (q.p.fits.take h9));(try (rw [set_set];rw [set_set] at q))|exact q.p.par;exact q.d _ _ q.p.par;exact fun H hH=>take_tf hL (q.p.sees q.d hH) _ h10;(have q:=q.set (q.p.fits.take h10));(try (rw [set_set];rw [set_set] at q)))|refine Yh ?_|refine Y2j ?_|refine Y1w ?_|refine Y3c ?_|((with_reducible apply roundR_r))|refine Ya ?_|refine Y1o ?_|refine Y6 ?_|refine Y1g ?_|refine Yl ?_|refine Yk ?_|refine Y2 ?_|refine Y0 ?_|refine Yw ?_|refine Y1 ?_|refine Y5 ?_|refine Y3 ?_)
    exact endsK_ret _ (.cons (.cellN rfl rfl rfl (Nat.le_of_ble_eq_true rfl)) .nil) fun B' a=>⟨rfl,(q.ends a).1,(q.ends a).2⟩
   rw [specW] at hw
   simp only [Option.some.injEq,Prod.mk.injEq] at hw
   obtain ⟨rfl,rfl⟩:=hw
   cases b5 with
   | true =>
    repeat (first|((with_reducible apply (RS.callWB (g0:=24) []));(iterate 3 exact rfl);first|exact q.p.par;exact q.d _ _ q.p.par;exact fun H hH=>take_tf hL (q.p.sees q.d hH) _ h7;(have q:=q.set (q.p.fits.take h7));(try (rw [set_set];rw [set_set] at q))|exact q.p.par;exact q.d _ _ q.p.par;exact fun H hH=>take_tf hL (q.p.sees q.d hH) _ h8;(have q:=q.set (q.p.fits.take h8));(try (rw [set_set];rw [set_set] at q))|exact q.p.par;exact q.d _ _ q.p.par;exact fun H hH=>take_tf hL (q.p.sees q.d hH) _ h9;(have q:=q.set (q.p.fits.take h9));(try (rw [set_set];rw [set_set] at q))|exact q.p.par;exact q.d _ _ q.p.par;exact fun H hH=>take_tf hL (q.p.sees q.d hH) _ h10;(have q:=q.set (q.p.fits.take h10));(try (rw [set_set];rw [set_set] at q)))|refine Yh ?_|refine Y2j ?_|refine Y1w ?_|refine Y3c ?_|refine Y2n ?_|refine Ya ?_|refine Y27 ?_|refine Yd ?_|refine Y6 ?_|refine Y7 ?_|refine Y1g ?_|refine Yl ?_|refine Yk ?_|refine Y2 ?_|refine Yn ?_|refine Y0 ?_|refine Y19 ?_|refine Y1 ?_|refine Y5 ?_|refine Y3 ?_|refine Yf ?_)
    exact endsK_ret _ (.cons (.cellN rfl rfl rfl (Nat.le_of_ble_eq_true rfl)) .nil) fun B' a=>⟨rfl,(q.ends a).1,(q.ends a).2⟩
   | false =>
    cases g with
    | true =>
     repeat (first|((with_reducible apply (RS.callWB (g0:=24) []));(iterate 3 exact rfl);first|exact q.p.par;exact q.d _ _ q.p.par;exact fun H hH=>take_tf hL (q.p.sees q.d hH) _ h7;(have q:=q.set (q.p.fits.take h7));(try (rw [set_set];rw [set_set] at q))|exact q.p.par;exact q.d _ _ q.p.par;exact fun H hH=>take_tf hL (q.p.sees q.d hH) _ h8;(have q:=q.set (q.p.fits.take h8));(try (rw [set_set];rw [set_set] at q))|exact q.p.par;exact q.d _ _ q.p.par;exact fun H hH=>take_tf hL (q.p.sees q.d hH) _ h9;(have q:=q.set (q.p.fits.take h9));(try (rw [set_set];rw [set_set] at q))|exact q.p.par;exact q.d _ _ q.p.par;exact fun H hH=>take_tf hL (q.p.sees q.d hH) _ h10;(have q:=q.set (q.p.fits.take h10));(try (rw [set_set];rw [set_set] at q)))|refine Yh ?_|refine Y2j ?_|refine Y1w ?_|refine Y3c ?_|refine Y2n ?_|refine Ya ?_|refine Y27 ?_|refine Yb ?_|refine Y6 ?_|refine Y7 ?_|refine Y1g ?_|refine Yl ?_|refine Yk ?_|refine Y2 ?_|refine Y0 ?_|refine Y19 ?_|refine Y1 ?_|refine Y5 ?_|refine Y3 ?_|refine Yf ?_)
     exact endsK_ret _ (.cons (.cellN rfl rfl rfl (Nat.le_of_ble_eq_true rfl)) .nil) fun B' a=>⟨rfl,(q.ends a).1,(q.ends a).2⟩
    | false =>
     repeat (first|((with_reducible apply (RS.callWB (g0:=24) []));(iterate 3 exact rfl);first|exact q.p.par;exact q.d _ _ q.p.par;exact fun H hH=>take_tf hL (q.p.sees q.d hH) _ h7;(have q:=q.set (q.p.fits.take h7));(try (rw [set_set];rw [set_set] at q))|exact q.p.par;exact q.d _ _ q.p.par;exact fun H hH=>take_tf hL (q.p.sees q.d hH) _ h8;(have q:=q.set (q.p.fits.take h8));(try (rw [set_set];rw [set_set] at q))|exact q.p.par;exact q.d _ _ q.p.par;exact fun H hH=>take_tf hL (q.p.sees q.d hH) _ h9;(have q:=q.set (q.p.fits.take h9));(try (rw [set_set];rw [set_set] at q))|exact q.p.par;exact q.d _ _ q.p.par;exact fun H hH=>take_tf hL (q.p.sees q.d hH) _ h10;(have q:=q.set (q.p.fits.take h10));(try (rw [set_set];rw [set_set] at q)))|((with_reducible apply (RS.callWB (g0:=17) []));(iterate 3 exact rfl);exact q.p.par;exact q.d _ _ q.p.par;exact fun H hH=>fail_tf hL (q.p.sees q.d hH) 11;(have q:=q.set (q.p.fits.fail (L:=tokN L) 11));(try (rw [set_set];rw [set_set] at q)))|refine Yh ?_|refine Y2j ?_|refine Y1w ?_|refine Y3c ?_|refine Y2n ?_|refine Ya ?_|refine Y27 ?_|refine Yb ?_|refine Y6 ?_|refine Y7 ?_|refine Y1g ?_|refine Yl ?_|refine Yk ?_|refine Y2 ?_|refine Y0 ?_|refine Y19 ?_|refine Y1 ?_|refine Y5 ?_|refine Y3 ?_|refine Yf ?_)
     exact endsK_ret _ (.cons (.cellN rfl rfl rfl (Nat.le_of_ble_eq_true rfl)) .nil) fun B' a=>⟨rfl,(q.ends a).1,(q.ends a).2⟩
end
section
variable {L:List TokS} {tb cap pb:Nat} {h:Hp} {st:PS}
theorem EX.tf {g:FuncId} {args:List Value} {v:Value} {t:PS} (p:ParAt L tb cap pb h st) (hv:bnd h.n v) (he:EX Tryd.prog g args h (StepQ L tb cap pb h v t)):TF Tryd.prog g ⟨args⟩ h v (h.set pb (psB L tb cap t)):=by
 intro ha ρ W hok
 have s:Sat Tryd.prog h:=⟨ρ,W,hok⟩
 obtain ⟨v1,h1,htf,hv1,p1,o1⟩:=he s (fun x hx=>ha x (by simpa using hx))
 subst hv1
 obtain ⟨g1,g2,g3⟩:=par_set p t hv s
 have hm:∀ i b,(h.set pb (psB L tb cap t)).m i=some b→h1.m i=some b:=by
  intro i b hb
  have hb:(if i=pb then some (psB L tb cap t) else h.m i)=some b:=hb
  by_cases e:i=pb
  ·rw [if_pos e] at hb;rw [e,← hb];exact p1.par
  ·rw [if_neg e] at hb;exact o1.keep hb (s.dom _ _ hb) e
 refine (htf ha ρ W hok).mono ?_
 rintro e W' ⟨ρ',rfl,_,hok',hE⟩
 exact ⟨ρ',rfl,g2,⟨fun i b hb=>hok'.fits _ _ (hm i b hb),fun i b hb=>(g3 i b hb).1,fun i j b c hi0 hb hc hl=>hok'.inj _ _ _ _ hi0 (hm i b hb) (hm j c hc) hl,fun i b hb=>(g3 i b hb).2,hok'.glob,Nat.le_trans hok.gle g1,hok.gow⟩,
  ⟨hE.agree,g1,hE.kept,hE.size,fun i b hi0 hb hl=>hE.own i b hi0 (hm i b hb) hl,hE.tape,hE.os,hE.output,fun i b hin hb=>hE.surv i b hin (hm i b hb)⟩⟩
theorem stars_ex (hL:ToksOK L) (p:ParAt L tb cap pb h st) {n k:Nat} {t:PS} (hs:starsS (tokN L) n st 0=some (k,t)):EX Tryd.prog 37 [ptrC pb] h (StepQ L tb cap pb h (.int .i64 k) t):=by
 refine EX.intro (fn:=Tryd.f37) (c:=(Tryd.f37.body.getD .skip)) Tryd.func37 (by kernel_rfl) Tryd.ntmps37 (by kernel_rfl) fun π s0=>?_
 conv=>arg 2;whnf
 ((with_reducible apply W.seq);repeat (first|refine Ys ?_|refine Y0 ?_|refine Y1 ?_|refine Ym ?_))
 ((with_reducible apply W.seq);repeat (first|refine Ys ?_|refine Y0 ?_|refine Y1 ?_|refine Ym ?_))
 with_reducible apply W.seq
 with_reducible apply W.block
 refine W.loopN (X:=Nat × PS × Nat) (fun x=>[(0,ptrC pb),(3,.int .i64 x.2.2)]) (fun x B=>ParAt L tb cap pb B x.2.1∧OffP pb h B∧starsS (tokN L) x.1 x.2.1 x.2.2=some (k,t)) (fun x=>x.1) (fun B' a=>⟨(n,st,0),?_,p.abs s0 a,(OffP.refl pb h).abs a,hs⟩) ?_
 ·(repeat' (first|exact trivial|exact rfl|apply And.intro));done
 rintro ⟨n,st,j⟩ B π1 sp ⟨p,o,hs⟩
 dsimp only at p o hs ⊢
 cases n with
 | zero=>cases hs
 | succ n =>
  rw [starsS] at hs
  obtain ⟨⟨b,u⟩,htk,hs⟩:=bind_some' hs
  cases b with
  | true =>
   simp only [if_true] at hs
   split at hs
   ·rename_i hj
    repeat (first|((with_reducible apply (RS.callEx (g0:=24)));(iterate 3 exact rfl);intro B1 hB1;refine ⟨_,take_ex hL (p.abs sp hB1) _ htk,?_⟩;rintro v H1 π1 ⟨rfl,p',o'⟩ sp' hle1;have o:=(o.abs hB1).trans o';have p:=p';have sp:=sp')|refine Y4 ?_|refine Ye ?_|refine Y0 ?_|refine Yx ?_|refine Y1 ?_|refine Y5 ?_)
    refine roundN_n rfl fun B' a=>⟨(n,u,j+1),?_,⟨p.abs sp a,o.abs a,hs⟩,Nat.lt_succ_self n⟩
    (repeat' (first|exact trivial|exact rfl|apply And.intro));done
   ·cases hs
  | false =>
   simp only [Bool.false_eq_true,if_false,Option.some.injEq,Prod.mk.injEq] at hs
   obtain ⟨rfl,rfl⟩:=hs
   repeat (first|((with_reducible apply (RS.callEx (g0:=24)));(iterate 3 exact rfl);intro B1 hB1;refine ⟨_,take_ex hL (p.abs sp hB1) _ htk,?_⟩;rintro v H1 π1 ⟨rfl,p',o'⟩ sp' hle1;have o:=(o.abs hB1).trans o';have p:=p';have sp:=sp')|refine Y4 ?_|refine Y0 ?_|refine Y1b ?_|refine Y1 ?_|refine Y3 ?_|refine Yf ?_)
   exact endsK_ret _ (.cons (.tmp rfl) .nil) fun B' a=>⟨rfl,p.abs sp a,o.abs a⟩
theorem dims_ex (hL:ToksOK L) (p:ParAt L tb cap pb h st) {l:List Nat} {t:PS} (hs:dimsS (tokN L) st=some (l,t)):l=[]∧EX Tryd.prog 38 [ptrC pb] h (StepQ L tb cap pb h (.slice none 0 0) t):=by
 unfold dimsS at hs
 obtain ⟨⟨b,u⟩,htk,hs⟩:=bind_some' hs
 cases b with
 | true=>cases hs
 | false =>
  simp only [Bool.false_eq_true,if_false,Option.some.injEq,Prod.mk.injEq] at hs
  obtain ⟨rfl,rfl⟩:=hs
  refine ⟨rfl,?_⟩
  refine EX.intro (fn:=Tryd.f38) (c:=(Tryd.f38.body.getD .skip)) Tryd.func38 (by kernel_rfl) Tryd.ntmps38 (by kernel_rfl) fun π s0=>?_
  conv=>arg 2;whnf
  have sp:=s0
  have o:=OffP.refl pb h
  repeat (first|((with_reducible apply (RS.callEx (g0:=24)));(iterate 3 exact rfl);intro B1 hB1;refine ⟨_,take_ex hL (p.abs sp hB1) _ htk,?_⟩;rintro v H1 π1 ⟨rfl,p',o'⟩ sp' hle1;have o:=(o.abs hB1).trans o';have p:=p';have sp:=sp')|refine Y2j ?_|refine Y1w ?_|refine Y2n ?_|refine Y4 ?_|refine Y0 ?_|refine Y38 ?_|refine Y1 ?_|refine Y3 ?_|refine Yf ?_)
  exact endsK_ret _ (.cons (.tmp rfl) .nil) fun B' a=>⟨rfl,p.abs sp a,o.abs a⟩
theorem stars_fits {T:Nat→TokS}:∀ {n:Nat} {st t:PS} {j k:Nat},starsS T n st j=some (k,t)→st.Fits→t.Fits
 | 0,_,_,_,_,h,_=>by cases h
 | n+1,st,t,j,k,h,f=>by
  rw [starsS] at h
  obtain ⟨⟨b,u⟩,h1,h⟩:=bind_some' h
  cases b with
  | true =>
   simp only [if_true] at h
   split at h
   ·exact stars_fits h (f.take h1)
   ·cases h
  | false =>
   simp only [Bool.false_eq_true,if_false,Option.some.injEq,Prod.mk.injEq] at h
   obtain ⟨_,rfl⟩:=h
   exact f.take h1
theorem PS.Fits.name {T:Nat→TokS} {x:ByteArray} {st t:PS} (f:st.Fits) (h:st.name T=some (x,t)):t.Fits:=by
 unfold PS.name at h
 split at h
 ·obtain ⟨u,h1,h2⟩:=Option.map_eq_some_iff.1 h
  injection h2 with _ h2
  subst h2;exact f.adv h1
 ·injection h with h;injection h with _ h;subst h;exact f.fail _
theorem dims_fits {T:Nat→TokS} {l:List Nat} {st t:PS} (h:dimsS T st=some (l,t)) (f:st.Fits):t.Fits:=by
 unfold dimsS at h
 obtain ⟨⟨b,u⟩,h1,h⟩:=bind_some' h
 cases b with
 | true=>cases h
 | false =>
  simp only [Bool.false_eq_true,if_false,Option.some.injEq,Prod.mk.injEq] at h
  obtain ⟨_,rfl⟩:=h
  exact f.take h1
theorem specW_fits {T:Nat→TokS} {s0 s:SpecS} {g:Bool}:∀ {l:List ByteArray} {st t:PS},specW T s0 st g l=some (s,t)→st.Fits→t.Fits
 | [],st,t,h,f=>by
  simp only [specW,Option.some.injEq,Prod.mk.injEq] at h
  obtain ⟨_,rfl⟩:=h
  split
  ·exact f
  ·exact f.fail _
 | w::l,st,t,h,f=>by
  obtain ⟨b,u,h1,h2⟩:=specW_iff h
  rcases h2 with ⟨_,_,rfl⟩|⟨_,h2⟩
  ·exact f.take h1
  ·exact specW_fits h2 (f.take h1)
theorem spec_fits {T:Nat→TokS} {s:SpecS} {st t:PS} (h:specS T st=some (s,t)) (f:st.Fits):t.Fits:=by
 obtain ⟨b1,u1,u2,h1,hp,u3,h3,b4,u4,h4,hr⟩:=spec_iff h
 have f2:u2.Fits:=by
  rcases hp with ⟨_,rfl⟩|⟨_,b2,h2⟩
  ·exact f.take h1
  ·exact (f.take h1).take h2
 have f4:=(f2.take h3).take h4
 rcases hr with ⟨_,_,rfl⟩|⟨_,b5,u5,h5,g,u6,hg,hw⟩
 ·exact f4
 ·refine specW_fits hw ?_
  rcases hg with ⟨_,_,rfl⟩|⟨_,h6⟩
  ·exact f4.take h5
  ·exact (f4.take h5).take h6
theorem rest_iff {T:Nat→TokS} {n:Nat} {s:SpecS} {d:DeclS} {t:PS} (h:restS T n s st=some (d,t)):∃ k u1,starsS T n st 0=some (k,u1)∧∃ u2,u1.take T (b1 40)=some (false,u2)∧∃ x u3,u2.name T=some (x,u3)∧∃ l,dimsS T u3=some (l,t)∧d=⟨⟨s,k,l⟩,x,(u2.tok T).pos⟩:=by
 unfold restS at h
 obtain ⟨⟨k,u1⟩,h1,h⟩:=bind_some' h
 obtain ⟨⟨b,u2⟩,h2,h⟩:=bind_some' h
 cases b with
 | true=>cases h
 | false =>
  simp only [Bool.false_eq_true,if_false] at h
  obtain ⟨⟨x,u3⟩,h3,h⟩:=bind_some' h
  obtain ⟨⟨l,u4⟩,h4,h⟩:=bind_some' h
  simp only [Option.some.injEq,Prod.mk.injEq] at h
  obtain ⟨rfl,rfl⟩:=h
  exact ⟨k,u1,h1,u2,h2,x,u3,h3,l,h4,rfl⟩
theorem rest_ex (hL:ToksOK L) (p:ParAt L tb cap pb h st) {n:Nat} {s:SpecS} {d:DeclS} {t:PS} (hs:restS (tokN L) n s st=some (d,t)):d.ty.dims=[]∧EX Tryd.prog 21 [ptrC pb,.agg ⟨specC s⟩] h (StepQ L tb cap pb h (.agg ⟨declC d none 0⟩) t):=by
 obtain ⟨k,u1,h1,u2,h2,x,u3,h3,l,h4,rfl⟩:=rest_iff hs
 have hl:=(dims_ex hL (h:=h.set pb (psB L tb cap u3)) (p.set (((stars_fits h1 p.fits).take h2).name h3)) h4).1
 subst hl
 refine ⟨rfl,?_⟩
 refine EX.intro (fn:=Tryd.f21) (c:=(Tryd.f21.body.getD .skip)) Tryd.func21 (by kernel_rfl) Tryd.ntmps21 (by kernel_rfl) fun π s0=>?_
 conv=>arg 2;whnf
 have q:Now L tb cap pb h h st:=⟨p,s0.dom,OffP.refl pb h⟩
 repeat (first|refine Y1i ?_|refine Y2f ?_|((with_reducible apply (RS.callWB (g0:=37) []));(iterate 3 exact rfl);exact q.p.par;exact q.d _ _ q.p.par;exact fun H hH=>EX.tf (q.p.sees q.d hH) (by simp) (stars_ex hL (q.p.sees q.d hH) h1);(have q:=q.set (stars_fits h1 q.p.fits));(try (rw [set_set];rw [set_set] at q)))|((with_reducible apply (RS.callWB (g0:=24) []));(iterate 3 exact rfl);exact q.p.par;exact q.d _ _ q.p.par;exact fun H hH=>take_tf hL (q.p.sees q.d hH) _ h2;(have q:=q.set (q.p.fits.take h2));(try (rw [set_set];rw [set_set] at q)))|((with_reducible apply (RS.callWB (g0:=36) []));(iterate 3 exact rfl);exact q.p.par;exact q.d _ _ q.p.par;exact fun H hH=>EX.tf (q.p.sees q.d hH) (by simp) (name_ex hL (q.p.sees q.d hH) h3);(have q:=q.set (q.p.fits.name h3));(try (rw [set_set];rw [set_set] at q)))|((with_reducible apply (RS.callWB (g0:=38) []));(iterate 3 exact rfl);exact q.p.par;exact q.d _ _ q.p.par;exact fun H hH=>EX.tf (q.p.sees q.d hH) (by simp) (dims_ex hL (q.p.sees q.d hH) h4).2;(have q:=q.set (dims_fits h4 q.p.fits));(try (rw [set_set];rw [set_set] at q)))|((with_reducible first|apply RS.move|apply RS.fieldAddr|apply RS.box);iterate 3 exact rfl)|refine Yk ?_|refine Y2 ?_|refine Y8 ?_|refine Yi ?_|refine Y0 ?_|refine Y1a ?_|refine Y1 ?_|refine Y3 ?_)
 exact endsK_ret _ (.cons (.cellN rfl rfl rfl (Nat.le_of_ble_eq_true rfl)) .nil) fun B' a=>⟨rfl,(q.ends a).1,(q.ends a).2⟩
end
def ExprQ (L:List TokS) (tb cap pb:Nat) (h:Hp) (lo:Nat) (e:ExprS) (t:PS) (v:Value) (h':Hp):Prop:=∃ b,v=ptrC b∧ExprAt h' lo b e∧ParAt L tb cap pb h' t∧OffP pb h h'
def CtrE (L:List TokS) (req:Req) (st:PS) (e:ExprS) (t:PS):Prop:=∀ tb cap pb h,ParAt L tb cap pb h st→match req with
 | .full=>EX Tryd.prog 54 [ptrC pb] h (ExprQ L tb cap pb h h.n e t)
 | .choice=>EX Tryd.prog 44 [ptrC pb] h (ExprQ L tb cap pb h h.n e t)
 | .binary k=>EX Tryd.prog 56 [ptrC pb,.int .i64 k] h (ExprQ L tb cap pb h h.n e t)
 | .unary=>EX Tryd.prog 63 [ptrC pb] h (ExprQ L tb cap pb h h.n e t)
 | .primary=>EX Tryd.prog 70 [ptrC pb] h (ExprQ L tb cap pb h h.n e t)
 | .paren=>EX Tryd.prog 51 [ptrC pb] h (ExprQ L tb cap pb h h.n e t)
 | .post e0=>∀ b lo,pb < lo→lo≤h.n→ExprAt h lo b e0→EX Tryd.prog 69 [ptrC pb,ptrC b] h (ExprQ L tb cap pb h lo e t)
 | .binL _ _=>True
def IH (L:List TokS) (N:Nat):Prop:=∀ m,m < N→∀ req st e t,parseE (tokN L) m req st=some (e,t)→CtrE L req st e t
theorem ExprAt.keep {pb:Nat} {G B:Hp} {lo lo' b:Nat} {e:ExprS} (he:ExprAt G lo b e) (sG:∀ i b,G.m i=some b→i < G.n) (o:OffP pb G B) (hpb:pb < lo) (hl:lo'≤lo):ExprAt B lo' b e:=he.up (o.upto sG hpb) hl
section
variable {L:List TokS} {tb cap pb:Nat} {h:Hp} {st:PS}
theorem paren_ok (hL:ToksOK L) {n:Nat} (ih:IH L (n+1)) {e:ExprS} {t:PS} (hs:parseE (tokN L) (n+1) .paren st=some (e,t)):CtrE L .paren st e t:=by
 intro tb cap pb h p
 rw [parseE] at hs
 obtain ⟨u1,h1,hs⟩:=bind_some' hs
 obtain ⟨⟨e1,u2⟩,h2,hs⟩:=bind_some' hs
 obtain ⟨u3,h3,hs⟩:=bind_some' hs
 simp only [Option.some.injEq,Prod.mk.injEq] at hs
 obtain ⟨rfl,rfl⟩:=hs
 show EX _ _ _ _ _
 refine EX.intro (fn:=Tryd.f51) (c:=(Tryd.f51.body.getD .skip)) Tryd.func51 (by kernel_rfl) Tryd.ntmps51 (by kernel_rfl) fun π s0=>?_
 conv=>arg 2;whnf
 have q:Now L tb cap pb h h st:=⟨p,s0.dom,OffP.refl pb h⟩
 repeat (first|((with_reducible apply (RS.callEx (g0:=26)));(iterate 3 exact rfl);intro B1 hB1;refine ⟨_,want_ex hL (q.p.absd q.d hB1) _ h1,?_⟩;rintro v H1 π1 ⟨rfl,p',o'⟩ sp' hle1;have q:Now L tb cap pb h H1 _:=⟨p',sp'.dom,(q.o.abs hB1).trans o'⟩)|((with_reducible apply (RS.callEx (g0:=54)));(iterate 3 exact rfl);intro B1 hB1;have hlo:h.n≤B1.n:=Nat.le_trans q.o.1 hB1.le;have hpl:pb < B1.n:=hB1.dom _ _ (q.p.absd q.d hB1).par;refine ⟨_,ih n (Nat.lt_succ_self n) .full _ _ _ h2 _ _ _ _ (q.p.absd q.d hB1),?_⟩;rintro v H1 π1 ⟨b,rfl,he,p',o'⟩ sp' hle1;have q:Now L tb cap pb h H1 _:=⟨p',sp'.dom,(q.o.abs hB1).trans o'⟩)|((with_reducible apply (RS.callEx (g0:=26)));(iterate 3 exact rfl);intro B2 hB2;refine ⟨_,want_ex hL (q.p.absd q.d hB2) _ h3,?_⟩;rintro v H2 π2 ⟨rfl,p',o'⟩ sp2 hle2;have he:=he.keep sp'.dom (((OffP.refl pb _).abs hB2).trans o') hpl hlo;have q:Now L tb cap pb h H2 _:=⟨p',sp2.dom,(q.o.abs hB2).trans o'⟩)|refine Y4 ?_|refine Y0 ?_|refine Yz ?_|refine Y1 ?_)
 exact endsK_ret _ (.cons (.tmp rfl) .nil) fun B' a=>⟨b,rfl,he.keep sp2.dom ((OffP.refl pb _).abs a) (Nat.lt_of_le_of_lt (Nat.le_refl _) (s0.dom _ _ p.par)) (Nat.le_refl _),(q.ends a).1,(q.ends a).2⟩
theorem exprS_iff {T:Nat→TokS} {st t:PS} {op pos:Nat} {text:ByteArray} {kids:List ExprS} {e:ExprS} (h:exprS T st op pos text kids=some (e,t)):st.node T=some t∧e=.mk op pos text zeroTok zeroType kids:=by
 unfold exprS at h
 obtain ⟨u,h1,h2⟩:=Option.map_eq_some_iff.1 h
 injection h2 with h3 h4
 subst h4
 exact ⟨h1,h3.symm⟩
theorem Now.other {B:Hp} (q:Now L tb cap pb h B st) {b:Nat} (c:Blk) (hb:h.n≤b) (hp:pb < b) (ht:tb≠b) (hn:b < B.n):Now L tb cap pb h (B.set b c) st:=by
 refine ⟨⟨?_,?_,q.p.fits,q.p.rw,q.p.ne⟩,set_dom q.d hn,q.o.1,fun i hi hne=>?_⟩
 ·show (if tb=b then some c else B.m tb)=_;rw [if_neg ht];exact q.p.tok
 ·show (if pb=b then some c else B.m pb)=_;rw [if_neg (by omega)];exact q.p.par
 ·show (if i=b then some c else B.m i)=_;rw [if_neg (by omega)];exact q.o.2 i hi hne
theorem leaf_at {B:Hp} {lo b op pos:Nat} {text:ByteArray} {tok:TokS} (h0:lo≤b) (hm:B.m b=some ⟨⟨exprC op pos text tok zeroType none 0 none 0 0⟩,59⟩):ExprAt B lo b (.mk op pos text tok zeroType []) :=
 .mk (ps:=[]) h0 hm (.inl ⟨rfl,rfl⟩) (.inl ⟨rfl,rfl⟩) rfl (fun i p k h=>by simp at h)
theorem primary_ok (hL:ToksOK L) {n:Nat} (ih:IH L (n+1)) {e:ExprS} {t:PS} (hs:parseE (tokN L) (n+1) .primary st=some (e,t)):CtrE L .primary st e t:=by
 intro tb cap pb h p
 rw [parseE] at hs
 show EX _ _ _ _ _
 refine EX.intro (fn:=Tryd.f70) (c:=(Tryd.f70.body.getD .skip)) Tryd.func70 (by kernel_rfl) Tryd.ntmps70 (by kernel_rfl) fun π s0=>?_
 conv=>arg 2;whnf
 have hpb:=s0.dom _ _ p.par
 have q:Now L tb cap pb h h st:=⟨p,s0.dom,OffP.refl pb h⟩
 ((with_reducible apply W.seq);repeat (first|refine Ys ?_|refine Y0 ?_|refine Y1 ?_|refine Ym ?_))
 ((with_reducible apply W.seq);repeat (first|refine Yt ?_|refine Yq ?_|refine Y2 ?_|refine Y8 ?_|refine Y0 ?_|refine Y1 ?_|refine Ym ?_))
 refine W.absorbX fun G π0 a0=>?_
 have hT:G.m (π 0)=some ⟨⟨tokC (st.tok (tokN L))⟩,56⟩:=a0.loc 0 (Nat.lt_succ_self 0)
 have tn:=a0.dom _ _ hT
 have tne:π 0≠pb:=fun e=>by have h1:h.n≤π 0:=a0.lo 0 (Nat.lt_succ_self 0);omega
 have o0:OffP pb h G:=q.o.abs a0
 have q:Now L tb cap pb G G st:=⟨(q.ends a0).1,a0.dom,OffP.refl pb G⟩
 have hrw:rwM≤G.n:=Nat.le_trans a0.rw a0.le
 generalize π 0=tk at *
 by_cases hk3:(st.tok (tokN L)).kind=3
 ·rw [if_pos hk3] at hs
  obtain ⟨u1,hadv,hs⟩:=bind_some' hs
  obtain ⟨ha,rfl⟩:=adv_iff hadv
  obtain ⟨⟨e1,u2⟩,hx,hs⟩:=bind_some' hs
  obtain ⟨h2,rfl⟩:=exprS_iff hx
  simp only [Option.some.injEq,Prod.mk.injEq] at hs
  obtain ⟨rfl,rfl⟩:=hs
  repeat (first|refine Y9 ?_|((with_reducible apply RS.loadNB);(iterate 3 exact rfl);exact q.o.keep hT tn tne;exact q.d _ _ (q.o.keep hT tn tne);exact Nat.le_of_ble_eq_true rfl;exact (show takeV 0 6 (tokC (st.tok (tokN L)))=tokC (st.tok (tokN L)) from rfl))|refine Y15 ?_|((with_reducible apply (RS.storeB (cs':=psC L tb cap { st with at_:=st.at_+1 })));(iterate 3 exact rfl);exact q.p.par;exact q.d _ _ q.p.par;exact q.p.rw;exact Nat.le_of_ble_eq_true rfl;(iterate 3 exact rfl);(have q:=q.set (q.p.fits.adv hadv)))|((with_reducible apply (RS.callEx (g0:=57)));(iterate 3 exact rfl);intro B1 hB1;have hlo:G.n≤B1.n:=Nat.le_trans q.o.1 hB1.le;have hpl:pb < B1.n:=hB1.dom _ _ (q.p.absd q.d hB1).par;have htl:tb < B1.n:=hB1.dom _ _ (q.p.absd q.d hB1).tok;refine ⟨_,expr_ex hL (q.p.absd q.d hB1) _ _ _ _ _ _ h2,?_⟩;rintro v H1 π1 ⟨b,rfl,hbn,hbm,p',o'⟩ sp' hle1;have q:Now L tb cap pb G H1 _:=⟨p',sp'.dom,(q.o.abs hB1).trans o'⟩)|((with_reducible apply (RS.storeB (cs':=exprC 1 (st.tok (tokN L)).pos ⟨#[]⟩ (st.tok (tokN L)) zeroType none 0 none 0 0)));(iterate 3 exact rfl);exact hbm;exact sp'.dom _ _ hbm;exact Nat.le_trans hrw (Nat.le_trans hlo hbn);exact Nat.le_of_ble_eq_true rfl;(iterate 3 exact rfl);(have q:=q.other ⟨⟨exprC 1 (st.tok (tokN L)).pos ⟨#[]⟩ (st.tok (tokN L)) zeroType none 0 none 0 0⟩,59⟩ (Nat.le_trans hlo hbn) (Nat.lt_of_lt_of_le hpl hbn) (by omega) (sp'.dom _ _ hbm)))|refine Yc ?_|refine Y6 ?_|refine Ye ?_|refine Y0 ?_|refine Y1u ?_|refine Y1 ?_|refine Y5 ?_)
  refine endsK_ret _ (.cons (.tmp rfl) .nil) fun B' a=>⟨b,rfl,leaf_at (Nat.le_trans o0.1 (Nat.le_trans hlo hbn)) (a.up _ _ ?_),(q.ends a).1,o0.trans (q.ends a).2⟩
  show (if b=b then _ else _)=_
  rw [if_pos rfl]
 ·rw [if_neg hk3] at hs
  by_cases hk1:(st.tok (tokN L)).kind=1
  ·rw [if_pos hk1] at hs
   obtain ⟨u1,hadv,hs⟩:=bind_some' hs
   obtain ⟨ha,rfl⟩:=adv_iff hadv
   obtain ⟨h2,rfl⟩:=exprS_iff hs
   repeat (first|((with_reducible apply RS.load1B);(iterate 3 exact rfl);first|exact q.o.keep hT tn tne;exact q.d _ _ (q.o.keep hT tn tne);exact rfl|exact q.p.par;exact q.d _ _ q.p.par;exact rfl)|((with_reducible apply (RS.storeB (cs':=psC L tb cap { st with at_:=st.at_+1 })));(iterate 3 exact rfl);exact q.p.par;exact q.d _ _ q.p.par;exact q.p.rw;exact Nat.le_of_ble_eq_true rfl;(iterate 3 exact rfl);(have q:=q.set (q.p.fits.adv hadv)))|((with_reducible apply (RS.callEx (g0:=57)));(iterate 3 exact rfl);intro B1 hB1;have hlo:G.n≤B1.n:=Nat.le_trans q.o.1 hB1.le;have hpl:pb < B1.n:=hB1.dom _ _ (q.p.absd q.d hB1).par;have htl:tb < B1.n:=hB1.dom _ _ (q.p.absd q.d hB1).tok;refine ⟨_,expr_ex hL (q.p.absd q.d hB1) _ _ _ _ _ _ h2,?_⟩;rintro v H1 π1 ⟨b,rfl,hbn,hbm,p',o'⟩ sp' hle1;have q:Now L tb cap pb G H1 _:=⟨p',sp'.dom,(q.o.abs hB1).trans o'⟩)|refine Yc ?_|refine Y6 ?_|refine Y7 ?_|refine Ye ?_|refine Y0 ?_|refine Y1u ?_|refine Y1 ?_|refine Y5 ?_|refine Y3 ?_)
   exact endsK_ret _ (.cons (.tmp rfl) .nil) fun B' a=>⟨b,rfl,leaf_at (Nat.le_trans o0.1 (Nat.le_trans hlo hbn)) (a.up _ _ hbm),(q.ends a).1,o0.trans (q.ends a).2⟩
  ·rw [if_neg hk1] at hs
   cases his:st.is (tokN L) (b1 40) with
   | true =>
    rw [if_pos his] at hs
    repeat (first|refine Y2y ?_|refine Y9 ?_|((with_reducible apply (RS.callEx (g0:=51)));(iterate 3 exact rfl);intro B1 hB1;have hlo:G.n≤B1.n:=Nat.le_trans q.o.1 hB1.le;have hpl:pb < B1.n:=hB1.dom _ _ (q.p.absd q.d hB1).par;refine ⟨_,ih n (Nat.lt_succ_self n) .paren _ _ _ hs _ _ _ _ (q.p.absd q.d hB1),?_⟩;rintro v H1 π1 ⟨b,rfl,he,p',o'⟩ sp' hle1;have q:Now L tb cap pb G H1 _:=⟨p',sp'.dom,(q.o.abs hB1).trans o'⟩)|refine Yg ?_|refine Y7 ?_|refine Y0 ?_|refine Y1u ?_|refine Y1 ?_|refine Y5 ?_|refine Y3 ?_)
    exact endsK_ret _ (.cons (.tmp rfl) .nil) fun B' a=>⟨b,rfl,he.keep sp'.dom ((OffP.refl pb _).abs a) hpl (Nat.le_trans o0.1 hlo),(q.ends a).1,o0.trans (q.ends a).2⟩
   | false =>
    rw [if_neg (by rw [his];decide)] at hs
    simp only [Option.some.injEq,Prod.mk.injEq] at hs
    obtain ⟨rfl,rfl⟩:=hs
    repeat (first|refine Y2y ?_|refine Y9 ?_|((with_reducible apply (RS.callEx (g0:=17)));(iterate 3 exact rfl);intro B1 hB1;refine ⟨_,fail_ex hL (q.p.absd q.d hB1) 11,?_⟩;rintro v H1 π1 ⟨rfl,p',o'⟩ sp' hle1;have q:Now L tb cap pb G H1 _:=⟨p',sp'.dom,(q.o.abs hB1).trans o'⟩)|((with_reducible first|apply RS.move|apply RS.assign|apply RS.fieldAddr|apply RS.box);iterate 3 exact rfl)|refine Y7 ?_|refine Yi ?_|refine Y0 ?_|refine Y1c ?_|refine Y1 ?_|refine Y3 ?_)
    exact endsK_ret _ (.cons (.tmp rfl) .nil) fun B' a=>⟨_,rfl,leaf_at (Nat.le_trans o0.1 (Nat.le_trans q.o.1 (a.lo 0 (Nat.lt_succ_self 0)))) (a.loc 0 (Nat.lt_succ_self 0)),(q.ends a).1,o0.trans (q.ends a).2⟩
end
theorem take_no {T:Nat→TokS} {st:PS} {s:ByteArray} (h:st.is T s=false):st.take T s=some (false,st):=by
 unfold PS.take
 rw [if_neg (fun hc=>by rw [h] at hc;exact absurd hc.2 (by decide))]
section
variable {L:List TokS} {tb cap pb:Nat} {h:Hp} {st:PS}
theorem par_set_eq (p:ParAt L tb cap pb h st):h.set pb (psB L tb cap st)=h:=Hp.eq (fun i=>by
 show (if i=pb then some (psB L tb cap st) else h.m i)=h.m i
 split
 ·rename_i e;rw [e,p.par];rfl
 ·rfl) rfl
theorem takeN_tf (hL:ToksOK L) (p:ParAt L tb cap pb h st) (s:ByteArray) (hn:st.is (tokN L) s=false):TF Tryd.prog 24 ⟨[ptrC pb,.string s]⟩ h (.bool false) h:=by
 have:=take_tf hL p s (take_no hn)
 rw [par_set_eq p] at this
 exact this
theorem postfix_ok (hL:ToksOK L) {n:Nat} {e0 e:ExprS} {t:PS} (hs:parseE (tokN L) (n+1) (.post e0) st=some (e,t)):CtrE L (.post e0) st e t:=by
 intro tb cap pb h p b lo hpl hlo he
 rw [parseE] at hs
 refine EX.intro (fn:=Tryd.f69) (c:=(Tryd.f69.body.getD .skip)) Tryd.func69 (by kernel_rfl) Tryd.ntmps69 (by kernel_rfl) fun π s0=>?_
 conv=>arg 2;whnf
 have q:Now L tb cap pb h h st:=⟨p,s0.dom,OffP.refl pb h⟩
 by_cases hf:st.fk=0
 ·rw [if_neg (fun hc=>hc hf)] at hs
  split at hs
  ·cases hs
  ·rename_i hc
   simp only [Option.some.injEq,Prod.mk.injEq] at hs
   obtain ⟨rfl,rfl⟩:=hs
   simp only [Bool.or_eq_true,not_or,Bool.not_eq_true] at hc
   obtain ⟨⟨⟨⟨⟨i1,i2⟩,i3⟩,i4⟩,i5⟩,i6⟩:=hc
   repeat (first|refine Y2s ?_|refine Yt ?_|((with_reducible apply (RS.callA (g0:=24)));(iterate 3 exact rfl);first|exact fun B' hB'=>takeN_tf hL (q.p.absd q.d hB') _ i1|exact fun B' hB'=>takeN_tf hL (q.p.absd q.d hB') _ i2|exact fun B' hB'=>takeN_tf hL (q.p.absd q.d hB') _ i3)|((with_reducible apply (RS.callA (g0:=18)));(iterate 3 exact rfl);first|exact fun B' hB'=>is_tf hL (q.p.absd q.d hB') _ i4|exact fun B' hB'=>is_tf hL (q.p.absd q.d hB') _ i5)|((with_reducible apply (RS.callA (g0:=24)));(iterate 3 exact rfl);exact fun B' hB'=>takeN_tf hL (q.p.absd q.d hB') _ i6)|((with_reducible apply (W.rounds 2)))|refine Y1w ?_|((with_reducible apply roundR_r))|refine Y4 ?_|refine Yd ?_|refine Y2 ?_|refine Y8 ?_|refine Y0 ?_|refine Y2a ?_|refine Y1 ?_|refine Y5 ?_|refine Y3 ?_)
   exact endsK_ret _ (.cons (.tmp rfl) .nil) fun B' a=>⟨b,rfl,he.keep s0.dom ((OffP.refl pb _).abs a) hpl (Nat.le_refl _),(q.ends a).1,(q.ends a).2⟩
 ·rw [if_pos hf] at hs
  simp only [Option.some.injEq,Prod.mk.injEq] at hs
  obtain ⟨rfl,rfl⟩:=hs
  repeat (first|refine Y2q ?_|((with_reducible apply (W.rounds 2)))|refine Y1w ?_|refine Y2n ?_|refine Y4 ?_|refine Y0 ?_|refine Y38 ?_|refine Y1 ?_|refine Y3 ?_|refine Yf ?_)
  exact endsK_ret _ (.cons (.tmp rfl) .nil) fun B' a=>⟨b,rfl,he.keep s0.dom ((OffP.refl pb _).abs a) hpl (Nat.le_refl _),(q.ends a).1,(q.ends a).2⟩
theorem choice_ok (hL:ToksOK L) {n:Nat} (ih:IH L (n+1)) {e:ExprS} {t:PS} (hs:parseE (tokN L) (n+1) .choice st=some (e,t)):CtrE L .choice st e t:=by
 intro tb cap pb h p
 rw [parseE] at hs
 obtain ⟨⟨e1,u1⟩,h1,hs⟩:=bind_some' hs
 obtain ⟨⟨b2,u2⟩,h2,hs⟩:=bind_some' hs
 cases b2 with
 | true=>cases hs
 | false =>
  simp only [Bool.false_eq_true,if_false,Option.some.injEq,Prod.mk.injEq] at hs
  obtain ⟨rfl,rfl⟩:=hs
  show EX _ _ _ _ _
  refine EX.intro (fn:=Tryd.f44) (c:=(Tryd.f44.body.getD .skip)) Tryd.func44 (by kernel_rfl) Tryd.ntmps44 (by kernel_rfl) fun π s0=>?_
  conv=>arg 2;whnf
  have q:Now L tb cap pb h h st:=⟨p,s0.dom,OffP.refl pb h⟩
  repeat (first|refine Yt ?_|refine Y1i ?_|((with_reducible apply (RS.callEx (g0:=56)));(iterate 3 exact rfl);intro B1 hB1;have hlo:h.n≤B1.n:=Nat.le_trans q.o.1 hB1.le;have hpl:pb < B1.n:=hB1.dom _ _ (q.p.absd q.d hB1).par;refine ⟨_,ih n (Nat.lt_succ_self n) (.binary 1) _ _ _ h1 _ _ _ _ (q.p.absd q.d hB1),?_⟩;rintro v H1 π1 ⟨b,rfl,he,p',o'⟩ sp' hle1;have q:Now L tb cap pb h H1 _:=⟨p',sp'.dom,(q.o.abs hB1).trans o'⟩)|((with_reducible apply (RS.callWB (g0:=24) []));(iterate 3 exact rfl);exact q.p.par;exact q.d _ _ q.p.par;exact fun H hH=>take_tf hL (q.p.sees q.d hH) _ h2;(have q2:=q.set (q.p.fits.take h2)))|refine Y11 ?_|refine Y0 ?_|refine Yy ?_|refine Y1 ?_|refine Y5 ?_)
  exact endsK_ret _ (.cons (.tmp rfl) .nil) fun B' a=>⟨b,rfl,he.keep sp'.dom ((OffP.set _ _).trans ((OffP.refl pb _).abs a)) hpl hlo,(q2.ends a).1,(q2.ends a).2⟩
end
theorem upE_iff {r:Option (ExprS × PS)} {e:ExprS} {t:PS} (h:upE r=some (e,t)):∃ u,r=some (e,u)∧u.up=some t:=by
 unfold upE at h
 obtain ⟨⟨e1,u⟩,h1,h⟩:=bind_some' h
 obtain ⟨u2,h2,h⟩:=bind_some' h
 simp only [Option.some.injEq,Prod.mk.injEq] at h
 obtain ⟨rfl,rfl⟩:=h
 exact ⟨u,h1,h2⟩
section
variable {L:List TokS} {tb cap pb:Nat} {h:Hp} {st:PS}
theorem down_exb (hL:ToksOK L) (p:ParAt L tb cap pb h st) {t:PS} (ht:st.down (tokN L)=some t) {b:Bool} (hb:decide (t.fk=0)=b):EX Tryd.prog 43 [ptrC pb] h (StepQ L tb cap pb h (.bool b) t):=by
 rw [← hb];exact down_ex hL p ht
theorem ends_up {B:Hp} {lo b:Nat} {e:ExprS} {u t:PS} (p:ParAt L tb cap pb B u) (o:OffP pb h B) (he:ExprAt B lo b e) (hd:∀ i c,B.m i=some c→i < B.n) (hpl:pb < lo) (hlo:h.n≤lo) (hup:u.up=some t):∃ Q',GF Tryd.prog 42∧EXD Tryd.prog 42 [ptrC pb] B Q'∧∀ B'',Q' B''→Sat Tryd.prog B''→B.n≤B''.n→ExprQ L tb cap pb h h.n e t (ptrC b) B'' :=
 ⟨_,inferInstance,up_exd p hup,fun _ ⟨p2,o2⟩ _ _=>⟨b,rfl,he.keep hd o2 hpl hlo,p2,o.trans o2⟩⟩
set_option maxHeartbeats 1000000 in
theorem full_ok (hL:ToksOK L) {n:Nat} (ih:IH L (n+1)) {e:ExprS} {t:PS} (hs:parseE (tokN L) (n+1) .full st=some (e,t)):CtrE L .full st e t:=by
 intro tb cap pb h p
 rw [parseE] at hs
 obtain ⟨u1,h1,hs⟩:=bind_some' hs
 show EX _ _ _ _ _
 refine EX.introD (fn:=Tryd.f54) (c:=(Tryd.f54.body.getD .skip)) Tryd.func54 (by kernel_rfl) Tryd.ntmps54 (by kernel_rfl) fun π s0=>?_
 conv=>arg 3;whnf
 have hpb:=s0.dom _ _ p.par
 have q:Now L tb cap pb h h st:=⟨p,s0.dom,OffP.refl pb h⟩
 refine WD.plain fun inst _=>?_
 repeat (first|refine Ys ?_|refine Y0 ?_|refine Y1 ?_)
 refine thenD_n ?_
 refine WD.seq (WD.moveDefer (by kernel_rfl) rfl rfl ?_)
 refine thenD_n ?_
 refine WD.lift fun inst _=>?_
 by_cases hf:u1.fk=0
 ·rw [if_neg (fun hc=>hc hf)] at hs
  obtain ⟨u,hr,hup⟩:=upE_iff hs
  obtain ⟨⟨e1,u2⟩,h2,hr⟩:=bind_some' hr
  dsimp only at hr
  by_cases hf2:u2.fk=0
  ·by_cases hk:(u2.tok (tokN L)).kind=4
   ·rw [if_neg (fun hc=>by rcases hc with hc|hc;exact hc hf2;exact hc hk)] at hr
    split at hr
    ·cases hr
    ·rename_i hns
     simp only [Option.some.injEq,Prod.mk.injEq] at hr
     obtain ⟨rfl,rfl⟩:=hr
     simp only [assigns,List.any_cons,List.any_nil,Bool.or_false,Bool.or_eq_true,not_or,Bool.not_eq_true] at hns
     obtain ⟨k1,k2,k3,k4,k5,k6,k7,k8,k9,k10,k11⟩:=hns
     repeat (first|((with_reducible apply (RS.callEx (g0:=43)));(iterate 3 exact rfl);intro B1 hB1;refine ⟨_,down_exb hL (q.p.absd q.d hB1) h1 (decide_eq_true hf),?_⟩;rintro v H1 π1 ⟨rfl,p',o'⟩ sp' hle1;have q:Now L tb cap pb h H1 _:=⟨p',sp'.dom,(q.o.abs hB1).trans o'⟩)|((with_reducible apply (RS.callEx (g0:=44)));(iterate 3 exact rfl);intro B1 hB1;have hlo:h.n≤B1.n:=Nat.le_trans q.o.1 hB1.le;have hpl:pb < B1.n:=hB1.dom _ _ (q.p.absd q.d hB1).par;refine ⟨_,ih n (Nat.lt_succ_self n) .choice _ _ _ h2 _ _ _ _ (q.p.absd q.d hB1),?_⟩;rintro v H1 π1 ⟨b,rfl,he,p',o'⟩ sp2 hle1;have q:Now L tb cap pb h H1 _:=⟨p',sp2.dom,(q.o.abs hB1).trans o'⟩)|refine Yt ?_|refine Y2r ?_|refine Y10 ?_|refine Y1r ?_|refine Yd ?_|refine Y7 ?_|refine Yl ?_|refine Y2 ?_|refine Y8 ?_|refine Y0 ?_|refine Y1c ?_|refine Y1 ?_|refine Y3 ?_)
     refine ⟨.inl rfl,[ptrC b],.cons rfl .nil,fun B' a=>?_⟩
     exact ends_up (q.ends a).1 (q.ends a).2 (he.keep sp2.dom ((OffP.refl pb _).abs a) hpl (Nat.le_refl _)) a.dom hpl hlo hup
   ·rw [if_pos (.inr hk)] at hr
    simp only [Option.some.injEq,Prod.mk.injEq] at hr
    obtain ⟨rfl,rfl⟩:=hr
    repeat (first|((with_reducible apply (RS.callEx (g0:=43)));(iterate 3 exact rfl);intro B1 hB1;refine ⟨_,down_exb hL (q.p.absd q.d hB1) h1 (decide_eq_true hf),?_⟩;rintro v H1 π1 ⟨rfl,p',o'⟩ sp' hle1;have q:Now L tb cap pb h H1 _:=⟨p',sp'.dom,(q.o.abs hB1).trans o'⟩)|((with_reducible apply (RS.callEx (g0:=44)));(iterate 3 exact rfl);intro B1 hB1;have hlo:h.n≤B1.n:=Nat.le_trans q.o.1 hB1.le;have hpl:pb < B1.n:=hB1.dom _ _ (q.p.absd q.d hB1).par;refine ⟨_,ih n (Nat.lt_succ_self n) .choice _ _ _ h2 _ _ _ _ (q.p.absd q.d hB1),?_⟩;rintro v H1 π1 ⟨b,rfl,he,p',o'⟩ sp2 hle1;have q:Now L tb cap pb h H1 _:=⟨p',sp2.dom,(q.o.abs hB1).trans o'⟩)|refine Yt ?_|refine Y2r ?_|refine Y1r ?_|refine Yd ?_|refine Y6 ?_|refine Yl ?_|refine Y2 ?_|refine Y8 ?_|refine Y0 ?_|refine Y1m ?_|refine Y1 ?_|refine Y5 ?_|refine Y3 ?_)
    refine ⟨.inl rfl,[ptrC b],.cons rfl .nil,fun B' a=>?_⟩
    exact ends_up (q.ends a).1 (q.ends a).2 (he.keep sp2.dom ((OffP.refl pb _).abs a) hpl (Nat.le_refl _)) a.dom hpl hlo hup
  ·rw [if_pos (.inl hf2)] at hr
   simp only [Option.some.injEq,Prod.mk.injEq] at hr
   obtain ⟨rfl,rfl⟩:=hr
   repeat (first|((with_reducible apply (RS.callEx (g0:=43)));(iterate 3 exact rfl);intro B1 hB1;refine ⟨_,down_exb hL (q.p.absd q.d hB1) h1 (decide_eq_true hf),?_⟩;rintro v H1 π1 ⟨rfl,p',o'⟩ sp' hle1;have q:Now L tb cap pb h H1 _:=⟨p',sp'.dom,(q.o.abs hB1).trans o'⟩)|((with_reducible apply (RS.callEx (g0:=44)));(iterate 3 exact rfl);intro B1 hB1;have hlo:h.n≤B1.n:=Nat.le_trans q.o.1 hB1.le;have hpl:pb < B1.n:=hB1.dom _ _ (q.p.absd q.d hB1).par;refine ⟨_,ih n (Nat.lt_succ_self n) .choice _ _ _ h2 _ _ _ _ (q.p.absd q.d hB1),?_⟩;rintro v H1 π1 ⟨b,rfl,he,p',o'⟩ sp2 hle1;have q:Now L tb cap pb h H1 _:=⟨p',sp2.dom,(q.o.abs hB1).trans o'⟩)|refine Yt ?_|((with_reducible apply (RS.callA (g0:=10)));(iterate 3 exact rfl);exact fun B' hB'=>ok_tf (q.p.absd q.d hB') (decide_eq_false hf2))|refine Y11 ?_|refine Yb ?_|refine Y2 ?_|refine Y8 ?_|refine Yn ?_|refine Y0 ?_|refine Y1m ?_|refine Y1 ?_|refine Y5 ?_|refine Y3 ?_)
   refine ⟨.inl rfl,[ptrC b],.cons rfl .nil,fun B' a=>?_⟩
   exact ends_up (q.ends a).1 (q.ends a).2 (he.keep sp2.dom ((OffP.refl pb _).abs a) hpl (Nat.le_refl _)) a.dom hpl hlo hup
 ·rw [if_pos hf] at hs
  obtain ⟨u,hr,hup⟩:=upE_iff hs
  simp only [Option.some.injEq,Prod.mk.injEq] at hr
  obtain ⟨rfl,rfl⟩:=hr
  repeat (first|((with_reducible apply (RS.callEx (g0:=43)));(iterate 3 exact rfl);intro B1 hB1;refine ⟨_,down_exb hL (q.p.absd q.d hB1) h1 (decide_eq_false hf),?_⟩;rintro v H1 π1 ⟨rfl,p',o'⟩ sp' hle1;have q:Now L tb cap pb h H1 _:=⟨p',sp'.dom,(q.o.abs hB1).trans o'⟩)|refine Y3a ?_|refine Yi ?_|refine Y0 ?_|refine Yy ?_|refine Y1 ?_|refine Y5 ?_)
  refine ⟨.inl rfl,[_],.cons rfl .nil,fun B' a=>?_⟩
  exact ends_up (lo:=h.n) (q.ends a).1 (q.ends a).2 (leaf_at (Nat.le_trans q.o.1 (a.lo 0 (Nat.lt_succ_self 0))) (a.loc 0 (Nat.lt_succ_self 0))) a.dom hpb (Nat.le_refl _) hup
end
end Go.Proofs.YtbmmchaaiakanaaDoor
