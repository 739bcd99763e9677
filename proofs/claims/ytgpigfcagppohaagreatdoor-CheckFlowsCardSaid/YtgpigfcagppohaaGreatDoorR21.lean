/-
  What the functions that the law reaches compute,told by plain data;it holds of programs that pass the check of right form and are light.
-/
import Derived.Test.YtgpigfcagppohaaGreatDoorR20
import Derived.Test.YtgpigfcagppohaaGreatDoorS3
set_option linter.unusedVariables false
set_option linter.unusedSimpArgs false
namespace Go.Proofs.YtgpigfcagppohaaGreatDoor
open Go.AH
attribute [local irreducible] W RS WR
def ExprQ (L:List TokS) (tb cap pb:Nat) (h:Hp) (lo:Nat) (e:ExprS) (t:PS) (v:Value) (h':Hp):Prop:=∃ b,v=ptrC b∧ExprAt h' lo b e∧ParAt L tb cap pb h' t∧OffP pb h h'
def CtrE (L:List TokS) (req:Req) (st:PS) (e:ExprS) (t:PS):Prop:=∀ tb cap pb h,ParAt L tb cap pb h st→match req with
 | .full=>EX Tryz.prog 149 [ptrC pb] h (ExprQ L tb cap pb h h.n e t)
 | .choice=>EX Tryz.prog 115 [ptrC pb] h (ExprQ L tb cap pb h h.n e t)
 | .binary k=>EX Tryz.prog 151 [ptrC pb,.int .i64 k] h (ExprQ L tb cap pb h h.n e t)
 | .unary=>EX Tryz.prog 170 [ptrC pb] h (ExprQ L tb cap pb h h.n e t)
 | .primary=>EX Tryz.prog 194 [ptrC pb] h (ExprQ L tb cap pb h h.n e t)
 | .paren=>EX Tryz.prog 146 [ptrC pb] h (ExprQ L tb cap pb h h.n e t)
 | .post e0=>∀ b lo,pb < lo→lo≤h.n→ExprAt h lo b e0→EX Tryz.prog 193 [ptrC pb,ptrC b] h (ExprQ L tb cap pb h lo e t)
 | .binL _ _=>True
def IH (L:List TokS) (N:Nat):Prop:=∀ m,m < N→∀ req st e t,parseE (tokN L) m req st=some (e,t)→CtrE L req st e t
theorem ExprAt.keep {pb:Nat} {G B:Hp} {lo lo' b:Nat} {e:ExprS} (he:ExprAt G lo b e) (sG:∀ i b,G.m i=some b→i < G.n) (o:OffP pb G B) (hpb:pb < lo) (hl:lo'≤lo):ExprAt B lo' b e:=he.up (o.upto sG hpb) hl
section
variable {L:List TokS} {tb cap pb:Nat} {h:Hp} {st:PS}
theorem paren_ok (hL:ToksOK L) {n:Nat} (ih:IH L (n+1)) {e:ExprS} {t:PS} (hs:parseE (tokN L) (n+1) .paren st=some (e,t)):CtrE L .paren st e t:=by
 intro tb cap pb h p
 rw [parseE] at hs
 obtain ⟨u1,h1,hs⟩:=bind_some' hs
 obtain ⟨⟨e1,u2⟩,h2,hs⟩:=bind_some' hs
 obtain ⟨u3,h3,hs⟩:=bind_some' hs
 simp only [Option.some.injEq,Prod.mk.injEq] at hs
 obtain ⟨rfl,rfl⟩:=hs
 show EX _ _ _ _ _
 refine EX.intro (fn:=Tryz.f146) (c:=(Tryz.f146.body.getD .skip)) Tryz.func146 (by kernel_rfl) Tryz.ntmps146 (by kernel_rfl) fun π s0=>?_
 conv=>arg 2;whnf
 have q:Now L tb cap pb h h st:=⟨p,s0.dom,OffP.refl pb h⟩
 repeat (first|((with_reducible apply (RS.callEx (g0:=68)));(iterate 3 exact rfl);intro B1 hB1;refine ⟨_,want_ex hL (q.p.absd q.d hB1) _ h1,?_⟩;rintro v H1 π1 ⟨rfl,p',o'⟩ sp' hle1;have q:Now L tb cap pb h H1 _:=⟨p',sp'.dom,(q.o.abs hB1).trans o'⟩)|((with_reducible apply (RS.callEx (g0:=149)));(iterate 3 exact rfl);intro B1 hB1;have hlo:h.n≤B1.n:=Nat.le_trans q.o.1 hB1.le;have hpl:pb < B1.n:=hB1.dom _ _ (q.p.absd q.d hB1).par;refine ⟨_,ih n (Nat.lt_succ_self n) .full _ _ _ h2 _ _ _ _ (q.p.absd q.d hB1),?_⟩;rintro v H1 π1 ⟨b,rfl,he,p',o'⟩ sp' hle1;have q:Now L tb cap pb h H1 _:=⟨p',sp'.dom,(q.o.abs hB1).trans o'⟩)|((with_reducible apply (RS.callEx (g0:=68)));(iterate 3 exact rfl);intro B2 hB2;refine ⟨_,want_ex hL (q.p.absd q.d hB2) _ h3,?_⟩;rintro v H2 π2 ⟨rfl,p',o'⟩ sp2 hle2;have he:=he.keep sp'.dom (((OffP.refl pb _).abs hB2).trans o') hpl hlo;have q:Now L tb cap pb h H2 _:=⟨p',sp2.dom,(q.o.abs hB2).trans o'⟩)|refine Y7 ?_|refine Y0 ?_|refine Yq ?_|refine Y1 ?_)
 exact endsK_ret _ (.cons (.tmp rfl) .nil) fun B' a=>⟨b,rfl,he.keep sp2.dom ((OffP.refl pb _).abs a) (Nat.lt_of_le_of_lt (Nat.le_refl _) (s0.dom _ _ p.par)) (Nat.le_refl _),(q.ends a).1,(q.ends a).2⟩
theorem exprS_iff {T:Nat→TokS} {st t:PS} {op pos:Nat} {text:ByteArray} {kids:List ExprS} {e:ExprS} (h:exprS T st op pos text kids=some (e,t)):st.node T=some t∧e=.mk op pos text zeroTok zeroType kids:=by
 unfold exprS at h
 obtain ⟨u,h1,h2⟩:=Option.map_eq_some_iff.1 h
 injection h2 with h3 h4
 subst h4
 exact ⟨h1,h3.symm⟩
theorem leaf_at {B:Hp} {lo b op pos:Nat} {text:ByteArray} {tok:TokS} (h0:lo≤b) (hm:B.m b=some ⟨⟨exprC op pos text tok zeroType none 0 none 0 0⟩,232⟩):ExprAt B lo b (.mk op pos text tok zeroType []) :=
 .mk (ps:=[]) h0 hm (.inl ⟨rfl,rfl⟩) (.inl ⟨rfl,rfl⟩) rfl (fun i p k h=>by simp at h)
theorem primary_ok (hL:ToksOK L) {n:Nat} (ih:IH L (n+1)) {e:ExprS} {t:PS} (hs:parseE (tokN L) (n+1) .primary st=some (e,t)):CtrE L .primary st e t:=by
 intro tb cap pb h p
 rw [parseE] at hs
 show EX _ _ _ _ _
 refine EX.intro (fn:=Tryz.f194) (c:=(Tryz.f194.body.getD .skip)) Tryz.func194 (by kernel_rfl) Tryz.ntmps194 (by kernel_rfl) fun π s0=>?_
 conv=>arg 2;whnf
 have hpb:=s0.dom _ _ p.par
 have q:Now L tb cap pb h h st:=⟨p,s0.dom,OffP.refl pb h⟩
 ((with_reducible apply W.seq);repeat (first|refine Yw ?_|refine Y0 ?_|refine Y1 ?_|refine Ym ?_))
 ((with_reducible apply W.seq);repeat (first|refine Y14 ?_|refine Y11 ?_|refine Y2 ?_|refine Y9 ?_|refine Y0 ?_|refine Y1 ?_|refine Ym ?_))
 refine W.absorbX fun G π0 a0=>?_
 have hT:G.m (π 0)=some ⟨⟨tokC (st.tok (tokN L))⟩,102⟩:=a0.loc 0 (Nat.lt_succ_self 0)
 have tn:=a0.dom _ _ hT
 have tne:π 0≠pb:=fun e=>by have h1:h.n≤π 0:=a0.lo 0 (Nat.lt_succ_self 0);omega
 have o0:OffP pb h G:=q.o.abs a0
 have q:Now L tb cap pb G G st:=⟨(q.ends a0).1,a0.dom,OffP.refl pb G⟩
 have hrw:rwM≤G.n:=Nat.le_trans a0.rw a0.le
 generalize π 0=tk at *
 by_cases hk3:(st.tok (tokN L)).kind=3
 ·rw [if_pos hk3] at hs
  obtain ⟨u1,hadv,hs⟩:=bind_some' hs
  obtain ⟨ha,rfl⟩:=adv_iff hadv
  obtain ⟨⟨e1,u2⟩,hx,hs⟩:=bind_some' hs
  obtain ⟨h2,rfl⟩:=exprS_iff hx
  simp only [Option.some.injEq,Prod.mk.injEq] at hs
  obtain ⟨rfl,rfl⟩:=hs
  repeat (first|refine Yx ?_|((with_reducible apply RS.loadNB);(iterate 3 exact rfl);exact q.o.keep hT tn tne;exact q.d _ _ (q.o.keep hT tn tne);exact Nat.le_of_ble_eq_true rfl;exact (show takeV 0 6 (tokC (st.tok (tokN L)))=tokC (st.tok (tokN L)) from rfl))|refine Y1u ?_|((with_reducible apply (RS.storeB (cs':=psC L tb cap { st with at_:=st.at_+1 })));(iterate 3 exact rfl);exact q.p.par;exact q.d _ _ q.p.par;exact q.p.rw;exact Nat.le_of_ble_eq_true rfl;(iterate 3 exact rfl);(have q:=q.set (q.p.fits.adv hadv)))|((with_reducible apply (RS.callEx (g0:=152)));(iterate 3 exact rfl);intro B1 hB1;have hlo:G.n≤B1.n:=Nat.le_trans q.o.1 hB1.le;have hpl:pb < B1.n:=hB1.dom _ _ (q.p.absd q.d hB1).par;have htl:tb < B1.n:=hB1.dom _ _ (q.p.absd q.d hB1).tok;refine ⟨_,expr_ex hL (q.p.absd q.d hB1) _ _ _ _ _ _ h2,?_⟩;rintro v H1 π1 ⟨b,rfl,hbn,hbm,p',o'⟩ sp' hle1;have q:Now L tb cap pb G H1 _:=⟨p',sp'.dom,(q.o.abs hB1).trans o'⟩)|((with_reducible apply (RS.storeB (cs':=exprC 1 (st.tok (tokN L)).pos ⟨#[]⟩ (st.tok (tokN L)) zeroType none 0 none 0 0)));(iterate 3 exact rfl);exact hbm;exact sp'.dom _ _ hbm;exact Nat.le_trans hrw (Nat.le_trans hlo hbn);exact Nat.le_of_ble_eq_true rfl;(iterate 3 exact rfl);(have q:=q.other ⟨⟨exprC 1 (st.tok (tokN L)).pos ⟨#[]⟩ (st.tok (tokN L)) zeroType none 0 none 0 0⟩,232⟩ (Nat.le_trans hlo hbn) (Nat.lt_of_lt_of_le hpl hbn) (by omega) (sp'.dom _ _ hbm)))|refine Y8 ?_|refine Y6 ?_|refine Yp ?_|refine Y0 ?_|refine Yz ?_|refine Y1 ?_|refine Y5 ?_)
  refine endsK_ret _ (.cons (.tmp rfl) .nil) fun B' a=>⟨b,rfl,leaf_at (Nat.le_trans o0.1 (Nat.le_trans hlo hbn)) (a.up _ _ ?_),(q.ends a).1,o0.trans (q.ends a).2⟩
  show (if b=b then _ else _)=_
  rw [if_pos rfl]
 ·rw [if_neg hk3] at hs
  by_cases hk1:(st.tok (tokN L)).kind=1
  ·rw [if_pos hk1] at hs
   obtain ⟨u1,hadv,hs⟩:=bind_some' hs
   obtain ⟨ha,rfl⟩:=adv_iff hadv
   obtain ⟨h2,rfl⟩:=exprS_iff hs
   repeat (first|((with_reducible apply RS.load1B);(iterate 3 exact rfl);first|exact q.o.keep hT tn tne;exact q.d _ _ (q.o.keep hT tn tne);exact rfl|exact q.p.par;exact q.d _ _ q.p.par;exact rfl)|((with_reducible apply (RS.storeB (cs':=psC L tb cap { st with at_:=st.at_+1 })));(iterate 3 exact rfl);exact q.p.par;exact q.d _ _ q.p.par;exact q.p.rw;exact Nat.le_of_ble_eq_true rfl;(iterate 3 exact rfl);(have q:=q.set (q.p.fits.adv hadv)))|((with_reducible apply (RS.callEx (g0:=152)));(iterate 3 exact rfl);intro B1 hB1;have hlo:G.n≤B1.n:=Nat.le_trans q.o.1 hB1.le;have hpl:pb < B1.n:=hB1.dom _ _ (q.p.absd q.d hB1).par;have htl:tb < B1.n:=hB1.dom _ _ (q.p.absd q.d hB1).tok;refine ⟨_,expr_ex hL (q.p.absd q.d hB1) _ _ _ _ _ _ h2,?_⟩;rintro v H1 π1 ⟨b,rfl,hbn,hbm,p',o'⟩ sp' hle1;have q:Now L tb cap pb G H1 _:=⟨p',sp'.dom,(q.o.abs hB1).trans o'⟩)|refine Y8 ?_|refine Y6 ?_|refine Y4 ?_|refine Yp ?_|refine Y0 ?_|refine Yz ?_|refine Y1 ?_|refine Y5 ?_|refine Y3 ?_)
   exact endsK_ret _ (.cons (.tmp rfl) .nil) fun B' a=>⟨b,rfl,leaf_at (Nat.le_trans o0.1 (Nat.le_trans hlo hbn)) (a.up _ _ hbm),(q.ends a).1,o0.trans (q.ends a).2⟩
  ·rw [if_neg hk1] at hs
   cases his:st.is (tokN L) (b1 40) with
   | true =>
    rw [if_pos his] at hs
    repeat (first|refine Y5w ?_|refine Yx ?_|((with_reducible apply (RS.callEx (g0:=146)));(iterate 3 exact rfl);intro B1 hB1;have hlo:G.n≤B1.n:=Nat.le_trans q.o.1 hB1.le;have hpl:pb < B1.n:=hB1.dom _ _ (q.p.absd q.d hB1).par;refine ⟨_,ih n (Nat.lt_succ_self n) .paren _ _ _ hs _ _ _ _ (q.p.absd q.d hB1),?_⟩;rintro v H1 π1 ⟨b,rfl,he,p',o'⟩ sp' hle1;have q:Now L tb cap pb G H1 _:=⟨p',sp'.dom,(q.o.abs hB1).trans o'⟩)|refine Yu ?_|refine Y4 ?_|refine Y0 ?_|refine Yz ?_|refine Y1 ?_|refine Y5 ?_|refine Y3 ?_)
    exact endsK_ret _ (.cons (.tmp rfl) .nil) fun B' a=>⟨b,rfl,he.keep sp'.dom ((OffP.refl pb _).abs a) hpl (Nat.le_trans o0.1 hlo),(q.ends a).1,o0.trans (q.ends a).2⟩
   | false =>
    rw [if_neg (by rw [his];decide)] at hs
    simp only [Option.some.injEq,Prod.mk.injEq] at hs
    obtain ⟨rfl,rfl⟩:=hs
    repeat (first|refine Y5w ?_|refine Yx ?_|((with_reducible apply (RS.callEx (g0:=59)));(iterate 3 exact rfl);intro B1 hB1;refine ⟨_,fail_ex hL (q.p.absd q.d hB1) 11,?_⟩;rintro v H1 π1 ⟨rfl,p',o'⟩ sp' hle1;have q:Now L tb cap pb G H1 _:=⟨p',sp'.dom,(q.o.abs hB1).trans o'⟩)|refine Y4j ?_|refine Y4 ?_|refine Ya ?_|refine Y0 ?_|refine Y18 ?_|refine Y1 ?_|refine Y3 ?_)
    exact endsK_ret _ (.cons (.tmp rfl) .nil) fun B' a=>⟨_,rfl,leaf_at (Nat.le_trans o0.1 (Nat.le_trans q.o.1 (a.lo 0 (Nat.lt_succ_self 0)))) (a.loc 0 (Nat.lt_succ_self 0)),(q.ends a).1,o0.trans (q.ends a).2⟩
end
end Go.Proofs.YtgpigfcagppohaaGreatDoor
