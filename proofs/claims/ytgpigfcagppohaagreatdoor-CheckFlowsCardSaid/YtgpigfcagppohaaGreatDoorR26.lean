/-
  What the functions that the law reaches compute,told by plain data;it holds of programs that pass the check of right form and are light.
-/
import Derived.Test.YtgpigfcagppohaaGreatDoorR25
set_option linter.unusedVariables false
set_option linter.unusedSimpArgs false
namespace Go.Proofs.YtgpigfcagppohaaGreatDoor
open Go.AH
attribute [local irreducible] W RS WR
section
variable {L:List TokS} {tb cap pb:Nat} {h:Hp} {st:PS}
structure NowS (L:List TokS) (tb cap pb:Nat) (h B:Hp) (st:PS) (sb:Nat) (c:Blk):Prop where
 q:Now L tb cap pb h B st
 s:B.m sb=some c
 lo:h.n≤sb
 ne:pb < sb
 tn:tb≠sb
variable {B B1 H1:Hp} {sb:Nat} {c:Blk} {st':PS}
theorem NowS.step {P:Program} {π:Nat→Nat} {k:Nat} {l:List (Nat × Option Blk)} (w:NowS L tb cap pb h B st sb c) (a:Absb (P:=P) ⟨B,π,k,l⟩ B1) (p':ParAt L tb cap pb H1 st') (d:∀ i c,H1.m i=some c→i < H1.n) (o':OffP pb B1 H1):NowS L tb cap pb h H1 st' sb c :=
 ⟨⟨p',d,(w.q.o.abs a).trans o'⟩,o'.keep (a.up _ _ w.s) (a.dom _ _ (a.up _ _ w.s)) (Nat.ne_of_gt w.ne),w.lo,w.ne,w.tn⟩
theorem NowS.abs {P:Program} {π:Nat→Nat} {k:Nat} {l:List (Nat × Option Blk)} (w:NowS L tb cap pb h B st sb c) (a:Absb (P:=P) ⟨B,π,k,l⟩ B1):NowS L tb cap pb h B1 st sb c :=
 ⟨⟨(w.q.ends a).1,a.dom,(w.q.ends a).2⟩,a.up _ _ w.s,w.lo,w.ne,w.tn⟩
theorem NowS.write (w:NowS L tb cap pb h B st sb c) (c':Blk):NowS L tb cap pb h (B.set sb c') st sb c' :=
 ⟨w.q.other c' w.lo w.ne w.tn (w.q.d _ _ w.s),(by show (if sb=sb then _ else _)=_;rw [if_pos rfl]),w.lo,w.ne,w.tn⟩
theorem set_upto {H:Hp} {lo:Nat} (hlt:sb < lo):Upto lo H (H.set sb c):=fun i hi b hb=>by
 show (if i=sb then some c else H.m i)=some b
 rw [if_neg (Nat.ne_of_gt (Nat.lt_of_lt_of_le hlt hi))];exact hb
end
def SimQ (L:List TokS) (tb cap pb:Nat) (g:Hp) (sb:Nat) (h:Hp) (s:StmtS) (t:PS) (v:Value) (h':Hp):Prop:=v=.tuple ⟨[]⟩∧h.n≤h'.n∧match s with
 | .mk kind pos dc e kids=>kids=[]∧∃ D d E,NowS L tb cap pb g h' t sb ⟨⟨stmtC kind pos dc D d E none 0 0⟩,191⟩∧RowAt h' h.n 3 D (dimsC dc.ty.dims)∧EOpt h' h.n E e
section
variable {L:List TokS} {tb cap pb:Nat} {g h:Hp} {st:PS}
set_option maxHeartbeats 4000000 in
theorem simple_ex (hL:ToksOK L) {n p sb:Nat} {s:StmtS} {t:PS} (hs:simpleS (tokN L) n p st=some (s,t)) (w:NowS L tb cap pb g h st sb ⟨⟨stmtC 0 p zeroDecl none 0 (.pointer none) none 0 0⟩,191⟩) (hsw:rwM≤sb):EX Tryz.prog 150 [ptrC pb,ptrC sb] h (SimQ L tb cap pb g sb h s t):=by
 unfold simpleS at hs
 refine EX.intro (fn:=Tryz.f150) (c:=(Tryz.f150.body.getD .skip)) Tryz.func150 (by kernel_rfl) Tryz.ntmps150 (by kernel_rfl) fun π s0=>?_
 conv=>arg 2;whnf
 have hle:=Nat.le_refl h.n
 cases ht:typedT (st.tok (tokN L)) with
 | false =>
  rw [if_neg (by rw [ht];decide)] at hs
  obtain ⟨⟨e5,u5⟩,h5,hs⟩:=bind_some' hs
  simp only [Option.some.injEq,Prod.mk.injEq] at hs
  obtain ⟨rfl,rfl⟩:=hs
  repeat (first|refine Y43 ?_|((with_reducible apply (RS.storeB (cs':=stmtC 1 p zeroDecl none 0 (.pointer none) none 0 0)));(iterate 3 exact rfl);exact w.s;exact w.q.d _ _ w.s;exact hsw;exact Nat.le_of_ble_eq_true rfl;(iterate 3 exact rfl);(have w:=w.write ⟨⟨stmtC 1 p zeroDecl none 0 (.pointer none) none 0 0⟩,191⟩))|((with_reducible apply (RS.callEx (g0:=149)));(iterate 3 exact rfl);intro B5 hB5;have hlo5:h.n≤B5.n:=Nat.le_trans hle hB5.le;have hsb5:sb < B5.n:=hB5.dom _ _ (hB5.up _ _ w.s);refine ⟨_,full_ex hL (w.q.p.absd w.q.d hB5) h5,?_⟩;rintro v H5 π5 ⟨b5,rfl,he5,p5,o5⟩ sp5 hle5;have w:=w.step hB5 p5 sp5.dom o5;have hle:h.n≤H5.n:=Nat.le_trans hlo5 hle5)|((with_reducible apply (RS.storeB (cs':=stmtC 1 p zeroDecl none 0 (ptrC b5) none 0 0)));(iterate 3 exact rfl);exact w.s;exact w.q.d _ _ w.s;exact hsw;exact Nat.le_of_ble_eq_true rfl;(iterate 3 exact rfl);(have w:=w.write ⟨⟨stmtC 1 p zeroDecl none 0 (ptrC b5) none 0 0⟩,191⟩);(have he5:=he5.up (set_upto (c:=⟨⟨stmtC 1 p zeroDecl none 0 (ptrC b5) none 0 0⟩,191⟩) hsb5) (Nat.le_refl _)))|refine Y16 ?_|refine Y0 ?_|refine Y13 ?_|refine Y1 ?_|refine Y5 ?_)
  exact endsK_ret _ .nil fun B' a=>⟨rfl,Nat.le_trans hle a.le,rfl,none,0,ptrC b5,w.abs a,.inl ⟨rfl,rfl⟩,b5,rfl,he5.up (fun i _ c hc=>a.up i c hc) hlo5⟩
 | true =>
  rw [if_pos ht] at hs
  obtain ⟨⟨s1,u1⟩,e1,hs⟩:=bind_some' hs
  obtain ⟨⟨d,u2⟩,e2,hs⟩:=bind_some' hs
  obtain ⟨⟨b,u3⟩,e3,hs⟩:=bind_some' hs
  cases b with
  | false =>
   simp only [Bool.false_eq_true,if_false,Option.some.injEq,Prod.mk.injEq] at hs
   obtain ⟨rfl,rfl⟩:=hs
   repeat (first|refine Y43 ?_|((with_reducible apply (RS.storeB (cs':=stmtC 2 p zeroDecl none 0 (.pointer none) none 0 0)));(iterate 3 exact rfl);exact w.s;exact w.q.d _ _ w.s;exact hsw;exact Nat.le_of_ble_eq_true rfl;(iterate 3 exact rfl);(have w:=w.write ⟨⟨stmtC 2 p zeroDecl none 0 (.pointer none) none 0 0⟩,191⟩))|((with_reducible apply (RS.callEx (g0:=62)));(iterate 3 exact rfl);intro B3 hB3;refine ⟨_,spec_ex hL (w.q.p.absd w.q.d hB3) e1,?_⟩;rintro v H3 π3 ⟨rfl,p3,o3⟩ sp3 hle3;have w:=w.step hB3 p3 sp3.dom o3;have hle:=Nat.le_trans hle (Nat.le_trans hB3.le hle3))|((with_reducible apply (RS.callEx (g0:=63)));(iterate 3 exact rfl);intro B4 hB4;have hlo4:h.n≤B4.n:=Nat.le_trans hle hB4.le;have hsb4:sb < B4.n:=hB4.dom _ _ (hB4.up _ _ w.s);have hpb4:pb < B4.n:=Nat.lt_trans w.ne hsb4;refine ⟨_,rest_ex hL (w.q.p.absd w.q.d hB4) e2,?_⟩;rintro v H4 π4 ⟨D,d',rfl,hz,hr,p4,o4⟩ sp4 hle4;have w:=w.step hB4 p4 sp4.dom o4;have hle:=Nat.le_trans hlo4 hle4)|((with_reducible apply (RS.storeB (cs':=stmtC 2 p d D d' (.pointer none) none 0 0)));(iterate 3 exact rfl);exact w.s;exact w.q.d _ _ w.s;exact hsw;exact Nat.le_of_ble_eq_true rfl;(iterate 3 exact rfl);(have w:=w.write ⟨⟨stmtC 2 p d D d' (.pointer none) none 0 0⟩,191⟩);(have hr:=hr.up (set_upto (c:=⟨⟨stmtC 2 p d D d' (.pointer none) none 0 0⟩,191⟩) hsb4) (Nat.le_refl _)))|((with_reducible apply (RS.callEx (g0:=66)));(iterate 3 exact rfl);intro B6 hB6;refine ⟨_,take_ex hL (w.q.p.absd w.q.d hB6) _ e3,?_⟩;rintro v H6 π6 ⟨rfl,p6,o6⟩ sp6 hle6;have hr:=hr.up ((((OffP.refl pb _).abs hB6).trans o6).upto w.q.d hpb4) (Nat.le_refl _);have w:=w.step hB6 p6 sp6.dom o6;have hle:=Nat.le_trans hle (Nat.le_trans hB6.le hle6))|refine Y16 ?_|refine Y0 ?_|refine Y1d ?_|refine Y1 ?_|refine Y3 ?_)
   exact endsK_normal _ .nil fun B' a=>⟨rfl,Nat.le_trans hle a.le,rfl,D,d',.pointer none,w.abs a,hr.up (fun i _ c hc=>a.up i c hc) hlo4,rfl⟩
  | true =>
   simp only [if_true] at hs
   obtain ⟨⟨e5,u5⟩,h5,hs⟩:=bind_some' hs
   simp only [Option.some.injEq,Prod.mk.injEq] at hs
   obtain ⟨rfl,rfl⟩:=hs
   repeat (first|refine Y43 ?_|((with_reducible apply (RS.storeB (cs':=stmtC 2 p zeroDecl none 0 (.pointer none) none 0 0)));(iterate 3 exact rfl);exact w.s;exact w.q.d _ _ w.s;exact hsw;exact Nat.le_of_ble_eq_true rfl;(iterate 3 exact rfl);(have w:=w.write ⟨⟨stmtC 2 p zeroDecl none 0 (.pointer none) none 0 0⟩,191⟩))|((with_reducible apply (RS.callEx (g0:=62)));(iterate 3 exact rfl);intro B3 hB3;refine ⟨_,spec_ex hL (w.q.p.absd w.q.d hB3) e1,?_⟩;rintro v H3 π3 ⟨rfl,p3,o3⟩ sp3 hle3;have w:=w.step hB3 p3 sp3.dom o3;have hle:=Nat.le_trans hle (Nat.le_trans hB3.le hle3))|((with_reducible apply (RS.callEx (g0:=63)));(iterate 3 exact rfl);intro B4 hB4;have hlo4:h.n≤B4.n:=Nat.le_trans hle hB4.le;have hsb4:sb < B4.n:=hB4.dom _ _ (hB4.up _ _ w.s);have hpb4:pb < B4.n:=Nat.lt_trans w.ne hsb4;refine ⟨_,rest_ex hL (w.q.p.absd w.q.d hB4) e2,?_⟩;rintro v H4 π4 ⟨D,d',rfl,hz,hr,p4,o4⟩ sp4 hle4;have w:=w.step hB4 p4 sp4.dom o4;have hle:=Nat.le_trans hlo4 hle4)|((with_reducible apply (RS.storeB (cs':=stmtC 2 p d D d' (.pointer none) none 0 0)));(iterate 3 exact rfl);exact w.s;exact w.q.d _ _ w.s;exact hsw;exact Nat.le_of_ble_eq_true rfl;(iterate 3 exact rfl);(have w:=w.write ⟨⟨stmtC 2 p d D d' (.pointer none) none 0 0⟩,191⟩);(have hr:=hr.up (set_upto (c:=⟨⟨stmtC 2 p d D d' (.pointer none) none 0 0⟩,191⟩) hsb4) (Nat.le_refl _)))|((with_reducible apply (RS.callEx (g0:=66)));(iterate 3 exact rfl);intro B6 hB6;refine ⟨_,take_ex hL (w.q.p.absd w.q.d hB6) _ e3,?_⟩;rintro v H6 π6 ⟨rfl,p6,o6⟩ sp6 hle6;have hr:=hr.up ((((OffP.refl pb _).abs hB6).trans o6).upto w.q.d hpb4) (Nat.le_refl _);have w:=w.step hB6 p6 sp6.dom o6;have hle:=Nat.le_trans hle (Nat.le_trans hB6.le hle6))|((with_reducible apply (RS.callEx (g0:=149)));(iterate 3 exact rfl);intro B5 hB5;have hlo5:h.n≤B5.n:=Nat.le_trans hle hB5.le;have hsb5:sb < B5.n:=hB5.dom _ _ (hB5.up _ _ w.s);refine ⟨_,full_ex hL (w.q.p.absd w.q.d hB5) h5,?_⟩;rintro v H5 π5 ⟨b5,rfl,he5,p5,o5⟩ sp5 hle5;have hr:=hr.up ((((OffP.refl pb _).abs hB5).trans o5).upto w.q.d hpb4) (Nat.le_refl _);have w:=w.step hB5 p5 sp5.dom o5;have hle:h.n≤H5.n:=Nat.le_trans hlo5 hle5)|((with_reducible apply (RS.storeB (cs':=stmtC 2 p d D d' (ptrC b5) none 0 0)));(iterate 3 exact rfl);exact w.s;exact w.q.d _ _ w.s;exact hsw;exact Nat.le_of_ble_eq_true rfl;(iterate 3 exact rfl);(have w:=w.write ⟨⟨stmtC 2 p d D d' (ptrC b5) none 0 0⟩,191⟩);(have he5:=he5.up (set_upto (c:=⟨⟨stmtC 2 p d D d' (ptrC b5) none 0 0⟩,191⟩) hsb5) (Nat.le_refl _));(have hr:=hr.up (set_upto (c:=⟨⟨stmtC 2 p d D d' (ptrC b5) none 0 0⟩,191⟩) hsb4) (Nat.le_refl _)))|refine Y16 ?_|refine Y0 ?_|refine Y1d ?_|refine Y1 ?_|refine Y5 ?_|refine Y3 ?_)
   exact endsK_normal _ .nil fun B' a=>⟨rfl,Nat.le_trans hle a.le,rfl,D,d',ptrC b5,w.abs a,hr.up (fun i _ c hc=>a.up i c hc) hlo4,b5,rfl,he5.up (fun i _ c hc=>a.up i c hc) hlo5⟩
end
end Go.Proofs.YtgpigfcagppohaaGreatDoor
