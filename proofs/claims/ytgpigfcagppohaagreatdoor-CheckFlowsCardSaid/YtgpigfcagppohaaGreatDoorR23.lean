/-
  What the functions that the law reaches compute,told by plain data;it holds of programs that pass the check of right form and are light.
-/
import Derived.Test.YtgpigfcagppohaaGreatDoorR22
import Derived.Test.YtgpigfcagppohaaGreatDoorS2
import Derived.Test.YtgpigfcagppohaaGreatDoorS3
set_option linter.unusedVariables false
set_option linter.unusedSimpArgs false
namespace Go.Proofs.YtgpigfcagppohaaGreatDoor
open Go.AH
attribute [local irreducible] W RS WR
section
variable {L:List TokS} {tb cap pb:Nat} {h:Hp} {st:PS}
set_option maxHeartbeats 1000000 in
theorem full_ok (hL:ToksOK L) {n:Nat} (ih:IH L (n+1)) {e:ExprS} {t:PS} (hs:parseE (tokN L) (n+1) .full st=some (e,t)):CtrE L .full st e t:=by
 intro tb cap pb h p
 rw [parseE] at hs
 obtain ⟨u1,h1,hs⟩:=bind_some' hs
 show EX _ _ _ _ _
 refine EX.introD (fn:=Tryz.f149) (c:=(Tryz.f149.body.getD .skip)) Tryz.func149 (by kernel_rfl) Tryz.ntmps149 (by kernel_rfl) fun π s0=>?_
 conv=>arg 3;whnf
 have hpb:=s0.dom _ _ p.par
 have q:Now L tb cap pb h h st:=⟨p,s0.dom,OffP.refl pb h⟩
 refine WD.plain fun inst _=>?_
 repeat (first|refine Yw ?_|refine Y0 ?_|refine Y1 ?_)
 refine thenD_n ?_
 refine WD.seq (WD.moveDefer (by kernel_rfl) rfl rfl ?_)
 refine thenD_n ?_
 refine WD.lift fun inst _=>?_
 by_cases hf:u1.fk=0
 ·rw [if_neg (fun hc=>hc hf)] at hs
  obtain ⟨u,hr,hup⟩:=upE_iff hs
  obtain ⟨⟨e1,u2⟩,h2,hr⟩:=bind_some' hr
  dsimp only at hr
  by_cases hf2:u2.fk=0
  ·by_cases hk:(u2.tok (tokN L)).kind=4
   ·rw [if_neg (fun hc=>by rcases hc with hc|hc;exact hc hf2;exact hc hk)] at hr
    split at hr
    ·rename_i hany
     split at hr
     ·rename_i heq
      obtain ⟨u3,h3,hr⟩:=bind_some' hr
      obtain ⟨ha3,rfl⟩:=adv_iff h3
      obtain ⟨⟨r4,u4⟩,h4,hr⟩:=bind_some' hr
      dsimp only at h4 hr
      obtain ⟨hnode,rfl⟩:=exprS_iff hr
      ((with_reducible apply W.seq);repeat (fail))
      ((with_reducible apply W.seq);repeat (first|((with_reducible apply (RS.callEx (g0:=114)));(iterate 3 exact rfl);intro B1 hB1;refine ⟨_,down_exb hL (q.p.absd q.d hB1) h1 (decide_eq_true hf),?_⟩;rintro v H1 π1 ⟨rfl,p',o'⟩ sp' hle1;have q:Now L tb cap pb h H1 _:=⟨p',sp'.dom,(q.o.abs hB1).trans o'⟩)|refine Y25 ?_|refine Y0 ?_|refine Y1 ?_|refine Y1h ?_|refine Y3 ?_))
      ((with_reducible apply W.seq);repeat (first|((with_reducible apply (RS.callEx (g0:=115)));(iterate 3 exact rfl);intro B1 hB1;have hlo:h.n≤B1.n:=Nat.le_trans q.o.1 hB1.le;have hpl:pb < B1.n:=hB1.dom _ _ (q.p.absd q.d hB1).par;refine ⟨_,ih n (Nat.lt_succ_self n) .choice _ _ _ h2 _ _ _ _ (q.p.absd q.d hB1),?_⟩;rintro v H1 π1 ⟨b,rfl,he,p',o'⟩ sp2 hle1;have q:Now L tb cap pb h H1 _:=⟨p',sp2.dom,(q.o.abs hB1).trans o'⟩)|refine Y7 ?_|refine Y0 ?_|refine Y1 ?_|refine Ym ?_))
      ((with_reducible apply W.seq);repeat (first|refine Y14 ?_|refine Y11 ?_|refine Y2 ?_|refine Y9 ?_|refine Y0 ?_|refine Y1 ?_|refine Ym ?_))
      refine W.absorbX fun G πg ag=>?_
      have hT:G.m (π1 0)=some ⟨⟨tokC (u2.tok (tokN L))⟩,102⟩:=ag.loc 0 (Nat.lt_succ_self 0)
      have tn:=ag.dom _ _ hT
      have tne:π1 0≠pb:=fun e=>by have h1:H1.n≤π1 0:=ag.lo 0 (Nat.lt_succ_self 0);have h2:=sp2.dom _ _ q.p.par;simp only at *;omega
      have he:=he.keep sp2.dom ((OffP.refl pb _).abs ag) hpl (Nat.le_refl _)
      have hT2:(u2.tok (tokN L)).text=b1 61:=eqB_iff.1 heq
      have o0:OffP pb h G:=q.o.abs ag
      have q:Now L tb cap pb G G u2:=⟨(q.ends ag).1,ag.dom,OffP.refl pb G⟩
      have hpG:=q.d _ _ q.p.par
      generalize hT0:u2.tok (tokN L)=T0 at *
      obtain ⟨tk1,tx1,tp1,tv1,tu1,tl1⟩:=T0
      obtain rfl:tx1=b1 61:=hT2
      obtain rfl:tk1=4:=hk
      generalize π1 0=tk at *
      have q8:=q
      repeat (first|refine Y3p ?_|refine Ye ?_|refine Y1u ?_|refine Y3x ?_|((with_reducible apply (RS.storeB (cs':=psC L tb cap { u2 with at_:=u2.at_+1 })));(iterate 3 exact rfl);exact q.p.par;exact q.d _ _ q.p.par;exact q.p.rw;exact Nat.le_of_ble_eq_true rfl;(iterate 3 exact rfl);(have q:=q.set (q.p.fits.adv h3)))|((with_reducible apply (RS.sliceStr (s:=b1 61) (l0:=0) (h0:=0)));(iterate 4 exact rfl);exact ⟨_,_,rfl,rfl⟩;exact Nat.le_refl _;exact Nat.zero_le _)|((with_reducible apply (RS.callYE (g0:=149) (fun id=>id == pb)));(iterate 3 exact rfl);intro B4 he4 hB4;have hpl4:pb < B4.n:=hB4.dom _ _ (q.p.absd q.d hB4).par;refine ⟨_,ih n (Nat.lt_succ_self n) .full _ _ _ h4 _ _ _ _ (q.p.absd q.d hB4),(fun v H' ⟨_,_,_,_,o⟩ i hi hei=>o.2 i (Nat.lt_of_lt_of_le hi hB4.le) (by simpa using hei)),?_⟩;rintro v H5 k5 l5 ⟨b5,rfl,he5,p5,o5⟩ s5 hle5 hm5 hden5 hwf5 hk5;have oo5:=(q.o.abs hB4).trans o5)|refine Yi ?_|((with_reducible apply (RS.callYE (g0:=152) (fun id=>id == pb)));(iterate 3 exact rfl);intro B6 he6 hB6;have hlk:∀ (x:Option Blk) (j:Nat),j < k5→lookB ((k5,x)::l5) j=lookB l5 j:=fun x j hj=>(by rw [look_cons,if_neg (Nat.ne_of_gt hj)]);have up6:∀ i c',H5.m i=some c'→B6.m i=some c':=cutD_up hden5 hB6 (Nat.le_succ k5) (fun j hj=>hlk _ j hj);have hkb:B6.m (πg k5)=some ⟨⟨[ptrC b,ptrC b5]⟩,181⟩:=(hB6.loc k5 (Nat.lt_succ_self k5)).trans ((look_cons _ _ _).trans (if_pos rfl));have p6:ParAt L tb cap pb B6 u4:=⟨up6 _ _ p5.tok,up6 _ _ p5.par,p5.fits,p5.rw,p5.ne⟩;refine ⟨_,expr_ex hL p6 _ _ _ _ _ _ hnode,(fun v H' ⟨_,_,_,_,_,o⟩ i hi hei=>o.2 i (Nat.lt_of_lt_of_le hi hB6.le) (by simpa using hei)),?_⟩;rintro v H7 k7 l7 ⟨b7,rfl,hbn,hbm,p7,o7⟩ s7 hle7 hm7 hden7 hwf7 hk7)|((with_reducible apply (RS.nilPC mixed [(0,1),(0,2),(2,3),(1,3),(0,3),(2,4),(1,4),(0,4),(4,5),(3,5),(2,5),(1,5),(0,5),(4,6),(3,6),(2,6),(1,6),(0,6),(4,7),(3,7),(2,7),(1,7),(0,7),(4,8),(3,8),(2,8),(1,8),(0,8),(2,9),(1,9),(0,9),(9,10),(8,10),(7,10),(6,10),(5,10),(4,10),(3,10),(2,10),(1,10),(0,10),(10,11),(9,11),(8,11),(7,11),(6,11),(5,11),(4,11),(3,11),(2,11),(1,11),(0,11),(10,12),(9,12),(8,12),(7,12),(6,12),(5,12),(4,12),(3,12),(2,12),(1,12),(0,12),(9,13),(8,13),(7,13),(6,13),(5,13),(4,13),(3,13),(2,13),(1,13),(0,13)]));kernel_rfl;(repeat (refine ⟨fun x y hx hy=>(by obtain rfl:=Option.some.inj hx;obtain rfl:=Option.some.inj hy;first|exact pairR_free rfl rfl rfl rfl rfl rfl rfl (Nat.zero_le _) rfl|(unfold pairR crossB;simp [recYE,recP,recN,recX,recWB,noneB,outO,outR,memL])),?_⟩));exact trivial;exact sideOK_all (j:=pb) (b:=tk) tne.symm (by repeat' (first|exact trivial|exact .inl rfl|exact .inr rfl|apply And.intro));exact rfl)|refine Yl ?_|refine Yc ?_|refine Y4 ?_|refine Yp ?_|refine Y4q ?_|refine Y1e ?_|refine Y0 ?_|refine Ys ?_|refine Y1 ?_|refine Y5 ?_|refine Y3 ?_)
      refine ⟨.inl rfl,[ptrC b7],.cons rfl .nil,fun B' a=>?_⟩
      have up8:=cutD_up hden7 a (Nat.le_refl _) fun _ _=>rfl
      have hcn:cutH H7 G.n=cutH H7 G.n:=rfl
      have hG5:G.n≤B6.n:=hB6.le
      have h56:H5.n≤B6.n:=by
       have e1:H5.n=πg k5:=by rw [← hden5];rfl
       have e2:=hB6.n
       rw [e2,e1]
       exact Nat.le_of_lt (hwf5.up k5 (Nat.le_refl _) ▸ Nat.lt_succ_self _)
      have hl1:B1.n≤G.n:=Nat.le_trans hle1 ag.le
      have hlB4:B1.n≤B4.n:=Nat.le_trans hl1 hB4.le
      have heB:ExprAt B6 B1.n b _:=((he.keep ag.dom oo5 hpl (Nat.le_refl _)).up (fun i _ c hc=>up6 i c hc) (Nat.le_refl _))
      have heR:ExprAt B6 B1.n b5 _:=he5.up (fun i _ c hc=>up6 i c hc) hlB4
      have hkl:B1.n≤πg k5:=Nat.le_trans hl1 (hB6.lo k5 (Nat.lt_succ_self k5))
      have hkm:πg k5≠pb:=Nat.ne_of_gt (Nat.lt_of_lt_of_le hpl hkl)
      have hnd:=two_at (lo:=B1.n) (Nat.le_trans hlB4 (Nat.le_trans hle5 (Nat.le_trans h56 hbn))) hbm (o7.keep hkb (hB6.dom _ _ hkb) hkm) hkl (heB.keep hB6.dom o7 hpl (Nat.le_refl _)) (heR.keep hB6.dom o7 hpl (Nat.le_refl _))
      have o8:OffP pb h B':=by
       refine ⟨Nat.le_trans o0.1 a.le,fun i hi hne=>?_⟩
       have hiG:i < G.n:=Nat.lt_of_lt_of_le hi o0.1
       rw [cutD_old a i hiG,o7.2 i (Nat.lt_of_lt_of_le hiG hB6.le) hne,cutD_old hB6 i hiG,oo5.2 i hiG hne,o0.2 i hi hne]
      exact ends_up ⟨up8 _ _ p7.tok,up8 _ _ p7.par,p7.fits,p7.rw,p7.ne⟩ o8 (hnd.up (fun i _ c hc=>up8 i c hc) (Nat.le_refl _)) a.dom hpl hlo hup
     ·cases hr
    ·rename_i hns
     simp only [Option.some.injEq,Prod.mk.injEq] at hr
     obtain ⟨rfl,rfl⟩:=hr
     simp only [assigns,List.any_cons,List.any_nil,Bool.or_false,Bool.or_eq_true,not_or,Bool.not_eq_true] at hns
     obtain ⟨k1,k2,k3,k4,k5,k6,k7,k8,k9,k10,k11⟩:=hns
     repeat (first|((with_reducible apply (RS.callEx (g0:=114)));(iterate 3 exact rfl);intro B1 hB1;refine ⟨_,down_exb hL (q.p.absd q.d hB1) h1 (decide_eq_true hf),?_⟩;rintro v H1 π1 ⟨rfl,p',o'⟩ sp' hle1;have q:Now L tb cap pb h H1 _:=⟨p',sp'.dom,(q.o.abs hB1).trans o'⟩)|((with_reducible apply (RS.callEx (g0:=115)));(iterate 3 exact rfl);intro B1 hB1;have hlo:h.n≤B1.n:=Nat.le_trans q.o.1 hB1.le;have hpl:pb < B1.n:=hB1.dom _ _ (q.p.absd q.d hB1).par;refine ⟨_,ih n (Nat.lt_succ_self n) .choice _ _ _ h2 _ _ _ _ (q.p.absd q.d hB1),?_⟩;rintro v H1 π1 ⟨b,rfl,he,p',o'⟩ sp2 hle1;have q:Now L tb cap pb h H1 _:=⟨p',sp2.dom,(q.o.abs hB1).trans o'⟩)|refine Y14 ?_|refine Y3p ?_|refine Ye ?_|refine Y2o ?_|refine Yc ?_|refine Y4 ?_|refine Yh ?_|refine Y2 ?_|refine Y9 ?_|refine Y0 ?_|refine Y18 ?_|refine Y1 ?_|refine Y3 ?_)
     refine ⟨.inl rfl,[ptrC b],.cons rfl .nil,fun B' a=>?_⟩
     exact ends_up (q.ends a).1 (q.ends a).2 (he.keep sp2.dom ((OffP.refl pb _).abs a) hpl (Nat.le_refl _)) a.dom hpl hlo hup
   ·rw [if_pos (.inr hk)] at hr
    simp only [Option.some.injEq,Prod.mk.injEq] at hr
    obtain ⟨rfl,rfl⟩:=hr
    repeat (first|((with_reducible apply (RS.callEx (g0:=114)));(iterate 3 exact rfl);intro B1 hB1;refine ⟨_,down_exb hL (q.p.absd q.d hB1) h1 (decide_eq_true hf),?_⟩;rintro v H1 π1 ⟨rfl,p',o'⟩ sp' hle1;have q:Now L tb cap pb h H1 _:=⟨p',sp'.dom,(q.o.abs hB1).trans o'⟩)|((with_reducible apply (RS.callEx (g0:=115)));(iterate 3 exact rfl);intro B1 hB1;have hlo:h.n≤B1.n:=Nat.le_trans q.o.1 hB1.le;have hpl:pb < B1.n:=hB1.dom _ _ (q.p.absd q.d hB1).par;refine ⟨_,ih n (Nat.lt_succ_self n) .choice _ _ _ h2 _ _ _ _ (q.p.absd q.d hB1),?_⟩;rintro v H1 π1 ⟨b,rfl,he,p',o'⟩ sp2 hle1;have q:Now L tb cap pb h H1 _:=⟨p',sp2.dom,(q.o.abs hB1).trans o'⟩)|refine Y14 ?_|refine Y3p ?_|refine Y2o ?_|refine Yc ?_|refine Y6 ?_|refine Yh ?_|refine Y2 ?_|refine Y9 ?_|refine Y0 ?_|refine Y1p ?_|refine Y1 ?_|refine Y5 ?_|refine Y3 ?_)
    refine ⟨.inl rfl,[ptrC b],.cons rfl .nil,fun B' a=>?_⟩
    exact ends_up (q.ends a).1 (q.ends a).2 (he.keep sp2.dom ((OffP.refl pb _).abs a) hpl (Nat.le_refl _)) a.dom hpl hlo hup
  ·rw [if_pos (.inl hf2)] at hr
   simp only [Option.some.injEq,Prod.mk.injEq] at hr
   obtain ⟨rfl,rfl⟩:=hr
   repeat (first|((with_reducible apply (RS.callEx (g0:=114)));(iterate 3 exact rfl);intro B1 hB1;refine ⟨_,down_exb hL (q.p.absd q.d hB1) h1 (decide_eq_true hf),?_⟩;rintro v H1 π1 ⟨rfl,p',o'⟩ sp' hle1;have q:Now L tb cap pb h H1 _:=⟨p',sp'.dom,(q.o.abs hB1).trans o'⟩)|((with_reducible apply (RS.callEx (g0:=115)));(iterate 3 exact rfl);intro B1 hB1;have hlo:h.n≤B1.n:=Nat.le_trans q.o.1 hB1.le;have hpl:pb < B1.n:=hB1.dom _ _ (q.p.absd q.d hB1).par;refine ⟨_,ih n (Nat.lt_succ_self n) .choice _ _ _ h2 _ _ _ _ (q.p.absd q.d hB1),?_⟩;rintro v H1 π1 ⟨b,rfl,he,p',o'⟩ sp2 hle1;have q:Now L tb cap pb h H1 _:=⟨p',sp2.dom,(q.o.abs hB1).trans o'⟩)|refine Y14 ?_|((with_reducible apply (RS.callA (g0:=30)));(iterate 3 exact rfl);exact fun B' hB'=>ok_tf (q.p.absd q.d hB') (decide_eq_false hf2))|refine Y1o ?_|refine Yd ?_|refine Y2 ?_|refine Y9 ?_|refine Yk ?_|refine Y0 ?_|refine Y1p ?_|refine Y1 ?_|refine Y5 ?_|refine Y3 ?_)
   refine ⟨.inl rfl,[ptrC b],.cons rfl .nil,fun B' a=>?_⟩
   exact ends_up (q.ends a).1 (q.ends a).2 (he.keep sp2.dom ((OffP.refl pb _).abs a) hpl (Nat.le_refl _)) a.dom hpl hlo hup
 ·rw [if_pos hf] at hs
  obtain ⟨u,hr,hup⟩:=upE_iff hs
  simp only [Option.some.injEq,Prod.mk.injEq] at hr
  obtain ⟨rfl,rfl⟩:=hr
  repeat (first|((with_reducible apply (RS.callEx (g0:=114)));(iterate 3 exact rfl);intro B1 hB1;refine ⟨_,down_exb hL (q.p.absd q.d hB1) h1 (decide_eq_false hf),?_⟩;rintro v H1 π1 ⟨rfl,p',o'⟩ sp' hle1;have q:Now L tb cap pb h H1 _:=⟨p',sp'.dom,(q.o.abs hB1).trans o'⟩)|refine Y6l ?_|refine Ya ?_|refine Y0 ?_|refine Y13 ?_|refine Y1 ?_|refine Y5 ?_)
  refine ⟨.inl rfl,[_],.cons rfl .nil,fun B' a=>?_⟩
  exact ends_up (lo:=h.n) (q.ends a).1 (q.ends a).2 (leaf_at (Nat.le_trans q.o.1 (a.lo 0 (Nat.lt_succ_self 0))) (a.loc 0 (Nat.lt_succ_self 0))) a.dom hpb (Nat.le_refl _) hup
end
end Go.Proofs.YtgpigfcagppohaaGreatDoor
