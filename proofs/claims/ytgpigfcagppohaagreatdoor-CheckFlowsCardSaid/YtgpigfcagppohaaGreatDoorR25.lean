/-
  What the functions that the law reaches compute,told by plain data;it holds of programs that pass the check of right form and are light.
-/
import Derived.Test.YtgpigfcagppohaaGreatDoorR24
import Derived.Test.YtgpigfcagppohaaGreatDoorS2
set_option linter.unusedVariables false
set_option linter.unusedSimpArgs false
namespace Go.Proofs.YtgpigfcagppohaaGreatDoor
open Go.AH
attribute [local irreducible] W RS WR
section
variable {L:List TokS} {tb cap pb:Nat} {h:Hp} {st:PS}
theorem push_old {B:Hp} (hd:∀ i c,B.m i=some c→i < B.n) {b:Blk} {i:Nat} {c:Blk} (hc:B.m i=some c):(B.push b).m i=some c:=by
 show (if i=B.n then some b else B.m i)=some c
 rw [if_neg (Nat.ne_of_lt (hd i c hc))];exact hc
theorem Now.push {B:Hp} (q:Now L tb cap pb h B st) (b:Blk):Now L tb cap pb h (B.push b) st :=
 ⟨⟨push_old q.d q.p.tok,push_old q.d q.p.par,q.p.fits,q.p.rw,q.p.ne⟩,fun i c hc=>by
  have hc:(if i=B.n then some b else B.m i)=some c:=hc
  show i < B.n+1
  by_cases e:i=B.n
  ·omega
  ·rw [if_neg e] at hc;exact Nat.lt_succ_of_lt (q.d i c hc),Nat.le_succ_of_le q.o.1,fun i hi hn=>by
  show (if i=B.n then some b else B.m i)=_
  rw [if_neg (Nat.ne_of_lt (Nat.lt_of_lt_of_le hi q.o.1))];exact q.o.2 i hi hn⟩
theorem cut_up {P:Program} {H B':Hp} {n:Nat} {π:Nat→Nat} {k:Nat} {l:List (Nat × Option Blk)} (hd:(⟨cutH H n,π,k,l⟩:SH).den=H) (a:Absb (P:=P) ⟨cutH H n,π,k,l⟩ B'):∀ i c,H.m i=some c→B'.m i=some c:=by
 intro i c hc
 rw [← hd] at hc
 simp only [SH.den] at hc
 by_cases hi:i < (cutH H n).n
 ·rw [if_pos hi] at hc;rw [a.old i hi];exact hc
 ·rw [if_neg hi] at hc
  cases hx:idx π k i with
  | none=>rw [hx] at hc;cases hc
  | some j =>
   rw [hx] at hc
   obtain ⟨g1,g2⟩:=idx_some hx
   rw [← g2,a.loc j g1];exact hc
theorem Now.cut {P:Program} {H B':Hp} {n:Nat} {π:Nat→Nat} {k:Nat} {l:List (Nat × Option Blk)} (q:Now L tb cap pb h H st) (hd:(⟨cutH H n,π,k,l⟩:SH).den=H) (hn:h.n≤n) (a:Absb (P:=P) ⟨cutH H n,π,k,l⟩ B'):ParAt L tb cap pb B' st∧OffP pb h B' :=
 ⟨⟨cut_up hd a _ _ q.p.tok,cut_up hd a _ _ q.p.par,q.p.fits,q.p.rw,q.p.ne⟩,Nat.le_trans hn a.le,fun i hi hne=>by
  rw [a.old i (Nat.lt_of_lt_of_le hi hn),← q.o.2 i hi hne]
  show (if i < n then H.m i else none)=_
  rw [if_pos (Nat.lt_of_lt_of_le hi hn)]⟩
end
theorem oneT_at {B:Hp} {lo b kb op pos:Nat} {text:ByteArray} {ty:TypeS} {p1:Nat} {e1:ExprS} {c:Nat} (hty:ty.dims=[]) (h0:lo≤b) (hm:B.m b=some ⟨⟨exprC op pos text zeroTok ty none 0 (some ⟨kb,0,none⟩) 1 c⟩,232⟩) (hk:B.m kb=some ⟨⟨[ptrC p1]⟩,181⟩) (hkl:lo≤kb) (h1:ExprAt B lo p1 e1):ExprAt B lo b (.mk op pos text zeroTok ty [e1]) :=
 .mk (ps:=[p1]) h0 hm (.inl ⟨by rw [hty];rfl,rfl⟩) (.inr ⟨kb,rfl,hkl,hk⟩) rfl (fun i p k hp hk=>by
  match i,hp,hk with
  | 0,hp,hk=>simp at hp hk;subst hp;subst hk;exact h1
  | i+1,hp,hk=>simp at hp)
section
variable {L:List TokS} {tb cap pb:Nat} {h:Hp} {st:PS}
set_option maxHeartbeats 2000000 in
theorem unary_ok (hL:ToksOK L) {n:Nat} (ih:IH L (n+1)) {e:ExprS} {t:PS} (hs:parseE (tokN L) (n+1) .unary st=some (e,t)):CtrE L .unary st e t:=by
 intro tb cap pb h p
 rw [parseE] at hs
 obtain ⟨u1,h1,hs⟩:=bind_some' hs
 show EX _ _ _ _ _
 refine EX.introD (fn:=Tryz.f170) (c:=(Tryz.f170.body.getD .skip)) Tryz.func170 (by kernel_rfl) Tryz.ntmps170 (by kernel_rfl) fun π s0=>?_
 conv=>arg 3;whnf
 have hpb:=s0.dom _ _ p.par
 have q:Now L tb cap pb h h st:=⟨p,s0.dom,OffP.refl pb h⟩
 refine WD.plain fun inst _=>?_
 repeat (first|refine Yw ?_|refine Y0 ?_|refine Y1 ?_)
 refine thenD_n ?_
 refine WD.seq (WD.moveDefer (by kernel_rfl) rfl rfl ?_)
 refine thenD_n ?_
 refine WD.lift fun inst _=>?_
 by_cases hf:u1.fk=0
 case neg =>
  rw [if_pos hf] at hs
  obtain ⟨u,hr,hup⟩:=upE_iff hs
  simp only [Option.some.injEq,Prod.mk.injEq] at hr
  obtain ⟨rfl,rfl⟩:=hr
  repeat (first|((with_reducible apply (RS.callEx (g0:=114)));(iterate 3 exact rfl);intro B1 hB1;refine ⟨_,down_exb hL (q.p.absd q.d hB1) h1 (decide_eq_false hf),?_⟩;rintro v H1 π1 ⟨rfl,p',o'⟩ sp' hle1;have q:Now L tb cap pb h H1 _:=⟨p',sp'.dom,(q.o.abs hB1).trans o'⟩)|refine Y6l ?_|refine Ya ?_|refine Y0 ?_|refine Y13 ?_|refine Y1 ?_|refine Y5 ?_)
  refine ⟨.inl rfl,[_],.cons rfl .nil,fun B' a=>?_⟩
  exact ends_up (lo:=h.n) (q.ends a).1 (q.ends a).2 (leaf_at (Nat.le_trans q.o.1 (a.lo 0 (Nat.lt_succ_self 0))) (a.loc 0 (Nat.lt_succ_self 0))) a.dom hpb (Nat.le_refl _) hup
 rw [if_neg (fun hc=>hc hf)] at hs
 obtain ⟨u,hr,hup⟩:=upE_iff hs
 clear hs
 dsimp only at hr
 ((with_reducible apply W.seq);repeat (fail))
 ((with_reducible apply W.seq);repeat (first|((with_reducible apply (RS.callEx (g0:=114)));(iterate 3 exact rfl);intro B1 hB1;refine ⟨_,down_exb hL (q.p.absd q.d hB1) h1 (decide_eq_true hf),?_⟩;rintro v H1 π1 ⟨rfl,p',o'⟩ sp' hle1;have q:Now L tb cap pb h H1 _:=⟨p',sp'.dom,(q.o.abs hB1).trans o'⟩)|refine Y25 ?_|refine Y0 ?_|refine Y1 ?_|refine Y1h ?_|refine Y3 ?_))
 ((with_reducible apply W.seq);repeat (first|refine Y14 ?_|refine Y11 ?_|refine Y2 ?_|refine Y9 ?_|refine Y0 ?_|refine Y1 ?_|refine Ym ?_))
 refine W.absorbX fun G π0 a0=>?_
 have hT:G.m (π1 0)=some ⟨⟨tokC (u1.tok (tokN L))⟩,102⟩:=a0.loc 0 (Nat.lt_succ_self 0)
 have tn:=a0.dom _ _ hT
 have tne:π1 0≠pb:=fun e=>by have h1:H1.n≤π1 0:=a0.lo 0 (Nat.lt_succ_self 0);have h2:=sp'.dom _ _ p'.par;omega
 have o0:OffP pb h G:=q.o.abs a0
 have q:Now L tb cap pb G G u1:=⟨(q.ends a0).1,a0.dom,OffP.refl pb G⟩
 have hpG:pb < G.n:=a0.dom _ _ q.p.par
 have qG:=q
 generalize π1 0=tk at *
 by_cases hk:(u1.tok (tokN L)).kind=4
 ·cases hun:unaries.any (fun a=>eqB (u1.tok (tokN L)).text a) with
  | true =>
   rw [if_pos ⟨hk,hun⟩] at hr
   obtain ⟨u2,hadv,hr⟩:=bind_some' hr
   obtain ⟨ha,rfl⟩:=adv_iff hadv
   obtain ⟨⟨e1,u3⟩,h2,hx⟩:=bind_some' hr
   obtain ⟨hnode,rfl⟩:=exprS_iff hx
   dsimp only at hnode
   have hf1:=q.p.fits
   have hfa:({ u1 with at_:=u1.at_+1 }:PS).Fits:=hf1.adv hadv
   have hun:eqB (u1.tok (tokN L)).text (b1 45)=true∨(eqB (u1.tok (tokN L)).text (b1 45)=false∧eqB (u1.tok (tokN L)).text (b1 126)=true)∨(eqB (u1.tok (tokN L)).text (b1 45)=false∧eqB (u1.tok (tokN L)).text (b1 126)=false∧eqB (u1.tok (tokN L)).text (b1 33)=true)∨(eqB (u1.tok (tokN L)).text (b1 45)=false∧eqB (u1.tok (tokN L)).text (b1 126)=false∧eqB (u1.tok (tokN L)).text (b1 33)=false∧eqB (u1.tok (tokN L)).text (b1 42)=true)∨(eqB (u1.tok (tokN L)).text (b1 45)=false∧eqB (u1.tok (tokN L)).text (b1 126)=false∧eqB (u1.tok (tokN L)).text (b1 33)=false∧eqB (u1.tok (tokN L)).text (b1 42)=false∧eqB (u1.tok (tokN L)).text (b1 38)=true):=by
    simp only [unaries,List.any_cons,List.any_nil,Bool.or_false,Bool.or_eq_true] at hun
    revert hun
    generalize eqB (u1.tok (tokN L)).text (b1 45)=a1
    generalize eqB (u1.tok (tokN L)).text (b1 126)=a2
    generalize eqB (u1.tok (tokN L)).text (b1 33)=a3
    generalize eqB (u1.tok (tokN L)).text (b1 42)=a4
    generalize eqB (u1.tok (tokN L)).text (b1 38)=a5
    revert a1 a2 a3 a4 a5
    decide
   rcases hun with c1|⟨c1,c2⟩|⟨c1,c2,c3⟩|⟨c1,c2,c3,c4⟩|⟨c1,c2,c3,c4,c5⟩
   all_goals
    repeat (first|refine Y1u ?_|refine Ye ?_|((with_reducible apply (RS.storeB (cs':=psC L tb cap { u1 with at_:=u1.at_+1 })));(iterate 3 exact rfl);exact q.p.par;exact q.d _ _ q.p.par;exact q.p.rw;exact Nat.le_of_ble_eq_true rfl;(iterate 3 exact rfl);(have q:=q.set (st':={ u1 with at_:=u1.at_+1 }) hfa))|refine Y3x ?_|((with_reducible apply (RS.callYE (g0:=170) (fun id=>id == pb)));(iterate 3 exact rfl);intro B4 he4 hB4;have hlo1:G.n≤B4.n:=Nat.le_trans q.o.1 hB4.le;have hpl1:pb < B4.n:=hB4.dom _ _ (q.p.absd q.d hB4).par;refine ⟨_,ih n (Nat.lt_succ_self n) .unary _ _ _ h2 _ _ _ _ (q.p.absd q.d hB4),(fun v H' hq i hi hei=>by obtain ⟨b,_,_,_,o5⟩:=hq;exact o5.2 i (Nat.lt_of_lt_of_le hi hB4.le) (by simpa using hei)),?_⟩;rintro v H5 k5 l5 ⟨b5,rfl,he5,p5,o5⟩ s5 hle5 hm5 hden5 hwf5 hk5;have q5:Now L tb cap pb G H5 _:=⟨p5,s5.dom,(q.o.abs hB4).trans o5⟩)|refine Yi ?_|((with_reducible apply (RS.callYE (g0:=152) (fun id=>id == pb)));(iterate 3 exact rfl);intro B6 he6 hB6;have e6:B6=H5.push ⟨⟨[ptrC b5]⟩,181⟩:=(he6.symm.trans (SH.push_den hwf5 _).symm).trans (congrArg (fun H=>Hp.push H _) hden5);have q6:Now L tb cap pb G B6 _:=(by rw [e6];exact q5.push _);have hkn:π0 k5=H5.n:=congrArg Hp.n hden5;have hkb:B6.m (π0 k5)=some ⟨⟨[ptrC b5]⟩,181⟩:=(hB6.loc k5 (Nat.lt_succ_self k5)).trans (by rw [look_cons];exact if_pos rfl);have hx6:ExprAt B6 B4.n b5 e1:=(by rw [e6];exact he5.up (fun i _ c hc=>push_old s5.dom hc) (Nat.le_refl _));refine ⟨_,expr_ex hL q6.p _ _ _ _ _ _ hnode,(fun v H' hq i hi hei=>by obtain ⟨b,_,_,_,_,o7⟩:=hq;exact o7.2 i (Nat.lt_of_lt_of_le hi hB6.le) (by simpa using hei)),?_⟩;rintro v H7 k7 l7 ⟨b7,rfl,hbn7,hbm7,p7,o7⟩ s7 hle7 hm7 hden7 hwf7 hk7;have q7:Now L tb cap pb G H7 _:=⟨p7,s7.dom,q6.o.trans o7⟩)|((with_reducible apply (RS.nilPC mixed [(0,1),(0,2),(2,3),(1,3),(0,3),(2,4),(1,4),(0,4),(4,5),(3,5),(2,5),(1,5),(0,5),(4,6),(3,6),(2,6),(1,6),(0,6),(4,7),(3,7),(2,7),(1,7),(0,7)]));kernel_rfl;(repeat (refine ⟨fun x y hx hy=>(by obtain rfl:=Option.some.inj hx;obtain rfl:=Option.some.inj hy;exact pairR_free rfl rfl rfl rfl rfl rfl rfl (Nat.zero_le _) rfl),?_⟩));exact trivial;exact sideOK_all (j:=pb) (b:=tk) (Ne.symm tne) (by repeat' (first|exact trivial|exact .inl rfl|exact .inr rfl|apply And.intro));exact rfl)|refine Y8 ?_|refine Y6 ?_|refine Yp ?_|refine Y0 ?_|refine Ys ?_|refine Y1 ?_|refine Y5 ?_|refine Y3 ?_)
    refine ⟨.inl rfl,[ptrC b7],.cons rfl .nil,fun B' a=>?_⟩
    have hc:=q7.cut hden7 (Nat.le_refl _) a
    have hGb:G.n≤B6.n:=q6.o.1
    have hGk:G.n≤π0 k5:=by rw [hkn];exact q5.o.1
    refine ends_up (lo:=G.n) hc.1 (o0.trans hc.2) (one_at (Nat.le_trans hGb hbn7) (cut_up hden7 a _ _ hbm7) (cut_up hden7 a _ _ (o7.keep hkb (hB6.dom _ _ hkb) (Nat.ne_of_gt (Nat.lt_of_lt_of_le hpG hGk)))) hGk ((hx6.keep hB6.dom o7 hpl1 hlo1).up (fun i _ c hc=>cut_up hden7 a i c hc) (Nat.le_refl _))) a.dom hpG o0.1 hup
  | false =>
   rw [if_neg (fun hc=>by rw [hun] at hc;exact absurd hc.2 (by decide))] at hr
   simp only [unaries,List.any_cons,List.any_nil,Bool.or_false,Bool.or_eq_false_iff] at hun
   obtain ⟨c1,c2,c3,c4,c5⟩:=hun
   split at hr
   ·cases hr
   ·rename_i hpp
    have hpp:(eqB (u1.tok (tokN L)).text (b2 43 43) || eqB (u1.tok (tokN L)).text (b2 45 45))=false:=by
     cases hc:(eqB (u1.tok (tokN L)).text (b2 43 43) || eqB (u1.tok (tokN L)).text (b2 45 45)) with
     | false=>rfl
     | true=>exact absurd ⟨hk,hc⟩ hpp
    simp only [Bool.or_eq_false_iff] at hpp
    obtain ⟨c6,c7⟩:=hpp
    split at hr
    ·rename_i hcast
     obtain ⟨_,c8,hty⟩:=hcast
     obtain ⟨u2,hadv,hr⟩:=bind_some' hr
     obtain ⟨ha,rfl⟩:=adv_iff hadv
     obtain ⟨⟨sp,u3⟩,hs1,hr⟩:=bind_some' hr
     obtain ⟨⟨sk,u4⟩,hs2,hr⟩:=bind_some' hr
     obtain ⟨u5,hw,hr⟩:=bind_some' hr
     obtain ⟨⟨e5,u6⟩,h2,hr⟩:=bind_some' hr
     obtain ⟨⟨e7,u7⟩,hx,hr⟩:=bind_some' hr
     dsimp only at hs1 hs2 hw h2 hx hr
     obtain ⟨hnode,rfl⟩:=exprS_iff hx
     simp only [Option.some.injEq,Prod.mk.injEq] at hr
     obtain ⟨rfl,rfl⟩:=hr
     have hf1:=q.p.fits
     have hfa:({ u1 with at_:=u1.at_+1 }:PS).Fits:=hf1.adv hadv
     repeat (first|refine Ye ?_|refine Y5v ?_|((with_reducible apply (RS.storeB (cs':=psC L tb cap { u1 with at_:=u1.at_+1 })));(iterate 3 exact rfl);exact q.p.par;exact q.d _ _ q.p.par;exact q.p.rw;exact Nat.le_of_ble_eq_true rfl;(iterate 3 exact rfl);(have q:=q.set (st':={ u1 with at_:=u1.at_+1 }) hfa))|((with_reducible apply (RS.callEx (g0:=192)));(iterate 3 exact rfl);intro B2 hB2;refine ⟨_,named_ex hL (q.p.absd q.d hB2) hs1 hs2,?_⟩;rintro v H2 π2 ⟨rfl,p2,o2⟩ sp2 hle2;have q:Now L tb cap pb G H2 _:=⟨p2,sp2.dom,(q.o.abs hB2).trans o2⟩)|((with_reducible apply (RS.callEx (g0:=68)));(iterate 3 exact rfl);intro B3 hB3;have h4m:B3.m (π2 0)=some ⟨⟨typeC ⟨sp,sk,[]⟩ none 0⟩,114⟩:=hB3.loc 0 (Nat.lt_succ_self 0);have h4n:π2 0≠pb:=Nat.ne_of_gt (Nat.lt_of_lt_of_le (sp2.dom _ _ q.p.par) (hB3.lo 0 (Nat.lt_succ_self 0)));refine ⟨_,want_ex hL (q.p.absd q.d hB3) _ hw,?_⟩;rintro v H3 π3 ⟨rfl,p3,o3⟩ sp3 hle3;have h4m:=o3.keep h4m (hB3.dom _ _ h4m) h4n;have q:Now L tb cap pb G H3 _:=⟨p3,sp3.dom,(q.o.abs hB3).trans o3⟩)|refine Y1u ?_|refine Y3x ?_|((with_reducible apply (RS.callYE (g0:=170) (fun id=>id == pb)));(iterate 3 exact rfl);intro B4 he4 hB4;have h4lt:=q.d _ _ h4m;have hlo1:G.n≤B4.n:=Nat.le_trans q.o.1 hB4.le;have hpl1:pb < B4.n:=hB4.dom _ _ (q.p.absd q.d hB4).par;refine ⟨_,ih n (Nat.lt_succ_self n) .unary _ _ _ h2 _ _ _ _ (q.p.absd q.d hB4),(fun v H' hq i hi hei=>by obtain ⟨b,_,_,_,o5⟩:=hq;exact o5.2 i (Nat.lt_of_lt_of_le hi hB4.le) (by simpa using hei)),?_⟩;rintro v H5 k5 l5 ⟨b5,rfl,he5,p5,o5⟩ s5 hle5 hm5 hden5 hwf5 hk5;have h4m:=(((OffP.refl pb _).abs hB4).trans o5).keep h4m h4lt h4n;have oo5:OffP pb G H5:=(q.o.abs hB4).trans o5)|refine Yi ?_|((with_reducible apply (RS.callYE (g0:=152) (fun id=>id == pb)));(iterate 3 exact rfl);intro B6 he6 hB6;have hlk:∀ (x:Option Blk) (j:Nat),j < k5→lookB ((k5,x)::l5) j=lookB l5 j:=fun x j hj=>(by rw [look_cons,if_neg (Nat.ne_of_gt hj)]);have up6:∀ i c',H5.m i=some c'→B6.m i=some c':=cutD_up hden5 hB6 (Nat.le_succ k5) (fun j hj=>hlk _ j hj);have hkb:B6.m (π3 k5)=some ⟨⟨[ptrC b5]⟩,181⟩:=(hB6.loc k5 (Nat.lt_succ_self k5)).trans ((look_cons _ _ _).trans (if_pos rfl));have h4m:=up6 _ _ h4m;have p6:ParAt L tb cap pb B6 u6:=⟨up6 _ _ p5.tok,up6 _ _ p5.par,p5.fits,p5.rw,p5.ne⟩;refine ⟨_,expr_ex hL p6 _ _ _ _ _ _ hnode,(fun v H' hq i hi hei=>by obtain ⟨b,_,_,_,_,o7⟩:=hq;exact o7.2 i (Nat.lt_of_lt_of_le hi hB6.le) (by simpa using hei)),?_⟩;rintro v H7 k7 l7 ⟨b7,rfl,hbn7,hbm7,p7,o7⟩ s7 hle7 hm7 hden7 hwf7 hk7;have h4m:=o7.keep h4m (hB6.dom _ _ h4m) h4n)|((with_reducible apply (RS.nilPC mixed [(0,1),(0,2),(2,3),(1,3),(0,3),(2,4),(1,4),(0,4),(2,5),(1,5),(0,5)]));kernel_rfl;(repeat (refine ⟨fun x y hx hy=>(by obtain rfl:=Option.some.inj hx;obtain rfl:=Option.some.inj hy;first|exact pairR_free rfl rfl rfl rfl rfl rfl rfl (Nat.zero_le _) rfl|(unfold pairR crossB;simp [recYE,recP,recN,recX,recWB,noneB,outO,outR,memL])),?_⟩));exact trivial;exact sideOK_all (j:=pb) (b:=tk) (Ne.symm tne) (by repeat' (first|exact trivial|exact .inl rfl|exact .inr rfl|apply And.intro));exact rfl)|((with_reducible apply (RS.loadNB (vs:=typeC ⟨sp,sk,[]⟩ none 0)));(iterate 3 exact rfl);exact (if_pos h4lt).trans h4m;exact h4lt;exact Nat.le_of_ble_eq_true rfl;exact rfl)|((with_reducible apply RS.absorbX);intro B8 π8 a8;have up8:∀ i c',H7.m i=some c'→B8.m i=some c':=cutD_up hden7 a8 (Nat.le_refl _) (fun _ _=>rfl);have hb8:=up8 _ _ hbm7;(with_reducible apply (RS.storeB (cs':=exprC 11 (u1.tok (tokN L)).pos ⟨#[]⟩ zeroTok ⟨sp,sk,[]⟩ none 0 (some ⟨π3 k5,0,none⟩) 1 1)));(iterate 3 exact rfl);exact hb8;exact a8.dom _ _ hb8;exact Nat.le_trans hB6.rw (Nat.le_trans hB6.le hbn7);exact Nat.le_of_ble_eq_true rfl;iterate 3 exact rfl)|refine Y8 ?_|refine Y6 ?_|refine Yp ?_|refine Y2 ?_|refine Y9 ?_|refine Yr ?_|refine Yz ?_|refine Y1 ?_|refine Y5 ?_|refine Y3 ?_)
     refine ⟨.inl rfl,[ptrC b7],.cons rfl .nil,fun B' a=>?_⟩
     have hG3:G.n≤H3.n:=q.o.1
     have hG6:G.n≤B6.n:=Nat.le_trans hG3 hB6.le
     have h7n:G.n≤b7:=Nat.le_trans hG6 hbn7
     have upB:∀ i c,i≠b7→H7.m i=some c→B'.m i=some c:=fun i c hne hi=>a.up _ _ ((if_neg hne).trans (up8 _ _ hi))
     have upK:Upto G.n B6 B':=fun i hi c hc=>by
      have hlt:=hB6.dom _ _ hc
      refine upB i c (Nat.ne_of_lt (Nat.lt_of_lt_of_le hlt hbn7)) ?_
      rw [o7.2 i hlt (Nat.ne_of_gt (Nat.lt_of_lt_of_le hpG hi))];exact hc
     have hkl:G.n≤π3 k5:=Nat.le_trans hG3 (hB6.lo k5 (Nat.lt_succ_self k5))
     have o8:OffP pb h B':=by
      refine ⟨Nat.le_trans o0.1 (Nat.le_trans hG3 (Nat.le_trans a8.le a.le)),fun i hi hne=>?_⟩
      have hiG:i < G.n:=Nat.lt_of_lt_of_le hi o0.1
      have hi3:i < H3.n:=Nat.lt_of_lt_of_le hiG hG3
      rw [a.old i (Nat.lt_of_lt_of_le hi3 a8.le)]
      show (if i=b7 then _ else B8.m i)=_
      rw [if_neg (Nat.ne_of_lt (Nat.lt_of_lt_of_le hiG h7n)),cutD_old a8 i hi3,o7.2 i (Nat.lt_of_lt_of_le hiG hG6) hne,cutD_old hB6 i hi3,oo5.2 i hiG hne,o0.2 i hi hne]
     have htb:tb < G.n:=q.p.tok |> fun _=>a0.dom _ _ (by exact qG.p.tok)
     exact ends_up (lo:=G.n) ⟨upB _ _ (Nat.ne_of_lt (Nat.lt_of_lt_of_le htb h7n)) p7.tok,upB _ _ (Nat.ne_of_lt (Nat.lt_of_lt_of_le hpG h7n)) p7.par,p7.fits,p7.rw,p7.ne⟩ o8 (oneT_at rfl h7n (a.up _ _ (if_pos rfl)) (upK _ hkl _ hkb) hkl ((he5.up (fun i _ c hc=>up6 i c hc) hlo1).up upK (Nat.le_refl _))) a.dom hpG o0.1 hup
    ·rename_i hnc
     split at hr
     ·cases hr
     ·rename_i hpt
      obtain ⟨⟨bz,u2⟩,htk,hr⟩:=bind_some' hr
      cases bz with
      | true=>cases hr
      | false =>
       simp only [Bool.false_eq_true,if_false] at hr
       obtain ⟨⟨e1,u3⟩,h2,h3⟩:=bind_some' hr
       dsimp only at h3
       cases c8:eqB (u1.tok (tokN L)).text (b1 40) with
       | false =>
        repeat (first|refine Ye ?_|((with_reducible apply (RS.callEx (g0:=66)));(iterate 3 exact rfl);intro B1 hB1;refine ⟨_,take_ex hL (q.p.absd q.d hB1) _ htk,?_⟩;rintro v H2 π2 ⟨rfl,p2,o2⟩ sp2 hle2;have q:Now L tb cap pb G H2 _:=⟨p2,sp2.dom,(q.o.abs hB1).trans o2⟩)|((with_reducible apply (RS.callEx (g0:=194)));(iterate 3 exact rfl);intro B2 hB2;have hlo1:G.n≤B2.n:=Nat.le_trans q.o.1 hB2.le;have hpl1:pb < B2.n:=hB2.dom _ _ (q.p.absd q.d hB2).par;refine ⟨_,ih n (Nat.lt_succ_self n) .primary _ _ _ h2 _ _ _ _ (q.p.absd q.d hB2),?_⟩;rintro v H3 π3 ⟨b,rfl,he,p3,o3⟩ sp3 hle3;have q:Now L tb cap pb G H3 _:=⟨p3,sp3.dom,(q.o.abs hB2).trans o3⟩)|((with_reducible apply (RS.callEx (g0:=193)));(iterate 3 exact rfl);intro B3 hB3;refine ⟨_,ih n (Nat.lt_succ_self n) (.post _) _ _ _ h3 _ _ _ _ (q.p.absd q.d hB3) b B2.n hpl1 (Nat.le_trans hle3 hB3.le) (he.keep sp3.dom ((OffP.refl pb _).abs hB3) hpl1 (Nat.le_refl _)),?_⟩;rintro v H4 π4 ⟨b4,rfl,he4,p4,o4⟩ sp4 hle4;have q:Now L tb cap pb G H4 _:=⟨p4,sp4.dom,(q.o.abs hB3).trans o4⟩)|refine Yx ?_|refine Yu ?_|refine Y6 ?_|refine Yr ?_|refine Y18 ?_|refine Y1 ?_|refine Y5 ?_|refine Y3 ?_)
        refine ⟨.inl rfl,[ptrC b4],.cons rfl .nil,fun B' a=>?_⟩
        exact ends_up (q.ends a).1 (o0.trans (q.ends a).2) (he4.keep sp4.dom ((OffP.refl pb _).abs a) hpl1 (Nat.le_refl _)) a.dom hpl1 (Nat.le_trans o0.1 hlo1) hup
       | true =>
        have hty:typedT (({ u1 with at_:=u1.at_+1 }:PS).tok (tokN L))=false:=by
         cases hc:typedT (tokN L (u1.at_+1)) with
         | false=>exact hc
         | true=>exact absurd ⟨hk,c8,hc⟩ hnc
        have hau:=q.p.fits.a
        have hf1:=q.p.fits
        by_cases hau1:u1.at_ < 1000000
        ·have hfa:({ u1 with at_:=u1.at_+1 }:PS).Fits:=⟨hau1,hf1.d,hf1.n⟩
         repeat (first|refine Ye ?_|((with_reducible apply (RS.callEx (g0:=66)));(iterate 3 exact rfl);intro B1 hB1;refine ⟨_,take_ex hL (q.p.absd q.d hB1) _ htk,?_⟩;rintro v H2 π2 ⟨rfl,p2,o2⟩ sp2 hle2;have q:Now L tb cap pb G H2 _:=⟨p2,sp2.dom,(q.o.abs hB1).trans o2⟩)|((with_reducible apply (RS.callEx (g0:=194)));(iterate 3 exact rfl);intro B2 hB2;have hlo1:G.n≤B2.n:=Nat.le_trans q.o.1 hB2.le;have hpl1:pb < B2.n:=hB2.dom _ _ (q.p.absd q.d hB2).par;refine ⟨_,ih n (Nat.lt_succ_self n) .primary _ _ _ h2 _ _ _ _ (q.p.absd q.d hB2),?_⟩;rintro v H3 π3 ⟨b,rfl,he,p3,o3⟩ sp3 hle3;have q:Now L tb cap pb G H3 _:=⟨p3,sp3.dom,(q.o.abs hB2).trans o3⟩)|((with_reducible apply (RS.callEx (g0:=193)));(iterate 3 exact rfl);intro B3 hB3;refine ⟨_,ih n (Nat.lt_succ_self n) (.post _) _ _ _ h3 _ _ _ _ (q.p.absd q.d hB3) b B2.n hpl1 (Nat.le_trans hle3 hB3.le) (he.keep sp3.dom ((OffP.refl pb _).abs hB3) hpl1 (Nat.le_refl _)),?_⟩;rintro v H4 π4 ⟨b4,rfl,he4,p4,o4⟩ sp4 hle4;have q:Now L tb cap pb G H4 _:=⟨p4,sp4.dom,(q.o.abs hB3).trans o4⟩)|((with_reducible apply RS.load1B);(iterate 3 exact rfl);first|exact q.p.par;exact q.d _ _ q.p.par;exact rfl|exact q.o.keep hT tn tne;exact q.d _ _ (q.o.keep hT tn tne);exact rfl)|refine Y5v ?_|((with_reducible apply (RS.storeB (cs':=psC L tb cap { u1 with at_:=u1.at_+1 })));(iterate 3 exact rfl);exact q.p.par;exact q.d _ _ q.p.par;exact q.p.rw;exact Nat.le_of_ble_eq_true rfl;(iterate 3 exact rfl);(have q:=q.set (st':={ u1 with at_:=u1.at_+1 }) hfa))|((with_reducible apply (RS.sub1 (a:=u1.at_+1)));(iterate 4 exact rfl);exact ⟨Nat.le_add_left 1 _,by omega⟩)|((with_reducible apply (RS.storeB (cs':=psC L tb cap u1)));(iterate 3 exact rfl);exact q.p.par;exact q.d _ _ q.p.par;exact q.p.rw;exact Nat.le_of_ble_eq_true rfl;(iterate 3 exact rfl);(have q:=q.set (st':=u1) hf1))|refine Y8 ?_|refine Y6 ?_|refine Yp ?_|refine Yr ?_|refine Y18 ?_|refine Y1 ?_|refine Y5 ?_|refine Y3 ?_)
         refine ⟨.inl rfl,[ptrC b4],.cons rfl .nil,fun B' a=>?_⟩
         exact ends_up (q.ends a).1 (o0.trans (q.ends a).2) (he4.keep sp4.dom ((OffP.refl pb _).abs a) hpl1 (Nat.le_refl _)) a.dom hpl1 (Nat.le_trans o0.1 hlo1) hup
        ·exact absurd ⟨hk,c8,hau1⟩ hpt
 ·rw [if_neg (fun hc=>hk hc.1),if_neg (fun hc=>hk hc.1),if_neg (fun hc=>hk hc.1),if_neg (fun hc=>hk hc.1)] at hr
  obtain ⟨⟨bz,u2⟩,htk,hr⟩:=bind_some' hr
  cases bz with
  | true=>cases hr
  | false =>
   simp only [Bool.false_eq_true,if_false] at hr
   obtain ⟨⟨e1,u3⟩,h2,h3⟩:=bind_some' hr
   dsimp only at h3
   repeat (first|((with_reducible apply (RS.callEx (g0:=66)));(iterate 3 exact rfl);intro B1 hB1;refine ⟨_,take_ex hL (q.p.absd q.d hB1) _ htk,?_⟩;rintro v H2 π2 ⟨rfl,p2,o2⟩ sp2 hle2;have q:Now L tb cap pb G H2 _:=⟨p2,sp2.dom,(q.o.abs hB1).trans o2⟩)|((with_reducible apply (RS.callEx (g0:=194)));(iterate 3 exact rfl);intro B2 hB2;have hlo1:G.n≤B2.n:=Nat.le_trans q.o.1 hB2.le;have hpl1:pb < B2.n:=hB2.dom _ _ (q.p.absd q.d hB2).par;refine ⟨_,ih n (Nat.lt_succ_self n) .primary _ _ _ h2 _ _ _ _ (q.p.absd q.d hB2),?_⟩;rintro v H3 π3 ⟨b,rfl,he,p3,o3⟩ sp3 hle3;have q:Now L tb cap pb G H3 _:=⟨p3,sp3.dom,(q.o.abs hB2).trans o3⟩)|((with_reducible apply (RS.callEx (g0:=193)));(iterate 3 exact rfl);intro B3 hB3;refine ⟨_,ih n (Nat.lt_succ_self n) (.post _) _ _ _ h3 _ _ _ _ (q.p.absd q.d hB3) b B2.n hpl1 (Nat.le_trans hle3 hB3.le) (he.keep sp3.dom ((OffP.refl pb _).abs hB3) hpl1 (Nat.le_refl _)),?_⟩;rintro v H4 π4 ⟨b4,rfl,he4,p4,o4⟩ sp4 hle4;have q:Now L tb cap pb G H4 _:=⟨p4,sp4.dom,(q.o.abs hB3).trans o4⟩)|refine Yx ?_|refine Yu ?_|refine Y4 ?_|refine Yr ?_|refine Yv ?_|refine Y1 ?_|refine Y3 ?_)
   refine ⟨.inl rfl,[ptrC b4],.cons rfl .nil,fun B' a=>?_⟩
   exact ends_up (q.ends a).1 (o0.trans (q.ends a).2) (he4.keep sp4.dom ((OffP.refl pb _).abs a) hpl1 (Nat.le_refl _)) a.dom hpl1 (Nat.le_trans o0.1 hlo1) hup
end
theorem exprs_ok {L:List TokS} (hL:ToksOK L):∀ N,IH L N:=by
 intro N
 induction N with
 | zero=>exact fun m hm=>absurd hm (Nat.not_lt_zero _)
 | succ n ih =>
  intro m hm req st e t hs
  rcases Nat.lt_succ_iff_lt_or_eq.1 hm with h|rfl
  ·exact ih m h req st e t hs
  ·cases m with
   | zero=>rw [parseE] at hs;cases hs
   | succ n =>
    cases req with
    | full=>exact full_ok hL ih hs
    | choice=>exact choice_ok hL ih hs
    | binary k=>exact binary_ok hL ih hs
    | binL k e0=>exact fun _ _ _ _ _=>trivial
    | unary=>exact unary_ok hL ih hs
    | primary=>exact primary_ok hL ih hs
    | paren=>exact paren_ok hL ih hs
    | post e0=>exact postfix_ok hL ih hs
theorem full_ex {L:List TokS} (hL:ToksOK L) {tb cap pb:Nat} {h:Hp} {st:PS} (p:ParAt L tb cap pb h st) {N:Nat} {e:ExprS} {t:PS} (hs:parseE (tokN L) N .full st=some (e,t)):EX Tryz.prog 149 [ptrC pb] h (ExprQ L tb cap pb h h.n e t) :=
 exprs_ok hL (N+1) N (Nat.lt_succ_self N) .full st e t hs _ _ _ _ p
end Go.Proofs.YtgpigfcagppohaaGreatDoor
