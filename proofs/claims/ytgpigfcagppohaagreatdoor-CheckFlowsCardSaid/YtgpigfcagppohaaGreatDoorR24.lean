/-
  What the functions that the law reaches compute,told by plain data;it holds of programs that pass the check of right form and are light.
-/
import Derived.Test.YtgpigfcagppohaaGreatDoorR23
set_option linter.unusedVariables false
set_option linter.unusedSimpArgs false
namespace Go.Proofs.YtgpigfcagppohaaGreatDoor
open Go.AH
attribute [local irreducible] W RS WR
theorem level_le (s : ByteArray) : levelS s ≤ 10 := by unfold levelS; repeat' split
                                                       all_goals omega
section
variable {L:List TokS} {tb cap pb:Nat} {h:Hp} {st:PS}
set_option maxHeartbeats 2000000 in
theorem binary_ok (hL:ToksOK L) {n k:Nat} (ih:IH L (n+1)) {e:ExprS} {t:PS} (hs:parseE (tokN L) (n+1) (.binary k) st=some (e,t)):CtrE L (.binary k) st e t:=by
 intro tb cap pb h p
 rw [parseE] at hs
 obtain ⟨⟨e0,u0⟩,h1,hs⟩:=bind_some' hs
 dsimp only at hs
 show EX _ _ _ _ _
 refine EX.intro (fn:=Tryz.f151) (c:=(Tryz.f151.body.getD .skip)) Tryz.func151 (by kernel_rfl) Tryz.ntmps151 (by kernel_rfl) fun π s0=>?_
 conv=>arg 2;whnf
 have hpb:=s0.dom _ _ p.par
 have q:Now L tb cap pb h h st:=⟨p,s0.dom,OffP.refl pb h⟩
 ((with_reducible apply W.seq);repeat (first|refine Yw ?_|refine Y0 ?_|refine Y1 ?_|refine Ym ?_))
 ((with_reducible apply W.seq);repeat (first|((with_reducible apply (RS.callEx (g0:=170)));(iterate 3 exact rfl);intro B1 hB1;have hlo:h.n≤B1.n:=Nat.le_trans q.o.1 hB1.le;have hpl:pb < B1.n:=hB1.dom _ _ (q.p.absd q.d hB1).par;refine ⟨_,ih n (Nat.lt_succ_self n) .unary _ _ _ h1 _ _ _ _ (q.p.absd q.d hB1),?_⟩;rintro v H1 π1 ⟨b,rfl,he,p',o'⟩ sp' hle1;have q:Now L tb cap pb h H1 _:=⟨p',sp'.dom,(q.o.abs hB1).trans o'⟩)|refine Y7 ?_|refine Y0 ?_|refine Y1 ?_|refine Ym ?_))
 with_reducible apply W.seq
 with_reducible apply W.block
 refine W.loopN (X:=Nat × ExprS × PS × Nat) (fun x=>[(0,ptrC pb),(1,.int .i64 k),(5,ptrC x.2.2.2)]) (fun x B=>ParAt L tb cap pb B x.2.2.1∧OffP pb h B∧ExprAt B h.n x.2.2.2 x.2.1∧x.1 < n+1∧parseE (tokN L) x.1 (.binL k x.2.1) x.2.2.1=some (e,t)) (fun x=>x.1)
  (fun B' a=>⟨(n,e0,u0,b),?_,(q.ends a).1,(q.ends a).2,he.keep sp'.dom ((OffP.refl pb _).abs a) hpl hlo,Nat.lt_succ_self n,hs⟩) ?_
 ·(repeat' (first|exact trivial|exact rfl|apply And.intro));done
 clear hs h1 he q
 rintro ⟨m,e',st',b'⟩ B π3 sB ⟨p,o,he,hm,hs⟩
 dsimp only at p o he hm hs ⊢
 have q:Now L tb cap pb h B st':=⟨p,sB.dom,o⟩
 cases m with
 | zero=>rw [parseE] at hs;cases hs
 | succ m =>
  rw [parseE] at hs
  by_cases hf:st'.fk=0
  ·rw [if_neg (fun hc=>hc hf)] at hs
   dsimp only at hs
   ((with_reducible apply W.seq);repeat (fail))
   ((with_reducible apply W.seq);repeat (first|((with_reducible apply (RS.callA (g0:=30)));(iterate 3 exact rfl);exact fun B' hB'=>ok_tf (q.p.absd q.d hB') (decide_eq_true hf))|refine Y11 ?_|refine Y0 ?_|refine Y1 ?_|refine Y6o ?_|refine Y5 ?_))
   ((with_reducible apply W.seq);repeat (first|refine Y14 ?_|refine Y11 ?_|refine Y2 ?_|refine Y9 ?_|refine Y0 ?_|refine Y1 ?_|refine Ym ?_))
   ((with_reducible apply W.seq);repeat (first|refine Yw ?_|refine Y0 ?_|refine Y1 ?_|refine Ym ?_))
   refine W.absorbX fun G π0 a0=>?_
   have hT:G.m (π3 0)=some ⟨⟨tokC (st'.tok (tokN L))⟩,102⟩:=a0.loc 0 (Nat.lt_succ_self 0)
   have tn:=a0.dom _ _ hT
   have tne:π3 0≠pb:=fun e=>by have h1:B.n≤π3 0:=a0.lo 0 (Nat.lt_succ_self 0);have h2:=sB.dom _ _ p.par;omega
   have he:=he.keep sB.dom ((OffP.refl pb _).abs a0) hpb (Nat.le_refl _)
   have o0:OffP pb h G:=q.o.abs a0
   have q:Now L tb cap pb G G st':=⟨(q.ends a0).1,a0.dom,OffP.refl pb G⟩
   generalize π3 0=tk at *
   by_cases hk:(st'.tok (tokN L)).kind=4
   ·obtain ⟨lev,hlev⟩:∃ lev,levelS (st'.tok (tokN L)).text=lev:=⟨_,rfl⟩
    have hll:=level_le (st'.tok (tokN L)).text
    rw [hlev] at hll
    have hlv:∀ B',TF Tryz.prog 171 ⟨[.string (st'.tok (tokN L)).text]⟩ B' (.int .i64 lev) B':=fun B'=>by rw [← hlev];exact level_tf _ B'
    have hsk:signK (st'.tok (tokN L))=lev:=by unfold signK;rw [if_pos hk,hlev]
    rw [hsk] at hs
    by_cases hx:lev < k∨lev=0
    ·rw [if_pos hx] at hs
     simp only [Option.some.injEq,Prod.mk.injEq] at hs
     obtain ⟨rfl,rfl⟩:=hs
     by_cases hx1:lev < k
     ·repeat (first|refine Yx ?_|refine Y32 ?_|refine Yu ?_|refine Yd ?_|refine Y6 ?_|refine Yk ?_|refine Y0 ?_|refine Y1t ?_|refine Y1 ?_|refine Y5 ?_|refine Yn ?_|refine Y42 ?_)
      exact endsK_ret _ (.cons (.tmp rfl) .nil) fun B' a=>⟨b',rfl,he.keep a0.dom ((OffP.refl pb _).abs a) hpb (Nat.le_refl _),(q.ends a).1,o0.trans (q.ends a).2⟩
     ·have hx2:lev=0:=hx.resolve_left hx1
      repeat (first|refine Yx ?_|refine Y32 ?_|refine Yu ?_|refine Yc ?_|refine Y6 ?_|refine Y4 ?_|refine Y0 ?_|refine Y1t ?_|refine Y1 ?_|refine Y5 ?_|refine Yn ?_|refine Y42 ?_)
      exact endsK_ret _ (.cons (.tmp rfl) .nil) fun B' a=>⟨b',rfl,he.keep a0.dom ((OffP.refl pb _).abs a) hpb (Nat.le_refl _),(q.ends a).1,o0.trans (q.ends a).2⟩
    ·rw [if_neg hx] at hs
     have hx1:¬ lev < k:=fun hc=>hx (.inl hc)
     have hx2:¬ lev=0:=fun hc=>hx (.inr hc)
     obtain ⟨u1,hadv,hs⟩:=bind_some' hs
     obtain ⟨ha,rfl⟩:=adv_iff hadv
     obtain ⟨⟨r,u2⟩,h2,hs⟩:=bind_some' hs
     obtain ⟨⟨e2,u3⟩,h3,hs⟩:=bind_some' hs
     dsimp only at h3 hs
     unfold binE at h3
     cases hor:eqB (st'.tok (tokN L)).text (b2 124 124) with
     | true =>
      rw [hor,if_pos rfl] at h3
      obtain ⟨hnode,rfl⟩:=exprS_iff h3
      repeat (first|refine Yx ?_|refine Y32 ?_|refine Y1u ?_|((with_reducible apply (RS.storeB (cs':=psC L tb cap { st' with at_:=st'.at_+1 })));(iterate 3 exact rfl);exact q.p.par;exact q.d _ _ q.p.par;exact q.p.rw;exact Nat.le_of_ble_eq_true rfl;(iterate 3 exact rfl);(have q:=q.set (q.p.fits.adv hadv)))|((with_reducible apply (RS.callEx (g0:=151)));(iterate 3 exact rfl);intro B1 hB1;have hlo1:G.n≤B1.n:=Nat.le_trans q.o.1 hB1.le;have hpl1:pb < B1.n:=hB1.dom _ _ (q.p.absd q.d hB1).par;refine ⟨_,ih m (by omega) (.binary (lev+1)) _ _ _ h2 _ _ _ _ (q.p.absd q.d hB1),?_⟩;rintro v H1 π1 ⟨b2,rfl,he2,p',o'⟩ sp1 hle1;have he:=he.keep a0.dom ((q.o.abs hB1).trans o') hpb (Nat.le_refl _);have q:Now L tb cap pb G H1 _:=⟨p',sp1.dom,(q.o.abs hB1).trans o'⟩)|refine Ye ?_|refine Yi ?_|((with_reducible apply (RS.callEx (g0:=152)));(iterate 3 exact rfl);intro B2 hB2;have hkb:B2.m (π1 0)=some ⟨⟨[ptrC b',ptrC b2]⟩,181⟩:=hB2.loc 0 (Nat.lt_succ_self 0);have hkl:H1.n≤π1 0:=hB2.lo 0 (Nat.lt_succ_self 0);refine ⟨_,expr_ex hL (q.p.absd q.d hB2) _ _ _ _ _ _ hnode,?_⟩;rintro v H2 π2 ⟨b3,rfl,hbn,hbm,p2,o2⟩ sp2 hle2;have oo:=((OffP.refl pb H1).abs hB2).trans o2;have he:=he.keep sp1.dom oo hpb (Nat.le_refl _);have he2:=he2.keep sp1.dom oo hpl1 (Nat.le_trans o0.1 hlo1);have hkb:=o2.keep hkb (hB2.dom _ _ hkb) (by omega);have q:Now L tb cap pb G H2 _:=⟨p2,sp2.dom,(q.o.abs hB2).trans o2⟩)|refine Y8 ?_|refine Yc ?_|refine Y6 ?_|refine Y4 ?_|refine Yp ?_|refine Y0 ?_|refine Yt ?_|refine Y1 ?_|refine Y5 ?_|refine Y3 ?_)
      refine roundN_n rfl fun B' a=>⟨(m,_,u3,b3),?_,⟨(q.ends a).1,o0.trans (q.ends a).2,(two_at (Nat.le_trans o0.1 (Nat.le_trans hlo1 (Nat.le_trans hle1 (Nat.le_trans hB2.le hbn)))) hbm hkb (Nat.le_trans o0.1 (Nat.le_trans hlo1 (Nat.le_trans hle1 hkl))) he he2).keep sp2.dom ((OffP.refl pb _).abs a) hpb (Nat.le_refl _),by omega,hs⟩,Nat.lt_succ_self m⟩
      (repeat' (first|exact trivial|exact rfl|apply And.intro));done
     | false =>
      cases hand:eqB (st'.tok (tokN L)).text (b2 38 38) with
      | true =>
       rw [hor,if_neg (by decide),hand,if_pos rfl] at h3
       obtain ⟨hnode,rfl⟩:=exprS_iff h3
       repeat (first|refine Yx ?_|refine Y32 ?_|refine Y1u ?_|((with_reducible apply (RS.storeB (cs':=psC L tb cap { st' with at_:=st'.at_+1 })));(iterate 3 exact rfl);exact q.p.par;exact q.d _ _ q.p.par;exact q.p.rw;exact Nat.le_of_ble_eq_true rfl;(iterate 3 exact rfl);(have q:=q.set (q.p.fits.adv hadv)))|((with_reducible apply (RS.callEx (g0:=151)));(iterate 3 exact rfl);intro B1 hB1;have hlo1:G.n≤B1.n:=Nat.le_trans q.o.1 hB1.le;have hpl1:pb < B1.n:=hB1.dom _ _ (q.p.absd q.d hB1).par;refine ⟨_,ih m (by omega) (.binary (lev+1)) _ _ _ h2 _ _ _ _ (q.p.absd q.d hB1),?_⟩;rintro v H1 π1 ⟨b2,rfl,he2,p',o'⟩ sp1 hle1;have he:=he.keep a0.dom ((q.o.abs hB1).trans o') hpb (Nat.le_refl _);have q:Now L tb cap pb G H1 _:=⟨p',sp1.dom,(q.o.abs hB1).trans o'⟩)|refine Ye ?_|refine Yi ?_|((with_reducible apply (RS.callEx (g0:=152)));(iterate 3 exact rfl);intro B2 hB2;have hkb:B2.m (π1 0)=some ⟨⟨[ptrC b',ptrC b2]⟩,181⟩:=hB2.loc 0 (Nat.lt_succ_self 0);have hkl:H1.n≤π1 0:=hB2.lo 0 (Nat.lt_succ_self 0);refine ⟨_,expr_ex hL (q.p.absd q.d hB2) _ _ _ _ _ _ hnode,?_⟩;rintro v H2 π2 ⟨b3,rfl,hbn,hbm,p2,o2⟩ sp2 hle2;have oo:=((OffP.refl pb H1).abs hB2).trans o2;have he:=he.keep sp1.dom oo hpb (Nat.le_refl _);have he2:=he2.keep sp1.dom oo hpl1 (Nat.le_trans o0.1 hlo1);have hkb:=o2.keep hkb (hB2.dom _ _ hkb) (by omega);have q:Now L tb cap pb G H2 _:=⟨p2,sp2.dom,(q.o.abs hB2).trans o2⟩)|refine Y8 ?_|refine Yc ?_|refine Y6 ?_|refine Y4 ?_|refine Yp ?_|refine Y0 ?_|refine Yt ?_|refine Y1 ?_|refine Y5 ?_|refine Y3 ?_)
       refine roundN_n rfl fun B' a=>⟨(m,_,u3,b3),?_,⟨(q.ends a).1,o0.trans (q.ends a).2,(two_at (Nat.le_trans o0.1 (Nat.le_trans hlo1 (Nat.le_trans hle1 (Nat.le_trans hB2.le hbn)))) hbm hkb (Nat.le_trans o0.1 (Nat.le_trans hlo1 (Nat.le_trans hle1 hkl))) he he2).keep sp2.dom ((OffP.refl pb _).abs a) hpb (Nat.le_refl _),by omega,hs⟩,Nat.lt_succ_self m⟩
       (repeat' (first|exact trivial|exact rfl|apply And.intro));done
      | false =>
       rw [hor,if_neg (by decide),hand,if_neg (by decide)] at h3
       obtain ⟨hnode,rfl⟩:=exprS_iff h3
       repeat (first|refine Yx ?_|refine Y32 ?_|refine Y1u ?_|((with_reducible apply (RS.storeB (cs':=psC L tb cap { st' with at_:=st'.at_+1 })));(iterate 3 exact rfl);exact q.p.par;exact q.d _ _ q.p.par;exact q.p.rw;exact Nat.le_of_ble_eq_true rfl;(iterate 3 exact rfl);(have q:=q.set (q.p.fits.adv hadv)))|((with_reducible apply (RS.callEx (g0:=151)));(iterate 3 exact rfl);intro B1 hB1;have hlo1:G.n≤B1.n:=Nat.le_trans q.o.1 hB1.le;have hpl1:pb < B1.n:=hB1.dom _ _ (q.p.absd q.d hB1).par;refine ⟨_,ih m (by omega) (.binary (lev+1)) _ _ _ h2 _ _ _ _ (q.p.absd q.d hB1),?_⟩;rintro v H1 π1 ⟨b2,rfl,he2,p',o'⟩ sp1 hle1;have he:=he.keep a0.dom ((q.o.abs hB1).trans o') hpb (Nat.le_refl _);have q:Now L tb cap pb G H1 _:=⟨p',sp1.dom,(q.o.abs hB1).trans o'⟩)|refine Ye ?_|refine Yi ?_|((with_reducible apply (RS.callEx (g0:=152)));(iterate 3 exact rfl);intro B2 hB2;have hkb:B2.m (π1 0)=some ⟨⟨[ptrC b',ptrC b2]⟩,181⟩:=hB2.loc 0 (Nat.lt_succ_self 0);have hkl:H1.n≤π1 0:=hB2.lo 0 (Nat.lt_succ_self 0);refine ⟨_,expr_ex hL (q.p.absd q.d hB2) _ _ _ _ _ _ hnode,?_⟩;rintro v H2 π2 ⟨b3,rfl,hbn,hbm,p2,o2⟩ sp2 hle2;have oo:=((OffP.refl pb H1).abs hB2).trans o2;have he:=he.keep sp1.dom oo hpb (Nat.le_refl _);have he2:=he2.keep sp1.dom oo hpl1 (Nat.le_trans o0.1 hlo1);have hkb:=o2.keep hkb (hB2.dom _ _ hkb) (by omega);have q:Now L tb cap pb G H2 _:=⟨p2,sp2.dom,(q.o.abs hB2).trans o2⟩)|refine Y8 ?_|refine Yc ?_|refine Y6 ?_|refine Y4 ?_|refine Yp ?_|refine Y0 ?_|refine Yt ?_|refine Y1 ?_|refine Y5 ?_|refine Y3 ?_)
       refine roundN_n rfl fun B' a=>⟨(m,_,u3,b3),?_,⟨(q.ends a).1,o0.trans (q.ends a).2,(two_at (Nat.le_trans o0.1 (Nat.le_trans hlo1 (Nat.le_trans hle1 (Nat.le_trans hB2.le hbn)))) hbm hkb (Nat.le_trans o0.1 (Nat.le_trans hlo1 (Nat.le_trans hle1 hkl))) he he2).keep sp2.dom ((OffP.refl pb _).abs a) hpb (Nat.le_refl _),by omega,hs⟩,Nat.lt_succ_self m⟩
       (repeat' (first|exact trivial|exact rfl|apply And.intro));done
   ·have hsk:signK (st'.tok (tokN L))=0:=by unfold signK;rw [if_neg hk]
    rw [hsk,if_pos (.inr rfl)] at hs
    simp only [Option.some.injEq,Prod.mk.injEq] at hs
    obtain ⟨rfl,rfl⟩:=hs
    by_cases hx1:0 < k
    ·repeat (first|refine Yx ?_|refine Yu ?_|refine Yd ?_|refine Y6 ?_|refine Y4 ?_|refine Yk ?_|refine Y0 ?_|refine Y4c ?_|refine Y1 ?_|refine Y5 ?_|refine Y3 ?_|refine Yn ?_|refine Y42 ?_)
     exact endsK_ret _ (.cons (.tmp rfl) .nil) fun B' a=>⟨b',rfl,he.keep a0.dom ((OffP.refl pb _).abs a) hpb (Nat.le_refl _),(q.ends a).1,o0.trans (q.ends a).2⟩
    ·repeat (first|refine Yx ?_|refine Yu ?_|refine Yc ?_|refine Y4 ?_|refine Yo ?_|refine Y0 ?_|refine Y4c ?_|refine Y1 ?_|refine Y5 ?_|refine Y3 ?_|refine Yn ?_|refine Y42 ?_)
     exact endsK_ret _ (.cons (.tmp rfl) .nil) fun B' a=>⟨b',rfl,he.keep a0.dom ((OffP.refl pb _).abs a) hpb (Nat.le_refl _),(q.ends a).1,o0.trans (q.ends a).2⟩
  ·rw [if_pos hf] at hs
   simp only [Option.some.injEq,Prod.mk.injEq] at hs
   obtain ⟨rfl,rfl⟩:=hs
   repeat (first|refine Y5f ?_|refine Y7 ?_|refine Y0 ?_|refine Y1t ?_|refine Y1 ?_|refine Y3 ?_|refine Yn ?_)
   exact endsK_ret _ (.cons (.tmp rfl) .nil) fun B' a=>⟨b',rfl,he.keep sB.dom ((OffP.refl pb _).abs a) hpb (Nat.le_refl _),(q.ends a).1,(q.ends a).2⟩
end
section
variable {L:List TokS} {tb cap pb:Nat} {h:Hp} {st:PS}
theorem named_ex (hL:ToksOK L) (p:ParAt L tb cap pb h st) {s:SpecS} {u t:PS} {n k:Nat} (h1:specS (tokN L) st=some (s,u)) (h2:starsS (tokN L) n u 0=some (k,t)):EX Tryz.prog 192 [ptrC pb] h (StepQ L tb cap pb h (.agg ⟨typeC ⟨s,k,[]⟩ none 0⟩) t):=by
 refine EX.intro (fn:=Tryz.f192) (c:=(Tryz.f192.body.getD .skip)) Tryz.func192 (by kernel_rfl) Tryz.ntmps192 (by kernel_rfl) fun π s0=>?_
 conv=>arg 2;whnf
 have q:Now L tb cap pb h h st:=⟨p,s0.dom,OffP.refl pb h⟩
 have hpb:=s0.dom _ _ p.par
 ((with_reducible apply W.seq);repeat (first|refine Y9 ?_|refine Yr ?_|refine Y1 ?_|refine Ym ?_))
 ((with_reducible apply W.seq);repeat (first|((with_reducible apply (RS.callEx (g0:=62)));(iterate 3 exact rfl);intro B1 hB1;have h2m:=hB1.loc 0 (Nat.lt_succ_self 0);have h2l:h.n≤π 0:=hB1.lo 0 (Nat.lt_succ_self 0);have h2n:π 0≠pb:=Nat.ne_of_gt (Nat.lt_of_lt_of_le hpb h2l);refine ⟨_,spec_ex hL (q.p.absd q.d hB1) h1,?_⟩;rintro v H1 π1 ⟨rfl,p',o'⟩ sp1 hle1;have h2m:=o'.keep h2m (hB1.dom _ _ h2m) h2n;have hp1:=sp1.dom _ _ p'.par;have q:Now L tb cap pb h H1 _:=⟨p',sp1.dom,(q.o.abs hB1).trans o'⟩)|refine Y11 ?_|refine Y2 ?_|refine Y9 ?_|refine Yr ?_|refine Y1 ?_|refine Ym ?_))
 refine W.absorbX fun G πg ag=>?_
 have h3m:G.m (π1 0)=some ⟨⟨specC s⟩,111⟩:=ag.loc 0 (Nat.lt_succ_self 0)
 have tne:π1 0≠pb:=Nat.ne_of_gt (Nat.lt_of_lt_of_le hp1 (ag.lo 0 (Nat.lt_succ_self 0)))
 have h2m:=ag.up _ _ h2m
 have o0:OffP pb h G:=q.o.abs ag
 have q:Now L tb cap pb h G u:=⟨(q.ends ag).1,ag.dom,o0⟩
 generalize π1 0=tk at *
 repeat (first|((with_reducible apply (RS.loadNX (vs:=specC s)));(iterate 3 exact rfl);exact h3m;exact q.d _ _ h3m;exact Nat.le_of_ble_eq_true rfl;exact rfl)|((with_reducible apply (RS.callYE (g0:=108) (fun id=>id == pb)));(iterate 3 exact rfl);intro B3 he3 hB3;refine ⟨_,stars_ex hL (q.p.absd q.d hB3) h2,(fun v H' ⟨_,_,o⟩ i hi hei=>o.2 i (Nat.lt_of_lt_of_le hi hB3.le) (by simpa using hei)),?_⟩;rintro v H3 k3 l3 ⟨rfl,p3,o3⟩ s3 hle3 hm3 hden3 hwf3 hk3;have oo3:=(q.o.abs hB3).trans o3;have h2n3:=q.d _ _ h2m;have h2m:=(((OffP.refl pb _).abs hB3).trans o3).keep h2m h2n3 h2n)|((with_reducible apply (RS.storeB (cs':=typeC ⟨s,k,[]⟩ none 0)));(iterate 3 exact rfl);exact (if_pos h2n3).trans h2m;exact h2n3;exact Nat.le_trans hB1.rw h2l;exact Nat.le_of_ble_eq_true rfl;iterate 3 exact rfl)|((with_reducible apply (RS.nilPC mixed [(0,1),(0,2)]));kernel_rfl;(repeat (refine ⟨fun x y hx hy=>(by obtain rfl:=Option.some.inj hx;obtain rfl:=Option.some.inj hy;first|exact pairR_free rfl rfl rfl rfl rfl rfl rfl (Nat.zero_le _) rfl|(unfold pairR crossB;simp [recYE,recP,recN,recX,recWB,noneB,outO,outR,memL])),?_⟩));exact trivial;exact sideOK_all (j:=pb) (b:=tk) tne.symm (by repeat' (first|exact trivial|exact .inl rfl|exact .inr rfl|apply And.intro));exact rfl)|refine Y11 ?_|refine Ya ?_|refine Yq ?_|refine Y1 ?_)
 refine endsK_ret _ (.cons (.baseN (vs:=typeC ⟨s,k,[]⟩ none 0) rfl (if_pos rfl) (Nat.le_of_ble_eq_true rfl) rfl) .nil) fun B' a=>⟨rfl,?_,?_⟩
 ·have up:=cutC_up hden3 a (Nat.le_refl _) fun _ _=>rfl
  have h2t:tb≠π 0:=Nat.ne_of_lt (Nat.lt_of_lt_of_le (s0.dom _ _ p.tok) h2l)
  exact ⟨up _ _ h2t p3.tok,up _ _ h2n.symm p3.par,p3.fits,p3.rw,p3.ne⟩
 ·refine ⟨Nat.le_trans o0.1 a.le,fun i hi hne=>?_⟩
  have hiG:i < G.n:=Nat.lt_of_lt_of_le hi o0.1
  rw [a.old i hiG]
  show (if i=π 0 then _ else if i < G.n then H3.m i else none)=_
  rw [if_neg (Nat.ne_of_lt (Nat.lt_of_lt_of_le hi h2l)),if_pos hiG,oo3.2 i hi hne]
end
end Go.Proofs.YtgpigfcagppohaaGreatDoor
