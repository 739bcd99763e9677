/-
  What the functions that the law reaches compute,told by plain data;it holds of programs that pass the check of right form and are light.
-/
import Derived.Test.YtbmmchaaiakanaaDoorR4
import Derived.Test.YtbmmchaaiakanaaDoorS2
set_option linter.unusedVariables false
set_option linter.unusedSimpArgs false
namespace Go.Proofs.YtbmmchaaiakanaaDoor
open Go.AH
attribute [local irreducible] W RS WR
theorem level_le (s : ByteArray) : levelS s ≤ 10 := by unfold levelS; repeat' split
                                                       all_goals omega
theorem two_at {B:Hp} {lo b kb op pos:Nat} {text:ByteArray} {p1 p2:Nat} {e1 e2:ExprS} {c:Nat} (h0:lo≤b) (hm:B.m b=some ⟨⟨exprC op pos text zeroTok zeroType none 0 (some ⟨kb,0,none⟩) 2 c⟩,59⟩) (hk:B.m kb=some ⟨⟨[ptrC p1,ptrC p2]⟩,45⟩) (hkl:lo≤kb) (h1:ExprAt B lo p1 e1) (h2:ExprAt B lo p2 e2):ExprAt B lo b (.mk op pos text zeroTok zeroType [e1,e2]) :=
 .mk (ps:=[p1,p2]) h0 hm (.inl ⟨rfl,rfl⟩) (.inr ⟨kb,rfl,hkl,hk⟩) rfl (fun i p k hp hk=>by
  match i,hp,hk with
  | 0,hp,hk=>simp at hp hk;subst hp;subst hk;exact h1
  | 1,hp,hk=>simp at hp hk;subst hp;subst hk;exact h2
  | i+2,hp,hk=>simp at hp)
theorem one_at {B:Hp} {lo b kb op pos:Nat} {text:ByteArray} {p1:Nat} {e1:ExprS} {c:Nat} (h0:lo≤b) (hm:B.m b=some ⟨⟨exprC op pos text zeroTok zeroType none 0 (some ⟨kb,0,none⟩) 1 c⟩,59⟩) (hk:B.m kb=some ⟨⟨[ptrC p1]⟩,45⟩) (hkl:lo≤kb) (h1:ExprAt B lo p1 e1):ExprAt B lo b (.mk op pos text zeroTok zeroType [e1]) :=
 .mk (ps:=[p1]) h0 hm (.inl ⟨rfl,rfl⟩) (.inr ⟨kb,rfl,hkl,hk⟩) rfl (fun i p k hp hk=>by
  match i,hp,hk with
  | 0,hp,hk=>simp at hp hk;subst hp;subst hk;exact h1
  | i+1,hp,hk=>simp at hp)
section
variable {L:List TokS} {tb cap pb:Nat} {h:Hp} {st:PS}
set_option maxHeartbeats 2000000 in
theorem binary_ok (hL:ToksOK L) {n k:Nat} (ih:IH L (n+1)) {e:ExprS} {t:PS} (hs:parseE (tokN L) (n+1) (.binary k) st=some (e,t)):CtrE L (.binary k) st e t:=by
 intro tb cap pb h p
 rw [parseE] at hs
 obtain ⟨⟨e0,u0⟩,h1,hs⟩:=bind_some' hs
 dsimp only at hs
 show EX _ _ _ _ _
 refine EX.intro (fn:=Tryd.f56) (c:=(Tryd.f56.body.getD .skip)) Tryd.func56 (by kernel_rfl) Tryd.ntmps56 (by kernel_rfl) fun π s0=>?_
 conv=>arg 2;whnf
 have hpb:=s0.dom _ _ p.par
 have q:Now L tb cap pb h h st:=⟨p,s0.dom,OffP.refl pb h⟩
 ((with_reducible apply W.seq);repeat (first|refine Ys ?_|refine Y0 ?_|refine Y1 ?_|refine Ym ?_))
 ((with_reducible apply W.seq);repeat (first|((with_reducible apply (RS.callEx (g0:=63)));(iterate 3 exact rfl);intro B1 hB1;have hlo:h.n≤B1.n:=Nat.le_trans q.o.1 hB1.le;have hpl:pb < B1.n:=hB1.dom _ _ (q.p.absd q.d hB1).par;refine ⟨_,ih n (Nat.lt_succ_self n) .unary _ _ _ h1 _ _ _ _ (q.p.absd q.d hB1),?_⟩;rintro v H1 π1 ⟨b,rfl,he,p',o'⟩ sp' hle1;have q:Now L tb cap pb h H1 _:=⟨p',sp'.dom,(q.o.abs hB1).trans o'⟩)|refine Y4 ?_|refine Y0 ?_|refine Y1 ?_|refine Ym ?_))
 with_reducible apply W.seq
 with_reducible apply W.block
 refine W.loopN (X:=Nat × ExprS × PS × Nat) (fun x=>[(0,ptrC pb),(1,.int .i64 k),(5,ptrC x.2.2.2)]) (fun x B=>ParAt L tb cap pb B x.2.2.1∧OffP pb h B∧ExprAt B h.n x.2.2.2 x.2.1∧x.1 < n+1∧parseE (tokN L) x.1 (.binL k x.2.1) x.2.2.1=some (e,t)) (fun x=>x.1)
  (fun B' a=>⟨(n,e0,u0,b),?_,(q.ends a).1,(q.ends a).2,he.keep sp'.dom ((OffP.refl pb _).abs a) hpl hlo,Nat.lt_succ_self n,hs⟩) ?_
 ·(repeat' (first|exact trivial|exact rfl|apply And.intro));done
 clear hs h1 he q
 rintro ⟨m,e',st',b'⟩ B π3 sB ⟨p,o,he,hm,hs⟩
 dsimp only at p o he hm hs ⊢
 have q:Now L tb cap pb h B st':=⟨p,sB.dom,o⟩
 cases m with
 | zero=>rw [parseE] at hs;cases hs
 | succ m =>
  rw [parseE] at hs
  by_cases hf:st'.fk=0
  ·rw [if_neg (fun hc=>hc hf)] at hs
   dsimp only at hs
   ((with_reducible apply W.seq);repeat (fail))
   ((with_reducible apply W.seq);repeat (first|refine Y2s ?_|refine Yq ?_|refine Y0 ?_|refine Y1 ?_|(with_reducible first|apply W.block|apply W.skip|apply thenK_n)|refine Y5 ?_))
   ((with_reducible apply W.seq);repeat (first|refine Yt ?_|refine Yq ?_|refine Y2 ?_|refine Y8 ?_|refine Y0 ?_|refine Y1 ?_|refine Ym ?_))
   ((with_reducible apply W.seq);repeat (first|refine Ys ?_|refine Y0 ?_|refine Y1 ?_|refine Ym ?_))
   refine W.absorbX fun G π0 a0=>?_
   have hT:G.m (π3 0)=some ⟨⟨tokC (st'.tok (tokN L))⟩,56⟩:=a0.loc 0 (Nat.lt_succ_self 0)
   have tn:=a0.dom _ _ hT
   have tne:π3 0≠pb:=fun e=>by have h1:B.n≤π3 0:=a0.lo 0 (Nat.lt_succ_self 0);have h2:=sB.dom _ _ p.par;omega
   have he:=he.keep sB.dom ((OffP.refl pb _).abs a0) hpb (Nat.le_refl _)
   have o0:OffP pb h G:=q.o.abs a0
   have q:Now L tb cap pb G G st':=⟨(q.ends a0).1,a0.dom,OffP.refl pb G⟩
   generalize π3 0=tk at *
   by_cases hk:(st'.tok (tokN L)).kind=4
   ·obtain ⟨lev,hlev⟩:∃ lev,levelS (st'.tok (tokN L)).text=lev:=⟨_,rfl⟩
    have hll:=level_le (st'.tok (tokN L)).text
    rw [hlev] at hll
    have hlv:∀ B',TF Tryd.prog 64 ⟨[.string (st'.tok (tokN L)).text]⟩ B' (.int .i64 lev) B':=fun B'=>by rw [← hlev];exact level_tf _ B'
    have hsk:signK (st'.tok (tokN L))=lev:=by unfold signK;rw [if_pos hk,hlev]
    rw [hsk] at hs
    by_cases hx:lev < k∨lev=0
    ·rw [if_pos hx] at hs
     simp only [Option.some.injEq,Prod.mk.injEq] at hs
     obtain ⟨rfl,rfl⟩:=hs
     by_cases hx1:lev < k
     ·repeat (first|refine Y9 ?_|refine Y1l ?_|refine Yg ?_|refine Yb ?_|refine Y6 ?_|refine Yn ?_|refine Y0 ?_|refine Y1b ?_|refine Y1 ?_|refine Y5 ?_|refine Yf ?_|refine Y24 ?_)
      exact endsK_ret _ (.cons (.tmp rfl) .nil) fun B' a=>⟨b',rfl,he.keep a0.dom ((OffP.refl pb _).abs a) hpb (Nat.le_refl _),(q.ends a).1,o0.trans (q.ends a).2⟩
     ·have hx2:lev=0:=hx.resolve_left hx1
      repeat (first|refine Y9 ?_|refine Y1l ?_|refine Yg ?_|refine Yd ?_|refine Y6 ?_|refine Y7 ?_|refine Y0 ?_|refine Y1b ?_|refine Y1 ?_|refine Y5 ?_|refine Yf ?_|refine Y24 ?_)
      exact endsK_ret _ (.cons (.tmp rfl) .nil) fun B' a=>⟨b',rfl,he.keep a0.dom ((OffP.refl pb _).abs a) hpb (Nat.le_refl _),(q.ends a).1,o0.trans (q.ends a).2⟩
    ·rw [if_neg hx] at hs
     have hx1:¬ lev < k:=fun hc=>hx (.inl hc)
     have hx2:¬ lev=0:=fun hc=>hx (.inr hc)
     obtain ⟨u1,hadv,hs⟩:=bind_some' hs
     obtain ⟨ha,rfl⟩:=adv_iff hadv
     obtain ⟨⟨r,u2⟩,h2,hs⟩:=bind_some' hs
     obtain ⟨⟨e2,u3⟩,h3,hs⟩:=bind_some' hs
     dsimp only at h3 hs
     unfold binE at h3
     cases hor:eqB (st'.tok (tokN L)).text (b2 124 124) with
     | true =>
      rw [hor,if_pos rfl] at h3
      obtain ⟨hnode,rfl⟩:=exprS_iff h3
      repeat (first|refine Y9 ?_|refine Y1l ?_|refine Y15 ?_|((with_reducible apply (RS.storeB (cs':=psC L tb cap { st' with at_:=st'.at_+1 })));(iterate 3 exact rfl);exact q.p.par;exact q.d _ _ q.p.par;exact q.p.rw;exact Nat.le_of_ble_eq_true rfl;(iterate 3 exact rfl);(have q:=q.set (q.p.fits.adv hadv)))|((with_reducible apply (RS.callEx (g0:=56)));(iterate 3 exact rfl);intro B1 hB1;have hlo1:G.n≤B1.n:=Nat.le_trans q.o.1 hB1.le;have hpl1:pb < B1.n:=hB1.dom _ _ (q.p.absd q.d hB1).par;refine ⟨_,ih m (by omega) (.binary (lev+1)) _ _ _ h2 _ _ _ _ (q.p.absd q.d hB1),?_⟩;rintro v H1 π1 ⟨b2,rfl,he2,p',o'⟩ sp1 hle1;have he:=he.keep a0.dom ((q.o.abs hB1).trans o') hpb (Nat.le_refl _);have q:Now L tb cap pb G H1 _:=⟨p',sp1.dom,(q.o.abs hB1).trans o'⟩)|refine Y10 ?_|refine Yh ?_|((with_reducible apply (RS.callEx (g0:=57)));(iterate 3 exact rfl);intro B2 hB2;have hkb:B2.m (π1 0)=some ⟨⟨[ptrC b',ptrC b2]⟩,45⟩:=hB2.loc 0 (Nat.lt_succ_self 0);have hkl:H1.n≤π1 0:=hB2.lo 0 (Nat.lt_succ_self 0);refine ⟨_,expr_ex hL (q.p.absd q.d hB2) _ _ _ _ _ _ hnode,?_⟩;rintro v H2 π2 ⟨b3,rfl,hbn,hbm,p2,o2⟩ sp2 hle2;have oo:=((OffP.refl pb H1).abs hB2).trans o2;have he:=he.keep sp1.dom oo hpb (Nat.le_refl _);have he2:=he2.keep sp1.dom oo hpl1 (Nat.le_trans o0.1 hlo1);have hkb:=o2.keep hkb (hB2.dom _ _ hkb) (by omega);have q:Now L tb cap pb G H2 _:=⟨p2,sp2.dom,(q.o.abs hB2).trans o2⟩)|refine Yc ?_|refine Yd ?_|refine Y6 ?_|refine Y7 ?_|refine Ye ?_|refine Y0 ?_|refine Yx ?_|refine Y1 ?_|refine Y5 ?_|refine Y3 ?_)
      refine roundN_n rfl fun B' a=>⟨(m,_,u3,b3),?_,⟨(q.ends a).1,o0.trans (q.ends a).2,(two_at (Nat.le_trans o0.1 (Nat.le_trans hlo1 (Nat.le_trans hle1 (Nat.le_trans hB2.le hbn)))) hbm hkb (Nat.le_trans o0.1 (Nat.le_trans hlo1 (Nat.le_trans hle1 hkl))) he he2).keep sp2.dom ((OffP.refl pb _).abs a) hpb (Nat.le_refl _),by omega,hs⟩,Nat.lt_succ_self m⟩
      (repeat' (first|exact trivial|exact rfl|apply And.intro));done
     | false =>
      cases hand:eqB (st'.tok (tokN L)).text (b2 38 38) with
      | true =>
       rw [hor,if_neg (by decide),hand,if_pos rfl] at h3
       obtain ⟨hnode,rfl⟩:=exprS_iff h3
       repeat (first|refine Y9 ?_|refine Y1l ?_|refine Y15 ?_|((with_reducible apply (RS.storeB (cs':=psC L tb cap { st' with at_:=st'.at_+1 })));(iterate 3 exact rfl);exact q.p.par;exact q.d _ _ q.p.par;exact q.p.rw;exact Nat.le_of_ble_eq_true rfl;(iterate 3 exact rfl);(have q:=q.set (q.p.fits.adv hadv)))|((with_reducible apply (RS.callEx (g0:=56)));(iterate 3 exact rfl);intro B1 hB1;have hlo1:G.n≤B1.n:=Nat.le_trans q.o.1 hB1.le;have hpl1:pb < B1.n:=hB1.dom _ _ (q.p.absd q.d hB1).par;refine ⟨_,ih m (by omega) (.binary (lev+1)) _ _ _ h2 _ _ _ _ (q.p.absd q.d hB1),?_⟩;rintro v H1 π1 ⟨b2,rfl,he2,p',o'⟩ sp1 hle1;have he:=he.keep a0.dom ((q.o.abs hB1).trans o') hpb (Nat.le_refl _);have q:Now L tb cap pb G H1 _:=⟨p',sp1.dom,(q.o.abs hB1).trans o'⟩)|refine Y10 ?_|refine Yh ?_|((with_reducible apply (RS.callEx (g0:=57)));(iterate 3 exact rfl);intro B2 hB2;have hkb:B2.m (π1 0)=some ⟨⟨[ptrC b',ptrC b2]⟩,45⟩:=hB2.loc 0 (Nat.lt_succ_self 0);have hkl:H1.n≤π1 0:=hB2.lo 0 (Nat.lt_succ_self 0);refine ⟨_,expr_ex hL (q.p.absd q.d hB2) _ _ _ _ _ _ hnode,?_⟩;rintro v H2 π2 ⟨b3,rfl,hbn,hbm,p2,o2⟩ sp2 hle2;have oo:=((OffP.refl pb H1).abs hB2).trans o2;have he:=he.keep sp1.dom oo hpb (Nat.le_refl _);have he2:=he2.keep sp1.dom oo hpl1 (Nat.le_trans o0.1 hlo1);have hkb:=o2.keep hkb (hB2.dom _ _ hkb) (by omega);have q:Now L tb cap pb G H2 _:=⟨p2,sp2.dom,(q.o.abs hB2).trans o2⟩)|refine Yc ?_|refine Yd ?_|refine Y6 ?_|refine Y7 ?_|refine Ye ?_|refine Y0 ?_|refine Yx ?_|refine Y1 ?_|refine Y5 ?_|refine Y3 ?_)
       refine roundN_n rfl fun B' a=>⟨(m,_,u3,b3),?_,⟨(q.ends a).1,o0.trans (q.ends a).2,(two_at (Nat.le_trans o0.1 (Nat.le_trans hlo1 (Nat.le_trans hle1 (Nat.le_trans hB2.le hbn)))) hbm hkb (Nat.le_trans o0.1 (Nat.le_trans hlo1 (Nat.le_trans hle1 hkl))) he he2).keep sp2.dom ((OffP.refl pb _).abs a) hpb (Nat.le_refl _),by omega,hs⟩,Nat.lt_succ_self m⟩
       (repeat' (first|exact trivial|exact rfl|apply And.intro));done
      | false =>
       rw [hor,if_neg (by decide),hand,if_neg (by decide)] at h3
       obtain ⟨hnode,rfl⟩:=exprS_iff h3
       repeat (first|refine Y9 ?_|refine Y1l ?_|refine Y15 ?_|((with_reducible apply (RS.storeB (cs':=psC L tb cap { st' with at_:=st'.at_+1 })));(iterate 3 exact rfl);exact q.p.par;exact q.d _ _ q.p.par;exact q.p.rw;exact Nat.le_of_ble_eq_true rfl;(iterate 3 exact rfl);(have q:=q.set (q.p.fits.adv hadv)))|((with_reducible apply (RS.callEx (g0:=56)));(iterate 3 exact rfl);intro B1 hB1;have hlo1:G.n≤B1.n:=Nat.le_trans q.o.1 hB1.le;have hpl1:pb < B1.n:=hB1.dom _ _ (q.p.absd q.d hB1).par;refine ⟨_,ih m (by omega) (.binary (lev+1)) _ _ _ h2 _ _ _ _ (q.p.absd q.d hB1),?_⟩;rintro v H1 π1 ⟨b2,rfl,he2,p',o'⟩ sp1 hle1;have he:=he.keep a0.dom ((q.o.abs hB1).trans o') hpb (Nat.le_refl _);have q:Now L tb cap pb G H1 _:=⟨p',sp1.dom,(q.o.abs hB1).trans o'⟩)|refine Y10 ?_|refine Yh ?_|((with_reducible apply (RS.callEx (g0:=57)));(iterate 3 exact rfl);intro B2 hB2;have hkb:B2.m (π1 0)=some ⟨⟨[ptrC b',ptrC b2]⟩,45⟩:=hB2.loc 0 (Nat.lt_succ_self 0);have hkl:H1.n≤π1 0:=hB2.lo 0 (Nat.lt_succ_self 0);refine ⟨_,expr_ex hL (q.p.absd q.d hB2) _ _ _ _ _ _ hnode,?_⟩;rintro v H2 π2 ⟨b3,rfl,hbn,hbm,p2,o2⟩ sp2 hle2;have oo:=((OffP.refl pb H1).abs hB2).trans o2;have he:=he.keep sp1.dom oo hpb (Nat.le_refl _);have he2:=he2.keep sp1.dom oo hpl1 (Nat.le_trans o0.1 hlo1);have hkb:=o2.keep hkb (hB2.dom _ _ hkb) (by omega);have q:Now L tb cap pb G H2 _:=⟨p2,sp2.dom,(q.o.abs hB2).trans o2⟩)|refine Yc ?_|refine Yd ?_|refine Y6 ?_|refine Y7 ?_|refine Ye ?_|refine Y0 ?_|refine Yx ?_|refine Y1 ?_|refine Y5 ?_|refine Y3 ?_)
       refine roundN_n rfl fun B' a=>⟨(m,_,u3,b3),?_,⟨(q.ends a).1,o0.trans (q.ends a).2,(two_at (Nat.le_trans o0.1 (Nat.le_trans hlo1 (Nat.le_trans hle1 (Nat.le_trans hB2.le hbn)))) hbm hkb (Nat.le_trans o0.1 (Nat.le_trans hlo1 (Nat.le_trans hle1 hkl))) he he2).keep sp2.dom ((OffP.refl pb _).abs a) hpb (Nat.le_refl _),by omega,hs⟩,Nat.lt_succ_self m⟩
       (repeat' (first|exact trivial|exact rfl|apply And.intro));done
   ·have hsk:signK (st'.tok (tokN L))=0:=by unfold signK;rw [if_neg hk]
    rw [hsk,if_pos (.inr rfl)] at hs
    simp only [Option.some.injEq,Prod.mk.injEq] at hs
    obtain ⟨rfl,rfl⟩:=hs
    by_cases hx1:0 < k
    ·repeat (first|refine Y9 ?_|refine Yg ?_|refine Yb ?_|refine Y6 ?_|refine Y7 ?_|refine Yn ?_|refine Y0 ?_|refine Y2b ?_|refine Y1 ?_|refine Y5 ?_|refine Y3 ?_|refine Yf ?_|refine Y24 ?_)
     exact endsK_ret _ (.cons (.tmp rfl) .nil) fun B' a=>⟨b',rfl,he.keep a0.dom ((OffP.refl pb _).abs a) hpb (Nat.le_refl _),(q.ends a).1,o0.trans (q.ends a).2⟩
    ·repeat (first|refine Y9 ?_|refine Yg ?_|refine Yd ?_|refine Y7 ?_|refine Yu ?_|refine Y0 ?_|refine Y2b ?_|refine Y1 ?_|refine Y5 ?_|refine Y3 ?_|refine Yf ?_|refine Y24 ?_)
     exact endsK_ret _ (.cons (.tmp rfl) .nil) fun B' a=>⟨b',rfl,he.keep a0.dom ((OffP.refl pb _).abs a) hpb (Nat.le_refl _),(q.ends a).1,o0.trans (q.ends a).2⟩
  ·rw [if_pos hf] at hs
   simp only [Option.some.injEq,Prod.mk.injEq] at hs
   obtain ⟨rfl,rfl⟩:=hs
   repeat (first|refine Y2q ?_|refine Y4 ?_|refine Y0 ?_|refine Y1b ?_|refine Y1 ?_|refine Y3 ?_|refine Yf ?_)
   exact endsK_ret _ (.cons (.tmp rfl) .nil) fun B' a=>⟨b',rfl,he.keep sB.dom ((OffP.refl pb _).abs a) hpb (Nat.le_refl _),(q.ends a).1,(q.ends a).2⟩
end
section
variable {L:List TokS} {tb cap pb:Nat} {h:Hp} {st:PS}
theorem push_old {B:Hp} (hd:∀ i c,B.m i=some c→i < B.n) {b:Blk} {i:Nat} {c:Blk} (hc:B.m i=some c):(B.push b).m i=some c:=by
 show (if i=B.n then some b else B.m i)=some c
 rw [if_neg (Nat.ne_of_lt (hd i c hc))];exact hc
theorem Now.push {B:Hp} (q:Now L tb cap pb h B st) (b:Blk):Now L tb cap pb h (B.push b) st :=
 ⟨⟨push_old q.d q.p.tok,push_old q.d q.p.par,q.p.fits,q.p.rw,q.p.ne⟩,fun i c hc=>by
  have hc:(if i=B.n then some b else B.m i)=some c:=hc
  show i < B.n+1
  by_cases e:i=B.n
  ·omega
  ·rw [if_neg e] at hc;exact Nat.lt_succ_of_lt (q.d i c hc),Nat.le_succ_of_le q.o.1,fun i hi hn=>by
  show (if i=B.n then some b else B.m i)=_
  rw [if_neg (Nat.ne_of_lt (Nat.lt_of_lt_of_le hi q.o.1))];exact q.o.2 i hi hn⟩
theorem cut_up {P:Program} {H B':Hp} {n:Nat} {π:Nat→Nat} {k:Nat} {l:List (Nat × Option Blk)} (hd:(⟨cutH H n,π,k,l⟩:SH).den=H) (a:Absb (P:=P) ⟨cutH H n,π,k,l⟩ B'):∀ i c,H.m i=some c→B'.m i=some c:=by
 intro i c hc
 rw [← hd] at hc
 simp only [SH.den] at hc
 by_cases hi:i < (cutH H n).n
 ·rw [if_pos hi] at hc;rw [a.old i hi];exact hc
 ·rw [if_neg hi] at hc
  cases hx:idx π k i with
  | none=>rw [hx] at hc;cases hc
  | some j =>
   rw [hx] at hc
   obtain ⟨g1,g2⟩:=idx_some hx
   rw [← g2,a.loc j g1];exact hc
theorem Now.cut {P:Program} {H B':Hp} {n:Nat} {π:Nat→Nat} {k:Nat} {l:List (Nat × Option Blk)} (q:Now L tb cap pb h H st) (hd:(⟨cutH H n,π,k,l⟩:SH).den=H) (hn:h.n≤n) (a:Absb (P:=P) ⟨cutH H n,π,k,l⟩ B'):ParAt L tb cap pb B' st∧OffP pb h B' :=
 ⟨⟨cut_up hd a _ _ q.p.tok,cut_up hd a _ _ q.p.par,q.p.fits,q.p.rw,q.p.ne⟩,Nat.le_trans hn a.le,fun i hi hne=>by
  rw [a.old i (Nat.lt_of_lt_of_le hi hn),← q.o.2 i hi hne]
  show (if i < n then H.m i else none)=_
  rw [if_pos (Nat.lt_of_lt_of_le hi hn)]⟩
end
section
variable {L:List TokS} {tb cap pb:Nat} {h:Hp} {st:PS}
set_option maxHeartbeats 2000000 in
theorem unary_ok (hL:ToksOK L) {n:Nat} (ih:IH L (n+1)) {e:ExprS} {t:PS} (hs:parseE (tokN L) (n+1) .unary st=some (e,t)):CtrE L .unary st e t:=by
 intro tb cap pb h p
 rw [parseE] at hs
 obtain ⟨u1,h1,hs⟩:=bind_some' hs
 show EX _ _ _ _ _
 refine EX.introD (fn:=Tryd.f63) (c:=(Tryd.f63.body.getD .skip)) Tryd.func63 (by kernel_rfl) Tryd.ntmps63 (by kernel_rfl) fun π s0=>?_
 conv=>arg 3;whnf
 have hpb:=s0.dom _ _ p.par
 have q:Now L tb cap pb h h st:=⟨p,s0.dom,OffP.refl pb h⟩
 refine WD.plain fun inst _=>?_
 repeat (first|refine Ys ?_|refine Y0 ?_|refine Y1 ?_)
 refine thenD_n ?_
 refine WD.seq (WD.moveDefer (by kernel_rfl) rfl rfl ?_)
 refine thenD_n ?_
 refine WD.lift fun inst _=>?_
 by_cases hf:u1.fk=0
 case neg =>
  rw [if_pos hf] at hs
  obtain ⟨u,hr,hup⟩:=upE_iff hs
  simp only [Option.some.injEq,Prod.mk.injEq] at hr
  obtain ⟨rfl,rfl⟩:=hr
  repeat (first|((with_reducible apply (RS.callEx (g0:=43)));(iterate 3 exact rfl);intro B1 hB1;refine ⟨_,down_exb hL (q.p.absd q.d hB1) h1 (decide_eq_false hf),?_⟩;rintro v H1 π1 ⟨rfl,p',o'⟩ sp' hle1;have q:Now L tb cap pb h H1 _:=⟨p',sp'.dom,(q.o.abs hB1).trans o'⟩)|refine Y3a ?_|refine Yi ?_|refine Y0 ?_|refine Yy ?_|refine Y1 ?_|refine Y5 ?_)
  refine ⟨.inl rfl,[_],.cons rfl .nil,fun B' a=>?_⟩
  exact ends_up (lo:=h.n) (q.ends a).1 (q.ends a).2 (leaf_at (Nat.le_trans q.o.1 (a.lo 0 (Nat.lt_succ_self 0))) (a.loc 0 (Nat.lt_succ_self 0))) a.dom hpb (Nat.le_refl _) hup
 rw [if_neg (fun hc=>hc hf)] at hs
 obtain ⟨u,hr,hup⟩:=upE_iff hs
 clear hs
 dsimp only at hr
 ((with_reducible apply W.seq);repeat (fail))
 ((with_reducible apply W.seq);repeat (first|((with_reducible apply (RS.callEx (g0:=43)));(iterate 3 exact rfl);intro B1 hB1;refine ⟨_,down_exb hL (q.p.absd q.d hB1) h1 (decide_eq_true hf),?_⟩;rintro v H1 π1 ⟨rfl,p',o'⟩ sp' hle1;have q:Now L tb cap pb h H1 _:=⟨p',sp'.dom,(q.o.abs hB1).trans o'⟩)|refine Y1f ?_|refine Y0 ?_|refine Y1 ?_|refine Y1h ?_|refine Y3 ?_))
 ((with_reducible apply W.seq);repeat (first|refine Yt ?_|refine Yq ?_|refine Y2 ?_|refine Y8 ?_|refine Y0 ?_|refine Y1 ?_|refine Ym ?_))
 refine W.absorbX fun G π0 a0=>?_
 have hT:G.m (π1 0)=some ⟨⟨tokC (u1.tok (tokN L))⟩,56⟩:=a0.loc 0 (Nat.lt_succ_self 0)
 have tn:=a0.dom _ _ hT
 have tne:π1 0≠pb:=fun e=>by have h1:H1.n≤π1 0:=a0.lo 0 (Nat.lt_succ_self 0);have h2:=sp'.dom _ _ p'.par;omega
 have o0:OffP pb h G:=q.o.abs a0
 have q:Now L tb cap pb G G u1:=⟨(q.ends a0).1,a0.dom,OffP.refl pb G⟩
 have hpG:pb < G.n:=a0.dom _ _ q.p.par
 generalize π1 0=tk at *
 by_cases hk:(u1.tok (tokN L)).kind=4
 ·cases hun:unaries.any (fun a=>eqB (u1.tok (tokN L)).text a) with
  | true =>
   rw [if_pos ⟨hk,hun⟩] at hr
   obtain ⟨u2,hadv,hr⟩:=bind_some' hr
   obtain ⟨ha,rfl⟩:=adv_iff hadv
   obtain ⟨⟨e1,u3⟩,h2,hx⟩:=bind_some' hr
   obtain ⟨hnode,rfl⟩:=exprS_iff hx
   dsimp only at hnode
   have hf1:=q.p.fits
   have hfa:({ u1 with at_:=u1.at_+1 }:PS).Fits:=hf1.adv hadv
   have hun:eqB (u1.tok (tokN L)).text (b1 45)=true∨(eqB (u1.tok (tokN L)).text (b1 45)=false∧eqB (u1.tok (tokN L)).text (b1 126)=true)∨(eqB (u1.tok (tokN L)).text (b1 45)=false∧eqB (u1.tok (tokN L)).text (b1 126)=false∧eqB (u1.tok (tokN L)).text (b1 33)=true)∨(eqB (u1.tok (tokN L)).text (b1 45)=false∧eqB (u1.tok (tokN L)).text (b1 126)=false∧eqB (u1.tok (tokN L)).text (b1 33)=false∧eqB (u1.tok (tokN L)).text (b1 42)=true)∨(eqB (u1.tok (tokN L)).text (b1 45)=false∧eqB (u1.tok (tokN L)).text (b1 126)=false∧eqB (u1.tok (tokN L)).text (b1 33)=false∧eqB (u1.tok (tokN L)).text (b1 42)=false∧eqB (u1.tok (tokN L)).text (b1 38)=true):=by
    simp only [unaries,List.any_cons,List.any_nil,Bool.or_false,Bool.or_eq_true] at hun
    revert hun
    generalize eqB (u1.tok (tokN L)).text (b1 45)=a1
    generalize eqB (u1.tok (tokN L)).text (b1 126)=a2
    generalize eqB (u1.tok (tokN L)).text (b1 33)=a3
    generalize eqB (u1.tok (tokN L)).text (b1 42)=a4
    generalize eqB (u1.tok (tokN L)).text (b1 38)=a5
    revert a1 a2 a3 a4 a5
    decide
   rcases hun with c1|⟨c1,c2⟩|⟨c1,c2,c3⟩|⟨c1,c2,c3,c4⟩|⟨c1,c2,c3,c4,c5⟩
   all_goals
    repeat (first|refine Y15 ?_|refine Y10 ?_|((with_reducible apply (RS.storeB (cs':=psC L tb cap { u1 with at_:=u1.at_+1 })));(iterate 3 exact rfl);exact q.p.par;exact q.d _ _ q.p.par;exact q.p.rw;exact Nat.le_of_ble_eq_true rfl;(iterate 3 exact rfl);(have q:=q.set (st':={ u1 with at_:=u1.at_+1 }) hfa))|((with_reducible apply RS.load1X);(iterate 3 exact rfl);exact q.o.keep hT tn tne;exact q.d _ _ (q.o.keep hT tn tne);exact rfl)|((with_reducible apply (RS.callYE (g0:=63) (fun id=>id == pb)));(iterate 3 exact rfl);intro B4 he4 hB4;have hlo1:G.n≤B4.n:=Nat.le_trans q.o.1 hB4.le;have hpl1:pb < B4.n:=hB4.dom _ _ (q.p.absd q.d hB4).par;refine ⟨_,ih n (Nat.lt_succ_self n) .unary _ _ _ h2 _ _ _ _ (q.p.absd q.d hB4),(fun v H' hq i hi hei=>by obtain ⟨b,_,_,_,o5⟩:=hq;exact o5.2 i (Nat.lt_of_lt_of_le hi hB4.le) (by simpa using hei)),?_⟩;rintro v H5 k5 l5 ⟨b5,rfl,he5,p5,o5⟩ s5 hle5 hm5 hden5 hwf5 hk5;have q5:Now L tb cap pb G H5 _:=⟨p5,s5.dom,(q.o.abs hB4).trans o5⟩)|refine Yh ?_|((with_reducible apply (RS.callYE (g0:=57) (fun id=>id == pb)));(iterate 3 exact rfl);intro B6 he6 hB6;have e6:B6=H5.push ⟨⟨[ptrC b5]⟩,45⟩:=(he6.symm.trans (SH.push_den hwf5 _).symm).trans (congrArg (fun H=>Hp.push H _) hden5);have q6:Now L tb cap pb G B6 _:=(by rw [e6];exact q5.push _);have hkn:π0 k5=H5.n:=congrArg Hp.n hden5;have hkb:B6.m (π0 k5)=some ⟨⟨[ptrC b5]⟩,45⟩:=(hB6.loc k5 (Nat.lt_succ_self k5)).trans (by rw [look_cons];exact if_pos rfl);have hx6:ExprAt B6 B4.n b5 e1:=(by rw [e6];exact he5.up (fun i _ c hc=>push_old s5.dom hc) (Nat.le_refl _));refine ⟨_,expr_ex hL q6.p _ _ _ _ _ _ hnode,(fun v H' hq i hi hei=>by obtain ⟨b,_,_,_,_,o7⟩:=hq;exact o7.2 i (Nat.lt_of_lt_of_le hi hB6.le) (by simpa using hei)),?_⟩;rintro v H7 k7 l7 ⟨b7,rfl,hbn7,hbm7,p7,o7⟩ s7 hle7 hm7 hden7 hwf7 hk7;have q7:Now L tb cap pb G H7 _:=⟨p7,s7.dom,q6.o.trans o7⟩)|((with_reducible apply (RS.nilPX mixed [(0,1),(0,2),(2,3),(1,3),(0,3),(2,4),(1,4),(0,4),(4,5),(3,5),(2,5),(1,5),(0,5),(4,6),(3,6),(2,6),(1,6),(0,6),(4,7),(3,7),(2,7),(1,7),(0,7)]));kernel_rfl;(repeat (refine ⟨fun x y hx hy=>(by obtain rfl:=Option.some.inj hx;obtain rfl:=Option.some.inj hy;exact pairR_free rfl rfl rfl rfl rfl rfl rfl (Nat.zero_le _) rfl),?_⟩));exact trivial;exact sideOK_all (j:=pb) (b:=tk) (Ne.symm tne) (by repeat' (first|exact trivial|exact .inl rfl|exact .inr rfl|apply And.intro)))|refine Yc ?_|refine Y6 ?_|refine Ye ?_|refine Y0 ?_|refine Y2a ?_|refine Y1 ?_|refine Y5 ?_|refine Y3 ?_)
    refine ⟨.inl rfl,[ptrC b7],.cons rfl .nil,fun B' a=>?_⟩
    have hc:=q7.cut hden7 (Nat.le_refl _) a
    have hGb:G.n≤B6.n:=q6.o.1
    have hGk:G.n≤π0 k5:=by rw [hkn];exact q5.o.1
    refine ends_up (lo:=G.n) hc.1 (o0.trans hc.2) (one_at (Nat.le_trans hGb hbn7) (cut_up hden7 a _ _ hbm7) (cut_up hden7 a _ _ (o7.keep hkb (hB6.dom _ _ hkb) (Nat.ne_of_gt (Nat.lt_of_lt_of_le hpG hGk)))) hGk ((hx6.keep hB6.dom o7 hpl1 hlo1).up (fun i _ c hc=>cut_up hden7 a i c hc) (Nat.le_refl _))) a.dom hpG o0.1 hup
  | false =>
   rw [if_neg (fun hc=>by rw [hun] at hc;exact absurd hc.2 (by decide))] at hr
   simp only [unaries,List.any_cons,List.any_nil,Bool.or_false,Bool.or_eq_false_iff] at hun
   obtain ⟨c1,c2,c3,c4,c5⟩:=hun
   split at hr
   ·cases hr
   ·rename_i hpp
    have hpp:(eqB (u1.tok (tokN L)).text (b2 43 43) || eqB (u1.tok (tokN L)).text (b2 45 45))=false:=by
     cases hc:(eqB (u1.tok (tokN L)).text (b2 43 43) || eqB (u1.tok (tokN L)).text (b2 45 45)) with
     | false=>rfl
     | true=>exact absurd ⟨hk,hc⟩ hpp
    simp only [Bool.or_eq_false_iff] at hpp
    obtain ⟨c6,c7⟩:=hpp
    split at hr
    ·cases hr
    ·rename_i hpt
     obtain ⟨⟨bz,u2⟩,htk,hr⟩:=bind_some' hr
     cases bz with
     | true=>cases hr
     | false =>
      simp only [Bool.false_eq_true,if_false] at hr
      obtain ⟨⟨e1,u3⟩,h2,h3⟩:=bind_some' hr
      dsimp only at h3
      cases c8:eqB (u1.tok (tokN L)).text (b1 40) with
      | false =>
       repeat (first|refine Y10 ?_|((with_reducible apply (RS.callEx (g0:=24)));(iterate 3 exact rfl);intro B1 hB1;refine ⟨_,take_ex hL (q.p.absd q.d hB1) _ htk,?_⟩;rintro v H2 π2 ⟨rfl,p2,o2⟩ sp2 hle2;have q:Now L tb cap pb G H2 _:=⟨p2,sp2.dom,(q.o.abs hB1).trans o2⟩)|((with_reducible apply (RS.callEx (g0:=70)));(iterate 3 exact rfl);intro B2 hB2;have hlo1:G.n≤B2.n:=Nat.le_trans q.o.1 hB2.le;have hpl1:pb < B2.n:=hB2.dom _ _ (q.p.absd q.d hB2).par;refine ⟨_,ih n (Nat.lt_succ_self n) .primary _ _ _ h2 _ _ _ _ (q.p.absd q.d hB2),?_⟩;rintro v H3 π3 ⟨b,rfl,he,p3,o3⟩ sp3 hle3;have q:Now L tb cap pb G H3 _:=⟨p3,sp3.dom,(q.o.abs hB2).trans o3⟩)|((with_reducible apply (RS.callEx (g0:=69)));(iterate 3 exact rfl);intro B3 hB3;refine ⟨_,ih n (Nat.lt_succ_self n) (.post _) _ _ _ h3 _ _ _ _ (q.p.absd q.d hB3) b B2.n hpl1 (Nat.le_trans hle3 hB3.le) (he.keep sp3.dom ((OffP.refl pb _).abs hB3) hpl1 (Nat.le_refl _)),?_⟩;rintro v H4 π4 ⟨b4,rfl,he4,p4,o4⟩ sp4 hle4;have q:Now L tb cap pb G H4 _:=⟨p4,sp4.dom,(q.o.abs hB3).trans o4⟩)|refine Y9 ?_|refine Yg ?_|refine Y6 ?_|refine Y0 ?_|refine Y1c ?_|refine Y1 ?_|refine Y5 ?_|refine Y3 ?_)
       refine ⟨.inl rfl,[ptrC b4],.cons rfl .nil,fun B' a=>?_⟩
       exact ends_up (q.ends a).1 (o0.trans (q.ends a).2) (he4.keep sp4.dom ((OffP.refl pb _).abs a) hpl1 (Nat.le_refl _)) a.dom hpl1 (Nat.le_trans o0.1 hlo1) hup
      | true =>
       have hty:typedT (({ u1 with at_:=u1.at_+1 }:PS).tok (tokN L))=false:=by
        cases hc:typedT (tokN L (u1.at_+1)) with
        | false=>exact hc
        | true=>exact absurd ⟨hk,c8,.inl hc⟩ hpt
       have hau:=q.p.fits.a
       have hf1:=q.p.fits
       by_cases hau1:u1.at_ < 1000000
       ·have hfa:({ u1 with at_:=u1.at_+1 }:PS).Fits:=⟨hau1,hf1.d,hf1.n⟩
        repeat (first|refine Y15 ?_|refine Y10 ?_|((with_reducible apply (RS.callEx (g0:=24)));(iterate 3 exact rfl);intro B1 hB1;refine ⟨_,take_ex hL (q.p.absd q.d hB1) _ htk,?_⟩;rintro v H2 π2 ⟨rfl,p2,o2⟩ sp2 hle2;have q:Now L tb cap pb G H2 _:=⟨p2,sp2.dom,(q.o.abs hB1).trans o2⟩)|((with_reducible apply (RS.callEx (g0:=70)));(iterate 3 exact rfl);intro B2 hB2;have hlo1:G.n≤B2.n:=Nat.le_trans q.o.1 hB2.le;have hpl1:pb < B2.n:=hB2.dom _ _ (q.p.absd q.d hB2).par;refine ⟨_,ih n (Nat.lt_succ_self n) .primary _ _ _ h2 _ _ _ _ (q.p.absd q.d hB2),?_⟩;rintro v H3 π3 ⟨b,rfl,he,p3,o3⟩ sp3 hle3;have q:Now L tb cap pb G H3 _:=⟨p3,sp3.dom,(q.o.abs hB2).trans o3⟩)|((with_reducible apply (RS.callEx (g0:=69)));(iterate 3 exact rfl);intro B3 hB3;refine ⟨_,ih n (Nat.lt_succ_self n) (.post _) _ _ _ h3 _ _ _ _ (q.p.absd q.d hB3) b B2.n hpl1 (Nat.le_trans hle3 hB3.le) (he.keep sp3.dom ((OffP.refl pb _).abs hB3) hpl1 (Nat.le_refl _)),?_⟩;rintro v H4 π4 ⟨b4,rfl,he4,p4,o4⟩ sp4 hle4;have q:Now L tb cap pb G H4 _:=⟨p4,sp4.dom,(q.o.abs hB3).trans o4⟩)|refine Y9 ?_|((with_reducible apply (RS.callA (g0:=16)));(iterate 3 exact rfl);exact fun B' hB'=>typed_tf hL (q.p.absd q.d hB') hty)|((with_reducible apply (RS.storeB (cs':=psC L tb cap { u1 with at_:=u1.at_+1 })));(iterate 3 exact rfl);exact q.p.par;exact q.d _ _ q.p.par;exact q.p.rw;exact Nat.le_of_ble_eq_true rfl;(iterate 3 exact rfl);(have q:=q.set (st':={ u1 with at_:=u1.at_+1 }) hfa))|((with_reducible apply (RS.sub1 (a:=u1.at_+1)));(iterate 4 exact rfl);exact ⟨Nat.le_add_left 1 _,by omega⟩)|((with_reducible apply (RS.storeB (cs':=psC L tb cap u1)));(iterate 3 exact rfl);exact q.p.par;exact q.d _ _ q.p.par;exact q.p.rw;exact Nat.le_of_ble_eq_true rfl;(iterate 3 exact rfl);(have q:=q.set (st':=u1) hf1))|refine Yc ?_|refine Y6 ?_|refine Ye ?_|refine Y0 ?_|refine Y1c ?_|refine Y1 ?_|refine Y5 ?_|refine Y3 ?_)
        refine ⟨.inl rfl,[ptrC b4],.cons rfl .nil,fun B' a=>?_⟩
        exact ends_up (q.ends a).1 (o0.trans (q.ends a).2) (he4.keep sp4.dom ((OffP.refl pb _).abs a) hpl1 (Nat.le_refl _)) a.dom hpl1 (Nat.le_trans o0.1 hlo1) hup
       ·exact absurd ⟨hk,c8,.inr hau1⟩ hpt
 ·rw [if_neg (fun hc=>hk hc.1),if_neg (fun hc=>hk hc.1),if_neg (fun hc=>hk hc.1)] at hr
  obtain ⟨⟨bz,u2⟩,htk,hr⟩:=bind_some' hr
  cases bz with
  | true=>cases hr
  | false =>
   simp only [Bool.false_eq_true,if_false] at hr
   obtain ⟨⟨e1,u3⟩,h2,h3⟩:=bind_some' hr
   dsimp only at h3
   repeat (first|((with_reducible apply (RS.callEx (g0:=24)));(iterate 3 exact rfl);intro B1 hB1;refine ⟨_,take_ex hL (q.p.absd q.d hB1) _ htk,?_⟩;rintro v H2 π2 ⟨rfl,p2,o2⟩ sp2 hle2;have q:Now L tb cap pb G H2 _:=⟨p2,sp2.dom,(q.o.abs hB1).trans o2⟩)|((with_reducible apply (RS.callEx (g0:=70)));(iterate 3 exact rfl);intro B2 hB2;have hlo1:G.n≤B2.n:=Nat.le_trans q.o.1 hB2.le;have hpl1:pb < B2.n:=hB2.dom _ _ (q.p.absd q.d hB2).par;refine ⟨_,ih n (Nat.lt_succ_self n) .primary _ _ _ h2 _ _ _ _ (q.p.absd q.d hB2),?_⟩;rintro v H3 π3 ⟨b,rfl,he,p3,o3⟩ sp3 hle3;have q:Now L tb cap pb G H3 _:=⟨p3,sp3.dom,(q.o.abs hB2).trans o3⟩)|((with_reducible apply (RS.callEx (g0:=69)));(iterate 3 exact rfl);intro B3 hB3;refine ⟨_,ih n (Nat.lt_succ_self n) (.post _) _ _ _ h3 _ _ _ _ (q.p.absd q.d hB3) b B2.n hpl1 (Nat.le_trans hle3 hB3.le) (he.keep sp3.dom ((OffP.refl pb _).abs hB3) hpl1 (Nat.le_refl _)),?_⟩;rintro v H4 π4 ⟨b4,rfl,he4,p4,o4⟩ sp4 hle4;have q:Now L tb cap pb G H4 _:=⟨p4,sp4.dom,(q.o.abs hB3).trans o4⟩)|refine Y9 ?_|refine Yg ?_|refine Y7 ?_|refine Y0 ?_|refine Y1a ?_|refine Y1 ?_|refine Y3 ?_)
   refine ⟨.inl rfl,[ptrC b4],.cons rfl .nil,fun B' a=>?_⟩
   exact ends_up (q.ends a).1 (o0.trans (q.ends a).2) (he4.keep sp4.dom ((OffP.refl pb _).abs a) hpl1 (Nat.le_refl _)) a.dom hpl1 (Nat.le_trans o0.1 hlo1) hup
end
theorem exprs_ok {L:List TokS} (hL:ToksOK L):∀ N,IH L N:=by
 intro N
 induction N with
 | zero=>exact fun m hm=>absurd hm (Nat.not_lt_zero _)
 | succ n ih =>
  intro m hm req st e t hs
  rcases Nat.lt_succ_iff_lt_or_eq.1 hm with h|rfl
  ·exact ih m h req st e t hs
  ·cases m with
   | zero=>rw [parseE] at hs;cases hs
   | succ n =>
    cases req with
    | full=>exact full_ok hL ih hs
    | choice=>exact choice_ok hL ih hs
    | binary k=>exact binary_ok hL ih hs
    | binL k e0=>exact fun _ _ _ _ _=>trivial
    | unary=>exact unary_ok hL ih hs
    | primary=>exact primary_ok hL ih hs
    | paren=>exact paren_ok hL ih hs
    | post e0=>exact postfix_ok hL hs
theorem full_ex {L:List TokS} (hL:ToksOK L) {tb cap pb:Nat} {h:Hp} {st:PS} (p:ParAt L tb cap pb h st) {N:Nat} {e:ExprS} {t:PS} (hs:parseE (tokN L) N .full st=some (e,t)):EX Tryd.prog 54 [ptrC pb] h (ExprQ L tb cap pb h h.n e t) :=
 exprs_ok hL (N+1) N (Nat.lt_succ_self N) .full st e t hs _ _ _ _ p
theorem upS_iff {r:Option (StmtS × PS)} {e:StmtS} {t:PS} (h:upS r=some (e,t)):∃ u,r=some (e,u)∧u.up=some t:=by
 unfold upS at h
 obtain ⟨⟨e1,u⟩,h1,h⟩:=bind_some' h
 obtain ⟨u2,h2,h⟩:=bind_some' h
 simp only [Option.some.injEq,Prod.mk.injEq] at h
 obtain ⟨rfl,rfl⟩:=h
 exact ⟨u,h1,h2⟩
theorem takeF_iff {T:Nat→TokS} {st t:PS} {s:ByteArray} (h:st.take T s=some (false,t)) (hf:st.fk=0):t=st∧st.is T s=false:=by
 unfold PS.take at h
 split at h
 ·obtain ⟨u,h1,h2⟩:=Option.map_eq_some_iff.1 h
  cases h2
 ·rename_i hn
  simp only [Option.some.injEq,Prod.mk.injEq,true_and] at h
  refine ⟨h.symm,?_⟩
  cases hi:st.is T s with
  | false=>rfl
  | true=>exact absurd ⟨hf,hi⟩ hn
theorem take_fk {T:Nat→TokS} {st t:PS} {s:ByteArray} {b:Bool} (h:st.take T s=some (b,t)):t.fk=st.fk:=by
 unfold PS.take at h
 split at h
 ·obtain ⟨u,h1,h2⟩:=Option.map_eq_some_iff.1 h
  simp only [Prod.mk.injEq] at h2
  obtain ⟨_,rfl⟩:=h2
  obtain ⟨_,rfl⟩:=adv_iff h1
  rfl
 ·simp only [Option.some.injEq,Prod.mk.injEq] at h
  rw [← h.2]
section
variable {L:List TokS} {tb cap pb:Nat} {h:Hp} {st:PS}
def StmtQ (L:List TokS) (tb cap pb:Nat) (h:Hp) (lo:Nat) (s:StmtS) (t:PS) (v:Value) (h':Hp):Prop:=∃ b,v=ptrC b∧StmtAt h' lo b s∧ParAt L tb cap pb h' t∧OffP pb h h'
theorem ends_upS {B:Hp} {lo b:Nat} {e:StmtS} {u t:PS} (p:ParAt L tb cap pb B u) (o:OffP pb h B) (he:StmtAt B lo b e) (hd:∀ i c,B.m i=some c→i < B.n) (hpl:pb < lo) (hlo:h.n≤lo) (hup:u.up=some t):∃ Q',GF Tryd.prog 42∧EXD Tryd.prog 42 [ptrC pb] B Q'∧∀ B'',Q' B''→Sat Tryd.prog B''→B.n≤B''.n→StmtQ L tb cap pb h h.n e t (ptrC b) B'' :=
 ⟨_,inferInstance,up_exd p hup,fun _ ⟨p2,o2⟩ _ _=>⟨b,rfl,he.up (o2.upto hd hpl) hlo,p2,o.trans o2⟩⟩
structure NowS (L:List TokS) (tb cap pb:Nat) (h B:Hp) (st:PS) (sb:Nat) (c:Blk):Prop where
 q:Now L tb cap pb h B st
 s:B.m sb=some c
 lo:h.n≤sb
 ne:pb < sb
 tn:tb≠sb
variable {B B1 H1:Hp} {sb:Nat} {c:Blk} {st':PS}
theorem NowS.step {P:Program} {π:Nat→Nat} {k:Nat} {l:List (Nat × Option Blk)} (w:NowS L tb cap pb h B st sb c) (a:Absb (P:=P) ⟨B,π,k,l⟩ B1) (p':ParAt L tb cap pb H1 st') (d:∀ i c,H1.m i=some c→i < H1.n) (o':OffP pb B1 H1):NowS L tb cap pb h H1 st' sb c :=
 ⟨⟨p',d,(w.q.o.abs a).trans o'⟩,o'.keep (a.up _ _ w.s) (a.dom _ _ (a.up _ _ w.s)) (Nat.ne_of_gt w.ne),w.lo,w.ne,w.tn⟩
theorem NowS.write (w:NowS L tb cap pb h B st sb c) (c':Blk):NowS L tb cap pb h (B.set sb c') st sb c' :=
 ⟨w.q.other c' w.lo w.ne w.tn (w.q.d _ _ w.s),(by show (if sb=sb then _ else _)=_;rw [if_pos rfl]),w.lo,w.ne,w.tn⟩
theorem cut_set_up {P:Program} {H B7:Hp} {n k k':Nat} {π:Nat→Nat} {l l':List (Nat × Option Blk)} (hd:(⟨cutH H n,π,k,l⟩:SH).den=H) (a:Absb (P:=P) ⟨(cutH H n).set sb c,π,k',l'⟩ B7) (hk:k≤k') (hl:∀ j,j < k→lookB l' j=lookB l j):∀ i c',i≠sb→H.m i=some c'→B7.m i=some c':=by
 intro i c' hne hc
 rw [← hd] at hc
 simp only [SH.den] at hc
 by_cases hi:i < (cutH H n).n
 ·rw [if_pos hi] at hc
  rw [a.old i hi]
  show (if i=sb then some c else (cutH H n).m i)=_
  rw [if_neg hne];exact hc
 ·rw [if_neg hi] at hc
  cases hx:idx π k i with
  | none=>rw [hx] at hc;cases hc
  | some j =>
   rw [hx] at hc
   obtain ⟨g1,g2⟩:=idx_some hx
   rw [← g2,a.loc j (Nat.lt_of_lt_of_le g1 hk),hl j g1];exact hc
theorem NowS.cutset {P:Program} {H B7:Hp} {n k k':Nat} {π:Nat→Nat} {l l':List (Nat × Option Blk)} {c0:Blk} (w:NowS L tb cap pb h H st sb c0) (hd:(⟨cutH H n,π,k,l⟩:SH).den=H) (a:Absb (P:=P) ⟨(cutH H n).set sb c,π,k',l'⟩ B7) (hk:k≤k') (hl:∀ j,j < k→lookB l' j=lookB l j) (hn:h.n≤n) (hsn:sb < n):NowS L tb cap pb h B7 st sb c:=by
 refine ⟨⟨⟨cut_set_up hd a hk hl _ _ w.tn w.q.p.tok,cut_set_up hd a hk hl _ _ (Nat.ne_of_lt w.ne) w.q.p.par,w.q.p.fits,w.q.p.rw,w.q.p.ne⟩,a.dom,Nat.le_trans hn a.le,fun i hi hne=>?_⟩,?_,w.lo,w.ne,w.tn⟩
 ·rw [a.old i (Nat.lt_of_lt_of_le hi hn),← w.q.o.2 i hi hne]
  show (if i=sb then some c else if i < n then H.m i else none)=_
  rw [if_neg (Nat.ne_of_lt (Nat.lt_of_lt_of_le hi w.lo)),if_pos (Nat.lt_of_lt_of_le hi hn)]
 ·rw [a.old sb hsn]
  show (if sb=sb then some c else _)=_
  rw [if_pos rfl]
theorem set_upto {H:Hp} {lo:Nat} (hlt:sb < lo):Upto lo H (H.set sb c):=fun i hi b hb=>by
 show (if i=sb then some c else H.m i)=some b
 rw [if_neg (Nat.ne_of_gt (Nat.lt_of_lt_of_le hlt hi))];exact hb
end
section
variable {L:List TokS} {tb cap pb:Nat} {h:Hp} {st:PS}
set_option maxHeartbeats 4000000 in
theorem stmt_ok (hL:ToksOK L):∀ (n:Nat) (st:PS) (s:StmtS) (t:PS),parseS (tokN L) n st=some (s,t)→∀ tb cap pb h,ParAt L tb cap pb h st→EX Tryd.prog 40 [ptrC pb] h (StmtQ L tb cap pb h h.n s t):=by
 intro n
 induction n with
 | zero=>intro st s t hs;rw [parseS] at hs;cases hs
 | succ n ih =>
 intro st s t hs tb cap pb h p
 rw [parseS] at hs
 obtain ⟨u1,h1,hs⟩:=bind_some' hs
 obtain ⟨u2,h2,hs⟩:=bind_some' hs
 refine EX.introD (fn:=Tryd.f40) (c:=(Tryd.f40.body.getD .skip)) Tryd.func40 (by kernel_rfl) Tryd.ntmps40 (by kernel_rfl) fun π s0=>?_
 conv=>arg 3;whnf
 have hpb:=s0.dom _ _ p.par
 have q:Now L tb cap pb h h st:=⟨p,s0.dom,OffP.refl pb h⟩
 refine WD.plain fun inst _=>?_
 repeat (first|refine Ys ?_|refine Y0 ?_|refine Y1 ?_)
 refine thenD_n ?_
 refine WD.plain fun inst _=>?_
 repeat (first|refine Yt ?_|refine Y1i ?_|refine Y2p ?_|refine Yi ?_|refine Y0 ?_|refine Y1 ?_)
 refine thenD_n ?_
 refine WD.plain fun inst _=>?_
 refine W.absorbX fun G π0 a0=>?_
 have w:NowS L tb cap pb h G st (π 0) ⟨⟨stmtC 0 (st.tok (tokN L)).pos zeroDecl none 0 (.pointer none) none 0 0⟩,49⟩:=⟨⟨(q.ends a0).1,a0.dom,(q.ends a0).2⟩,a0.loc 0 (Nat.lt_succ_self 0),a0.lo 0 (Nat.lt_succ_self 0),Nat.lt_of_lt_of_le hpb (a0.lo 0 (Nat.lt_succ_self 0)),fun e=>by have h1:h.n≤π 0:=a0.lo 0 (Nat.lt_succ_self 0);have h2:=s0.dom _ _ p.tok;omega⟩
 generalize π 0=sb at *
 repeat (first|((with_reducible apply (RS.callEx (g0:=41)));(iterate 3 exact rfl);intro B1 hB1;refine ⟨_,node_ex hL (w.q.p.absd w.q.d hB1) h1,?_⟩;rintro v H1 π1 ⟨rfl,p',o'⟩ sp' hle1;have w:=w.step hB1 p' sp'.dom o')|refine Yq ?_|refine Y0 ?_|refine Y1 ?_)
 refine thenD_n ?_
 refine WD.seq (WD.moveDefer (by kernel_rfl) rfl rfl ?_)
 refine thenD_n ?_
 refine WD.lift fun inst _=>?_
 by_cases hf:u2.fk=0
 case neg =>
  rw [if_pos hf] at hs
  obtain ⟨u,hr,hup⟩:=upS_iff hs
  simp only [Option.some.injEq,Prod.mk.injEq] at hr
  obtain ⟨rfl,rfl⟩:=hr
  repeat (first|((with_reducible apply (RS.callEx (g0:=43)));(iterate 3 exact rfl);intro B2 hB2;refine ⟨_,down_exb hL (w.q.p.absd w.q.d hB2) h2 (decide_eq_false hf),?_⟩;rintro v H2 π2 ⟨rfl,p',o'⟩ sp2 hle2;have w:=w.step hB2 p' sp2.dom o')|refine Y11 ?_|refine Y0 ?_|refine Yy ?_|refine Y1 ?_|refine Y5 ?_)
  refine ⟨.inl rfl,[_],.cons rfl .nil,fun B' a=>?_⟩
  exact ends_upS (w.q.ends a).1 (w.q.ends a).2 (.mk (ps:=[]) (kids:=[]) w.lo (a.up _ _ w.s) (.inl ⟨rfl,rfl⟩) rfl (.inl ⟨rfl,rfl⟩) rfl (fun i p k h=>by simp at h)) a.dom hpb (Nat.le_refl _) hup
 rw [if_neg (fun hc=>hc hf)] at hs
 obtain ⟨u,hr,hup⟩:=upS_iff hs
 clear hs
 have hsw:rwM≤sb:=Nat.le_trans a0.rw w.lo
 split at hr
 ·cases hr
 rename_i i1'
 have i1:u2.is (tokN L) (b1 59)=false:=by simpa using i1'
 obtain ⟨⟨b3,u3⟩,h3,hq⟩:=bind_some' hr
 clear hr
 have hr:=hq
 clear hq
 dsimp only at hr
 cases b3 with
 | false =>
  obtain ⟨e3,i2⟩:=takeF_iff h3 hf
  subst e3
  rw [if_pos rfl] at hr
  unfold retS at hr
  split at hr
  ·cases hr
  rename_i hno
  simp only [noWords,List.any_cons,List.any_nil,Bool.or_false,Bool.or_eq_true,not_or,Bool.not_eq_true] at hno
  obtain ⟨i3,i4,i5,i6,i7,i8,i9⟩:=hno
  obtain ⟨⟨b4,u4⟩,h4,hq⟩:=bind_some' hr
  clear hr
  have hr:=hq
  clear hq
  dsimp only at hr
  split at hr
  ·cases hr
  rename_i hb
  obtain ⟨hb4,ib⟩:b4=true∧u4.is (tokN L) (b1 59)=false:=by
   refine ⟨?_,?_⟩
   ·cases b4 with
    | true=>rfl
    | false=>exact absurd (.inl rfl) hb
   ·cases hc:u4.is (tokN L) (b1 59) with
    | false=>rfl
    | true=>exact absurd (.inr hc) hb
  subst hb4
  obtain ⟨⟨e5,u5⟩,h5,hq⟩:=bind_some' hr
  clear hr
  have hr:=hq
  clear hq
  obtain ⟨u6,h6,hq⟩:=bind_some' hr
  clear hr
  have hr:=hq
  clear hq
  simp only [Option.some.injEq,Prod.mk.injEq] at hr
  obtain ⟨rfl,rfl⟩:=hr
  repeat (first|((with_reducible apply (RS.callEx (g0:=43)));(iterate 3 exact rfl);intro B2 hB2;refine ⟨_,down_exb hL (w.q.p.absd w.q.d hB2) h2 (decide_eq_true hf),?_⟩;rintro v H2 π2 ⟨rfl,p',o'⟩ sp2 hle2;have w:=w.step hB2 p' sp2.dom o')|((with_reducible apply (RS.callA (g0:=24)));(iterate 3 exact rfl);first|exact fun B' hB'=>takeN_tf hL (w.q.p.absd w.q.d hB') _ i1|exact fun B' hB'=>takeN_tf hL (w.q.p.absd w.q.d hB') _ i2|exact fun B' hB'=>takeN_tf hL (w.q.p.absd w.q.d hB') _ i3|exact fun B' hB'=>takeN_tf hL (w.q.p.absd w.q.d hB') _ i4|exact fun B' hB'=>takeN_tf hL (w.q.p.absd w.q.d hB') _ i5|exact fun B' hB'=>takeN_tf hL (w.q.p.absd w.q.d hB') _ i6|exact fun B' hB'=>takeN_tf hL (w.q.p.absd w.q.d hB') _ i7|exact fun B' hB'=>takeN_tf hL (w.q.p.absd w.q.d hB') _ i8|exact fun B' hB'=>takeN_tf hL (w.q.p.absd w.q.d hB') _ i9)|((with_reducible apply (RS.callEx (g0:=24)));(iterate 3 exact rfl);intro B4 hB4;refine ⟨_,take_ex hL (w.q.p.absd w.q.d hB4) _ h4,?_⟩;rintro v H4 π4 ⟨rfl,p4,o4⟩ sp4 hle4;have w:=w.step hB4 p4 sp4.dom o4)|((with_reducible apply (RS.callA (g0:=18)));(iterate 3 exact rfl);exact fun B' hB'=>is_tf hL (w.q.p.absd w.q.d hB') _ ib)|((with_reducible apply (RS.storeB (cs':=stmtC 11 (st.tok (tokN L)).pos zeroDecl none 0 (.pointer none) none 0 0)));(iterate 3 exact rfl);exact w.s;exact w.q.d _ _ w.s;exact hsw;exact Nat.le_of_ble_eq_true rfl;(iterate 3 exact rfl);(have w:=w.write ⟨⟨stmtC 11 (st.tok (tokN L)).pos zeroDecl none 0 (.pointer none) none 0 0⟩,49⟩))|((with_reducible apply (RS.callEx (g0:=54)));(iterate 3 exact rfl);intro B5 hB5;have hsb5:sb < B5.n:=hB5.dom _ _ (hB5.up _ _ w.s);have hlo5:h.n≤B5.n:=Nat.le_trans w.lo (Nat.le_of_lt hsb5);refine ⟨_,full_ex hL (w.q.p.absd w.q.d hB5) h5,?_⟩;rintro v H5 π5 ⟨b5,rfl,he5,p5,o5⟩ sp5 hle5;have w:=w.step hB5 p5 sp5.dom o5)|((with_reducible apply (RS.storeB (cs':=stmtC 11 (st.tok (tokN L)).pos zeroDecl none 0 (ptrC b5) none 0 0)));(iterate 3 exact rfl);exact w.s;exact w.q.d _ _ w.s;exact hsw;exact Nat.le_of_ble_eq_true rfl;(iterate 3 exact rfl);(have w:=w.write ⟨⟨stmtC 11 (st.tok (tokN L)).pos zeroDecl none 0 (ptrC b5) none 0 0⟩,49⟩);(have he5:=he5.up (set_upto (c:=⟨⟨stmtC 11 (st.tok (tokN L)).pos zeroDecl none 0 (ptrC b5) none 0 0⟩,49⟩) hsb5) (Nat.le_refl _)))|((with_reducible apply (RS.callEx (g0:=26)));(iterate 3 exact rfl);intro B6 hB6;refine ⟨_,want_ex hL (w.q.p.absd w.q.d hB6) _ h6,?_⟩;rintro v H6 π6 ⟨rfl,p6,o6⟩ sp6 hle6;have he5:=he5.up ((((OffP.refl pb _).abs hB6).trans o6).upto w.q.d (Nat.lt_trans w.ne hsb5)) (Nat.le_refl _);have w:=w.step hB6 p6 sp6.dom o6)|refine Y14 ?_|refine Y0 ?_|refine Y1c ?_|refine Y1 ?_|refine Y5 ?_|refine Y3 ?_)
  refine ⟨.inl rfl,[_],.cons rfl .nil,fun B' a=>?_⟩
  exact ends_upS (w.q.ends a).1 (w.q.ends a).2 (.mk (ps:=[]) (kids:=[]) (e:=some e5) w.lo (a.up _ _ w.s) (.inl ⟨rfl,rfl⟩) ⟨b5,rfl,he5.up (fun i _ c hc=>a.up i c hc) hlo5⟩ (.inl ⟨rfl,rfl⟩) rfl (fun i p k h=>by simp at h)) a.dom hpb (Nat.le_refl _) hup
 | true =>
  rw [if_neg (by decide)] at hr
  obtain ⟨⟨b4,u4⟩,h4,hq⟩:=bind_some' hr
  clear hr
  have hr:=hq
  clear hq
  dsimp only at hr
  have hf3:u3.fk=0:=(take_fk h3).trans hf
  cases b4 with
  | true =>
   rw [if_pos rfl] at hr
   simp only [Option.some.injEq,Prod.mk.injEq] at hr
   obtain ⟨rfl,rfl⟩:=hr
   repeat (first|((with_reducible apply (RS.callEx (g0:=43)));(iterate 3 exact rfl);intro B2 hB2;refine ⟨_,down_exb hL (w.q.p.absd w.q.d hB2) h2 (decide_eq_true hf),?_⟩;rintro v H2 π2 ⟨rfl,p',o'⟩ sp2 hle2;have w:=w.step hB2 p' sp2.dom o')|refine Y2x ?_|((with_reducible apply (RS.callEx (g0:=24)));(iterate 3 exact rfl);intro B3 hB3;refine ⟨_,take_ex hL (w.q.p.absd w.q.d hB3) _ h3,?_⟩;rintro v H3 π3 ⟨rfl,p3,o3⟩ sp3 hle3;have w:=w.step hB3 p3 sp3.dom o3)|((with_reducible apply (RS.storeB (cs':=stmtC 3 (st.tok (tokN L)).pos zeroDecl none 0 (.pointer none) none 0 0)));(iterate 3 exact rfl);exact w.s;exact w.q.d _ _ w.s;exact hsw;exact Nat.le_of_ble_eq_true rfl;(iterate 3 exact rfl);(have w:=w.write ⟨⟨stmtC 3 (st.tok (tokN L)).pos zeroDecl none 0 (.pointer none) none 0 0⟩,49⟩))|refine Y2m ?_|((with_reducible apply (RS.callEx (g0:=24)));(iterate 3 exact rfl);intro B4 hB4;refine ⟨_,take_ex hL (w.q.p.absd w.q.d hB4) _ h4,?_⟩;rintro v H4 π4 ⟨rfl,p4,o4⟩ sp4 hle4;have w:=w.step hB4 p4 sp4.dom o4)|((with_reducible apply (W.rounds 2)))|refine Y1w ?_|refine Y2n ?_|refine Y14 ?_|refine Yb ?_|refine Y0 ?_|refine Y19 ?_|refine Y1 ?_|refine Y5 ?_|refine Y3 ?_|refine Yf ?_)
   refine ⟨.inl rfl,[_],.cons rfl .nil,fun B' a=>?_⟩
   exact ends_upS (w.q.ends a).1 (w.q.ends a).2 (.mk (ps:=[]) (kids:=[]) w.lo (a.up _ _ w.s) (.inl ⟨rfl,rfl⟩) rfl (.inl ⟨rfl,rfl⟩) rfl (fun i p k h=>by simp at h)) a.dom hpb (Nat.le_refl _) hup
  | false =>
   obtain ⟨e4,i2⟩:=takeF_iff h4 hf3
   subst e4
   rw [if_neg (by decide)] at hr
   obtain ⟨⟨s1,u5⟩,h5,hq⟩:=bind_some' hr
   clear hr
   have hr:=hq
   clear hq
   dsimp only at hr
   repeat (first|((with_reducible apply (RS.callEx (g0:=43)));(iterate 3 exact rfl);intro B2 hB2;refine ⟨_,down_exb hL (w.q.p.absd w.q.d hB2) h2 (decide_eq_true hf),?_⟩;rintro v H2 π2 ⟨rfl,p',o'⟩ sp2 hle2;have w:=w.step hB2 p' sp2.dom o')|refine Y2x ?_|((with_reducible apply (RS.callEx (g0:=24)));(iterate 3 exact rfl);intro B3 hB3;refine ⟨_,take_ex hL (w.q.p.absd w.q.d hB3) _ h3,?_⟩;rintro v H3 π3 ⟨rfl,p3,o3⟩ sp3 hle3;have w:=w.step hB3 p3 sp3.dom o3)|((with_reducible apply (RS.storeB (cs':=stmtC 3 (st.tok (tokN L)).pos zeroDecl none 0 (.pointer none) none 0 0)));(iterate 3 exact rfl);exact w.s;exact w.q.d _ _ w.s;exact hsw;exact Nat.le_of_ble_eq_true rfl;(iterate 3 exact rfl);(have w:=w.write ⟨⟨stmtC 3 (st.tok (tokN L)).pos zeroDecl none 0 (.pointer none) none 0 0⟩,49⟩))|refine Y2m ?_|((with_reducible apply (W.rounds 2)))|refine Y1w ?_|((with_reducible apply (RS.callA (g0:=24)));(iterate 3 exact rfl);exact fun B' hB'=>takeN_tf hL (w.q.p.absd w.q.d hB') _ i2)|((with_reducible apply RS.load1X);(iterate 3 exact rfl);exact w.s;exact w.q.d _ _ w.s;exact rfl)|((with_reducible apply (RS.callYE (g0:=40) (fun id=>id == pb)));(iterate 3 exact rfl);intro B4 he4 hB4;have hsb4:sb < B4.n:=hB4.dom _ _ (hB4.up _ _ w.s);have hlo4:h.n≤B4.n:=Nat.le_trans w.lo (Nat.le_of_lt hsb4);have hpb4:pb < B4.n:=Nat.lt_trans w.ne hsb4;refine ⟨_,ih _ _ _ h5 _ _ _ _ (w.q.p.absd w.q.d hB4),(fun v H' hq i hi hei=>by obtain ⟨b,_,_,_,o5⟩:=hq;exact o5.2 i (Nat.lt_of_lt_of_le hi hB4.le) (by simpa using hei)),?_⟩;rintro v H5 k5 l5 ⟨b5,rfl,hs5,p5,o5⟩ s5 hle5 hm5 hden5 hwf5 hk5;have hsn:=w.q.d _ _ w.s;have w:=w.step hB4 p5 s5.dom o5)|refine Yh ?_|refine Y17 ?_|((with_reducible apply (RS.storeB (cs':=stmtC 3 (st.tok (tokN L)).pos zeroDecl none 0 (.pointer none) (some ⟨π3 (k5+1),0,none⟩) 1 (capOf 1))));(iterate 3 exact rfl);exact ((if_pos hsn).trans w.s);exact hsn;exact hsw;exact Nat.le_of_ble_eq_true rfl;iterate 3 exact rfl)|((with_reducible apply (RS.nilPX mixed [(0,1),(0,2),(0,3),(0,4),(4,5),(3,5),(2,5),(1,5),(0,5),(4,6),(3,6),(2,6),(1,6),(0,6),(4,7),(3,7),(2,7),(1,7),(0,7),(0,8)]));kernel_rfl;(repeat (refine ⟨fun x y hx hy=>(by obtain rfl:=Option.some.inj hx;obtain rfl:=Option.some.inj hy;exact pairR_free rfl rfl rfl rfl rfl rfl rfl (Nat.zero_le _) rfl),?_⟩));exact trivial;exact sideOK_all (j:=pb) (b:=sb) (Nat.ne_of_lt w.ne) (by repeat' (first|exact trivial|exact .inl rfl|exact .inr rfl|apply And.intro)))|refine Y14 ?_|refine Yb ?_|refine Y0 ?_|refine Yx ?_|refine Y1 ?_|refine Y5 ?_|refine Y3 ?_)
   refine roundR_n ?_
   refine WR.step ?_
   refine W.absorbX fun B7 π7 a7=>?_
   have hlk:∀ (x y:Option Blk) (j:Nat),j < k5→lookB ((k5+1,x)::(k5,y)::l5) j=lookB l5 j:=fun x y j hj=>by rw [look_cons,look_cons,if_neg (Nat.ne_of_gt (Nat.lt_succ_of_lt hj)),if_neg (Nat.ne_of_gt hj)]
   have hns:=Nat.le_of_lt (Nat.lt_of_le_of_lt w.lo hsn)
   have hs5:=hs5.up (fun i hi c hc=>cut_set_up hden5 a7 (Nat.le_add_right k5 2) (hlk _ _) i c (Nat.ne_of_gt (Nat.lt_of_lt_of_le hsb4 hi)) hc) (Nat.le_refl _)
   have w:=w.cutset hden5 a7 (Nat.le_add_right k5 2) (hlk _ _) hns hsn
   have hrow:B7.m (π3 (k5+1))=some ⟨⟨[ptrC b5]⟩,51⟩:=(a7.loc (k5+1) (Nat.lt_succ_self _)).trans ((look_cons _ _ _).trans (if_pos rfl))
   have hkbl:h.n≤π3 (k5+1):=Nat.le_trans hns (a7.lo (k5+1) (Nat.lt_succ_self _))
   have hrne:π3 (k5+1)≠pb:=Nat.ne_of_gt (Nat.lt_of_lt_of_le hpb hkbl)
   by_cases hf5:u5.fk=0
   ·rw [if_neg (fun hc=>hc hf5)] at hr
    obtain ⟨⟨b6,u6⟩,h6,hq⟩:=bind_some' hr
    clear hr
    have hr:=hq
    clear hq
    dsimp only at hr
    cases b6 with
    | false=>cases hr
    | true =>
     rw [if_pos rfl] at hr
     simp only [Option.some.injEq,Prod.mk.injEq] at hr
     obtain ⟨rfl,rfl⟩:=hr
     repeat (first|refine Y2n ?_|((with_reducible apply (RS.callA (g0:=10)));(iterate 3 exact rfl);exact fun B' hB'=>ok_tf (w.q.p.absd w.q.d hB') (decide_eq_true hf5))|((with_reducible apply (RS.callEx (g0:=24)));(iterate 3 exact rfl);intro B6 hB6;refine ⟨_,take_ex hL (w.q.p.absd w.q.d hB6) _ h6,?_⟩;rintro v H6 π6 ⟨rfl,p6,o6⟩ sp6 hle6;have oo:=((OffP.refl pb _).abs hB6).trans o6;have hs5:=hs5.up (oo.upto a7.dom hpb4) (Nat.le_refl _);have hrow:=oo.keep hrow (a7.dom _ _ hrow) hrne;have w:=w.step hB6 p6 sp6.dom o6)|refine Y11 ?_|refine Yb ?_|refine Y0 ?_|refine Y36 ?_|refine Y1 ?_|refine Y3 ?_|refine Yf ?_)
     refine ⟨.inl rfl,[_],.cons rfl .nil,fun B' a=>?_⟩
     exact ends_upS (w.q.ends a).1 (w.q.ends a).2 (.mk (ps:=[b5]) (kids:=[s1]) w.lo (a.up _ _ w.s) (.inl ⟨rfl,rfl⟩) rfl (.inr ⟨_,rfl,hkbl,a.up _ _ hrow⟩) rfl (fun i p k hp hk=>by cases i with|zero=>(simp at hp hk;subst hp;subst hk;exact hs5.up (fun i _ c hc=>a.up i c hc) hlo4)|succ i=>simp at hp)) a.dom hpb (Nat.le_refl _) hup
   ·rw [if_pos hf5] at hr
    simp only [Option.some.injEq,Prod.mk.injEq] at hr
    obtain ⟨rfl,rfl⟩:=hr
    repeat (first|refine Y2n ?_|((with_reducible apply (RS.callA (g0:=10)));(iterate 3 exact rfl);exact fun B' hB'=>ok_tf (w.q.p.absd w.q.d hB') (decide_eq_false hf5))|refine Y4 ?_|refine Yd ?_|refine Yn ?_|refine Y0 ?_|refine Y36 ?_|refine Y1 ?_|refine Y3 ?_|refine Yf ?_)
    refine ⟨.inl rfl,[_],.cons rfl .nil,fun B' a=>?_⟩
    exact ends_upS (w.q.ends a).1 (w.q.ends a).2 (.mk (ps:=[b5]) (kids:=[s1]) w.lo (a.up _ _ w.s) (.inl ⟨rfl,rfl⟩) rfl (.inr ⟨_,rfl,hkbl,a.up _ _ hrow⟩) rfl (fun i p k hp hk=>by cases i with|zero=>(simp at hp hk;subst hp;subst hk;exact hs5.up (fun i _ c hc=>a.up i c hc) hlo4)|succ i=>simp at hp)) a.dom hpb (Nat.le_refl _) hup
end
end Go.Proofs.YtbmmchaaiakanaaDoor
