/-
  What the functions that the law reaches compute,told by plain data;it holds of programs that pass the check of right form and are light.
-/
import Derived.Test.YtgpigfcagppohaaGreatDoorR21
import Derived.Test.YtgpigfcagppohaaGreatDoorS3
set_option linter.unusedVariables false
set_option linter.unusedSimpArgs false
namespace Go.Proofs.YtgpigfcagppohaaGreatDoor
open Go.AH
attribute [local irreducible] W RS WR
theorem two_at {B:Hp} {lo b kb op pos:Nat} {text:ByteArray} {p1 p2:Nat} {e1 e2:ExprS} {c:Nat} (h0:lo≤b) (hm:B.m b=some ⟨⟨exprC op pos text zeroTok zeroType none 0 (some ⟨kb,0,none⟩) 2 c⟩,232⟩) (hk:B.m kb=some ⟨⟨[ptrC p1,ptrC p2]⟩,181⟩) (hkl:lo≤kb) (h1:ExprAt B lo p1 e1) (h2:ExprAt B lo p2 e2):ExprAt B lo b (.mk op pos text zeroTok zeroType [e1,e2]) :=
 .mk (ps:=[p1,p2]) h0 hm (.inl ⟨rfl,rfl⟩) (.inr ⟨kb,rfl,hkl,hk⟩) rfl (fun i p k hp hk=>by
  match i,hp,hk with
  | 0,hp,hk=>simp at hp hk;subst hp;subst hk;exact h1
  | 1,hp,hk=>simp at hp hk;subst hp;subst hk;exact h2
  | i+2,hp,hk=>simp at hp)
theorem one_at {B:Hp} {lo b kb op pos:Nat} {text:ByteArray} {p1:Nat} {e1:ExprS} {c:Nat} (h0:lo≤b) (hm:B.m b=some ⟨⟨exprC op pos text zeroTok zeroType none 0 (some ⟨kb,0,none⟩) 1 c⟩,232⟩) (hk:B.m kb=some ⟨⟨[ptrC p1]⟩,181⟩) (hkl:lo≤kb) (h1:ExprAt B lo p1 e1):ExprAt B lo b (.mk op pos text zeroTok zeroType [e1]) :=
 .mk (ps:=[p1]) h0 hm (.inl ⟨rfl,rfl⟩) (.inr ⟨kb,rfl,hkl,hk⟩) rfl (fun i p k hp hk=>by
  match i,hp,hk with
  | 0,hp,hk=>simp at hp hk;subst hp;subst hk;exact h1
  | i+1,hp,hk=>simp at hp)
theorem upE_iff {r:Option (ExprS × PS)} {e:ExprS} {t:PS} (h:upE r=some (e,t)):∃ u,r=some (e,u)∧u.up=some t:=by
 unfold upE at h
 obtain ⟨⟨e1,u⟩,h1,h⟩:=bind_some' h
 obtain ⟨u2,h2,h⟩:=bind_some' h
 simp only [Option.some.injEq,Prod.mk.injEq] at h
 obtain ⟨rfl,rfl⟩:=h
 exact ⟨u,h1,h2⟩
theorem three_at {B:Hp} {lo b kb op pos:Nat} {text:ByteArray} {p1 p2 p3:Nat} {e1 e2 e3:ExprS} {c:Nat} (h0:lo≤b) (hm:B.m b=some ⟨⟨exprC op pos text zeroTok zeroType none 0 (some ⟨kb,0,none⟩) 3 c⟩,232⟩) (hk:B.m kb=some ⟨⟨[ptrC p1,ptrC p2,ptrC p3]⟩,181⟩) (hkl:lo≤kb) (h1:ExprAt B lo p1 e1) (h2:ExprAt B lo p2 e2) (h3:ExprAt B lo p3 e3):ExprAt B lo b (.mk op pos text zeroTok zeroType [e1,e2,e3]) :=
 .mk (ps:=[p1,p2,p3]) h0 hm (.inl ⟨rfl,rfl⟩) (.inr ⟨kb,rfl,hkl,hk⟩) rfl (fun i p k hp hk=>by
  match i,hp,hk with
  | 0,hp,hk=>simp at hp hk;subst hp;subst hk;exact h1
  | 1,hp,hk=>simp at hp hk;subst hp;subst hk;exact h2
  | 2,hp,hk=>simp at hp hk;subst hp;subst hk;exact h3
  | i+3,hp,hk=>simp at hp)
theorem take_no {T:Nat→TokS} {st:PS} {s:ByteArray} (h:st.is T s=false):st.take T s=some (false,st):=by
 unfold PS.take
 rw [if_neg (fun hc=>by rw [h] at hc;exact absurd hc.2 (by decide))]
section
variable {L:List TokS} {tb cap pb:Nat} {h:Hp} {st:PS}
theorem par_set_eq (p:ParAt L tb cap pb h st):h.set pb (psB L tb cap st)=h:=Hp.eq (fun i=>by
 show (if i=pb then some (psB L tb cap st) else h.m i)=h.m i
 split
 ·rename_i e;rw [e,p.par];rfl
 ·rfl) rfl
theorem down_exb (hL:ToksOK L) (p:ParAt L tb cap pb h st) {t:PS} (ht:st.down (tokN L)=some t) {b:Bool} (hb:decide (t.fk=0)=b):EX Tryz.prog 114 [ptrC pb] h (StepQ L tb cap pb h (.bool b) t):=by
 rw [← hb];exact down_ex hL p ht
theorem ends_up {B:Hp} {lo b:Nat} {e:ExprS} {u t:PS} (p:ParAt L tb cap pb B u) (o:OffP pb h B) (he:ExprAt B lo b e) (hd:∀ i c,B.m i=some c→i < B.n) (hpl:pb < lo) (hlo:h.n≤lo) (hup:u.up=some t):∃ Q',GF Tryz.prog 113∧EXD Tryz.prog 113 [ptrC pb] B Q'∧∀ B'',Q' B''→Sat Tryz.prog B''→B.n≤B''.n→ExprQ L tb cap pb h h.n e t (ptrC b) B'' :=
 ⟨_,inferInstance,up_exd p hup,fun _ ⟨p2,o2⟩ _ _=>⟨b,rfl,he.keep hd o2 hpl hlo,p2,o.trans o2⟩⟩
theorem takeN_tf (hL:ToksOK L) (p:ParAt L tb cap pb h st) (s:ByteArray) (hn:st.is (tokN L) s=false):TF Tryz.prog 66 ⟨[ptrC pb,.string s]⟩ h (.bool false) h:=by
 have:=take_tf hL p s (take_no hn)
 rw [par_set_eq p] at this
 exact this
theorem takeY {T:Nat→TokS} {st t:PS} {s:ByteArray} (hf:st.fk=0) (h:st.is T s=true) (ha:st.adv=some t):st.take T s=some (true,t):=by
 unfold PS.take
 rw [if_pos ⟨hf,h⟩,ha];rfl
theorem postfix_ok (hL:ToksOK L) {n:Nat} (ih:IH L (n+1)) {e0 e:ExprS} {t:PS} (hs:parseE (tokN L) (n+1) (.post e0) st=some (e,t)):CtrE L (.post e0) st e t:=by
 intro tb cap pb h p b lo hpl hlo he
 refine EX.intro (fn:=Tryz.f193) (c:=(Tryz.f193.body.getD .skip)) Tryz.func193 (by kernel_rfl) Tryz.ntmps193 (by kernel_rfl) fun π s0=>?_
 conv=>arg 2;whnf
 have hpb:=s0.dom _ _ p.par
 have q:Now L tb cap pb h h st:=⟨p,s0.dom,OffP.refl pb h⟩
 ((with_reducible apply W.seq);repeat (first|refine Yw ?_|refine Y0 ?_|refine Y1 ?_|refine Ym ?_))
 with_reducible apply W.seq
 with_reducible apply W.block
 refine W.loopN (X:=Nat × ExprS × PS × Nat) (fun x=>[(0,ptrC pb),(1,ptrC x.2.2.2)]) (fun x B=>ParAt L tb cap pb B x.2.2.1∧OffP pb h B∧ExprAt B lo x.2.2.2 x.2.1∧x.1≤n+1∧parseE (tokN L) x.1 (.post x.2.1) x.2.2.1=some (e,t)) (fun x=>x.1)
  (fun B' a=>⟨(n+1,e0,st,b),?_,(q.ends a).1,(q.ends a).2,he.keep s0.dom ((OffP.refl pb _).abs a) hpl (Nat.le_refl _),Nat.le_refl _,hs⟩) ?_
 ·(repeat' (first|exact trivial|exact rfl|apply And.intro));done
 clear hs he q
 rintro ⟨m,e',st',b'⟩ B π0 sB ⟨p,o,he,hm,hs⟩
 dsimp only at p o he hm hs ⊢
 have q:Now L tb cap pb h B st':=⟨p,sB.dom,o⟩
 cases m with
 | zero=>rw [parseE] at hs;cases hs
 | succ m =>
  rw [parseE] at hs
  by_cases hf:st'.fk=0
  ·rw [if_neg (fun hc=>hc hf)] at hs
   ((with_reducible apply W.seq);repeat (fail))
   ((with_reducible apply W.seq);repeat (first|refine Y4y ?_|refine Y11 ?_|refine Y0 ?_|refine Y1 ?_|refine Y6o ?_|refine Y5 ?_))
   ((with_reducible apply W.seq);repeat (first|refine Y14 ?_|refine Y11 ?_|refine Y2 ?_|refine Y9 ?_|refine Y0 ?_|refine Y1 ?_|refine Y24 ?_))
   refine W.absorbX fun G π5 a0=>?_
   have hT:G.m (π0 0)=some ⟨⟨tokC (st'.tok (tokN L))⟩,102⟩:=a0.loc 0 (Nat.lt_succ_self 0)
   have tn:=a0.dom _ _ hT
   have tne:π0 0≠pb:=fun e=>by have h1:B.n≤π0 0:=a0.lo 0 (Nat.lt_succ_self 0);have h2:=sB.dom _ _ p.par;omega
   have he:=he.keep sB.dom ((OffP.refl pb _).abs a0) hpl (Nat.le_refl _)
   have o0:OffP pb h G:=q.o.abs a0
   have hGn:lo≤G.n:=Nat.le_trans hlo o0.1
   have q:Now L tb cap pb G G st':=⟨(q.ends a0).1,a0.dom,OffP.refl pb G⟩
   generalize π0 0=tk at *
   cases i1:st'.is (tokN L) (b1 91) with
   | true =>
    rw [i1,if_pos rfl] at hs
    obtain ⟨u1,h1,hs⟩:=bind_some' hs
    obtain ⟨⟨a2,u2⟩,h2,hs⟩:=bind_some' hs
    obtain ⟨u3,h3,hs⟩:=bind_some' hs
    obtain ⟨⟨e4,u4⟩,h4,hs⟩:=bind_some' hs
    dsimp only at h2 h3 h4 hs
    have y1:=takeY hf i1 h1
    obtain ⟨hnode,rfl⟩:=exprS_iff h4
    repeat (first|((with_reducible apply (RS.callEx (g0:=66)));(iterate 3 exact rfl);intro B1 hB1;refine ⟨_,take_ex hL (q.p.absd q.d hB1) _ y1,?_⟩;rintro v H1 π1 ⟨rfl,p',o'⟩ sp1 hle1;have hp1:=sp1.dom _ _ p'.par;have q:Now L tb cap pb G H1 _:=⟨p',sp1.dom,(q.o.abs hB1).trans o'⟩)|((with_reducible apply (RS.callEx (g0:=149)));(iterate 3 exact rfl);intro B2 hB2;have hlo2:G.n≤B2.n:=Nat.le_trans q.o.1 hB2.le;have hpl2:pb < B2.n:=hB2.dom _ _ (q.p.absd q.d hB2).par;refine ⟨_,ih m (by omega) .full _ _ _ h2 _ _ _ _ (q.p.absd q.d hB2),?_⟩;rintro v H2 π2 ⟨b2,rfl,he2,p',o2⟩ sp2 hle2;have q:Now L tb cap pb G H2 _:=⟨p',sp2.dom,(q.o.abs hB2).trans o2⟩)|((with_reducible apply (RS.callEx (g0:=68)));(iterate 3 exact rfl);intro B3 hB3;refine ⟨_,want_ex hL (q.p.absd q.d hB3) _ h3,?_⟩;rintro v H3 π3 ⟨rfl,p',o'⟩ sp3 hle3;have he2:=he2.keep sp2.dom (((OffP.refl pb _).abs hB3).trans o') hpl2 (Nat.le_refl _);have q:Now L tb cap pb G H3 _:=⟨p',sp3.dom,(q.o.abs hB3).trans o'⟩)|refine Yx ?_|refine Yi ?_|((with_reducible apply (RS.callEx (g0:=152)));(iterate 3 exact rfl);intro B4 hB4;have hkb:B4.m (π3 0)=some ⟨⟨[ptrC b',ptrC b2]⟩,181⟩:=hB4.loc 0 (Nat.lt_succ_self 0);have hkl:H3.n≤π3 0:=hB4.lo 0 (Nat.lt_succ_self 0);refine ⟨_,expr_ex hL (q.p.absd q.d hB4) _ _ _ _ _ _ hnode,?_⟩;rintro v H4 π4 ⟨b4,rfl,hbn,hbm,p4,o4⟩ sp4 hle4;have hkb:=o4.keep hkb (hB4.dom _ _ hkb) (by have:=hB3.le;simp only at *;omega);have he2:=he2.keep sp3.dom (((OffP.refl pb _).abs hB4).trans o4) hpl2 (Nat.le_refl _);have q:Now L tb cap pb G H4 _:=⟨p4,sp4.dom,(q.o.abs hB4).trans o4⟩)|refine Yu ?_|refine Y0 ?_|(with_reducible first|apply W.seq|apply thenK_n|apply blockK_n)|refine Y1 ?_|refine Y5 ?_)
    refine roundN_n rfl fun B' a=>⟨(m,_,u4,b4),?_,⟨(q.ends a).1,o0.trans (q.ends a).2,(two_at (Nat.le_trans hGn (Nat.le_trans hlo2 (Nat.le_trans hle2 (Nat.le_trans hB3.le (Nat.le_trans hle3 (Nat.le_trans hB4.le hbn)))))) hbm hkb (Nat.le_trans hGn (Nat.le_trans hlo2 (Nat.le_trans hle2 (Nat.le_trans hB3.le (Nat.le_trans hle3 hkl))))) (he.keep a0.dom q.o hpl (Nat.le_refl _)) (he2.up (fun _ _ _ h=>h) (Nat.le_trans hGn hlo2))).keep sp4.dom ((OffP.refl pb _).abs a) hpl (Nat.le_refl _),by omega,hs⟩,Nat.lt_succ_self m⟩
    (repeat' (first|exact trivial|exact rfl|apply And.intro));done
   | false =>
    rw [i1,if_neg (by decide)] at hs
    split at hs
    ·cases hs
    rename_i hc
    simp only [Bool.or_eq_true,not_or,Bool.not_eq_true] at hc
    obtain ⟨⟨⟨i2,i3⟩,i4⟩,i5⟩:=hc
    cases i6:st'.is (tokN L) (b1 40) with
    | true =>
     rw [i6,if_pos rfl] at hs
     obtain ⟨u1,h1,hs⟩:=bind_some' hs
     dsimp only at hs
     split at hs
     ·cases hs
     rename_i j1
     have k1:u1.is (tokN L) (b1 41)=false:=by simpa using j1
     obtain ⟨⟨a2,u2⟩,h2,hs⟩:=bind_some' hs
     dsimp only at hs
     split at hs
     ·cases hs
     rename_i j2
     have f2:u2.fk=0:=Decidable.byContradiction fun hc=>j2 (.inl hc)
     have k2:u2.is (tokN L) (b1 41)=true:=by
      cases hk:u2.is (tokN L) (b1 41) with
      | true=>rfl
      | false=>exact absurd (.inr hk) j2
     obtain ⟨u3,h3,hs⟩:=bind_some' hs
     obtain ⟨⟨e4,u4⟩,h4,hs⟩:=bind_some' hs
     dsimp only at h4 hs
     have y1:=takeY hf i6 h1
     have y3:=takeY f2 k2 h3
     have f1:u1.fk=0:=by obtain ⟨ha,rfl⟩:=adv_iff h1;exact hf
     obtain ⟨hnode,rfl⟩:=exprS_iff h4
     repeat (first|refine Y4y ?_|refine Yx ?_|refine Yi ?_|refine Y5b ?_|refine Y5e ?_|((with_reducible apply (RS.callEx (g0:=66)));(iterate 3 exact rfl);intro B1 hB1;refine ⟨_,take_ex hL (q.p.absd q.d hB1) _ y1,?_⟩;rintro v H1 π1 ⟨rfl,p',o'⟩ sp1 hle1;have hp1:=sp1.dom _ _ p'.par;have q:Now L tb cap pb G H1 _:=⟨p',sp1.dom,(q.o.abs hB1).trans o'⟩)|((with_reducible apply (RS.callEx (g0:=149)));(iterate 3 exact rfl);intro B2 hB2;have hkr:B2.m (π1 0)=some ⟨⟨[ptrC b']⟩,181⟩:=hB2.loc 0 (Nat.le_of_ble_eq_true rfl);have hkn:π1 0≠pb:=Nat.ne_of_gt (Nat.lt_of_lt_of_le hp1 (hB2.lo 0 (Nat.le_of_ble_eq_true rfl)));have hlo2:G.n≤B2.n:=Nat.le_trans q.o.1 hB2.le;have hpl2:pb < B2.n:=hB2.dom _ _ (q.p.absd q.d hB2).par;refine ⟨_,ih m (by omega) .full _ _ _ h2 _ _ _ _ (q.p.absd q.d hB2),?_⟩;rintro v H2 π2 ⟨b2,rfl,he2,p',o2⟩ sp2 hle2;have hp2:=sp2.dom _ _ p'.par;have hkr:=o2.keep hkr (hB2.dom _ _ hkr) hkn;have q:Now L tb cap pb G H2 _:=⟨p',sp2.dom,(q.o.abs hB2).trans o2⟩)|((with_reducible apply (RS.appendFullG (j:=π1 0) (i:=0)));(iterate 6 exact rfl);exact hkr;exact q.d _ _ hkr;exact rfl;decide;(iterate 2 exact rfl);exact Nat.le_of_ble_eq_true rfl;decide;decide;decide)|((with_reducible apply (RS.callEx (g0:=66)));(iterate 3 exact rfl);intro B3 hB3;have hk2:B3.m (π2 1)=some ⟨⟨[ptrC b',ptrC b2]⟩,181⟩:=hB3.loc 1 (Nat.le_of_ble_eq_true rfl);have hkl:H2.n≤π2 1:=hB3.lo 1 (Nat.le_of_ble_eq_true rfl);have hkm:π2 1≠pb:=Nat.ne_of_gt (Nat.lt_of_lt_of_le hp2 hkl);refine ⟨_,take_ex hL (q.p.absd q.d hB3) _ y3,?_⟩;rintro v H3 π3 ⟨rfl,p',o'⟩ sp3 hle3;have hk2:=o'.keep hk2 (hB3.dom _ _ hk2) hkm;have he2:=he2.keep sp2.dom (((OffP.refl pb _).abs hB3).trans o') hpl2 (Nat.le_refl _);have q:Now L tb cap pb G H3 _:=⟨p',sp3.dom,(q.o.abs hB3).trans o'⟩)|((with_reducible apply (RS.callEx (g0:=152)));(iterate 3 exact rfl);intro B4 hB4;have hkb:=hB4.up _ _ hk2;refine ⟨_,expr_ex hL (q.p.absd q.d hB4) _ _ _ _ _ _ hnode,?_⟩;rintro v H4 π4 ⟨b4,rfl,hbn,hbm,p4,o4⟩ sp4 hle4;have hkb:=o4.keep hkb (hB4.dom _ _ hkb) hkm;have he2:=he2.keep sp3.dom (((OffP.refl pb _).abs hB4).trans o4) hpl2 (Nat.le_refl _);have q:Now L tb cap pb G H4 _:=⟨p4,sp4.dom,(q.o.abs hB4).trans o4⟩)|refine Y4e ?_|refine Y1l ?_|refine Y2z ?_|refine Y23 ?_|refine Y2o ?_|refine Yd ?_|refine Yc ?_|refine Y0 ?_|refine Y60 ?_|refine Y1 ?_|refine Y5 ?_|refine Y3 ?_|refine Yn ?_)
     refine roundN_n rfl fun B' a=>⟨(m,_,u4,b4),?_,⟨(q.ends a).1,o0.trans (q.ends a).2,(two_at (Nat.le_trans hGn (Nat.le_trans hlo2 (Nat.le_trans hle2 (Nat.le_trans hB3.le (Nat.le_trans hle3 (Nat.le_trans hB4.le hbn)))))) hbm hkb (Nat.le_trans hGn (Nat.le_trans hlo2 (Nat.le_trans hle2 hkl))) (he.keep a0.dom q.o hpl (Nat.le_refl _)) (he2.up (fun _ _ _ h=>h) (Nat.le_trans hGn hlo2))).keep sp4.dom ((OffP.refl pb _).abs a) hpl (Nat.le_refl _),by omega,hs⟩,Nat.lt_succ_self m⟩
     (repeat' (first|exact trivial|exact rfl|apply And.intro));done
    | false =>
     rw [i6,if_neg (by decide)] at hs
     simp only [Option.some.injEq,Prod.mk.injEq] at hs
     obtain ⟨rfl,rfl⟩:=hs
     repeat (first|refine Y5b ?_|refine Y5e ?_|refine Y7 ?_|refine Yc ?_|refine Y0 ?_|(with_reducible first|apply W.seq|apply W.ret|apply thenK_n|apply thenK_r|apply blockK_r|apply roundN_r)|refine Y1 ?_|refine Y3 ?_)
     exact endsK_ret _ (.cons (.tmp rfl) .nil) fun B' a=>⟨b',rfl,he.keep a0.dom ((OffP.refl pb _).abs a) hpl (Nat.le_refl _),(q.ends a).1,o0.trans (q.ends a).2⟩
  ·rw [if_pos hf] at hs
   simp only [Option.some.injEq,Prod.mk.injEq] at hs
   obtain ⟨rfl,rfl⟩:=hs
   repeat (first|refine Y5f ?_|refine Y7 ?_|refine Y0 ?_|refine Y1t ?_|refine Y1 ?_|refine Y3 ?_|refine Yn ?_)
   exact endsK_ret _ (.cons (.tmp rfl) .nil) fun B' a=>⟨b',rfl,he.keep sB.dom ((OffP.refl pb _).abs a) hpl (Nat.le_refl _),(q.ends a).1,(q.ends a).2⟩
theorem choice_ok (hL:ToksOK L) {n:Nat} (ih:IH L (n+1)) {e:ExprS} {t:PS} (hs:parseE (tokN L) (n+1) .choice st=some (e,t)):CtrE L .choice st e t:=by
 intro tb cap pb h p
 rw [parseE] at hs
 obtain ⟨⟨e1,u1⟩,h1,hs⟩:=bind_some' hs
 obtain ⟨⟨b2,u2⟩,h2,hs⟩:=bind_some' hs
 dsimp only at h2 hs
 show EX _ _ _ _ _
 refine EX.introD (fn:=Tryz.f115) (c:=(Tryz.f115.body.getD .skip)) Tryz.func115 (by kernel_rfl) Tryz.ntmps115 (by kernel_rfl) fun π s0=>?_
 conv=>arg 3;whnf
 have q:Now L tb cap pb h h st:=⟨p,s0.dom,OffP.refl pb h⟩
 refine WD.plain fun inst _=>?_
 repeat (first|refine Yw ?_|refine Y0 ?_|refine Y1 ?_)
 refine thenD_n ?_
 refine WD.plain fun inst _=>?_
 repeat (first|((with_reducible apply (RS.callEx (g0:=151)));(iterate 3 exact rfl);intro B1 hB1;have hlo:h.n≤B1.n:=Nat.le_trans q.o.1 hB1.le;have hpl:pb < B1.n:=hB1.dom _ _ (q.p.absd q.d hB1).par;refine ⟨_,ih n (Nat.lt_succ_self n) (.binary 1) _ _ _ h1 _ _ _ _ (q.p.absd q.d hB1),?_⟩;rintro v H1 π1 ⟨b,rfl,he,p',o'⟩ sp1 hle1;have q:Now L tb cap pb h H1 _:=⟨p',sp1.dom,(q.o.abs hB1).trans o'⟩)|refine Y7 ?_|refine Y0 ?_|refine Y1 ?_)
 refine thenD_n ?_
 refine WD.plain fun inst _=>?_
 repeat (first|refine Y14 ?_|refine Y2u ?_|refine Y7 ?_|refine Y0 ?_|refine Y1 ?_)
 refine thenD_n ?_
 refine WD.plain fun inst _=>?_
 cases b2 with
 | false =>
  simp only [Bool.false_eq_true,if_false,Option.some.injEq,Prod.mk.injEq] at hs
  obtain ⟨rfl,rfl⟩:=hs
  repeat (first|((with_reducible apply (RS.callEx (g0:=66)));(iterate 3 exact rfl);intro B2 hB2;refine ⟨_,take_ex hL (q.p.absd q.d hB2) _ h2,?_⟩;rintro v H2 π2 ⟨rfl,p',o'⟩ sp2 hle2;have he:=he.keep sp1.dom (((OffP.refl pb _).abs hB2).trans o') hpl (Nat.le_refl _);have q:Now L tb cap pb h H2 _:=⟨p',sp2.dom,(q.o.abs hB2).trans o'⟩)|refine Y1o ?_|refine Y0 ?_|refine Yq ?_|refine Y1 ?_|refine Y5 ?_)
  refine ⟨.inl rfl,[ptrC b],.cons rfl .nil,fun B' a=>?_⟩
  exact ⟨b,rfl,he.keep sp2.dom ((OffP.refl pb _).abs a) hpl hlo,(q.ends a).1,(q.ends a).2⟩
 | true =>
  rw [if_pos rfl] at hs
  obtain ⟨⟨a3,u3⟩,h3,hs⟩:=bind_some' hs
  obtain ⟨u4,h4,hs⟩:=bind_some' hs
  obtain ⟨u5,h5,hs⟩:=bind_some' hs
  dsimp only at h3 h4 h5 hs
  split at hs
  ·cases hs
  rename_i hf5
  have hf5:u5.fk=0:=Decidable.of_not_not hf5
  obtain ⟨u,hr,hup⟩:=upE_iff hs
  obtain ⟨⟨c6,u6⟩,h6,hr⟩:=bind_some' hr
  dsimp only at hr
  obtain ⟨hnode,rfl⟩:=exprS_iff hr
  repeat (first|((with_reducible apply (RS.callEx (g0:=66)));(iterate 3 exact rfl);intro B2 hB2;refine ⟨_,take_ex hL (q.p.absd q.d hB2) _ h2,?_⟩;rintro v H2 π2 ⟨rfl,p',o'⟩ sp2 hle2;have he:=he.keep sp1.dom (((OffP.refl pb _).abs hB2).trans o') hpl (Nat.le_refl _);have q:Now L tb cap pb h H2 _:=⟨p',sp2.dom,(q.o.abs hB2).trans o'⟩)|refine Y25 ?_|refine Y0 ?_|refine Y1d ?_|refine Y1 ?_|refine Y3 ?_)
  refine thenD_n ?_
  refine WD.plain fun inst _=>?_
  repeat (first|((with_reducible apply (RS.callEx (g0:=149)));(iterate 3 exact rfl);intro B3 hB3;have hpl3:pb < B3.n:=hB3.dom _ _ (q.p.absd q.d hB3).par;refine ⟨_,ih n (Nat.lt_succ_self n) .full _ _ _ h3 _ _ _ _ (q.p.absd q.d hB3),?_⟩;rintro v H3 π3 ⟨b3,rfl,he3,p',o'⟩ sp3 hle3;have he:=he.keep sp2.dom (((OffP.refl pb _).abs hB3).trans o') hpl (Nat.le_refl _);have hl3:B1.n≤B3.n:=Nat.le_trans hle1 (Nat.le_trans hB2.le (Nat.le_trans hle2 hB3.le));have q:Now L tb cap pb h H3 _:=⟨p',sp3.dom,(q.o.abs hB3).trans o'⟩)|refine Y7 ?_|refine Y0 ?_|refine Y1 ?_)
  refine thenD_n ?_
  refine WD.plain fun inst _=>?_
  repeat (first|((with_reducible apply (RS.callEx (g0:=68)));(iterate 3 exact rfl);intro B4 hB4;refine ⟨_,want_ex hL (q.p.absd q.d hB4) _ h4,?_⟩;rintro v H4 π4 ⟨rfl,p',o'⟩ sp4 hle4;have oo:=((OffP.refl pb _).abs hB4).trans o';have he:=he.keep sp3.dom oo hpl (Nat.le_refl _);have he3:=he3.keep sp3.dom oo hpl3 (Nat.le_refl _);have q:Now L tb cap pb h H4 _:=⟨p',sp4.dom,(q.o.abs hB4).trans o'⟩)|refine Y11 ?_|refine Y0 ?_|refine Y1 ?_)
  refine thenD_n ?_
  refine WD.seq (WD.moveDefer (by kernel_rfl) rfl rfl ?_)
  refine thenD_n ?_
  refine WD.lift fun inst _=>?_
  repeat (first|refine Yi ?_|((with_reducible apply (RS.callEx (g0:=114)));(iterate 3 exact rfl);intro B5 hB5;refine ⟨_,down_exb hL (q.p.absd q.d hB5) h5 (decide_eq_true hf5),?_⟩;rintro v H5 π5 ⟨rfl,p',o'⟩ sp5 hle5;have oo:=((OffP.refl pb _).abs hB5).trans o';have he:=he.keep sp4.dom oo hpl (Nat.le_refl _);have he3:=he3.keep sp4.dom oo hpl3 (Nat.le_refl _);have q:Now L tb cap pb h H5 _:=⟨p',sp5.dom,(q.o.abs hB5).trans o'⟩)|((with_reducible apply (RS.callEx (g0:=115)));(iterate 3 exact rfl);intro B6 hB6;have hpl6:pb < B6.n:=hB6.dom _ _ (q.p.absd q.d hB6).par;refine ⟨_,ih n (Nat.lt_succ_self n) .choice _ _ _ h6 _ _ _ _ (q.p.absd q.d hB6),?_⟩;rintro v H6 π6 ⟨b6,rfl,he6,p',o'⟩ sp6 hle6;have oo:=((OffP.refl pb _).abs hB6).trans o';have he:=he.keep sp5.dom oo hpl (Nat.le_refl _);have he3:=he3.keep sp5.dom oo hpl3 (Nat.le_refl _);have hl6:B1.n≤B6.n:=Nat.le_trans hl3 (Nat.le_trans hle3 (Nat.le_trans hB4.le (Nat.le_trans hle4 (Nat.le_trans hB5.le (Nat.le_trans hle5 hB6.le)))));have q:Now L tb cap pb h H6 _:=⟨p',sp6.dom,(q.o.abs hB6).trans o'⟩)|((with_reducible apply (RS.callEx (g0:=152)));(iterate 3 exact rfl);intro B7 hB7;have hkb:B7.m (π6 0)=some ⟨⟨[ptrC b,ptrC b3,ptrC b6]⟩,181⟩:=hB7.loc 0 (Nat.lt_succ_self 0);have hkl:H6.n≤π6 0:=hB7.lo 0 (Nat.lt_succ_self 0);have hkm:π6 0≠pb:=Nat.ne_of_gt (Nat.lt_of_lt_of_le (sp6.dom _ _ q.p.par) hkl);refine ⟨_,expr_ex hL (q.p.absd q.d hB7) _ _ _ _ _ _ hnode,?_⟩;rintro v H7 π7 ⟨b7,rfl,hbn,hbm,p',o'⟩ sp7 hle7;have oo:=((OffP.refl pb _).abs hB7).trans o';have hkb:=o'.keep hkb (hB7.dom _ _ hkb) hkm;have he:=he.keep sp6.dom oo hpl (Nat.le_refl _);have he3:=he3.keep sp6.dom oo hpl3 (Nat.le_refl _);have he6:=he6.keep sp6.dom oo hpl6 (Nat.le_refl _);have q:Now L tb cap pb h H7 _:=⟨p',sp7.dom,(q.o.abs hB7).trans o'⟩)|refine Y1o ?_|refine Y0 ?_|refine Yv ?_|refine Y1 ?_|refine Y3 ?_)
  refine ⟨.inl rfl,[ptrC b7],.cons rfl .nil,fun B' a=>?_⟩
  exact ends_up (q.ends a).1 (q.ends a).2 ((three_at (Nat.le_trans hl6 (Nat.le_trans hle6 (Nat.le_trans hB7.le hbn))) hbm hkb (Nat.le_trans hl6 (Nat.le_trans hle6 hkl)) he (he3.up (fun _ _ _ h=>h) hl3) (he6.up (fun _ _ _ h=>h) hl6)).keep sp7.dom ((OffP.refl pb _).abs a) hpl (Nat.le_refl _)) a.dom hpl hlo hup
end
end Go.Proofs.YtgpigfcagppohaaGreatDoor
