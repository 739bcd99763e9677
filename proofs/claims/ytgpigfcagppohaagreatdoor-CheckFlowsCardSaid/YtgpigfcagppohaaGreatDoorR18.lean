/-
  What the functions that the law reaches compute,told by plain data;it holds of programs that pass the check of right form and are light.
-/
import Derived.Test.YtgpigfcagppohaaGreatDoorR17
set_option linter.unusedVariables false
set_option linter.unusedSimpArgs false
namespace Go.Proofs.YtgpigfcagppohaaGreatDoor
open Go.AH
attribute [local irreducible] W RS WR
section
variable {h:Hp} {q:Pl} {st st':CS}
theorem ChkF.deep {B:Hp} (c:ChkF B q st) (hd:∀ i b,B.m i=some b→i < B.n) (k:Nat):ChkF (B.set q.cb (ckB q (ptrC q.fb) { st with depth:=k })) q { st with depth:=k } :=
 c.off hd (OffP.set B _) (if_pos rfl) rfl rfl rfl rfl rfl
theorem chk_dom {B:Hp} {ob:Nat} {c c':Blk} (hb:B.m ob=some c) (hd:∀ i b,B.m i=some b→i < B.n):∀ i b,(B.set ob c').m i=some b→i < B.n:=fun i b h=>by
 have h:(if i=ob then some c' else B.m i)=some b:=h
 by_cases e:i=ob
 ·rw [e];exact hd _ _ hb
 ·rw [if_neg e] at h;exact hd _ _ h
theorem ck_kx {B:Hp} (c:ChkF B q st) (st2:CS):KeptX B (B.set q.cb (ckB q (ptrC q.fb) st2)):=fun i b hi hk=>(if_neg (fun e=>by subst e;rw [c.w.c] at hi;cases hi;exact absurd (show keptC 66=true from hk) (by decide))).trans hi
theorem ChkF.reck {B B':Hp} {st':CS} (c:ChkF B q st) (hk:∀ i b,i≠q.cb→B.m i=some b→B'.m i=some b) (hc:B'.m q.cb=some (ckB q (ptrC q.fb) st')) (e1:st'.gl=st.gl) (e3:st'.data=st.data) (e4:st'.lc=st.lc) (e5:st'.ret=st.ret) (hn:NmAt B' q.na q.nc st'.nm) (hl:st'.nm.length≤100):ChkF B' q st'∧KeptX B B':=by
 have up2:∀ i b,B.m i=some b→Nat.beq b.elem 66=false→B'.m i=some b:=fun i b hi he=>hk i b (elem_ne hi c.w.c he) hi
 have kx:KeptX B B':=fun i b hi hkk=>up2 i b hi (by
  cases h:Nat.beq b.elem 66 with
  | false=>rfl
  | true=>rw [Nat.eq_of_beq_eq_true h] at hkk;exact absurd hkk (by decide))
 refine ⟨⟨⟨hc,?_,up2 _ _ c.w.t rfl,fun hne=>?_,hn,c.w.cw,c.w.pw,hl,by rw [e1];exact c.w.gn⟩,?_,?_,fun hne=>?_,c.fw,by rw [e4];exact c.ll⟩,kx⟩
 ·have:=up2 _ _ c.w.p rfl
  unfold prC at this ⊢
  rw [e1,e3];exact this
 ·rw [e1] at hne
  obtain ⟨gs,r⟩:=c.w.g hne
  refine ⟨gs,?_⟩
  rw [e1]
  exact r.up ((up2 _ _ r.m rfl).trans r.m.symm) fun d c=>GlRow.up kx
 ·have:=up2 _ _ c.f rfl
  unfold fnC at this ⊢
  rw [e4];exact this
 ·rw [e5];exact up2 _ _ c.r rfl
 ·rw [e4] at hne
  obtain ⟨gs,r⟩:=c.l hne
  refine ⟨gs,?_⟩
  rw [e4]
  exact r.up ((up2 _ _ r.m rfl).trans r.m.symm) fun d c=>LcRow.up kx
theorem drop_take {α:Type} (f:α→Bool):∀ (l:List α),∃ k,(l.reverse.dropWhile f).reverse=l.take k∧k≤l.length:=by
 intro l
 have:∃ k,l.reverse.dropWhile f=l.reverse.drop k∧k≤l.length:=by
  generalize hr:l.reverse=r
  have hlen:l.length=r.length:=by rw [← hr,List.length_reverse]
  rw [hlen]
  clear hr hlen
  induction r with
  | nil=>exact ⟨0,rfl,Nat.le_refl _⟩
  | cons x r ih =>
   rw [List.dropWhile_cons]
   split
   ·obtain ⟨k,h1,h2⟩:=ih
    exact ⟨k+1,h1,Nat.succ_le_succ h2⟩
   ·exact ⟨0,rfl,Nat.zero_le _⟩
 obtain ⟨k,h1,h2⟩:=this
 refine ⟨l.length - k,?_,Nat.sub_le _ _⟩
 rw [h1,List.reverse_drop,List.reverse_reverse,List.length_reverse]
theorem ChkF.left {B:Hp} (c:ChkF B q st):ChkF (B.set q.cb (ckB q (ptrC q.fb) (leaveS st))) q (leaveS st)∧KeptX B (B.set q.cb (ckB q (ptrC q.fb) (leaveS st))):=by
 obtain ⟨k,h1,h2⟩:=drop_take (fun x=>decide (st.depth - 1 < x.2.2)) st.nm
 have e:=leaveS_take h1
 refine c.reck (fun i b hne hb=>(if_neg hne).trans hb) (if_pos rfl) rfl rfl rfl rfl ?_ ?_
 ·rw [e]
  rcases c.w.n.cut k with h|⟨b,cs,sl,g1,g2,g3,g4,g5⟩
  ·exact .inl h
  ·exact .inr ⟨b,cs,sl,g1,g2,(if_neg (elem_ne g3 c.w.c rfl)).trans g3,g4,g5⟩
 ·rw [e];exact Nat.le_trans (by show (st.nm.take k).length≤st.nm.length;rw [List.length_take];exact Nat.min_le_right _ _) c.w.nl
theorem cstmt_ok (N:Nat):∀ n,StmtOK N n
 | 0=>fun q st s b st' sb lo h hs _ _ _ _=>by rw [stmtM.eq_def] at hs;cases s;cases hs
 | n+1=>by
  intro q st s b st' sb lo h hs hf hlc c0 hsa
  obtain ⟨kind,p,d,x,kids⟩:=s
  rw [stmtM.eq_def] at hs
  dsimp only at hs
  have HR:=rawN_ok N
  refine EX.intro (fn:=Tryz.f43) (c:=(Tryz.f43.body.getD .skip)) Tryz.func43 (by kernel_rfl) Tryz.ntmps43 (by kernel_rfl) fun π s0=>?_
  conv=>arg 2;whnf
  have w:=NowC.start c0 s0
  have hsa0:=hsa
  cases hsa with
  | mk h0 hsm hd hE hk hlen hr =>
  rename_i D dd E A c ps
  ((with_reducible apply W.seq);repeat (first|refine Yw ?_|refine Y0 ?_|refine Y1 ?_|refine Ym ?_))
  ((with_reducible apply W.seq);repeat (first|refine Y1g ?_|refine Yj ?_|refine Ya ?_|refine Y0 ?_|refine Y1 ?_|refine Ym ?_))
  refine W.absorbX fun B π1 a0=>?_
  have hom:B.m (π 0)=some ⟨⟨bodyC kind p 0 (.pointer none) none 0 0⟩,196⟩:=a0.loc 0 (Nat.lt_succ_self 0)
  have hon:h.n≤π 0:=a0.lo 0 (Nat.lt_succ_self 0)
  have how:rwM≤π 0:=Nat.le_trans a0.rw hon
  have w:=w.abs a0
  have hsm:=a0.up _ _ hsm
  have hsa1:=hsa0.upX (Absb.kx a0)
  generalize π 0=ob at *
  have ko:∀ {H:Hp},KeptO ob B H→KeptX h H:=fun k i c hi hk=>k i c (Nat.ne_of_lt (Nat.lt_of_lt_of_le (s0.dom _ _ hi) hon)) (w.k i c hi hk) hk
  ((with_reducible apply W.seq);repeat (fail))
  split at hs
  ·rename_i hk1
   subst hk1
   cases x with
   | none=>cases hs
   | some x =>
   obtain ⟨xb,rfl,hx⟩:=hE
   obtain ⟨⟨e,st1⟩,h1,hs⟩:=bindS hs
   cases hs
   repeat (first|refine Y1g ?_|((with_reducible apply (RS.callEx (g0:=76)));(iterate 3 exact rfl);intro B1 hB1;have wa:=w.abs hB1;refine ⟨_,alone_ex HR h1 wa.c (hx.upX wa.k),?_⟩;rintro v H1 π1 ⟨b1,rfl,he1,c1,o1,n1'⟩ sp1 hle1;have he1:=NodeAt.weak he1 wa.o.1;have kk:=(Absb.kx hB1).trans (wa.kxo o1);have w:=wa.step c1 o1 n1' sp1.dom;have hom:=kk _ _ hom rfl;have hon1:=sp1.dom _ _ hom)|((with_reducible apply (RS.storeB (cs':=bodyC 1 p 0 (ptrC b1) none 0 0)));(iterate 3 exact rfl);exact hom;exact hon1;exact how;exact Nat.le_of_ble_eq_true rfl;iterate 3 exact rfl)|refine Y8 ?_|refine Y6 ?_|refine Y0 ?_|refine Y48 ?_|refine Y1 ?_|refine Y5 ?_)
   refine endsK_ret _ (.cons (.tmp rfl) .nil) fun B' a=>?_
   have up:∀ i c,i≠ob→H1.m i=some c→B'.m i=some c:=fun i c hne hi=>a.up _ _ ((if_neg hne).trans hi)
   exact ⟨ob,q.lb,q.na,q.nc,rfl,w.c.upS (KeptS.of up hom rfl),fun i c hi hk=>up i c (Nat.ne_of_lt (Nat.lt_of_lt_of_le (s0.dom _ _ hi) hon)) (w.k i c hi hk)⟩
  split at hs
  ·rename_i hk2
   subst hk2
   obtain ⟨t,ht,hr2⟩:=letM_iff hs
   repeat (first|refine Y1g ?_|((with_reducible apply (RS.callEx (g0:=77)));(iterate 3 exact rfl);intro B1 hB1;have wa:=w.abs hB1;have hax:=let_ex HR ht hr2 (fun _=>hlc) wa.c hf (hsa1.upX (Absb.kx hB1)) (hB1.up _ _ hom) how;refine ⟨_,hax,?_⟩;rintro v H1 π2 ⟨rfl,lb1,na1,nc1,c1,k1⟩ sp1 hle1)|refine Y8 ?_|refine Y6 ?_|refine Y4 ?_|refine Y0 ?_|refine Y48 ?_|refine Y1 ?_|refine Y5 ?_|refine Y3 ?_)
   exact endsK_ret _ (.cons (.tmp rfl) .nil) fun B' a=>⟨ob,lb1,na1,nc1,rfl,c1.old sp1.dom ⟨a.le,a.old⟩,ko fun i c hne hi hk=>a.up _ _ (k1 i c hne (hB1.up _ _ hi) hk)⟩
  split at hs
  ·rename_i hk3
   subst hk3
   split at hs
   ·cases hs
   rename_i hlim
   have hdep:st.depth < 1000:=by omega
   have hkl:kids.length≤1000:=by omega
   obtain ⟨⟨l3,st1⟩,hgo,hs⟩:=bindS hs
   cases hs
   have kd:=goM_kd (fun s st b st' h=>stmtM_kd n s st b st' h) _ _ _ _ _ hgo
   have hd1:st1.depth=st.depth+1:=kd.1
   have cE:=w.c.deep w.d (st.depth+1)
   have kE:=ck_kx w.c { st with depth:=st.depth+1 }
   have hdE:∀ i b,(B.set q.cb (ckB q (ptrC q.fb) { st with depth:=st.depth+1 })).m i=some b→i < B.n:=fun i b hb=>by
    have hb:(if i=q.cb then _ else B.m i)=some b:=hb
    by_cases e:i=q.cb
    ·rw [e];exact w.d _ _ w.c.w.c
    ·rw [if_neg e] at hb;exact w.d _ _ hb
   have hsmE:=kE _ _ hsm rfl
   have homE:=kE _ _ hom rfl
   repeat (first|refine Y1g ?_|((with_reducible apply (RS.callWB (g0:=78) []));(iterate 3 exact rfl);exact w.c.w.c;exact w.d _ _ w.c.w.c;exact fun H hH=>enter_tf (w.c.w.sees w.d hH) hdep;skip)|((with_reducible apply RS.load1B);(iterate 3 exact rfl);exact hsmE;exact hdE _ _ hsmE;exact rfl)|((with_reducible apply (RS.callEx (g0:=79)));(iterate 3 exact rfl);intro B2 hB2;have cA:=cE.old hdE ⟨hB2.le,hB2.old⟩;have kx2:=(w.k.trans kE).trans (Absb.kx hB2);have hax:=stmts_ex (c:=c) (cstmt_ok N n) hgo (fun _=>hlc) cA (hk.upX kx2 rfl) hlen (fun i p k g1 g2=>(hr i p k g1 g2).upX kx2) hkl;refine ⟨_,hax,?_⟩;rintro v H2 π2 ⟨A2,n2,c2,lb2,na2,nc2,rfl,cS,kS⟩ sp2 hle2;have hom2:=kS _ _ (hB2.up _ _ homE) rfl;have hon2:=sp2.dom _ _ hom2;have upO:∀ i c,i≠ob→H2.m i=some c→(H2.set ob ⟨⟨bodyC 3 p 0 (.pointer none) A2 n2 c2⟩,196⟩).m i=some c:=(fun i c hne hi=>(if_neg hne).trans hi);have cO:=cS.upS (KeptS.of upO hom2 rfl);have hdO:∀ i b,(H2.set ob ⟨⟨bodyC 3 p 0 (.pointer none) A2 n2 c2⟩,196⟩).m i=some b→i < H2.n:=chk_dom hom2 sp2.dom)|((with_reducible apply (RS.storeB (cs':=bodyC 3 p 0 (.pointer none) A2 n2 c2)));(iterate 3 exact rfl);exact hom2;exact hon2;exact how;exact Nat.le_of_ble_eq_true rfl;iterate 3 exact rfl)|((with_reducible apply (RS.callWB (g0:=80) []));(iterate 3 exact rfl);exact cO.w.c;exact hdO _ _ cO.w.c;exact fun H hH=>(by have hlv:=leave_tf (cO.w.sees hdO hH) (by omega) (by omega);exact hlv))|refine Y8 ?_|refine Y6 ?_|refine Y4 ?_|refine Y0 ?_|refine Y48 ?_|refine Y1 ?_|refine Y5 ?_|refine Y3 ?_)
   refine endsK_ret _ (.cons (.tmp rfl) .nil) fun B' a=>?_
   obtain ⟨cL,kL⟩:=cO.left
   exact ⟨ob,lb2,na2,nc2,rfl,cL.upN fun i b hi _=>a.up _ _ hi,ko fun i c hne hi hk=>a.up _ _ (kL i c (upO i c hne (kS i c (hB2.up _ _ (kE i c hi hk)) hk)) hk)⟩
  split at hs
  ·rename_i hk4
   subst hk4
   cases x with
   | none=>cases hs
   | some x =>
   obtain ⟨⟨e,st1⟩,h1,hs⟩:=bindS hs
   dsimp only at hs
   have hret:st1.ret=st.ret:=(exprM_ks (rawM_ks N) h1).f.2.2.1
   rw [hret] at hs
   have h2:(st1.fk≠0∧st'=st1)∨(st1.fk=0∧∃ v,becomeS (.int st.ret) e p st1=some (v,st')):=by
    split at hs
    ·rename_i hf1;cases hs;exact .inl ⟨hf1,rfl⟩
    ·rename_i hf1
     obtain ⟨⟨v,st2⟩,h2,hs⟩:=bindS hs
     cases hs;exact .inr ⟨Decidable.of_not_not hf1,v,h2⟩
   repeat (first|refine Y1g ?_|((with_reducible apply (RS.callEx (g0:=86)));(iterate 3 exact rfl);intro B1 hB1;have wa:=w.abs hB1;refine ⟨_,back_ex HR h1 h2 wa.c (hsa1.upX (Absb.kx hB1)) (hB1.up _ _ hom) how,?_⟩;rintro v H1 π2 ⟨rfl,c1,k1⟩ sp1 hle1)|refine Y8 ?_|refine Y6 ?_|refine Y4 ?_|refine Y0 ?_|refine Y48 ?_|refine Y1 ?_|refine Y5 ?_|refine Y3 ?_)
   exact endsK_ret _ (.cons (.tmp rfl) .nil) fun B' a=>⟨ob,q.lb,q.na,q.nc,rfl,c1.old sp1.dom ⟨a.le,a.old⟩,ko fun i c hne hi hk=>a.up _ _ (k1 i c hne (hB1.up _ _ hi) hk)⟩
  cases hs
end
end Go.Proofs.YtgpigfcagppohaaGreatDoor
