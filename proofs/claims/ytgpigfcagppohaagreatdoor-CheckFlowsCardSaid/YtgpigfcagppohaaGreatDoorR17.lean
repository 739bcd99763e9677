/-
  What the functions that the law reaches compute,told by plain data;it holds of programs that pass the check of right form and are light.
-/
import Derived.Test.YtgpigfcagppohaaGreatDoorR16
set_option linter.unusedVariables false
set_option linter.unusedSimpArgs false
namespace Go.Proofs.YtgpigfcagppohaaGreatDoor
open Go.AH
attribute [local irreducible] W RS WR
theorem typS_cases {ty:TypeS} {t:TyS} (h:typS ty=some t):(∃ l,t=.int l)∨∃ l n,t=.arr l n:=by
 unfold typS at h
 split at h
 ·cases h
 obtain ⟨l,_,h⟩:=bind_some' h
 split at h
 ·simp only [Option.some.injEq] at h;exact .inl ⟨l,h.symm⟩
 ·simp only [Option.some.injEq] at h;exact .inr ⟨l,_,h.symm⟩
 ·cases h
theorem typS_size {ty:TypeS} {t:TyS} (h:typS ty=some t) {n:Nat} (hn:sizeS t=some n):n≤32768:=by
 unfold typS at h
 split at h
 ·cases h
 obtain ⟨l,hl,h⟩:=bind_some' h
 have hl8:l.size≤8:=by
  unfold specTy at hl
  split at hl
  ·cases hl;exact Nat.le_of_ble_eq_true rfl
  split at hl
  ·cases hl;exact Nat.le_of_ble_eq_true rfl
  split at hl
  ·cases hl;exact Nat.le_of_ble_eq_true rfl
  split at hl
  ·cases hl;exact Nat.le_of_ble_eq_true rfl
  ·cases hl
 split at h
 ·simp only [Option.some.injEq] at h;subst h
  have hn:(if l.size=0 then none else some l.size)=some n:=hn
  split at hn
  ·cases hn
  ·cases hn;omega
 ·rename_i m _
  simp only [Option.some.injEq] at h;subst h
  have hn:(if l.size=0∨8 < l.size∨m=0∨4096 < m then none else some (m * l.size))=some n:=hn
  split at hn
  ·cases hn
  ·rename_i hc
   cases hn
   have h1:m * l.size≤4096 * 8:=Nat.mul_le_mul (by omega) (by omega)
   omega
 ·cases h
inductive LetR (R:ExprS→CS→Option (NodeS × CS)) (d:DeclS) (t:TyS) (st:CS):Option ExprS→CS→Prop
 | none {i:Nat} {st':CS} (h:localS d t st=some (i,st')):LetR R d t st none st'
 | bad {x:ExprS} {e:NodeS} {st1:CS} (h1:exprM R x st=some (e,st1)) (hf:st1.fk≠0):LetR R d t st (some x) st1
 | full {x:ExprS} {e:NodeS} {st1 st2:CS} {i:Nat} (h1:exprM R x st=some (e,st1)) (hf:st1.fk=0) (h2:localS d t st1=some (i,st2)) (hf2:st2.fk≠0):LetR R d t st (some x) st2
 | done {x:ExprS} {e v:NodeS} {st1 st2 st3:CS} {i:Nat} (h1:exprM R x st=some (e,st1)) (hf:st1.fk=0) (h2:localS d t st1=some (i,st2)) (hf2:st2.fk=0) (h3:assignS (.mk 3 d.pos t false eS 0 i []) e d.pos st2=some (v,st3)):LetR R d t st (some x) st3
section
variable {R:ExprS→CS→Option (NodeS × CS)} {h:Hp} {q:Pl} {st st':CS}
theorem let_ex (HR:RawOK R) {x:Option ExprS} {p sb ob lo:Nat} {dc:DeclS} {kids:List StmtS} {t:TyS} (ht:typS dc.ty=some t) (hl:LetR R dc t st x st') (hlc:st.fk=0→LcOK st) (c0:ChkF h q st) (hf0:st.fk=0) (hsa:StmtAt h lo sb (.mk 2 p dc x kids)) (hom0:h.m ob=some ⟨⟨bodyC 2 p 0 (.pointer none) none 0 0⟩,196⟩) (how:rwM≤ob):EX Tryz.prog 77 [ptrC q.cb,ptrC sb,ptrC ob] h (LetQ q ob h st' ):=by
 have hb:∀ n,sizeS t=some n→n≤32768:=fun n=>typS_size ht
 refine EX.intro (fn:=Tryz.f77) (c:=(Tryz.f77.body.getD .skip)) Tryz.func77 (by kernel_rfl) Tryz.ntmps77 (by kernel_rfl) fun π s0=>?_
 conv=>arg 2;whnf
 have w:=NowC.start c0 s0
 cases hsa with
 | mk h0 hsm hd hE hk hlen hr =>
 rename_i D dd E A c ps
 with_reducible apply W.seq
 refine W.joinNT (X:=Nat × Nat) (fun x=>[(0,ptrC q.cb),(1,ptrC sb),(2,ptrC ob),(6,ptrC x.1)]) (fun x B=>NowC q st h B st∧B.m x.1=some ⟨⟨tyC t x.2⟩,71⟩∧TyE B t x.2) ?_ ?_
 ·rcases typS_cases ht with ⟨l,rfl⟩|⟨l,n,rfl⟩
  ·repeat (first|((with_reducible apply (RS.callEx (g0:=34)));(iterate 3 exact rfl);intro B1 hB1;have wa:=w.abs hB1;refine ⟨_,typ_ex ht (hd.upX (Absb.kx hB1) rfl) _,?_⟩;rintro v H1 π1 ⟨tb,rfl,hte,o1⟩ sp1 hle1;have kk:=(Absb.kx hB1).trans (Old.kx o1 wa.d);have w:=wa.stepO o1 sp1.dom;skip)|refine Y4t ?_|refine Yf ?_|refine Y2 ?_|refine Y9 ?_|refine Yr ?_|refine Y1 ?_)
   refine joinN_n rfl fun B' a=>⟨(_,tb),?_,w.abs a,a.loc 0 (Nat.le_of_ble_eq_true rfl),hte.up (Absb.kx a)⟩
   (repeat' (first|exact trivial|exact rfl|apply And.intro));done
  ·repeat (first|((with_reducible apply (RS.callEx (g0:=34)));(iterate 3 exact rfl);intro B1 hB1;have wa:=w.abs hB1;refine ⟨_,typ_ex ht (hd.upX (Absb.kx hB1) rfl) _,?_⟩;rintro v H1 π1 ⟨tb,rfl,hte,o1⟩ sp1 hle1;have kk:=(Absb.kx hB1).trans (Old.kx o1 wa.d);have w:=wa.stepO o1 sp1.dom;skip)|refine Y4t ?_|refine Yf ?_|refine Y2 ?_|refine Y9 ?_|refine Yr ?_|refine Y1 ?_)
   refine joinN_n rfl fun B' a=>⟨(_,tb),?_,w.abs a,a.loc 0 (Nat.le_of_ble_eq_true rfl),hte.up (Absb.kx a)⟩
   (repeat' (first|exact trivial|exact rfl|apply And.intro));done
 clear w
 rintro ⟨tk,tb⟩ B π1 sB ⟨w,h6,hte⟩
 dsimp only at h6 hte ⊢
 have hsm:=w.k _ _ hsm rfl
 have hom:=w.k _ _ hom0 rfl
 have hk6:tk≠ob:=elem_ne h6 hom rfl
 have hks:sb≠ob:=elem_ne hsm hom rfl
 cases hl with
 | @none i st3 h2 =>
  obtain rfl:E=.pointer none:=hE
  repeat (first|refine Y1g ?_|refine Y3w ?_|refine Y54 ?_|refine Yb ?_|refine Y3h ?_|refine Y38 ?_|((with_reducible apply (RS.callYE (g0:=42) (fun _=>true)));(iterate 3 exact rfl);intro B3 hde3 hB3;have wa:=w.abs hB3;refine ⟨_,local_ex wa.c (fun hf'=>by have e:=(w.n hf').1;rw [e];rw [e] at hf';exact hlc hf') (TyE.up (Absb.kx hB3) hte) hb h2,(fun _ _ _ i _ hc=>by cases hc),?_⟩;rintro v3 H3 k3 l3 ⟨rfl,lb3,na3,nc3,c3,kx3⟩ sp3 hle3 hm3 hden3 hwf3 hk3;have kk3:=(Absb.kx hB3).trans kx3;have hon:=w.d _ _ hom;have hob3:=kk3 _ _ hom rfl)|refine Y28 ?_|((with_reducible apply (RS.nilPC mixed [(0,1),(1,2),(0,2),(1,3),(0,3),(1,4),(0,4),(1,5),(0,5),(5,6),(4,6),(3,6),(2,6),(1,6),(0,6),(0,7)]));kernel_rfl;(repeat (refine ⟨fun x y hx hy=>(by obtain rfl:=Option.some.inj hx;obtain rfl:=Option.some.inj hy;first|exact pairR_free rfl rfl rfl rfl rfl rfl rfl (Nat.zero_le _) rfl|(unfold pairR crossB;simp [recYE,recP,recN,recWB,noneB,outO,outR,memL])),?_⟩));exact trivial;exact sbN_side (by repeat' (first|exact trivial|exact rfl|apply And.intro));exact rfl)|refine Yl ?_|refine Yd ?_|refine Yc ?_|refine Yk ?_|refine Yr ?_|refine Y1p ?_|refine Y1 ?_|refine Y5 ?_|refine Y3 ?_)
  exact endsK_ret _ .nil fun B' a=>⟨rfl,lb3,na3,nc3,c3.upS (KeptS.of (cutC_up hden3 a (Nat.le_refl _) fun _ _=>rfl) hob3 rfl),fun i c hne hi hk=>cutC_up hden3 a (Nat.le_refl _) (fun _ _=>rfl) i c hne (kk3 i c (w.k i c hi hk) hk)⟩
 | @bad x e st1 h1 hf =>
  obtain ⟨xb,rfl,hx⟩:=hE
  repeat (first|refine Y1g ?_|refine Y3w ?_|((with_reducible apply (RS.callA (g0:=21)));(iterate 3 exact rfl);first|exact fun B' hB'=>cok_tf (w.abs hB').c.w (decide_eq_true (by assumption))|exact fun B' hB'=>cok_tf (w.abs hB').c.w (decide_eq_false (by assumption)))|((with_reducible apply (RS.callEx (g0:=119)));(iterate 3 exact rfl);intro B1 hB1;have wa:=w.abs hB1;refine ⟨_,cexpr_ex HR h1 wa.c (hx.upX wa.k),?_⟩;rintro v H1 π1 ⟨b1,rfl,he1,c1,o1,n1'⟩ sp1 hle1;have he1:=NodeAt.weak he1 wa.o.1;have kk:=(Absb.kx hB1).trans (wa.kxo o1);have w:=wa.step c1 o1 n1' sp1.dom;have h6:=kk _ _ h6 rfl;have hsm:=kk _ _ hsm rfl;have hom:=kk _ _ hom rfl;have hte:=hte.up kk)|refine Yl ?_|refine Yd ?_|refine Yr ?_|refine Y13 ?_|refine Y1 ?_|refine Y5 ?_)
  exact endsK_ret _ .nil fun B' a=>⟨rfl,q.lb,q.na,q.nc,(w.abs a).c,(w.abs a).k.o ob⟩
 | @full x e st1 st2 i h1 hf h2 hf2 =>
  obtain ⟨xb,rfl,hx⟩:=hE
  ((with_reducible apply W.seq);repeat (first|refine Yw ?_|refine Yr ?_|refine Y1 ?_|refine Ym ?_))
  ((with_reducible apply W.seq);repeat (fail))
  ((with_reducible apply W.seq);repeat (first|refine Y1g ?_|refine Y3w ?_|refine Yb ?_|((with_reducible apply (RS.callEx (g0:=119)));(iterate 3 exact rfl);intro B1 hB1;have wa:=w.abs hB1;refine ⟨_,cexpr_ex HR h1 wa.c (hx.upX wa.k),?_⟩;rintro v H1 π1 ⟨b1,rfl,he1,c1,o1,n1'⟩ sp1 hle1;have he1:=NodeAt.weak he1 wa.o.1;have kk:=(Absb.kx hB1).trans (wa.kxo o1);have w:=wa.step c1 o1 n1' sp1.dom;have h6:=kk _ _ h6 rfl;have hsm:=kk _ _ hsm rfl;have hom:=kk _ _ hom rfl;have hte:=hte.up kk)|refine Y8 ?_|refine Yd ?_|refine Yr ?_|refine Y1 ?_|refine Y5 ?_|refine Ym ?_))
  ((with_reducible apply W.seq);repeat (fail))
  ((with_reducible apply W.seq);repeat (first|refine Yb ?_|refine Y16 ?_|refine Yr ?_|refine Y1 ?_|refine Y1h ?_|refine Y3 ?_))
  ((with_reducible apply W.seq);repeat (first|refine Y3h ?_|refine Y38 ?_|((with_reducible apply (RS.callYE (g0:=42) (fun _=>true)));(iterate 3 exact rfl);intro B3 hde3 hB3;have wa:=w.abs hB3;refine ⟨_,local_ex wa.c (fun hf'=>by have e:=(w.n hf').1;rw [e];rw [e] at hf';exact hlc hf') (TyE.up (Absb.kx hB3) hte) hb h2,(fun _ _ _ i _ hc=>by cases hc),?_⟩;rintro v3 H3 k3 l3 ⟨rfl,lb3,na3,nc3,c3,kx3⟩ sp3 hle3 hm3 hden3 hwf3 hk3;have kk3:=(Absb.kx hB3).trans kx3;have hon:=w.d _ _ hom;have hob3:=kk3 _ _ hom rfl)|refine Y28 ?_|((with_reducible apply (RS.nilPC mixed [(0,1),(1,2),(0,2),(1,3),(0,3),(1,4),(0,4),(1,5),(0,5),(5,6),(4,6),(3,6),(2,6),(1,6),(0,6),(0,7)]));kernel_rfl;(repeat (refine ⟨fun x y hx hy=>(by obtain rfl:=Option.some.inj hx;obtain rfl:=Option.some.inj hy;first|exact pairR_free rfl rfl rfl rfl rfl rfl rfl (Nat.zero_le _) rfl|(unfold pairR crossB;simp [recYE,recP,recN,recWB,noneB,outO,outR,memL])),?_⟩));exact trivial;exact sbN_side (by repeat' (first|exact trivial|exact rfl|apply And.intro));exact rfl)|refine Yf ?_|refine Y1 ?_|refine Ym ?_))
  refine W.absorbX fun B4 π4 a4=>?_
  have up4:=cutC_up hden3 a4 (Nat.le_refl _) fun _ _=>rfl
  have ks4:=KeptS.of up4 hob3 rfl
  have c4:=c3.upS ks4
  have ko4:KeptO ob h B4:=fun i c hne hi hk=>up4 i c hne (kk3 i c (w.k i c hi hk) hk)
  have w:=NowC.start c4 a4.sat
  repeat (first|refine Y54 ?_|refine Y1j ?_|refine Y16 ?_|refine Yc ?_|refine Yr ?_|refine Y13 ?_|refine Y1 ?_|refine Y5 ?_)
  exact endsK_ret _ .nil fun B' a=>⟨rfl,lb3,na3,nc3,(w.abs a).c,ko4.trans ((w.abs a).k.o ob)⟩
 | @done x e v st1 st2 st3 i h1 hf h2 hf2 h3 =>
  obtain ⟨xb,rfl,hx⟩:=hE
  obtain ⟨l,hty⟩:=assignS_ty h3
  ((with_reducible apply W.seq);repeat (first|refine Yw ?_|refine Yr ?_|refine Y1 ?_|refine Ym ?_))
  ((with_reducible apply W.seq);repeat (fail))
  ((with_reducible apply W.seq);repeat (first|refine Y1g ?_|refine Y3w ?_|refine Yb ?_|((with_reducible apply (RS.callEx (g0:=119)));(iterate 3 exact rfl);intro B1 hB1;have wa:=w.abs hB1;refine ⟨_,cexpr_ex HR h1 wa.c (hx.upX wa.k),?_⟩;rintro v H1 π1 ⟨b1,rfl,he1,c1,o1,n1'⟩ sp1 hle1;have he1:=NodeAt.weak he1 wa.o.1;have kk:=(Absb.kx hB1).trans (wa.kxo o1);have w:=wa.step c1 o1 n1' sp1.dom;have h6:=kk _ _ h6 rfl;have hsm:=kk _ _ hsm rfl;have hom:=kk _ _ hom rfl;have hte:=hte.up kk)|refine Y8 ?_|refine Yd ?_|refine Yr ?_|refine Y1 ?_|refine Y5 ?_|refine Ym ?_))
  ((with_reducible apply W.seq);repeat (fail))
  ((with_reducible apply W.seq);repeat (first|refine Yb ?_|refine Y16 ?_|refine Yr ?_|refine Y1 ?_|refine Y1h ?_|refine Y3 ?_))
  ((with_reducible apply W.seq);repeat (first|refine Y3h ?_|refine Y38 ?_|((with_reducible apply (RS.callYE (g0:=42) (fun _=>true)));(iterate 3 exact rfl);intro B3 hde3 hB3;have wa:=w.abs hB3;refine ⟨_,local_ex wa.c (fun hf'=>by have e:=(w.n hf').1;rw [e];rw [e] at hf';exact hlc hf') (TyE.up (Absb.kx hB3) hte) hb h2,(fun _ _ _ i _ hc=>by cases hc),?_⟩;rintro v3 H3 k3 l3 ⟨rfl,lb3,na3,nc3,c3,kx3⟩ sp3 hle3 hm3 hden3 hwf3 hk3;have kk3:=(Absb.kx hB3).trans kx3;have hon:=w.d _ _ hom;have hob3:=kk3 _ _ hom rfl)|refine Y28 ?_|((with_reducible apply (RS.nilPC mixed [(0,1),(1,2),(0,2),(1,3),(0,3),(1,4),(0,4),(1,5),(0,5),(5,6),(4,6),(3,6),(2,6),(1,6),(0,6),(0,7)]));kernel_rfl;(repeat (refine ⟨fun x y hx hy=>(by obtain rfl:=Option.some.inj hx;obtain rfl:=Option.some.inj hy;first|exact pairR_free rfl rfl rfl rfl rfl rfl rfl (Nat.zero_le _) rfl|(unfold pairR crossB;simp [recYE,recP,recN,recWB,noneB,outO,outR,memL])),?_⟩));exact trivial;exact sbN_side (by repeat' (first|exact trivial|exact rfl|apply And.intro));exact rfl)|refine Yf ?_|refine Y1 ?_|refine Ym ?_))
  refine W.absorbX fun B4 π4 a4=>?_
  have up4:=cutC_up hden3 a4 (Nat.le_refl _) fun _ _=>rfl
  have ks4:=KeptS.of up4 hob3 rfl
  have c4:=c3.upS ks4
  have ko4:KeptO ob h B4:=fun i c hne hi hk=>up4 i c hne (kk3 i c (w.k i c hi hk) hk)
  obtain rfl:t=.int l:=hty
  have km4:∀ i c,_→keptC c.elem=true→Nat.beq c.elem 196=false→B4.m i=some c:=fun i c hi hk hs=>ks4 i c (kk3 i c hi hk) hs
  have hom4:B4.m ob=some ⟨⟨bodyC 2 p i (.pointer none) none 0 0⟩,196⟩:=a4.up _ _ (if_pos rfl)
  have h64:=km4 _ _ h6 rfl rfl
  have hsm4:=km4 _ _ hsm rfl rfl
  have he4:=he1.upM km4 (Nat.zero_le _)
  have w:=NowC.start c4 a4.sat
  repeat (first|refine Y54 ?_|refine Yb ?_|((with_reducible apply RS.load1B);(iterate 3 exact rfl);exact hsm4;exact w.d _ _ hsm4;exact rfl)|((with_reducible apply RS.loadNB);(iterate 3 exact rfl);exact h64;exact w.d _ _ h64;exact Nat.le_of_ble_eq_true rfl;exact rfl)|((with_reducible apply RS.load1B);(iterate 3 exact rfl);exact hom4;exact w.d _ _ hom4;exact rfl)|((with_reducible apply (RS.callEx (g0:=123)));(iterate 3 exact rfl);intro B5 hB5;have wa:=w.abs hB5;have hpl:=node0 (op:=3) (pos:=dc.pos) (ty:=.int l) (tb:=tb) (hid:=false) (text:=eS) (num:=0) (ref:=i) (hB5.loc 0 (Nat.le_of_ble_eq_true rfl)) (Nat.zero_le _) trivial;have hax:=assign_ex (lo:=0) (Nat.zero_le _) wa.c hpl (he4.up (Absb.kx hB5)) h3;refine ⟨_,hax,?_⟩;rintro v6 H6 π6 ⟨b6,rfl,he6,c6,o6,n6⟩ sp6 hle6;have kk6:=(Absb.kx hB5).trans (wa.kxo o6);have hom6:=kk6 _ _ hom4 rfl)|((with_reducible apply (RS.storeB (cs':=bodyC 2 p i (ptrC b6) none 0 0)));(iterate 3 exact rfl);exact hom6;exact sp6.dom _ _ hom6;exact how;exact Nat.le_of_ble_eq_true rfl;iterate 3 exact rfl)|refine Y17 ?_|refine Yc ?_|refine Ya ?_|refine Y0 ?_|refine Y1d ?_|refine Y1 ?_|refine Y3 ?_)
  exact endsK_normal _ .nil fun B' a=>⟨rfl,lb3,na3,nc3,c6.upS (KeptS.of (fun i c hne hi=>a.up _ _ ((if_neg hne).trans hi)) hom6 rfl),fun i c hne hi hk=>a.up _ _ ((if_neg hne).trans (kk6 i c (ko4 i c hne hi hk) hk))⟩
end
theorem letM_iff {N p:Nat} {d:DeclS} {x:Option ExprS} {st st':CS} {b:BodyS} (h:letM N p d x st=some (b,st')):∃ t,typS d.ty=some t∧LetR (rawM N) d t st x st':=by
 unfold letM at h
 obtain ⟨t,ht,h⟩:=bindS h
 refine ⟨t,ht,?_⟩
 cases x with
 | none =>
  dsimp only at h
  obtain ⟨⟨i,st1⟩,h1,h⟩:=bindS h
  cases h;exact .none h1
 | some x =>
  dsimp only at h
  obtain ⟨⟨e,st1⟩,h1,h⟩:=bindS h
  dsimp only at h
  split at h
  ·rename_i hf
   cases h;exact .bad h1 hf
  rename_i hf
  have hf:=Decidable.of_not_not hf
  obtain ⟨⟨i,st2⟩,h2,h⟩:=bindS h
  dsimp only at h
  split at h
  ·rename_i hf2
   cases h;exact .full h1 hf h2 hf2
  rename_i hf2
  have hf2:=Decidable.of_not_not hf2
  obtain ⟨⟨v,st3⟩,h3,h⟩:=bindS h
  cases h;exact .done h1 hf h2 hf2 h3
theorem KS.lcok {a b:CS} (k:KS a b) (h:LcOK a):LcOK b:=by unfold LcOK;rw [k.f.2.2.2.1];exact h
theorem localS_lc {d:DeclS} {ty:TypeS} {t:TyS} {st st':CS} {i:Nat} (ht:typS ty=some t) (h:localS d t st=some (i,st')) (hl:LcOK st):LcOK st':=by
 unfold localS at h
 dsimp only at h
 have k0:∀ c:Bool,LcOK (if c=true then st.fail 13 d.pos else st):=fun c=>by
  cases c with
  | true=>exact (KS.fail _ _ _).lcok hl
  | false=>exact hl
 generalize hg:(if (st.nm.any fun x=>eqB x.1 d.name && x.2.2 == st.depth)=true then st.fail 13 d.pos else st)=st1 at h
 have k1:LcOK st1:=by rw [← hg];exact k0 _
 obtain ⟨n,_,h⟩:=bindS h
 split at h
 ·cases h;exact k1
 split at h
 ·cases h
 obtain ⟨m,_,h⟩:=bindS h
 cases h
 intro u hu n hn
 rcases List.mem_append.1 hu with e|e
 ·exact k1 u e n hn
 ·rw [List.mem_singleton] at e;subst e;exact typS_size ht hn
theorem goM_lc {N n:Nat} (ih:∀ s st b st',stmtM N n s st=some (b,st')→LcOK st→LcOK st'):∀ (l:List StmtS) (out:List BodyS) (st:CS) (r:List BodyS) (st':CS),stmtM.go N n l out st=some (r,st')→LcOK st→LcOK st'
 | [],out,st,r,st',h,hl=>by
  rw [stmtM.go] at h;cases h;exact hl
 | s::l,out,st,r,st',h,hl=>by
  rw [stmtM.go] at h
  split at h
  ·cases h;exact hl
  ·obtain ⟨⟨b,st1⟩,h1,h⟩:=bindS h
   exact goM_lc ih l _ _ _ _ h (ih _ _ _ _ h1 hl)
theorem stmtM_lc {N:Nat}:∀ (n:Nat) (s:StmtS) (st:CS) (b:BodyS) (st':CS),stmtM N n s st=some (b,st')→LcOK st→LcOK st'
 | 0,s,st,b,st',h,_=>by rw [stmtM.eq_def] at h;cases s;cases h
 | n+1,.mk kind p d x kids,st,b,st',h,hl=>by
  rw [stmtM.eq_def] at h
  dsimp only at h
  split at h
  ·split at h
   ·cases h
   ·obtain ⟨⟨e,st1⟩,h1,h⟩:=bindS h
    cases h;exact (exprM_ks (rawM_ks N) h1).lcok hl
  split at h
  ·obtain ⟨t,ht,hr⟩:=letM_iff h
   cases hr with
   | none h1=>exact localS_lc ht h1 hl
   | bad h1 _=>exact (exprM_ks (rawM_ks N) h1).lcok hl
   | full h1 _ h2 _=>exact localS_lc ht h2 ((exprM_ks (rawM_ks N) h1).lcok hl)
   | done h1 _ h2 _ h3=>exact (assignS_ks h3).lcok (localS_lc ht h2 ((exprM_ks (rawM_ks N) h1).lcok hl))
  split at h
  ·split at h
   ·cases h
   ·obtain ⟨⟨l,st1⟩,h1,h⟩:=bindS h
    have k1:=goM_lc (fun s st b st' h hl=>stmtM_lc n s st b st' h hl) _ _ _ _ _ h1 hl
    cases h
    exact k1
  split at h
  ·split at h
   ·cases h
   ·obtain ⟨⟨e,st1⟩,h1,h⟩:=bindS h
    have k1:=(exprM_ks (rawM_ks N) h1).lcok hl
    dsimp only at h
    split at h
    ·cases h;exact k1
    obtain ⟨⟨v,st2⟩,h2,h⟩:=bindS h
    cases h;exact (becomeS_ks h2).lcok k1
  cases h
def StmQ (q:Pl) (h:Hp) (st':CS) (v:Value) (h':Hp):Prop:=∃ ob lb na nc,v=ptrC ob∧ChkF h' { q with lb:=lb,na:=na,nc:=nc } st'∧KeptX h h'
def StsQ (q:Pl) (h:Hp) (st':CS) (v:Value) (h':Hp):Prop:=∃ A n c lb na nc,v=.slice A n c∧ChkF h' { q with lb:=lb,na:=na,nc:=nc } st'∧KeptX h h'
def StmtOK (N n:Nat):Prop:=∀ (q:Pl) (st:CS) (s:StmtS) (b:BodyS) (st':CS) (sb lo:Nat) (h:Hp),stmtM N n s st=some (b,st')→st.fk=0→LcOK st→ChkF h q st→StmtAt h lo sb s→EX Tryz.prog 43 [ptrC q.cb,ptrC sb] h (StmQ q h st')
def RowV (h B:Hp) (A:Option Addr) (m c:Nat):Prop:=(A=none∧m=0∧c=0)∨∃ kb cs,A=some ⟨kb,0,none⟩∧c=capOf 1∧B.m kb=some ⟨⟨cs⟩,132⟩∧cs.length=m∧rwM≤kb∧h.n≤kb
def KeptP (h h':Hp):Prop:=∀ i b,h.m i=some b→Nat.beq b.elem 132=false→h'.m i=some b
theorem TyE.upP {h h':Hp} (hu:KeptP h h') {t:TyS} {b:Nat} (ht:TyE h t b):TyE h' t b:=by
 cases t with
 | void=>trivial
 | int l=>trivial
 | ptr l=>exact hu _ _ (show h.m b=_ from ht) rfl
 | arr l n=>exact hu _ _ (show h.m b=_ from ht) rfl
theorem NmAt.upP {h h':Hp} {na:Option Addr} {nc:Nat} {nm:List (ByteArray × Nat × Nat)} (hn:NmAt h na nc nm) (hu:KeptP h h'):NmAt h' na nc nm:=by
 rcases hn with h1|⟨b,cs,st,h1,h2,h3,h4,h5⟩
 ·exact .inl h1
 ·exact .inr ⟨b,cs,st,h1,h2,hu _ _ h3 rfl,h4,h5⟩
theorem ChkW.upP {B H:Hp} {q:Pl} {F Fs:Value} {mn:Int} {st:CS} (w:ChkW B q F Fs mn st) (hu:KeptP B H):ChkW H q F Fs mn st :=
 ⟨hu _ _ w.c rfl,hu _ _ w.p rfl,hu _ _ w.t rfl,fun hne=>by
  obtain ⟨gs,r⟩:=w.g hne
  exact ⟨gs,r.up ((hu _ _ r.m rfl).trans r.m.symm) fun d c ⟨b,A,n,k,h1,h2⟩=>⟨b,A,n,k,h1,h2.upP hu⟩⟩,w.n.upP hu,w.cw,w.pw,w.nl,w.gn⟩
theorem ChkF.upP {B H:Hp} {q:Pl} {st:CS} (w:ChkF B q st) (hu:KeptP B H):ChkF H q st :=
 ⟨w.w.upP hu,hu _ _ w.f rfl,hu _ _ w.r rfl,fun hne=>by
  obtain ⟨gs,r⟩:=w.l hne
  exact ⟨gs,r.up ((hu _ _ r.m rfl).trans r.m.symm) fun d c ⟨b,A,m,h1,h2⟩=>⟨b,A,m,h1,h2.upP hu⟩⟩,w.fw,w.ll⟩
theorem go_bad {N n:Nat} {l:List StmtS} {out:List BodyS} {st:CS} (hf:st.fk≠0):stmtM.go N n l out st=some (out,st):=by
 cases l with
 | nil=>rw [stmtM.go]
 | cons s l=>rw [stmtM.go,if_pos hf]
section
variable {h:Hp} {q:Pl} {st st':CS}
theorem stmts_ex {N n:Nat} (ih:StmtOK N n) {kids:List StmtS} {out r:List BodyS} (hs:stmtM.go N n kids out st=some (r,st')) (hlc:st.fk=0→LcOK st) (c0:ChkF h q st) {A:Option Addr} {lo c:Nat} {ps:List Nat} (hk:RowAt h lo 128 A (ps.map ptrC)) (hl:ps.length=kids.length) (hr:∀ (i p:Nat) (k:StmtS),ps[i]?=some p→kids[i]?=some k→StmtAt h lo p k) (hb:kids.length≤1000):EX Tryz.prog 79 [ptrC q.cb,.slice A kids.length c] h (StsQ q h st'):=by
 refine EX.intro (fn:=Tryz.f79) (c:=(Tryz.f79.body.getD .skip)) Tryz.func79 (by kernel_rfl) Tryz.ntmps79 (by kernel_rfl) fun π s0=>?_
 conv=>arg 2;whnf
 have hd0:=s0.dom
 ((with_reducible apply W.seq);repeat (first|refine Yw ?_|refine Y0 ?_|refine Y1 ?_|refine Ym ?_))
 ((with_reducible apply W.seq);repeat (first|refine Yw ?_|refine Y0 ?_|refine Y1 ?_|refine Ym ?_))
 ((with_reducible apply W.seq);repeat (fail))
 ((with_reducible apply W.seq);repeat (first|refine Y6d ?_|refine Y0 ?_|refine Y1 ?_|refine Y24 ?_))
 refine W.loopN (X:=Nat × Nat × (Option Addr) × Nat × CS × (Option Addr) × Nat × Nat × List BodyS) (fun x=>[(0,ptrC q.cb),(1,.slice A kids.length c),(5,.slice x.2.2.2.2.2.1 x.2.2.2.2.2.2.1 x.2.2.2.2.2.2.2.1),(8,.slice A kids.length c),(9,.int .i64 kids.length),(10,.int .i64 x.1)])
  (fun x B=>x.1≤kids.length∧ChkF B { q with lb:=x.2.1,na:=x.2.2.1,nc:=x.2.2.2.1 } x.2.2.2.2.1∧KeptX h B∧(x.2.2.2.2.1.fk=0→LcOK x.2.2.2.2.1)∧stmtM.go N n (kids.drop x.1) x.2.2.2.2.2.2.2.2 x.2.2.2.2.1=some (r,st')∧x.2.2.2.2.2.2.1≤x.1∧RowV h B x.2.2.2.2.2.1 x.2.2.2.2.2.2.1 x.2.2.2.2.2.2.2.1∧h.n≤B.n) (fun x=>kids.length - x.1)
  (fun B' a=>⟨(0,q.lb,q.na,q.nc,st,none,0,0,out),?_,Nat.zero_le _,c0.old hd0 ⟨a.le,a.old⟩,Absb.kx a,hlc,hs,Nat.le_refl _,.inl ⟨rfl,rfl,rfl⟩,a.le⟩) ?_
 ·(repeat' (first|exact trivial|exact rfl|apply And.intro));done
 rintro ⟨i,lb,na,nc,u,A5,m,c5,o5⟩ B π1 sB ⟨hle,cu,hkx,hlu,hgo,hmi,hrow,hBn⟩
 dsimp only at hle cu hkx hlu hgo hmi hrow ⊢
 have w:=NowC.start cu sB
 by_cases hi:i < kids.length
 ·obtain ⟨s,hsk⟩:∃ s,kids[i]?=some s:=⟨_,List.getElem?_eq_getElem hi⟩
  obtain ⟨sp,hsp⟩:∃ p,ps[i]?=some p:=⟨_,List.getElem?_eq_getElem (by rw [hl];exact hi)⟩
  have hsa:=hr i sp s hsp hsk
  rw [List.drop_eq_getElem_cons hi,(List.getElem_eq_iff hi).2 hsk,stmtM.go] at hgo
  obtain ⟨kb0,rfl,hkm⟩:∃ kb,A=some ⟨kb,0,none⟩∧h.m kb=some ⟨⟨ps.map ptrC⟩,128⟩:=by
   rcases hk with ⟨h1,_⟩|⟨kb,h1,_,h2⟩
   ·rw [List.map_eq_nil_iff] at h1;rw [h1] at hsp;simp at hsp
   ·exact ⟨kb,h1,h2⟩
  have hkm:=hkx _ _ hkm rfl
  have hpv:(ps.map ptrC)[0+i * 1]?=some (ptrC sp):=by
   rw [Nat.zero_add,Nat.mul_one,List.getElem?_map,hsp];rfl
  by_cases hf:u.fk=0
  ·rw [if_neg (fun hc=>hc hf)] at hgo
   obtain ⟨⟨b6,u6⟩,h6,hgo⟩:=bindS hgo
   dsimp only at hgo
   have hlu6:=stmtM_lc n _ _ _ _ h6 (hlu hf)
   rcases hrow with ⟨rfl,rfl,rfl⟩|⟨kb,cs,rfl,rfl,hkb,hcl,hkw,hkn⟩
   ·have hkm1:True:=trivial
    repeat (first|refine Y4o ?_|refine Y4d ?_|refine Yb ?_|((with_reducible apply (RS.callEx (g0:=43)));(iterate 3 exact rfl);intro B1 hB1;have hax:=ih _ _ _ _ _ sp 0 B1 h6 hf (hlu hf) (w.abs hB1).c (hsa.upX (hkx.trans (Absb.kx hB1)));refine ⟨_,hax,?_⟩;rintro v H1 π2 ⟨ob,lb1,na1,nc1,rfl,c1,kx1⟩ sp1 hle1;have kk:=(Absb.kx hB1).trans kx1)|refine Yi ?_|refine Y2g ?_|refine Y8 ?_|refine Y6 ?_|refine Yp ?_|refine Y0 ?_|refine Yt ?_|refine Y1 ?_|refine Y5 ?_)
    have hn1:h.n≤H1.n:=Nat.le_trans hBn (Nat.le_trans hB1.le hle1)
    refine roundN_n rfl fun B' a=>⟨(i+1,lb1,na1,nc1,u6,some ⟨π2 1,0,none⟩,1,capOf 1,o5++[b6]),?_,⟨by dsimp only;omega,c1.old sp1.dom ⟨a.le,a.old⟩,hkx.trans (kk.trans (Absb.kx a)),fun _=>hlu6,hgo,by dsimp only;omega,.inr ⟨π2 1,[ptrC ob],rfl,rfl,a.loc 1 (Nat.le_of_ble_eq_true rfl),rfl,Nat.le_trans a.rw (a.lo 1 (Nat.le_of_ble_eq_true rfl)),Nat.le_trans hn1 (a.lo 1 (Nat.le_of_ble_eq_true rfl))⟩,Nat.le_trans hn1 a.le⟩,by dsimp only;omega⟩
    (repeat' (first|exact trivial|exact rfl|apply And.intro));done
   ·have hkb0:=hkb
    repeat (first|refine Y4o ?_|refine Y4d ?_|refine Yb ?_|((with_reducible apply (RS.callEx (g0:=43)));(iterate 3 exact rfl);intro B1 hB1;have hax:=ih _ _ _ _ _ sp 0 B1 h6 hf (hlu hf) (w.abs hB1).c (hsa.upX (hkx.trans (Absb.kx hB1)));refine ⟨_,hax,?_⟩;rintro v H1 π2 ⟨ob,lb1,na1,nc1,rfl,c1,kx1⟩ sp1 hle1;have kk:=(Absb.kx hB1).trans kx1)|refine Yi ?_|((with_reducible apply (RS.growXL (j:=kb) (i:=0)));(iterate 6 exact rfl);exact kk _ _ hkb rfl;exact sp1.dom _ _ (kk _ _ hkb rfl);exact hkw;exact hcl.trans (Nat.mul_one m).symm;(iterate 2 exact rfl);exact Nat.le_of_ble_eq_true rfl;exact rfl;exact Nat.le_trans (Nat.mul_le_mul_right _ (show m+1≤1001 from by omega)) (Nat.le_of_ble_eq_true rfl);exact Nat.le_trans (show m+1≤1001 from by omega) (Nat.le_of_ble_eq_true rfl))|refine Y8 ?_|refine Y6 ?_|refine Yp ?_|refine Y0 ?_|refine Yt ?_|refine Y1 ?_|refine Y5 ?_)
    have hn1:h.n≤H1.n:=Nat.le_trans hBn (Nat.le_trans hB1.le hle1)
    refine roundN_n rfl fun B' a=>?_
    have upk:∀ i c,i≠kb→H1.m i=some c→B'.m i=some c:=fun i c hne hi=>a.up _ _ ((if_neg hne).trans hi)
    refine ⟨(i+1,lb1,na1,nc1,u6,some ⟨π2 1,0,none⟩,m+1,capOf 1,o5++[b6]),?_,⟨by dsimp only;omega,c1.upP (fun i c hi hk=>upk i c (elem_ne hi (kk _ _ hkb rfl) hk) hi),fun i c hi hk=>upk i c (Nat.ne_of_lt (Nat.lt_of_lt_of_le (hd0 _ _ hi) hkn)) (kk _ _ (hkx _ _ hi hk) hk),fun _=>hlu6,hgo,by dsimp only;omega,.inr ⟨π2 1,cs++[ptrC ob],rfl,rfl,a.loc 1 (Nat.le_of_ble_eq_true rfl),by rw [List.length_append,hcl];rfl,Nat.le_trans a.rw (a.lo 1 (Nat.le_of_ble_eq_true rfl)),Nat.le_trans hn1 (a.lo 1 (Nat.le_of_ble_eq_true rfl))⟩,Nat.le_trans hn1 a.le⟩,by dsimp only;omega⟩
    (repeat' (first|exact trivial|exact rfl|apply And.intro));done
  ·rw [if_pos hf] at hgo
   repeat (first|refine Y4o ?_|refine Y4d ?_|refine Y1j ?_|refine Y8 ?_|refine Y6 ?_|refine Yp ?_|refine Y0 ?_|refine Yt ?_|refine Y1 ?_|refine Y5 ?_|refine Y3 ?_)
   refine roundN_n rfl fun B' a=>⟨(i+1,lb,na,nc,u,A5,m,c5,o5),?_,⟨by dsimp only;omega,(w.abs a).c,hkx.trans (Absb.kx a),hlu,(go_bad hf).trans hgo,by dsimp only;omega,?_,Nat.le_trans hBn a.le⟩,by dsimp only;omega⟩
   ·(repeat' (first|exact trivial|exact rfl|apply And.intro));done
   ·rcases hrow with h1|⟨kb,cs,h1,h2,h3,h4,h5,h6⟩
    ·exact .inl h1
    ·exact .inr ⟨kb,cs,h1,h2,a.up _ _ h3,h4,h5,h6⟩
 ·rw [List.drop_eq_nil_of_le (by omega),stmtM.go] at hgo
  simp only [Option.some.injEq,Prod.mk.injEq] at hgo
  obtain ⟨rfl,rfl⟩:=hgo
  repeat (first|refine Y7 ?_|refine Y4 ?_|refine Y0 ?_|refine Y1t ?_|refine Y1 ?_|refine Y3 ?_|refine Yn ?_)
  exact endsK_ret _ (.cons (.tmp rfl) .nil) fun B' a=>⟨_,_,_,lb,na,nc,rfl,(w.abs a).c,hkx.trans (Absb.kx a)⟩
end
end Go.Proofs.YtgpigfcagppohaaGreatDoor
