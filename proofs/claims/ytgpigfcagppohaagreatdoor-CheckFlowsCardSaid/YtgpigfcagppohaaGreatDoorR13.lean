/-
  What the functions that the law reaches compute,told by plain data;it holds of programs that pass the check of right form and are light.
-/
import Derived.Test.YtgpigfcagppohaaGreatDoorR12
set_option linter.unusedVariables false
set_option linter.unusedSimpArgs false
namespace Go.Proofs.YtgpigfcagppohaaGreatDoor
open Go.AH
attribute [local irreducible] W RS WR
theorem set_self {B:Hp} {ob:Nat} {c:Blk} (_:B.m ob=some c) (c':Blk):(B.set ob c').m ob=some c':=if_pos rfl
section
variable {R:ExprS→CS→Option (NodeS × CS)} {h:Hp} {q:Pl} {st st':CS}
set_option maxHeartbeats 2000000 in
theorem raw_ok (HR:RawOK R) (HC:CondOK R):RawOK (rawB R):=by
 intro x st e st' hs q h xb lo c0 hx
 obtain ⟨op,p,s,tok,ty,kids⟩:=x
 obtain ⟨D,d,A,c,hxm,hD⟩:=hx.cells
 unfold rawB at hs
 dsimp only at hs
 refine EX.intro (fn:=Tryz.f153) (c:=(Tryz.f153.body.getD .skip)) Tryz.func153 (by kernel_rfl) Tryz.ntmps153 (by kernel_rfl) fun π s0=>?_
 conv=>arg 2;whnf
 have w:=NowC.start c0 s0
 by_cases h1:op=1
 ·subst h1
  rw [if_pos rfl] at hs
  split at hs
  case isFalse=>cases hs
  rename_i hc
  obtain ⟨hu,hl,hv⟩:=hc
  simp only [Option.some.injEq,Prod.mk.injEq] at hs
  obtain ⟨rfl,rfl⟩:=hs
  repeat (first|((with_reducible apply RS.load1B);(iterate 3 exact rfl);exact hxm;exact w.d _ _ hxm;exact rfl)|((with_reducible apply (RS.callEx (g0:=172)));(iterate 3 exact rfl);intro B1 hB1;have wa:=w.abs hB1;refine ⟨_,num_ex hu hl hv _ wa.o.1 (hx.upX wa.k),?_⟩;rintro v H1 π1 ⟨b1,rfl,he1,o1⟩ sp1 hle1;have kk:=(Absb.kx hB1).trans (Old.kx o1 wa.d);have w:=wa.stepO o1 sp1.dom;skip)|((with_reducible first|apply RS.nilCheck|apply RS.move|apply RS.assign|apply RS.fieldAddr|apply RS.box);iterate 3 exact rfl)|((with_reducible apply RS.cmpT);(iterate 4 exact rfl);(simp only [cmpP];omega))|((with_reducible apply RS.build);iterate 4 exact rfl)|((with_reducible apply RS.nil);exact mixed;kernel_rfl)|(with_reducible first|apply W.seq|apply W.block|apply W.ret|apply thenK_n|apply thenK_r|apply blockK_r)|((with_reducible apply W.reg);kernel_rfl)|((with_reducible apply W.condT);kernel_rfl;exact rfl))
  exact endsK_ret _ (.cons (.tmp rfl) .nil) fun B' a=>w.ends a he1
 rw [if_neg h1] at hs
 by_cases h2:op=2
 ·subst h2
  rw [if_pos rfl] at hs
  repeat (first|((with_reducible apply RS.load1B);(iterate 3 exact rfl);exact hxm;exact w.d _ _ hxm;exact rfl)|((with_reducible apply (RS.callEx (g0:=173)));(iterate 3 exact rfl);intro B1 hB1;have wa:=w.abs hB1;refine ⟨_,variable_ex hs wa.c (hx.upX wa.k),?_⟩;rintro v H1 π1 ⟨b1,rfl,he1,c1,o1,n1'⟩ sp1 hle1;have he1:=NodeAt.weak he1 wa.o.1;have kk:=(Absb.kx hB1).trans (wa.kxo o1);have w:=wa.step c1 o1 n1' sp1.dom;skip)|((with_reducible first|apply RS.nilCheck|apply RS.move|apply RS.assign|apply RS.fieldAddr|apply RS.box);iterate 3 exact rfl)|((with_reducible apply RS.cmpT);(iterate 4 exact rfl);(simp only [cmpP];omega))|((with_reducible apply RS.cmpF);(iterate 4 exact rfl);(simp only [cmpN];omega))|((with_reducible apply RS.build);iterate 4 exact rfl)|((with_reducible apply RS.nil);exact mixed;kernel_rfl)|(with_reducible first|apply W.seq|apply W.block|apply W.ret|apply thenK_n|apply thenK_r|apply blockK_r)|((with_reducible apply W.reg);kernel_rfl)|((with_reducible apply W.condT);kernel_rfl;exact rfl)|((with_reducible apply W.condF);kernel_rfl;exact rfl))
  exact endsK_ret _ (.cons (.tmp rfl) .nil) fun B' a=>w.ends a he1
 rw [if_neg h2] at hs
 by_cases h3:op=3
 ·subst h3
  rw [if_pos rfl] at hs
  repeat (first|((with_reducible apply RS.load1B);(iterate 3 exact rfl);exact hxm;exact w.d _ _ hxm;exact rfl)|((with_reducible apply (RS.callEx (g0:=174)));(iterate 3 exact rfl);intro B1 hB1;have wa:=w.abs hB1;refine ⟨_,call_ex HR hs wa.c (hx.upX wa.k),?_⟩;rintro v H1 π1 ⟨b1,rfl,he1,c1,o1,n1'⟩ sp1 hle1;have he1:=NodeAt.weak he1 wa.o.1;have kk:=(Absb.kx hB1).trans (wa.kxo o1);have w:=wa.step c1 o1 n1' sp1.dom;skip)|((with_reducible first|apply RS.nilCheck|apply RS.move|apply RS.assign|apply RS.fieldAddr|apply RS.box);iterate 3 exact rfl)|((with_reducible apply RS.cmpT);(iterate 4 exact rfl);(simp only [cmpP];omega))|((with_reducible apply RS.cmpF);(iterate 4 exact rfl);(simp only [cmpN];omega))|((with_reducible apply RS.build);iterate 4 exact rfl)|((with_reducible apply RS.nil);exact mixed;kernel_rfl)|(with_reducible first|apply W.seq|apply W.block|apply W.ret|apply thenK_n|apply thenK_r|apply blockK_r)|((with_reducible apply W.reg);kernel_rfl)|((with_reducible apply W.condT);kernel_rfl;exact rfl)|((with_reducible apply W.condF);kernel_rfl;exact rfl))
  exact endsK_ret _ (.cons (.tmp rfl) .nil) fun B' a=>w.ends a he1
 rw [if_neg h3] at hs
 by_cases h4:op=4
 ·subst h4
  rw [if_pos rfl] at hs
  unfold indexM at hs
  split at hs
  case h_2=>cases hs
  rename_i x y
  obtain ⟨⟨a,st1⟩,g1,hs⟩:=bind_some' hs
  obtain ⟨⟨b,st2⟩,g2,hs⟩:=bind_some' hs
  obtain ⟨c2,g3,hs⟩:=bind_some' hs
  obtain ⟨d2,g4,hs⟩:=bind_some' hs
  simp only [Option.some.injEq,Prod.mk.injEq] at hs
  obtain ⟨rfl,rfl⟩:=hs
  obtain ⟨g1,hf1⟩:=okM_iff g1
  obtain ⟨g2,hf2⟩:=okM_iff g2
  obtain ⟨D,d,kb,cc,p1,p2,hxm0,hkm0,hx1,hx2⟩:=hx.kids2
  have hxm:=hxm0
  have hkm:=hkm0
  repeat (first|((with_reducible apply RS.load1B);(iterate 3 exact rfl);exact hkm;exact w.d _ _ hkm;exact rfl)|((with_reducible apply (RS.indexAddrS (n:=0)));(iterate 5 exact rfl);exact Nat.le_of_ble_eq_true rfl)|((with_reducible apply (RS.indexAddrS (n:=1)));(iterate 5 exact rfl);exact Nat.le_of_ble_eq_true rfl)|((with_reducible apply (RS.callA (g0:=21)));(iterate 3 exact rfl);exact fun B' hB'=>cok_tf (w.abs hB').c.w (decide_eq_true (by assumption)))|((with_reducible apply (RS.callEx (g0:=119)));(iterate 3 exact rfl);first|intro B1 hB1;have wa:=w.abs hB1;refine ⟨_,cexpr_ex HR g1 wa.c (hx1.upX wa.k),?_⟩;rintro v H1 π1 ⟨b1,rfl,he1,c1,o1,n1'⟩ sp1 hle1;have he1:=NodeAt.weak he1 wa.o.1;have kk:=(Absb.kx hB1).trans (wa.kxo o1);have w:=wa.step c1 o1 n1' sp1.dom;have hxm:=w.k _ _ hxm0 rfl;have hkm:=w.k _ _ hkm0 rfl|intro B1 hB1;have wa:=w.abs hB1;refine ⟨_,cexpr_ex HR g2 wa.c (hx2.upX wa.k),?_⟩;rintro v H1 π1 ⟨b2,rfl,he2,c1,o1,n1'⟩ sp1 hle1;have he2:=NodeAt.weak he2 wa.o.1;have kk:=(Absb.kx hB1).trans (wa.kxo o1);have w:=wa.step c1 o1 n1' sp1.dom;have hxm:=w.k _ _ hxm0 rfl;have hkm:=w.k _ _ hkm0 rfl;have he1:=he1.up kk;have hpl:xb < H1.n:=sp1.dom _ _ hxm;have hv1:bnd H1.n (ptrC xb):=(by simp [ptrC];exact hpl))|((with_reducible apply RS.moveX);(iterate 3 exact rfl);exact hv1)|((with_reducible apply RS.nilCheckX);(iterate 3 exact rfl);(first|exact hpl))|((with_reducible apply RS.fieldAddrX);(iterate 3 exact rfl);(first|exact hpl))|((with_reducible apply RS.load1BX);(iterate 3 exact rfl);exact hxm;exact w.d _ _ hxm;exact rfl;(first|exact bnd_int _ _ _|exact bnd_bool _ _|exact bnd_string _ _))|((with_reducible apply RS.load1B);(iterate 3 exact rfl);exact hxm;exact w.d _ _ hxm;exact rfl)|((with_reducible apply (RS.callY (g0:=176)));(iterate 4 exact rfl);intro B1 hde1 hB1;have wa:=w.abs hB1;refine ⟨_,add_ex wa.c wa.o.1 (he1.up (Absb.kx hB1)) (he2.up (Absb.kx hB1)) g3,(fun v H' ⟨_,_,_,o⟩ i hi=>o.2 i (Nat.lt_of_lt_of_le hi hB1.le)),?_⟩;rintro v H1 k1 l1 ⟨b3,rfl,he3,o1⟩ sp1 hle1 hden1 hwf1 hk1;have hG1:=Nat.le_trans wa.o.1 hle1;have c1:=wa.c.old wa.d o1)|((with_reducible apply (RS.callY (g0:=175)));(iterate 4 exact rfl);intro B2 hde2 hB2;obtain rfl:=hden1.symm.trans hde2;refine ⟨_,deref_ex c1 hf2 hG1 he3 g4,(fun v H' ⟨_,_,_,o⟩ i hi=>o.2 i (Nat.lt_of_lt_of_le hi hB2.le)),?_⟩;rintro v H2 k2 l2 ⟨b4,rfl,he4,o2⟩ sp2 hle2 hden2 hwf2 hk2)|((with_reducible apply (RS.nilP mixed [(0,1),(1,2),(0,2),(2,3),(1,3),(0,3),(3,4),(2,4),(1,4),(0,4),(3,5),(2,5),(1,5),(0,5),(3,6),(2,6),(1,6),(0,6),(3,7),(2,7),(1,7),(0,7),(0,8),(8,9),(7,9),(6,9),(5,9),(4,9),(3,9),(2,9),(1,9),(0,9),(8,10),(7,10),(6,10),(5,10),(4,10),(3,10),(2,10),(1,10),(0,10),(8,11),(7,11),(6,11),(5,11),(4,11),(3,11),(2,11),(1,11),(0,11),(8,12),(7,12),(6,12),(5,12),(4,12),(3,12),(2,12),(1,12),(0,12)]));kernel_rfl;(repeat (refine ⟨fun x y hx hy=>(by obtain rfl:=Option.some.inj hx;obtain rfl:=Option.some.inj hy;(unfold pairR crossB;simp [recY,recP,recN,recN2,noneB,outO,outR,memL])),?_⟩));exact trivial;exact rfl)|((with_reducible first|apply RS.nilCheck|apply RS.move|apply RS.assign|apply RS.not|apply RS.fieldAddr|apply RS.box);iterate 3 exact rfl)|((with_reducible apply RS.cmpT);(iterate 4 exact rfl);(simp only [cmpP];omega))|((with_reducible apply RS.cmpF);(iterate 4 exact rfl);(simp only [cmpN];omega))|((with_reducible apply RS.build);iterate 4 exact rfl)|((with_reducible apply RS.nil);exact mixed;kernel_rfl)|(with_reducible first|apply W.seq|apply W.block|apply W.ret|apply W.skip|apply thenK_n|apply thenK_r|apply blockK_r)|((with_reducible apply W.reg);kernel_rfl)|((with_reducible apply W.condT);kernel_rfl;exact rfl)|((with_reducible apply W.condF);kernel_rfl;exact rfl))
  exact endsK_ret _ (.cons (.tmp rfl) .nil) fun B' a2=>⟨_,rfl,he4.up (KeptX.of (den_upC hden2 a2 (Nat.le_refl _) fun _ _=>rfl)),(w.abs a2).c,(w.abs a2).o,(w.abs a2).n⟩
 rw [if_neg h4] at hs
 by_cases h7:op=7
 ·subst h7
  rw [if_pos rfl] at hs
  repeat (first|((with_reducible apply (RS.callEx (g0:=179)));(iterate 3 exact rfl);intro B1 hB1;have wa:=w.abs hB1;refine ⟨_,unary_ex HR hs wa.c (hx.upX wa.k),?_⟩;rintro v H1 π1 ⟨b1,rfl,he1,c1,o1,n1'⟩ sp1 hle1;have he1:=NodeAt.weak he1 wa.o.1;have kk:=(Absb.kx hB1).trans (wa.kxo o1);have w:=wa.step c1 o1 n1' sp1.dom;skip)|((with_reducible apply RS.load1B);(iterate 3 exact rfl);exact hxm;exact w.d _ _ hxm;exact rfl)|((with_reducible first|apply RS.nilCheck|apply RS.move|apply RS.assign|apply RS.fieldAddr|apply RS.box);iterate 3 exact rfl)|((with_reducible apply RS.cmpT);(iterate 4 exact rfl);(simp only [cmpP];omega))|((with_reducible apply RS.cmpF);(iterate 4 exact rfl);(simp only [cmpN];omega))|((with_reducible apply RS.build);iterate 4 exact rfl)|((with_reducible apply RS.nil);exact mixed;kernel_rfl)|(with_reducible first|apply W.seq|apply W.block|apply W.ret|apply thenK_n|apply thenK_r|apply blockK_r)|((with_reducible apply W.reg);kernel_rfl)|((with_reducible apply W.condT);kernel_rfl;exact rfl)|((with_reducible apply W.condF);kernel_rfl;exact rfl))
  exact endsK_ret _ (.cons (.tmp rfl) .nil) fun B' a=>w.ends a he1
 rw [if_neg h7] at hs
 by_cases h11:op=11
 ·subst h11
  rw [if_pos rfl] at hs
  unfold castM at hs
  split at hs
  case h_2=>cases hs
  rename_i x
  split at hs
  case h_2=>cases hs
  rename_i l hty
  obtain ⟨⟨e1,le,st1⟩,g1,hs⟩:=bind_some' hs
  simp only [Option.some.injEq,Prod.mk.injEq] at hs
  obtain ⟨rfl,rfl⟩:=hs
  obtain ⟨_,hf1,hta⟩:=intM_iff g1
  obtain ⟨D,d,kb,cc,p1,hxm0,hkm0,hx1,hD⟩:=hx.kids1
  have hxm:=hxm0
  have hkm:=hkm0
  obtain ⟨sz,sg,sc⟩:=l
  have hst:st1=st:=by
   obtain ⟨_,hp1m,_⟩:=hx1.at
   obtain ⟨_,_,_,_,_,_,_,_,n⟩:=integer_ex HR g1 c0 hx1 s0 (by
    intro v hv
    simp only [List.mem_cons,List.not_mem_nil,or_false] at hv
    rcases hv with rfl|rfl
    ·exact w.cv
    ·simp [ptrC];exact s0.dom _ _ hp1m)
   exact (n hf1).1
  have hf0:st.fk=0:=by rw [← hst];exact hf1
  cases sc
  all_goals repeat (first|((with_reducible apply RS.load1B);(iterate 3 exact rfl);exact hkm;exact w.d _ _ hkm;exact rfl)|((with_reducible apply (RS.indexAddrS (n:=0)));(iterate 5 exact rfl);exact Nat.le_of_ble_eq_true rfl)|((with_reducible apply (RS.callA (g0:=21)));(iterate 3 exact rfl);exact fun B' hB'=>cok_tf (w.abs hB').c.w (decide_eq_true (by assumption)))|((with_reducible apply RS.load1B);(iterate 3 exact rfl);exact hxm;exact w.d _ _ hxm;exact rfl)|((with_reducible apply (RS.callEx (g0:=34)));(iterate 3 exact rfl);intro B1 hB1;have wa:=w.abs hB1;refine ⟨_,typ_ex hty (hD.upX wa.k rfl) _,?_⟩;rintro v H1 π1 ⟨tyb,rfl,_,o1⟩ sp1 hle1;have w:=wa.stepO o1 sp1.dom;have hxm:=w.k _ _ hxm0 rfl;have hkm:=w.k _ _ hkm0 rfl;have hn0:=w.o.1)|((with_reducible apply RS.loadNB);(iterate 3 exact rfl);exact hxm;exact w.d _ _ hxm;exact Nat.le_of_ble_eq_true rfl;exact rfl)|((with_reducible apply (RS.callEx (g0:=124)));(iterate 3 exact rfl);intro B1 hB1;have wa:=w.abs hB1;refine ⟨_,integer_ex HR g1 wa.c (hx1.upX wa.k),?_⟩;rintro v H1 π1 ⟨b1,rfl,he1,c1,o1,n1'⟩ sp1 hle1;have he1:=NodeAt.weak he1 wa.o.1;have kk:=(Absb.kx hB1).trans (wa.kxo o1);have w:=wa.step c1 o1 n1' sp1.dom;have h11a:B1.m _=some ⟨⟨intC ⟨sz,sg,_⟩⟩,71⟩:=hB1.loc 0 (Nat.le_of_ble_eq_true rfl);have h11:=(wa.kxo o1) _ _ h11a rfl;have tlo:=Nat.le_trans hn0 (hB1.lo 0 (Nat.le_of_ble_eq_true rfl));have trw:=Nat.le_trans hB1.rw (hB1.lo 0 (Nat.le_of_ble_eq_true rfl));have hxm:=w.k _ _ hxm0 rfl;obtain ⟨tb1,tx1,nu1,re1,A1,n1,c1',hma,_⟩:=he1.cells;rw [hta] at hma)|((with_reducible apply RS.load1B);(iterate 3 exact rfl);first|exact hma;exact w.d _ _ hma;exact rfl|exact h11;exact w.d _ _ h11;exact rfl)|((with_reducible apply RS.loadNB);(iterate 3 exact rfl);exact h11;exact w.d _ _ h11;exact Nat.le_of_ble_eq_true rfl;exact rfl)|((with_reducible apply RS.buildSlice);iterate 8 exact rfl)|((with_reducible apply (RS.storeB (cs':=intC ⟨sz,sg,true⟩)));(iterate 3 exact rfl);exact h11;exact w.d _ _ h11;exact trw;exact Nat.le_of_ble_eq_true rfl;(iterate 3 exact rfl);(have hn1:=he1.t.other (cs':=⟨intC ⟨sz,sg,true⟩⟩) h11 rfl rfl);(have w:=w.fresh c0 hf1 (c':=⟨⟨intC ⟨sz,sg,true⟩⟩,71⟩) h11 tlo s0.dom);(have h11:=set_self h11 ⟨⟨intC ⟨sz,sg,true⟩⟩,71⟩);(have hxm:=w.k _ _ hxm0 rfl))|((with_reducible apply (RS.storeB (cs':=intC ⟨sz,sg,le.sec⟩)));(iterate 3 exact rfl);exact h11;exact w.d _ _ h11;exact trw;exact Nat.le_of_ble_eq_true rfl;(iterate 3 exact rfl);(have hn1:=he1.t.other (cs':=⟨intC ⟨sz,sg,le.sec⟩⟩) h11 rfl rfl);(have w:=w.fresh c0 hf1 (c':=⟨⟨intC ⟨sz,sg,le.sec⟩⟩,71⟩) h11 tlo s0.dom);(have h11:=set_self h11 ⟨⟨intC ⟨sz,sg,le.sec⟩⟩,71⟩);(have hxm:=w.k _ _ hxm0 rfl))|((with_reducible first|apply RS.nilCheck|apply RS.move|apply RS.assign|apply RS.not|apply RS.fieldAddr|apply RS.box);iterate 3 exact rfl)|((with_reducible apply RS.pickT);iterate 4 exact rfl)|((with_reducible apply RS.pickF);iterate 4 exact rfl)|((with_reducible apply RS.cmpT);(iterate 4 exact rfl);(simp only [cmpP];omega))|((with_reducible apply RS.cmpF);(iterate 4 exact rfl);(simp only [cmpN];omega))|((with_reducible apply RS.cmpC);iterate 5 exact rfl)|((with_reducible apply RS.load1);iterate 6 exact rfl)|((with_reducible apply RS.store);(iterate 5 exact rfl);exact Nat.le_of_ble_eq_true rfl;iterate 3 exact rfl)|((with_reducible apply RS.alloc);iterate 2 exact rfl)|((with_reducible apply RS.build);iterate 4 exact rfl)|((with_reducible apply RS.skip);iterate 2 exact rfl)|((with_reducible apply RS.nil);exact mixed;kernel_rfl)|(with_reducible first|apply W.seq|apply W.block|apply W.ret|apply W.skip|apply thenK_n|apply thenK_r|apply blockK_r)|((with_reducible apply W.reg);kernel_rfl)|((with_reducible apply W.condT);kernel_rfl;exact rfl)|((with_reducible apply W.condF);kernel_rfl;exact rfl))
  all_goals exact endsK_ret _ (.cons (.tmp rfl) .nil) fun B' a=>⟨_,rfl,node1T (tb:=0) (a.loc _ (Nat.le_of_ble_eq_true rfl)) (alo a w.o.1 _ rfl) trivial (a.loc _ (Nat.le_of_ble_eq_true rfl)) (alo a w.o.1 _ rfl) (hn1.upW (fun i c hc _ _=>a.up i c hc) (Nat.le_refl _)),(w.abs a).c,(w.abs a).o,(w.abs a).n⟩
 rw [if_neg h11] at hs
 by_cases h12:op=12
 ·subst h12
  rw [if_pos rfl] at hs
  repeat (first|((with_reducible apply (RS.callEx (g0:=184)));(iterate 3 exact rfl);intro B1 hB1;have wa:=w.abs hB1;refine ⟨_,binary_ex HR hs wa.c (hx.upX wa.k),?_⟩;rintro v H1 π1 ⟨b1,rfl,he1,c1,o1,n1'⟩ sp1 hle1;have he1:=NodeAt.weak he1 wa.o.1;have kk:=(Absb.kx hB1).trans (wa.kxo o1);have w:=wa.step c1 o1 n1' sp1.dom;skip)|((with_reducible apply RS.load1B);(iterate 3 exact rfl);exact hxm;exact w.d _ _ hxm;exact rfl)|((with_reducible first|apply RS.nilCheck|apply RS.move|apply RS.assign|apply RS.fieldAddr|apply RS.box);iterate 3 exact rfl)|((with_reducible apply RS.cmpF);(iterate 4 exact rfl);(simp only [cmpN];omega))|((with_reducible apply RS.build);iterate 4 exact rfl)|((with_reducible apply RS.nil);exact mixed;kernel_rfl)|(with_reducible first|apply W.seq|apply W.block|apply W.ret|apply W.skip|apply thenK_n|apply blockK_n)|((with_reducible apply W.reg);kernel_rfl)|((with_reducible apply W.condF);kernel_rfl;exact rfl))
  exact endsK_ret _ (.cons (.tmp rfl) .nil) fun B' a=>w.ends a he1
 rw [if_neg h12] at hs
 by_cases h13:op=13
 ·subst h13
  rw [if_pos rfl] at hs
  repeat (first|((with_reducible apply (RS.callEx (g0:=181)));(iterate 3 exact rfl);intro B1 hB1;have wa:=w.abs hB1;refine ⟨_,logic_ex HR hs wa.c (hx.upX wa.k),?_⟩;rintro v H1 π1 ⟨b1,rfl,he1,c1,o1,n1'⟩ sp1 hle1;have he1:=NodeAt.weak he1 wa.o.1;have kk:=(Absb.kx hB1).trans (wa.kxo o1);have w:=wa.step c1 o1 n1' sp1.dom;skip)|((with_reducible apply RS.load1B);(iterate 3 exact rfl);exact hxm;exact w.d _ _ hxm;exact rfl)|((with_reducible first|apply RS.nilCheck|apply RS.move|apply RS.assign|apply RS.fieldAddr|apply RS.box);iterate 3 exact rfl)|((with_reducible apply RS.cmpT);(iterate 4 exact rfl);(simp only [cmpP];omega))|((with_reducible apply RS.cmpF);(iterate 4 exact rfl);(simp only [cmpN];omega))|((with_reducible apply RS.build);iterate 4 exact rfl)|((with_reducible apply RS.nil);exact mixed;kernel_rfl)|(with_reducible first|apply W.seq|apply W.block|apply W.ret|apply W.skip|apply thenK_n|apply thenK_r|apply blockK_r)|((with_reducible apply W.reg);kernel_rfl)|((with_reducible apply W.condT);kernel_rfl;exact rfl)|((with_reducible apply W.condF);kernel_rfl;exact rfl))
  exact endsK_ret _ (.cons (.tmp rfl) .nil) fun B' a=>w.ends a he1
 rw [if_neg h13] at hs
 by_cases h15:op=15
 ·subst h15
  rw [if_pos rfl] at hs
  repeat (first|((with_reducible apply (RS.callEx (g0:=182)));(iterate 3 exact rfl);intro B1 hB1;have wa:=w.abs hB1;refine ⟨_,HC _ _ _ _ _ hs _ _ _ _ _ _ _ wa.c (hx.upX wa.k),?_⟩;rintro v H1 π1 ⟨b1,rfl,he1,c1,o1,n1'⟩ sp1 hle1;have he1:=NodeAt.weak he1 wa.o.1;have kk:=(Absb.kx hB1).trans (wa.kxo o1);have w:=wa.step c1 o1 n1' sp1.dom;skip)|((with_reducible apply RS.load1B);(iterate 3 exact rfl);exact hxm;exact w.d _ _ hxm;exact rfl)|((with_reducible first|apply RS.nilCheck|apply RS.move|apply RS.assign|apply RS.fieldAddr|apply RS.box);iterate 3 exact rfl)|((with_reducible apply RS.cmpT);(iterate 4 exact rfl);(simp only [cmpP];omega))|((with_reducible apply RS.cmpF);(iterate 4 exact rfl);(simp only [cmpN];omega))|((with_reducible apply RS.build);iterate 4 exact rfl)|((with_reducible apply RS.nil);exact mixed;kernel_rfl)|(with_reducible first|apply W.seq|apply W.block|apply W.ret|apply thenK_n|apply thenK_r|apply blockK_r)|((with_reducible apply W.reg);kernel_rfl)|((with_reducible apply W.condT);kernel_rfl;exact rfl)|((with_reducible apply W.condF);kernel_rfl;exact rfl))
  exact endsK_ret _ (.cons (.tmp rfl) .nil) fun B' a=>w.ends a he1
 rw [if_neg h15] at hs
 by_cases h16:op=16
 ·subst h16
  rw [if_pos rfl] at hs
  repeat (first|((with_reducible apply (RS.callEx (g0:=183)));(iterate 3 exact rfl);intro B1 hB1;have wa:=w.abs hB1;refine ⟨_,becomes_ex HR hs wa.c (hx.upX wa.k),?_⟩;rintro v H1 π1 ⟨b1,rfl,he1,c1,o1,n1'⟩ sp1 hle1;have he1:=NodeAt.weak he1 wa.o.1;have kk:=(Absb.kx hB1).trans (wa.kxo o1);have w:=wa.step c1 o1 n1' sp1.dom;skip)|((with_reducible apply RS.load1B);(iterate 3 exact rfl);exact hxm;exact w.d _ _ hxm;exact rfl)|((with_reducible first|apply RS.nilCheck|apply RS.move|apply RS.assign|apply RS.fieldAddr|apply RS.box);iterate 3 exact rfl)|((with_reducible apply RS.cmpT);(iterate 4 exact rfl);(simp only [cmpP];omega))|((with_reducible apply RS.cmpF);(iterate 4 exact rfl);(simp only [cmpN];omega))|((with_reducible apply RS.build);iterate 4 exact rfl)|((with_reducible apply RS.nil);exact mixed;kernel_rfl)|(with_reducible first|apply W.seq|apply W.block|apply W.ret|apply thenK_n|apply thenK_r|apply blockK_r)|((with_reducible apply W.reg);kernel_rfl)|((with_reducible apply W.condT);kernel_rfl;exact rfl)|((with_reducible apply W.condF);kernel_rfl;exact rfl))
  exact endsK_ret _ (.cons (.tmp rfl) .nil) fun B' a=>w.ends a he1
 rw [if_neg h16] at hs
 cases hs
end
theorem set_selfC {B:Hp} {ob:Nat} {c:Blk} (_:B.m ob=some c) (c':Blk):(B.set ob c').m ob=some c':=if_pos rfl
section
variable {R:ExprS→CS→Option (NodeS × CS)} {h:Hp} {q:Pl} {st st':CS}
set_option maxHeartbeats 4000000 in
theorem cond_ok (HR:RawOK R):CondOK R:=by
 intro p kids st e st' hs q h xb lo s tok ty c0 hx
 unfold condM at hs
 split at hs
 case h_2=>cases hs
 rename_i x y z
 obtain ⟨⟨qn,sq,st1⟩,h1,hs⟩:=bind_some' hs
 obtain ⟨⟨a,la,st2⟩,h2,hs⟩:=bind_some' hs
 obtain ⟨⟨b,lb,st3⟩,h3,hs⟩:=bind_some' hs
 obtain ⟨v,hv,hs⟩:=bind_some' hs
 obtain ⟨w',hw,hs⟩:=bind_some' hs
 simp only [Option.some.injEq,Prod.mk.injEq] at hs
 obtain ⟨rfl,rfl⟩:=hs
 obtain ⟨e0,l0,h1e,hf1,_,e1,e2⟩:=truthM_iff h1
 rw [e1,e2] at h1
 rw [e1] at hv hw ⊢
 rw [e2]
 generalize (l0.sec || e0.hid)=sq at *
 clear e1 e2
 obtain ⟨h2,hf2,ht2⟩:=intM_iff h2
 obtain ⟨h3,hf3,ht3⟩:=intM_iff h3
 refine EX.intro (fn:=Tryz.f182) (c:=(Tryz.f182.body.getD .skip)) Tryz.func182 (by kernel_rfl) Tryz.ntmps182 (by kernel_rfl) fun π s0=>?_
 conv=>arg 2;whnf
 have w:=NowC.start c0 s0
 obtain ⟨D,d,kb,cc,p1,p2,p3,hxm0,hkm0,hx1,hx2,hx3⟩:=hx.kids3
 have hxm:=hxm0
 have hkm:=hkm0
 obtain ⟨cm,hcm⟩:∃ x,commonS la lb=x:=⟨_,rfl⟩
 have hcs:(la.sec || lb.sec)=cm.sec:=by rw [← hcm];rfl
 have hco:∀ H,TF Tryz.prog 200 ⟨[.agg ⟨intC la⟩,.agg ⟨intC lb⟩]⟩ H (.agg ⟨intC cm⟩) H:=fun H=>by rw [← hcm];exact common_tf la lb H
 simp only [hcm,hcs] at hv hw ⊢
 clear hcm hcs
 obtain ⟨cz,cg,cs⟩:=cm
 obtain ⟨la',e1,hv⟩:=convS_iff hv
 obtain ⟨lb',e2,hw⟩:=convS_iff hw
 obtain rfl:la=la':=by rw [ht2] at e1;injection e1
 obtain rfl:lb=lb':=by rw [ht3] at e2;injection e2
 dsimp only at hv hw ⊢
 cases cs
 all_goals
  simp only [Bool.false_or,Bool.true_or] at hv hw ⊢
  rcases hv with ⟨k1,rfl⟩|⟨k1,rfl⟩
  all_goals
   rcases hw with ⟨k2,rfl⟩|⟨k2,rfl⟩
   all_goals repeat (first|((with_reducible apply RS.load1B);(iterate 3 exact rfl);first|exact hxm;exact w.d _ _ hxm;exact rfl|exact hkm;exact w.d _ _ hkm;exact rfl)|((with_reducible apply (RS.indexAddrS (n:=0)));(iterate 5 exact rfl);exact Nat.le_of_ble_eq_true rfl)|((with_reducible apply (RS.indexAddrS (n:=1)));(iterate 5 exact rfl);exact Nat.le_of_ble_eq_true rfl)|((with_reducible apply (RS.indexAddrS (n:=2)));(iterate 5 exact rfl);exact Nat.le_of_ble_eq_true rfl)|((with_reducible apply (RS.callA (g0:=21)));(iterate 3 exact rfl);exact fun B' hB'=>cok_tf (w.abs hB').c.w (decide_eq_true (by assumption)))|((with_reducible apply (W.rounds 3)))|((with_reducible apply WR.step))|((with_reducible apply roundR_n))|((with_reducible apply roundR_e))|((with_reducible apply (RS.indexAddrArr (m:=0)));(iterate 4 exact rfl);exact Nat.le_of_ble_eq_true rfl)|((with_reducible apply (RS.indexAddrArr (m:=1)));(iterate 4 exact rfl);exact Nat.le_of_ble_eq_true rfl)|((with_reducible apply (RS.callEx (g0:=81)));(iterate 3 exact rfl);intro B1 hB1;have wa:=w.abs hB1;refine ⟨_,truth_ex HR h1 wa.c (hx1.upX wa.k),?_⟩;rintro v H1 π1 ⟨b1,rfl,he1,c1,o1,n1'⟩ sp1 hle1;have he1:=NodeAt.weak he1 wa.o.1;have kk:=(Absb.kx hB1).trans (wa.kxo o1);have w:=wa.step c1 o1 n1' sp1.dom;have hxm:=w.k _ _ hxm0 rfl;have hkm:=w.k _ _ hkm0 rfl;have hn0:=w.o.1)|((with_reducible apply (RS.callEx (g0:=119)));(iterate 3 exact rfl);first|intro B1 hB1;have wa:=w.abs hB1;refine ⟨_,cexpr_ex HR h2 wa.c (hx2.upX wa.k),?_⟩;rintro v H1 π1 ⟨b2,rfl,he2,c1,o1,n1'⟩ sp1 hle1;have he2:=NodeAt.weak he2 wa.o.1;have kk:=(Absb.kx hB1).trans (wa.kxo o1);have w:=wa.step c1 o1 n1' sp1.dom;have hxm:=w.k _ _ hxm0 rfl;have hkm:=w.k _ _ hkm0 rfl;have he1:=he1.up kk;have h6a:B1.m _=some ⟨⟨[.pointer none,.pointer none]⟩,_⟩:=hB1.loc 0 (Nat.le_of_ble_eq_true rfl);have h6:=(wa.kxo o1) _ _ h6a rfl;have tlo:=Nat.le_trans hn0 (hB1.lo 0 (Nat.le_of_ble_eq_true rfl));have trw:=Nat.le_trans hB1.rw (hB1.lo 0 (Nat.le_of_ble_eq_true rfl))|intro B1 hB1;have wa:=w.abs hB1;refine ⟨_,cexpr_ex HR h3 wa.c (hx3.upX wa.k),?_⟩;rintro v H1 π1 ⟨b3,rfl,he3,c1,o1,n1'⟩ sp1 hle1;have he3:=NodeAt.weak he3 wa.o.1;have kk:=(Absb.kx hB1).trans (wa.kxo o1);have w:=wa.step c1 o1 n1' sp1.dom;have hxm:=w.k _ _ hxm0 rfl;have hkm:=w.k _ _ hkm0 rfl;have he1:=he1.up kk;have he2:=he2.up kk;have h6:=kk _ _ h6 rfl;obtain ⟨tb1,tx1,nu1,re1,A1,n1,c1',hm1,_⟩:=he1.cells;obtain ⟨tb2,tx2,nu2,re2,A2,n2,c2',hm2,_⟩:=he2.cells;obtain ⟨tb3,tx3,nu3,re3,A3,n3,c3',hm3,_⟩:=he3.cells;rw [ht2] at hm2;rw [ht3] at hm3)|((with_reducible apply RS.load1B);(iterate 3 exact rfl);exact h6;exact w.d _ _ h6;exact rfl)|((with_reducible apply (RS.storeB (cs':=[ptrC b2,ptrC b3])));(iterate 3 exact rfl);exact h6;exact w.d _ _ h6;exact trw;exact Nat.le_of_ble_eq_true rfl;(iterate 3 exact rfl);(have he1:=he1.other (cs':=⟨[ptrC b2,ptrC b3]⟩) h6 rfl rfl rfl);(have he2:=he2.other (cs':=⟨[ptrC b2,ptrC b3]⟩) h6 rfl rfl rfl);(have he3:=he3.other (cs':=⟨[ptrC b2,ptrC b3]⟩) h6 rfl rfl rfl);(have w:=w.fresh c0 hf3 (c':=⟨⟨[ptrC b2,ptrC b3]⟩,299⟩) h6 tlo s0.dom);(have h6:=set_selfC h6 ⟨⟨[ptrC b2,ptrC b3]⟩,299⟩);(have hxm:=w.k _ _ hxm0 rfl);(have hkm:=w.k _ _ hkm0 rfl);(obtain ⟨tb1,tx1,nu1,re1,A1,n1,c1',hm1,_⟩:=he1.cells);(obtain ⟨tb2,tx2,nu2,re2,A2,n2,c2',hm2,_⟩:=he2.cells);(obtain ⟨tb3,tx3,nu3,re3,A3,n3,c3',hm3,_⟩:=he3.cells);(rw [ht2] at hm2);(rw [ht3] at hm3))|((with_reducible apply (RS.storeB (cs':=[ptrC b2,.pointer none])));(iterate 3 exact rfl);exact h6;exact w.d _ _ h6;exact trw;exact Nat.le_of_ble_eq_true rfl;(iterate 3 exact rfl);(have he1:=he1.other (cs':=⟨[ptrC b2,.pointer none]⟩) h6 rfl rfl rfl);(have he2:=he2.other (cs':=⟨[ptrC b2,.pointer none]⟩) h6 rfl rfl rfl);(have w:=w.fresh c0 hf2 (c':=⟨⟨[ptrC b2,.pointer none]⟩,299⟩) h6 tlo s0.dom);(have h6:=set_selfC h6 ⟨⟨[ptrC b2,.pointer none]⟩,299⟩);(have hxm:=w.k _ _ hxm0 rfl);(have hkm:=w.k _ _ hkm0 rfl))|((with_reducible apply RS.load1B);(iterate 3 exact rfl);first|exact hm2;exact w.d _ _ hm2;exact rfl|exact hm3;exact w.d _ _ hm3;exact rfl)|((with_reducible apply RS.loadNB);(iterate 3 exact rfl);first|exact hm2;exact w.d _ _ hm2;exact Nat.le_of_ble_eq_true rfl;exact rfl|exact hm3;exact w.d _ _ hm3;exact Nat.le_of_ble_eq_true rfl;exact rfl)|((with_reducible apply (RS.callP (g0:=200)));(iterate 3 exact rfl);exact fun H=>hco H;exact Nm_free (intC_free _))|((with_reducible apply RS.load1B);(iterate 3 exact rfl);exact hm1;exact w.d _ _ hm1;exact rfl)|((with_reducible apply RS.buildSlice);iterate 8 exact rfl)|((with_reducible apply RS.moveX);(iterate 3 exact rfl);(first|exact w.cv|exact (by simp [ptrC];exact w.d _ _ hm2)|exact (by simp [ptrC];exact w.d _ _ hm3)))|((with_reducible apply (RS.moveP (i:=0)));iterate 3 exact rfl)|((with_reducible apply (RS.nilCheckP (i:=0)));iterate 3 exact rfl)|((with_reducible apply (RS.fieldAddrP (i:=0)));iterate 3 exact rfl)|((with_reducible apply RS.loadF);(iterate 5 exact rfl);first|exact Nat.le_of_ble_eq_true rfl;exact intC_free ⟨cz,cg,sq⟩|exact Nat.le_of_ble_eq_true rfl;exact intC_free ⟨cz,cg,true⟩)|((with_reducible apply (RS.callR (g0:=126) true [] none));(iterate 3 exact rfl);first|exact fun H hH=>conv_same_tf (l:=⟨cz,cg,sq⟩) (ptrC q.cb) (Sees.at hH hm2 (w.d _ _ hm2)) k1;exact trivial|exact fun H hH=>conv_same_tf (l:=⟨cz,cg,true⟩) (ptrC q.cb) (Sees.at hH hm2 (w.d _ _ hm2)) k1;exact trivial)|((with_reducible apply (RS.callN2 (g0:=126) true []));(iterate 3 exact rfl);first|exact fun H hH hn hk=>(by have:=conv_new_tf (l:=⟨cz,cg,sq⟩) (ptrC q.cb) (Sees.at hH hm2 (w.d _ _ hm2)) k1;rw [hn,← hk] at this;exact this)|exact fun H hH hn hk=>(by have:=conv_new_tf (l:=⟨cz,cg,true⟩) (ptrC q.cb) (Sees.at hH hm2 (w.d _ _ hm2)) k1;rw [hn,← hk] at this;exact this))|((with_reducible apply (RS.callR (g0:=126) true [] none));(iterate 3 exact rfl);first|exact fun H hH=>conv_same_tf (l:=⟨cz,cg,sq⟩) (ptrC q.cb) (Sees.at hH hm3 (w.d _ _ hm3)) k2;exact trivial|exact fun H hH=>conv_same_tf (l:=⟨cz,cg,true⟩) (ptrC q.cb) (Sees.at hH hm3 (w.d _ _ hm3)) k2;exact trivial)|((with_reducible apply (RS.callN2 (g0:=126) true []));(iterate 3 exact rfl);first|exact fun H hH hn hk=>(by have:=conv_new_tf (l:=⟨cz,cg,sq⟩) (ptrC q.cb) (Sees.at hH hm3 (w.d _ _ hm3)) k2;rw [hn,← hk] at this;exact this)|exact fun H hH hn hk=>(by have:=conv_new_tf (l:=⟨cz,cg,true⟩) (ptrC q.cb) (Sees.at hH hm3 (w.d _ _ hm3)) k2;rw [hn,← hk] at this;exact this))|((with_reducible first|apply RS.nilCheck|apply RS.move|apply RS.assign|apply RS.not|apply RS.fieldAddr|apply RS.box);iterate 3 exact rfl)|((with_reducible apply RS.pickT);iterate 4 exact rfl)|((with_reducible apply RS.pickF);iterate 4 exact rfl)|((with_reducible apply RS.cmpT);(iterate 4 exact rfl);(simp only [cmpP];omega))|((with_reducible apply RS.cmpF);(iterate 4 exact rfl);(simp only [cmpN];omega))|((with_reducible apply RS.cmpC);iterate 5 exact rfl)|((with_reducible apply RS.binFit);(iterate 5 exact rfl);omega)|((with_reducible apply RS.load1);iterate 6 exact rfl)|((with_reducible apply RS.store);(iterate 5 exact rfl);exact Nat.le_of_ble_eq_true rfl;iterate 3 exact rfl)|((with_reducible apply RS.alloc);iterate 2 exact rfl)|((with_reducible apply RS.build);iterate 4 exact rfl)|((with_reducible apply RS.skip);iterate 2 exact rfl)|((with_reducible apply RS.nil);exact mixed;kernel_rfl)|(with_reducible first|apply W.seq|apply W.block|apply W.exit|apply W.ret|apply W.skip|apply thenK_n|apply thenK_e|apply blockK_n)|((with_reducible apply W.reg);kernel_rfl)|((with_reducible apply W.condT);kernel_rfl;exact rfl)|((with_reducible apply W.condF);kernel_rfl;exact rfl)|((with_reducible apply blockK_hit);exact rfl))
   all_goals
    refine endsK_ret _ (.cons (.tmp rfl) .nil) fun B' a=>⟨_,rfl,node3 (tb:=0) (a.loc _ (Nat.le_of_ble_eq_true rfl)) (alo a w.o.1 _ rfl) trivial (a.loc _ (Nat.le_of_ble_eq_true rfl)) (alo a w.o.1 _ rfl) (he1.up (Absb.kx a)) ?_ ?_,(w.abs a).c,(w.abs a).o,(w.abs a).n⟩
    ·first|exact he2.up (Absb.kx a)|exact node1 (tb:=0) (a.loc _ (Nat.le_of_ble_eq_true rfl)) (alo a w.o.1 _ rfl) trivial (a.loc _ (Nat.le_of_ble_eq_true rfl)) (alo a w.o.1 _ rfl) (he2.up (Absb.kx a))
    ·first|exact he3.up (Absb.kx a)|exact node1 (tb:=0) (a.loc _ (Nat.le_of_ble_eq_true rfl)) (alo a w.o.1 _ rfl) trivial (a.loc _ (Nat.le_of_ble_eq_true rfl)) (alo a w.o.1 _ rfl) (he3.up (Absb.kx a))
end
end Go.Proofs.YtgpigfcagppohaaGreatDoor
