/-
  What the functions that the law reaches compute,told by plain data;it holds of programs that pass the check of right form and are light.
-/
import Derived.Test.YtgpigfcagppohaaGreatDoorR11
set_option linter.unusedVariables false
set_option linter.unusedSimpArgs false
namespace Go.Proofs.YtgpigfcagppohaaGreatDoor
open Go.AH
attribute [local irreducible] W RS WR
theorem push2_old {h:Hp} {b1 b2:Blk}:Old h ((h.push b1).push b2):=⟨Nat.le_trans (Nat.le_succ _) (Nat.le_succ _),fun i hi=>by
 show (if i=h.n+1 then some b2 else if i=h.n then some b1 else h.m i)=_
 rw [if_neg (by omega),if_neg (by omega)]⟩
theorem conv_ex {h:Hp} {lo b:Nat} {e x:NodeS} {l:LfS} (hlo:lo≤h.n) (he:NodeAt h lo b e) (hs:convS e l=some x) (C:Value):EX Tryz.prog 126 [C,ptrC b,.agg ⟨intC l⟩] h (PureQ lo h x):=by
 obtain ⟨le,hty,hx⟩:=convS_iff hs
 obtain ⟨tb1,tx1,nu1,re1,A1,n1,c1',hma,_⟩:=he.cells
 rw [hty] at hma
 rcases hx with ⟨h1,rfl⟩|⟨h1,rfl⟩
 ·refine (TF.ex (conv_same_tf C hma h1)).mono ?_
  rintro v h' _ ⟨rfl,rfl⟩
  exact ⟨b,rfl,he,Nat.le_refl _,fun _ _=>rfl⟩
 ·refine (TF.ex (conv_new_tf C hma h1)).mono ?_
  rintro v h' s ⟨rfl,rfl⟩
  refine ⟨h.n+1,rfl,node1 (tb:=0) (show (if h.n+1=h.n+1 then _ else _)=_ from if_pos rfl) (by omega) trivial (kb:=h.n) ?_ hlo (he.up (Old.kx push2_old s.dom)),push2_old⟩
  show (if h.n=h.n+1 then _ else if h.n=h.n then _ else _)=_
  rw [if_neg (by omega),if_pos rfl]
section
variable {R:ExprS→CS→Option (NodeS × CS)} {h:Hp} {q:Pl} {st st':CS}
set_option maxHeartbeats 1000000 in
theorem unary_ex (HR:RawOK R) {p:Nat} {kids:List ExprS} {e:NodeS} {s:ByteArray} (hs:unaryM R p s kids st=some (e,st')) {xb lo:Nat} {tok:TokS} {ty:TypeS} (c0:ChkF h q st) (hx:ExprAt h lo xb (.mk 7 p s tok ty kids)):EX Tryz.prog 179 [ptrC q.cb,ptrC xb] h (RawQ q st h e st'):=by
 unfold unaryM at hs
 split at hs
 case h_2=>cases hs
 rename_i x
 refine EX.intro (fn:=Tryz.f179) (c:=(Tryz.f179.body.getD .skip)) Tryz.func179 (by kernel_rfl) Tryz.ntmps179 (by kernel_rfl) fun π s0=>?_
 conv=>arg 2;whnf
 have w:=NowC.start c0 s0
 obtain ⟨D,d,kb,cc,p1,hxm0,hkm0,hx1,_⟩:=hx.kids1
 have hxm:=hxm0
 have hkm:=hkm0
 cases o1:eqB s (b1 42) with
 | true =>
  rw [o1,if_pos rfl] at hs
  obtain ⟨⟨a,st1⟩,h1,hs⟩:=bind_some' hs
  obtain ⟨c,h3,hs⟩:=bind_some' hs
  simp only [Option.some.injEq,Prod.mk.injEq] at hs
  obtain ⟨rfl,rfl⟩:=hs
  obtain ⟨h1,hf1⟩:=okM_iff h1
  have hpl:xb < h.n:=s0.dom _ _ hxm
  have hv1:bnd h.n (ptrC xb):=by simp [ptrC];exact hpl
  have hv2:bnd h.n (ptrC q.cb):=w.cv
  repeat (first|refine Y2y ?_|refine Y15 ?_|refine Ye ?_|((with_reducible apply RS.moveX);(iterate 3 exact rfl);(first|exact hv1|exact hv2))|refine Y3s ?_|refine Y3o ?_|refine Y4h ?_|refine Y12 ?_|((with_reducible apply (RS.callY (g0:=119)));(iterate 4 exact rfl);intro B1 hde1 hB1;have wa:=w.abs hB1;refine ⟨_,cexpr_ex HR h1 wa.c (hx1.upX wa.k),(fun v H' ⟨_,_,_,_,_,n⟩ i hi=>(n hf1).2.2 i (Nat.lt_of_lt_of_le hi hB1.le)),?_⟩;rintro v H1 k1 l1 ⟨b1,rfl,he1,c1,o1,n1'⟩ sp1 hle1 hden1 hwf1 hk1;have he1:=NodeAt.weak he1 wa.o.1;have hG1:=Nat.le_trans wa.o.1 hle1)|((with_reducible apply (RS.callY (g0:=175)));(iterate 4 exact rfl);intro B2 hde2 hB2;obtain rfl:=hden1.symm.trans hde2;refine ⟨_,deref_ex c1 hf1 hG1 he1 h3,(fun v H' ⟨_,_,_,o⟩ i hi=>o.2 i (Nat.lt_of_lt_of_le hi hB2.le)),?_⟩;rintro v H2 k2 l2 ⟨b2,rfl,he2,o2⟩ sp2 hle2 hden2 hwf2 hk2)|((with_reducible apply (RS.nilP mixed [(0,1),(1,2),(0,2),(1,3),(0,3),(1,4),(0,4),(1,5),(0,5),(1,6),(0,6),(1,7),(0,7),(0,8),(8,9),(7,9),(6,9),(5,9),(4,9),(3,9),(2,9),(1,9),(0,9),(8,10),(7,10),(6,10),(5,10),(4,10),(3,10),(2,10),(1,10),(0,10),(8,11),(7,11),(6,11),(5,11),(4,11),(3,11),(2,11),(1,11),(0,11),(8,12),(7,12),(6,12),(5,12),(4,12),(3,12),(2,12),(1,12),(0,12)]));kernel_rfl;(repeat (refine ⟨fun x y hx hy=>(by obtain rfl:=Option.some.inj hx;obtain rfl:=Option.some.inj hy;(unfold pairR crossB;simp [recY,recP,recN,recN2,noneB,outO,outR,memL])),?_⟩));exact trivial;exact rfl)|refine Yw ?_|refine Y0 ?_|refine Yz ?_|refine Y1 ?_|refine Y5 ?_)
  exact endsK_ret _ (.cons (.tmp rfl) .nil) fun B' a2=>⟨_,rfl,he2.up (KeptX.of (den_upC hden2 a2 (Nat.le_refl _) fun _ _=>rfl)),(c1.old sp1.dom o2).upN fun i b hb _=>den_upC hden2 a2 (Nat.le_refl _) (fun _ _=>rfl) i b hb,(w.abs a2).o,fun _=>⟨(n1' hf1).1,((w.abs a2).n (by rw [← (n1' hf1).1];exact hf1)).2⟩⟩
 | false =>
  rw [o1,if_neg (by decide)] at hs
  cases o2:eqB s (b1 38) with
  | true=>rw [o2,if_pos rfl] at hs;cases hs
  | false =>
   rw [o2,if_neg (by decide)] at hs
   cases o3:eqB s (b1 33) with
   | true =>
    rw [o3,if_pos rfl] at hs
    obtain ⟨⟨a,sa,st1⟩,h1,hs⟩:=bind_some' hs
    simp only [Option.some.injEq,Prod.mk.injEq] at hs
    obtain ⟨rfl,rfl⟩:=hs
    repeat (first|refine Y2y ?_|refine Y15 ?_|refine Ye ?_|((with_reducible apply (RS.callEx (g0:=81)));(iterate 3 exact rfl);intro B1 hB1;have wa:=w.abs hB1;refine ⟨_,truth_ex HR h1 wa.c (hx1.upX wa.k),?_⟩;rintro v H1 π1 ⟨b1,rfl,he1,c1,o1,n1'⟩ sp1 hle1;have he1:=NodeAt.weak he1 wa.o.1;have kk:=(Absb.kx hB1).trans (wa.kxo o1);have w:=wa.step c1 o1 n1' sp1.dom;skip)|refine Y12 ?_|refine Y8 ?_|refine Y0 ?_|refine Yz ?_|refine Y1 ?_|refine Y5 ?_|refine Y3 ?_)
    exact endsK_ret _ (.cons (.tmp rfl) .nil) fun B' a=>w.ends a he1
   | false =>
    rw [o3,if_neg (by decide)] at hs
    cases o4:eqB s (b1 126) with
    | true=>rw [o4,if_pos rfl] at hs;cases hs
    | false =>
     rw [o4,if_neg (by decide)] at hs
     obtain ⟨⟨a,l,st1⟩,h1,hs⟩:=bind_some' hs
     obtain ⟨v,h2,hs⟩:=bind_some' hs
     obtain ⟨z,h3,hs⟩:=bind_some' hs
     simp only [Option.some.injEq,Prod.mk.injEq] at hs
     obtain ⟨rfl,rfl⟩:=hs
     obtain ⟨_,hf1,hta⟩:=intM_iff h1
     obtain ⟨pl,hpl⟩:∃ x,promoteS l=x:=⟨_,rfl⟩
     rw [hpl] at h2 h3 ⊢
     have hps:pl.sec=l.sec:=by rw [← hpl];unfold promoteS;split<;>rfl
     have hvt:v.ty=.int pl:=by
      obtain ⟨l',e1,hv⟩:=convS_iff h2
      obtain rfl:l=l':=by rw [hta] at e1;injection e1
      have hor:(pl.sec || l.sec)=pl.sec:=by rw [hps];cases l.sec<;>rfl
      rw [hor] at hv
      rcases hv with ⟨h4,rfl⟩|⟨h4,rfl⟩
      ·rw [hta]
       simp only [sameL,Bool.and_eq_true,beq_iff_eq] at h4
       obtain ⟨⟨q1,q2⟩,q3⟩:=h4
       obtain ⟨a1,a2,a3⟩:=pl
       obtain ⟨b1,b2,b3⟩:=l
       dsimp only at q1 q2 q3
       rw [q1,q2,q3]
      ·rfl
     obtain ⟨lz,ez,hz⟩:=convS_iff h3
     have hpr:∀ H,TF Tryz.prog 125 ⟨[.agg ⟨intC l⟩]⟩ H (.agg ⟨intC pl⟩) H:=fun H=>by rw [← hpl];exact promote_tf l H
     clear hs h3 hpl hps
     injection ez with ez
     subst ez
     rcases hz with ⟨hz1,rfl⟩|⟨hz1,rfl⟩
     all_goals repeat (first|refine Y2y ?_|refine Y15 ?_|refine Yb ?_|((with_reducible apply RS.loadNB);(iterate 3 exact rfl);exact hma;exact w.d _ _ hma;exact Nat.le_of_ble_eq_true rfl;exact rfl)|refine Yi ?_|refine Ye ?_|((with_reducible apply (RS.callEx (g0:=124)));(iterate 3 exact rfl);intro B1 hB1;have wa:=w.abs hB1;refine ⟨_,integer_ex HR h1 wa.c (hx1.upX wa.k),?_⟩;rintro v H1 π1 ⟨b1,rfl,he1,c1,o1,n1'⟩ sp1 hle1;have he1:=NodeAt.weak he1 wa.o.1;have kk:=(Absb.kx hB1).trans (wa.kxo o1);have w:=wa.step c1 o1 n1' sp1.dom;have hxm:=w.k _ _ hxm0 rfl;have hkm:=w.k _ _ hkm0 rfl;obtain ⟨tb1,tx1,nu1,re1,A1,n1,c1',hma,_⟩:=he1.cells;rw [hta] at hma)|((with_reducible apply (RS.callP (g0:=199)));(iterate 3 exact rfl);exact fun H=>open_tf _ H;exact Nm_free (intC_free _))|refine Y12 ?_|((with_reducible apply (RS.callP (g0:=125)));(iterate 3 exact rfl);exact fun H=>hpr H;exact Nm_free (intC_free _))|((with_reducible apply (RS.callEx (g0:=126)));(iterate 3 exact rfl);intro B1 hB1;have wa:=w.abs hB1;have h70:=hB1.loc 0 (Nat.le_of_ble_eq_true rfl);refine ⟨_,conv_ex wa.o.1 (he1.up (Absb.kx hB1)) h2 _,?_⟩;rintro v2 H1 π1 ⟨bv,rfl,hev,o1⟩ sp1 hle1;have h7:H1.m _=some ⟨⟨intC pl⟩,71⟩:=(Old.kx o1 wa.d) _ _ h70 rfl;have w:=wa.stepO o1 sp1.dom;have hxm:=w.k _ _ hxm0 rfl;obtain ⟨tb2,tx2,nu2,re2,A2,n2,c2',hmv,_⟩:=hev.cells;rw [hvt] at hmv;have hv1:bnd H1.n (ptrC bv):=(by simp [ptrC];exact sp1.dom _ _ hmv))|((with_reducible apply RS.loadNB);(iterate 3 exact rfl);first|exact h7;exact w.d _ _ h7;exact Nat.le_of_ble_eq_true rfl;exact rfl|exact hmv;exact w.d _ _ hmv;exact Nat.le_of_ble_eq_true rfl;exact rfl)|((with_reducible apply RS.moveX);(iterate 3 exact rfl);exact hv1)|((with_reducible apply (RS.callR (g0:=126) true [0] none));(iterate 3 exact rfl);exact fun H hH=>conv_same_tf (ptrC q.cb) (show H.m _=some ⟨⟨nodeC 1 p (.int ⟨pl.size,pl.sg,false⟩) 0 false eS 0 0 none 0 0⟩,225⟩ from (hH.l 0 rfl (Nat.le_of_ble_eq_true rfl)).trans rfl) hz1;exact trivial)|((with_reducible apply (RS.callN2 (g0:=126) true [0]));(iterate 3 exact rfl);exact fun H hH hn hk=>(by have:=conv_new_tf (ptrC q.cb) (show H.m _=some ⟨⟨nodeC 1 p (.int ⟨pl.size,pl.sg,false⟩) 0 false eS 0 0 none 0 0⟩,225⟩ from (hH.l 0 rfl (Nat.le_of_ble_eq_true rfl)).trans rfl) hz1;rw [hn,← hk] at this;exact this))|refine Y17 ?_|refine Yg ?_|refine Y2 ?_|refine Y9 ?_|refine Ya ?_|refine Y0 ?_|refine Y18 ?_|refine Y1 ?_|refine Y3 ?_)
     all_goals
      refine endsK_ret _ (.cons (.tmp rfl) .nil) fun B' a=>⟨_,rfl,node2 (tb:=0) (a.loc _ (Nat.le_of_ble_eq_true rfl)) (alo a w.o.1 _ rfl) trivial (a.loc _ (Nat.le_of_ble_eq_true rfl)) (alo a w.o.1 _ rfl) ?_ (hev.up (Absb.kx a)),(w.abs a).c,(w.abs a).o,(w.abs a).n⟩
      first|exact node0 (tb:=0) (a.loc _ (Nat.le_of_ble_eq_true rfl)) (alo a w.o.1 _ rfl) trivial|exact node1 (tb:=0) (a.loc _ (Nat.le_of_ble_eq_true rfl)) (alo a w.o.1 _ rfl) trivial (a.loc _ (Nat.le_of_ble_eq_true rfl)) (alo a w.o.1 _ rfl) (node0 (tb:=0) (a.loc _ (Nat.le_of_ble_eq_true rfl)) (alo a w.o.1 _ rfl) trivial)
end
theorem arr_tf (l:LfS) (n:Nat) (h:Hp):TF Tryz.prog 71 ⟨[.agg ⟨intC l⟩,.int .i64 n]⟩ h (.agg ⟨tyC (.arr l n) h.n⟩) (h.push ⟨⟨intC l⟩,71⟩):=by
 refine EX.one ?_ (by simp [intC]) (by simp [tyC,ptrC])
 refine EX.intro (fn:=Tryz.f71) (c:=(Tryz.f71.body.getD .skip)) Tryz.func71 (by kernel_rfl) Tryz.ntmps71 (by kernel_rfl) fun π s0=>?_
 conv=>arg 2;whnf
 repeat (first|((with_reducible first|apply RS.move|apply RS.box);iterate 3 exact rfl)|refine Y2 ?_|refine Y9 ?_|refine Ya ?_|refine Y0 ?_|refine Yq ?_|refine Y1 ?_)
 exact endsK_ret _ (.cons (.cellN rfl rfl rfl (Nat.le_of_ble_eq_true rfl)) .nil) fun B' a=>⟨_,a.lo 0 (Nat.le_of_ble_eq_true rfl),fun τ h1 h2=>⟨by show Value.agg ⟨tyC (.arr l n) (π 0)⟩=_;simp [tyC,ptrC,h2],by rw [a.loc 0 (Nat.le_of_ble_eq_true rfl)];show some (⟨⟨intC l⟩,71⟩:Blk)=_;simp [subB,intC]⟩,a.le,a.old⟩
section
variable {R:ExprS→CS→Option (NodeS × CS)} {h:Hp} {q:Pl} {st st':CS}
theorem typ_ex {t:TypeS} {ty:TyS} (hs:typS t=some ty) {A:Option Addr} {c lo:Nat} (hr:RowAt h lo 3 A (dimsC t.dims)) (C:Value):EX Tryz.prog 34 [C,.agg ⟨typeC t A c⟩] h (fun v h'=>∃ b,v=.agg ⟨tyC ty b⟩∧TyE h' ty b∧Old h h'):=by
 refine EX.intro (fn:=Tryz.f34) (c:=(Tryz.f34.body.getD .skip)) Tryz.func34 (by kernel_rfl) Tryz.ntmps34 (by kernel_rfl) fun π s0=>?_
 conv=>arg 2;whnf
 obtain ⟨sp,stars,dims⟩:=t
 unfold typS at hs
 split at hs
 ·cases hs
 rename_i hst
 have hst:stars=0:=Decidable.byContradiction hst
 subst hst
 obtain ⟨l,hl,hs⟩:=bind_some' hs
 dsimp only at hl hs hr
 split at hs
 ·simp only [Option.some.injEq] at hs
  subst hs
  repeat (first|refine Y6k ?_|refine Y4e ?_|refine Y1l ?_|refine Y23 ?_|refine Y5u ?_|refine Y4 ?_|refine Yo ?_|refine Y4q ?_|refine Yh ?_|refine Yg ?_|refine Y2 ?_|refine Y9 ?_|refine Y0 ?_|(with_reducible first|apply W.seq|apply W.block|apply W.exit|apply W.ret|apply W.skip|apply thenK_n|apply thenK_e)|refine Y1 ?_|refine Y3 ?_|refine Yn ?_)
  exact endsK_ret _ (.cons (.cellN rfl rfl rfl (Nat.le_of_ble_eq_true rfl)) .nil) fun B' a=>⟨0,rfl,trivial,a.le,a.old⟩
 ·rename_i n _
  simp only [Option.some.injEq] at hs
  subst hs
  rcases hr with ⟨h1,_⟩|⟨db,rfl,_,hdm⟩
  ·cases h1
  repeat (first|refine Y6k ?_|((with_reducible apply (RS.callN1 (g0:=71) true []));(iterate 3 exact rfl);exact fun H hH hn=>(by have:=arr_tf l n H;rw [hn] at this;exact this))|refine Y15 ?_|((with_reducible apply RS.load1B);(iterate 3 exact rfl);exact hdm;exact s0.dom _ _ hdm;exact rfl)|refine Y4e ?_|refine Y1l ?_|refine Y2z ?_|refine Y23 ?_|refine Y5u ?_|refine Y4 ?_|refine Yo ?_|refine Y4q ?_|refine Yh ?_|refine Yg ?_|refine Y2 ?_|refine Y9 ?_|refine Y0 ?_|refine Y1w ?_|refine Y1 ?_|refine Y5 ?_|refine Y3 ?_|refine Yn ?_)
  exact endsK_ret _ (.cons (.cellN rfl rfl rfl (Nat.le_of_ble_eq_true rfl)) .nil) fun B' a=>⟨_,rfl,a.loc _ (Nat.le_of_ble_eq_true rfl),a.le,a.old⟩
 ·cases hs
end
def RawL (lo:Nat) (q:Pl) (st:CS) (h:Hp) (e:NodeS) (st':CS) (v:Value) (h':Hp):Prop:=∃ b,v=ptrC b∧NodeAt h' lo b e∧ChkF h' q st'∧OffP q.cb h h'∧(st'.fk=0→st'=st∧Old h h')
section
variable {R:ExprS→CS→Option (NodeS × CS)} {h:Hp} {q:Pl} {st st':CS}
theorem lplace_ex (HR:RawOK R) {x:ExprS} {e:NodeS} (hr:R x st=some (e,st')) (hf:st'.fk=0) (hp:placeS e=true) {xb lo:Nat} (c0:ChkF h q st) (hx:ExprAt h lo xb x):EX Tryz.prog 178 [ptrC q.cb,ptrC xb] h (RawQ q st h e st'):=by
 refine EX.intro (fn:=Tryz.f178) (c:=(Tryz.f178.body.getD .skip)) Tryz.func178 (by kernel_rfl) Tryz.ntmps178 (by kernel_rfl) fun π s0=>?_
 conv=>arg 2;whnf
 have w:=NowC.start c0 s0
 repeat (first|((with_reducible apply (RS.callEx (g0:=153)));(iterate 3 exact rfl);intro B1 hB1;have wa:=w.abs hB1;refine ⟨_,HR _ _ _ _ hr _ _ _ _ wa.c (hx.upX wa.k),?_⟩;rintro v H1 π1 ⟨b1,rfl,he1,c1,o1,n1'⟩ sp1 hle1;have he1:=NodeAt.weak he1 wa.o.1;have kk:=(Absb.kx hB1).trans (wa.kxo o1);have w:=wa.step c1 o1 n1' sp1.dom;skip)|refine Yb ?_|refine Y46 ?_|refine Yl ?_|refine Yd ?_|refine Y0 ?_|refine Yv ?_|refine Y1 ?_|refine Y3 ?_)
 exact endsK_ret _ (.cons (.tmp rfl) .nil) fun B' a=>w.ends a he1
theorem become_ex {lo:Nat} (hlo:lo≤h.n) {t:TyS} {tb b p:Nat} {e v:NodeS} (c0:ChkF h q st) (he:NodeAt h lo b e) (hs:becomeS t e p st=some (v,st')):EX Tryz.prog 127 [ptrC q.cb,.agg ⟨tyC t tb⟩,ptrC b,.int .i64 p] h (RawL lo q st h v st'):=by
 refine EX.intro (fn:=Tryz.f127) (c:=(Tryz.f127.body.getD .skip)) Tryz.func127 (by kernel_rfl) Tryz.ntmps127 (by kernel_rfl) fun π s0=>?_
 conv=>arg 2;whnf
 have w:=NowC.start c0 s0
 obtain ⟨tb1,tx1,nu1,re1,A1,n1,c1,hma,_⟩:=he.cells
 unfold becomeS at hs
 split at hs
 case h_2=>cases hs
 rename_i l le hty
 rw [hty] at hma
 obtain ⟨sz,sg,sc⟩:=le
 obtain ⟨sz2,sg2,sc2⟩:=l
 split at hs
 ·rename_i hc
  obtain ⟨h1,h2⟩:=hc
  dsimp only at h1 h2
  subst h1;subst h2
  simp only [Option.some.injEq,Prod.mk.injEq] at hs
  obtain ⟨rfl,rfl⟩:=hs
  repeat (first|refine Y4z ?_|((with_reducible apply (RS.callWB (g0:=33) []));(iterate 3 exact rfl);exact w.c.w.c;exact w.d _ _ w.c.w.c;exact fun H hH=>cfail_tf (w.c.w.sees w.d hH) 15 p;(have he:=he.up (w.kxo (OffP.set _ (ckB q (ptrC q.fb) (st.fail 15 p)))));(have w:=w.failed 15 p (by decide)))|refine Y17 ?_|refine Yd ?_|refine Yo ?_|refine Yh ?_|refine Y0 ?_|refine Yz ?_|refine Y1 ?_|refine Y5 ?_)
  exact endsK_ret _ (.cons (.tmp rfl) .nil) fun B' a=>⟨b,rfl,he.up (Absb.kx a),(w.abs a).c,(w.abs a).o,(w.abs a).n⟩
 ·rename_i hc
  obtain ⟨v',hv,hs⟩:=Option.map_eq_some_iff.1 hs
  simp only [Prod.mk.injEq] at hs
  obtain ⟨rfl,rfl⟩:=hs
  cases sc with
  | false =>
   repeat (first|refine Y4z ?_|((with_reducible apply (RS.callEx (g0:=126)));(iterate 3 exact rfl);intro B1 hB1;have wa:=w.abs hB1;refine ⟨_,conv_ex (Nat.le_trans hlo hB1.le) (he.up (Absb.kx hB1)) hv _,?_⟩;rintro v H1 π1 ⟨b2,rfl,he2,o1⟩ sp1 hle1;have kk:=(Absb.kx hB1).trans (Old.kx o1 wa.d);have w:=wa.stepO o1 sp1.dom;skip)|refine Yj ?_|refine Yd ?_|refine Yc ?_|refine Yo ?_|refine Yh ?_|refine Yg ?_|refine Yk ?_|refine Y0 ?_|refine Ys ?_|refine Y1 ?_|refine Y5 ?_|refine Y3 ?_)
   exact endsK_ret _ (.cons (.tmp rfl) .nil) fun B' a=>⟨b2,rfl,he2.up (Absb.kx a),(w.abs a).c,(w.abs a).o,(w.abs a).n⟩
  | true =>
   cases sc2 with
   | false=>exact absurd ⟨rfl,rfl⟩ hc
   | true =>
    repeat (first|refine Y4z ?_|((with_reducible apply (RS.callEx (g0:=126)));(iterate 3 exact rfl);intro B1 hB1;have wa:=w.abs hB1;refine ⟨_,conv_ex (Nat.le_trans hlo hB1.le) (he.up (Absb.kx hB1)) hv _,?_⟩;rintro v H1 π1 ⟨b2,rfl,he2,o1⟩ sp1 hle1;have kk:=(Absb.kx hB1).trans (Old.kx o1 wa.d);have w:=wa.stepO o1 sp1.dom;skip)|refine Y17 ?_|refine Yd ?_|refine Yo ?_|refine Yh ?_|refine Yg ?_|refine Y0 ?_|refine Ys ?_|refine Y1 ?_|refine Y5 ?_|refine Y3 ?_)
    exact endsK_ret _ (.cons (.tmp rfl) .nil) fun B' a=>⟨b2,rfl,he2.up (Absb.kx a),(w.abs a).c,(w.abs a).o,(w.abs a).n⟩
theorem keeps_tf {lo pb p:Nat} {a:NodeS} (ha:NodeAt h lo pb a) (hh:a.hid=false) {l:LfS} (hty:a.ty=.int l) (C:Value):TF Tryz.prog 158 ⟨[C,ptrC pb,.int .i64 p]⟩ h (.tuple ⟨[]⟩) h:=by
 refine TF.exact (fn:=Tryz.f158) (c:=(Tryz.f158.body.getD .skip)) Tryz.func158 (by kernel_rfl) Tryz.ntmps158 (by kernel_rfl) (fun s0=>old0 s0 (by simp)) fun π s0=>?_
 conv=>arg 2;whnf
 obtain ⟨tb1,tx1,nu1,re1,A1,n1,c1,hma,_⟩:=ha.cells
 rw [hh,hty] at hma
 repeat (first|refine Y1v ?_|refine Yf ?_|refine Yc ?_|refine Yk ?_|refine Y0 ?_|refine Y1d ?_|refine Y1 ?_|refine Y3 ?_)
 exact endsK_normal _ .nil fun B' a=>⟨rfl,a.up⟩
theorem assign_ex {lo:Nat} (hlo:lo≤h.n) {pb b p:Nat} {a e v:NodeS} (c0:ChkF h q st) (ha:NodeAt h lo pb a) (he:NodeAt h lo b e) (hs:assignS a e p st=some (v,st')):EX Tryz.prog 123 [ptrC q.cb,ptrC pb,ptrC b,.int .i64 p] h (RawL lo q st h v st'):=by
 refine EX.intro (fn:=Tryz.f123) (c:=(Tryz.f123.body.getD .skip)) Tryz.func123 (by kernel_rfl) Tryz.ntmps123 (by kernel_rfl) fun π s0=>?_
 conv=>arg 2;whnf
 have w:=NowC.start c0 s0
 obtain ⟨tb1,tx1,nu1,re1,A1,n1,c1,hmp,_⟩:=ha.cells
 unfold assignS at hs
 split at hs
 ·cases hs
 rename_i hh
 have hh:a.hid=false:=by simpa using hh
 obtain ⟨⟨v1,st1⟩,hv,hs⟩:=bind_some' hs
 simp only [Option.some.injEq,Prod.mk.injEq] at hs
 obtain ⟨rfl,rfl⟩:=hs
 obtain ⟨l,hty⟩:∃ l,a.ty=.int l:=by
  unfold becomeS at hv
  split at hv
  ·rename_i l _ h1 h2;exact ⟨l,by assumption⟩
  ·cases hv
 rw [hty] at hv hmp ⊢
 by_cases hf:st1.fk=0
 ·repeat (first|((with_reducible apply RS.load1B);(iterate 3 exact rfl);exact hmp;exact w.d _ _ hmp;exact rfl)|refine Y5m ?_|refine Yb ?_|refine Yi ?_|((with_reducible apply (RS.callA (g0:=158)));(iterate 3 exact rfl);exact fun B' hB'=>keeps_tf (ha.up (Absb.kx hB')) hh hty _)|((with_reducible apply (RS.callEx (g0:=127)));(iterate 3 exact rfl);intro B1 hB1;have wa:=w.abs hB1;refine ⟨_,become_ex (tb:=tb1) (Nat.le_trans hlo hB1.le) wa.c (he.up (Absb.kx hB1)) hv,?_⟩;rintro v2 H1 π1 ⟨b2,rfl,he2,c1,o1,n1'⟩ sp1 hle1;have kk:=(Absb.kx hB1).trans (wa.kxo o1);have ha:=ha.up kk;have hmp:=kk _ _ hmp rfl;have w:=wa.step c1 o1 n1' sp1.dom)|refine Yj ?_|refine Y4 ?_|refine Ya ?_|refine Y0 ?_|refine Yv ?_|refine Y1 ?_|refine Y5 ?_|refine Y3 ?_)
  exact endsK_ret _ (.cons (.tmp rfl) .nil) fun B' a=>⟨_,rfl,node2 (tb:=0) (a.loc _ (Nat.le_of_ble_eq_true rfl)) (alo a (Nat.le_trans hlo w.o.1) _ rfl) trivial (a.loc _ (Nat.le_of_ble_eq_true rfl)) (alo a (Nat.le_trans hlo w.o.1) _ rfl) (ha.up (Absb.kx a)) (he2.up (Absb.kx a)),(w.abs a).c,(w.abs a).o,(w.abs a).n⟩
 ·repeat (first|((with_reducible apply RS.load1B);(iterate 3 exact rfl);exact hmp;exact w.d _ _ hmp;exact rfl)|refine Y5m ?_|refine Y1j ?_|refine Yi ?_|((with_reducible apply (RS.callEx (g0:=127)));(iterate 3 exact rfl);intro B1 hB1;have wa:=w.abs hB1;refine ⟨_,become_ex (tb:=tb1) (Nat.le_trans hlo hB1.le) wa.c (he.up (Absb.kx hB1)) hv,?_⟩;rintro v2 H1 π1 ⟨b2,rfl,he2,c1,o1,n1'⟩ sp1 hle1;have kk:=(Absb.kx hB1).trans (wa.kxo o1);have ha:=ha.up kk;have hmp:=kk _ _ hmp rfl;have w:=wa.step c1 o1 n1' sp1.dom)|refine Yj ?_|refine Y4 ?_|refine Ya ?_|refine Y0 ?_|refine Yv ?_|refine Y1 ?_|refine Y3 ?_)
  exact endsK_ret _ (.cons (.tmp rfl) .nil) fun B' a=>⟨_,rfl,node2 (tb:=0) (a.loc _ (Nat.le_of_ble_eq_true rfl)) (alo a (Nat.le_trans hlo w.o.1) _ rfl) trivial (a.loc _ (Nat.le_of_ble_eq_true rfl)) (alo a (Nat.le_trans hlo w.o.1) _ rfl) (ha.up (Absb.kx a)) (he2.up (Absb.kx a)),(w.abs a).c,(w.abs a).o,(w.abs a).n⟩
end
theorem assignS_ty {a e v:NodeS} {p:Nat} {st st':CS} (h:assignS a e p st=some (v,st')):∃ l,a.ty=.int l:=by
 unfold assignS at h
 split at h
 ·cases h
 ·obtain ⟨⟨v1,st1⟩,hv,hs⟩:=bind_some' h
  unfold becomeS at hv
  split at hv
  ·exact ⟨_,by assumption⟩
  ·cases hv
def CondOK (R:ExprS→CS→Option (NodeS × CS)):Prop:=∀ p kids st e st',condM R p kids st=some (e,st')→∀ q h xb lo s tok ty,ChkF h q st→ExprAt h lo xb (.mk 15 p s tok ty kids)→EX Tryz.prog 182 [ptrC q.cb,ptrC xb] h (RawQ q st h e st')
section
variable {R:ExprS→CS→Option (NodeS × CS)} {h:Hp} {q:Pl} {st st':CS}
theorem becomes_ex (HR:RawOK R) {p:Nat} {kids:List ExprS} {e:NodeS} {s:ByteArray} (hs:becomesM R p s kids st=some (e,st')) {xb lo:Nat} {tok:TokS} {ty:TypeS} (c0:ChkF h q st) (hx:ExprAt h lo xb (.mk 16 p s tok ty kids)):EX Tryz.prog 183 [ptrC q.cb,ptrC xb] h (RawQ q st h e st'):=by
 unfold becomesM at hs
 split at hs
 case h_2=>cases hs
 rename_i x y
 split at hs
 ·cases hs
 rename_i hse
 have hse:eqB s eS=true:=by
  cases h:eqB s eS with
  | true=>rfl
  | false=>exact absurd h hse
 obtain rfl:=eqB_iff.1 hse
 obtain ⟨⟨a,st1⟩,h1,hs⟩:=bind_some' hs
 dsimp only at hs
 split at hs
 ·cases hs
 rename_i hc
 have hf1:st1.fk=0:=Decidable.byContradiction fun h=>hc (.inl h)
 have hp1:placeS a=true:=by
  cases h:placeS a with
  | true=>rfl
  | false=>exact absurd (.inr h) hc
 obtain ⟨⟨b,st2⟩,h2,h3⟩:=bind_some' hs
 obtain ⟨h2,hf2⟩:=okM_iff h2
 dsimp only at h3
 obtain ⟨l,hty⟩:=assignS_ty h3
 refine EX.intro (fn:=Tryz.f183) (c:=(Tryz.f183.body.getD .skip)) Tryz.func183 (by kernel_rfl) Tryz.ntmps183 (by kernel_rfl) fun π s0=>?_
 conv=>arg 2;whnf
 have w:=NowC.start c0 s0
 obtain ⟨D,d,kb,cc,p1,p2,hxm0,hkm0,hx1,hx2⟩:=hx.kids2
 have hxm:=hxm0
 have hkm:=hkm0
 repeat (first|refine Y2p ?_|refine Y15 ?_|refine Y1i ?_|refine Yb ?_|((with_reducible apply (RS.callEx (g0:=178)));(iterate 3 exact rfl);intro B1 hB1;have wa:=w.abs hB1;refine ⟨_,lplace_ex HR h1 hf1 hp1 wa.c (hx1.upX wa.k),?_⟩;rintro v H1 π1 ⟨b1,rfl,he1,c1,o1,n1'⟩ sp1 hle1;have he1:=NodeAt.weak he1 wa.o.1;have kk:=(Absb.kx hB1).trans (wa.kxo o1);have w:=wa.step c1 o1 n1' sp1.dom;have hxm:=w.k _ _ hxm0 rfl;have hkm:=w.k _ _ hkm0 rfl;obtain ⟨tb1,tx1,nu1,re1,A1,n1,c1',hma,_⟩:=he1.cells;rw [hty] at hma)|((with_reducible apply (RS.callEx (g0:=119)));(iterate 3 exact rfl);intro B1 hB1;have wa:=w.abs hB1;refine ⟨_,cexpr_ex HR h2 wa.c (hx2.upX wa.k),?_⟩;rintro v H1 π1 ⟨b2,rfl,he2,c1,o1,n1'⟩ sp1 hle1;have he2:=NodeAt.weak he2 wa.o.1;have kk:=(Absb.kx hB1).trans (wa.kxo o1);have w:=wa.step c1 o1 n1' sp1.dom;have hxm:=w.k _ _ hxm0 rfl;have hkm:=w.k _ _ hkm0 rfl;have he1:=he1.up kk)|((with_reducible apply (RS.callEx (g0:=123)));(iterate 3 exact rfl);intro B1 hB1;have wa:=w.abs hB1;refine ⟨_,assign_ex wa.o.1 wa.c (he1.up (Absb.kx hB1)) (he2.up (Absb.kx hB1)) h3,?_⟩;rintro v2 H1 π1 ⟨b3,rfl,he3,c1,o1,n1'⟩ sp1 hle1;have w:=wa.step c1 o1 n1' sp1.dom)|refine Yl ?_|refine Y4 ?_|refine Y2v ?_|refine Y0 ?_|refine Y1p ?_|refine Y1 ?_|refine Y5 ?_|refine Y3 ?_)
 exact endsK_ret _ (.cons (.tmp rfl) .nil) fun B' a=>w.ends a he3
end
end Go.Proofs.YtgpigfcagppohaaGreatDoor
