/-
  What the functions that the law reaches compute,told by plain data;it holds of programs that pass the check of right form and are light.
-/
import Derived.Test.YtgpigfcagppohaaGreatDoorR10
set_option linter.unusedVariables false
set_option linter.unusedSimpArgs false
namespace Go.Proofs.YtgpigfcagppohaaGreatDoor
open Go.AH
attribute [local irreducible] W RS WR
section
variable {R:ExprS→CS→Option (NodeS × CS)} {h:Hp} {q:Pl} {st st':CS}
theorem num_ex {p:Nat} {s:ByteArray} {xb lo:Nat} {tok:TokS} {ty:TypeS} {kids:List ExprS} (hu:tok.uns=false) (hl:tok.long=false) (hv:tok.value < 2147483648) (C:Value) {l2:Nat} (hlo:l2≤h.n) (hx:ExprAt h lo xb (.mk 1 p s tok ty kids)):EX Tryz.prog 172 [C,ptrC xb] h (PureQ l2 h (.mk 1 p (.int (i4 false)) false eS tok.value 0 [])):=by
 refine EX.intro (fn:=Tryz.f172) (c:=(Tryz.f172.body.getD .skip)) Tryz.func172 (by kernel_rfl) Tryz.ntmps172 (by kernel_rfl) fun π s0=>?_
 conv=>arg 2;whnf
 obtain ⟨D,d,A,c,hxm,_⟩:=hx.cells
 obtain ⟨tk,tt,tp,tv,tu,tl⟩:=tok
 dsimp only at hu hl hv
 subst hu;subst hl
 repeat (first|((with_reducible apply RS.load1B);(iterate 3 exact rfl);exact hxm;exact s0.dom _ _ hxm;exact rfl)|refine Y2t ?_|((with_reducible apply RS.convNat);(iterate 3 exact rfl);exact wrapN (Nat.le_of_lt (Nat.lt_trans hv (by decide))))|refine Yj ?_|refine Yc ?_|refine Y4 ?_|refine Yg ?_|refine Y2 ?_|refine Y9 ?_|refine Ya ?_|refine Yk ?_|refine Y0 ?_|refine Y18 ?_|refine Y1 ?_|refine Y3 ?_)
 exact endsK_ret _ (.cons (.tmp rfl) .nil) fun B' a=>⟨_,rfl,node0 (tb:=0) (a.loc _ (Nat.le_of_ble_eq_true rfl)) (alo a hlo _ rfl) trivial,a.le,a.old⟩
theorem out_ex (HR:RawOK R) {p:Nat} {a:ExprS} {e:NodeS} (hs:outM R p a st=some (e,st')) {xb lo:Nat} {s:ByteArray} {tok:TokS} {ty:TypeS} {f:ExprS} (c0:ChkF h q st) (hx:ExprAt h lo xb (.mk 3 p s tok ty [f,a])):EX Tryz.prog 196 [ptrC q.cb,ptrC xb] h (RawQ q st h e st'):=by
 refine EX.intro (fn:=Tryz.f196) (c:=(Tryz.f196.body.getD .skip)) Tryz.func196 (by kernel_rfl) Tryz.ntmps196 (by kernel_rfl) fun π s0=>?_
 conv=>arg 2;whnf
 have w:=NowC.start c0 s0
 obtain ⟨D,d,kb,c,p1,p2,hxm,hkm,_,hxa⟩:=hx.kids2
 unfold outM at hs
 obtain ⟨⟨e1,l,st1⟩,hi,hs⟩:=bind_some' hs
 dsimp only at hs
 obtain ⟨_,hf,hty⟩:=intM_iff hi
 ((with_reducible apply W.seq);repeat (first|refine Yw ?_|refine Y0 ?_|refine Y1 ?_|refine Ym ?_))
 ((with_reducible apply W.seq);repeat (first|refine Y12 ?_|refine Yj ?_|refine Ya ?_|refine Y0 ?_|refine Y1 ?_|refine Ym ?_))
 refine W.absorbX fun G π0 a0=>?_
 have hbm:G.m (π 0)=some ⟨⟨nodeC 23 p .void 0 false eS 0 0 none 0 0⟩,225⟩:=a0.loc 0 (Nat.lt_succ_self 0)
 have hbo:h.n≤π 0:=a0.lo 0 (Nat.lt_succ_self 0)
 have hov:π 0 < G.n:=a0.dom _ _ hbm
 have hxm:=a0.up _ _ hxm
 have hkm:=a0.up _ _ hkm
 have w:=w.abs a0
 generalize π 0=ob at *
 have hbw:rwM≤ob:=Nat.le_trans a0.rw hbo
 obtain ⟨sz,sg,sc⟩:=l
 obtain ⟨cs,hym0,hy1⟩:=hxa.at
 cases sc with
 | true =>
  simp only [if_true,Option.some.injEq,Prod.mk.injEq] at hs
  obtain ⟨rfl,rfl⟩:=hs
  repeat (first|refine Yb ?_|refine Y2p ?_|refine Y1i ?_|((with_reducible apply (RS.callEx (g0:=124)));(iterate 3 exact rfl);intro B1 hB1;have wa:=w.abs hB1;refine ⟨_,integer_ex HR hi wa.c (hxa.upX wa.k),?_⟩;rintro v H1 π1 ⟨b1,rfl,he1,c1,o1,n1'⟩ sp1 hle1;have kk:=(Absb.kx hB1).trans (wa.kxo o1);have w:=wa.step c1 o1 n1' sp1.dom;obtain ⟨tb1,tx1,nu1,re1,A1,n1,c2,hma,_⟩:=he1.cells;rw [hty] at hma;have hxm:=kk _ _ hxm rfl;have hkm:=kk _ _ hkm rfl;have hbm:=kk _ _ hbm rfl;have hov:=Nat.lt_of_lt_of_le hov hB1.le;have hl1:=wa.o.1;have hym:=w.k _ _ hym0 rfl)|((with_reducible apply RS.load1B);(iterate 3 exact rfl);exact hym;exact w.d _ _ hym;exact hy1)|((with_reducible apply (RS.callWB (g0:=33) []));(iterate 3 exact rfl);exact w.c.w.c;exact w.d _ _ w.c.w.c;exact fun H hH=>cfail_tf (w.c.w.sees w.d hH) 15 a.pos;(have hbm:=w.kxo (OffP.set _ (ckB q (ptrC q.fb) (st1.fail 15 a.pos))) _ _ hbm rfl);(have w:=w.failed 15 a.pos (by decide)))|refine Y1z ?_|refine Y4 ?_|refine Y0 ?_|refine Y1p ?_|refine Y1 ?_|refine Y5 ?_|refine Y3 ?_)
  exact endsK_ret _ (.cons (.tmp rfl) .nil) fun B' a2=>⟨ob,rfl,node0 (tb:=0) (a2.up _ _ hbm) hbo trivial,(w.abs a2).c,(w.abs a2).o,(w.abs a2).n⟩
 | false =>
  simp only [Bool.false_eq_true,if_false] at hs
  obtain ⟨v,hv,hs⟩:=bind_some' hs
  simp only [Option.some.injEq,Prod.mk.injEq] at hs
  obtain ⟨rfl,rfl⟩:=hs
  obtain ⟨lb',e2,hv⟩:=convS_iff hv
  obtain rfl:(⟨sz,sg,false⟩:LfS)=lb':=by rw [hty] at e2;injection e2
  rcases hv with ⟨h1,rfl⟩|⟨h1,rfl⟩
  all_goals repeat (first|refine Yb ?_|refine Y2p ?_|refine Y1i ?_|((with_reducible apply (RS.callEx (g0:=124)));(iterate 3 exact rfl);intro B1 hB1;have wa:=w.abs hB1;refine ⟨_,integer_ex HR hi wa.c (hxa.upX wa.k),?_⟩;rintro v H1 π1 ⟨b1,rfl,he1,c1,o1,n1'⟩ sp1 hle1;have kk:=(Absb.kx hB1).trans (wa.kxo o1);have w:=wa.step c1 o1 n1' sp1.dom;obtain ⟨tb1,tx1,nu1,re1,A1,n1,c2,hma,_⟩:=he1.cells;rw [hty] at hma;have hxm:=kk _ _ hxm rfl;have hkm:=kk _ _ hkm rfl;have hbm:=kk _ _ hbm rfl;have hov:=Nat.lt_of_lt_of_le hov hB1.le;have hl1:=wa.o.1;have hym:=w.k _ _ hym0 rfl)|refine Yi ?_|refine Y3m ?_|((with_reducible apply (RS.callR (g0:=126) true [] none));(iterate 3 exact rfl);exact fun H hH=>conv_same_tf (ptrC q.cb) (Sees.at hH hma (w.d _ _ hma)) h1;exact trivial)|((with_reducible apply (RS.callN2 (g0:=126) true []));(iterate 3 exact rfl);exact fun H hH hn hk=>(by have:=conv_new_tf (ptrC q.cb) (Sees.at hH hma (w.d _ _ hma)) h1;rw [hn,← hk] at this;exact this))|((with_reducible apply RS.storeB);(iterate 3 exact rfl);exact hbm;exact w.d _ _ hbm;exact hbw;exact Nat.le_of_ble_eq_true rfl;iterate 3 exact rfl)|refine Y1z ?_|refine Y4 ?_|refine Y0 ?_|refine Yv ?_|refine Y1 ?_|refine Y3 ?_)
  all_goals
   refine endsK_ret _ (.cons (.tmp rfl) .nil) fun B' a2=>⟨ob,rfl,node1 (tb:=0) (a2.up _ _ (if_pos rfl)) hbo trivial (a2.loc _ (Nat.le_of_ble_eq_true rfl)) (alo a2 w.o.1 _ rfl) ?_,((w.write hbm hbo s0.dom).abs a2).c,((w.write hbm hbo s0.dom).abs a2).o,((w.write hbm hbo s0.dom).abs a2).n⟩
   have hk:=((he1.write hbm hov).weak hl1).up (Absb.kx a2)
   first|exact hk|exact node1 (tb:=0) (a2.loc _ (Nat.le_of_ble_eq_true rfl)) (alo a2 w.o.1 _ rfl) trivial (a2.loc _ (Nat.le_of_ble_eq_true rfl)) (alo a2 w.o.1 _ rfl) hk
end
section
variable {R:ExprS→CS→Option (NodeS × CS)} {h:Hp} {q:Pl} {st st':CS}
theorem ChkW.nl2 {B:Hp} {q:Pl} {F Fs:Value} {mn:Int} {st:CS} (w:ChkW B q F Fs mn st):st.nm.length≤1000000:=Nat.le_trans w.nl (by decide)
theorem call_ex (HR:RawOK R) {p:Nat} {kids:List ExprS} {e:NodeS} (hs:callM R p kids st=some (e,st')) {xb lo:Nat} {s:ByteArray} {tok:TokS} {ty:TypeS} (c0:ChkF h q st) (hx:ExprAt h lo xb (.mk 3 p s tok ty kids)):EX Tryz.prog 174 [ptrC q.cb,ptrC xb] h (RawQ q st h e st'):=by
 unfold callM at hs
 split at hs
 case h_2=>cases hs
 rename_i op fp fs ftok fty fkids a
 split at hs
 ·cases hs
 rename_i hc
 have hop:op=2:=Decidable.byContradiction fun h=>hc (.inl h)
 have hso:eqB fs bOut=true:=by
  cases h:eqB fs bOut with
  | true=>rfl
  | false=>exact absurd (.inr (.inl h)) hc
 have hk:(st.nm.any fun x=>eqB x.1 bOut)=false:=by
  cases h:(st.nm.any fun x=>eqB x.1 bOut) with
  | false=>rfl
  | true=>exact absurd (.inr (.inr h)) hc
 clear hc
 subst hop
 obtain rfl:=eqB_iff.1 hso
 refine EX.intro (fn:=Tryz.f174) (c:=(Tryz.f174.body.getD .skip)) Tryz.func174 (by kernel_rfl) Tryz.ntmps174 (by kernel_rfl) fun π s0=>?_
 conv=>arg 2;whnf
 have w:=NowC.start c0 s0
 obtain ⟨D,d,kb,c,p1,p2,hxm,hkm,hxf,hxa⟩:=hx.kids2
 obtain ⟨Df,df,Af,cf,hfm,_⟩:=hxf.cells
 repeat (first|((with_reducible apply RS.load1B);(iterate 3 exact rfl);first|exact hxm;exact w.d _ _ hxm;exact rfl|exact hkm;exact w.d _ _ hkm;exact rfl|exact hfm;exact w.d _ _ hfm;exact rfl)|refine Y15 ?_|((with_reducible apply (RS.callA (g0:=195)));(iterate 3 exact rfl);exact fun B' hB'=>known_tf (w.abs hB').c hk w.c.w.nl2)|((with_reducible apply (RS.callEx (g0:=196)));(iterate 3 exact rfl);intro B1 hB1;have wa:=w.abs hB1;refine ⟨_,out_ex HR hs wa.c (hx.upX wa.k),?_⟩;rintro v H1 π1 ⟨b1,rfl,he1,c1,o1,n1'⟩ sp1 hle1;have he1:=NodeAt.weak he1 wa.o.1;have kk:=(Absb.kx hB1).trans (wa.kxo o1);have w:=wa.step c1 o1 n1' sp1.dom;skip)|refine Yl ?_|refine Yd ?_|refine Y6 ?_|refine Y2v ?_|refine Y0 ?_|refine Y13 ?_|refine Y1 ?_|refine Y5 ?_)
 exact endsK_ret _ (.cons (.tmp rfl) .nil) fun B' a=>w.ends a he1
theorem logic_ex (HR:RawOK R) {p:Nat} {kids:List ExprS} {e:NodeS} (hs:logicM R 13 p kids st=some (e,st')) {xb lo:Nat} {s:ByteArray} {tok:TokS} {ty:TypeS} (c0:ChkF h q st) (hx:ExprAt h lo xb (.mk 13 p s tok ty kids)):EX Tryz.prog 181 [ptrC q.cb,ptrC xb] h (RawQ q st h e st'):=by
 unfold logicM at hs
 split at hs
 case h_2=>cases hs
 rename_i x y
 obtain ⟨⟨a,sa,st1⟩,h1,hs⟩:=bind_some' hs
 obtain ⟨⟨b,sb,st2⟩,h2,hs⟩:=bind_some' hs
 simp only [Option.some.injEq,Prod.mk.injEq] at hs
 obtain ⟨rfl,rfl⟩:=hs
 obtain ⟨a',l1,_,hf1,_,e1,e2⟩:=truthM_iff h1
 obtain ⟨b',l2,_,hf2,_,e3,e4⟩:=truthM_iff h2
 rw [e1,e3]
 rw [e2] at h1
 rw [e4] at h2
 rw [e2,e4]
 clear e1 e2 e3 e4
 generalize (l1.sec || a'.hid)=sa at *
 generalize (l2.sec || b'.hid)=sb at *
 refine EX.intro (fn:=Tryz.f181) (c:=(Tryz.f181.body.getD .skip)) Tryz.func181 (by kernel_rfl) Tryz.ntmps181 (by kernel_rfl) fun π s0=>?_
 conv=>arg 2;whnf
 have w:=NowC.start c0 s0
 obtain ⟨D,d,kb,c,p1,p2,hxm0,hkm0,hx1,hx2⟩:=hx.kids2
 have hxm:=hxm0
 have hkm:=hkm0
 cases sa
 all_goals repeat (first|refine Y1s ?_|refine Y15 ?_|refine Y1i ?_|refine Yb ?_|refine Y56 ?_|refine Yi ?_|refine Y3m ?_|((with_reducible apply (RS.callEx (g0:=81)));(iterate 3 exact rfl);first|intro B1 hB1;have wa:=w.abs hB1;refine ⟨_,truth_ex HR h1 wa.c (hx1.upX wa.k),?_⟩;rintro v H1 π1 ⟨b1,rfl,he1,c1,o1,n1'⟩ sp1 hle1;have he1:=NodeAt.weak he1 wa.o.1;have kk:=(Absb.kx hB1).trans (wa.kxo o1);have w:=wa.step c1 o1 n1' sp1.dom;have hxm:=w.k _ _ hxm0 rfl;have hkm:=w.k _ _ hkm0 rfl|intro B1 hB1;have wa:=w.abs hB1;refine ⟨_,truth_ex HR h2 wa.c (hx2.upX wa.k),?_⟩;rintro v H1 π1 ⟨b2,rfl,he2,c1,o1,n1'⟩ sp1 hle1;have he2:=NodeAt.weak he2 wa.o.1;have kk:=(Absb.kx hB1).trans (wa.kxo o1);have w:=wa.step c1 o1 n1' sp1.dom;have hxm:=w.k _ _ hxm0 rfl;have hkm:=w.k _ _ hkm0 rfl;have he1:=he1.up kk;obtain ⟨tb1,tx1,nu1,re1,A1,n1,c1,hma,_⟩:=he1.cells;obtain ⟨tb2,tx2,nu2,re2,A2,n2,c2,hmb,_⟩:=he2.cells)|refine Y17 ?_|refine Yd ?_|refine Yc ?_|refine Y4 ?_|refine Yg ?_|refine Y2 ?_|refine Y9 ?_|refine Ya ?_|refine Yk ?_|refine Y0 ?_|refine Yv ?_|refine Y1 ?_|refine Y3 ?_)
 all_goals exact endsK_ret _ (.cons (.tmp rfl) .nil) fun B' a=>⟨_,rfl,node2 (tb:=0) (a.loc _ (Nat.le_of_ble_eq_true rfl)) (alo a w.o.1 _ rfl) trivial (a.loc _ (Nat.le_of_ble_eq_true rfl)) (alo a w.o.1 _ rfl) (he1.up (Absb.kx a)) (he2.up (Absb.kx a)),(w.abs a).c,(w.abs a).o,(w.abs a).n⟩
theorem den_upC {P:Program} {B H' B':Hp} {π:Nat→Nat} {k k2:Nat} {l l2:List (Nat × Option Blk)} (hden:(⟨B,π,k,l⟩:SH).den=H') (a:Absb (P:=P) ⟨B,π,k2,l2⟩ B') (hk:k≤k2) (hl:∀ j,j < k→lookB l2 j=lookB l j):∀ i c,H'.m i=some c→B'.m i=some c:=by
 intro i c hc
 subst hden
 simp only [SH.den] at hc
 by_cases hi:i < B.n
 ·rw [if_pos hi] at hc
  exact a.up i c hc
 ·rw [if_neg hi] at hc
  cases hx:idx π k i with
  | none=>rw [hx] at hc;cases hc
  | some j =>
   rw [hx] at hc
   obtain ⟨h1,h2⟩:=idx_some hx
   have:=a.loc j (Nat.lt_of_lt_of_le h1 hk)
   rw [hl j h1] at this
   rw [← h2,this];exact hc
theorem intsS_ty {a b e:NodeS} {op:ByteArray} {p:Nat} (h:intsS a b op p=some e):∃ la lb,a.ty=.int la∧b.ty=.int lb∧others.any (fun s=>eqB op s)=false:=by
 unfold intsS at h
 split at h
 ·rename_i la lb h1 h2
  split at h
  ·cases h
  ·rename_i ho;exact ⟨la,lb,h1,h2,by simpa using ho⟩
 ·cases h
set_option maxHeartbeats 1000000 in
theorem binary_ex (HR:RawOK R) {p:Nat} {kids:List ExprS} {e:NodeS} {s:ByteArray} (hs:binaryM R p s kids st=some (e,st')) {xb lo:Nat} {tok:TokS} {ty:TypeS} (c0:ChkF h q st) (hx:ExprAt h lo xb (.mk 12 p s tok ty kids)):EX Tryz.prog 184 [ptrC q.cb,ptrC xb] h (RawQ q st h e st'):=by
 unfold binaryM at hs
 split at hs
 case h_2=>cases hs
 rename_i x y
 obtain ⟨⟨a,st1⟩,h1,hs⟩:=bind_some' hs
 obtain ⟨⟨b,st2⟩,h2,hs⟩:=bind_some' hs
 obtain ⟨c,h3,hs⟩:=bind_some' hs
 simp only [Option.some.injEq,Prod.mk.injEq] at hs
 obtain ⟨rfl,rfl⟩:=hs
 obtain ⟨h1,hf1⟩:=okM_iff h1
 obtain ⟨h2,hf2⟩:=okM_iff h2
 unfold binS at h3
 refine EX.intro (fn:=Tryz.f184) (c:=(Tryz.f184.body.getD .skip)) Tryz.func184 (by kernel_rfl) Tryz.ntmps184 (by kernel_rfl) fun π s0=>?_
 conv=>arg 2;whnf
 have w:=NowC.start c0 s0
 obtain ⟨D,d,kb,cc,p1,p2,hxm0,hkm0,hx1,hx2⟩:=hx.kids2
 have hxm:=hxm0
 have hkm:=hkm0
 cases o1:eqB s (b1 43) with
 | true =>
  rw [o1,Bool.true_or,if_pos rfl] at h3
  repeat (first|refine Y1s ?_|refine Y15 ?_|refine Y1i ?_|refine Yb ?_|refine Ye ?_|((with_reducible apply (RS.callEx (g0:=119)));(iterate 3 exact rfl);first|intro B1 hB1;have wa:=w.abs hB1;refine ⟨_,cexpr_ex HR h1 wa.c (hx1.upX wa.k),?_⟩;rintro v H1 π1 ⟨b1,rfl,he1,c1,o1,n1'⟩ sp1 hle1;have he1:=NodeAt.weak he1 wa.o.1;have kk:=(Absb.kx hB1).trans (wa.kxo o1);have w:=wa.step c1 o1 n1' sp1.dom;have hxm:=w.k _ _ hxm0 rfl;have hkm:=w.k _ _ hkm0 rfl|intro B1 hB1;have wa:=w.abs hB1;refine ⟨_,cexpr_ex HR h2 wa.c (hx2.upX wa.k),?_⟩;rintro v H1 π1 ⟨b2,rfl,he2,c1,o1,n1'⟩ sp1 hle1;have he2:=NodeAt.weak he2 wa.o.1;have kk:=(Absb.kx hB1).trans (wa.kxo o1);have w:=wa.step c1 o1 n1' sp1.dom;have hxm:=w.k _ _ hxm0 rfl;have hkm:=w.k _ _ hkm0 rfl;have he1:=he1.up kk;obtain ⟨tb1,tx1,nu1,re1,A1,n1,c1,hma,_⟩:=he1.cells;obtain ⟨tb2,tx2,nu2,re2,A2,n2,c2,hmb,_⟩:=he2.cells;try rw [hta] at hma;try rw [htb] at hmb)|((with_reducible apply (RS.callY (g0:=176)));(iterate 4 exact rfl);intro B1 hde1 hB1;have wa:=w.abs hB1;refine ⟨_,add_ex wa.c wa.o.1 (he1.up (Absb.kx hB1)) (he2.up (Absb.kx hB1)) h3,(fun v H' ⟨_,_,_,o⟩ i hi=>o.2 i (Nat.lt_of_lt_of_le hi hB1.le)),?_⟩;rintro v H1 k1 l1 ⟨b3,rfl,he3,o1⟩ sp1 hle1 hden1 hwf1 hk1;skip)|refine Yl ?_|refine Y0 ?_|refine Ys ?_|refine Y1 ?_|refine Y5 ?_|refine Y3 ?_)
  exact endsK_ret _ (.cons (.tmp rfl) .nil) fun B' a2=>⟨_,rfl,he3.up (KeptX.of (den_upC hden1 a2 (Nat.le_refl _) fun _ _=>rfl)),(w.abs a2).c,(w.abs a2).o,(w.abs a2).n⟩
 | false =>
  cases o2:eqB s (b1 45) with
  | true =>
   rw [o1,o2,Bool.false_or,if_pos rfl] at h3
   repeat (first|refine Y1s ?_|refine Y15 ?_|refine Y1i ?_|refine Yb ?_|refine Ye ?_|((with_reducible apply (RS.callEx (g0:=119)));(iterate 3 exact rfl);first|intro B1 hB1;have wa:=w.abs hB1;refine ⟨_,cexpr_ex HR h1 wa.c (hx1.upX wa.k),?_⟩;rintro v H1 π1 ⟨b1,rfl,he1,c1,o1,n1'⟩ sp1 hle1;have he1:=NodeAt.weak he1 wa.o.1;have kk:=(Absb.kx hB1).trans (wa.kxo o1);have w:=wa.step c1 o1 n1' sp1.dom;have hxm:=w.k _ _ hxm0 rfl;have hkm:=w.k _ _ hkm0 rfl|intro B1 hB1;have wa:=w.abs hB1;refine ⟨_,cexpr_ex HR h2 wa.c (hx2.upX wa.k),?_⟩;rintro v H1 π1 ⟨b2,rfl,he2,c1,o1,n1'⟩ sp1 hle1;have he2:=NodeAt.weak he2 wa.o.1;have kk:=(Absb.kx hB1).trans (wa.kxo o1);have w:=wa.step c1 o1 n1' sp1.dom;have hxm:=w.k _ _ hxm0 rfl;have hkm:=w.k _ _ hkm0 rfl;have he1:=he1.up kk;obtain ⟨tb1,tx1,nu1,re1,A1,n1,c1,hma,_⟩:=he1.cells;obtain ⟨tb2,tx2,nu2,re2,A2,n2,c2,hmb,_⟩:=he2.cells;try rw [hta] at hma;try rw [htb] at hmb)|((with_reducible apply (RS.callY (g0:=176)));(iterate 4 exact rfl);intro B1 hde1 hB1;have wa:=w.abs hB1;refine ⟨_,add_ex wa.c wa.o.1 (he1.up (Absb.kx hB1)) (he2.up (Absb.kx hB1)) h3,(fun v H' ⟨_,_,_,o⟩ i hi=>o.2 i (Nat.lt_of_lt_of_le hi hB1.le)),?_⟩;rintro v H1 k1 l1 ⟨b3,rfl,he3,o1⟩ sp1 hle1 hden1 hwf1 hk1;skip)|refine Yl ?_|refine Y0 ?_|refine Ys ?_|refine Y1 ?_|refine Y5 ?_|refine Y3 ?_)
   exact endsK_ret _ (.cons (.tmp rfl) .nil) fun B' a2=>⟨_,rfl,he3.up (KeptX.of (den_upC hden1 a2 (Nat.le_refl _) fun _ _=>rfl)),(w.abs a2).c,(w.abs a2).o,(w.abs a2).n⟩
  | false =>
   rw [o1,o2,Bool.false_or,if_neg (by decide)] at h3
   obtain ⟨la,lb,hta,htb,ho⟩:=intsS_ty h3
   simp only [others,List.any_cons,List.any_nil,Bool.or_false,Bool.or_eq_false_iff] at ho
   obtain ⟨u1,u2,u3,u4,u5,u6⟩:=ho
   cases o3:eqB s (b2 61 61) with
   | true =>
    repeat (first|refine Y1s ?_|refine Y15 ?_|refine Y1i ?_|refine Yb ?_|refine Ye ?_|refine Y56 ?_|((with_reducible apply (RS.callEx (g0:=119)));(iterate 3 exact rfl);first|intro B1 hB1;have wa:=w.abs hB1;refine ⟨_,cexpr_ex HR h1 wa.c (hx1.upX wa.k),?_⟩;rintro v H1 π1 ⟨b1,rfl,he1,c1,o1,n1'⟩ sp1 hle1;have he1:=NodeAt.weak he1 wa.o.1;have kk:=(Absb.kx hB1).trans (wa.kxo o1);have w:=wa.step c1 o1 n1' sp1.dom;have hxm:=w.k _ _ hxm0 rfl;have hkm:=w.k _ _ hkm0 rfl|intro B1 hB1;have wa:=w.abs hB1;refine ⟨_,cexpr_ex HR h2 wa.c (hx2.upX wa.k),?_⟩;rintro v H1 π1 ⟨b2,rfl,he2,c1,o1,n1'⟩ sp1 hle1;have he2:=NodeAt.weak he2 wa.o.1;have kk:=(Absb.kx hB1).trans (wa.kxo o1);have w:=wa.step c1 o1 n1' sp1.dom;have hxm:=w.k _ _ hxm0 rfl;have hkm:=w.k _ _ hkm0 rfl;have he1:=he1.up kk;obtain ⟨tb1,tx1,nu1,re1,A1,n1,c1,hma,_⟩:=he1.cells;obtain ⟨tb2,tx2,nu2,re2,A2,n2,c2,hmb,_⟩:=he2.cells;try rw [hta] at hma;try rw [htb] at hmb)|((with_reducible apply (RS.callY (g0:=197)));(iterate 4 exact rfl);intro B1 hde1 hB1;have wa:=w.abs hB1;refine ⟨_,ints_ex wa.o.1 (he1.up (Absb.kx hB1)) (he2.up (Absb.kx hB1)) h3 wa.cv,(fun v H' ⟨_,_,_,o⟩ i hi=>o.2 i (Nat.lt_of_lt_of_le hi hB1.le)),?_⟩;rintro v H1 k1 l1 ⟨b3,rfl,he3,o1⟩ sp1 hle1 hden1 hwf1 hk1;skip)|refine Yl ?_|refine Yc ?_|refine Y4 ?_|refine Y0 ?_|refine Y18 ?_|refine Y1 ?_|refine Y5 ?_|refine Y3 ?_)
    exact endsK_ret _ (.cons (.tmp rfl) .nil) fun B' a2=>⟨_,rfl,he3.up (KeptX.of (den_upC hden1 a2 (Nat.le_refl _) fun _ _=>rfl)),(w.abs a2).c,(w.abs a2).o,(w.abs a2).n⟩
   | false =>
    repeat (first|refine Y1s ?_|refine Y15 ?_|refine Y1i ?_|refine Yb ?_|refine Ye ?_|((with_reducible apply (RS.callEx (g0:=119)));(iterate 3 exact rfl);first|intro B1 hB1;have wa:=w.abs hB1;refine ⟨_,cexpr_ex HR h1 wa.c (hx1.upX wa.k),?_⟩;rintro v H1 π1 ⟨b1,rfl,he1,c1,o1,n1'⟩ sp1 hle1;have he1:=NodeAt.weak he1 wa.o.1;have kk:=(Absb.kx hB1).trans (wa.kxo o1);have w:=wa.step c1 o1 n1' sp1.dom;have hxm:=w.k _ _ hxm0 rfl;have hkm:=w.k _ _ hkm0 rfl|intro B1 hB1;have wa:=w.abs hB1;refine ⟨_,cexpr_ex HR h2 wa.c (hx2.upX wa.k),?_⟩;rintro v H1 π1 ⟨b2,rfl,he2,c1,o1,n1'⟩ sp1 hle1;have he2:=NodeAt.weak he2 wa.o.1;have kk:=(Absb.kx hB1).trans (wa.kxo o1);have w:=wa.step c1 o1 n1' sp1.dom;have hxm:=w.k _ _ hxm0 rfl;have hkm:=w.k _ _ hkm0 rfl;have he1:=he1.up kk;obtain ⟨tb1,tx1,nu1,re1,A1,n1,c1,hma,_⟩:=he1.cells;obtain ⟨tb2,tx2,nu2,re2,A2,n2,c2,hmb,_⟩:=he2.cells;try rw [hta] at hma;try rw [htb] at hmb)|((with_reducible apply (RS.callY (g0:=197)));(iterate 4 exact rfl);intro B1 hde1 hB1;have wa:=w.abs hB1;refine ⟨_,ints_ex wa.o.1 (he1.up (Absb.kx hB1)) (he2.up (Absb.kx hB1)) h3 wa.cv,(fun v H' ⟨_,_,_,o⟩ i hi=>o.2 i (Nat.lt_of_lt_of_le hi hB1.le)),?_⟩;rintro v H1 k1 l1 ⟨b3,rfl,he3,o1⟩ sp1 hle1 hden1 hwf1 hk1;skip)|refine Yl ?_|refine Y0 ?_|refine Y18 ?_|refine Y1 ?_|refine Y3 ?_)
    exact endsK_ret _ (.cons (.tmp rfl) .nil) fun B' a2=>⟨_,rfl,he3.up (KeptX.of (den_upC hden1 a2 (Nat.le_refl _) fun _ _=>rfl)),(w.abs a2).c,(w.abs a2).o,(w.abs a2).n⟩
end
end Go.Proofs.YtgpigfcagppohaaGreatDoor
