/-
  What the functions that the law reaches compute,told by plain data;it holds of programs that pass the check of right form and are light.
-/
import Derived.Test.YtgpigfcagppohaaGreatDoorR9
set_option linter.unusedVariables false
set_option linter.unusedSimpArgs false
namespace Go.Proofs.YtgpigfcagppohaaGreatDoor
open Go.AH
attribute [local irreducible] W RS WR
theorem ExprAt.cells {h:Hp} {lo b op pos:Nat} {text:ByteArray} {tok:TokS} {ty:TypeS} {kids:List ExprS} (he:ExprAt h lo b (.mk op pos text tok ty kids)):∃ (D:Option Addr) (d:Nat) (A:Option Addr) (c:Nat),h.m b=some ⟨⟨exprC op pos text tok ty D d A kids.length c⟩,232⟩∧RowAt h lo 3 D (dimsC ty.dims):=by
 cases he with
 | mk h0 hm hd hk hl hr=>exact ⟨_,_,_,_,hm,hd⟩
theorem ExprAt.kids1 {h:Hp} {lo b op pos:Nat} {text:ByteArray} {tok:TokS} {ty:TypeS} {x:ExprS} (he:ExprAt h lo b (.mk op pos text tok ty [x])):∃ (D:Option Addr) (d kb c p:Nat),h.m b=some ⟨⟨exprC op pos text tok ty D d (some ⟨kb,0,none⟩) 1 c⟩,232⟩∧h.m kb=some ⟨⟨[ptrC p]⟩,181⟩∧ExprAt h lo p x∧RowAt h lo 3 D (dimsC ty.dims):=by
 cases he with
 | mk h0 hm hd hk hl hr =>
  rename_i ps
  match ps,hl with
  | [p],_ =>
   rcases hk with ⟨h1,_⟩|⟨kb,rfl,_,h3⟩
   ·cases h1
   ·exact ⟨_,_,kb,_,p,hm,h3,hr 0 p x rfl rfl,hd⟩
theorem ExprAt.kids2 {h:Hp} {lo b op pos:Nat} {text:ByteArray} {tok:TokS} {ty:TypeS} {x y:ExprS} (he:ExprAt h lo b (.mk op pos text tok ty [x,y])):∃ (D:Option Addr) (d kb c p p2:Nat),h.m b=some ⟨⟨exprC op pos text tok ty D d (some ⟨kb,0,none⟩) 2 c⟩,232⟩∧h.m kb=some ⟨⟨[ptrC p,ptrC p2]⟩,181⟩∧ExprAt h lo p x∧ExprAt h lo p2 y:=by
 cases he with
 | mk h0 hm hd hk hl hr =>
  rename_i ps
  match ps,hl with
  | [p,p2],_ =>
   rcases hk with ⟨h1,_⟩|⟨kb,rfl,_,h3⟩
   ·cases h1
   ·exact ⟨_,_,kb,_,p,p2,hm,h3,hr 0 p x rfl rfl,hr 1 p2 y rfl rfl⟩
theorem ExprAt.kids3 {h:Hp} {lo b op pos:Nat} {text:ByteArray} {tok:TokS} {ty:TypeS} {x y z:ExprS} (he:ExprAt h lo b (.mk op pos text tok ty [x,y,z])):∃ (D:Option Addr) (d kb c p p2 p3:Nat),h.m b=some ⟨⟨exprC op pos text tok ty D d (some ⟨kb,0,none⟩) 3 c⟩,232⟩∧h.m kb=some ⟨⟨[ptrC p,ptrC p2,ptrC p3]⟩,181⟩∧ExprAt h lo p x∧ExprAt h lo p2 y∧ExprAt h lo p3 z:=by
 cases he with
 | mk h0 hm hd hk hl hr =>
  rename_i ps
  match ps,hl with
  | [p,p2,p3],_ =>
   rcases hk with ⟨h1,_⟩|⟨kb,rfl,_,h3⟩
   ·cases h1
   ·exact ⟨_,_,kb,_,p,p2,p3,hm,h3,hr 0 p x rfl rfl,hr 1 p2 y rfl rfl,hr 2 p3 z rfl rfl⟩
theorem ExprAt.at {h:Hp} {lo b:Nat} {x:ExprS} (he:ExprAt h lo b x):∃ cs,h.m b=some ⟨⟨cs⟩,232⟩∧cs[1]?=some (.int .i64 x.pos):=by
 cases he with
 | mk h0 hm hd hk hl hr=>exact ⟨_,hm,rfl⟩
def RawQ (q:Pl) (st:CS) (h:Hp) (e:NodeS) (st':CS) (v:Value) (h':Hp):Prop:=∃ b,v=ptrC b∧NodeAt h' h.n b e∧ChkF h' q st'∧OffP q.cb h h'∧(st'.fk=0→st'=st∧Old h h')
def RawOK (R:ExprS→CS→Option (NodeS × CS)):Prop:=∀ x st e st',R x st=some (e,st')→∀ q h xb lo,ChkF h q st→ExprAt h lo xb x→EX Tryz.prog 153 [ptrC q.cb,ptrC xb] h (RawQ q st h e st')
section
variable {R:ExprS→CS→Option (NodeS × CS)} {h:Hp} {q:Pl} {st st':CS}
theorem NowC.ends {P:Program} {G B B':Hp} {π:Nat→Nat} {k:Nat} {l:List (Nat × Option Blk)} {e0:CS} (w:NowC q e0 G B st) (a:Absb (P:=P) ⟨B,π,k,l⟩ B') {b:Nat} {e:NodeS} (he:NodeAt B G.n b e):RawQ q e0 G e st (ptrC b) B':=⟨b,rfl,he.up (Absb.kx a),(w.abs a).c,(w.abs a).o,(w.abs a).n⟩
theorem cexpr_ex (HR:RawOK R) {x:ExprS} {e:NodeS} (hs:exprM R x st=some (e,st')) {xb lo:Nat} (c0:ChkF h q st) (hx:ExprAt h lo xb x):EX Tryz.prog 119 [ptrC q.cb,ptrC xb] h (RawQ q st h e st'):=by
 refine EX.intro (fn:=Tryz.f119) (c:=(Tryz.f119.body.getD .skip)) Tryz.func119 (by kernel_rfl) Tryz.ntmps119 (by kernel_rfl) fun π s0=>?_
 conv=>arg 2;whnf
 have w:=NowC.start c0 s0
 unfold exprM at hs
 obtain ⟨⟨e1,st1⟩,hr,hs⟩:=bind_some' hs
 dsimp only at hs
 split at hs
 ·rename_i hc
  simp only [Option.some.injEq,Prod.mk.injEq] at hs
  obtain ⟨rfl,rfl⟩:=hs
  by_cases hf:st1.fk=0
  ·have hp:placeS e1=false:=hc.resolve_left (fun h=>h hf)
   repeat (first|((with_reducible apply (RS.callEx (g0:=153)));(iterate 3 exact rfl);intro B1 hB1;have wa:=w.abs hB1;refine ⟨_,HR _ _ _ _ hr _ _ _ _ wa.c (hx.upX wa.k),?_⟩;rintro v H1 π1 ⟨b1,rfl,he1,c1,o1,n1'⟩ sp1 hle1;have he1:=NodeAt.weak he1 wa.o.1;have kk:=(Absb.kx hB1).trans (wa.kxo o1);have w:=wa.step c1 o1 n1' sp1.dom;skip)|refine Yb ?_|refine Y46 ?_|refine Yl ?_|refine Yc ?_|refine Y0 ?_|refine Y13 ?_|refine Y1 ?_|refine Y5 ?_)
   exact endsK_ret _ (.cons (.tmp rfl) .nil) fun B' a=>w.ends a he1
  ·repeat (first|((with_reducible apply (RS.callEx (g0:=153)));(iterate 3 exact rfl);intro B1 hB1;have wa:=w.abs hB1;refine ⟨_,HR _ _ _ _ hr _ _ _ _ wa.c (hx.upX wa.k),?_⟩;rintro v H1 π1 ⟨b1,rfl,he1,c1,o1,n1'⟩ sp1 hle1;have he1:=NodeAt.weak he1 wa.o.1;have kk:=(Absb.kx hB1).trans (wa.kxo o1);have w:=wa.step c1 o1 n1' sp1.dom;skip)|refine Y1j ?_|refine Yl ?_|refine Yd ?_|refine Yk ?_|refine Y0 ?_|refine Y13 ?_|refine Y1 ?_|refine Y5 ?_)
   exact endsK_ret _ (.cons (.tmp rfl) .nil) fun B' a=>w.ends a he1
 ·rename_i hc
  obtain ⟨e2,hl,hs⟩:=Option.map_eq_some_iff.1 hs
  simp only [Prod.mk.injEq] at hs
  obtain ⟨rfl,rfl⟩:=hs
  have hf:st1.fk=0:=Decidable.byContradiction fun h=>hc (.inl h)
  have hp:placeS e1=true:=by
   cases h:placeS e1 with
   | true=>rfl
   | false=>exact absurd (.inr h) hc
  repeat (first|((with_reducible apply (RS.callEx (g0:=153)));(iterate 3 exact rfl);intro B1 hB1;have wa:=w.abs hB1;refine ⟨_,HR _ _ _ _ hr _ _ _ _ wa.c (hx.upX wa.k),?_⟩;rintro v H1 π1 ⟨b1,rfl,he1,c1,o1,n1'⟩ sp1 hle1;have he1:=NodeAt.weak he1 wa.o.1;have kk:=(Absb.kx hB1).trans (wa.kxo o1);have w:=wa.step c1 o1 n1' sp1.dom;skip)|refine Yb ?_|refine Y46 ?_|((with_reducible apply (RS.callEx (g0:=155)));(iterate 3 exact rfl);intro B1 hB1;have wa:=w.abs hB1;refine ⟨_,loaded_ex wa.cv wa.o.1 (he1.up (Absb.kx hB1)) hl,?_⟩;rintro v H1 π1 ⟨b2,rfl,he2,o1⟩ sp1 hle1;have kk:=(Absb.kx hB1).trans (Old.kx o1 wa.d);have w:=wa.stepO o1 sp1.dom;skip)|refine Yl ?_|refine Yc ?_|refine Y0 ?_|refine Yv ?_|refine Y1 ?_|refine Y3 ?_)
  exact endsK_ret _ (.cons (.tmp rfl) .nil) fun B' a=>w.ends a he2
theorem okM_iff {x:ExprS} {e:NodeS} (hs:okM R x st=some (e,st')):exprM R x st=some (e,st')∧st'.fk=0:=by
 unfold okM at hs
 obtain ⟨⟨e1,s1⟩,h1,hs⟩:=bind_some' hs
 dsimp only at hs
 split at hs
 ·cases hs
 ·rename_i hf
  simp only [Option.some.injEq,Prod.mk.injEq] at hs
  obtain ⟨rfl,rfl⟩:=hs
  exact ⟨h1,Decidable.byContradiction hf⟩
theorem intM_iff {x:ExprS} {e:NodeS} {l:LfS} (hs:intM R x st=some (e,l,st')):exprM R x st=some (e,st')∧st'.fk=0∧e.ty=.int l:=by
 unfold intM at hs
 obtain ⟨⟨e1,s1⟩,h1,hs⟩:=bind_some' hs
 obtain ⟨h1,hf⟩:=okM_iff h1
 dsimp only at hs
 split at hs
 ·rename_i l hty
  simp only [Option.some.injEq,Prod.mk.injEq] at hs
  obtain ⟨rfl,rfl,rfl⟩:=hs
  exact ⟨h1,hf,hty⟩
 ·cases hs
theorem integer_ex (HR:RawOK R) {x:ExprS} {e:NodeS} {l:LfS} (hs:intM R x st=some (e,l,st')) {xb lo:Nat} (c0:ChkF h q st) (hx:ExprAt h lo xb x):EX Tryz.prog 124 [ptrC q.cb,ptrC xb] h (RawQ q st h e st'):=by
 obtain ⟨h1,hf,hty⟩:=intM_iff hs
 clear hs
 refine EX.intro (fn:=Tryz.f124) (c:=(Tryz.f124.body.getD .skip)) Tryz.func124 (by kernel_rfl) Tryz.ntmps124 (by kernel_rfl) fun π s0=>?_
 conv=>arg 2;whnf
 have w:=NowC.start c0 s0
 repeat (first|refine Yb ?_|((with_reducible apply (RS.callEx (g0:=119)));(iterate 3 exact rfl);intro B1 hB1;have wa:=w.abs hB1;refine ⟨_,cexpr_ex HR h1 wa.c (hx.upX wa.k),?_⟩;rintro v H1 π1 ⟨b1,rfl,he1,c1,o1,n1'⟩ sp1 hle1;have he1:=NodeAt.weak he1 wa.o.1;have kk:=(Absb.kx hB1).trans (wa.kxo o1);have w:=wa.step c1 o1 n1' sp1.dom;obtain ⟨tb1,tx1,nu1,re1,A1,n1,c2,hma,_⟩:=he1.cells;rw [hty] at hma)|((with_reducible apply RS.load1B);(iterate 3 exact rfl);exact hma;exact sp1.dom _ _ hma;exact rfl)|refine Y8 ?_|refine Yd ?_|refine Yo ?_|refine Y0 ?_|refine Yv ?_|refine Y1 ?_|refine Y3 ?_)
 exact endsK_ret _ (.cons (.tmp rfl) .nil) fun B' a=>w.ends a he1
theorem truthM_iff {x:ExprS} {no:ByteArray} {d:NodeS} {s:Bool} (hs:truthM R x no st=some (d,s,st')):∃ e l,exprM R x st=some (e,st')∧st'.fk=0∧e.ty=.int l∧s=(l.sec || e.hid)∧d=.mk 25 x.pos (.int (i4 (l.sec || e.hid))) false no 0 0 [e]:=by
 unfold truthM at hs
 obtain ⟨⟨e1,s1⟩,h1,hs⟩:=bind_some' hs
 obtain ⟨h1,hf⟩:=okM_iff h1
 dsimp only at hs
 split at hs
 ·rename_i l hty
  simp only [Option.some.injEq,Prod.mk.injEq] at hs
  obtain ⟨rfl,rfl,rfl⟩:=hs
  exact ⟨_,l,h1,hf,hty,rfl,rfl⟩
 ·cases hs
theorem truth_ex (HR:RawOK R) {x:ExprS} {no:ByteArray} {d:NodeS} {s:Bool} (hs:truthM R x no st=some (d,s,st')) {xb lo:Nat} (c0:ChkF h q st) (hx:ExprAt h lo xb x):EX Tryz.prog 81 [ptrC q.cb,ptrC xb,.string no] h (RawQ q st h d st'):=by
 obtain ⟨e,l,h1,hf,hty,rfl,rfl⟩:=truthM_iff hs
 clear hs
 refine EX.intro (fn:=Tryz.f81) (c:=(Tryz.f81.body.getD .skip)) Tryz.func81 (by kernel_rfl) Tryz.ntmps81 (by kernel_rfl) fun π s0=>?_
 conv=>arg 2;whnf
 have w:=NowC.start c0 s0
 obtain ⟨op,pos,text,tok,ty,kids⟩:=x
 obtain ⟨D,d,A,c,hxc0,_⟩:=hx.cells
 obtain ⟨sz,sg,sc⟩:=l
 cases sc
 all_goals repeat (first|refine Yb ?_|((with_reducible apply RS.load1B);(iterate 3 exact rfl);exact hma;exact sp1.dom _ _ hma;exact rfl)|refine Y3m ?_|refine Yi ?_|((with_reducible apply RS.load1B);(iterate 3 exact rfl);exact hxc;exact sp1.dom _ _ hxc;exact rfl)|((with_reducible apply (RS.callEx (g0:=119)));(iterate 3 exact rfl);intro B1 hB1;have wa:=w.abs hB1;refine ⟨_,cexpr_ex HR h1 wa.c (hx.upX wa.k),?_⟩;rintro v H1 π1 ⟨b1,rfl,he1,c1,o1,n1'⟩ sp1 hle1;have he1:=NodeAt.weak he1 wa.o.1;have kk:=(Absb.kx hB1).trans (wa.kxo o1);have w:=wa.step c1 o1 n1' sp1.dom;obtain ⟨tb1,tx1,nu1,re1,A1,n1,c2,hma,_⟩:=he1.cells;rw [hty] at hma;have hxc:=w.k _ _ hxc0 rfl)|refine Y17 ?_|refine Yd ?_|refine Yc ?_|refine Yo ?_|refine Yg ?_|refine Y2 ?_|refine Y9 ?_|refine Ya ?_|refine Yk ?_|refine Y0 ?_|refine Yv ?_|refine Y1 ?_|refine Y3 ?_)
 all_goals exact endsK_ret _ (.cons (.tmp rfl) .nil) fun B' a=>⟨_,rfl,node1 (tb:=0) (a.loc _ (Nat.le_of_ble_eq_true rfl)) (alo a w.o.1 _ rfl) trivial (a.loc _ (Nat.le_of_ble_eq_true rfl)) (alo a w.o.1 _ rfl) (he1.up (Absb.kx a)),(w.abs a).c,(w.abs a).o,(w.abs a).n⟩
end
theorem nm_row {h:Hp} {na:Option Addr} {nc:Nat} {nm:List (ByteArray × Nat × Nat)} (hn:NmAt h na nc nm) {i:Nat} {x:ByteArray × Nat × Nat} (hx:nm[i]?=some x):∃ b cs,na=some ⟨b,0,none⟩∧nc=capOf 3∧h.m b=some ⟨⟨cs⟩,186⟩∧takeV (0+i * 3) 3 cs=nmC x∧0+i * 3+3≤cs.length:=by
 rcases hn with ⟨_,_,h3⟩|⟨b,cs,st,h1,h2,h3,h4,h5⟩
 ·subst h3;simp at hx
 ·have hw:∀ c∈(nm++st).map nmC,c.length=3:=by
   intro c hc
   obtain ⟨y,_,rfl⟩:=List.mem_map.1 hc
   rfl
  have hi:i < nm.length:=(List.getElem?_eq_some_iff.1 hx).1
  have hy:((nm++st).map nmC)[i]?=some (nmC x):=by
   rw [List.getElem?_map,List.getElem?_append_left hi,hx];rfl
  have:=flatT hw hy (o:=0) (n:=3) (by omega)
  exact ⟨b,_,h1,h2,h3,this.1,this.2⟩
section
variable {R:ExprS→CS→Option (NodeS × CS)} {h:Hp} {q:Pl} {st st':CS}
theorem known_tf (w:ChkF h q st) {s:ByteArray} (hk:(st.nm.any fun x=>eqB x.1 s)=false) (hl:st.nm.length≤1000000):TF Tryz.prog 195 ⟨[ptrC q.cb,.string s]⟩ h (.bool false) h:=by
 refine TF.exact (fn:=Tryz.f195) (c:=(Tryz.f195.body.getD .skip)) Tryz.func195 (by kernel_rfl) Tryz.ntmps195 (by kernel_rfl) (fun s0=>old0 s0 (by simp)) fun π s0=>?_
 conv=>arg 2;whnf
 ((with_reducible apply W.seq);repeat (first|refine Yw ?_|refine Y0 ?_|refine Y1 ?_|refine Ym ?_))
 ((with_reducible apply W.seq);repeat (fail))
 ((with_reducible apply W.seq);repeat (first|((with_reducible apply RS.load1B);(iterate 3 exact rfl);exact w.w.c;exact s0.dom _ _ w.w.c;exact rfl)|refine Yy ?_|refine Y0 ?_|refine Y1 ?_|refine Y24 ?_))
 refine W.loopN (X:=Nat) (fun i=>[(1,.string s),(10,.slice q.na st.nm.length q.nc),(11,.int .i64 st.nm.length),(12,.int .i64 i)]) (fun i B=>i≤st.nm.length∧∀ x b,h.m x=some b→B.m x=some b) (fun i=>st.nm.length - i)
  (fun B' a=>⟨0,?_,Nat.zero_le _,a.up⟩) ?_
 ·(repeat' (first|exact trivial|exact rfl|apply And.intro));done
 rintro i B π1 sB ⟨hle,hup⟩
 dsimp only at hle hup ⊢
 have hdB:=sB.dom
 by_cases hi:i < st.nm.length
 ·obtain ⟨x,hx⟩:∃ x,st.nm[i]?=some x:=⟨_,List.getElem?_eq_getElem hi⟩
  obtain ⟨b,cs,hna,hnc,hmb,htk,hlen⟩:=nm_row (w.w.n.up hup) hx
  have hne:eqB x.1 s=false:=by
   have:=List.any_eq_false.1 hk x (List.mem_of_getElem? hx)
   simpa using this
  repeat (first|refine Y21 ?_|((with_reducible apply (RS.loadNB (vs:=nmC x)));(iterate 3 exact rfl);exact hmb;exact hdB _ _ hmb;exact hlen;exact htk)|refine Ye ?_|refine Y1r ?_|refine Y6 ?_|refine Yp ?_|refine Yh ?_|refine Y2 ?_|refine Y9 ?_|refine Y0 ?_|refine Yt ?_|refine Y1 ?_|refine Y5 ?_|refine Y3 ?_)
  refine roundN_n rfl fun B' a=>⟨i+1,?_,⟨by omega,fun x b hb=>a.up _ _ (hup _ _ hb)⟩,by omega⟩
  (repeat' (first|exact trivial|exact rfl|apply And.intro));done
 ·repeat (first|refine Yw ?_|refine Y4 ?_|refine Y0 ?_|refine Y1t ?_|refine Y1 ?_|refine Y3 ?_|refine Yn ?_)
  exact endsK_ret _ (.cons (.tmp rfl) .nil) fun B' a=>⟨rfl,fun x b hb=>a.up _ _ (hup _ _ hb)⟩
theorem findL_end {s:ByteArray} {nm:List (ByteArray × Nat × Nat)} {k:Nat} {x:ByteArray × Nat × Nat} (hx:nm[k]?=some x):findL s (nm.take (k+1)).reverse=if eqB x.1 s then some x.2.1 else findL s (nm.take k).reverse:=by
 rw [List.take_add_one,hx]
 simp [findL]
theorem rows_at {α:Type} {B:Hp} {b:Nat} {l:List α} {e:TypeId} {Q:Hp→α→List Value→Prop} {w:Nat} {gs:List (List Value)} (r:RowsAt B b l e Q w gs) {i:Nat} {d:α} (hd:l[i]?=some d):∃ c,gs[i]?=some c∧Q B d c:=by
 have hi:i < gs.length:=by rw [r.len];exact (List.getElem?_eq_some_iff.1 hd).1
 exact ⟨_,List.getElem?_eq_getElem hi,r.row i _ d (List.getElem?_eq_getElem hi) hd⟩
theorem rA1_some {α:Type} {b:Nat} {l:List α} (h:l≠[]):rA1 b l=some ⟨b,0,none⟩:=if_neg h
theorem varC_all (name:ByteArray) (t:TyS) (b:Nat) (mem:Bool) (pos:Nat) (D:Value):((varC name t b mem pos D).drop 0).take 15=varC name t b mem pos D:=by cases t<;>rfl
theorem varC_drop1 (name:ByteArray) (t:TyS) (b:Nat) (mem:Bool) (pos:Nat) (D:Value):((varC name t b mem pos D).drop 1).take 9=tyC t b:=by cases t<;>rfl
set_option maxHeartbeats 1000000 in
theorem variable_ex {s:ByteArray} {p:Nat} {e:NodeS} (hs:varS s p st=some (e,st')) {xb lo:Nat} {tok:TokS} {ty:TypeS} {kids:List ExprS} (c0:ChkF h q st) (hx:ExprAt h lo xb (.mk 2 p s tok ty kids)):EX Tryz.prog 173 [ptrC q.cb,ptrC xb] h (RawQ q st h e st'):=by
 refine EX.intro (fn:=Tryz.f173) (c:=(Tryz.f173.body.getD .skip)) Tryz.func173 (by kernel_rfl) Tryz.ntmps173 (by kernel_rfl) fun π s0=>?_
 conv=>arg 2;whnf
 have w:=NowC.start c0 s0
 obtain ⟨D,d,A,c,hxm0,_⟩:=hx.cells
 unfold varS at hs
 have hxm:=hxm0
 have hnl:=c0.w.nl
 have hgn:=c0.w.gn
 ((with_reducible apply W.seq);repeat (first|refine Yw ?_|refine Y0 ?_|refine Y1 ?_|refine Ym ?_))
 ((with_reducible apply W.seq);repeat (fail))
 ((with_reducible apply W.seq);repeat (first|refine Y3k ?_|((with_reducible apply (RS.binFit (n:=(st.nm.length:Int) - 1)));(iterate 5 exact rfl);(have:=c0.w.nl;omega))|refine Y1c ?_|refine Y0 ?_|refine Y1 ?_|refine Y24 ?_))
 refine W.loopN (X:=Nat) (fun k=>[(0,ptrC q.cb),(1,ptrC xb),(5,.int .i64 ((k:Int) - 1))]) (fun k B=>k≤st.nm.length∧findL s st.nm.reverse=findL s (st.nm.take k).reverse∧NowC q st h B st) (fun k=>k)
  (fun B' a=>⟨st.nm.length,?_,Nat.le_refl _,by rw [List.take_length],w.abs a⟩) ?_
 ·(repeat' (first|exact trivial|exact rfl|apply And.intro));done
 clear w hxm
 rintro k B π1 sB ⟨hle,hfi,w⟩
 dsimp only at hle hfi w ⊢
 have hxm:=w.k _ _ hxm0 rfl
 cases k with
 | succ k =>
  have hk:k < st.nm.length:=hle
  obtain ⟨x,hxx⟩:∃ x,st.nm[k]?=some x:=⟨_,List.getElem?_eq_getElem hk⟩
  obtain ⟨b,cs,hna,hnc,hmb,htk,hlen⟩:=nm_row w.c.w.n hxx
  rw [findL_end hxx] at hfi
  cases he:eqB x.1 s with
  | false =>
   rw [he,if_neg (by decide)] at hfi
   repeat (first|refine Ye ?_|refine Y20 ?_|refine Y4w ?_|refine Y2a ?_|((with_reducible apply (RS.binFit (n:=(k:Int) - 1)));(iterate 4 exact rfl);exact congrArg some (show (((k+1:Nat):Int) - 1) - 1=(k:Int) - 1 by omega);omega)|refine Y8 ?_|refine Y6 ?_|refine Yh ?_|refine Y2 ?_|refine Y9 ?_|refine Y0 ?_|refine Yt ?_|refine Y1 ?_|refine Y5 ?_|refine Y3 ?_)
   refine roundN_n rfl fun B' a=>⟨k,?_,⟨by omega,hfi,w.abs a⟩,Nat.lt_succ_self k⟩
   (repeat' (first|exact trivial|exact rfl|apply And.intro));done
  | true =>
   rw [he,if_pos rfl] at hfi
   rw [hfi] at hs
   obtain ⟨t,ht,hs⟩:=Option.map_eq_some_iff.1 hs
   simp only [Prod.mk.injEq] at hs
   obtain ⟨rfl,rfl⟩:=hs
   have hli:x.2.1 < st.lc.length:=(List.getElem?_eq_some_iff.1 ht).1
   have hlne:st.lc≠[]:=fun e=>by rw [e] at hli;exact absurd hli (Nat.not_lt_zero _)
   have hla:=rA1_some (b:=q.lb) hlne
   obtain ⟨gs,hr⟩:=w.c.l hlne
   obtain ⟨row,hrow,nm',tb,mem,rfl,hte⟩:=rows_at hr ht
   have hlm:=hr.m
   obtain ⟨htk2,hlen2⟩:=flatT hr.wid hrow (o:=1) (n:=9) (by omega)
   rw [varC_drop1] at htk2
   cases t
   all_goals repeat (first|refine Ye ?_|refine Y20 ?_|((with_reducible apply RS.load1B);(iterate 3 exact rfl);first|exact w.c.w.c;exact w.d _ _ w.c.w.c;exact rfl|exact w.c.f;exact w.d _ _ w.c.f;exact rfl|exact hxm;exact w.d _ _ hxm;exact rfl)|refine Y2a ?_|((with_reducible apply (RS.indexAddrS (n:=x.2.1)));(iterate 2 exact rfl);exact congrArg (fun a=>some (Value.slice a st.lc.length (rK1 15 st.lc))) hla;(iterate 2 exact rfl);exact hli)|((with_reducible apply (RS.loadNB (vs:=_)));(iterate 3 exact rfl);exact hlm;exact w.d _ _ hlm;exact hlen2;exact htk2)|refine Yj ?_|refine Y6 ?_|refine Yh ?_|refine Y2 ?_|refine Y9 ?_|refine Ya ?_|refine Y0 ?_|refine Y5d ?_|refine Y1 ?_|refine Y5 ?_)
   all_goals exact endsK_ret _ (.cons (.tmp rfl) .nil) fun B' a=>⟨_,rfl,node0 (a.loc _ (Nat.le_of_ble_eq_true rfl)) (alo a w.o.1 _ rfl) (TyE.up (Absb.kx a) hte),(w.abs a).c,(w.abs a).o,(w.abs a).n⟩
 | zero =>
  have hnone:findL s st.nm.reverse=none:=hfi
  rw [hnone] at hs
  clear hfi hle hnone
  repeat (first|((with_reducible apply RS.load1B);(iterate 3 exact rfl);first|exact w.c.w.c;exact w.d _ _ w.c.w.c;exact rfl|exact w.c.w.p;exact w.d _ _ w.c.w.p;exact rfl)|refine Yy ?_|refine Y4 ?_|refine Y0 ?_|(with_reducible first|apply W.seq|apply W.block|apply W.exit|apply thenK_n|apply thenK_e|apply roundN_e)|refine Y1 ?_|refine Y3 ?_|refine Yn ?_)
  refine W.loopN (X:=Nat) (fun i=>[(0,ptrC q.cb),(1,ptrC xb),(61,.slice (rA1 q.gb st.gl) st.gl.length (rK1 15 st.gl)),(62,.int .i64 st.gl.length),(63,.int .i64 i)]) (fun i B=>i≤st.gl.length∧findG s 0 st.gl=findG s i (st.gl.drop i)∧NowC q st h B st) (fun i=>st.gl.length - i)
   (fun B' a=>⟨0,?_,Nat.zero_le _,rfl,w.abs a⟩) ?_
  ·(repeat' (first|exact trivial|exact rfl|apply And.intro));done
  clear w hxm
  rintro i B2 π2 sB2 ⟨hle,hfi,w⟩
  dsimp only at hle hfi w ⊢
  have hxm:=w.k _ _ hxm0 rfl
  by_cases hi:i < st.gl.length
  ·obtain ⟨⟨gn,gt,gp⟩,hx2⟩:∃ x,st.gl[i]?=some x:=⟨_,List.getElem?_eq_getElem hi⟩
   have hgne:st.gl≠[]:=fun e=>by rw [e] at hi;exact absurd hi (Nat.not_lt_zero _)
   have hga:=rA1_some (b:=q.gb) hgne
   obtain ⟨gs,hr⟩:=w.c.w.g hgne
   obtain ⟨row,hrow,tb,A2,n2,k2,rfl,hte⟩:=rows_at hr hx2
   have hgm:=hr.m
   obtain ⟨htk3,hlen3⟩:=flatT hr.wid hrow (o:=0) (n:=15) (by omega)
   rw [varC_all] at htk3
   rw [List.drop_eq_getElem_cons hi,(List.getElem_eq_iff hi).2 hx2,findG] at hfi
   dsimp only at hfi hte htk3
   cases he:eqB gn s with
   | false =>
    rw [he,if_neg (by decide)] at hfi
    cases gt
    all_goals repeat (first|refine Ye ?_|refine Y12 ?_|refine Y49 ?_|refine Y5y ?_|refine Y8 ?_|refine Y6 ?_|refine Yp ?_|refine Yh ?_|refine Y2 ?_|refine Y9 ?_|refine Y0 ?_|refine Yt ?_|refine Y1 ?_|refine Y5 ?_|refine Y3 ?_)
    all_goals refine roundN_n rfl fun B' a=>⟨i+1,?_,⟨by omega,hfi,w.abs a⟩,by omega⟩
    all_goals (repeat' (first|exact trivial|exact rfl|apply And.intro));done
   | true =>
    rw [he,if_pos rfl] at hfi
    rw [hfi] at hs
    simp only [Option.some.injEq,Prod.mk.injEq] at hs
    obtain ⟨rfl,rfl⟩:=hs
    cases gt
    all_goals repeat (first|refine Ye ?_|refine Y12 ?_|refine Y49 ?_|refine Y5y ?_|refine Yj ?_|refine Y6 ?_|refine Yh ?_|refine Yg ?_|refine Y2 ?_|refine Y9 ?_|refine Ya ?_|refine Y0 ?_|refine Y5d ?_|refine Y1 ?_|refine Y5 ?_)
    all_goals exact endsK_ret _ (.cons (.tmp rfl) .nil) fun B' a=>⟨_,rfl,node0 (a.loc _ (Nat.le_of_ble_eq_true rfl)) (alo a w.o.1 _ rfl) (TyE.up (Absb.kx a) hte),(w.abs a).c,(w.abs a).o,(w.abs a).n⟩
  ·have hnone:findG s 0 st.gl=none:=by rw [hfi,List.drop_eq_nil_of_le (by omega)];rfl
   rw [hnone] at hs
   dsimp only at hs
   split at hs
   ·cases hs
   rename_i hm
   have hm:eqB bMain s=false:=by simpa using hm
   simp only [Option.some.injEq,Prod.mk.injEq] at hs
   obtain ⟨rfl,rfl⟩:=hs
   clear hfi hnone
   repeat (first|refine Ye ?_|refine Y4w ?_|((with_reducible apply RS.loadNB);(iterate 3 exact rfl);exact w.c.f;exact w.d _ _ w.c.f;exact Nat.le_of_ble_eq_true rfl;exact rfl)|((with_reducible apply (RS.indexAddrS (n:=0)));(iterate 5 exact rfl);exact Nat.lt_succ_self 0)|((with_reducible apply (RS.callWB (g0:=33) []));(iterate 3 exact rfl);exact w.c.w.c;exact w.d _ _ w.c.w.c;exact fun H hH=>cfail_tf (w.c.w.sees w.d hH) 12 p;(have w:=w.failed 12 p (by decide));(have hxm:=w.k _ _ hxm0 rfl))|((with_reducible apply RS.load1B);(iterate 3 exact rfl);exact w.c.w.p;exact w.d _ _ w.c.w.p;exact rfl)|refine Y4e ?_|refine Y1l ?_|refine Y2z ?_|refine Y23 ?_|((with_reducible first|apply RS.nilCheck|apply RS.move|apply RS.assign|apply RS.lenSl|apply RS.fieldAddr|apply RS.box);iterate 3 exact rfl)|refine Y6 ?_|refine Y4 ?_|refine Y1q ?_|refine Yh ?_|refine Y2 ?_|refine Y9 ?_|refine Ya ?_|refine Y0 ?_|(with_reducible first|apply W.seq|apply W.block|apply W.exit|apply W.ret|apply W.skip|apply thenK_n|apply thenK_e|apply blockK_n|apply roundN_e)|refine Y1 ?_|refine Y5 ?_|refine Y3 ?_|refine Yn ?_)
   exact endsK_ret _ (.cons (.tmp rfl) .nil) fun B' a=>⟨_,rfl,node0 (tb:=0) (a.loc _ (Nat.le_of_ble_eq_true rfl)) (alo a w.o.1 _ rfl) trivial,(w.abs a).c,(w.abs a).o,(w.abs a).n⟩
end
end Go.Proofs.YtgpigfcagppohaaGreatDoor
