/-
  What the functions that the law reaches compute,told by plain data;it holds of programs that pass the check of right form and are light.
-/
import Derived.Test.YtjhloakacicdiaaDoorR5
import Derived.Test.YtjhloakacicdiaaDoorS2
set_option linter.unusedVariables false
set_option linter.unusedSimpArgs false
namespace Go.Proofs.YtjhloakacicdiaaDoor
open Go.AH
attribute [local irreducible] W RS
theorem set_same {α:Type} {l:List α} {i:Nat} {a:α} (h:l[i]?=some a):l.set i a=l:=by
 apply List.ext_getElem?
 intro j
 rw [List.getElem?_set]
 by_cases e:i=j
 ·subst e;rw [if_pos rfl,if_pos (List.getElem?_eq_some_iff.1 h).1,h]
 ·rw [if_neg e]
def chunks (w:Nat):Nat→List Value→List (List Value)
 | 0,_=>[]
 | n+1,l=>l.take w::chunks w n (l.drop w)
theorem chunks_ok (w:Nat):∀ (n:Nat) (l:List Value),l.length=n * w→(chunks w n l).flatten=l∧(chunks w n l).length=n∧(∀ c∈chunks w n l,c.length=w)∧∀ j,j < n→(chunks w n l)[j]?=some (takeV (j * w) w l):=by
 intro n
 induction n with
 | zero =>
  intro l hl
  have:l=[]:=List.length_eq_zero_iff.1 (by omega)
  subst this
  exact ⟨rfl,rfl,(fun c hc=>by cases hc),fun j hj=>absurd hj (Nat.not_lt_zero _)⟩
 | succ n ih =>
  intro l hl
  rw [Nat.succ_mul] at hl
  obtain ⟨h1,h2,h3,h4⟩:=ih (l.drop w) (by simp;omega)
  refine ⟨?_,by simp [chunks,h2],fun c hc=>?_,fun j hj=>?_⟩
  ·rw [chunks,List.flatten_cons,h1,List.take_append_drop]
  ·rw [chunks] at hc
   rcases List.mem_cons.1 hc with e|e
   ·subst e;simp;omega
   ·exact h3 c e
  ·cases j with
   | zero=>simp [chunks,takeV_eq]
   | succ j =>
    rw [chunks,List.getElem?_cons_succ,h4 j (by omega),takeV_eq,takeV_eq,List.drop_drop]
    congr 3
    rw [Nat.succ_mul];omega
def boolR (cs:List Value) (b:Bool):Prop:=cs=[.bool b]
theorem slat_whole {α:Type} {h:Hp} {A:Option Addr} {w:Nat} {l:List α} {R:List Value→α→Prop} (s:SlAt h A w l R) (hl:l≠[]):∃ b off cs e,A=some ⟨b,off,none⟩∧h.m b=some ⟨⟨cs⟩,e⟩∧off+l.length * w≤cs.length∧∀ i x,l[i]?=some x→R (takeV (off+i * w) w cs) x:=by
 have hpos:=List.length_pos_iff.2 hl
 obtain ⟨x,hx⟩:∃ x,l[l.length - 1]?=some x:=⟨_,List.getElem?_eq_getElem (by omega)⟩
 obtain ⟨b,off,cs,e,h1,h2,h3,_⟩:=s.get _ x hx
 refine ⟨b,off,cs,e,h1,h2,?_,fun i y hy=>?_⟩
 ·have:l.length * w=(l.length - 1) * w+w:=by rw [← Nat.succ_mul];congr 1;omega
  omega
 ·obtain ⟨b',off',cs',e',g1,g2,g3,g4⟩:=s.get i y hy
  rw [h1] at g1
  injection g1 with g1
  injection g1 with g5 g6
  subst g5;subst g6
  rw [h2] at g2
  injection g2 with g2
  injection g2 with g7 g8
  injection g7 with g7
  subst g7
  exact g4
def RowE {α:Type} (h:Hp) (N:Nat) (e:TypeId) (A:Option Addr) (l:List α) (enc:α→Value):Prop:=l=[]∨∃ r,A=some ⟨r,0,none⟩∧N≤r∧h.m r=some ⟨⟨l.map enc⟩,e⟩
theorem RowE.up {α:Type} {h H:Hp} {N:Nat} {e:TypeId} {A:Option Addr} {l:List α} {enc:α→Value} (s:RowE h N e A l enc) (hu:∀ i b,h.m i=some b→b.elem=e→H.m i=some b):RowE H N e A l enc:=by
 rcases s with s|⟨r,h1,h2,h3⟩
 ·exact .inl s
 ·exact .inr ⟨r,h1,h2,hu _ _ h3 rfl⟩
theorem RowE.sl {α:Type} {h:Hp} {N:Nat} {e:TypeId} {A:Option Addr} {l:List α} {enc:α→Value} (s:RowE h N e A l enc) {R:List Value→α→Prop} (hR:∀ x,R [enc x] x):SlAt h A 1 l R:=by
 rcases s with rfl|⟨r,rfl,_,h3⟩
 ·exact .nil
 ·refine ⟨fun i x hx=>⟨r,0,_,e,rfl,h3,?_,?_⟩⟩
  ·have:=(List.getElem?_eq_some_iff.1 hx).1
   rw [List.length_map];omega
  ·have:takeV (0+i * 1) 1 (l.map enc)=[enc x]:=by
    rw [takeV_eq,Nat.zero_add,Nat.mul_one]
    obtain ⟨h1,h2⟩:=List.getElem?_eq_some_iff.1 hx
    rw [List.drop_eq_getElem_cons (by simpa using h1)]
    simp [h2]
   rw [this];exact hR x
theorem slat_map {α:Type} {h:Hp} {A:Option Addr} {l:List α} {R:List Value→α→Prop} {enc:α→Value} {vs:List Value} (s:SlAt h A 1 l R) (hv:l≠[]→∃ b off cs e,A=some ⟨b,off,none⟩∧h.m b=some ⟨⟨cs⟩,e⟩∧off+l.length * 1≤cs.length∧takeV off (l.length * 1) cs=vs) (hn:l≠[]) (hR:∀ cs x,R cs x→cs=[enc x]):vs=l.map enc:=by
 obtain ⟨b,off,cs,e,h1,h2,h3,h4⟩:=hv hn
 subst h4
 apply List.ext_getElem?
 intro i
 rw [takeV_eq,List.getElem?_map]
 by_cases hi:i < l.length
 ·rw [List.getElem?_take_of_lt (by omega),List.getElem?_drop,List.getElem?_eq_getElem hi]
  obtain ⟨b',off',cs',e',g1,g2,g3,g4⟩:=s.get i l[i] (List.getElem?_eq_getElem hi)
  rw [h1] at g1
  injection g1 with g1
  injection g1 with g5 g6
  subst g5;subst g6
  rw [h2] at g2
  injection g2 with g2
  injection g2 with g7 _
  injection g7 with g7
  subst g7
  have:=take_nth (hR _ _ g4) (j:=0) rfl
  rw [Nat.mul_one,Nat.add_zero] at this
  rw [this];rfl
 ·rw [List.getElem?_eq_none_iff.2 (by simp;omega),List.getElem?_eq_none_iff.2 (by omega)];rfl
structure OwnD (h:Hp) (N:Nat) (bv:List BV):Prop where
 row:∀ b∈bv,b.ins≠[]→N≤b.r∧h.m b.r=some ⟨⟨(b.ins.map insVC).flatten⟩,58⟩
 arg:∀ b∈bv,∀ x∈b.ins,x.1.args≠[]→N≤x.2∧h.m x.2=some ⟨⟨argsC x.1.args⟩,46⟩
 sep:bv.Pairwise fun x y=>x.ins≠[]→y.ins≠[]→x.r < y.r
 sepA:(bv.flatMap (·.ins)).Pairwise fun x y=>x.1.args≠[]→y.1.args≠[]→x.2 < y.2
theorem OwnD.up {h H:Hp} {N:Nat} {bv:List BV} (o:OwnD h N bv) (hu:∀ i b,h.m i=some b→H.m i=some b):OwnD H N bv :=
 ⟨fun b hb hn=>⟨(o.row b hb hn).1,hu _ _ (o.row b hb hn).2⟩,fun b hb x hx hn=>⟨(o.arg b hb x hx hn).1,hu _ _ (o.arg b hb x hx hn).2⟩,o.sep,o.sepA⟩
theorem OwnD.own {h:Hp} {N bb:Nat} {bv:List BV} (o:OwnD h N bv) (hN:rwM≤N) (hb:rwM≤bb) (hm:h.m bb=some ⟨⟨(bv.map BV.c).flatten⟩,50⟩):OwnB h bb bv:=by
 refine ⟨hb,hm,fun b hb hn=>⟨Nat.le_trans hN (o.row b hb hn).1,(o.row b hb hn).2⟩,fun b hb x hx hn=>⟨Nat.le_trans hN (o.arg b hb x hx hn).1,(o.arg b hb x hx hn).2⟩,fun i j x y hx hy hxn hyn he=>?_⟩
 obtain ⟨hi,hx'⟩:=List.getElem?_eq_some_iff.1 hx
 obtain ⟨hj,hy'⟩:=List.getElem?_eq_some_iff.1 hy
 rcases Nat.lt_trichotomy i j with h1|h1|h1
 ·have:=List.pairwise_iff_getElem.1 o.sep i j hi hj h1
  rw [hx',hy'] at this
  have:=this hxn hyn
  omega
 ·exact h1
 ·have:=List.pairwise_iff_getElem.1 o.sep j i hj hi h1
  rw [hx',hy'] at this
  have:=this hyn hxn
  omega
theorem slat_vs {α:Type} {h:Hp} {A:Option Addr} {w:Nat} {l:List α} {R:List Value→α→Prop} (s:SlAt h A w l R):∃ vs:List Value,l≠[]→∃ b off cs e,A=some ⟨b,off,none⟩∧h.m b=some ⟨⟨cs⟩,e⟩∧off+l.length * w≤cs.length∧takeV off (l.length * w) cs=vs:=by
 by_cases hl:l=[]
 ·exact ⟨[],fun h=>absurd hl h⟩
 ·obtain ⟨b,off,cs,e,h1,h2,h3,_⟩:=slat_whole s hl
  exact ⟨_,fun _=>⟨b,off,cs,e,h1,h2,h3,rfl⟩⟩
theorem vs_up {h H:Hp} {A:Option Addr} {n w:Nat} {vs:List Value} (hv:n≠0→∃ b off cs e,A=some ⟨b,off,none⟩∧h.m b=some ⟨⟨cs⟩,e⟩∧off+n * w≤cs.length∧takeV off (n * w) cs=vs) (hu:∀ i b,h.m i=some b→H.m i=some b):n≠0→∃ b off cs e,A=some ⟨b,off,none⟩∧H.m b=some ⟨⟨cs⟩,e⟩∧off+n * w≤cs.length∧takeV off (n * w) cs=vs:=by
 intro hn
 obtain ⟨b,off,cs,e,h1,h2,h3⟩:=hv hn
 exact ⟨b,off,cs,e,h1,hu _ _ h2,h3⟩
theorem cell_le {w:Nat} {L:List (List Value)} (hw:∀ c∈L,c.length=w) {i:Nat} {x:List Value} (hx:L[i]?=some x) {o:Nat} (ho:o+1≤w):0+i * w+o+1≤L.flatten.length:=by
 have:=(flat_take hw hx).2
 omega
theorem cell_put {w:Nat} {L:List (List Value)} (hw:∀ c∈L,c.length=w) {i:Nat} {x y:List Value} (hx:L[i]?=some x) {o:Nat} {v:Value} (ho:o+1≤w) (hy:setL x o [v]=y):setL L.flatten (0+i * w+o) [v]=(L.set i y).flatten:=by
 rw [Nat.zero_add,flat_set hw hx (by simpa using ho),hy]
set_option maxRecDepth 100000 in
theorem copy_ex (h:Hp) (f:FuncS) (A1:Option Addr) (c1:Nat) (A2:Option Addr) (c2:Nat) (A3:Option Addr) (c3:Nat) (sec:List Bool) (hsec:sec.length=f.secret) (hS:SlAt h A1 1 sec boolR) (hL:SlAt h A2 1 f.slots intR) (hB:SlAt h A3 9 f.blocks (blockR h))
 (hpos:0 < f.blocks.length) (hb1:f.secret≤1000000) (hb2:f.slots.length≤1000000) (hb3:f.blocks.length≤100000) (hb4:∀ b∈f.blocks,b.ins.length≤1000000) (hb5:∀ b∈f.blocks,∀ x∈b.ins,x.args.length≤1000000) :
 EX Tryd.prog 12 [.agg ⟨funcC f A1 c1 A2 c2 A3 c3⟩] h (fun v h'=>∃ A1' c1' A2' c2' bb bv,v=.agg ⟨funcC f A1' c1' A2' c2' (some ⟨bb,0,none⟩) (capOf 9)⟩∧h'.m bb=some ⟨⟨(bv.map BV.c).flatten⟩,50⟩∧h.n≤bb∧OwnD h' h.n bv∧sL bv=f.blocks∧Old h h'∧RowE h' h.n 4 A1' sec .bool∧RowE h' h.n 3 A2' f.slots (.int .i64)):=by
 refine EX.intro (fn:=Tryd.f12) (c:=(Tryd.f12.body.getD .skip)) Tryd.func12 (by kernel_rfl) Tryd.ntmps12 (by kernel_rfl) fun π s0=>?_
 conv=>arg 2;whnf
 have hd:=s0.dom
 obtain ⟨vs1,hv1⟩:=slat_vs hS
 obtain ⟨vs2,hv2⟩:=slat_vs hL
 have hcp1:=hv1
 have hcp2:=hv2
 replace hv1:f.secret≠0→∃ b off cs e,A1=some ⟨b,off,none⟩∧h.m b=some ⟨⟨cs⟩,e⟩∧off+f.secret * 1≤cs.length∧takeV off (f.secret * 1) cs=vs1:=by
  rw [← hsec]
  exact fun hn=>hv1 (fun e=>hn (by rw [e];rfl))
 replace hv2:f.slots.length≠0→∃ b off cs e,A2=some ⟨b,off,none⟩∧h.m b=some ⟨⟨cs⟩,e⟩∧off+f.slots.length * 1≤cs.length∧takeV off (f.slots.length * 1) cs=vs2:=fun hn=>hv2 (fun e=>hn (by rw [e];rfl))
 obtain ⟨b3,o3,cs3,e3,rfl,hm3,hl3,hR3⟩:=slat_whole hB (List.length_pos_iff.1 hpos)
 ((with_reducible apply W.seq);repeat (first|refine Yf ?_|((with_reducible apply RS.box);iterate 3 exact rfl)|refine Y0 ?_|refine Y1 ?_|refine Y13 ?_))
 refine W.absorbX fun B0 π0 a0=>?_
 have hF:B0.m (π 0)=some ⟨⟨funcC f A1 c1 A2 c2 (some ⟨b3,o3,none⟩) c3⟩,37⟩:=a0.loc 0 (Nat.lt_of_lt_of_le Nat.zero_lt_one (Nat.le_succ 1))
 have hfb:h.n≤π 0:=a0.lo 0 (Nat.lt_of_lt_of_le Nat.zero_lt_one (Nat.le_succ 1))
 have hrb:h.n≤π 1:=a0.lo 1 (Nat.lt_succ_self 1)
 have hRb:B0.m (π 1)=some ⟨⟨cellsV (.agg ⟨funcC ⟨⟨#[]⟩,0,0,0,[],[]⟩ none 0 none 0 none 0⟩)⟩,37⟩:=a0.loc 1 (Nat.lt_succ_self 1)
 have hfr:π 0≠π 1:=fun e=>absurd (a0.inj 0 1 (Nat.lt_of_lt_of_le Nat.zero_lt_one (Nat.le_succ 1)) (Nat.lt_succ_self 1) e) (by decide)
 generalize π 0=fb at *
 generalize π 1=rb at *
 have hRw:rwM≤rb:=Nat.le_trans s0.rw hrb
 have hFw:rwM≤fb:=Nat.le_trans s0.rw hfb
 have hFn:=a0.dom _ _ hF
 replace hv1:=vs_up hv1 a0.up
 have sets:∀ {H:Hp} {x:Blk},H.m fb=some x→Sat Tryd.prog H→∀ {h0:Hp},Old h0 H→h0.n≤fb→∀ z,Old h0 (H.set fb z):=fun hx sx h0 o hlt z=>(o.off.same ((OffS.set _ fb z).mono (T:=fun j=>h0.n≤j) fun j _ e=>by rw [e];exact hlt)).old fun j hj e=>by omega
 ((with_reducible apply W.seq);repeat (first|refine Y29 ?_|((with_reducible apply RS.copyNil (vs:=vs1));(iterate 6 exact rfl);exact fun B hB=>vs_up hv1 hB.up;omega;omega;intro B1 hB1 A1' c1' H1 π1 sH1 hz1 hn1 hle1 hoff1;have hF1:=(hoff1 fb (hB1.dom _ _ (hB1.up _ _ hF))).trans (hB1.up _ _ hF);have hF1n:=sH1.dom _ _ hF1)|((with_reducible apply RS.storeB);(iterate 3 exact rfl);exact hF1;exact hF1n;exact hFw;exact Nat.le_of_ble_eq_true rfl;(iterate 2 exact rfl);exact (show setL (funcC f A1 c1 A2 c2 (some ⟨b3,o3,none⟩) c3) (0+2) [.slice A1' f.secret c1']=funcC f A1' c1' A2 c2 (some ⟨b3,o3,none⟩) c3 from rfl))|refine Y42 ?_|refine Y0 ?_|refine Y1 ?_|refine Y13 ?_))
 refine W.absorbX fun B2 π2 a2=>?_
 have old2:Old h B2:=(sets hF1 sH1 ((a0.oldH.trans hB1.oldH).trans ⟨hle1,hoff1⟩) hfb _).trans a2.oldH
 have kp1:∀ {j:Nat} {x:Blk},B0.m j=some x→j≠fb→B2.m j=some x:=by
  intro j x hx hne
  refine a2.up _ _ ?_
  show (if j=fb then _ else H1.m j)=_
  rw [if_neg hne,hoff1 j (hB1.dom _ _ (hB1.up _ _ hx))]
  exact hB1.up _ _ hx
 have hRb2:=kp1 hRb (fun e=>hfr e.symm)
 have hA1:f.secret≠0→∃ r,A1'=some ⟨r,0,none⟩∧h.n≤r∧B2.m r=some ⟨⟨vs1⟩,4⟩:=by
  intro hn
  obtain ⟨r,h1,_,h2,h3⟩:=hn1 hn
  have hb0:B0.n≤B1.n:=hB1.le
  refine ⟨r,h1,Nat.le_trans a0.le (Nat.le_trans hB1.le h2),a2.up _ _ ?_⟩
  show (if r=fb then _ else H1.m r)=_
  rw [if_neg (by have:=a0.dom _ _ hF;omega)]
  exact h3
 replace hF:B2.m fb=some ⟨⟨funcC f A1' c1' A2 c2 (some ⟨b3,o3,none⟩) c3⟩,37⟩:=a2.up _ _ (by show (if fb=fb then _ else _)=_;rw [if_pos rfl])
 replace hFn:=a2.dom _ _ hF
 replace hv2:=vs_up hv2 (old2.up hd)
 ((with_reducible apply W.seq);repeat (first|refine Y29 ?_|((with_reducible apply RS.copyNil (vs:=vs2));(iterate 6 exact rfl);exact fun B hB=>vs_up hv2 hB.up;omega;omega;intro B3 hB3 A2' c2' H3 π3 sH3 hz3 hn3 hle3 hoff3;have hF3:=(hoff3 fb (hB3.dom _ _ (hB3.up _ _ hF))).trans (hB3.up _ _ hF);have hF3n:=sH3.dom _ _ hF3)|((with_reducible apply RS.storeB);(iterate 3 exact rfl);exact hF3;exact hF3n;exact hFw;exact Nat.le_of_ble_eq_true rfl;(iterate 2 exact rfl);exact (show setL (funcC f A1' c1' A2 c2 (some ⟨b3,o3,none⟩) c3) (0+4) [.slice A2' f.slots.length c2']=funcC f A1' c1' A2' c2' (some ⟨b3,o3,none⟩) c3 from rfl))|refine Y42 ?_|refine Y0 ?_|refine Y1 ?_|refine Y13 ?_))
 refine W.absorbX fun B4 π4 a4=>?_
 have kp2:∀ {j:Nat} {x:Blk},B2.m j=some x→j≠fb→B4.m j=some x:=by
  intro j x hx hne
  refine a4.up _ _ ?_
  show (if j=fb then _ else H3.m j)=_
  rw [if_neg hne,hoff3 j (hB3.dom _ _ (hB3.up _ _ hx))]
  exact hB3.up _ _ hx
 have old4:Old h B4:=(sets hF3 sH3 ((old2.trans hB3.oldH).trans ⟨hle3,hoff3⟩) hfb _).trans a4.oldH
 have hRb4:=kp2 hRb2 (fun e=>hfr e.symm)
 have hA2:f.slots.length≠0→∃ r,A2'=some ⟨r,0,none⟩∧h.n≤r∧B4.m r=some ⟨⟨vs2⟩,3⟩:=by
  intro hn
  obtain ⟨r,h1,_,h2,h3⟩:=hn3 hn
  have hlt:B2.n≤r:=Nat.le_trans hB3.le h2
  refine ⟨r,h1,Nat.le_trans old2.1 hlt,a4.up _ _ ?_⟩
  show (if r=fb then _ else H3.m r)=_
  rw [if_neg (by omega)]
  exact h3
 replace hA1:f.secret≠0→∃ r,A1'=some ⟨r,0,none⟩∧h.n≤r∧B4.m r=some ⟨⟨vs1⟩,4⟩:=by
  intro hn
  obtain ⟨r,h1,h2,h3⟩:=hA1 hn
  exact ⟨r,h1,h2,kp2 h3 (ne_of_elem h3 hF (by simp))⟩
 replace hF:B4.m fb=some ⟨⟨funcC f A1' c1' A2' c2' (some ⟨b3,o3,none⟩) c3⟩,37⟩:=a4.up _ _ (by show (if fb=fb then _ else _)=_;rw [if_pos rfl])
 replace hFn:=a4.dom _ _ hF
 obtain ⟨vs3,hvs3⟩:∃ vs3,takeV o3 (f.blocks.length * 9) cs3=vs3:=⟨_,rfl⟩
 have hv3:f.blocks.length≠0→∃ b off cs e,some (⟨b3,o3,none⟩:Addr)=some ⟨b,off,none⟩∧B4.m b=some ⟨⟨cs⟩,e⟩∧off+f.blocks.length * 9≤cs.length∧takeV off (f.blocks.length * 9) cs=vs3:=fun _=>⟨b3,o3,cs3,e3,rfl,old4.up hd _ _ hm3,hl3,hvs3⟩
 ((with_reducible apply W.seq);repeat (first|refine Y29 ?_|((with_reducible apply RS.copyNil (vs:=vs3));(iterate 6 exact rfl);exact fun B hB=>vs_up hv3 hB.up;omega;omega;intro B5 hB5 A3' c3' H5 π5 sH5 hz5 hn5 hle5 hoff5)|refine Y4l ?_|refine Y0 ?_|refine Y1 ?_|refine Y13 ?_))
 obtain ⟨bb,rfl,rfl,hbb,hbm⟩:=hn5 (by omega)
 have hvl3:vs3.length=f.blocks.length * 9:=by rw [← hvs3,takeV_eq];simp;omega
 obtain ⟨g1,g2,g3,g4⟩:=chunks_ok 9 f.blocks.length vs3 hvl3
 generalize chunks 9 f.blocks.length vs3=R at *
 have hRb:∀ (i:Nat) (b:BlockS),f.blocks[i]?=some b→∃ A c,R[i]?=some (blockC b A c)∧SlAt h A 12 b.ins (insR h):=by
  intro i b hb
  have hi:=(List.getElem?_eq_some_iff.1 hb).1
  obtain ⟨A,c,h1,h2⟩:=hR3 i b hb
  refine ⟨A,c,?_,h2⟩
  rw [g4 i hi,← h1,← hvs3]
  congr 1
  have hle:i * 9+9≤f.blocks.length * 9:=by rw [← Nat.succ_mul];exact Nat.mul_le_mul_right _ hi
  rw [takeV_eq,takeV_eq,takeV_eq,List.drop_take,List.drop_drop,List.take_take,Nat.min_eq_left (by omega)]
 obtain ⟨FX,hFX⟩:∃ FX:Hp→Prop,∀ B,FX B↔(Old h B∧B.m fb=some ⟨⟨funcC f A1' c1' A2' c2' (some ⟨b3,o3,none⟩) c3⟩,37⟩∧B.m rb=some ⟨⟨cellsV (.agg ⟨funcC ⟨⟨#[]⟩,0,0,0,[],[]⟩ none 0 none 0 none 0⟩)⟩,37⟩∧(f.secret≠0→∃ r,A1'=some ⟨r,0,none⟩∧h.n≤r∧B.m r=some ⟨⟨vs1⟩,4⟩)∧(f.slots.length≠0→∃ r,A2'=some ⟨r,0,none⟩∧h.n≤r∧B.m r=some ⟨⟨vs2⟩,3⟩)):=⟨_,fun B=>Iff.rfl⟩
 have FXup:∀ {B B':Hp},FX B→Old h B'→(∀ j x,B.m j=some x→x.elem≠50→x.elem≠58→B'.m j=some x)→FX B':=by
  intro B B' hf ho hk
  rw [hFX] at hf ⊢
  obtain ⟨k1,k2,k3,k4,k5⟩:=hf
  refine ⟨ho,hk _ _ k2 (by simp) (by simp),hk _ _ k3 (by simp) (by simp),fun hn=>?_,fun hn=>?_⟩
  ·obtain ⟨r,q1,q2,q3⟩:=k4 hn
   exact ⟨r,q1,q2,hk _ _ q3 (by simp) (by simp)⟩
  ·obtain ⟨r,q1,q2,q3⟩:=k5 hn
   exact ⟨r,q1,q2,hk _ _ q3 (by simp) (by simp)⟩
 have FXold:∀ {B:Hp},FX B→Old h B:=fun hf=>((hFX _).1 hf).1
 have kp5:∀ {j:Nat} {x:Blk},B4.m j=some x→H5.m j=some x:=by
  intro j x hx
  rw [hoff5 j (hB5.dom _ _ (hB5.up _ _ hx))]
  exact hB5.up _ _ hx
 have old5:Old h H5:=(old4.trans hB5.oldH).trans ⟨hle5,hoff5⟩
 have hbbn:h.n≤bb:=Nat.le_trans old4.1 (Nat.le_trans hB5.le hbb)
 have hbbr:rwM≤bb:=Nat.le_trans s0.rw hbbn
 have hFX5:FX H5:=by
  rw [hFX]
  refine ⟨old5,kp5 hF,kp5 hRb4,fun hn=>?_,fun hn=>?_⟩
  ·obtain ⟨r,q1,q2,q3⟩:=hA1 hn
   exact ⟨r,q1,q2,kp5 q3⟩
  ·obtain ⟨r,q1,q2,q3⟩:=hA2 hn
   exact ⟨r,q1,q2,kp5 q3⟩
 clear hF hFn hRb2 hRb4 kp1 kp2 kp5 hA1 hA2 hn1 hn3 hn5 hoff1 hoff3 hoff5
 ((with_reducible apply W.seq);repeat (fail))
 ((with_reducible apply W.seq);repeat (first|((with_reducible first|apply RS.move|apply RS.lenSl);iterate 3 exact rfl)|refine Y0 ?_|refine Y1 ?_|refine Y3u ?_))
 refine W.loopN (X:=Nat × List BV) (fun x=>[(1,.pointer (some ⟨fb,0,none⟩)),(2,.pointer (some ⟨rb,0,none⟩)),(3,.slice (some ⟨bb,0,none⟩) f.blocks.length (capOf 9)),(18,.int .i64 (f.blocks.length:Int)),(19,.int .i64 (x.1:Int))])
  (fun x B=>x.1≤f.blocks.length∧x.2.length=x.1∧sL x.2=f.blocks.take x.1∧FX B∧B.m bb=some ⟨⟨(x.2.map BV.c++R.drop x.1).flatten⟩,50⟩∧OwnD B h.n x.2) (fun x=>f.blocks.length - x.1)
  (fun B' a=>⟨(0,[]),?_,⟨Nat.zero_le _,rfl,by rw [List.take_zero];rfl,FXup hFX5 (old5.trans a.oldH) fun j x hx _ _=>a.up _ _ hx,a.up _ _ (by rw [hbm,← g1];rfl),⟨(fun b hb=>by cases hb),(fun b hb=>by cases hb),List.Pairwise.nil,List.Pairwise.nil⟩⟩⟩) ?_
 ·(repeat' (first|exact trivial|exact rfl|apply And.intro));done
 rintro ⟨i,dn⟩ B π6 sB ⟨hi,hdl,hds,hfx,hO,od⟩
 dsimp only at hi hdl hds hfx hO od ⊢
 have hOn:=sB.dom _ _ hO
 have hL9:∀ c∈dn.map BV.c++R.drop i,c.length=9:=by
  intro c hc
  rcases List.mem_append.1 hc with e|e
  ·exact bv_wid dn c e
  ·exact g3 c (List.mem_of_mem_drop e)
 have hLl:(dn.map BV.c++R.drop i).length=f.blocks.length:=by simp [hdl,g2];omega
 by_cases hlt:i < f.blocks.length
 ·obtain ⟨b,hb⟩:∃ b,f.blocks[i]?=some b:=⟨_,List.getElem?_eq_getElem hlt⟩
  obtain ⟨A,c,hRi,hsl⟩:=hRb i b hb
  have hbi:=hb4 b (List.mem_of_getElem? hb)
  have hLi:(dn.map BV.c++R.drop i)[i]?=some (blockC b A c):=by
   rw [List.getElem?_append_right (by simp [hdl]),List.length_map,hdl,Nat.sub_self,List.getElem?_drop,Nat.add_zero]
   exact hRi
  have hO0:(dn.map BV.c++R.drop i).flatten[0+i * 9+0]?=some (.slice A b.ins.length c):=by
   rw [Nat.zero_add,flat_get hL9 i 0 (by decide),hLi];rfl
  obtain ⟨vs4,hv4⟩:=slat_vs hsl
  replace hv4:b.ins.length≠0→∃ q off cs e,A=some ⟨q,off,none⟩∧B.m q=some ⟨⟨cs⟩,e⟩∧off+b.ins.length * 12≤cs.length∧takeV off (b.ins.length * 12) cs=vs4:=vs_up (fun hn=>hv4 (fun e=>hn (by rw [e];rfl))) ((FXold hfx).up hd)
  ((with_reducible apply W.seq);repeat (first|refine Y3 ?_|refine Y0 ?_|refine Y1 ?_|refine Y13 ?_))
  ((with_reducible apply W.seq);repeat (first|refine Y30 ?_|refine Y5 ?_))
  ((with_reducible apply W.seq);repeat (first|(with_reducible apply W.block)))
  ((with_reducible apply W.seq);repeat (first|refine Yh ?_|refine Y0 ?_|refine Y1 ?_|refine Y13 ?_))
  ((with_reducible apply W.seq);repeat (first|refine Ya ?_|((with_reducible apply RS.load1B);(iterate 3 exact rfl);exact hO;exact hOn;exact hO0)|((with_reducible apply RS.copyNil (vs:=vs4));(iterate 6 exact rfl);exact fun B hB=>vs_up hv4 hB.up;omega;omega;intro B7 hB7 A4 c4 H7 π7 sH7 hz7 hn7 hle7 hoff7;have hO7:=(hoff7 bb (hB7.dom _ _ (hB7.up _ _ hO))).trans (hB7.up _ _ hO);have hO7n:=sH7.dom _ _ hO7)|((with_reducible apply RS.storeB);(iterate 3 exact rfl);exact hO7;exact hO7n;exact hbbr;exact cell_le hL9 hLi (o:=0) (by decide);(iterate 2 exact rfl);exact cell_put hL9 hLi (o:=0) (y:=blockC b A4 c4) (by decide) rfl)|refine Y16 ?_|refine Y0 ?_|refine Y1 ?_|refine Y13 ?_))
  refine W.absorbX fun B8 π8 a8=>?_
  have hO8:B8.m bb=some ⟨⟨((dn.map BV.c++R.drop i).set i (blockC b A4 c4)).flatten⟩,50⟩:=a8.up _ _ (by show (if bb=bb then _ else _)=_;rw [if_pos rfl])
  have hO8n:=a8.dom _ _ hO8
  have hLs9:∀ c∈(dn.map BV.c++R.drop i).set i (blockC b A4 c4),c.length=9:=by
   intro c hc
   rcases mem_set hc with e|e
   ·exact hL9 c e
   ·rw [e];rfl
  have hLsi:((dn.map BV.c++R.drop i).set i (blockC b A4 c4))[i]?=some (blockC b A4 c4):=by rw [List.getElem?_set,if_pos rfl,if_pos (by rw [hLl];exact hlt)]
  have hO80:((dn.map BV.c++R.drop i).set i (blockC b A4 c4)).flatten[0+i * 9+0]?=some (.slice A4 b.ins.length c4):=by
   rw [Nat.zero_add,flat_get hLs9 i 0 (by decide),hLsi];rfl
  have kp8:∀ {j:Nat} {x:Blk},B.m j=some x→j≠bb→B8.m j=some x:=by
   intro j x hx hne
   refine a8.up _ _ ?_
   show (if j=bb then _ else H7.m j)=_
   rw [if_neg hne,hoff7 j (hB7.dom _ _ (hB7.up _ _ hx))]
   exact hB7.up _ _ hx
  have o7:Old h H7:=((FXold hfx).trans hB7.oldH).trans ⟨hle7,hoff7⟩
  have old8:Old h B8:=((o7.off.same ((OffS.set _ bb _).mono (T:=fun j=>h.n≤j) fun j _ e=>by rw [e];exact hbbn)).old fun j hj e=>by omega).trans a8.oldH
  have hfx8:FX B8:=FXup hfx old8 fun j x hx h1 _=>kp8 hx (ne_of_elem hx hO (by simpa using h1))
  have od8:OwnD B8 h.n dn:=⟨fun x hx hn=>⟨(od.row x hx hn).1,kp8 (od.row x hx hn).2 (ne_of_elem (od.row x hx hn).2 hO (by simp))⟩,fun x hx y hy hn=>⟨(od.arg x hx y hy hn).1,kp8 (od.arg x hx y hy hn).2 (ne_of_elem (od.arg x hx y hy hn).2 hO (by simp))⟩,od.sep,od.sepA⟩
  have hBle:B.n≤B7.n:=hB7.le
  have hrow8:b.ins.length≠0→∃ r,A4=some ⟨r,0,none⟩∧c4=capOf 12∧B.n≤r∧B8.m r=some ⟨⟨vs4⟩,58⟩:=by
   intro hn
   obtain ⟨r,h1,h2,h3,h4⟩:=hn7 hn
   refine ⟨r,h1,h2,Nat.le_trans hBle h3,a8.up _ _ ?_⟩
   show (if r=bb then _ else H7.m r)=_
   rw [if_neg (by have:=sB.dom _ _ hO;omega)]
   exact h4
  have hbl:∀ {j:Nat} {x:Blk},B.m j=some x→j < B.n:=fun hx=>sB.dom _ _ hx
  clear hn7 hoff7 kp8
  obtain ⟨r,hr⟩:∃ r,b.ins.length≠0→A4=some ⟨r,0,none⟩∧c4=capOf 12∧B.n≤r∧B8.m r=some ⟨⟨vs4⟩,58⟩:=by
   by_cases hn:b.ins.length=0
   ·exact ⟨0,fun h=>absurd hn h⟩
   ·obtain ⟨r,h1⟩:=hrow8 hn
    exact ⟨r,fun _=>h1⟩
  obtain ⟨R2,hR2⟩:∃ R2:List (List Value),b.ins.length≠0→R2.flatten=vs4∧R2.length=b.ins.length∧(∀ c∈R2,c.length=12)∧∀ (k:Nat) (x:InsS),b.ins[k]?=some x→∃ A c,R2[k]?=some (insC x A c)∧SlAt h A 2 x.args argR:=by
   by_cases hn:b.ins.length=0
   ·exact ⟨[],fun h=>absurd hn h⟩
   ·have hne:b.ins≠[]:=fun e=>hn (by rw [e];rfl)
    obtain ⟨q,off,cs,e,q1,q2,q3,q4⟩:=slat_whole hsl hne
    obtain ⟨q',off',cs',e',p1,p2,p3,p4⟩:=hv4 hn
    rw [q1] at p1
    injection p1 with p1
    injection p1 with p5 p6
    subst p5;subst p6
    have q2':=(FXold hfx).up hd _ _ q2
    rw [q2'] at p2
    injection p2 with p2
    injection p2 with p7 _
    injection p7 with p7
    subst p7
    have hvl4:vs4.length=b.ins.length * 12:=by rw [← p4,takeV_eq];simp;omega
    obtain ⟨k1,k2,k3,k4⟩:=chunks_ok 12 b.ins.length vs4 hvl4
    refine ⟨_,fun _=>⟨k1,k2,k3,fun k x hx=>?_⟩⟩
    have hk:=(List.getElem?_eq_some_iff.1 hx).1
    obtain ⟨A9,c9,j1,j2⟩:=q4 k x hx
    refine ⟨A9,c9,?_,j2⟩
    rw [k4 k hk,← j1,← p4]
    congr 1
    have hle:k * 12+12≤b.ins.length * 12:=by rw [← Nat.succ_mul];exact Nat.mul_le_mul_right _ hk
    rw [takeV_eq,takeV_eq,takeV_eq,List.drop_take,List.drop_drop,List.take_take,Nat.min_eq_left (by omega)]
  ((with_reducible apply W.seq);repeat (first|refine Ya ?_|((with_reducible apply RS.load1B);(iterate 3 exact rfl);exact hO8;exact hO8n;exact hO80)|refine Y23 ?_|refine Y0 ?_|refine Y1 ?_|refine Y3u ?_))
  refine W.loopN (X:=Nat × List InsV) (fun x=>[(1,.pointer (some ⟨fb,0,none⟩)),(2,.pointer (some ⟨rb,0,none⟩)),(3,.slice (some ⟨bb,0,none⟩) f.blocks.length (capOf 9)),(18,.int .i64 (f.blocks.length:Int)),(19,.int .i64 (i:Int)),(4,.int .i64 (i:Int)),(37,.int .i64 (b.ins.length:Int)),(38,.int .i64 (x.1:Int))])
   (fun x B=>x.1≤b.ins.length∧x.2.length=x.1∧x.2.map (·.1)=b.ins.take x.1∧FX B∧B.m bb=some ⟨⟨((dn.map BV.c++R.drop i).set i (blockC b A4 c4)).flatten⟩,50⟩∧OwnD B h.n dn∧(b.ins.length≠0→B.m r=some ⟨⟨(x.2.map insVC++R2.drop x.1).flatten⟩,58⟩)∧(∀ y∈x.2,y.1.args≠[]→h.n≤y.2∧B.m y.2=some ⟨⟨argsC y.1.args⟩,46⟩)∧(dn.flatMap (·.ins)++x.2).Pairwise fun x y=>x.1.args≠[]→y.1.args≠[]→x.2 < y.2) (fun x=>b.ins.length - x.1)
   (fun B' a=>⟨(0,[]),?_,⟨Nat.zero_le _,rfl,by rw [List.take_zero];rfl,FXup hfx8 (old8.trans a.oldH) fun j x hx _ _=>a.up _ _ hx,a.up _ _ hO8,od8.up a.up,fun hn=>a.up _ _ (by rw [(hr hn).2.2.2,← (hR2 hn).1];rfl),(fun y hy=>by cases hy),by rw [List.append_nil];exact od8.sepA⟩⟩) ?_
  ·(repeat' (first|exact trivial|exact rfl|apply And.intro));done
  rintro ⟨k,di⟩ B9 π9 sB9 ⟨hk,hdk,hdt,hfx9,hOa,od9,hRa,hdar,hsep⟩
  dsimp only at hk hdk hdt hfx9 hOa od9 hRa hdar hsep ⊢
  have hOan:=sB9.dom _ _ hOa
  by_cases hkl:k < b.ins.length
  ·have hn0:b.ins.length≠0:=by omega
   obtain ⟨rfl,rfl,hrn,hr8⟩:=hr hn0
   obtain ⟨k1,k2,k3,k4⟩:=hR2 hn0
   replace hRa:=hRa hn0
   have hRan:=sB9.dom _ _ hRa
   obtain ⟨x,hx⟩:∃ x,b.ins[k]?=some x:=⟨_,List.getElem?_eq_getElem hkl⟩
   obtain ⟨Ax,cx,hR2k,hargs⟩:=k4 k x hx
   have hxa:=hb5 b (List.mem_of_getElem? hb) x (List.mem_of_getElem? hx)
   have hLR9:∀ c∈di.map insVC++R2.drop k,c.length=12:=by
    intro c hc
    rcases List.mem_append.1 hc with e|e
    ·exact ins_wid di c e
    ·exact k3 c (List.mem_of_mem_drop e)
   have hLRk:(di.map insVC++R2.drop k)[k]?=some (insC x Ax cx):=by
    rw [List.getElem?_append_right (by simp [hdk]),List.length_map,hdk,Nat.sub_self,List.getElem?_drop,Nat.add_zero]
    exact hR2k
   have hRc:(di.map insVC++R2.drop k).flatten[0+k * 12+11]?=some (.slice Ax x.args.length cx):=by
    rw [Nat.zero_add,flat_get hLR9 k 11 (by decide),hLRk];rfl
   have hrw:rwM≤r:=Nat.le_trans sB.rw hrn
   have hrh:h.n≤r:=Nat.le_trans (FXold hfx).1 hrn
   have hdr:R2.drop k=insC x Ax cx::R2.drop (k+1):=by
    obtain ⟨q1,q2⟩:=List.getElem?_eq_some_iff.1 hR2k
    rw [List.drop_eq_getElem_cons q1,q2]
   have fin:∀ (na:Nat) (B':Hp),B'.m r=some ⟨⟨((di.map insVC++R2.drop k).set k (insVC (x,na))).flatten⟩,58⟩→(∀ j y,B9.m j=some y→j≠r→B'.m j=some y)→Old h B'→(x.args≠[]→B9.n≤na∧B'.m na=some ⟨⟨argsC x.args⟩,46⟩) →
    k+1≤b.ins.length∧(di++[(x,na)]).length=k+1∧(di++[(x,na)]).map (·.1)=b.ins.take (k+1)∧FX B'∧B'.m bb=some ⟨⟨((dn.map BV.c++R.drop i).set i (blockC b (some ⟨r,0,none⟩) (capOf 12))).flatten⟩,50⟩∧OwnD B' h.n dn∧(b.ins.length≠0→B'.m r=some ⟨⟨((di++[(x,na)]).map insVC++R2.drop (k+1)).flatten⟩,58⟩)∧(∀ y∈di++[(x,na)],y.1.args≠[]→h.n≤y.2∧B'.m y.2=some ⟨⟨argsC y.1.args⟩,46⟩)∧(dn.flatMap (·.ins)++(di++[(x,na)])).Pairwise fun x y=>x.1.args≠[]→y.1.args≠[]→x.2 < y.2:=by
    intro na B' hBr hkeep hold hnew
    have hset:(di.map insVC++R2.drop k).set k (insVC (x,na))=(di++[(x,na)]).map insVC++R2.drop (k+1):=by
     rw [List.set_append_right _ _ (by simp [hdk]),List.length_map,hdk,Nat.sub_self,hdr,List.set_cons_zero,List.map_append,List.append_assoc];rfl
    refine ⟨by omega,by simp [hdk],?_,FXup hfx9 hold fun j y hy h1 h2=>hkeep j y hy (ne_of_elem hy hRa (by simpa using h2)),hkeep _ _ hOa (ne_of_elem hOa hRa (by simp)),⟨fun z hz hn=>⟨(od9.row z hz hn).1,hkeep _ _ (od9.row z hz hn).2 ?_⟩,fun z hz y hy hn=>⟨(od9.arg z hz y hy hn).1,hkeep _ _ (od9.arg z hz y hy hn).2 (ne_of_elem (od9.arg z hz y hy hn).2 hRa (by simp))⟩,od9.sep,od9.sepA⟩,fun _=>by rw [hBr,hset],?_,?_⟩
    ·obtain ⟨q1,q2⟩:=List.getElem?_eq_some_iff.1 hx
     rw [List.map_append,hdt,List.take_succ_eq_append_getElem q1,q2];rfl
    ·have:=hbl (od.row z hz hn).2
     omega
    ·intro y hy hyn
     rcases List.mem_append.1 hy with e|e
     ·exact ⟨(hdar y e hyn).1,hkeep _ _ (hdar y e hyn).2 (ne_of_elem (hdar y e hyn).2 hRa (by simp))⟩
     ·simp only [List.mem_singleton] at e
      subst e
      exact ⟨Nat.le_trans (FXold hfx9).1 (hnew hyn).1,(hnew hyn).2⟩
    ·rw [← List.append_assoc,List.pairwise_append]
     refine ⟨hsep,List.pairwise_singleton _ _,fun y hy z hz hyn hzn=>?_⟩
     simp only [List.mem_singleton] at hz
     subst hz
     have h1:=(hnew hzn).1
     have h2:y.2 < B9.n:=by
      rcases List.mem_append.1 hy with e|e
      ·obtain ⟨w,hw,hyw⟩:=List.mem_flatMap.1 e
       exact sB9.dom _ _ (od9.arg w hw y hyw hyn).2
      ·exact sB9.dom _ _ (hdar y e hyn).2
     show y.2 < na
     omega
   have setr:∀ z,Old h (B9.set r z):=fun z=>((FXold hfx9).off.same ((OffS.set B9 r z).mono (T:=fun j=>h.n≤j) fun j _ e=>by rw [e];exact hrh)).old fun j hj e=>by omega
   by_cases hae:x.args=[]
   ·have hs0:x.args.length=0:=by rw [hae];rfl
    obtain ⟨na,hna⟩:∃ na:Nat,na=0:=⟨0,rfl⟩
    have hput:(Value.slice none 0 0)=rowVl 2 na x.args:=by rw [hae];rfl
    repeat (first|refine Ya ?_|refine Y4i ?_|((with_reducible apply RS.appendNil0);(iterate 4 exact rfl);exact hs0;kernel_rfl)|refine Y2j ?_|refine Y9 ?_|refine Y3 ?_|refine Yd ?_|refine Y0 ?_|refine Ye ?_|refine Y1 ?_|refine Y5 ?_)
    refine roundN_n rfl fun B' a=>⟨(k+1,di++[(x,na)]),?_,fin na B' (a.up _ _ (by show (if r=r then _ else _)=_;rw [if_pos rfl])) (fun j y hy hne=>a.up _ _ (by show (if j=r then _ else B9.m j)=_;rw [if_neg hne];exact hy)) ((setr _).trans a.oldH) (fun hn=>absurd hae hn),?_⟩
    ·(repeat' (first|exact trivial|exact rfl|apply And.intro));done
    ·show b.ins.length - (k+1) < b.ins.length - k
     omega
   ·obtain ⟨q,off,cs,e,rfl,hq2',hq3,hq5⟩:=slat_whole hargs hae
    have hq2:=(FXold hfx9).up hd _ _ hq2'
    have hq2n:=sB9.dom _ _ hq2
    have hq4:takeV off (x.args.length * 2) cs=argsC x.args:=rows_eq hq3 fun i a ha=>hq5 i a ha
    have hapos:0 < x.args.length:=List.length_pos_iff.2 hae
    obtain ⟨na,hna⟩:∃ na:Nat,na=π9 0:=⟨_,rfl⟩
    have hput:(Value.slice (some ⟨π9 0,0,none⟩) x.args.length (capOf 2))=rowVl 2 na x.args:=by rw [hna,rowVl_ne hae]
    repeat (first|refine Ya ?_|refine Y4i ?_|((with_reducible apply RS.appendNilB);(iterate 6 exact rfl);exact hq2;exact hq2n;exact hq3;omega;omega;omega;exact hq4)|refine Y2j ?_|refine Y9 ?_|refine Y3 ?_|refine Yd ?_|refine Y0 ?_|refine Ye ?_|refine Y1 ?_|refine Y5 ?_)
    refine roundN_n rfl fun B' a=>?_
    have hlo:B9.n≤π9 0:=a.lo 0 (Nat.lt_succ_self 0)
    have hloc:B'.m (π9 0)=some ⟨⟨argsC x.args⟩,46⟩:=a.loc 0 (Nat.lt_succ_self 0)
    refine ⟨(k+1,di++[(x,na)]),?_,fin na B' (a.up _ _ (by show (if r=r then _ else _)=_;rw [if_pos rfl])) (fun j y hy hne=>a.up _ _ (by show (if j=r then _ else B9.m j)=_;rw [if_neg hne];exact hy)) ((setr _).trans a.oldH) (fun _=>by rw [hna];exact ⟨hlo,hloc⟩),?_⟩
    ·(repeat' (first|exact trivial|exact rfl|apply And.intro));done
    ·show b.ins.length - (k+1) < b.ins.length - k
     omega
  ·have hkk:k=b.ins.length:=by omega
   rw [hkk,List.take_length] at hdt
   have hbs:(⟨di,r,b.term⟩:BV).s=b:=by unfold BV.s;rw [hdt]
   have hde:di=[]↔b.ins.length=0:=by
    rw [← List.length_eq_zero_iff];omega
   have hbc:(⟨di,r,b.term⟩:BV).c=blockC b A4 c4:=by
    rw [BVc_eq,hbs]
    unfold BV.A BV.k
    by_cases hn0:b.ins.length=0
    ·obtain ⟨e1,e2⟩:=hz7 hn0
     have:di=[]:=hde.2 hn0
     subst this
     rw [e1,e2];rfl
    ·obtain ⟨e1,e2,_,_⟩:=hr hn0
     have:di≠[]:=fun e=>hn0 (hde.1 e)
     rw [if_neg this,if_neg this,e1,e2]
   have hdrR:R.drop i=blockC b A c::R.drop (i+1):=by
    obtain ⟨q1,q2⟩:=List.getElem?_eq_some_iff.1 hRi
    rw [List.drop_eq_getElem_cons q1,q2]
   have hset:(dn.map BV.c++R.drop i).set i (blockC b A4 c4)=(dn++[(⟨di,r,b.term⟩:BV)]).map BV.c++R.drop (i+1):=by
    rw [List.set_append_right _ _ (by simp [hdl]),List.length_map,hdl,Nat.sub_self,hdrR,List.set_cons_zero,List.map_append,List.append_assoc,← hbc];rfl
   rw [hset] at hOa
   repeat (first|refine Y25 ?_|refine Y2 ?_|refine Yd ?_|refine Y0 ?_|refine Y4s ?_|refine Y1 ?_|refine Y6 ?_|refine Yl ?_)
   refine roundN_n rfl fun B' a=>⟨(i+1,dn++[⟨di,r,b.term⟩]),?_,⟨by omega,by simp [hdl],?_,FXup hfx9 ((FXold hfx9).trans a.oldH) fun j x hx _ _=>a.up _ _ hx,a.up _ _ hOa,?_⟩,?_⟩
   ·(repeat' (first|exact trivial|exact rfl|apply And.intro));done
   ·show sL (dn++[⟨di,r,b.term⟩])=f.blocks.take (i+1)
    obtain ⟨q1,q2⟩:=List.getElem?_eq_some_iff.1 hb
    have e:sL (dn++[⟨di,r,b.term⟩])=sL dn++[(⟨di,r,b.term⟩:BV).s]:=by simp [sL]
    rw [e,hds,hbs,List.take_succ_eq_append_getElem q1,q2]
   ·have od10:=od9.up a.up
    have hr10:di≠[]→h.n≤r∧B'.m r=some ⟨⟨(di.map insVC).flatten⟩,58⟩:=by
     intro hn
     have hn0:b.ins.length≠0:=fun e=>hn (hde.2 e)
     refine ⟨Nat.le_trans (FXold hfx).1 (hr hn0).2.2.1,a.up _ _ ?_⟩
     rw [hRa hn0,List.drop_eq_nil_of_le (by rw [(hR2 hn0).2.1];omega),List.append_nil]
    refine ⟨fun z hz hn=>?_,fun z hz y hy hn=>?_,?_,?_⟩
    ·rcases List.mem_append.1 hz with e|e
     ·exact od10.row z e hn
     ·simp only [List.mem_singleton] at e
      subst e
      exact hr10 hn
    ·rcases List.mem_append.1 hz with e|e
     ·exact od10.arg z e y hy hn
     ·simp only [List.mem_singleton] at e
      subst e
      exact ⟨(hdar y hy hn).1,a.up _ _ (hdar y hy hn).2⟩
    ·rw [List.pairwise_append]
     refine ⟨od9.sep,List.pairwise_singleton _ _,fun y hy z hz hyn hzn=>?_⟩
     simp only [List.mem_singleton] at hz
     subst hz
     have hn0:b.ins.length≠0:=fun e=>hzn (hde.2 e)
     have h1:=hbl (od.row y hy hyn).2
     have h2:=(hr hn0).2.2.1
     show y.r < r
     omega
    ·rw [List.flatMap_append]
     simpa using hsep
   ·show f.blocks.length - (i+1) < f.blocks.length - i
    omega
 ·have hii:i=f.blocks.length:=by omega
  have hds':sL dn=f.blocks:=by rw [hds,hii,List.take_length]
  have hRn:R.drop i=[]:=List.drop_eq_nil_of_le (by rw [g2];omega)
  rw [hRn,List.append_nil] at hO
  obtain ⟨oldB,hF9,hRb9,hA1,hA2⟩:=(hFX _).1 hfx
  have hF9n:=sB.dom _ _ hF9
  have hRb9n:=sB.dom _ _ hRb9
  have hFF:∀ X,(B.set fb X).m fb=some X:=fun X=>by show (if fb=fb then _ else _)=_;rw [if_pos rfl]
  have hRR:∀ X,(B.set fb X).m rb=some ⟨⟨cellsV (.agg ⟨funcC ⟨⟨#[]⟩,0,0,0,[],[]⟩ none 0 none 0 none 0⟩)⟩,37⟩:=fun X=>by
   show (if rb=fb then _ else B.m rb)=_
   rw [if_neg (fun e=>hfr e.symm)];exact hRb9
  repeat (first|((with_reducible apply RS.storeB);(iterate 3 exact rfl);exact hF9;exact hF9n;exact hFw;exact Nat.le_of_ble_eq_true rfl;(iterate 2 exact rfl);exact (show setL (funcC f A1' c1' A2' c2' (some ⟨b3,o3,none⟩) c3) (0+5) [.slice (some ⟨bb,0,none⟩) f.blocks.length (capOf 9)]=funcC f A1' c1' A2' c2' (some ⟨bb,0,none⟩) (capOf 9) from rfl))|((with_reducible apply RS.loadNB);(iterate 3 exact rfl);exact hFF _;exact hF9n;exact Nat.le_of_ble_eq_true rfl;exact rfl)|((with_reducible apply RS.storeB);(iterate 3 exact rfl);exact hRR _;exact hRb9n;exact hRw;exact Nat.le_of_ble_eq_true rfl;iterate 3 exact rfl)|refine Y16 ?_|refine Y2 ?_|refine Y0 ?_|refine Y1x ?_|refine Y1 ?_|refine Y6 ?_|refine Yl ?_)
  have keepZ:∀ (X Y:Blk) {j:Nat} {x:Blk},B.m j=some x→x.elem≠37→((B.set fb X).set rb Y).m j=some x:=by
   intro X Y j x hx he
   show (if j=rb then _ else (if j=fb then _ else B.m j))=_
   rw [if_neg (ne_of_elem hx hRb9 he),if_neg (ne_of_elem hx hF9 he)]
   exact hx
  refine endsK_ret _ (.cons (.baseN (vs:=funcC f A1' c1' A2' c2' (some ⟨bb,0,none⟩) (capOf 9)) rfl (by show (if rb=rb then _ else _)=_;rw [if_pos rfl]) (Nat.le_of_ble_eq_true rfl) rfl) .nil) fun B' a=>⟨A1',c1',A2',c2',bb,dn,rfl,a.up _ _ (keepZ _ _ hO (by simp)),hbbn,?_,hds',?_,?_,?_⟩
  ·exact ⟨fun z hz hn=>⟨(od.row z hz hn).1,a.up _ _ (keepZ _ _ (od.row z hz hn).2 (by simp))⟩,fun z hz y hy hn=>⟨(od.arg z hz y hy hn).1,a.up _ _ (keepZ _ _ (od.arg z hz y hy hn).2 (by simp))⟩,od.sep,od.sepA⟩
  ·exact ((oldB.off.same (S:=fun j=>h.n≤j) ((OffS.set B fb _).mono fun j _ e=>by rw [e];exact hfb)).same ((OffS.set _ rb _).mono fun j _ e=>by rw [e];exact hrb)).same a.oldH.off |>.old fun j hj e=>by omega
  ·by_cases hn:sec=[]
   ·exact .inl hn
   obtain ⟨r,q1,q2,q3⟩:=hA1 (by rw [← hsec];exact fun e=>hn (List.length_eq_zero_iff.1 e))
   exact .inr ⟨r,q1,q2,a.up _ _ (keepZ _ _ (by rw [q3,slat_map hS hcp1 hn fun _ _ h=>h]) (by simp))⟩
  ·by_cases hn:f.slots=[]
   ·exact .inl hn
   obtain ⟨r,q1,q2,q3⟩:=hA2 (fun e=>hn (List.length_eq_zero_iff.1 e))
   exact .inr ⟨r,q1,q2,a.up _ _ (keepZ _ _ (by rw [q3,slat_map hL hcp2 hn fun _ _ h=>h]) (by simp))⟩
def setV (L:Nat) (a:Nat):Value:=.slice (some ⟨a,0,none⟩) L L
structure SetsAt (h:Hp) (N ib:Nat) (al:List Nat) (ss:List SetS) (L:Nat):Prop where
 m:h.m ib=some ⟨⟨al.map (setV L)⟩,52⟩
 len:al.length=ss.length
 pt:∀ (i a:Nat) (s:SetS),al[i]?=some a→ss[i]?=some s→h.m a=some ⟨⟨setC s⟩,90⟩∧s.length=L∧N≤a
def partV (L n:Nat) (al:List Nat):List Value:=al.map (setV L)++List.replicate (n - al.length) (.slice none 0 0)
structure Fill (h:Hp) (N ib ob n L:Nat) (E:SetS) (ai ao:List Nat) (B:Hp):Prop where
 old:Old h B
 mi:B.m ib=some ⟨⟨partV L n ai⟩,52⟩
 mo:B.m ob=some ⟨⟨partV L n ao⟩,52⟩
 pt:∀ a∈ai++ao,B.m a=some ⟨⟨setC E⟩,90⟩∧N≤a
 nd:(ai++ao).Nodup
def muS (s:SetS):Nat:=(s.map fun w=>2 ^ 64 - w.toNat).sum
def muL (l:List SetS):Nat:=(l.map muS).sum
end Go.Proofs.YtjhloakacicdiaaDoor
