/-
  What the functions that the law reaches compute,told by plain data;it holds of programs that pass the check of right form and are light.
-/
import Derived.Test.YtjhloakacicdiaaR1
import Derived.Test.YtjhloakacicdiaaR2
import Derived.Test.YtjhloakacicdiaaS2
set_option linter.unusedVariables false
set_option linter.unusedSimpArgs false
namespace Go.Proofs.Ytjhloakacicdiaa
open Go.AH
attribute [local irreducible] W RS
def chunks (w:Nat):Nat→List Value→List (List Value)
  | 0,_=>[]
  | n+1,l=>l.take w::chunks w n (l.drop w)
theorem chunks_ok (w:Nat):∀ (n:Nat) (l:List Value),l.length=n * w→(chunks w n l).flatten=l∧(chunks w n l).length=n∧(∀ c∈chunks w n l,c.length=w)∧∀ j,j < n→(chunks w n l)[j]?=some (takeV (j * w) w l):=by
  intro n
  induction n with
  | zero =>
    intro l hl
    have:l=[]:=List.length_eq_zero_iff.1 (by omega)
    subst this
    exact ⟨rfl,rfl,(fun c hc=>by cases hc),fun j hj=>absurd hj (Nat.not_lt_zero _)⟩
  | succ n ih =>
    intro l hl
    rw [Nat.succ_mul] at hl
    obtain ⟨h1,h2,h3,h4⟩:=ih (l.drop w) (by simp;omega)
    refine ⟨?_,by simp [chunks,h2],fun c hc=>?_,fun j hj=>?_⟩
    · rw [chunks,List.flatten_cons,h1,List.take_append_drop]
    · rw [chunks] at hc
      rcases List.mem_cons.1 hc with e|e
      · subst e;simp;omega
      · exact h3 c e
    · cases j with
      | zero=>simp [chunks,takeV_eq]
      | succ j =>
        rw [chunks,List.getElem?_cons_succ,h4 j (by omega),takeV_eq,takeV_eq,List.drop_drop]
        congr 3
        rw [Nat.succ_mul];omega
def boolR (cs:List Value) (b:Bool):Prop:=cs=[.bool b]
theorem slat_whole {α:Type} {h:Hp} {A:Option Addr} {w:Nat} {l:List α} {R:List Value→α→Prop} (s:SlAt h A w l R) (hl:l≠[]):∃ b off cs e,A=some ⟨b,off,none⟩∧h.m b=some ⟨⟨cs⟩,e⟩∧off+l.length * w≤cs.length∧∀ i x,l[i]?=some x→R (takeV (off+i * w) w cs) x:=by
  have hpos:=List.length_pos_iff.2 hl
  obtain ⟨x,hx⟩:∃ x,l[l.length - 1]?=some x:=⟨_,List.getElem?_eq_getElem (by omega)⟩
  obtain ⟨b,off,cs,e,h1,h2,h3,_⟩:=s.get _ x hx
  refine ⟨b,off,cs,e,h1,h2,?_,fun i y hy=>?_⟩
  · have:l.length * w=(l.length - 1) * w+w:=by rw [← Nat.succ_mul];congr 1;omega
    omega
  · obtain ⟨b',off',cs',e',g1,g2,g3,g4⟩:=s.get i y hy
    rw [h1] at g1
    injection g1 with g1
    injection g1 with g5 g6
    subst g5;subst g6
    rw [h2] at g2
    injection g2 with g2
    injection g2 with g7 g8
    injection g7 with g7
    subst g7
    exact g4
def RowE {α:Type} (h:Hp) (N:Nat) (e:TypeId) (A:Option Addr) (l:List α) (enc:α→Value):Prop:=l=[]∨∃ r,A=some ⟨r,0,none⟩∧N≤r∧h.m r=some ⟨⟨l.map enc⟩,e⟩
theorem RowE.up {α:Type} {h H:Hp} {N:Nat} {e:TypeId} {A:Option Addr} {l:List α} {enc:α→Value} (s:RowE h N e A l enc) (hu:∀ i b,h.m i=some b→b.elem=e→H.m i=some b):RowE H N e A l enc:=by
  rcases s with s|⟨r,h1,h2,h3⟩
  · exact .inl s
  · exact .inr ⟨r,h1,h2,hu _ _ h3 rfl⟩
theorem RowE.sl {α:Type} {h:Hp} {N:Nat} {e:TypeId} {A:Option Addr} {l:List α} {enc:α→Value} (s:RowE h N e A l enc) {R:List Value→α→Prop} (hR:∀ x,R [enc x] x):SlAt h A 1 l R:=by
  rcases s with rfl|⟨r,rfl,_,h3⟩
  · exact .nil
  · refine ⟨fun i x hx=>⟨r,0,_,e,rfl,h3,?_,?_⟩⟩
    · have:=(List.getElem?_eq_some_iff.1 hx).1
      rw [List.length_map];omega
    · have:takeV (0+i * 1) 1 (l.map enc)=[enc x]:=by
        rw [takeV_eq,Nat.zero_add,Nat.mul_one]
        obtain ⟨h1,h2⟩:=List.getElem?_eq_some_iff.1 hx
        rw [List.drop_eq_getElem_cons (by simpa using h1)]
        simp [h2]
      rw [this];exact hR x
theorem slat_map {α:Type} {h:Hp} {A:Option Addr} {l:List α} {R:List Value→α→Prop} {enc:α→Value} {vs:List Value} (s:SlAt h A 1 l R) (hv:l≠[]→∃ b off cs e,A=some ⟨b,off,none⟩∧h.m b=some ⟨⟨cs⟩,e⟩∧off+l.length * 1≤cs.length∧takeV off (l.length * 1) cs=vs) (hn:l≠[]) (hR:∀ cs x,R cs x→cs=[enc x]):vs=l.map enc:=by
  obtain ⟨b,off,cs,e,h1,h2,h3,h4⟩:=hv hn
  subst h4
  apply List.ext_getElem?
  intro i
  rw [takeV_eq,List.getElem?_map]
  by_cases hi:i < l.length
  · rw [List.getElem?_take_of_lt (by omega),List.getElem?_drop,List.getElem?_eq_getElem hi]
    obtain ⟨b',off',cs',e',g1,g2,g3,g4⟩:=s.get i l[i] (List.getElem?_eq_getElem hi)
    rw [h1] at g1
    injection g1 with g1
    injection g1 with g5 g6
    subst g5;subst g6
    rw [h2] at g2
    injection g2 with g2
    injection g2 with g7 _
    injection g7 with g7
    subst g7
    have:=take_nth (hR _ _ g4) (j:=0) rfl
    rw [Nat.mul_one,Nat.add_zero] at this
    rw [this];rfl
  · rw [List.getElem?_eq_none_iff.2 (by simp;omega),List.getElem?_eq_none_iff.2 (by omega)];rfl
structure OwnD (h:Hp) (N:Nat) (bv:List BV):Prop where
  row:∀ b∈bv,b.ins≠[]→N≤b.r∧h.m b.r=some ⟨⟨(b.ins.map insVC).flatten⟩,64⟩
  arg:∀ b∈bv,∀ x∈b.ins,x.1.args≠[]→N≤x.2∧h.m x.2=some ⟨⟨argsC x.1.args⟩,43⟩
  sep:bv.Pairwise fun x y=>x.ins≠[]→y.ins≠[]→x.r < y.r
  sepA:(bv.flatMap (·.ins)).Pairwise fun x y=>x.1.args≠[]→y.1.args≠[]→x.2 < y.2
theorem OwnD.up {h H:Hp} {N:Nat} {bv:List BV} (o:OwnD h N bv) (hu:∀ i b,h.m i=some b→H.m i=some b):OwnD H N bv :=
  ⟨fun b hb hn=>⟨(o.row b hb hn).1,hu _ _ (o.row b hb hn).2⟩,fun b hb x hx hn=>⟨(o.arg b hb x hx hn).1,hu _ _ (o.arg b hb x hx hn).2⟩,o.sep,o.sepA⟩
theorem OwnD.own {h:Hp} {N bb:Nat} {bv:List BV} (o:OwnD h N bv) (hN:rwM≤N) (hb:rwM≤bb) (hm:h.m bb=some ⟨⟨(bv.map BV.c).flatten⟩,47⟩):OwnB h bb bv:=by
  refine ⟨hb,hm,fun b hb hn=>⟨Nat.le_trans hN (o.row b hb hn).1,(o.row b hb hn).2⟩,fun b hb x hx hn=>⟨Nat.le_trans hN (o.arg b hb x hx hn).1,(o.arg b hb x hx hn).2⟩,fun i j x y hx hy hxn hyn he=>?_⟩
  obtain ⟨hi,hx'⟩:=List.getElem?_eq_some_iff.1 hx
  obtain ⟨hj,hy'⟩:=List.getElem?_eq_some_iff.1 hy
  rcases Nat.lt_trichotomy i j with h1|h1|h1
  · have:=List.pairwise_iff_getElem.1 o.sep i j hi hj h1
    rw [hx',hy'] at this
    have:=this hxn hyn
    omega
  · exact h1
  · have:=List.pairwise_iff_getElem.1 o.sep j i hj hi h1
    rw [hx',hy'] at this
    have:=this hyn hxn
    omega
theorem slat_vs {α:Type} {h:Hp} {A:Option Addr} {w:Nat} {l:List α} {R:List Value→α→Prop} (s:SlAt h A w l R):∃ vs:List Value,l≠[]→∃ b off cs e,A=some ⟨b,off,none⟩∧h.m b=some ⟨⟨cs⟩,e⟩∧off+l.length * w≤cs.length∧takeV off (l.length * w) cs=vs:=by
  by_cases hl:l=[]
  · exact ⟨[],fun h=>absurd hl h⟩
  · obtain ⟨b,off,cs,e,h1,h2,h3,_⟩:=slat_whole s hl
    exact ⟨_,fun _=>⟨b,off,cs,e,h1,h2,h3,rfl⟩⟩
theorem vs_up {h H:Hp} {A:Option Addr} {n w:Nat} {vs:List Value} (hv:n≠0→∃ b off cs e,A=some ⟨b,off,none⟩∧h.m b=some ⟨⟨cs⟩,e⟩∧off+n * w≤cs.length∧takeV off (n * w) cs=vs) (hu:∀ i b,h.m i=some b→H.m i=some b):n≠0→∃ b off cs e,A=some ⟨b,off,none⟩∧H.m b=some ⟨⟨cs⟩,e⟩∧off+n * w≤cs.length∧takeV off (n * w) cs=vs:=by
  intro hn
  obtain ⟨b,off,cs,e,h1,h2,h3⟩:=hv hn
  exact ⟨b,off,cs,e,h1,hu _ _ h2,h3⟩
theorem cell_le {w:Nat} {L:List (List Value)} (hw:∀ c∈L,c.length=w) {i:Nat} {x:List Value} (hx:L[i]?=some x) {o:Nat} (ho:o+1≤w):0+i * w+o+1≤L.flatten.length:=by
  have:=(flat_take hw hx).2
  omega
theorem cell_put {w:Nat} {L:List (List Value)} (hw:∀ c∈L,c.length=w) {i:Nat} {x y:List Value} (hx:L[i]?=some x) {o:Nat} {v:Value} (ho:o+1≤w) (hy:setL x o [v]=y):setL L.flatten (0+i * w+o) [v]=(L.set i y).flatten:=by
  rw [Nat.zero_add,flat_set hw hx (by simpa using ho),hy]
set_option maxRecDepth 100000 in
theorem copy_ex (h:Hp) (f:FuncS) (A1:Option Addr) (c1:Nat) (A2:Option Addr) (c2:Nat) (A3:Option Addr) (c3:Nat) (sec:List Bool) (hsec:sec.length=f.secret) (hS:SlAt h A1 1 sec boolR) (hL:SlAt h A2 1 f.slots intR) (hB:SlAt h A3 9 f.blocks (blockR h))
    (hpos:0 < f.blocks.length) (hb1:f.secret≤1000000) (hb2:f.slots.length≤1000000) (hb3:f.blocks.length≤100000) (hb4:∀ b∈f.blocks,b.ins.length≤1000000) (hb5:∀ b∈f.blocks,∀ x∈b.ins,x.args.length≤1000000) :
    EX Try.prog 10 [.agg ⟨funcC f A1 c1 A2 c2 A3 c3⟩] h (fun v h'=>∃ A1' c1' A2' c2' bb bv,v=.agg ⟨funcC f A1' c1' A2' c2' (some ⟨bb,0,none⟩) (capOf 9)⟩∧h'.m bb=some ⟨⟨(bv.map BV.c).flatten⟩,47⟩∧h.n≤bb∧OwnD h' h.n bv∧sL bv=f.blocks∧Old h h'∧RowE h' h.n 4 A1' sec .bool∧RowE h' h.n 3 A2' f.slots (.int .i64)):=by
  refine EX.intro (fn:=Try.f10) (c:=(Try.f10.body.getD .skip)) Try.func10 (by kernel_rfl) Try.ntmps10 (by kernel_rfl) fun π s0=>?_
  conv=>arg 2;whnf
  have hd:=s0.dom
  obtain ⟨vs1,hv1⟩:=slat_vs hS
  obtain ⟨vs2,hv2⟩:=slat_vs hL
  have hcp1:=hv1
  have hcp2:=hv2
  replace hv1:f.secret≠0→∃ b off cs e,A1=some ⟨b,off,none⟩∧h.m b=some ⟨⟨cs⟩,e⟩∧off+f.secret * 1≤cs.length∧takeV off (f.secret * 1) cs=vs1:=by
    rw [← hsec]
    exact fun hn=>hv1 (fun e=>hn (by rw [e];rfl))
  replace hv2:f.slots.length≠0→∃ b off cs e,A2=some ⟨b,off,none⟩∧h.m b=some ⟨⟨cs⟩,e⟩∧off+f.slots.length * 1≤cs.length∧takeV off (f.slots.length * 1) cs=vs2:=fun hn=>hv2 (fun e=>hn (by rw [e];rfl))
  obtain ⟨b3,o3,cs3,e3,rfl,hm3,hl3,hR3⟩:=slat_whole hB (List.length_pos_iff.1 hpos)
  ((with_reducible apply W.seq);repeat (first|((with_reducible apply RS.alloc);iterate 2 exact rfl)|((with_reducible apply RS.box);iterate 3 exact rfl)|((with_reducible apply RS.nil);exact mixed;kernel_rfl)|((with_reducible apply W.reg);kernel_rfl)|(with_reducible apply thenK_n)))
  refine W.absorbX fun B0 π0 a0=>?_
  have hF:B0.m (π 0)=some ⟨⟨funcC f A1 c1 A2 c2 (some ⟨b3,o3,none⟩) c3⟩,35⟩:=a0.loc 0 (Nat.lt_of_lt_of_le Nat.zero_lt_one (Nat.le_succ 1))
  have hfb:h.n≤π 0:=a0.lo 0 (Nat.lt_of_lt_of_le Nat.zero_lt_one (Nat.le_succ 1))
  have hrb:h.n≤π 1:=a0.lo 1 (Nat.lt_succ_self 1)
  have hRb:B0.m (π 1)=some ⟨⟨cellsV (.agg ⟨funcC ⟨⟨#[]⟩,0,0,0,[],[]⟩ none 0 none 0 none 0⟩)⟩,35⟩:=a0.loc 1 (Nat.lt_succ_self 1)
  have hfr:π 0≠π 1:=fun e=>absurd (a0.inj 0 1 (Nat.lt_of_lt_of_le Nat.zero_lt_one (Nat.le_succ 1)) (Nat.lt_succ_self 1) e) (by decide)
  generalize π 0=fb at *
  generalize π 1=rb at *
  have hRw:rwM≤rb:=Nat.le_trans s0.rw hrb
  have hFw:rwM≤fb:=Nat.le_trans s0.rw hfb
  have hFn:=a0.dom _ _ hF
  replace hv1:=vs_up hv1 a0.up
  have sets:∀ {H:Hp} {x:Blk},H.m fb=some x→Sat Try.prog H→∀ {h0:Hp},Old h0 H→h0.n≤fb→∀ z,Old h0 (H.set fb z):=fun hx sx h0 o hlt z=>(o.off.same ((OffS.set _ fb z).mono (T:=fun j=>h0.n≤j) fun j _ e=>by rw [e];exact hlt)).old fun j hj e=>by omega
  ((with_reducible apply W.seq);repeat (first|((with_reducible apply RS.load1B);(iterate 3 exact rfl);exact hF;exact hFn;exact rfl)|((with_reducible apply RS.copyNil (vs:=vs1));(iterate 6 exact rfl);exact fun B hB=>vs_up hv1 hB.up;omega;omega;intro B1 hB1 A1' c1' H1 π1 sH1 hz1 hn1 hle1 hoff1;have hF1:=(hoff1 fb (hB1.dom _ _ (hB1.up _ _ hF))).trans (hB1.up _ _ hF);have hF1n:=sH1.dom _ _ hF1)|((with_reducible apply RS.storeB);(iterate 3 exact rfl);exact hF1;exact hF1n;exact hFw;exact Nat.le_of_ble_eq_true rfl;(iterate 2 exact rfl);exact (show setL (funcC f A1 c1 A2 c2 (some ⟨b3,o3,none⟩) c3) (0+2) [.slice A1' f.secret c1']=funcC f A1' c1' A2 c2 (some ⟨b3,o3,none⟩) c3 from rfl))|((with_reducible apply RS.fieldAddr);iterate 3 exact rfl)|((with_reducible apply RS.nil);exact mixed;kernel_rfl)|((with_reducible apply W.reg);kernel_rfl)|(with_reducible apply thenK_n)))
  refine W.absorbX fun B2 π2 a2=>?_
  have old2:Old h B2:=(sets hF1 sH1 ((a0.oldH.trans hB1.oldH).trans ⟨hle1,hoff1⟩) hfb _).trans a2.oldH
  have kp1:∀ {j:Nat} {x:Blk},B0.m j=some x→j≠fb→B2.m j=some x:=by
    intro j x hx hne
    refine a2.up _ _ ?_
    show (if j=fb then _ else H1.m j)=_
    rw [if_neg hne,hoff1 j (hB1.dom _ _ (hB1.up _ _ hx))]
    exact hB1.up _ _ hx
  have hRb2:=kp1 hRb (fun e=>hfr e.symm)
  have hA1:f.secret≠0→∃ r,A1'=some ⟨r,0,none⟩∧h.n≤r∧B2.m r=some ⟨⟨vs1⟩,4⟩:=by
    intro hn
    obtain ⟨r,h1,_,h2,h3⟩:=hn1 hn
    have hb0:B0.n≤B1.n:=hB1.le
    refine ⟨r,h1,Nat.le_trans a0.le (Nat.le_trans hB1.le h2),a2.up _ _ ?_⟩
    show (if r=fb then _ else H1.m r)=_
    rw [if_neg (by have:=a0.dom _ _ hF;omega)]
    exact h3
  replace hF:B2.m fb=some ⟨⟨funcC f A1' c1' A2 c2 (some ⟨b3,o3,none⟩) c3⟩,35⟩:=a2.up _ _ (by show (if fb=fb then _ else _)=_;rw [if_pos rfl])
  replace hFn:=a2.dom _ _ hF
  replace hv2:=vs_up hv2 (old2.up hd)
  ((with_reducible apply W.seq);repeat (first|((with_reducible apply RS.load1B);(iterate 3 exact rfl);exact hF;exact hFn;exact rfl)|((with_reducible apply RS.copyNil (vs:=vs2));(iterate 6 exact rfl);exact fun B hB=>vs_up hv2 hB.up;omega;omega;intro B3 hB3 A2' c2' H3 π3 sH3 hz3 hn3 hle3 hoff3;have hF3:=(hoff3 fb (hB3.dom _ _ (hB3.up _ _ hF))).trans (hB3.up _ _ hF);have hF3n:=sH3.dom _ _ hF3)|((with_reducible apply RS.storeB);(iterate 3 exact rfl);exact hF3;exact hF3n;exact hFw;exact Nat.le_of_ble_eq_true rfl;(iterate 2 exact rfl);exact (show setL (funcC f A1' c1' A2 c2 (some ⟨b3,o3,none⟩) c3) (0+4) [.slice A2' f.slots.length c2']=funcC f A1' c1' A2' c2' (some ⟨b3,o3,none⟩) c3 from rfl))|((with_reducible apply RS.fieldAddr);iterate 3 exact rfl)|((with_reducible apply RS.nil);exact mixed;kernel_rfl)|((with_reducible apply W.reg);kernel_rfl)|(with_reducible apply thenK_n)))
  refine W.absorbX fun B4 π4 a4=>?_
  have kp2:∀ {j:Nat} {x:Blk},B2.m j=some x→j≠fb→B4.m j=some x:=by
    intro j x hx hne
    refine a4.up _ _ ?_
    show (if j=fb then _ else H3.m j)=_
    rw [if_neg hne,hoff3 j (hB3.dom _ _ (hB3.up _ _ hx))]
    exact hB3.up _ _ hx
  have old4:Old h B4:=(sets hF3 sH3 ((old2.trans hB3.oldH).trans ⟨hle3,hoff3⟩) hfb _).trans a4.oldH
  have hRb4:=kp2 hRb2 (fun e=>hfr e.symm)
  have hA2:f.slots.length≠0→∃ r,A2'=some ⟨r,0,none⟩∧h.n≤r∧B4.m r=some ⟨⟨vs2⟩,3⟩:=by
    intro hn
    obtain ⟨r,h1,_,h2,h3⟩:=hn3 hn
    have hlt:B2.n≤r:=Nat.le_trans hB3.le h2
    refine ⟨r,h1,Nat.le_trans old2.1 hlt,a4.up _ _ ?_⟩
    show (if r=fb then _ else H3.m r)=_
    rw [if_neg (by omega)]
    exact h3
  replace hA1:f.secret≠0→∃ r,A1'=some ⟨r,0,none⟩∧h.n≤r∧B4.m r=some ⟨⟨vs1⟩,4⟩:=by
    intro hn
    obtain ⟨r,h1,h2,h3⟩:=hA1 hn
    exact ⟨r,h1,h2,kp2 h3 (ne_of_elem h3 hF (by simp))⟩
  replace hF:B4.m fb=some ⟨⟨funcC f A1' c1' A2' c2' (some ⟨b3,o3,none⟩) c3⟩,35⟩:=a4.up _ _ (by show (if fb=fb then _ else _)=_;rw [if_pos rfl])
  replace hFn:=a4.dom _ _ hF
  obtain ⟨vs3,hvs3⟩:∃ vs3,takeV o3 (f.blocks.length * 9) cs3=vs3:=⟨_,rfl⟩
  have hv3:f.blocks.length≠0→∃ b off cs e,some (⟨b3,o3,none⟩:Addr)=some ⟨b,off,none⟩∧B4.m b=some ⟨⟨cs⟩,e⟩∧off+f.blocks.length * 9≤cs.length∧takeV off (f.blocks.length * 9) cs=vs3:=fun _=>⟨b3,o3,cs3,e3,rfl,old4.up hd _ _ hm3,hl3,hvs3⟩
  ((with_reducible apply W.seq);repeat (first|((with_reducible apply RS.load1B);(iterate 3 exact rfl);exact hF;exact hFn;exact rfl)|((with_reducible apply RS.copyNil (vs:=vs3));(iterate 6 exact rfl);exact fun B hB=>vs_up hv3 hB.up;omega;omega;intro B5 hB5 A3' c3' H5 π5 sH5 hz5 hn5 hle5 hoff5)|((with_reducible first|apply RS.assign|apply RS.fieldAddr);iterate 3 exact rfl)|((with_reducible apply RS.nil);exact mixed;kernel_rfl)|((with_reducible apply W.reg);kernel_rfl)|(with_reducible apply thenK_n)))
  obtain ⟨bb,rfl,rfl,hbb,hbm⟩:=hn5 (by omega)
  have hvl3:vs3.length=f.blocks.length * 9:=by rw [← hvs3,takeV_eq];simp;omega
  obtain ⟨g1,g2,g3,g4⟩:=chunks_ok 9 f.blocks.length vs3 hvl3
  generalize chunks 9 f.blocks.length vs3=R at *
  have hRb:∀ (i:Nat) (b:BlockS),f.blocks[i]?=some b→∃ A c,R[i]?=some (blockC b A c)∧SlAt h A 12 b.ins (insR h):=by
    intro i b hb
    have hi:=(List.getElem?_eq_some_iff.1 hb).1
    obtain ⟨A,c,h1,h2⟩:=hR3 i b hb
    refine ⟨A,c,?_,h2⟩
    rw [g4 i hi,← h1,← hvs3]
    congr 1
    have hle:i * 9+9≤f.blocks.length * 9:=by rw [← Nat.succ_mul];exact Nat.mul_le_mul_right _ hi
    rw [takeV_eq,takeV_eq,takeV_eq,List.drop_take,List.drop_drop,List.take_take,Nat.min_eq_left (by omega)]
  obtain ⟨FX,hFX⟩:∃ FX:Hp→Prop,∀ B,FX B↔(Old h B∧B.m fb=some ⟨⟨funcC f A1' c1' A2' c2' (some ⟨b3,o3,none⟩) c3⟩,35⟩∧B.m rb=some ⟨⟨cellsV (.agg ⟨funcC ⟨⟨#[]⟩,0,0,0,[],[]⟩ none 0 none 0 none 0⟩)⟩,35⟩∧(f.secret≠0→∃ r,A1'=some ⟨r,0,none⟩∧h.n≤r∧B.m r=some ⟨⟨vs1⟩,4⟩)∧(f.slots.length≠0→∃ r,A2'=some ⟨r,0,none⟩∧h.n≤r∧B.m r=some ⟨⟨vs2⟩,3⟩)):=⟨_,fun B=>Iff.rfl⟩
  have FXup:∀ {B B':Hp},FX B→Old h B'→(∀ j x,B.m j=some x→x.elem≠47→x.elem≠64→B'.m j=some x)→FX B':=by
    intro B B' hf ho hk
    rw [hFX] at hf ⊢
    obtain ⟨k1,k2,k3,k4,k5⟩:=hf
    refine ⟨ho,hk _ _ k2 (by simp) (by simp),hk _ _ k3 (by simp) (by simp),fun hn=>?_,fun hn=>?_⟩
    · obtain ⟨r,q1,q2,q3⟩:=k4 hn
      exact ⟨r,q1,q2,hk _ _ q3 (by simp) (by simp)⟩
    · obtain ⟨r,q1,q2,q3⟩:=k5 hn
      exact ⟨r,q1,q2,hk _ _ q3 (by simp) (by simp)⟩
  have FXold:∀ {B:Hp},FX B→Old h B:=fun hf=>((hFX _).1 hf).1
  have kp5:∀ {j:Nat} {x:Blk},B4.m j=some x→H5.m j=some x:=by
    intro j x hx
    rw [hoff5 j (hB5.dom _ _ (hB5.up _ _ hx))]
    exact hB5.up _ _ hx
  have old5:Old h H5:=(old4.trans hB5.oldH).trans ⟨hle5,hoff5⟩
  have hbbn:h.n≤bb:=Nat.le_trans old4.1 (Nat.le_trans hB5.le hbb)
  have hbbr:rwM≤bb:=Nat.le_trans s0.rw hbbn
  have hFX5:FX H5:=by
    rw [hFX]
    refine ⟨old5,kp5 hF,kp5 hRb4,fun hn=>?_,fun hn=>?_⟩
    · obtain ⟨r,q1,q2,q3⟩:=hA1 hn
      exact ⟨r,q1,q2,kp5 q3⟩
    · obtain ⟨r,q1,q2,q3⟩:=hA2 hn
      exact ⟨r,q1,q2,kp5 q3⟩
  clear hF hFn hRb2 hRb4 kp1 kp2 kp5 hA1 hA2 hn1 hn3 hn5 hoff1 hoff3 hoff5
  ((with_reducible apply W.seq);repeat (fail))
  ((with_reducible apply W.seq);repeat (first|((with_reducible first|apply RS.move|apply RS.lenSl);iterate 3 exact rfl)|((with_reducible apply RS.nil);exact mixed;kernel_rfl)|((with_reducible apply W.reg);kernel_rfl)|(with_reducible first|apply W.block|apply thenK_n)))
  refine W.loopN (X:=Nat × List BV) (fun x=>[(1,.pointer (some ⟨fb,0,none⟩)),(2,.pointer (some ⟨rb,0,none⟩)),(3,.slice (some ⟨bb,0,none⟩) f.blocks.length (capOf 9)),(18,.int .i64 (f.blocks.length:Int)),(19,.int .i64 (x.1:Int))])
    (fun x B=>x.1≤f.blocks.length∧x.2.length=x.1∧sL x.2=f.blocks.take x.1∧FX B∧B.m bb=some ⟨⟨(x.2.map BV.c++R.drop x.1).flatten⟩,47⟩∧OwnD B h.n x.2) (fun x=>f.blocks.length - x.1)
    (fun B' a=>⟨(0,[]),?_,⟨Nat.zero_le _,rfl,by rw [List.take_zero];rfl,FXup hFX5 (old5.trans a.oldH) fun j x hx _ _=>a.up _ _ hx,a.up _ _ (by rw [hbm,← g1];rfl),⟨(fun b hb=>by cases hb),(fun b hb=>by cases hb),List.Pairwise.nil,List.Pairwise.nil⟩⟩⟩) ?_
  · (repeat' (first|exact trivial|exact rfl|apply And.intro));done
  rintro ⟨i,dn⟩ B π6 sB ⟨hi,hdl,hds,hfx,hO,od⟩
  dsimp only at hi hdl hds hfx hO od ⊢
  have hOn:=sB.dom _ _ hO
  have hL9:∀ c∈dn.map BV.c++R.drop i,c.length=9:=by
    intro c hc
    rcases List.mem_append.1 hc with e|e
    · exact bv_wid dn c e
    · exact g3 c (List.mem_of_mem_drop e)
  have hLl:(dn.map BV.c++R.drop i).length=f.blocks.length:=by simp [hdl,g2];omega
  by_cases hlt:i < f.blocks.length
  · obtain ⟨b,hb⟩:∃ b,f.blocks[i]?=some b:=⟨_,List.getElem?_eq_getElem hlt⟩
    obtain ⟨A,c,hRi,hsl⟩:=hRb i b hb
    have hbi:=hb4 b (List.mem_of_getElem? hb)
    have hLi:(dn.map BV.c++R.drop i)[i]?=some (blockC b A c):=by
      rw [List.getElem?_append_right (by simp [hdl]),List.length_map,hdl,Nat.sub_self,List.getElem?_drop,Nat.add_zero]
      exact hRi
    have hO0:(dn.map BV.c++R.drop i).flatten[0+i * 9+0]?=some (.slice A b.ins.length c):=by
      rw [Nat.zero_add,flat_get hL9 i 0 (by decide),hLi];rfl
    obtain ⟨vs4,hv4⟩:=slat_vs hsl
    replace hv4:b.ins.length≠0→∃ q off cs e,A=some ⟨q,off,none⟩∧B.m q=some ⟨⟨cs⟩,e⟩∧off+b.ins.length * 12≤cs.length∧takeV off (b.ins.length * 12) cs=vs4:=vs_up (fun hn=>hv4 (fun e=>hn (by rw [e];rfl))) ((FXold hfx).up hd)
    ((with_reducible apply W.seq);repeat (first|((with_reducible apply RS.cmpT);(iterate 4 exact rfl);(simp only [cmpP];omega))|((with_reducible apply RS.nil);exact mixed;kernel_rfl)|((with_reducible apply W.reg);kernel_rfl)|(with_reducible apply thenK_n)))
    ((with_reducible apply W.seq);repeat (first|(with_reducible first|apply W.skip|apply thenK_n)|((with_reducible apply W.condT);kernel_rfl;exact rfl)))
    ((with_reducible apply W.seq);repeat (first|(with_reducible apply W.block)))
    ((with_reducible apply W.seq);repeat (first|((with_reducible first|apply RS.move|apply RS.assign);iterate 3 exact rfl)|((with_reducible apply RS.nil);exact mixed;kernel_rfl)|((with_reducible apply W.reg);kernel_rfl)|(with_reducible apply thenK_n)))
    ((with_reducible apply W.seq);repeat (first|((with_reducible apply RS.indexAddrS);(iterate 5 exact rfl);omega)|((with_reducible apply RS.load1B);(iterate 3 exact rfl);exact hO;exact hOn;exact hO0)|((with_reducible apply RS.copyNil (vs:=vs4));(iterate 6 exact rfl);exact fun B hB=>vs_up hv4 hB.up;omega;omega;intro B7 hB7 A4 c4 H7 π7 sH7 hz7 hn7 hle7 hoff7;have hO7:=(hoff7 bb (hB7.dom _ _ (hB7.up _ _ hO))).trans (hB7.up _ _ hO);have hO7n:=sH7.dom _ _ hO7)|((with_reducible apply RS.storeB);(iterate 3 exact rfl);exact hO7;exact hO7n;exact hbbr;exact cell_le hL9 hLi (o:=0) (by decide);(iterate 2 exact rfl);exact cell_put hL9 hLi (o:=0) (y:=blockC b A4 c4) (by decide) rfl)|((with_reducible first|apply RS.move|apply RS.fieldAddr);iterate 3 exact rfl)|((with_reducible apply RS.nil);exact mixed;kernel_rfl)|((with_reducible apply W.reg);kernel_rfl)|(with_reducible apply thenK_n)))
    refine W.absorbX fun B8 π8 a8=>?_
    have hO8:B8.m bb=some ⟨⟨((dn.map BV.c++R.drop i).set i (blockC b A4 c4)).flatten⟩,47⟩:=a8.up _ _ (by show (if bb=bb then _ else _)=_;rw [if_pos rfl])
    have hO8n:=a8.dom _ _ hO8
    have hLs9:∀ c∈(dn.map BV.c++R.drop i).set i (blockC b A4 c4),c.length=9:=by
      intro c hc
      rcases mem_set hc with e|e
      · exact hL9 c e
      · rw [e];rfl
    have hLsi:((dn.map BV.c++R.drop i).set i (blockC b A4 c4))[i]?=some (blockC b A4 c4):=by rw [List.getElem?_set,if_pos rfl,if_pos (by rw [hLl];exact hlt)]
    have hO80:((dn.map BV.c++R.drop i).set i (blockC b A4 c4)).flatten[0+i * 9+0]?=some (.slice A4 b.ins.length c4):=by
      rw [Nat.zero_add,flat_get hLs9 i 0 (by decide),hLsi];rfl
    have kp8:∀ {j:Nat} {x:Blk},B.m j=some x→j≠bb→B8.m j=some x:=by
      intro j x hx hne
      refine a8.up _ _ ?_
      show (if j=bb then _ else H7.m j)=_
      rw [if_neg hne,hoff7 j (hB7.dom _ _ (hB7.up _ _ hx))]
      exact hB7.up _ _ hx
    have o7:Old h H7:=((FXold hfx).trans hB7.oldH).trans ⟨hle7,hoff7⟩
    have old8:Old h B8:=((o7.off.same ((OffS.set _ bb _).mono (T:=fun j=>h.n≤j) fun j _ e=>by rw [e];exact hbbn)).old fun j hj e=>by omega).trans a8.oldH
    have hfx8:FX B8:=FXup hfx old8 fun j x hx h1 _=>kp8 hx (ne_of_elem hx hO (by simpa using h1))
    have od8:OwnD B8 h.n dn:=⟨fun x hx hn=>⟨(od.row x hx hn).1,kp8 (od.row x hx hn).2 (ne_of_elem (od.row x hx hn).2 hO (by simp))⟩,fun x hx y hy hn=>⟨(od.arg x hx y hy hn).1,kp8 (od.arg x hx y hy hn).2 (ne_of_elem (od.arg x hx y hy hn).2 hO (by simp))⟩,od.sep,od.sepA⟩
    have hBle:B.n≤B7.n:=hB7.le
    have hrow8:b.ins.length≠0→∃ r,A4=some ⟨r,0,none⟩∧c4=capOf 12∧B.n≤r∧B8.m r=some ⟨⟨vs4⟩,64⟩:=by
      intro hn
      obtain ⟨r,h1,h2,h3,h4⟩:=hn7 hn
      refine ⟨r,h1,h2,Nat.le_trans hBle h3,a8.up _ _ ?_⟩
      show (if r=bb then _ else H7.m r)=_
      rw [if_neg (by have:=sB.dom _ _ hO;omega)]
      exact h4
    have hbl:∀ {j:Nat} {x:Blk},B.m j=some x→j < B.n:=fun hx=>sB.dom _ _ hx
    clear hn7 hoff7 kp8
    obtain ⟨r,hr⟩:∃ r,b.ins.length≠0→A4=some ⟨r,0,none⟩∧c4=capOf 12∧B.n≤r∧B8.m r=some ⟨⟨vs4⟩,64⟩:=by
      by_cases hn:b.ins.length=0
      · exact ⟨0,fun h=>absurd hn h⟩
      · obtain ⟨r,h1⟩:=hrow8 hn
        exact ⟨r,fun _=>h1⟩
    obtain ⟨R2,hR2⟩:∃ R2:List (List Value),b.ins.length≠0→R2.flatten=vs4∧R2.length=b.ins.length∧(∀ c∈R2,c.length=12)∧∀ (k:Nat) (x:InsS),b.ins[k]?=some x→∃ A c,R2[k]?=some (insC x A c)∧SlAt h A 2 x.args argR:=by
      by_cases hn:b.ins.length=0
      · exact ⟨[],fun h=>absurd hn h⟩
      · have hne:b.ins≠[]:=fun e=>hn (by rw [e];rfl)
        obtain ⟨q,off,cs,e,q1,q2,q3,q4⟩:=slat_whole hsl hne
        obtain ⟨q',off',cs',e',p1,p2,p3,p4⟩:=hv4 hn
        rw [q1] at p1
        injection p1 with p1
        injection p1 with p5 p6
        subst p5;subst p6
        have q2':=(FXold hfx).up hd _ _ q2
        rw [q2'] at p2
        injection p2 with p2
        injection p2 with p7 _
        injection p7 with p7
        subst p7
        have hvl4:vs4.length=b.ins.length * 12:=by rw [← p4,takeV_eq];simp;omega
        obtain ⟨k1,k2,k3,k4⟩:=chunks_ok 12 b.ins.length vs4 hvl4
        refine ⟨_,fun _=>⟨k1,k2,k3,fun k x hx=>?_⟩⟩
        have hk:=(List.getElem?_eq_some_iff.1 hx).1
        obtain ⟨A9,c9,j1,j2⟩:=q4 k x hx
        refine ⟨A9,c9,?_,j2⟩
        rw [k4 k hk,← j1,← p4]
        congr 1
        have hle:k * 12+12≤b.ins.length * 12:=by rw [← Nat.succ_mul];exact Nat.mul_le_mul_right _ hk
        rw [takeV_eq,takeV_eq,takeV_eq,List.drop_take,List.drop_drop,List.take_take,Nat.min_eq_left (by omega)]
    ((with_reducible apply W.seq);repeat (first|((with_reducible apply RS.indexAddrS);(iterate 5 exact rfl);omega)|((with_reducible apply RS.load1B);(iterate 3 exact rfl);exact hO8;exact hO8n;exact hO80)|((with_reducible first|apply RS.move|apply RS.lenSl|apply RS.fieldAddr);iterate 3 exact rfl)|((with_reducible apply RS.nil);exact mixed;kernel_rfl)|((with_reducible apply W.reg);kernel_rfl)|(with_reducible first|apply W.block|apply thenK_n)))
    refine W.loopN (X:=Nat × List InsV) (fun x=>[(1,.pointer (some ⟨fb,0,none⟩)),(2,.pointer (some ⟨rb,0,none⟩)),(3,.slice (some ⟨bb,0,none⟩) f.blocks.length (capOf 9)),(18,.int .i64 (f.blocks.length:Int)),(19,.int .i64 (i:Int)),(4,.int .i64 (i:Int)),(37,.int .i64 (b.ins.length:Int)),(38,.int .i64 (x.1:Int))])
      (fun x B=>x.1≤b.ins.length∧x.2.length=x.1∧x.2.map (·.1)=b.ins.take x.1∧FX B∧B.m bb=some ⟨⟨((dn.map BV.c++R.drop i).set i (blockC b A4 c4)).flatten⟩,47⟩∧OwnD B h.n dn∧(b.ins.length≠0→B.m r=some ⟨⟨(x.2.map insVC++R2.drop x.1).flatten⟩,64⟩)∧(∀ y∈x.2,y.1.args≠[]→h.n≤y.2∧B.m y.2=some ⟨⟨argsC y.1.args⟩,43⟩)∧(dn.flatMap (·.ins)++x.2).Pairwise fun x y=>x.1.args≠[]→y.1.args≠[]→x.2 < y.2) (fun x=>b.ins.length - x.1)
      (fun B' a=>⟨(0,[]),?_,⟨Nat.zero_le _,rfl,by rw [List.take_zero];rfl,FXup hfx8 (old8.trans a.oldH) fun j x hx _ _=>a.up _ _ hx,a.up _ _ hO8,od8.up a.up,fun hn=>a.up _ _ (by rw [(hr hn).2.2.2,← (hR2 hn).1];rfl),(fun y hy=>by cases hy),by rw [List.append_nil];exact od8.sepA⟩⟩) ?_
    · (repeat' (first|exact trivial|exact rfl|apply And.intro));done
    rintro ⟨k,di⟩ B9 π9 sB9 ⟨hk,hdk,hdt,hfx9,hOa,od9,hRa,hdar,hsep⟩
    dsimp only at hk hdk hdt hfx9 hOa od9 hRa hdar hsep ⊢
    have hOan:=sB9.dom _ _ hOa
    by_cases hkl:k < b.ins.length
    · have hn0:b.ins.length≠0:=by omega
      obtain ⟨rfl,rfl,hrn,hr8⟩:=hr hn0
      obtain ⟨k1,k2,k3,k4⟩:=hR2 hn0
      replace hRa:=hRa hn0
      have hRan:=sB9.dom _ _ hRa
      obtain ⟨x,hx⟩:∃ x,b.ins[k]?=some x:=⟨_,List.getElem?_eq_getElem hkl⟩
      obtain ⟨Ax,cx,hR2k,hargs⟩:=k4 k x hx
      have hxa:=hb5 b (List.mem_of_getElem? hb) x (List.mem_of_getElem? hx)
      have hLR9:∀ c∈di.map insVC++R2.drop k,c.length=12:=by
        intro c hc
        rcases List.mem_append.1 hc with e|e
        · exact ins_wid di c e
        · exact k3 c (List.mem_of_mem_drop e)
      have hLRk:(di.map insVC++R2.drop k)[k]?=some (insC x Ax cx):=by
        rw [List.getElem?_append_right (by simp [hdk]),List.length_map,hdk,Nat.sub_self,List.getElem?_drop,Nat.add_zero]
        exact hR2k
      have hRc:(di.map insVC++R2.drop k).flatten[0+k * 12+11]?=some (.slice Ax x.args.length cx):=by
        rw [Nat.zero_add,flat_get hLR9 k 11 (by decide),hLRk];rfl
      have hrw:rwM≤r:=Nat.le_trans sB.rw hrn
      have hrh:h.n≤r:=Nat.le_trans (FXold hfx).1 hrn
      have hdr:R2.drop k=insC x Ax cx::R2.drop (k+1):=by
        obtain ⟨q1,q2⟩:=List.getElem?_eq_some_iff.1 hR2k
        rw [List.drop_eq_getElem_cons q1,q2]
      have fin:∀ (na:Nat) (B':Hp),B'.m r=some ⟨⟨((di.map insVC++R2.drop k).set k (insVC (x,na))).flatten⟩,64⟩→(∀ j y,B9.m j=some y→j≠r→B'.m j=some y)→Old h B'→(x.args≠[]→B9.n≤na∧B'.m na=some ⟨⟨argsC x.args⟩,43⟩) →
          k+1≤b.ins.length∧(di++[(x,na)]).length=k+1∧(di++[(x,na)]).map (·.1)=b.ins.take (k+1)∧FX B'∧B'.m bb=some ⟨⟨((dn.map BV.c++R.drop i).set i (blockC b (some ⟨r,0,none⟩) (capOf 12))).flatten⟩,47⟩∧OwnD B' h.n dn∧(b.ins.length≠0→B'.m r=some ⟨⟨((di++[(x,na)]).map insVC++R2.drop (k+1)).flatten⟩,64⟩)∧(∀ y∈di++[(x,na)],y.1.args≠[]→h.n≤y.2∧B'.m y.2=some ⟨⟨argsC y.1.args⟩,43⟩)∧(dn.flatMap (·.ins)++(di++[(x,na)])).Pairwise fun x y=>x.1.args≠[]→y.1.args≠[]→x.2 < y.2:=by
        intro na B' hBr hkeep hold hnew
        have hset:(di.map insVC++R2.drop k).set k (insVC (x,na))=(di++[(x,na)]).map insVC++R2.drop (k+1):=by
          rw [List.set_append_right _ _ (by simp [hdk]),List.length_map,hdk,Nat.sub_self,hdr,List.set_cons_zero,List.map_append,List.append_assoc];rfl
        refine ⟨by omega,by simp [hdk],?_,FXup hfx9 hold fun j y hy h1 h2=>hkeep j y hy (ne_of_elem hy hRa (by simpa using h2)),hkeep _ _ hOa (ne_of_elem hOa hRa (by simp)),⟨fun z hz hn=>⟨(od9.row z hz hn).1,hkeep _ _ (od9.row z hz hn).2 ?_⟩,fun z hz y hy hn=>⟨(od9.arg z hz y hy hn).1,hkeep _ _ (od9.arg z hz y hy hn).2 (ne_of_elem (od9.arg z hz y hy hn).2 hRa (by simp))⟩,od9.sep,od9.sepA⟩,fun _=>by rw [hBr,hset],?_,?_⟩
        · obtain ⟨q1,q2⟩:=List.getElem?_eq_some_iff.1 hx
          rw [List.map_append,hdt,List.take_succ_eq_append_getElem q1,q2];rfl
        · have:=hbl (od.row z hz hn).2
          omega
        · intro y hy hyn
          rcases List.mem_append.1 hy with e|e
          · exact ⟨(hdar y e hyn).1,hkeep _ _ (hdar y e hyn).2 (ne_of_elem (hdar y e hyn).2 hRa (by simp))⟩
          · simp only [List.mem_singleton] at e
            subst e
            exact ⟨Nat.le_trans (FXold hfx9).1 (hnew hyn).1,(hnew hyn).2⟩
        · rw [← List.append_assoc,List.pairwise_append]
          refine ⟨hsep,List.pairwise_singleton _ _,fun y hy z hz hyn hzn=>?_⟩
          simp only [List.mem_singleton] at hz
          subst hz
          have h1:=(hnew hzn).1
          have h2:y.2 < B9.n:=by
            rcases List.mem_append.1 hy with e|e
            · obtain ⟨w,hw,hyw⟩:=List.mem_flatMap.1 e
              exact sB9.dom _ _ (od9.arg w hw y hyw hyn).2
            · exact sB9.dom _ _ (hdar y e hyn).2
          show y.2 < na
          omega
      have setr:∀ z,Old h (B9.set r z):=fun z=>((FXold hfx9).off.same ((OffS.set B9 r z).mono (T:=fun j=>h.n≤j) fun j _ e=>by rw [e];exact hrh)).old fun j hj e=>by omega
      by_cases hae:x.args=[]
      · have hs0:x.args.length=0:=by rw [hae];rfl
        obtain ⟨na,hna⟩:∃ na:Nat,na=0:=⟨0,rfl⟩
        have hput:(Value.slice none 0 0)=rowVl 2 na x.args:=by rw [hae];rfl
        repeat (first|((with_reducible apply RS.indexAddrS);(iterate 5 exact rfl);omega)|((with_reducible apply RS.load1B);(iterate 3 exact rfl);first|exact hOa;exact hOan;exact hO80|exact hRa;exact hRan;exact hRc)|((with_reducible apply RS.appendNil0);(iterate 4 exact rfl);exact hs0;kernel_rfl)|((with_reducible apply RS.storeB);(iterate 3 exact rfl);exact hRa;exact hRan;exact hrw;exact cell_le hLR9 hLRk (o:=11) (by decide);(iterate 2 exact rfl);exact cell_put hLR9 hLRk (o:=11) (y:=insVC (x,na)) (by decide) (by unfold insVC;rw [← hput];rfl))|((with_reducible first|apply RS.move|apply RS.assign|apply RS.fieldAddr);iterate 3 exact rfl)|((with_reducible apply RS.cmpT);(iterate 4 exact rfl);(simp only [cmpP];omega))|((with_reducible apply RS.add1);(iterate 4 exact rfl);omega)|((with_reducible apply RS.nil);exact mixed;kernel_rfl)|(with_reducible first|apply W.seq|apply W.block|apply W.skip|apply thenK_n|apply blockK_n)|((with_reducible apply W.reg);kernel_rfl)|((with_reducible apply W.condT);kernel_rfl;exact rfl))
        refine roundN_n rfl fun B' a=>⟨(k+1,di++[(x,na)]),?_,fin na B' (a.up _ _ (by show (if r=r then _ else _)=_;rw [if_pos rfl])) (fun j y hy hne=>a.up _ _ (by show (if j=r then _ else B9.m j)=_;rw [if_neg hne];exact hy)) ((setr _).trans a.oldH) (fun hn=>absurd hae hn),?_⟩
        · (repeat' (first|exact trivial|exact rfl|apply And.intro));done
        · show b.ins.length - (k+1) < b.ins.length - k
          omega
      · obtain ⟨q,off,cs,e,rfl,hq2',hq3,hq5⟩:=slat_whole hargs hae
        have hq2:=(FXold hfx9).up hd _ _ hq2'
        have hq2n:=sB9.dom _ _ hq2
        have hq4:takeV off (x.args.length * 2) cs=argsC x.args:=rows_eq hq3 fun i a ha=>hq5 i a ha
        have hapos:0 < x.args.length:=List.length_pos_iff.2 hae
        obtain ⟨na,hna⟩:∃ na:Nat,na=π9 0:=⟨_,rfl⟩
        have hput:(Value.slice (some ⟨π9 0,0,none⟩) x.args.length (capOf 2))=rowVl 2 na x.args:=by rw [hna,rowVl_ne hae]
        repeat (first|((with_reducible apply RS.indexAddrS);(iterate 5 exact rfl);omega)|((with_reducible apply RS.load1B);(iterate 3 exact rfl);first|exact hOa;exact hOan;exact hO80|exact hRa;exact hRan;exact hRc)|((with_reducible apply RS.appendNilB);(iterate 6 exact rfl);exact hq2;exact hq2n;exact hq3;omega;omega;omega;exact hq4)|((with_reducible apply RS.storeB);(iterate 3 exact rfl);exact hRa;exact hRan;exact hrw;exact cell_le hLR9 hLRk (o:=11) (by decide);(iterate 2 exact rfl);exact cell_put hLR9 hLRk (o:=11) (y:=insVC (x,na)) (by decide) (by unfold insVC;rw [← hput];rfl))|((with_reducible first|apply RS.move|apply RS.assign|apply RS.fieldAddr);iterate 3 exact rfl)|((with_reducible apply RS.cmpT);(iterate 4 exact rfl);(simp only [cmpP];omega))|((with_reducible apply RS.add1);(iterate 4 exact rfl);omega)|((with_reducible apply RS.nil);exact mixed;kernel_rfl)|(with_reducible first|apply W.seq|apply W.block|apply W.skip|apply thenK_n|apply blockK_n)|((with_reducible apply W.reg);kernel_rfl)|((with_reducible apply W.condT);kernel_rfl;exact rfl))
        refine roundN_n rfl fun B' a=>?_
        have hlo:B9.n≤π9 0:=a.lo 0 (Nat.lt_succ_self 0)
        have hloc:B'.m (π9 0)=some ⟨⟨argsC x.args⟩,43⟩:=a.loc 0 (Nat.lt_succ_self 0)
        refine ⟨(k+1,di++[(x,na)]),?_,fin na B' (a.up _ _ (by show (if r=r then _ else _)=_;rw [if_pos rfl])) (fun j y hy hne=>a.up _ _ (by show (if j=r then _ else B9.m j)=_;rw [if_neg hne];exact hy)) ((setr _).trans a.oldH) (fun _=>by rw [hna];exact ⟨hlo,hloc⟩),?_⟩
        · (repeat' (first|exact trivial|exact rfl|apply And.intro));done
        · show b.ins.length - (k+1) < b.ins.length - k
          omega
    · have hkk:k=b.ins.length:=by omega
      rw [hkk,List.take_length] at hdt
      have hbs:(⟨di,r,b.term⟩:BV).s=b:=by unfold BV.s;rw [hdt]
      have hde:di=[]↔b.ins.length=0:=by
        rw [← List.length_eq_zero_iff];omega
      have hbc:(⟨di,r,b.term⟩:BV).c=blockC b A4 c4:=by
        rw [BVc_eq,hbs]
        unfold BV.A BV.k
        by_cases hn0:b.ins.length=0
        · obtain ⟨e1,e2⟩:=hz7 hn0
          have:di=[]:=hde.2 hn0
          subst this
          rw [e1,e2];rfl
        · obtain ⟨e1,e2,_,_⟩:=hr hn0
          have:di≠[]:=fun e=>hn0 (hde.1 e)
          rw [if_neg this,if_neg this,e1,e2]
      have hdrR:R.drop i=blockC b A c::R.drop (i+1):=by
        obtain ⟨q1,q2⟩:=List.getElem?_eq_some_iff.1 hRi
        rw [List.drop_eq_getElem_cons q1,q2]
      have hset:(dn.map BV.c++R.drop i).set i (blockC b A4 c4)=(dn++[(⟨di,r,b.term⟩:BV)]).map BV.c++R.drop (i+1):=by
        rw [List.set_append_right _ _ (by simp [hdl]),List.length_map,hdl,Nat.sub_self,hdrR,List.set_cons_zero,List.map_append,List.append_assoc,← hbc];rfl
      rw [hset] at hOa
      repeat (first|((with_reducible apply RS.move);iterate 3 exact rfl)|((with_reducible apply RS.cmpF);(iterate 4 exact rfl);(simp only [cmpN];omega))|((with_reducible apply RS.add1);(iterate 4 exact rfl);omega)|((with_reducible apply RS.nil);exact mixed;kernel_rfl)|(with_reducible first|apply W.seq|apply W.exit|apply thenK_n|apply thenK_e|apply blockK_n|apply roundN_e)|((with_reducible apply W.reg);kernel_rfl)|((with_reducible apply W.condF);kernel_rfl;exact rfl)|((with_reducible apply blockK_hit);exact rfl))
      refine roundN_n rfl fun B' a=>⟨(i+1,dn++[⟨di,r,b.term⟩]),?_,⟨by omega,by simp [hdl],?_,FXup hfx9 ((FXold hfx9).trans a.oldH) fun j x hx _ _=>a.up _ _ hx,a.up _ _ hOa,?_⟩,?_⟩
      · (repeat' (first|exact trivial|exact rfl|apply And.intro));done
      · show sL (dn++[⟨di,r,b.term⟩])=f.blocks.take (i+1)
        obtain ⟨q1,q2⟩:=List.getElem?_eq_some_iff.1 hb
        have e:sL (dn++[⟨di,r,b.term⟩])=sL dn++[(⟨di,r,b.term⟩:BV).s]:=by simp [sL]
        rw [e,hds,hbs,List.take_succ_eq_append_getElem q1,q2]
      · have od10:=od9.up a.up
        have hr10:di≠[]→h.n≤r∧B'.m r=some ⟨⟨(di.map insVC).flatten⟩,64⟩:=by
          intro hn
          have hn0:b.ins.length≠0:=fun e=>hn (hde.2 e)
          refine ⟨Nat.le_trans (FXold hfx).1 (hr hn0).2.2.1,a.up _ _ ?_⟩
          rw [hRa hn0,List.drop_eq_nil_of_le (by rw [(hR2 hn0).2.1];omega),List.append_nil]
        refine ⟨fun z hz hn=>?_,fun z hz y hy hn=>?_,?_,?_⟩
        · rcases List.mem_append.1 hz with e|e
          · exact od10.row z e hn
          · simp only [List.mem_singleton] at e
            subst e
            exact hr10 hn
        · rcases List.mem_append.1 hz with e|e
          · exact od10.arg z e y hy hn
          · simp only [List.mem_singleton] at e
            subst e
            exact ⟨(hdar y hy hn).1,a.up _ _ (hdar y hy hn).2⟩
        · rw [List.pairwise_append]
          refine ⟨od9.sep,List.pairwise_singleton _ _,fun y hy z hz hyn hzn=>?_⟩
          simp only [List.mem_singleton] at hz
          subst hz
          have hn0:b.ins.length≠0:=fun e=>hzn (hde.2 e)
          have h1:=hbl (od.row y hy hyn).2
          have h2:=(hr hn0).2.2.1
          show y.r < r
          omega
        · rw [List.flatMap_append]
          simpa using hsep
      · show f.blocks.length - (i+1) < f.blocks.length - i
        omega
  · have hii:i=f.blocks.length:=by omega
    have hds':sL dn=f.blocks:=by rw [hds,hii,List.take_length]
    have hRn:R.drop i=[]:=List.drop_eq_nil_of_le (by rw [g2];omega)
    rw [hRn,List.append_nil] at hO
    obtain ⟨oldB,hF9,hRb9,hA1,hA2⟩:=(hFX _).1 hfx
    have hF9n:=sB.dom _ _ hF9
    have hRb9n:=sB.dom _ _ hRb9
    have hFF:∀ X,(B.set fb X).m fb=some X:=fun X=>by show (if fb=fb then _ else _)=_;rw [if_pos rfl]
    have hRR:∀ X,(B.set fb X).m rb=some ⟨⟨cellsV (.agg ⟨funcC ⟨⟨#[]⟩,0,0,0,[],[]⟩ none 0 none 0 none 0⟩)⟩,35⟩:=fun X=>by
      show (if rb=fb then _ else B.m rb)=_
      rw [if_neg (fun e=>hfr e.symm)];exact hRb9
    repeat (first|((with_reducible apply RS.storeB);(iterate 3 exact rfl);exact hF9;exact hF9n;exact hFw;exact Nat.le_of_ble_eq_true rfl;(iterate 2 exact rfl);exact (show setL (funcC f A1' c1' A2' c2' (some ⟨b3,o3,none⟩) c3) (0+5) [.slice (some ⟨bb,0,none⟩) f.blocks.length (capOf 9)]=funcC f A1' c1' A2' c2' (some ⟨bb,0,none⟩) (capOf 9) from rfl))|((with_reducible apply RS.loadNB);(iterate 3 exact rfl);exact hFF _;exact hF9n;exact Nat.le_of_ble_eq_true rfl;exact rfl)|((with_reducible apply RS.storeB);(iterate 3 exact rfl);exact hRR _;exact hRb9n;exact hRw;exact Nat.le_of_ble_eq_true rfl;iterate 3 exact rfl)|((with_reducible first|apply RS.move|apply RS.fieldAddr);iterate 3 exact rfl)|((with_reducible apply RS.cmpF);(iterate 4 exact rfl);(simp only [cmpN];omega))|((with_reducible apply RS.nil);exact mixed;kernel_rfl)|(with_reducible first|apply W.seq|apply W.exit|apply W.ret|apply thenK_n|apply thenK_e|apply roundN_e)|((with_reducible apply W.reg);kernel_rfl)|((with_reducible apply W.condF);kernel_rfl;exact rfl)|((with_reducible apply blockK_hit);exact rfl))
    have keepZ:∀ (X Y:Blk) {j:Nat} {x:Blk},B.m j=some x→x.elem≠35→((B.set fb X).set rb Y).m j=some x:=by
      intro X Y j x hx he
      show (if j=rb then _ else (if j=fb then _ else B.m j))=_
      rw [if_neg (ne_of_elem hx hRb9 he),if_neg (ne_of_elem hx hF9 he)]
      exact hx
    refine endsK_ret _ (.cons (.baseN (vs:=funcC f A1' c1' A2' c2' (some ⟨bb,0,none⟩) (capOf 9)) rfl (by show (if rb=rb then _ else _)=_;rw [if_pos rfl]) (Nat.le_of_ble_eq_true rfl) rfl) .nil) fun B' a=>⟨A1',c1',A2',c2',bb,dn,rfl,a.up _ _ (keepZ _ _ hO (by simp)),hbbn,?_,hds',?_,?_,?_⟩
    · exact ⟨fun z hz hn=>⟨(od.row z hz hn).1,a.up _ _ (keepZ _ _ (od.row z hz hn).2 (by simp))⟩,fun z hz y hy hn=>⟨(od.arg z hz y hy hn).1,a.up _ _ (keepZ _ _ (od.arg z hz y hy hn).2 (by simp))⟩,od.sep,od.sepA⟩
    · exact ((oldB.off.same (S:=fun j=>h.n≤j) ((OffS.set B fb _).mono fun j _ e=>by rw [e];exact hfb)).same ((OffS.set _ rb _).mono fun j _ e=>by rw [e];exact hrb)).same a.oldH.off |>.old fun j hj e=>by omega
    · by_cases hn:sec=[]
      · exact .inl hn
      obtain ⟨r,q1,q2,q3⟩:=hA1 (by rw [← hsec];exact fun e=>hn (List.length_eq_zero_iff.1 e))
      exact .inr ⟨r,q1,q2,a.up _ _ (keepZ _ _ (by rw [q3,slat_map hS hcp1 hn fun _ _ h=>h]) (by simp))⟩
    · by_cases hn:f.slots=[]
      · exact .inl hn
      obtain ⟨r,q1,q2,q3⟩:=hA2 (fun e=>hn (List.length_eq_zero_iff.1 e))
      exact .inr ⟨r,q1,q2,a.up _ _ (keepZ _ _ (by rw [q3,slat_map hL hcp2 hn fun _ _ h=>h]) (by simp))⟩
end Go.Proofs.Ytjhloakacicdiaa
namespace Go.Proofs.Ytjhloakacicdiaa
open Go.AH
attribute [local irreducible] W RS
def setV (L:Nat) (a:Nat):Value:=.slice (some ⟨a,0,none⟩) L L
structure SetsAt (h:Hp) (N ib:Nat) (al:List Nat) (ss:List SetS) (L:Nat):Prop where
  m:h.m ib=some ⟨⟨al.map (setV L)⟩,38⟩
  len:al.length=ss.length
  pt:∀ (i a:Nat) (s:SetS),al[i]?=some a→ss[i]?=some s→h.m a=some ⟨⟨setC s⟩,78⟩∧s.length=L∧N≤a
theorem rep_nil (n:Nat):repL (cellsV (.slice none 0 0)) n=List.replicate n (.slice none 0 0):=by
  induction n with
  | zero=>rfl
  | succ n ih=>rw [repL,ih,List.replicate_succ];rfl
theorem cells_set1 (l:List Value) (i:Nat) (v:Value):setL l (0+i * 1) [v]=l.set i v:=by
  rw [setL_cons,setL_nil,Nat.zero_add,Nat.mul_one]
def partV (L n:Nat) (al:List Nat):List Value:=al.map (setV L)++List.replicate (n - al.length) (.slice none 0 0)
structure Fill (h:Hp) (N ib ob n L:Nat) (E:SetS) (ai ao:List Nat) (B:Hp):Prop where
  old:Old h B
  mi:B.m ib=some ⟨⟨partV L n ai⟩,38⟩
  mo:B.m ob=some ⟨⟨partV L n ao⟩,38⟩
  pt:∀ a∈ai++ao,B.m a=some ⟨⟨setC E⟩,78⟩∧N≤a
  nd:(ai++ao).Nodup
def muS (s:SetS):Nat:=(s.map fun w=>2 ^ 64 - w.toNat).sum
def muL (l:List SetS):Nat:=(l.map muS).sum
end Go.Proofs.Ytjhloakacicdiaa
namespace Go.Proofs.Ytjhloakacicdiaa
open Go.AH
attribute [local irreducible] W RS
structure LiveAt (h:Hp) (ib ob:Nat) (ai ao:List Nat) (L:Nat) (ins outs:List SetS) (B:Hp):Prop where
  old:Old h B
  i:SetsAt B h.n ib ai ins L
  o:SetsAt B h.n ob ao outs L
end Go.Proofs.Ytjhloakacicdiaa
namespace Go.Proofs.Ytjhloakacicdiaa
open Go.AH
attribute [local irreducible] W RS
end Go.Proofs.Ytjhloakacicdiaa
namespace Go.AH
variable {P:Program}
section
variable {ops:Array Oper} {draw:Bool} {rs:List Rk} {l:List Oper} {fl:List (Nat × Value)} {nt:Nat} {h:SH} {K:Fr→SH→Prop} {d:Tmp} {ty:TypeId} {pos:String} {af:Array Edge} {gd:Option (Nat × Bool)}
end
end Go.AH
namespace Go.Proofs.Ytjhloakacicdiaa
open Go.AH
attribute [local irreducible] W RS
def swapL {α:Type} (l:List α) (i j:Nat):List α:=match l[i]?,l[j]? with
  | some a,some b=>(l.set i b).set j a
  | _,_=>l
def revK {α:Type} (l:List α):Nat→List α
  | 0=>l
  | k+1=>swapL (revK l k) k (l.length - 1 - k)
structure OnI (h:Hp) (bb:Nat) (bv:List BV) (fb:Nat) (f:FuncS) (A1:Option Addr) (c1:Nat) (A2:Option Addr) (c2 c3 rb ob:Nat) (ao:List Nat) (L N:Nat) (outs:List SetS) (i:Nat) (bw:List BV) (B:Hp):Prop where
  own:OwnB B bb bw
  fm:B.m fb=some ⟨⟨funcC f A1 c1 A2 c2 (some ⟨bb,0,none⟩) c3⟩,35⟩
  rm:B.m rb=some ⟨⟨cellsV (.agg ⟨funcC ⟨⟨#[]⟩,0,0,0,[],[]⟩ none 0 none 0 none 0⟩)⟩,35⟩
  off:OffS (fun j=>j=bb) h B
  so:SetsAt B N ob ao outs L
  len:bw.length=bv.length
  rest:∀ j,i≤j→bw[j]?=bv[j]?
  new:∀ b∈bw.take i,b.ins≠[]→h.n≤b.r
  pl:(sL bw).take i=(onceL (sL bv) outs).take i
  sub:∀ b'∈bw,∀ x∈b'.ins,∃ b∈bv,x∈b.ins
end Go.Proofs.Ytjhloakacicdiaa
namespace Go.Proofs.Ytjhloakacicdiaa
open Go.AH
attribute [local irreducible] W RS
end Go.Proofs.Ytjhloakacicdiaa
namespace Go.Proofs.Ytjhloakacicdiaa
open Go.AH
attribute [local irreducible] W RS
def LessL (bl bl':List BlockS):Prop:=bl'.length=bl.length∧∀ (i:Nat) (b b':BlockS),bl[i]?=some b→bl'[i]?=some b'→b'.term=b.term∧b'.ins.Sublist b.ins
structure OkL (regs:Int) (bl:List BlockS):Prop where
  pos:0 < bl.length
  len:bl.length≤100000
  r0:0≤regs
  r1:regs≤1000000
  tgt:tgtOK bl
  size:sizeS bl≤1000000
  fit:∀ b∈bl,∀ x∈b.ins,x.args.length≤1000000∧fitI x.dst∧∀ a∈readsS x,fitI a.reg
  tfit:∀ b∈bl,∀ a∈treadsS b.term,fitI a.reg
theorem sizeS_le {bl:List BlockS} {b:BlockS} (h:b∈bl):b.ins.length≤sizeS bl:=by
  induction bl with
  | nil=>cases h
  | cons c bl ih =>
    unfold sizeS at ih ⊢
    simp only [List.map_cons,List.sum_cons]
    rcases List.mem_cons.1 h with e|e
    · subst e;omega
    · have:=ih e;omega
end Go.Proofs.Ytjhloakacicdiaa
namespace Go.Proofs.Ytjhloakacicdiaa
open Go.AH
attribute [local irreducible] W RS
end Go.Proofs.Ytjhloakacicdiaa
namespace Go.Proofs.Ytjhloakacicdiaa
open Go.AH
attribute [local irreducible] W RS
def funcRS (h:Hp) (cs:List Value) (f:FuncS):Prop:=∃ A1 c1 A2 c2 A3 c3 sec,cs=funcC f A1 c1 A2 c2 A3 c3∧sec.length=f.secret∧SlAt h A1 1 sec boolR∧SlAt h A2 1 f.slots intR∧SlAt h A3 9 f.blocks (blockR h)
theorem funcRS_mono {h H:Hp} (hm:∀ i b,h.m i=some b→H.m i=some b) {cs:List Value} {f:FuncS} (r:funcRS h cs f):funcRS H cs f:=by
  obtain ⟨A1,c1,A2,c2,A3,c3,sec,e,h0,s,t,u⟩:=r
  exact ⟨A1,c1,A2,c2,A3,c3,sec,e,h0,s.mono hm fun _ _ h=>h,t.mono hm fun _ _ h=>h,u.mono hm fun _ _ h=>blockR_mono hm h⟩
theorem funcRS.r {h:Hp} {cs:List Value} {f:FuncS} (r:funcRS h cs f):funcR h cs f:=by
  obtain ⟨A1,c1,A2,c2,A3,c3,sec,e,h0,s,t,u⟩:=r
  exact ⟨A1,c1,A2,c2,A3,c3,e,t,u⟩
theorem funcRS.len {h:Hp} {cs:List Value} {f:FuncS} (r:funcRS h cs f):cs.length=6:=by
  obtain ⟨A1,c1,A2,c2,A3,c3,sec,e,_⟩:=r
  rw [e];rfl
structure CopyOK (f:FuncS):Prop where
  pos:0 < f.blocks.length
  sec:f.secret≤1000000
  slots:f.slots.length≤1000000
  len:f.blocks.length≤100000
  ins:∀ b∈f.blocks,b.ins.length≤1000000
  args:∀ b∈f.blocks,∀ x∈b.ins,x.args.length≤1000000
def cutE (h:Hp):Hp where
  m i:=match h.m i with
    | some b=>if b.elem=35∨b.elem=25 then none else some b
    | none=>none
  n:=h.n
theorem cutE_get {h:Hp} {i:Nat} {b:Blk} (hb:(cutE h).m i=some b):h.m i=some b∧b.elem≠35∧b.elem≠25:=by
  unfold cutE at hb
  simp only at hb
  cases hm:h.m i with
  | none=>rw [hm] at hb;cases hb
  | some c =>
    rw [hm] at hb
    simp only at hb
    split at hb
    · cases hb
    · rename_i hn
      injection hb with hb
      subst hb
      rw [not_or] at hn
      exact ⟨rfl,hn⟩
theorem cutE_in {h:Hp} {i:Nat} {b:Blk} (hb:h.m i=some b) (h1:b.elem≠35) (h2:b.elem≠25):(cutE h).m i=some b:=by
  unfold cutE
  simp only [hb]
  rw [if_neg (by rw [not_or];exact ⟨h1,h2⟩)]
theorem cutE_mono {h H:Hp} (hm:∀ i b,h.m i=some b→b.elem≠35→b.elem≠25→H.m i=some b):∀ i b,(cutE h).m i=some b→(cutE H).m i=some b:=fun i b hb=>by
  obtain ⟨h1,h2,h3⟩:=cutE_get hb
  exact cutE_in (hm i b h1 h2 h3) h2 h3
theorem cutE_le {h:Hp}:∀ i b,(cutE h).m i=some b→h.m i=some b:=fun _ _ hb=>(cutE_get hb).1
theorem OwnB.cut {h:Hp} {bb:Nat} {bv:List BV} (o:OwnB h bb bv):OwnB (cutE h) bb bv :=
  ⟨o.rw,cutE_in o.m (by simp) (by simp),fun b hb hn=>⟨(o.row b hb hn).1,cutE_in (o.row b hb hn).2 (by simp) (by simp)⟩,fun b hb x hx hn=>⟨(o.arg b hb x hx hn).1,cutE_in (o.arg b hb x hx hn).2 (by simp) (by simp)⟩,o.sep⟩
def TurnEX (g:FuncId) (K:FuncS→Prop) (R:FuncS→FuncS→Prop):Prop:=∀ (B:Hp) (N bb:Nat) (bv:List BV) (f:FuncS) (A1:Option Addr) (c1:Nat) (A2:Option Addr) (c2:Nat) (sec:List Bool),K f→sec.length=f.secret→rwM≤N→N≤bb→B.m bb=some ⟨⟨(bv.map BV.c).flatten⟩,47⟩→OwnD B N bv→sL bv=f.blocks→RowE B N 4 A1 sec .bool→RowE B N 3 A2 f.slots (.int .i64) →
  EX Try.prog g [.agg ⟨funcC f A1 c1 A2 c2 (some ⟨bb,0,none⟩) (capOf 9)⟩] B (fun v h'=>∃ f' cs,v=.agg ⟨cs⟩∧funcRS (cutE h') cs f'∧R f f'∧OffS (fun i=>N≤i) B h')
theorem Absb.part {P:Program} {B B2 H B':Hp} {π:Nat→Nat} {k:Nat} {l l2:List (Nat × Option Blk)} {k2:Nat} (hden:(⟨B,π,k,l⟩:SH).den=H) (hn:B2.n=B.n) (hk:k≤k2) (hl:∀ i,i < k→lookB l2 i=lookB l i) (a:Absb (P:=P) ⟨B2,π,k2,l2⟩ B'):∀ i b,B.n≤i→H.m i=some b→B'.m i=some b:=by
  intro i b hi hb
  rw [← hden] at hb
  simp only [SH.den] at hb
  rw [if_neg (by omega)] at hb
  cases hx:idx π k i with
  | none=>rw [hx] at hb;cases hb
  | some j =>
    rw [hx] at hb
    obtain ⟨g1,g2⟩:=idx_some hx
    have:B'.m (π j)=lookB l2 j:=a.loc j (show j < k2 by omega)
    rw [g2] at this
    rw [this,hl j g1];exact hb
structure EachI (h:Hp) (ob:Nat) (p:ProgS) (A2:Option Addr) (c2:Nat) (R:FuncS→FuncS→Prop) (i r:Nat) (L:List (List Value)) (fs:List FuncS) (B:Hp):Prop where
  le:i≤p.funcs.length
  old:Old h B
  o:B.m ob=some ⟨⟨[rowVl 6 r L,.slice A2 p.globals.length c2,.int .i64 p.data,.int .i64 p.main]⟩,25⟩
  row:L≠[]→h.n≤r∧B.m r=some ⟨⟨L.flatten⟩,35⟩
  len:L.length=i
  flen:fs.length=i
  at_:∀ (j:Nat) (c:List Value) (f':FuncS),L[j]?=some c→fs[j]?=some f'→funcRS (cutE B) c f'
  rel:∀ (j:Nat) (f f':FuncS),p.funcs[j]?=some f→fs[j]?=some f'→R f f'
theorem EachI.up {h:Hp} {ob:Nat} {p:ProgS} {A2:Option Addr} {c2:Nat} {R:FuncS→FuncS→Prop} {i r:Nat} {L:List (List Value)} {fs:List FuncS} {B B':Hp} (s:EachI h ob p A2 c2 R i r L fs B) (hd:∀ i x,B.m i=some x→i < B.n) (o:Old B B'):EachI h ob p A2 c2 R i r L fs B' :=
  ⟨s.le,s.old.trans o,o.up hd _ _ s.o,fun hn=>⟨(s.row hn).1,o.up hd _ _ (s.row hn).2⟩,s.len,s.flen,fun j c f' h1 h2=>funcRS_mono (cutE_mono fun i b hb _ _=>o.up hd i b hb) (s.at_ j c f' h1 h2),s.rel⟩
theorem EachI.wid {h:Hp} {ob:Nat} {p:ProgS} {A2:Option Addr} {c2:Nat} {R:FuncS→FuncS→Prop} {i r:Nat} {L:List (List Value)} {fs:List FuncS} {B:Hp} (s:EachI h ob p A2 c2 R i r L fs B):∀ c∈L,c.length=6:=by
  intro c hc
  obtain ⟨j,hj⟩:=List.mem_iff_getElem?.1 hc
  have hl:=(List.getElem?_eq_some_iff.1 hj).1
  have hll:=s.len
  have hfl:=s.flen
  obtain ⟨f',hf⟩:∃ f',fs[j]?=some f':=⟨_,List.getElem?_eq_getElem (by omega)⟩
  exact (s.at_ j c f' hj hf).len
theorem each_close {h C B2 H7 B':Hp} {ob:Nat} {p:ProgS} {A2:Option Addr} {c2:Nat} {R:FuncS→FuncS→Prop} {i r k7:Nat} {L:List (List Value)} {fs:List FuncS} {π2:Nat→Nat} {l7:List (Nat × Option Blk)} {y:Option Blk} {f f':FuncS} {cs:List Value}
    (hIC:EachI h ob p A2 c2 R i r L fs C) (hdC:∀ i x,C.m i=some x→i < C.n) (hob:h.n≤ob) (hf:p.funcs[i]?=some f) (hden7:(⟨C,π2,k7,l7⟩:SH).den=H7) (hF7:funcRS (cutE H7) cs f') (hRf:R f f') (hn:B2.n=C.n)
    (ho:B2.m ob=some ⟨⟨[rowVl 6 (π2 (k7+1)) (L++[cs]),.slice A2 p.globals.length c2,.int .i64 p.data,.int .i64 p.main]⟩,25⟩) (hB2:∀ j,j≠ob→(L≠[]→j≠r)→B2.m j=C.m j)
    (a:Absb (P:=Try.prog) ⟨B2,π2,k7+1+1,(k7+1,some ⟨⟨(L++[cs]).flatten⟩,35⟩)::(k7,y)::l7⟩ B'):EachI h ob p A2 c2 R (i+1) (π2 (k7+1)) (L++[cs]) (fs++[f']) B':=by
  have hil:=(List.getElem?_eq_some_iff.1 hf).1
  have hle:B2.n≤B'.n:=a.le
  have hCo:=hdC _ _ hIC.o
  have keep:∀ i b,C.m i=some b→b.elem≠35→b.elem≠25→B'.m i=some b:=by
    intro j b hb h1 h2
    have hj:=hdC j b hb
    have:B'.m j=B2.m j:=a.old j (show j < B2.n by omega)
    rw [this,hB2 j (ne_of_elem hb hIC.o h2) fun hn=>ne_of_elem hb (hIC.row hn).2 h1]
    exact hb
  have hold:=hIC.old.1
  refine ⟨hil,⟨by omega,fun j hj=>?_⟩,?_,fun _=>⟨?_,?_⟩,by simp [hIC.len],by simp [hIC.flen],fun j c g h1 h2=>?_,fun j x g h1 h2=>?_⟩
  · have:B'.m j=B2.m j:=a.old j (show j < B2.n by omega)
    rw [this,hB2 j (by omega) fun hn=>by have:=(hIC.row hn).1;omega]
    exact hIC.old.2 j hj
  · have:B'.m ob=B2.m ob:=a.old ob (show ob < B2.n by omega)
    rw [this];exact ho
  · have:B2.n≤π2 (k7+1):=a.lo (k7+1) (show k7+1 < k7+1+1 by omega)
    omega
  · have:B'.m (π2 (k7+1))=lookB ((k7+1,some ⟨⟨(L++[cs]).flatten⟩,35⟩)::(k7,y)::l7) (k7+1):=a.loc (k7+1) (show k7+1 < k7+1+1 by omega)
    rw [this,look_cons,if_pos rfl]
  · have hll:=hIC.len
    have hfl:=hIC.flen
    by_cases hj:j < L.length
    · rw [List.getElem?_append_left hj] at h1
      rw [List.getElem?_append_left (by omega)] at h2
      exact funcRS_mono (cutE_mono keep) (hIC.at_ j c g h1 h2)
    · have hjl:j < (L++[cs]).length:=(List.getElem?_eq_some_iff.1 h1).1
      have hje:j=L.length:=by simp at hjl;omega
      rw [List.getElem?_append_right (by omega),hje,Nat.sub_self] at h1
      rw [List.getElem?_append_right (by omega),show j - fs.length=0 by omega] at h2
      simp only [List.getElem?_cons_zero,Option.some.injEq] at h1 h2
      subst h1;subst h2
      refine funcRS_mono (cutE_mono fun q b hb e1 e2=>?_) hF7
      by_cases hq:q < C.n
      · refine keep q b ?_ e1 e2
        rw [← hden7] at hb
        simp only [SH.den] at hb
        rw [if_pos hq] at hb
        exact hb
      · refine Absb.part hden7 hn (show k7≤k7+1+1 by omega) (fun z hz=>?_) a q b (by omega) hb
        rw [look_cons,if_neg (show ¬ k7+1=z by omega),look_cons,if_neg (show ¬ k7=z by omega)]
  · have hfl:=hIC.flen
    by_cases hj:j < fs.length
    · rw [List.getElem?_append_left hj] at h2
      exact hIC.rel j x g h1 h2
    · have hjl:j < (fs++[f']).length:=(List.getElem?_eq_some_iff.1 h2).1
      have hje:j=fs.length:=by simp at hjl;omega
      rw [List.getElem?_append_right (by omega),hje,Nat.sub_self] at h2
      rw [hje,hfl,hf] at h1
      simp only [List.getElem?_cons_zero,Option.some.injEq] at h1 h2
      subst h1;subst h2
      exact hRf
theorem lookHd (k:Nat) (b:Option Blk) (l:List (Nat × Option Blk)):lookB ((k,b)::l) k=b:=by rw [look_cons,if_pos rfl]
set_option maxRecDepth 100000 in
theorem each_ex (g:FuncId) [hgf:GF Try.prog g] (K:FuncS→Prop) (R:FuncS→FuncS→Prop) (ht:TurnEX g K R) (p:ProgS) (hK:∀ f∈p.funcs,K f∧CopyOK f) (hn:p.funcs.length≤100000) (h:Hp) (pb:Nat) (e:TypeId) (A1:Option Addr) (c1:Nat) (A2:Option Addr) (c2:Nat) (hP:h.m pb=some ⟨⟨progC p A1 c1 A2 c2⟩,e⟩) (hs:SlAt h A1 6 p.funcs (funcRS h)) :
    EX Try.prog 37 [.pointer (some ⟨pb,0,none⟩),.func (.func g) #[] #[]] h (fun v h'=>∃ ob A c fs,v=.pointer (some ⟨ob,0,none⟩)∧h'.m ob=some ⟨⟨progC { p with funcs:=fs } A c A2 c2⟩,25⟩∧SlAt h' A 6 fs (funcRS h')∧fs.length=p.funcs.length∧(∀ (i:Nat) (f f':FuncS),p.funcs[i]?=some f→fs[i]?=some f'→R f f')∧Old h h'∧h.n≤ob):=by
  refine EX.intro (fn:=Try.f37) (c:=(Try.f37.body.getD .skip)) Try.func37 (by kernel_rfl) Try.ntmps37 (by kernel_rfl) fun π s0=>?_
  conv=>arg 2;whnf
  have hd:=s0.dom
  have hPn:=hd _ _ hP
  ((with_reducible apply W.seq);repeat (first|((with_reducible apply RS.assign);iterate 3 exact rfl)|((with_reducible apply RS.nil);exact mixed;kernel_rfl)|((with_reducible apply W.reg);kernel_rfl)|(with_reducible apply thenK_n)))
  ((with_reducible apply W.seq);repeat (fail))
  ((with_reducible apply W.seq);repeat (first|((with_reducible apply RS.eqPtrNil);iterate 4 exact rfl)|((with_reducible apply RS.move);iterate 3 exact rfl)|((with_reducible apply RS.nil);exact mixed;kernel_rfl)|((with_reducible apply W.reg);kernel_rfl)|(with_reducible first|apply W.skip|apply thenK_n)|((with_reducible apply W.condF);kernel_rfl;exact rfl)))
  ((with_reducible apply W.seq);repeat (first|((with_reducible apply RS.loadNB);(iterate 3 exact rfl);exact hP;exact hPn;exact Nat.le_of_ble_eq_true rfl;exact rfl)|((with_reducible first|apply RS.nilCheck|apply RS.move);iterate 3 exact rfl)|((with_reducible apply RS.store);(iterate 5 exact rfl);exact Nat.le_of_ble_eq_true rfl;iterate 3 exact rfl)|((with_reducible apply RS.alloc);iterate 2 exact rfl)|((with_reducible apply RS.nil);exact mixed;kernel_rfl)|((with_reducible apply W.reg);kernel_rfl)|(with_reducible apply thenK_n)))
  ((with_reducible apply W.seq);repeat (first|((with_reducible apply RS.fieldAddr);iterate 3 exact rfl)|((with_reducible apply RS.store);(iterate 5 exact rfl);exact Nat.le_of_ble_eq_true rfl;iterate 3 exact rfl)|((with_reducible apply RS.nil);exact mixed;kernel_rfl)|((with_reducible apply W.reg);kernel_rfl)|(with_reducible apply thenK_n)))
  refine W.absorbX fun B0 π0 a0=>?_
  have hO0:B0.m (π 0)=some ⟨⟨[.slice none 0 0,.slice A2 p.globals.length c2,.int .i64 p.data,.int .i64 p.main]⟩,25⟩:=a0.loc 0 (Nat.lt_succ_self 0)
  have hob:h.n≤π 0:=a0.lo 0 (Nat.lt_succ_self 0)
  generalize π 0=ob at *
  have hobr:rwM≤ob:=Nat.le_trans s0.rw hob
  replace hP:=a0.up _ _ hP
  replace hPn:=a0.dom _ _ hP
  ((with_reducible apply W.seq);repeat (fail))
  ((with_reducible apply W.seq);repeat (first|((with_reducible apply RS.load1B);(iterate 3 exact rfl);exact hP;exact hPn;exact rfl)|((with_reducible first|apply RS.nilCheck|apply RS.move|apply RS.lenSl|apply RS.fieldAddr);iterate 3 exact rfl)|((with_reducible apply RS.nil);exact mixed;kernel_rfl)|((with_reducible apply W.reg);kernel_rfl)|(with_reducible first|apply W.block|apply thenK_n)))
  refine W.loopN (X:=Nat × Nat × List (List Value) × List FuncS) (fun x=>[(1,.func (.func g) #[] #[]),(5,.pointer (some ⟨ob,0,none⟩)),(17,.slice A1 p.funcs.length c1),(18,.int .i64 (p.funcs.length:Int)),(19,.int .i64 (x.1:Int))])
    (fun x B=>EachI h ob p A2 c2 R x.1 x.2.1 x.2.2.1 x.2.2.2 B) (fun x=>p.funcs.length - x.1)
    (fun B' a=>⟨(0,0,[],[]),?_,⟨Nat.zero_le _,a0.oldH.trans a.oldH,a.up _ _ hO0,fun hn=>absurd rfl hn,rfl,rfl,(fun j c f' h=>by simp at h),(fun j f f' _ h=>by simp at h)⟩⟩) ?_
  · (repeat' (first|exact trivial|exact rfl|apply And.intro));done
  rintro ⟨i,r,L,fs⟩ B π1 sB hI
  dsimp only at hI ⊢
  have hi:=hI.le
  have hO:=hI.o
  have hOn:=sB.dom _ _ hO
  by_cases hlt:i < p.funcs.length
  · obtain ⟨f,hf⟩:∃ f,p.funcs[i]?=some f:=⟨_,List.getElem?_eq_getElem hlt⟩
    obtain ⟨hKf,hC⟩:=hK f (List.mem_of_getElem? hf)
    obtain ⟨gb,go,gcs,ge,rfl,hG0,hGl,hGr⟩:=hs.get i f hf
    have hG:=hI.old.up hd _ _ hG0
    have hGn:=sB.dom _ _ hG
    obtain ⟨B1,d1,B2,d2,B3,d3,sec,hGv,hsec,hsS,hsL,hsB⟩:=hGr
    have hsS:=hsS.mono (hI.old.up hd) fun _ _ h=>h
    have hsL:=hsL.mono (hI.old.up hd) fun _ _ h=>h
    have hsB:=hsB.mono (hI.old.up hd) fun _ _ h=>blockR_mono (hI.old.up hd) h
    ((with_reducible apply W.seq);repeat (first|((with_reducible apply RS.cmpT);(iterate 4 exact rfl);(simp only [cmpP];omega))|((with_reducible apply RS.nil);exact mixed;kernel_rfl)|((with_reducible apply W.reg);kernel_rfl)|(with_reducible apply thenK_n)))
    ((with_reducible apply W.seq);repeat (first|(with_reducible first|apply W.skip|apply thenK_n)|((with_reducible apply W.condT);kernel_rfl;exact rfl)))
    ((with_reducible apply W.seq);repeat (first|(with_reducible apply W.block)))
    ((with_reducible apply W.seq);((with_reducible apply W.reg);kernel_rfl);repeat (first|((with_reducible apply RS.indexAddrS);(iterate 5 exact rfl);omega)|((with_reducible apply RS.loadNB);(iterate 3 exact rfl);exact hG;exact hGn;exact hGl;exact hGv)|((with_reducible apply RS.store);(iterate 5 exact rfl);exact Nat.le_of_ble_eq_true rfl;iterate 3 exact rfl)|((with_reducible apply RS.alloc);iterate 2 exact rfl)|((with_reducible apply RS.nil);exact mixed;kernel_rfl)));(with_reducible apply thenK_n)
    refine W.absorbX fun C π2 a2=>?_
    have hq:C.m (π1 0)=some ⟨⟨funcC f B1 d1 B2 d2 B3 d3⟩,35⟩:=a2.loc 0 (Nat.lt_succ_self 0)
    generalize π1 0=q at *
    have hqn:=a2.dom _ _ hq
    have hIC:=hI.up sB.dom a2.oldH
    have hOC:=hIC.o
    have hOCn:=a2.dom _ _ hOC
    replace hsS:=hsS.mono a2.up fun _ _ h=>h
    replace hsL:=hsL.mono a2.up fun _ _ h=>h
    replace hsB:=hsB.mono a2.up fun _ _ h=>blockR_mono a2.up h
    by_cases hLe:L=[]
    · subst hLe
      repeat (first|((with_reducible apply RS.load1X);(iterate 3 exact rfl);exact hOC;exact hOCn;exact rfl)|((with_reducible apply RS.loadNB);(iterate 3 exact rfl);exact hq;exact hqn;exact Nat.le_of_ble_eq_true rfl;exact rfl)|((with_reducible apply (RS.callY (g0:=10)));(iterate 4 exact rfl);intro B4 he4 hB4;refine ⟨_,copy_ex B4 f B1 d1 B2 d2 B3 d3 sec hsec (hsS.mono hB4.up fun _ _ h=>h) (hsL.mono hB4.up fun _ _ h=>h) (hsB.mono hB4.up fun _ _ h=>blockR_mono hB4.up h) hC.pos hC.sec hC.slots hC.len hC.ins hC.args,(fun v H' ⟨_,_,_,_,_,_,_,_,_,_,_,ho,_,_⟩ i hi=>ho.2 i (Nat.lt_of_lt_of_le hi hB4.le)),?_⟩;rintro v H5 k5 l5 ⟨A1',c1',A2',c2',bb,bv,rfl,hm5,hbb5,hod5,hsl5,ho5,hr1,hr2⟩ sH5 hle5 hden5 hwf5 hk5)|((with_reducible apply (RS.callY (g0:=g)));(iterate 4 exact rfl);intro B6 he6 hB6;rw [hden5] at he6;subst he6;refine ⟨_,ht H5 B4.n bb bv f A1' c1' A2' c2' sec hKf hsec (Nat.le_trans hB4.rw hB4.le) hbb5 hm5 hod5 hsl5 hr1 hr2,(fun v H' ⟨_,_,_,_,_,ho⟩ i hi=>ho.2 i (Nat.lt_of_lt_of_le hi hB6.le) (fun e=>absurd (Nat.le_trans hB4.le e) (Nat.not_le.2 hi))),?_⟩;rintro v H7 k7 l7 ⟨f',cs,rfl,⟨E1,e1,E2,e2,E3,e3,sec',rfl,hF7b⟩,hRf,ho7⟩ sH7 hle7 hden7 hwf7 hk7;have hF7:funcRS (cutE H7) (funcC f' E1 e1 E2 e2 E3 e3) f':=⟨E1,e1,E2,e2,E3,e3,sec',rfl,hF7b⟩)|((with_reducible apply RS.buildSlice);iterate 8 exact rfl)|((with_reducible apply RS.appendNil);(iterate 6 exact rfl);exact blt_iff.2 (Nat.lt_succ_self _);exact lookHd _ _ _;exact Nat.le_of_ble_eq_true rfl;exact Nat.zero_lt_one;decide;decide)|((with_reducible apply (RS.nilP mixed [(1,2),(0,2),(2,3),(1,3),(0,3),(2,4),(1,4),(0,4),(1,5),(0,5),(1,6),(0,6)]));kernel_rfl;(repeat (refine ⟨fun x y hx hy=>(by obtain rfl:=Option.some.inj hx;obtain rfl:=Option.some.inj hy;exact pairR_free rfl rfl rfl rfl rfl rfl rfl (Nat.zero_le _) rfl),?_⟩));exact trivial;exact rfl)|((with_reducible apply RS.storeB);(iterate 3 exact rfl);exact hOC;exact hOCn;exact hobr;exact Nat.le_of_ble_eq_true rfl;iterate 3 exact rfl)|((with_reducible first|apply RS.move|apply RS.fieldAddr);iterate 3 exact rfl)|((with_reducible apply RS.add1);(iterate 4 exact rfl);omega)|((with_reducible apply RS.nil);exact mixed;kernel_rfl)|((with_reducible apply W.reg);kernel_rfl)|(with_reducible first|apply thenK_n|apply blockK_n))
      refine roundN_n rfl fun B' a=>⟨(i+1,π2 (k7+1),[funcC f' E1 e1 E2 e2 E3 e3],fs++[f']),?_,?_,?_⟩
      · (repeat' (first|exact trivial|exact rfl|apply And.intro));done
      · refine each_close hIC a2.dom hob hf hden7 hF7 hRf (by rfl) (by show (if ob=ob then _ else _)=_;rw [if_pos rfl];rfl) (fun j hj _=>by show (if j=ob then _ else C.m j)=_;rw [if_neg hj]) a
      · show p.funcs.length - (i+1) < p.funcs.length - i
        omega
    · have hrv:=rowVl_ne (sz:=6) (r:=r) hLe
      rw [hrv] at hOC
      obtain ⟨hrh,hrC⟩:=hIC.row hLe
      have hrCn:=a2.dom _ _ hrC
      have hrCw:rwM≤r:=Nat.le_trans s0.rw hrh
      have hLl:L.flatten.length=L.length * 6:=flat_len hI.wid
      have hLi:=hI.len
      have hrob:ob≠r:=ne_of_elem hOC hrC (by simp)
      have hOCk:(C.kill r).m ob=some ⟨⟨[.slice (some ⟨r,0,none⟩) L.length (capOf 6),.slice A2 p.globals.length c2,.int .i64 p.data,.int .i64 p.main]⟩,25⟩:=by
        show (if ob=r then none else C.m ob)=_
        rw [if_neg hrob];exact hOC
      repeat (first|((with_reducible apply RS.load1X);(iterate 3 exact rfl);exact hOC;exact hOCn;exact rfl)|((with_reducible apply RS.loadNB);(iterate 3 exact rfl);exact hq;exact hqn;exact Nat.le_of_ble_eq_true rfl;exact rfl)|((with_reducible apply (RS.callY (g0:=10)));(iterate 4 exact rfl);intro B4 he4 hB4;refine ⟨_,copy_ex B4 f B1 d1 B2 d2 B3 d3 sec hsec (hsS.mono hB4.up fun _ _ h=>h) (hsL.mono hB4.up fun _ _ h=>h) (hsB.mono hB4.up fun _ _ h=>blockR_mono hB4.up h) hC.pos hC.sec hC.slots hC.len hC.ins hC.args,(fun v H' ⟨_,_,_,_,_,_,_,_,_,_,_,ho,_,_⟩ i hi=>ho.2 i (Nat.lt_of_lt_of_le hi hB4.le)),?_⟩;rintro v H5 k5 l5 ⟨A1',c1',A2',c2',bb,bv,rfl,hm5,hbb5,hod5,hsl5,ho5,hr1,hr2⟩ sH5 hle5 hden5 hwf5 hk5)|((with_reducible apply (RS.callY (g0:=g)));(iterate 4 exact rfl);intro B6 he6 hB6;rw [hden5] at he6;subst he6;refine ⟨_,ht H5 B4.n bb bv f A1' c1' A2' c2' sec hKf hsec (Nat.le_trans hB4.rw hB4.le) hbb5 hm5 hod5 hsl5 hr1 hr2,(fun v H' ⟨_,_,_,_,_,ho⟩ i hi=>ho.2 i (Nat.lt_of_lt_of_le hi hB6.le) (fun e=>absurd (Nat.le_trans hB4.le e) (Nat.not_le.2 hi))),?_⟩;rintro v H7 k7 l7 ⟨f',cs,rfl,⟨E1,e1,E2,e2,E3,e3,sec',rfl,hF7b⟩,hRf,ho7⟩ sH7 hle7 hden7 hwf7 hk7;have hF7:funcRS (cutE H7) (funcC f' E1 e1 E2 e2 E3 e3) f':=⟨E1,e1,E2,e2,E3,e3,sec',rfl,hF7b⟩)|((with_reducible apply RS.buildSlice);iterate 8 exact rfl)|((with_reducible apply RS.growL);(iterate 6 exact rfl);exact hrC;exact hrCn;exact hrCw;exact hLl;exact Nat.lt_succ_self _;exact lookHd _ _ _;(iterate 2 exact rfl);omega;omega)|((with_reducible apply (RS.nilP mixed [(1,2),(0,2),(2,3),(1,3),(0,3),(2,4),(1,4),(0,4),(1,5),(0,5),(1,6),(0,6)]));kernel_rfl;(repeat (refine ⟨fun x y hx hy=>(by obtain rfl:=Option.some.inj hx;obtain rfl:=Option.some.inj hy;exact pairR_free rfl rfl rfl rfl rfl rfl rfl (Nat.zero_le _) rfl),?_⟩));exact trivial;exact rfl)|((with_reducible apply RS.storeB);(iterate 3 exact rfl);exact hOCk;exact hOCn;exact hobr;exact Nat.le_of_ble_eq_true rfl;iterate 3 exact rfl)|((with_reducible first|apply RS.move|apply RS.fieldAddr);iterate 3 exact rfl)|((with_reducible apply RS.add1);(iterate 4 exact rfl);omega)|((with_reducible apply RS.nil);exact mixed;kernel_rfl)|((with_reducible apply W.reg);kernel_rfl)|(with_reducible first|apply thenK_n|apply blockK_n))
      have hrv2:rowVl 6 (π2 (k7+1)) (L++[funcC f' E1 e1 E2 e2 E3 e3])=.slice (some ⟨π2 (k7+1),0,none⟩) (L.length+1) (capOf 6):=by rw [rowVl_ne (by simp)];simp
      have hfl2:(L++[funcC f' E1 e1 E2 e2 E3 e3]).flatten=L.flatten++funcC f' E1 e1 E2 e2 E3 e3:=by simp
      refine roundN_n rfl fun B' a=>⟨(i+1,π2 (k7+1),L++[funcC f' E1 e1 E2 e2 E3 e3],fs++[f']),?_,?_,?_⟩
      · (repeat' (first|exact trivial|exact rfl|apply And.intro));done
      · refine each_close (L:=L) (B2:=(C.kill r).set ob ⟨⟨[.slice (some ⟨π2 (k7+1),0,none⟩) (L.length+1) (capOf 6),.slice A2 p.globals.length c2,.int .i64 p.data,.int .i64 p.main]⟩,25⟩) hIC a2.dom hob hf hden7 hF7 hRf (by rfl) (by rw [hrv2];show (if ob=ob then _ else _)=_;rw [if_pos rfl]) (fun j hj hjr=>by show (if j=ob then _ else (if j=r then none else C.m j))=_;rw [if_neg hj,if_neg (hjr hLe)]) (by rw [hfl2];exact a)
      · show p.funcs.length - (i+1) < p.funcs.length - i
        omega
  · have hii:i=p.funcs.length:=by omega
    have hll:=hI.len
    have hfl:=hI.flen
    obtain ⟨A,hA⟩:∃ A:Option Addr,A=if L=[] then none else some ⟨r,0,none⟩:=⟨_,rfl⟩
    obtain ⟨c,hc⟩:∃ c:Nat,c=if L=[] then 0 else capOf 6:=⟨_,rfl⟩
    rw [rowVl_eq,← hA,← hc,show L.length=fs.length by omega] at hO
    repeat (first|((with_reducible apply RS.assign);iterate 3 exact rfl)|((with_reducible apply RS.cmpF);(iterate 4 exact rfl);(simp only [cmpN];omega))|((with_reducible apply RS.nil);exact mixed;kernel_rfl)|(with_reducible first|apply W.seq|apply W.exit|apply W.ret|apply thenK_n|apply thenK_e|apply roundN_e)|((with_reducible apply W.reg);kernel_rfl)|((with_reducible apply W.condF);kernel_rfl;exact rfl)|((with_reducible apply blockK_hit);exact rfl))
    refine endsK_ret _ (.cons (.tmp rfl) .nil) fun B' a=>⟨ob,A,c,fs,rfl,a.up _ _ hO,⟨fun j f' hf'=>?_⟩,by omega,hI.rel,hI.old.trans a.oldH,hob⟩
    have hj:=(List.getElem?_eq_some_iff.1 hf').1
    obtain ⟨cs,hcs⟩:∃ cs,L[j]?=some cs:=⟨_,List.getElem?_eq_getElem (by omega)⟩
    have hne:L≠[]:=by intro e;rw [e] at hcs;simp at hcs
    rw [if_neg hne] at hA
    obtain ⟨t1,t2⟩:=flat_take hI.wid hcs
    refine ⟨r,0,L.flatten,35,hA,a.up _ _ (hI.row hne).2,by omega,?_⟩
    rw [Nat.zero_add,t1]
    exact funcRS_mono (fun i b hb=>a.up _ _ (cutE_le i b hb)) (hI.at_ j cs f' hcs hf')
end Go.Proofs.Ytjhloakacicdiaa
namespace Go.Proofs.Ytjhloakacicdiaa
open Go.AH
attribute [local irreducible] W RS
def lightG (g:GlobS):Bool:=decide (g.place≤4096) && decide (g.size≤4096) && decide (g.parts.length≤50) && g.parts.all (fun x=>decide (x.data.length≤4096))
def lightI:List InsS→Nat→Option Nat
  | [],n=>some n
  | x::l,n=>if n+x.args.length≤4000∧-1073741824≤x.off∧x.off≤1073741824 then lightI l (n+x.args.length) else none
def lightB:List BlockS→Nat→Option Nat
  | [],n=>some n
  | b::l,n=>if n+b.ins.length≤2000 then (lightI b.ins (n+b.ins.length)).bind (lightB l) else none
def lightS (f:FuncS):Bool:=f.slots.all (fun s=>decide (0≤s) && decide (s≤1000) && decide (f.slots.length≤4))
def lightF:List FuncS→Nat→Option Nat
  | [],n=>some n
  | f::l,n=>if n+(1+f.blocks.length+f.slots.length)≤2000∧0≤f.regs∧f.regs≤300∧lightS f=true then (lightB f.blocks (n+(1+f.blocks.length+f.slots.length))).bind (lightF l) else none
def lightP (p:ProgS):Bool:=decide (p.funcs.length≤20) && decide (p.globals.length≤20) && decide (0≤p.data) && decide (p.data≤4096) && p.globals.all lightG && (lightF p.funcs 0).isSome
theorem drop_get {α:Type} {l:List α} {i:Nat} {x:α} (h:l[i]?=some x):l.drop i=x::l.drop (i+1):=by
  have hlt:=(List.getElem?_eq_some_iff.1 h).1
  rw [List.drop_eq_getElem_cons hlt]
  rw [List.getElem?_eq_getElem hlt] at h
  injection h with h
  rw [h]
theorem lightP_of {p:ProgS} (h1:p.funcs.length≤20) (h2:p.globals.length≤20) (h3:0≤p.data) (h4:p.data≤4096) (h5:p.globals.all lightG=true):lightP p=(lightF p.funcs 0).isSome:=by
  unfold lightP
  simp [h1,h2,h3,h4,h5]
set_option maxHeartbeats 2000000 in
set_option maxRecDepth 100000 in
theorem Light_tf (p:ProgS) (hok:p.ok) (h:Hp) (P1:Option Addr) (d1:Nat) (P2:Option Addr) (d2:Nat) (hfs:SlAt h P1 6 p.funcs (funcR h)) (hgs:SlAt h P2 4 p.globals (globR h)) :
    TF Try.prog 14 ⟨[.agg ⟨progC p P1 d1 P2 d2⟩]⟩ h (.bool (lightP p)) h:=by
  refine TF.dom fun hd=>?_
  have hnf:=hok.nfuncs
  have hng:=hok.nglobs
  refine TF.still (fn:=Try.f14) (c:=(Try.f14.body.getD .skip)) Try.func14 (by kernel_rfl) Try.ntmps14 (by kernel_rfl) (by simp) ?_
  conv=>arg 2;whnf
  repeat' (first|((with_reducible first|apply RS.move|apply RS.assign|apply RS.lenSl|apply RS.fieldAddr|apply RS.box);iterate 3 exact rfl)|((with_reducible apply RS.pickT);iterate 4 exact rfl)|((with_reducible apply RS.pickF);iterate 4 exact rfl)|((with_reducible apply RS.cmpC);iterate 5 exact rfl)|((with_reducible apply RS.load1);iterate 6 exact rfl)|((with_reducible apply RS.skip);iterate 2 exact rfl)|((with_reducible apply RS.nil);exact mixed;kernel_rfl)|(with_reducible first|apply W.seq|apply W.block|apply W.ret|apply W.skip|apply thenK_n|apply thenK_r)|((with_reducible apply W.reg);kernel_rfl)|((with_reducible apply W.condT);kernel_rfl;exact rfl)|(((with_reducible apply RS.splitD);iterate 2 exact rfl)<;>intro _)|((((with_reducible apply RS.splitG);iterate 2 exact rfl)<;>intro _)<;>(fail_if_success cases ‹true=false›)<;>(fail_if_success cases ‹false=true›))|(((with_reducible apply W.condD);exact rfl)<;>intro _)|((((with_reducible apply W.cond);exact rfl)<;>intro _)<;>(fail_if_success cases ‹true=false›)<;>(fail_if_success cases ‹false=true›)))
  rotate_left 4
  · rename_i u1 u2 u3 u4
    have hhead:p.globals.all lightG=true→lightP p=(lightF p.funcs 0).isSome:=fun hz=>lightP_of (by omega) (by omega) (by omega) (by omega) hz
    have hgno:p.globals.all lightG=false→lightP p=false:=fun hz=>by unfold lightP;rw [hz];simp
    refine W.loop (X:=Nat) (fun π i=>[(1,.pointer (some ⟨π 0,0,none⟩)),(3,.int .i64 0),(37,.slice P2 p.globals.length d2),(38,.int .i64 p.globals.length),(39,.int .i64 i)]) (fun _=>h) (fun π i=>[(0,some ⟨⟨progC p P1 d1 P2 d2⟩,25⟩)]) (fun i=>i≤p.globals.length∧p.globals.all lightG=(p.globals.drop i).all lightG) (fun i=>p.globals.length - i) [0] 0 ⟨Nat.zero_le _,rfl⟩ (by (refine FitL.mk ?_ ?_ ?_ ?_<;>(repeat' (first|exact trivial|exact rfl|apply And.intro));done)) ?_
    intro π i hI
    obtain ⟨hi,hI⟩:=hI
    dsimp only at hi hI ⊢
    by_cases hlt:i < p.globals.length
    · obtain ⟨g,hg⟩:∃ g,p.globals[i]?=some g:=⟨_,List.getElem?_eq_getElem hlt⟩
      obtain ⟨gb,go,gcs,ge,rfl,hG,hGl,hGv⟩:=hgs.get i g hg
      have hGn:=hd _ _ hG
      obtain ⟨A',c',hGv,hGs⟩:=hGv
      have hgm:=hok.globs g (List.mem_of_getElem? hg)
      have hgn:=hgm.nparts
      rw [all_drop hg] at hI
      have hgf:lightG g=false→lightP p=false:=fun hz=>hgno (by rw [hI,hz];rfl)
      repeat' (first|((with_reducible apply RS.indexAddrS);(iterate 5 exact rfl);omega)|((with_reducible apply RS.loadNB);(iterate 3 exact rfl);exact hG;exact hGn;exact hGl;exact hGv)|((with_reducible first|apply RS.move|apply RS.assign|apply RS.lenSl|apply RS.fieldAddr);iterate 3 exact rfl)|((with_reducible apply RS.pickT);iterate 4 exact rfl)|((with_reducible apply RS.pickF);iterate 4 exact rfl)|((with_reducible apply RS.cmpT);(iterate 4 exact rfl);(simp only [cmpP];omega))|((with_reducible apply RS.cmpC);iterate 5 exact rfl)|((with_reducible apply RS.load1);iterate 6 exact rfl)|((with_reducible apply RS.store);(iterate 5 exact rfl);exact Nat.le_of_ble_eq_true rfl;iterate 3 exact rfl)|((with_reducible apply RS.alloc);iterate 2 exact rfl)|((with_reducible apply RS.skip);iterate 2 exact rfl)|((with_reducible apply RS.nil);exact mixed;kernel_rfl)|(with_reducible first|apply W.seq|apply W.block|apply W.ret|apply W.skip|apply thenK_n|apply thenK_r|apply blockK_r|apply roundK_r)|((with_reducible apply W.reg);kernel_rfl)|((with_reducible apply W.condT);kernel_rfl;exact rfl)|(((with_reducible apply RS.splitD);iterate 2 exact rfl)<;>intro _)|((((with_reducible apply RS.splitG);iterate 2 exact rfl)<;>intro _)<;>(fail_if_success cases ‹true=false›)<;>(fail_if_success cases ‹false=true›))|(((with_reducible apply W.condD);exact rfl)<;>intro _)|((((with_reducible apply W.cond);exact rfl)<;>intro _)<;>(fail_if_success cases ‹true=false›)<;>(fail_if_success cases ‹false=true›)))
      rotate_left 3
      · rename_i v1 v2 v3
        have hgh:lightG g=g.parts.all (fun x=>decide (x.data.length≤4096)):=by
          unfold lightG
          rw [decide_eq_true (by omega:g.place≤4096),decide_eq_true (by omega:g.size≤4096),decide_eq_true (by omega:g.parts.length≤50)]
          simp
        refine W.loop (X:=Nat) (fun π j=>[(1,.pointer (some ⟨π 0,0,none⟩)),(3,.int .i64 0),(37,.slice (some ⟨gb,go,none⟩) p.globals.length d2),(38,.int .i64 p.globals.length),(39,.int .i64 i),(5,.pointer (some ⟨π 1,0,none⟩)),(58,.slice A' g.parts.length c'),(59,.int .i64 g.parts.length),(60,.int .i64 j)]) (fun _=>h) (fun π i=>[(1,some ⟨⟨globC g A' c'⟩,81⟩),(0,some ⟨⟨progC p P1 d1 (some ⟨gb,go,none⟩) d2⟩,25⟩)]) (fun j=>j≤g.parts.length∧g.parts.all (fun x=>decide (x.data.length≤4096))=(g.parts.drop j).all (fun x=>decide (x.data.length≤4096))) (fun j=>g.parts.length - j) [0,1] 0 ⟨Nat.zero_le _,rfl⟩ (by (refine FitL.mk ?_ ?_ ?_ ?_<;>(repeat' (first|exact trivial|exact rfl|apply And.intro));done)) ?_
        intro π j hJ
        obtain ⟨hj,hJ⟩:=hJ
        dsimp only at hj hJ ⊢
        by_cases hlj:j < g.parts.length
        · obtain ⟨x,hx⟩:∃ x,g.parts[j]?=some x:=⟨_,List.getElem?_eq_getElem hlj⟩
          obtain ⟨xb,xo,xcs,xe,rfl,hQ,hQl,hQv⟩:=hGs.get j x hx
          have hQn:=hd _ _ hQ
          obtain ⟨A'',c'',hQv,hQs⟩:=hQv
          have hxn:=(hgm.parts x (List.mem_of_getElem? hx)).ndata
          rw [all_drop hx] at hJ
          repeat' (first|((with_reducible apply RS.indexAddrS);(iterate 5 exact rfl);omega)|((with_reducible apply RS.loadNB);(iterate 3 exact rfl);exact hQ;exact hQn;exact hQl;exact hQv)|((with_reducible first|apply RS.move|apply RS.assign|apply RS.lenSl|apply RS.fieldAddr);iterate 3 exact rfl)|((with_reducible apply RS.cmpT);(iterate 4 exact rfl);(simp only [cmpP];omega))|((with_reducible apply RS.cmpC);iterate 5 exact rfl)|((with_reducible apply RS.add1);(iterate 4 exact rfl);omega)|((with_reducible apply RS.load1);iterate 6 exact rfl)|((with_reducible apply RS.store);(iterate 5 exact rfl);exact Nat.le_of_ble_eq_true rfl;iterate 3 exact rfl)|((with_reducible apply RS.alloc);iterate 2 exact rfl)|((with_reducible apply RS.nil);exact mixed;kernel_rfl)|(with_reducible first|apply W.seq|apply W.block|apply W.ret|apply W.skip|apply thenK_n|apply thenK_r|apply blockK_n|apply blockK_r|apply roundK_r)|((with_reducible apply W.reg);kernel_rfl)|((with_reducible apply W.condT);kernel_rfl;exact rfl)|(((with_reducible apply RS.splitD);iterate 2 exact rfl)<;>intro _)|((((with_reducible apply RS.splitG);iterate 2 exact rfl)<;>intro _)<;>(fail_if_success cases ‹true=false›)<;>(fail_if_success cases ‹false=true›))|(((with_reducible apply W.condD);exact rfl)<;>intro _)|((((with_reducible apply W.cond);exact rfl)<;>intro _)<;>(fail_if_success cases ‹true=false›)<;>(fail_if_success cases ‹false=true›)))
          · refine endsK_ret _ (.cons (.tmp rfl) .nil) ⟨rfl,?_⟩
            have hz:decide (x.data.length≤4096)=false:=by simp;omega
            rw [hz,Bool.false_and] at hJ
            rw [hgf (hgh.trans hJ)];rfl
          · have hz:decide (x.data.length≤4096)=true:=by simp;omega
            rw [hz,Bool.true_and] at hJ
            exact roundK_n (j+1) [0,1] rfl rfl ⟨by omega,hJ⟩ (by omega) (by (refine FitL.mk ?_ ?_ ?_ ?_<;>(repeat' (first|exact trivial|exact rfl|apply And.intro));done))
        · repeat (first|((with_reducible apply RS.move);iterate 3 exact rfl)|((with_reducible apply RS.cmpF);(iterate 4 exact rfl);(simp only [cmpN];omega))|((with_reducible apply RS.add1);(iterate 4 exact rfl);omega)|((with_reducible apply RS.nil);exact mixed;kernel_rfl)|(with_reducible first|apply W.seq|apply W.exit|apply thenK_n|apply thenK_e|apply blockK_n|apply roundK_e)|((with_reducible apply W.reg);kernel_rfl)|((with_reducible apply W.condF);kernel_rfl;exact rfl)|((with_reducible apply blockK_hit);exact rfl))
          rw [List.drop_eq_nil_of_le (by omega)] at hJ
          have hz:lightG g=true:=by rw [hgh,hJ];rfl
          rw [hz,Bool.true_and] at hI
          exact roundK_n (i+1) [0] rfl rfl ⟨by omega,hI⟩ (by omega) (by (refine FitL.mk ?_ ?_ ?_ ?_<;>(repeat' (first|exact trivial|exact rfl|apply And.intro));done))
      · refine endsK_ret _ (.cons (.tmp rfl) .nil) ⟨rfl,?_⟩
        rw [hgf (by unfold lightG;simp;omega)];rfl
      · refine endsK_ret _ (.cons (.tmp rfl) .nil) ⟨rfl,?_⟩
        rw [hgf (by unfold lightG;simp;omega)];rfl
      · refine endsK_ret _ (.cons (.tmp rfl) .nil) ⟨rfl,?_⟩
        rw [hgf (by unfold lightG;simp;omega)];rfl
    · repeat (first|((with_reducible first|apply RS.move|apply RS.lenSl|apply RS.fieldAddr);iterate 3 exact rfl)|((with_reducible apply RS.cmpF);(iterate 4 exact rfl);(simp only [cmpN];omega))|((with_reducible apply RS.load1);iterate 6 exact rfl)|((with_reducible apply RS.nil);exact mixed;kernel_rfl)|(with_reducible first|apply W.seq|apply W.block|apply W.exit|apply thenK_n|apply thenK_e|apply roundK_e)|((with_reducible apply W.reg);kernel_rfl)|((with_reducible apply W.condF);kernel_rfl;exact rfl)|((with_reducible apply blockK_hit);exact rfl))
      rw [List.drop_eq_nil_of_le (by omega)] at hI
      have hres:=hhead hI
      refine W.loop (X:=Nat × Nat) (fun π y=>[(1,.pointer (some ⟨π 0,0,none⟩)),(3,.int .i64 y.2),(71,.slice P1 p.funcs.length d1),(72,.int .i64 p.funcs.length),(73,.int .i64 y.1)]) (fun _=>h) (fun π i=>[(0,some ⟨⟨progC p P1 d1 P2 d2⟩,25⟩)]) (fun y=>y.1≤p.funcs.length∧y.2≤4000∧lightP p=(lightF (p.funcs.drop y.1) y.2).isSome) (fun y=>p.funcs.length - y.1) [0] (0,0) ⟨Nat.zero_le _,Nat.zero_le _,hres⟩ (by (refine FitL.mk ?_ ?_ ?_ ?_<;>(repeat' (first|exact trivial|exact rfl|apply And.intro));done)) ?_
      intro π y hI
      obtain ⟨i,n⟩:=y
      obtain ⟨hi,hn,hI⟩:=hI
      dsimp only at hi hn hI ⊢
      by_cases hlt:i < p.funcs.length
      · obtain ⟨f,hf⟩:∃ g,p.funcs[i]?=some g:=⟨_,List.getElem?_eq_getElem hlt⟩
        obtain ⟨fb,fo,fcs,fe,rfl,hF,hFl,hFv⟩:=hfs.get i f hf
        have hFn:=hd _ _ hF
        obtain ⟨F1,c1,F2,c2,F3,c3,hFv,hFsl,hFbl⟩:=hFv
        have hfm:=hok.funcs f (List.mem_of_getElem? hf)
        have hnb:=hfm.nblocks
        have hns:=hfm.nslots
        rw [drop_get hf] at hI
        repeat' (first|((with_reducible apply RS.indexAddrS);(iterate 5 exact rfl);omega)|((with_reducible apply RS.loadNB);(iterate 3 exact rfl);exact hF;exact hFn;exact hFl;exact hFv)|((with_reducible first|apply RS.move|apply RS.assign|apply RS.lenSl|apply RS.fieldAddr);iterate 3 exact rfl)|((with_reducible apply RS.pickT);iterate 4 exact rfl)|((with_reducible apply RS.pickF);iterate 4 exact rfl)|((with_reducible apply RS.cmpT);(iterate 4 exact rfl);(simp only [cmpP];omega))|((with_reducible apply RS.cmpC);iterate 5 exact rfl)|((with_reducible apply RS.binFit);(iterate 5 exact rfl);omega)|((with_reducible apply RS.load1);iterate 6 exact rfl)|((with_reducible apply RS.store);(iterate 5 exact rfl);exact Nat.le_of_ble_eq_true rfl;iterate 3 exact rfl)|((with_reducible apply RS.alloc);iterate 2 exact rfl)|((with_reducible apply RS.skip);iterate 2 exact rfl)|((with_reducible apply RS.nil);exact mixed;kernel_rfl)|(with_reducible first|apply W.seq|apply W.block|apply W.ret|apply W.skip|apply thenK_n|apply thenK_r|apply blockK_r|apply roundK_r)|((with_reducible apply W.reg);kernel_rfl)|((with_reducible apply W.condT);kernel_rfl;exact rfl)|(((with_reducible apply RS.splitD);iterate 2 exact rfl)<;>intro _)|((((with_reducible apply RS.splitG);iterate 2 exact rfl)<;>intro _)<;>(fail_if_success cases ‹true=false›)<;>(fail_if_success cases ‹false=true›))|(((with_reducible apply W.condD);exact rfl)<;>intro _)|((((with_reducible apply W.cond);exact rfl)<;>intro _)<;>(fail_if_success cases ‹true=false›)<;>(fail_if_success cases ‹false=true›)))
        rotate_left 3
        · rename_i w1 w2 w3
          have hm:n+(1+f.blocks.length+f.slots.length)≤2000:=by omega
          have hcv:(n:Int)+(1+(f.blocks.length:Int)+(f.slots.length:Int))=((n+(1+f.blocks.length+f.slots.length):Nat):Int):=by omega
          have hfy:lightS f=true→lightP p=((lightB f.blocks (n+(1+f.blocks.length+f.slots.length))).bind (lightF (p.funcs.drop (i+1)))).isSome:=fun hz=>by rw [hI];show (if _ then _ else _:Option Nat).isSome=_;rw [if_pos ⟨hm,by omega,by omega,hz⟩]
          have hfn:lightS f=false→lightP p=false:=fun hz=>by rw [hI];show (if _ then _ else _:Option Nat).isSome=_;rw [if_neg (fun hh=>by rw [hh.2.2.2] at hz;cases hz)];rfl
          rw [hcv]
          clear hI hcv
          generalize hM:n+(1+f.blocks.length+f.slots.length)=m at *
          refine W.loop (X:=Nat) (fun π j=>[(1,.pointer (some ⟨π 0,0,none⟩)),(3,.int .i64 m),(71,.slice (some ⟨fb,fo,none⟩) p.funcs.length d1),(72,.int .i64 p.funcs.length),(73,.int .i64 i),(9,.pointer (some ⟨π 1,0,none⟩)),(100,.slice F2 f.slots.length c2),(101,.int .i64 f.slots.length),(102,.int .i64 j)]) (fun _=>h) (fun π i=>[(1,some ⟨⟨funcC f F1 c1 F2 c2 F3 c3⟩,35⟩),(0,some ⟨⟨progC p (some ⟨fb,fo,none⟩) d1 P2 d2⟩,25⟩)]) (fun j=>j≤f.slots.length∧lightS f=(f.slots.drop j).all (fun s=>decide (0≤s) && decide (s≤1000) && decide (f.slots.length≤4))) (fun j=>f.slots.length - j) [0,1] 0 ⟨Nat.zero_le _,rfl⟩ (by (refine FitL.mk ?_ ?_ ?_ ?_<;>(repeat' (first|exact trivial|exact rfl|apply And.intro));done)) ?_
          intro π j hJ
          obtain ⟨hj,hJ⟩:=hJ
          dsimp only at hj hJ ⊢
          by_cases hlj:j < f.slots.length
          · obtain ⟨s,hs⟩:∃ x,f.slots[j]?=some x:=⟨_,List.getElem?_eq_getElem hlj⟩
            obtain ⟨zb,zo,zcs,ze,rfl,hZ,hZl,hZv⟩:=hFsl.get j s hs
            have hZn:=hd _ _ hZ
            have hZc:=take_nth (j:=0) hZv rfl
            rw [all_drop hs] at hJ
            repeat' (first|((with_reducible apply RS.indexAddrS);(iterate 5 exact rfl);omega)|((with_reducible apply RS.load1B);(iterate 3 exact rfl);exact hZ;exact hZn;exact hZc)|((with_reducible first|apply RS.move|apply RS.assign|apply RS.lenSl|apply RS.fieldAddr);iterate 3 exact rfl)|((with_reducible apply RS.pickT);iterate 4 exact rfl)|((with_reducible apply RS.pickF);iterate 4 exact rfl)|((with_reducible apply RS.cmpT);(iterate 4 exact rfl);(simp only [cmpP];omega))|((with_reducible apply RS.cmpC);iterate 5 exact rfl)|((with_reducible apply RS.add1);(iterate 4 exact rfl);omega)|((with_reducible apply RS.load1);iterate 6 exact rfl)|((with_reducible apply RS.skip);iterate 2 exact rfl)|((with_reducible apply RS.nil);exact mixed;kernel_rfl)|(with_reducible first|apply W.seq|apply W.block|apply W.ret|apply W.skip|apply thenK_n|apply thenK_r|apply blockK_n|apply blockK_r|apply roundK_r)|((with_reducible apply W.reg);kernel_rfl)|((with_reducible apply W.condT);kernel_rfl;exact rfl)|(((with_reducible apply RS.splitD);iterate 2 exact rfl)<;>intro _)|((((with_reducible apply RS.splitG);iterate 2 exact rfl)<;>intro _)<;>(fail_if_success cases ‹true=false›)<;>(fail_if_success cases ‹false=true›))|(((with_reducible apply W.condD);exact rfl)<;>intro _)|((((with_reducible apply W.cond);exact rfl)<;>intro _)<;>(fail_if_success cases ‹true=false›)<;>(fail_if_success cases ‹false=true›)))
            rotate_left 3
            · rw [show (decide (0≤s) && decide (s≤1000) && decide (f.slots.length≤4))=true by simp;omega,Bool.true_and] at hJ
              exact roundK_n (j+1) [0,1] rfl rfl ⟨by omega,hJ⟩ (by omega) (by (refine FitL.mk ?_ ?_ ?_ ?_<;>(repeat' (first|exact trivial|exact rfl|apply And.intro));done))
            all_goals refine endsK_ret _ (.cons (.tmp rfl) .nil) ⟨rfl,?_⟩
            all_goals rw [show (decide (0≤s) && decide (s≤1000) && decide (f.slots.length≤4))=false by simp;omega,Bool.false_and] at hJ
            all_goals rw [hfn hJ];rfl
          · repeat (first|((with_reducible first|apply RS.move|apply RS.lenSl|apply RS.fieldAddr);iterate 3 exact rfl)|((with_reducible apply RS.cmpF);(iterate 4 exact rfl);(simp only [cmpN];omega))|((with_reducible apply RS.load1);iterate 6 exact rfl)|((with_reducible apply RS.nil);exact mixed;kernel_rfl)|(with_reducible first|apply W.seq|apply W.block|apply W.exit|apply thenK_n|apply thenK_e|apply roundK_e)|((with_reducible apply W.reg);kernel_rfl)|((with_reducible apply W.condF);kernel_rfl;exact rfl)|((with_reducible apply blockK_hit);exact rfl))
            rw [List.drop_eq_nil_of_le (by omega)] at hJ
            refine W.loop (X:=Nat × Nat) (fun π y=>[(1,.pointer (some ⟨π 0,0,none⟩)),(3,.int .i64 y.2),(71,.slice (some ⟨fb,fo,none⟩) p.funcs.length d1),(72,.int .i64 p.funcs.length),(73,.int .i64 i),(9,.pointer (some ⟨π 1,0,none⟩)),(120,.slice F3 f.blocks.length c3),(121,.int .i64 f.blocks.length),(122,.int .i64 y.1)]) (fun _=>h) (fun π i=>[(1,some ⟨⟨funcC f F1 c1 F2 c2 F3 c3⟩,35⟩),(0,some ⟨⟨progC p (some ⟨fb,fo,none⟩) d1 P2 d2⟩,25⟩)]) (fun y=>y.1≤f.blocks.length∧y.2≤4000∧lightP p=((lightB (f.blocks.drop y.1) y.2).bind (lightF (p.funcs.drop (i+1)))).isSome) (fun y=>f.blocks.length - y.1) [0,1] (0,m) ⟨Nat.zero_le _,by omega,hfy hJ⟩ (by (refine FitL.mk ?_ ?_ ?_ ?_<;>(repeat' (first|exact trivial|exact rfl|apply And.intro));done)) ?_
            clear hj hJ hlj hfy hfn
            intro π y hJ
            obtain ⟨j,m⟩:=y
            obtain ⟨hj,hm4,hJ⟩:=hJ
            dsimp only at hj hm4 hJ ⊢
            by_cases hlj:j < f.blocks.length
            · obtain ⟨b,hb⟩:∃ b,f.blocks[j]?=some b:=⟨_,List.getElem?_eq_getElem hlj⟩
              obtain ⟨bb,bo,bcs,be,rfl,hB,hBl,hBv⟩:=hFbl.get j b hb
              have hBn:=hd _ _ hB
              obtain ⟨A',c',hBv,hBi⟩:=hBv
              have hbm:=hfm.blocks b (List.mem_of_getElem? hb)
              have hni:=hbm.n
              rw [drop_get hb] at hJ
              repeat' (first|((with_reducible apply RS.indexAddrS);(iterate 5 exact rfl);omega)|((with_reducible apply RS.loadNB);(iterate 3 exact rfl);exact hB;exact hBn;exact hBl;exact hBv)|((with_reducible first|apply RS.move|apply RS.assign|apply RS.lenSl|apply RS.fieldAddr);iterate 3 exact rfl)|((with_reducible apply RS.cmpT);(iterate 4 exact rfl);(simp only [cmpP];omega))|((with_reducible apply RS.cmpC);iterate 5 exact rfl)|((with_reducible apply RS.addNat);(iterate 4 exact rfl);omega)|((with_reducible apply RS.load1);iterate 6 exact rfl)|((with_reducible apply RS.store);(iterate 5 exact rfl);exact Nat.le_of_ble_eq_true rfl;iterate 3 exact rfl)|((with_reducible apply RS.alloc);iterate 2 exact rfl)|((with_reducible apply RS.nil);exact mixed;kernel_rfl)|(with_reducible first|apply W.seq|apply W.block|apply W.ret|apply W.skip|apply thenK_n|apply thenK_r|apply blockK_r|apply roundK_r)|((with_reducible apply W.reg);kernel_rfl)|((with_reducible apply W.condT);kernel_rfl;exact rfl)|(((with_reducible apply RS.splitD);iterate 2 exact rfl)<;>intro _)|((((with_reducible apply RS.splitG);iterate 2 exact rfl)<;>intro _)<;>(fail_if_success cases ‹true=false›)<;>(fail_if_success cases ‹false=true›))|(((with_reducible apply W.condD);exact rfl)<;>intro _)|((((with_reducible apply W.cond);exact rfl)<;>intro _)<;>(fail_if_success cases ‹true=false›)<;>(fail_if_success cases ‹false=true›)))
              · refine endsK_ret _ (.cons (.tmp rfl) .nil) ⟨rfl,?_⟩
                rw [show lightP p=false by rw [hJ];show (Option.bind (if _ then _ else _:Option Nat) _).isSome=_;rw [if_neg (fun hh=>by omega)];rfl];rfl
              · rename_i w4
                have hm2:m+b.ins.length≤2000:=by omega
                have hky:lightP p=(((lightI b.ins (m+b.ins.length)).bind (lightB (f.blocks.drop (j+1)))).bind (lightF (p.funcs.drop (i+1)))).isSome:=by rw [hJ];show (Option.bind (if _ then _ else _:Option Nat) _).isSome=_;rw [if_pos hm2]
                refine W.loop (X:=Nat × Nat) (fun π y=>[(1,.pointer (some ⟨π 0,0,none⟩)),(3,.int .i64 y.2),(71,.slice (some ⟨fb,fo,none⟩) p.funcs.length d1),(72,.int .i64 p.funcs.length),(73,.int .i64 i),(9,.pointer (some ⟨π 1,0,none⟩)),(120,.slice (some ⟨bb,bo,none⟩) f.blocks.length c3),(121,.int .i64 f.blocks.length),(122,.int .i64 j),(13,.pointer (some ⟨π 2,0,none⟩)),(134,.slice A' b.ins.length c'),(135,.int .i64 b.ins.length),(136,.int .i64 y.1)]) (fun _=>h) (fun π i=>[(2,some ⟨⟨blockC b A' c'⟩,47⟩),(1,some ⟨⟨funcC f F1 c1 F2 c2 (some ⟨bb,bo,none⟩) c3⟩,35⟩),(0,some ⟨⟨progC p (some ⟨fb,fo,none⟩) d1 P2 d2⟩,25⟩)]) (fun y=>y.1≤b.ins.length∧y.2≤4000∧lightP p=(((lightI (b.ins.drop y.1) y.2).bind (lightB (f.blocks.drop (j+1)))).bind (lightF (p.funcs.drop (i+1)))).isSome) (fun y=>b.ins.length - y.1) [0,1,2] (0,m+b.ins.length) ⟨Nat.zero_le _,by omega,hky⟩ (by (refine FitL.mk ?_ ?_ ?_ ?_<;>(repeat' (first|exact trivial|exact rfl|apply And.intro));done)) ?_
                clear hJ w4 hm2 hky hm4
                intro π y hK
                obtain ⟨k,m⟩:=y
                obtain ⟨hk,hm4,hK⟩:=hK
                dsimp only at hk hm4 hK ⊢
                by_cases hlk:k < b.ins.length
                · obtain ⟨x,hx⟩:∃ x,b.ins[k]?=some x:=⟨_,List.getElem?_eq_getElem hlk⟩
                  obtain ⟨xb,xo,xcs,xe,rfl,hX,hXl,hXv⟩:=hBi.get k x hx
                  have hXn:=hd _ _ hX
                  obtain ⟨A'',c'',hXv,hXs⟩:=hXv
                  have hxn:=(hbm.ins x (List.mem_of_getElem? hx)).n
                  rw [drop_get hx] at hK
                  repeat' (first|((with_reducible apply RS.indexAddrS);(iterate 5 exact rfl);omega)|((with_reducible apply RS.loadNB);(iterate 3 exact rfl);exact hX;exact hXn;exact hXl;exact hXv)|((with_reducible first|apply RS.move|apply RS.assign|apply RS.lenSl|apply RS.fieldAddr);iterate 3 exact rfl)|((with_reducible apply RS.pickT);iterate 4 exact rfl)|((with_reducible apply RS.pickF);iterate 4 exact rfl)|((with_reducible apply RS.cmpT);(iterate 4 exact rfl);(simp only [cmpP];omega))|((with_reducible apply RS.cmpC);iterate 5 exact rfl)|((with_reducible apply RS.add1);(iterate 4 exact rfl);omega)|((with_reducible apply RS.addNat);(iterate 4 exact rfl);omega)|((with_reducible apply RS.load1);iterate 6 exact rfl)|((with_reducible apply RS.store);(iterate 5 exact rfl);exact Nat.le_of_ble_eq_true rfl;iterate 3 exact rfl)|((with_reducible apply RS.alloc);iterate 2 exact rfl)|((with_reducible apply RS.skip);iterate 2 exact rfl)|((with_reducible apply RS.nil);exact mixed;kernel_rfl)|(with_reducible first|apply W.seq|apply W.block|apply W.ret|apply W.skip|apply thenK_n|apply thenK_r|apply blockK_n|apply blockK_r|apply roundK_r)|((with_reducible apply W.reg);kernel_rfl)|((with_reducible apply W.condT);kernel_rfl;exact rfl)|(((with_reducible apply RS.splitD);iterate 2 exact rfl)<;>intro _)|((((with_reducible apply RS.splitG);iterate 2 exact rfl)<;>intro _)<;>(fail_if_success cases ‹true=false›)<;>(fail_if_success cases ‹false=true›))|(((with_reducible apply W.condD);exact rfl)<;>intro _)|((((with_reducible apply W.cond);exact rfl)<;>intro _)<;>(fail_if_success cases ‹true=false›)<;>(fail_if_success cases ‹false=true›)))
                  rotate_left 3
                  · exact roundK_n (k+1,m+x.args.length) [0,1,2] rfl rfl ⟨by omega,by dsimp only;omega,hK.trans (by show (Option.bind (Option.bind (if _ then _ else _:Option Nat) _) _).isSome=_;rw [if_pos ⟨by omega,by omega,by omega⟩])⟩ (by omega) (by (refine FitL.mk ?_ ?_ ?_ ?_<;>(repeat' (first|exact trivial|exact rfl|apply And.intro));done))
                  all_goals refine endsK_ret _ (.cons (.tmp rfl) .nil) ⟨rfl,?_⟩
                  all_goals rw [show lightP p=false by rw [hK];show (Option.bind (Option.bind (if _ then _ else _:Option Nat) _) _).isSome=_;rw [if_neg (fun hh=>by omega)];rfl];rfl
                · repeat (first|((with_reducible apply RS.move);iterate 3 exact rfl)|((with_reducible apply RS.cmpF);(iterate 4 exact rfl);(simp only [cmpN];omega))|((with_reducible apply RS.add1);(iterate 4 exact rfl);omega)|((with_reducible apply RS.nil);exact mixed;kernel_rfl)|(with_reducible first|apply W.seq|apply W.exit|apply thenK_n|apply thenK_e|apply blockK_n|apply roundK_e)|((with_reducible apply W.reg);kernel_rfl)|((with_reducible apply W.condF);kernel_rfl;exact rfl)|((with_reducible apply blockK_hit);exact rfl))
                  rw [List.drop_eq_nil_of_le (by omega)] at hK
                  exact roundK_n (j+1,m) [0,1] rfl rfl ⟨by omega,hm4,hK⟩ (by omega) (by (refine FitL.mk ?_ ?_ ?_ ?_<;>(repeat' (first|exact trivial|exact rfl|apply And.intro));done))
            · repeat (first|((with_reducible apply RS.move);iterate 3 exact rfl)|((with_reducible apply RS.cmpF);(iterate 4 exact rfl);(simp only [cmpN];omega))|((with_reducible apply RS.add1);(iterate 4 exact rfl);omega)|((with_reducible apply RS.nil);exact mixed;kernel_rfl)|(with_reducible first|apply W.seq|apply W.exit|apply thenK_n|apply thenK_e|apply blockK_n|apply roundK_e)|((with_reducible apply W.reg);kernel_rfl)|((with_reducible apply W.condF);kernel_rfl;exact rfl)|((with_reducible apply blockK_hit);exact rfl))
              rw [List.drop_eq_nil_of_le (by omega)] at hJ
              exact roundK_n (i+1,m) [0] rfl rfl ⟨by omega,hm4,hJ⟩ (by omega) (by (refine FitL.mk ?_ ?_ ?_ ?_<;>(repeat' (first|exact trivial|exact rfl|apply And.intro));done))
        · refine endsK_ret _ (.cons (.tmp rfl) .nil) ⟨rfl,?_⟩
          rw [show lightP p=false by rw [hI];show (if _ then _ else _:Option Nat).isSome=_;rw [if_neg (fun hh=>by omega)];rfl];rfl
        · refine endsK_ret _ (.cons (.tmp rfl) .nil) ⟨rfl,?_⟩
          rw [show lightP p=false by rw [hI];show (if _ then _ else _:Option Nat).isSome=_;rw [if_neg (fun hh=>by omega)];rfl];rfl
        · refine endsK_ret _ (.cons (.tmp rfl) .nil) ⟨rfl,?_⟩
          rw [show lightP p=false by rw [hI];show (if _ then _ else _:Option Nat).isSome=_;rw [if_neg (fun hh=>by omega)];rfl];rfl
      · repeat (first|((with_reducible apply RS.assign);iterate 3 exact rfl)|((with_reducible apply RS.cmpF);(iterate 4 exact rfl);(simp only [cmpN];omega))|((with_reducible apply RS.nil);exact mixed;kernel_rfl)|(with_reducible first|apply W.seq|apply W.exit|apply W.ret|apply thenK_n|apply thenK_e|apply roundK_e)|((with_reducible apply W.reg);kernel_rfl)|((with_reducible apply W.condF);kernel_rfl;exact rfl)|((with_reducible apply blockK_hit);exact rfl))
        rw [List.drop_eq_nil_of_le (by omega)] at hI
        exact endsK_ret _ (.cons (.tmp rfl) .nil) ⟨rfl,by rw [hI];rfl⟩
  all_goals refine endsK_ret _ (.cons (.tmp rfl) .nil) ⟨rfl,?_⟩
  · rw [show lightP p=false by unfold lightP;simp;omega];rfl
  · rw [show lightP p=false by unfold lightP;simp;omega];rfl
  · rw [show lightP p=false by unfold lightP;simp;omega];rfl
  · rw [show lightP p=false by unfold lightP;simp;omega];rfl
end Go.Proofs.Ytjhloakacicdiaa
namespace Go.Proofs.Ytjhloakacicdiaa
open Go.AH
attribute [local irreducible] W RS
theorem lightI_le:∀ {l:List InsS} {n m:Nat},lightI l n=some m→n≤4000→n≤m∧m≤4000∧∀ x∈l,x.args.length≤4000:=by
  intro l
  induction l with
  | nil =>
    intro n m h hn
    simp only [lightI,Option.some.injEq] at h
    subst h
    exact ⟨Nat.le_refl _,hn,fun x hx=>by cases hx⟩
  | cons a l ih =>
    intro n m h hn
    rw [lightI] at h
    split at h
    · rename_i hc
      obtain ⟨h1,h2,h3⟩:=ih h (by omega)
      refine ⟨by omega,h2,fun x hx=>?_⟩
      rcases List.mem_cons.1 hx with rfl|hx
      · omega
      · exact h3 x hx
    · cases h
theorem lightB_le:∀ {l:List BlockS} {n m:Nat},lightB l n=some m→n≤4000→n+sizeS l≤m∧m≤4000∧∀ b∈l,∀ x∈b.ins,x.args.length≤4000:=by
  intro l
  induction l with
  | nil =>
    intro n m h hn
    simp only [lightB,Option.some.injEq] at h
    subst h
    exact ⟨Nat.le_refl _,hn,fun x hx=>by cases hx⟩
  | cons a l ih =>
    intro n m h hn
    rw [lightB] at h
    split at h
    · rename_i hc
      obtain ⟨k,h1,h2⟩:=Option.bind_eq_some_iff.1 h
      obtain ⟨i1,i2,i3⟩:=lightI_le h1 (by omega)
      obtain ⟨j1,j2,j3⟩:=ih h2 i2
      have e:sizeS (a::l)=a.ins.length+sizeS l:=by simp [sizeS]
      refine ⟨by omega,j2,fun b hb=>?_⟩
      rcases List.mem_cons.1 hb with rfl|hb
      · exact i3
      · exact j3 b hb
    · cases h
theorem lightF_le:∀ {l:List FuncS} {n m:Nat},lightF l n=some m→∀ f∈l,(0≤f.regs∧f.regs≤300)∧f.slots.length≤2000∧f.blocks.length≤2000∧sizeS f.blocks≤4000∧∀ b∈f.blocks,∀ x∈b.ins,x.args.length≤4000:=by
  intro l
  induction l with
  | nil=>intro n m _ f hf;cases hf
  | cons a l ih =>
    intro n m h f hf
    rw [lightF] at h
    split at h
    · rename_i hc
      obtain ⟨k,h1,h2⟩:=Option.bind_eq_some_iff.1 h
      rcases List.mem_cons.1 hf with rfl|hf
      · obtain ⟨j1,j2,j3⟩:=lightB_le h1 (by omega)
        exact ⟨⟨hc.2.1,hc.2.2.1⟩,by omega,by omega,by omega,j3⟩
      · exact ih h2 f hf
    · cases h
theorem tgt_of {f:FuncS} {b:BlockS} (h:endsS f b.term=true):∀ k∈nextS b.term,0≤k∧k < f.blocks.length:=by
  unfold endsS at h
  simp only [Bool.and_eq_true] at h
  intro k hk
  have:=List.all_eq_true.1 h.2 k hk
  simpa using this
structure LightF (p:ProgS) (f:FuncS):Prop where
  ok:OkL f.regs f.blocks
  cp:CopyOK f
theorem reads_fit {x:InsS} (h:x.ok):∀ a∈readsS x,fitI a.reg:=by
  intro a ha
  unfold readsS at ha
  have key:a=x.a∨a=x.b∨a∈x.args:=by
    repeat' split at ha
    all_goals try simp only [List.mem_cons,List.not_mem_nil,or_false] at ha
    all_goals first
      | exact .inr (.inr ha)
      | (rcases ha with ha | ha
         · exact .inl ha
         · first|exact .inr (.inr ha)|exact .inr (.inl ha))
      | exact ha.elim
      | exact .inl ha
  rcases key with rfl|rfl|h1
  · exact h.a.1
  · exact h.b.1
  · exact (h.args a h1).1
theorem treads_fit {t:TermS} (h:t.ok):∀ a∈treadsS t,fitI a.reg:=by
  intro a ha
  unfold treadsS at ha
  repeat' split at ha
  all_goals simp only [List.mem_cons,List.not_mem_nil,or_false] at ha
  · rcases ha with rfl|rfl
    · exact h.a.1
    · exact h.b.1
  · subst ha;exact h.a.1
theorem light_right {p:ProgS} (hok:p.ok) (hl:lightP p=true) (hr:rightP p=true):∀ f∈p.funcs,LightF p f:=by
  intro f hf
  unfold lightP at hl
  simp only [Bool.and_eq_true,decide_eq_true_eq] at hl
  obtain ⟨_,h6⟩:=hl
  obtain ⟨m,hm⟩:=Option.isSome_iff_exists.1 h6
  obtain ⟨⟨l1,l2⟩,l3,l4,l5,l6⟩:=lightF_le hm f hf
  unfold rightP at hr
  simp only [Bool.and_eq_true,decide_eq_true_eq] at hr
  have hrf:=List.all_eq_true.1 hr.2 f hf
  unfold funcOK at hrf
  simp only [Bool.and_eq_true,decide_eq_true_eq] at hrf
  obtain ⟨⟨⟨⟨⟨r1,r2⟩,r3⟩,r4⟩,r5⟩,r6⟩:=hrf
  have hfo:=hok.funcs f hf
  have htg:tgtOK f.blocks:=by
    intro b hb
    have:=List.all_eq_true.1 r6 b hb
    unfold blockOK at this
    simp only [Bool.and_eq_true] at this
    exact tgt_of this.2
  refine ⟨⟨r5,by omega,l1,by omega,htg,by omega,fun b hb x hx=>?_,fun b hb=>treads_fit ((hfo.blocks b hb).term)⟩,⟨r5,by omega,by omega,by omega,fun b hb=>?_,fun b hb x hx=>?_⟩⟩
  · have h1:=l6 b hb x hx
    have h2:=(hfo.blocks b hb).ins x hx
    exact ⟨by omega,h2.dst,reads_fit h2⟩
  · have:=sizeS_le hb
    omega
  · have h1:=l6 b hb x hx
    omega
def DeadR (f f':FuncS):Prop:=∃ bm,CodeS f.regs f.blocks bm∧f'={ f with blocks:=waysS bm }
end Go.Proofs.Ytjhloakacicdiaa
