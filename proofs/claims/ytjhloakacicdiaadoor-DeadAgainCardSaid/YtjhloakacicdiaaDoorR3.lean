/-
  What the functions that the law reaches compute,told by plain data;it holds of programs that pass the check of right form and are light.
-/
import Derived.Test.YtjhloakacicdiaaDoorR2
import Derived.Test.YtjhloakacicdiaaDoorS2
set_option linter.unusedVariables false
set_option linter.unusedSimpArgs false
namespace Go.Proofs.YtjhloakacicdiaaDoor
open Go.AH
attribute [local irreducible] W RS
theorem numN_tf (n:Int) (h:Hp):TF Tryd.prog 28 ⟨[.int .i64 n]⟩ h (.agg ⟨[.int .i64 (-1),.int .i64 n]⟩) h:=by
  refine TF.still (fn:=Tryd.f28) (c:=(Tryd.f28.body.getD .skip)) Tryd.func28 (by kernel_rfl) Tryd.ntmps28 (by kernel_rfl) (by simp) ?_
  conv=>arg 2;whnf
  repeat (first|((with_reducible apply RS.move);iterate 3 exact rfl)|((with_reducible apply RS.store);(iterate 5 exact rfl);exact Nat.le_of_ble_eq_true rfl;iterate 3 exact rfl)|((with_reducible apply RS.alloc);iterate 2 exact rfl)|((with_reducible apply RS.build);iterate 4 exact rfl)|((with_reducible apply RS.nil);exact mixed;kernel_rfl)|(with_reducible first|apply W.seq|apply W.ret|apply thenK_n)|((with_reducible apply W.reg);kernel_rfl))
  exact endsK_ret _ (.cons (.cellN rfl rfl rfl (Nat.le_of_ble_eq_true rfl)) .nil) ⟨rfl,rfl⟩
theorem melt_len {bl:List BlockS} {i:Nat} {k:Int}:(meltAt bl i k).length=bl.length:=by
  unfold meltAt
  split<;>simp
theorem melt_eq {bl:List BlockS} {i:Nat} {k:Int} {b o:BlockS} (hb:bl[i]?=some b) (ho:bl[k.toNat]?=some o):meltAt bl i k=(bl.set i ⟨b.ins++o.ins,o.term⟩).set k.toNat ⟨[],retT⟩:=by
  unfold meltAt;rw [hb,ho]
theorem melt_tgt {bl:List BlockS} (ht:tgtOK bl) {i:Nat} {k:Int} {b o:BlockS} (hb:bl[i]?=some b) (ho:bl[k.toNat]?=some o):tgtOK (meltAt bl i k):=by
  rw [melt_eq hb ho]
  have h1:=tgtOK_set ht (i:=i) (b:=⟨b.ins++o.ins,o.term⟩) (ht o (List.mem_of_getElem? ho))
  refine tgtOK_set h1 fun x hx=>?_
  have hx:x∈([]:List Int):=hx
  cases hx
theorem melt_jumps {bl:List BlockS} {i:Nat} {k:Int} {b o:BlockS} (hb:bl[i]?=some b) (ho:bl[k.toNat]?=some o) (hne:k.toNat≠i) (hk:b.term.kind=1):jumpsS (meltAt bl i k)+1=jumpsS bl:=by
  rw [melt_eq hb ho]
  unfold jumpsS
  have h1:=countP_set (p:=fun b:BlockS=>decide (b.term.kind=1)) (v:=⟨b.ins++o.ins,o.term⟩) hb
  have h2:=countP_set (p:=fun b:BlockS=>decide (b.term.kind=1)) (l:=bl.set i ⟨b.ins++o.ins,o.term⟩) (i:=k.toNat) (v:=⟨[],retT⟩) (w:=o) (by rw [List.getElem?_set,if_neg (fun e=>hne e.symm)];exact ho)
  have e1:decide (retT.kind=1)=false:=by decide
  simp only [hk,decide_true,if_true,e1,Bool.false_eq_true,if_false] at h1 h2
  omega
def blockA (b:BV):Value:=.agg ⟨rowVl 12 b.r b.ins::termC b.term⟩
theorem bv_term {bv:List BV} {i off:Nat} {b:BV} (hb:bv[i]?=some b) (ho:off=i * 9+1):takeV off 8 (bv.map BV.c).flatten=termC b.term∧off+8≤(bv.map BV.c).flatten.length :=
  bv_cells (o:=1) (n:=8) hb ho (by decide)
theorem bv_block {bv:List BV} {i off:Nat} {b:BV} (hb:bv[i]?=some b) (ho:off=i * 9):takeV off 9 (bv.map BV.c).flatten=blockC b.s b.A b.k∧off+9≤(bv.map BV.c).flatten.length:=by
  have:=bv_cells (o:=0) (n:=9) (off:=off) hb (by omega) (by decide)
  rw [BVc_eq] at this
  exact this
theorem rowVl_ne {α:Type} {sz r:Nat} {l:List α} (h:l≠[]):rowVl sz r l=.slice (some ⟨r,0,none⟩) l.length (capOf sz):=by
  cases l with
  | nil=>exact absurd rfl h
  | cons a l=>rfl
theorem ins_wid (l:List InsV):∀ c∈l.map insVC,c.length=12:=by intro c hc;obtain ⟨z,_,rfl⟩:=List.mem_map.1 hc;rfl
theorem ins_len (l:List InsV):(l.map insVC).flatten.length=l.length * 12:=by rw [flat_len (ins_wid l),List.length_map]
theorem ins_one (l:List InsV):(l.map insVC).flatten.all (·.oneCell')=true:=by
  rw [List.all_eq_true]
  intro v hv
  obtain ⟨c,hc,hvc⟩:=List.mem_flatten.1 hv
  obtain ⟨x,_,rfl⟩:=List.mem_map.1 hc
  unfold insVC at hvc
  have hr:(rowVl 2 x.2 x.1.args).oneCell'=true:=by cases x.1.args<;>rfl
  simp only [List.mem_cons,List.not_mem_nil,or_false] at hvc
  rcases hvc with h|h|h|h|h|h|h|h|h|h|h|h<;>subst h<;>first|rfl|exact hr
theorem ins_all (l:List InsV):takeV 0 (l.length * 12) (l.map insVC).flatten=(l.map insVC).flatten:=by
  rw [← ins_len];exact takeV_all _
theorem bv_put0 {bv:List BV} {i off:Nat} {b b':BV} {v:Value} (hb:bv[i]?=some b) (ho:off=i * 9) (hv:v=rowVl 12 b'.r b'.ins) (ht:b'.term=b.term):setL (bv.map BV.c).flatten off [v]=((bv.set i b').map BV.c).flatten:=by
  refine bv_write (o:=0) hb (by omega) (Nat.le_of_ble_eq_true rfl) ?_
  unfold BV.c
  rw [ht,hv]
  rfl
theorem bv_cell0 {bv:List BV} {i off:Nat} {b:BV} {v:Value} (hb:bv[i]?=some b) (ho:off=i * 9) (hv:rowVl 12 b.r b.ins=v):(bv.map BV.c).flatten[off]?=some v :=
  bv_cell (o:=0) hb (by omega) (by decide) (by rw [← hv];rfl)
theorem r8_close {h:Hp} {bb:Nat} {bv0:List BV} {fb:Nat} {f:FuncS} {A1:Option Addr} {c1:Nat} {A2:Option Addr} {c2 c3:Nat} {bw:List BV} {B B':Hp} (hJ:MeltI h bb bv0 fb f A1 c1 A2 c2 c3 bw B) (hd:∀ i x,B.m i=some x→i < B.n) {i g:Nat} {b o:BV} (hb:bw[i]?=some b) (ho:bw[g]?=some o) (hgi:g≠i) (r':Nat)
    (hm':B'.m bb=some ⟨⟨((bw.set i ⟨b.ins++o.ins,r',b.term⟩).map BV.c).flatten⟩,50⟩) (hn:B.n≤B'.n) (kn:∀ j,j < B.n→j≠bb→(b.ins≠[]→o.ins≠[]→j≠b.r)→B'.m j=B.m j)
    (hnew:b.ins++o.ins≠[]→rwM≤r'∧B'.m r'=some ⟨⟨((b.ins++o.ins).map insVC).flatten⟩,58⟩) (hr':b.ins++o.ins≠[]→(o.ins=[]∧r'=b.r)∨B.n≤r') :
    OwnB B' bb (bw.set i ⟨b.ins++o.ins,r',b.term⟩)∧OffS (Foot bb bv0) h B'∧(b.ins++o.ins≠[]→Foot bb bw r'∨h.n≤r'):=by
  have hbm:=List.mem_of_getElem? hb
  have hom:=List.mem_of_getElem? ho
  have hob:=hJ.ob
  have hbbn:=hd _ _ hob.m
  have foot:b.ins++o.ins≠[]→Foot bb bw r'∨h.n≤r':=by
    intro hne
    rcases hr' hne with ⟨h1,h2⟩|h1
    · rw [h1,List.append_nil] at hne
      exact .inl (.inr ⟨b,hbm,hne,h2.symm⟩)
    · exact .inr (Nat.le_trans hJ.off.1 h1)
  refine ⟨hob.setI hm' (fun j x hx he=>?_) (fun j x hx hji hxn=>?_) hnew (fun x hx hn=>?_) (fun j x hx hji hxn hbn=>?_),?_,foot⟩
  · have h1:j≠bb:=ne_of_elem hx hob.m (by rw [he];simp)
    rw [kn j (hd _ _ hx) h1 fun hbn _=>(ne_of_elem (hob.row b hbm hbn).2 hx (by rw [he];simp)).symm]
    exact hx
  · have hxm:=List.mem_of_getElem? hx
    have hrow:=(hob.row x hxm hxn).2
    refine kn x.r (hd _ _ hrow) (ne_of_elem hrow hob.m (by simp)) fun hbn _ e=>?_
    exact hji (hob.sep j i x b hx hb hxn hbn e)
  · rcases List.mem_append.1 hx with h1|h1
    · exact hob.arg b hbm x h1 hn
    · exact hob.arg o hom x h1 hn
  · have hxm:=List.mem_of_getElem? hx
    have hrow:=(hob.row x hxm hxn).2
    rcases hr' hbn with ⟨h1,h2⟩|h1
    · intro e
      have hbne:b.ins≠[]:=by
        intro e2
        apply hbn
        show b.ins++o.ins=[]
        rw [h1,e2];rfl
      have e:x.r=r':=e
      rw [h2] at e
      exact hji (hob.sep j i x b hx hb hxn hbne e)
    · have:=hd _ _ hrow
      show x.r≠r'
      omega
  · refine hJ.off.trans (T:=fun j=>j=bb∨(b.ins≠[]∧j=b.r)) ⟨hn,fun j hj hnn=>kn j hj (fun e=>hnn (.inl e)) fun hbn _ e=>hnn (.inr ⟨hbn,e⟩)⟩ fun j hj hT=>?_
    rcases hT with e|⟨hbn,e⟩
    · exact .inl e
    · rcases hJ.foot j (.inr ⟨b,hbm,hbn,e.symm⟩) with h1|h1
      · exact h1
      · omega
theorem OwnB.setH {h:Hp} {bb:Nat} {bv:List BV} (o:OwnB h bb bv) {A:Option Addr} {s s':SetS} (hs:SetAt h A s):OwnB (setH h A s') bb bv :=
  ⟨o.rw,setH_keep hs o.m (by simp),fun b hb hn=>⟨(o.row b hb hn).1,setH_keep hs (o.row b hb hn).2 (by simp)⟩,fun b hb x hx hn=>⟨(o.arg b hb x hx hn).1,setH_keep hs (o.arg b hb x hx hn).2 (by simp)⟩,o.sep⟩
theorem reachPush_len:∀ (l:List Int) (s:SetS) (w:List Int),(reachPush s w l).1.length=s.length:=by
  intro l
  induction l with
  | nil=>intro s w;rfl
  | cons k l ih =>
    intro s w
    unfold reachPush
    split
    · exact ih s w
    · rw [ih,putS_length]
theorem reachGo_len {bl:List BlockS}:∀ (m:Nat) (s:SetS) (w:List Int),(reachGo bl m s w).length=s.length:=by
  intro m
  induction m with
  | zero=>intro s w;rfl
  | succ m ih =>
    intro s w
    cases w with
    | nil=>rfl
    | cons n w=>rw [reachGo,ih,reachPush_len]
theorem reachedS_len (bl:List BlockS):(reachedS bl).length=(bl.length+63) / 64:=by
  unfold reachedS
  split
  · rename_i h;rw [h];rfl
  · rw [reachGo_len,putS_length,emptyS_length];omega
set_option maxRecDepth 100000 in
theorem join_ex (h:Hp) (bb:Nat) (bv0:List BV) (fb:Nat) (f:FuncS) (A1:Option Addr) (c1:Nat) (A2:Option Addr) (c2 c3:Nat) (hfl:f.blocks.length=bv0.length) (hpos:0 < bv0.length) (hlen:bv0.length≤100000)
    (hob:OwnB h bb bv0) (hfn:FunB h fb f A1 c1 A2 c2 bb c3) (htg:tgtOK (sL bv0)) (htot:totB bv0≤1000000) :
    EX Tryd.prog 52 [.pointer (some ⟨fb,0,none⟩)] h (fun _ h'=>∃ bv,MeltI h bb bv0 fb f A1 c1 A2 c2 c3 bv h'∧sL bv=meltS (sL bv0)):=by
  refine EX.intro (fn:=Tryd.f52) (c:=(Tryd.f52.body.getD .skip)) Tryd.func52 (by kernel_rfl) Tryd.ntmps52 (by kernel_rfl) fun π s0=>?_
  conv=>arg 2;whnf
  have hd:=s0.dom
  have hF:=hfn.m
  have hFn:=hd _ _ hF
  have hI0:MeltI h bb bv0 fb f A1 c1 A2 c2 c3 bv0 h:=⟨hob,hfn,OffS.refl _ _,fun i hi=>.inl hi,rfl,htg,htot⟩
  repeat (first|((with_reducible apply RS.load1B);(iterate 3 exact rfl);exact hF;exact hFn;exact rfl)|((with_reducible first|apply RS.nilCheck|apply RS.move|apply RS.lenSl|apply RS.fieldAddr);iterate 3 exact rfl)|((with_reducible apply RS.nil);exact mixed;kernel_rfl)|(with_reducible first|apply W.seq|apply W.block|apply thenK_n)|((with_reducible apply W.reg);kernel_rfl))
  refine W.loopN (X:=Nat × List BV) (fun x=>[(0,.pointer (some ⟨fb,0,none⟩)),(10,.int .i64 (f.blocks.length:Int)),(11,.int .i64 (x.1:Int))])
    (fun x B=>MeltI h bb bv0 fb f A1 c1 A2 c2 c3 x.2 B∧x.1≤bv0.length∧meltUp bv0.length (bv0.length - x.1) (sL x.2)=meltS (sL bv0)) (fun x=>bv0.length - x.1)
    (fun B' a=>⟨(0,bv0),?_,⟨hI0.up hd a.oldH,by simp,by show meltUp bv0.length bv0.length (sL bv0)=_;unfold meltS;rw [sL_length]⟩⟩) ?_
  · (repeat' (first|exact trivial|exact rfl|apply And.intro));done
  rintro ⟨i,bv⟩ B π sB ⟨hI,hi,hgo⟩
  dsimp only at hI hi hgo ⊢
  have hF:=hI.fn.m
  have hFn:=sB.dom _ _ hF
  have hfat:=hI.fn.at hI.ob (by rw [hI.len];exact hfl)
  have hvl:=hI.len
  by_cases hlt:i < bv0.length
  · have hif:fitI (i:Int):=by unfold fitI;omega
    have hne':sL bv≠[]:=by
      intro e
      have h0:(sL bv).length=0:=by rw [e];rfl
      rw [sL_length] at h0
      omega
    have hlen':(sL bv).length≤100000:=by rw [sL_length];omega
    have hrl:(reachedS (sL bv)).length≤1000000000:=by rw [reachedS_len];omega
    obtain ⟨m,hm⟩:∃ m,bv0.length - i=m+1:=⟨bv0.length - i - 1,by omega⟩
    have him:bv0.length - (m+1)=i:=by omega
    rw [hm,meltUp,him] at hgo
    have hmm:bv0.length - (i+1)=m:=by omega
    ((with_reducible apply W.seq);repeat (first|((with_reducible apply RS.cmpT);(iterate 4 exact rfl);(simp only [cmpP];omega))|((with_reducible apply RS.nil);exact mixed;kernel_rfl)|((with_reducible apply W.reg);kernel_rfl)|(with_reducible apply thenK_n)))
    ((with_reducible apply W.seq);repeat (first|(with_reducible first|apply W.skip|apply thenK_n)|((with_reducible apply W.condT);kernel_rfl;exact rfl)))
    ((with_reducible apply W.seq);repeat (first|(with_reducible apply W.block)))
    ((with_reducible apply W.seq);repeat (first|((with_reducible first|apply RS.move|apply RS.assign);iterate 3 exact rfl)|((with_reducible apply RS.nil);exact mixed;kernel_rfl)|((with_reducible apply W.reg);kernel_rfl)|(with_reducible apply thenK_n)))
    ((with_reducible apply W.seq);repeat (first|((with_reducible apply RS.callEx);(iterate 3 exact rfl);intro B1 hB1;refine ⟨_,reached_ex fb f.regs (some ⟨bb,0,none⟩) c3 (sL bv) hne' hlen' hI.tgt B1 (hfat.up hB1.up),?_⟩;rintro v H1 π1 ⟨Ar,cr,rfl,hs1,ho1,hn1⟩ sH1 hle1)|((with_reducible first|apply RS.move|apply RS.assign);iterate 3 exact rfl)|((with_reducible apply RS.nil);exact mixed;kernel_rfl)|((with_reducible apply W.reg);kernel_rfl)|(with_reducible apply thenK_n)))
    have hI1:=hI.up sB.dom (hB1.oldH.trans ho1)
    cases hh:hasS (reachedS (sL bv)) (i:Int) with
    | false =>
      have hgo':meltUp bv0.length m (sL bv)=meltS (sL bv0):=by rw [← hgo];unfold meltI;rw [if_neg (by rw [hh];simp)]
      ((with_reducible apply W.seq);repeat (fail))
      ((with_reducible apply W.seq);repeat (first|((with_reducible apply RS.callA);(iterate 3 exact rfl);exact fun B6 hB6=>has_tf (reachedS (sL bv)) _ _ (i:Int) hif hrl B6 (setAt_up hs1 hB6.up))|((with_reducible first|apply RS.move|apply RS.not);iterate 3 exact rfl)|((with_reducible apply RS.nil);exact mixed;kernel_rfl)|((with_reducible apply W.reg);kernel_rfl)|(with_reducible apply thenK_n)))
      repeat' ((first|(((with_reducible apply RS.splitD);iterate 2 exact rfl)<;>intro _)|((((with_reducible apply RS.splitG);iterate 2 exact rfl)<;>intro _)<;>(fail_if_success cases ‹true=false›)<;>(fail_if_success cases ‹false=true›))|(((with_reducible apply W.condD);exact rfl)<;>intro _)|((((with_reducible apply W.cond);exact rfl)<;>intro _)<;>(fail_if_success cases ‹true=false›)<;>(fail_if_success cases ‹false=true›)))<;>repeat (first|((with_reducible apply RS.move);iterate 3 exact rfl)|((with_reducible apply RS.add1);(iterate 4 exact rfl);omega)|((with_reducible apply RS.nil);exact mixed;kernel_rfl)|((with_reducible apply W.reg);kernel_rfl)|(with_reducible first|apply W.block|apply W.exit|apply W.skip|apply thenK_n|apply thenK_e)|((with_reducible apply blockK_hit);exact rfl)))
      · refine roundN_n rfl fun B' a=>⟨(i+1,bv),?_,⟨hI1.up sH1.dom a.oldH,by omega,by rw [hmm];exact hgo'⟩,?_⟩
        · (repeat' (first|exact trivial|exact rfl|apply And.intro));done
        · show bv0.length - (i+1) < bv0.length - i
          omega
      all_goals exact absurd ‹(!hasS (reachedS (sL bv)) (i:Int))=false› (by rw [hh];decide)
    | true =>
      have hgo':meltUp bv0.length m (meltGo i (jumpsS (sL bv)+1) (sL bv) (reachedS (sL bv)))=meltS (sL bv0):=by rw [← hgo];unfold meltI;rw [if_pos hh]
      ((with_reducible apply W.seq);repeat (fail))
      ((with_reducible apply W.seq);repeat (first|((with_reducible apply RS.callA);(iterate 3 exact rfl);exact fun B6 hB6=>has_tf (reachedS (sL bv)) _ _ (i:Int) hif hrl B6 (setAt_up hs1 hB6.up))|((with_reducible first|apply RS.move|apply RS.not);iterate 3 exact rfl)|((with_reducible apply RS.nil);exact mixed;kernel_rfl)|((with_reducible apply W.reg);kernel_rfl)|(with_reducible apply thenK_n)))
      repeat' ((first|(((with_reducible apply RS.splitD);iterate 2 exact rfl)<;>intro _)|((((with_reducible apply RS.splitG);iterate 2 exact rfl)<;>intro _)<;>(fail_if_success cases ‹true=false›)<;>(fail_if_success cases ‹false=true›))|(((with_reducible apply W.condD);exact rfl)<;>intro _)|((((with_reducible apply W.cond);exact rfl)<;>intro _)<;>(fail_if_success cases ‹true=false›)<;>(fail_if_success cases ‹false=true›)))<;>repeat (first|((with_reducible apply RS.move);iterate 3 exact rfl)|((with_reducible apply RS.add1);(iterate 4 exact rfl);omega)|((with_reducible apply RS.nil);exact mixed;kernel_rfl)|((with_reducible apply W.reg);kernel_rfl)|(with_reducible first|apply W.block|apply W.exit|apply W.skip|apply thenK_n|apply thenK_e)|((with_reducible apply blockK_hit);exact rfl)))
      · exact absurd ‹(!hasS (reachedS (sL bv)) (i:Int))=true› (by rw [hh];decide)
      have hArn:∀ a,Ar=some a→h.n≤a.block:=fun a ha=>Nat.le_trans (Nat.le_trans hI.off.1 hB1.le) (hn1 a ha)
      generalize hr0:reachedS (sL bv)=r0 at *
      refine W.loopN (X:=Nat × List BV × SetS) (fun x=>[(0,.pointer (some ⟨fb,0,none⟩)),(10,.int .i64 (f.blocks.length:Int)),(11,.int .i64 (i:Int)),(2,.int .i64 (i:Int)),(3,.slice Ar r0.length cr)])
        (fun x B=>MeltI h bb bv0 fb f A1 c1 A2 c2 c3 x.2.1 B∧SetAt B Ar x.2.2∧x.2.2.length=r0.length∧jumpsS (sL x.2.1) < x.1∧meltUp bv0.length m (meltGo i x.1 (sL x.2.1) x.2.2)=meltS (sL bv0)) (fun x=>x.1)
        (fun B' a=>⟨(jumpsS (sL bv)+1,bv,r0),?_,⟨hI1.up sH1.dom a.oldH,setAt_up hs1 a.up,rfl,Nat.lt_succ_self _,hgo'⟩⟩) ?_
      · (repeat' (first|exact trivial|exact rfl|apply And.intro));done
      rintro ⟨q,bw,r⟩ B2 π2 sB2 ⟨hJ,hsr,hrl2,hq,hgo2⟩
      dsimp only at hJ hsr hrl2 hq hgo2 ⊢
      rw [← hrl2]
      obtain ⟨q',rfl⟩:∃ q',q=q'+1:=⟨q - 1,by omega⟩
      have hF:=hJ.fn.m
      have hFn:=sB2.dom _ _ hF
      have hO:=hJ.ob.m
      have hOn:=sB2.dom _ _ hO
      have hwl:=hJ.len
      obtain ⟨b,hb⟩:∃ b,bw[i]?=some b:=⟨_,List.getElem?_eq_getElem (by omega)⟩
      rw [meltGo,sL_at hb] at hgo2
      have hgo2:meltUp bv0.length m (if b.term.kind≠1∨b.term.goto=i∨b.term.goto=0∨countS (sL bw) r b.term.goto≠1 then sL bw else meltGo i q' (meltAt (sL bw) i b.term.goto) (outS r b.term.goto))=meltS (sL bv0):=hgo2
      with_reducible apply W.block
      ((with_reducible apply W.seq);repeat (first|((with_reducible apply RS.indexAddrS);(iterate 5 exact rfl);omega)|((with_reducible apply RS.load1B);(iterate 3 exact rfl);exact hF;exact hFn;exact rfl)|((with_reducible apply RS.loadNB);(iterate 3 exact rfl);exact hO;exact hOn;exact (bv_term hb (by omega)).2;exact (bv_term hb (by omega)).1)|((with_reducible first|apply RS.nilCheck|apply RS.move|apply RS.fieldAddr);iterate 3 exact rfl)|((with_reducible apply RS.store);(iterate 5 exact rfl);exact Nat.le_of_ble_eq_true rfl;iterate 3 exact rfl)|((with_reducible apply RS.alloc);iterate 2 exact rfl)|((with_reducible apply RS.nil);exact mixed;kernel_rfl)|((with_reducible apply W.reg);kernel_rfl)|(with_reducible apply thenK_n)))
      refine W.absorbX fun B3 π3 a3=>?_
      have hqb:B3.m (π2 0)=some ⟨⟨termC b.term⟩,48⟩:=a3.loc 0 (Nat.lt_succ_self 0)
      have hq3:B2.n≤π2 0:=a3.lo 0 (Nat.lt_succ_self 0)
      generalize π2 0=tb at *
      have hqbn:=a3.dom _ _ hqb
      have hJ3:=hJ.up sB2.dom a3.oldH
      have hsr3:=setAt_up hsr a3.up
      have hfat3:=hJ3.fn.at hJ3.ob (by rw [hJ3.len];exact hfl)
      have hwlen:(sL bw).length≤100000:=by rw [sL_length];omega
      have hrl3:r.length≤1000000000:=by rw [hrl2,← hr0,reachedS_len];rw [sL_length];omega
      by_cases hc:b.term.kind≠1∨b.term.goto=i∨b.term.goto=0∨countS (sL bw) r b.term.goto≠1
      · rw [if_pos hc] at hgo2
        ((with_reducible apply W.seq);repeat (fail))
        ((with_reducible apply W.seq);repeat (first|((with_reducible apply RS.load1B);(iterate 3 exact rfl);exact hqb;exact hqbn;exact rfl)|((with_reducible first|apply RS.move|apply RS.fieldAddr);iterate 3 exact rfl)|((with_reducible apply RS.cmpC);iterate 5 exact rfl)|((with_reducible apply W.reg);kernel_rfl)))
        repeat' ((first|(((with_reducible apply RS.splitD);iterate 2 exact rfl)<;>intro _)|((((with_reducible apply RS.splitG);iterate 2 exact rfl)<;>intro _)<;>(fail_if_success cases ‹true=false›)<;>(fail_if_success cases ‹false=true›))|(((with_reducible apply W.condD);exact rfl)<;>intro _)|((((with_reducible apply W.cond);exact rfl)<;>intro _)<;>(fail_if_success cases ‹true=false›)<;>(fail_if_success cases ‹false=true›)))<;>repeat (first|((with_reducible apply RS.callA);(iterate 3 exact rfl);exact fun B6 hB6=>count_tf fb f.regs (some ⟨bb,0,none⟩) c3 (sL bw) r Ar cr b.term.goto hwlen hrl3 B6 (hfat3.up hB6.up) (setAt_up hsr3 hB6.up))|((with_reducible apply RS.load1B);(iterate 3 exact rfl);exact hqb;exact hqbn;exact rfl)|((with_reducible first|apply RS.nilCheck|apply RS.move|apply RS.fieldAddr);iterate 3 exact rfl)|((with_reducible apply RS.pickT);iterate 4 exact rfl)|((with_reducible apply RS.pickF);iterate 4 exact rfl)|((with_reducible apply RS.cmpC);iterate 5 exact rfl)|((with_reducible apply RS.add1);(iterate 4 exact rfl);omega)|((with_reducible apply RS.bin);iterate 5 exact rfl)|((with_reducible apply RS.skip);iterate 2 exact rfl)|((with_reducible apply RS.nil);exact mixed;kernel_rfl)|(with_reducible first|apply W.seq|apply W.exit|apply W.skip|apply thenK_n|apply thenK_e|apply blockK_n|apply roundN_e)|((with_reducible apply W.reg);kernel_rfl)|((with_reducible apply W.condT);kernel_rfl;exact rfl)|((with_reducible apply blockK_hit);exact rfl)|((with_reducible apply blockK_miss);exact rfl)))
        rotate_left 4
        · exfalso
          have e1:b.term.kind=1:=by simpa using ‹(b.term.kind != 1)=false›
          have e4:countS (sL bw) r b.term.goto=1:=by
            have:=‹(((countS (sL bw) r b.term.goto:Nat):Int) != 1)=false›
            simp at this
            omega
          omega
        all_goals
          refine roundN_n rfl fun B' a=>⟨(i+1,bw),?_,⟨hJ3.up a3.dom a.oldH,by omega,by rw [hmm];exact hgo2⟩,?_⟩
          · (repeat' (first|exact trivial|exact rfl|apply And.intro));done
          · show bv0.length - (i+1) < bv0.length - i
            omega
      · rw [if_neg hc] at hgo2
        simp only [not_or,Decidable.not_not] at hc
        obtain ⟨hc1,hc2,hc3,hc4⟩:=hc
        ((with_reducible apply W.seq);repeat (fail))
        ((with_reducible apply W.seq);repeat (first|((with_reducible apply RS.callA);(iterate 3 exact rfl);exact fun B6 hB6=>count_tf fb f.regs (some ⟨bb,0,none⟩) c3 (sL bw) r Ar cr b.term.goto hwlen hrl3 B6 (hfat3.up hB6.up) (setAt_up hsr3 hB6.up))|((with_reducible apply RS.load1B);(iterate 3 exact rfl);exact hqb;exact hqbn;exact rfl)|((with_reducible first|apply RS.move|apply RS.fieldAddr);iterate 3 exact rfl)|((with_reducible apply RS.pickF);iterate 4 exact rfl)|((with_reducible apply RS.cmpF);(iterate 4 exact rfl);(simp only [cmpN];omega))|((with_reducible apply RS.nil);exact mixed;kernel_rfl)|((with_reducible apply W.reg);kernel_rfl)|(with_reducible first|apply W.skip|apply thenK_n)|((with_reducible apply W.condF);kernel_rfl;exact rfl)))
        repeat' ((first|(((with_reducible apply RS.splitD);iterate 2 exact rfl)<;>intro _)|((((with_reducible apply RS.splitG);iterate 2 exact rfl)<;>intro _)<;>(fail_if_success cases ‹true=false›)<;>(fail_if_success cases ‹false=true›))|(((with_reducible apply W.condD);exact rfl)<;>intro _)|((((with_reducible apply W.cond);exact rfl)<;>intro _)<;>(fail_if_success cases ‹true=false›)<;>(fail_if_success cases ‹false=true›)))<;>repeat (fail))
        have htk:=hJ.tgt b.s (List.mem_of_getElem? (sL_at hb)) b.term.goto (by show _∈nextS b.term;rw [nextS_1 hc1];simp)
        rw [sL_length] at htk
        obtain ⟨g,hg⟩:∃ g:Nat,b.term.goto=(g:Int):=⟨b.term.goto.toNat,by omega⟩
        have hgt:b.term.goto.toNat=g:=by omega
        have hgi:g≠i:=by omega
        obtain ⟨o,ho⟩:∃ o,bw[g]?=some o:=⟨_,List.getElem?_eq_getElem (by omega)⟩
        have hF3:=hJ3.fn.m
        have hF3n:=a3.dom _ _ hF3
        have hO3:=hJ3.ob.m
        have hO3n:=a3.dom _ _ hO3
        ((with_reducible apply W.seq);repeat (first|((with_reducible apply RS.indexAddrS);(iterate 4 exact rfl);exact hg;omega)|((with_reducible apply RS.load1B);(iterate 3 exact rfl);first|exact hqb;exact hqbn;exact rfl|exact hF3;exact hF3n;exact rfl)|((with_reducible apply RS.loadNB);(iterate 3 exact rfl);exact hO3;exact hO3n;exact (bv_block ho (by omega)).2;exact (bv_block ho (by omega)).1)|((with_reducible first|apply RS.nilCheck|apply RS.move|apply RS.fieldAddr);iterate 3 exact rfl)|((with_reducible apply RS.store);(iterate 5 exact rfl);exact Nat.le_of_ble_eq_true rfl;iterate 3 exact rfl)|((with_reducible apply RS.alloc);iterate 2 exact rfl)|((with_reducible apply RS.nil);exact mixed;kernel_rfl)|((with_reducible apply W.reg);kernel_rfl)|(with_reducible apply thenK_n)))
        refine W.absorbX fun B4 π4 a4=>?_
        have hqo:B4.m (π3 0)=some ⟨⟨blockC o.s o.A o.k⟩,50⟩:=a4.loc 0 (Nat.lt_succ_self 0)
        have hq4:B3.n≤π3 0:=a4.lo 0 (Nat.lt_succ_self 0)
        generalize π3 0=tc at *
        have hqon:=a4.dom _ _ hqo
        have hJ4:=hJ3.up a3.dom a4.oldH
        have hsr4:=setAt_up hsr3 a4.up
        have hqb4:=a4.up _ _ hqb
        have hF4:=hJ4.fn.m
        have hF4n:=a4.dom _ _ hF4
        have hO4:=hJ4.ob.m
        have hO4n:=a4.dom _ _ hO4
        have hbm:=List.mem_of_getElem? hb
        have hom:=List.mem_of_getElem? ho
        have hbt:=totB_le hbm
        have hot:=totB_le hom
        have htt:=hJ.tot
        have hobb:∀ {x:BV},x∈bw→x.ins≠[]→x.r≠bb:=fun hx hn=>hJ4.ob.row_ne hx hn hO4 (by simp)
        have hofb:∀ {x:BV},x∈bw→x.ins≠[]→x.r≠fb:=fun hx hn=>hJ4.ob.row_ne hx hn hF4 (by simp)
        with_reducible apply W.seq
        refine W.joinNT (X:=Nat) (fun _=>[(0,.pointer (some ⟨fb,0,none⟩)),(10,.int .i64 (f.blocks.length:Int)),(11,.int .i64 (i:Int)),(2,.int .i64 (i:Int)),(3,.slice Ar r.length cr),(4,.pointer (some ⟨tb,0,none⟩)),(5,.pointer (some ⟨tc,0,none⟩))])
          (fun r' B=>OwnB B bb (bw.set i ⟨b.ins++o.ins,r',b.term⟩)∧B.m fb=some ⟨⟨funcC f A1 c1 A2 c2 (some ⟨bb,0,none⟩) c3⟩,37⟩∧B.m tb=some ⟨⟨termC b.term⟩,48⟩∧B.m tc=some ⟨⟨blockC o.s o.A o.k⟩,50⟩∧SetAt B Ar r∧OffS (Foot bb bv0) h B∧(b.ins++o.ins≠[]→Foot bb bw r'∨h.n≤r')) ?_ ?_
        · have hqo':B4.m tc=some ⟨⟨rowVl 12 o.r o.ins::termC o.term⟩,50⟩:=by rw [← BVc_eq] at hqo;exact hqo
          have hnbr:∀ {j:Nat} {x:Blk},B4.m j=some x→x.elem≠58→b.ins≠[]→j≠b.r:=fun hx he hn=>(hJ4.ob.row_ne hbm hn hx he).symm
          have fin:∀ (r':Nat) (B':Hp),B'.m bb=some ⟨⟨((bw.set i ⟨b.ins++o.ins,r',b.term⟩).map BV.c).flatten⟩,50⟩→B4.n≤B'.n→(∀ j,j < B4.n→j≠bb→(b.ins≠[]→o.ins≠[]→j≠b.r)→B'.m j=B4.m j) →
              (b.ins++o.ins≠[]→rwM≤r'∧B'.m r'=some ⟨⟨((b.ins++o.ins).map insVC).flatten⟩,58⟩)→(b.ins++o.ins≠[]→(o.ins=[]∧r'=b.r)∨B4.n≤r') →
              OwnB B' bb (bw.set i ⟨b.ins++o.ins,r',b.term⟩)∧B'.m fb=some ⟨⟨funcC f A1 c1 A2 c2 (some ⟨bb,0,none⟩) c3⟩,37⟩∧B'.m tb=some ⟨⟨termC b.term⟩,48⟩∧B'.m tc=some ⟨⟨blockC o.s o.A o.k⟩,50⟩∧SetAt B' Ar r∧OffS (Foot bb bv0) h B'∧(b.ins++o.ins≠[]→Foot bb bw r'∨h.n≤r'):=by
            intro r' B' hm' hn kn hnew hr'
            obtain ⟨g1,g2,g3⟩:=r8_close hJ4 a4.dom hb ho hgi r' hm' hn kn hnew hr'
            have kk:∀ {j:Nat} {x:Blk},B4.m j=some x→j≠bb→x.elem≠58→B'.m j=some x:=fun hx h1 he=>by
              rw [kn _ (a4.dom _ _ hx) h1 fun hbn _=>hnbr hx he hbn];exact hx
            refine ⟨g1,kk hF4 (ne_of_elem hF4 hO4 (by simp)) (by simp),kk hqb4 (ne_of_elem hqb4 hO4 (by simp)) (by simp),kk hqo (by have:=hO3n;omega) (by simp),?_,g2,g3⟩
            cases hsr4 with
            | none=>exact .none
            | some hm hr=>exact .some (kk hm (ne_of_elem hm hO4 (by simp)) (by simp)) hr
          have hcell:∀ {v:Value},rowVl 12 b.r b.ins=v→(bw.map BV.c).flatten[0+i * 9+0]?=some v:=fun hv=>bv_cell0 hb (by omega) hv
          by_cases hoe:o.ins=[]
          · have hvo:rowVl 12 o.r o.ins=.slice none 0 0:=by rw [hoe];rfl
            rw [hvo] at hqo'
            by_cases hbe:b.ins=[]
            · have hvb:rowVl 12 b.r b.ins=.slice none 0 0:=by rw [hbe];rfl
              have hnil:(Value.slice none 0 0)=rowVl 12 0 (b.ins++o.ins):=by rw [hbe,hoe];rfl
              obtain ⟨r8,hr8⟩:∃ r8:Nat,r8=0:=⟨0,rfl⟩
              have hput:(Value.slice none 0 0)=rowVl 12 r8 (b.ins++o.ins):=by rw [hbe,hoe];rfl
              have hOs:=hO4
              have hOsn:=hO4n
              repeat (first|((with_reducible apply RS.indexAddrS);(iterate 5 exact rfl);omega)|((with_reducible apply RS.load1X);(iterate 3 exact rfl);exact hF4;exact hF4n;exact rfl)|((with_reducible apply RS.load1B);(iterate 3 exact rfl);first|exact hO4;exact hO4n;exact hcell hvb|exact hqo';exact hqon;exact rfl)|((with_reducible apply RS.appendNil0);(iterate 5 exact rfl);kernel_rfl)|((with_reducible apply RS.storeB);(iterate 3 exact rfl);exact hOs;exact hOsn;exact hJ4.ob.rw;(have:=(bv_block hb (off:=i * 9) rfl).2;omega);(iterate 2 exact rfl);exact bv_put0 (b':=⟨b.ins++o.ins,r8,b.term⟩) hb (by omega) hput rfl)|((with_reducible first|apply RS.nilCheck|apply RS.move|apply RS.fieldAddr);iterate 3 exact rfl)|((with_reducible apply RS.nil);exact mixed;kernel_rfl)|((with_reducible apply W.reg);kernel_rfl))
              refine joinN_n rfl fun B' a=>⟨r8,?_,fin r8 B' (a.up _ _ ?_) a.le (fun j hj h1 _=>?_) (fun hn=>absurd (by rw [hbe,hoe];rfl) hn) (fun hn=>absurd (by rw [hbe,hoe];rfl) hn)⟩
              · (repeat' (first|exact trivial|exact rfl|apply And.intro));done
              · show (if bb=bb then _ else _)=_;rw [if_pos rfl]
              · rw [a.old j hj];show (if j=bb then _ else _)=_;rw [if_neg h1]
            · have hrow:=(hJ4.ob.row b hbm hbe).2
              have hrowr:=(hJ4.ob.row b hbm hbe).1
              have hrown:=a4.dom _ _ hrow
              have hvb:=rowVl_ne (sz:=12) (r:=b.r) hbe
              obtain ⟨r8,hr8⟩:∃ r8:Nat,r8=b.r:=⟨_,rfl⟩
              have hput:(Value.slice (some ⟨b.r,0,none⟩) b.ins.length (capOf 12))=rowVl 12 r8 (b.ins++o.ins):=by rw [hr8,hoe,List.append_nil,hvb]
              have hOs:=hO4
              have hOsn:=hO4n
              repeat (first|((with_reducible apply RS.indexAddrS);(iterate 5 exact rfl);omega)|((with_reducible apply RS.load1X);(iterate 3 exact rfl);exact hF4;exact hF4n;exact rfl)|((with_reducible apply RS.load1B);(iterate 3 exact rfl);first|exact hO4;exact hO4n;exact hcell hvb|exact hqo';exact hqon;exact rfl)|((with_reducible apply RS.appendRow0);(iterate 5 exact rfl);exact hrow;exact hrown;exact hrowr;exact Nat.le_of_eq (ins_len _).symm)|((with_reducible apply RS.storeB);(iterate 3 exact rfl);exact hOs;exact hOsn;exact hJ4.ob.rw;(have:=(bv_block hb (off:=i * 9) rfl).2;omega);(iterate 2 exact rfl);exact bv_put0 (b':=⟨b.ins++o.ins,r8,b.term⟩) hb (by omega) hput rfl)|((with_reducible first|apply RS.nilCheck|apply RS.move|apply RS.fieldAddr);iterate 3 exact rfl)|((with_reducible apply RS.nil);exact mixed;kernel_rfl)|((with_reducible apply W.reg);kernel_rfl))
              refine joinN_n rfl fun B' a=>⟨r8,?_,fin r8 B' (a.up _ _ ?_) a.le (fun j hj h1 _=>?_) (fun _=>⟨by rw [hr8];exact hrowr,?_⟩) (fun _=>.inl ⟨hoe,hr8⟩)⟩
              · (repeat' (first|exact trivial|exact rfl|apply And.intro));done
              · show (if bb=bb then _ else _)=_;rw [if_pos rfl]
              · rw [a.old j hj];show (if j=bb then _ else _)=_;rw [if_neg h1]
              · refine a.up _ _ ?_
                show (if r8=bb then _ else B4.m r8)=_
                rw [if_neg (by rw [hr8];exact hobb hbm hbe),hr8,hoe,List.append_nil]
                exact hrow
          · have hro:=(hJ4.ob.row o hom hoe).2
            have hron:=a4.dom _ _ hro
            have hopos:0 < o.ins.length:=List.length_pos_iff.2 hoe
            have hvo:=rowVl_ne (sz:=12) (r:=o.r) hoe
            rw [hvo] at hqo'
            by_cases hbe:b.ins=[]
            · have hvb:rowVl 12 b.r b.ins=.slice none 0 0:=by rw [hbe];rfl
              obtain ⟨r8,hr8⟩:∃ r8:Nat,r8=π4 0:=⟨_,rfl⟩
              have hput:(Value.slice (some ⟨π4 0,0,none⟩) o.ins.length (capOf 12))=rowVl 12 r8 (b.ins++o.ins):=by rw [hr8,hbe,List.nil_append,rowVl_ne hoe]
              have hOs:=hO4
              have hOsn:=hO4n
              repeat (first|((with_reducible apply RS.indexAddrS);(iterate 5 exact rfl);omega)|((with_reducible apply RS.load1X);(iterate 3 exact rfl);exact hF4;exact hF4n;exact rfl)|((with_reducible apply RS.load1B);(iterate 3 exact rfl);first|exact hO4;exact hO4n;exact hcell hvb|exact hqo';exact hqon;exact rfl)|((with_reducible apply RS.appendNilB);(iterate 6 exact rfl);exact hro;exact hron;exact Nat.le_of_eq (by rw [ins_len,Nat.zero_add]);exact hopos;omega;omega;exact ins_all _)|((with_reducible apply RS.storeB);(iterate 3 exact rfl);exact hOs;exact hOsn;exact hJ4.ob.rw;(have:=(bv_block hb (off:=i * 9) rfl).2;omega);(iterate 2 exact rfl);exact bv_put0 (b':=⟨b.ins++o.ins,r8,b.term⟩) hb (by omega) hput rfl)|((with_reducible first|apply RS.nilCheck|apply RS.move|apply RS.fieldAddr);iterate 3 exact rfl)|((with_reducible apply RS.nil);exact mixed;kernel_rfl)|((with_reducible apply W.reg);kernel_rfl))
              refine joinN_n rfl fun B' a=>?_
              have hlo:B4.n≤π4 0:=a.lo 0 (Nat.lt_succ_self 0)
              have hloc:B'.m (π4 0)=some ⟨⟨(o.ins.map insVC).flatten⟩,58⟩:=a.loc 0 (Nat.lt_succ_self 0)
              refine ⟨r8,?_,fin r8 B' (a.up _ _ ?_) a.le (fun j hj h1 _=>?_) (fun _=>⟨by rw [hr8];exact Nat.le_trans a4.sat.rw hlo,?_⟩) (fun _=>.inr (by rw [hr8];exact hlo))⟩
              · (repeat' (first|exact trivial|exact rfl|apply And.intro));done
              · show (if bb=bb then _ else _)=_;rw [if_pos rfl]
              · rw [a.old j hj];show (if j=bb then _ else _)=_;rw [if_neg h1]
              · rw [hr8,hbe,List.nil_append];exact hloc
            · have hrow:=(hJ4.ob.row b hbm hbe).2
              have hrowr:=(hJ4.ob.row b hbm hbe).1
              have hrown:=a4.dom _ _ hrow
              have hvb:=rowVl_ne (sz:=12) (r:=b.r) hbe
              have hrf:b.r≠fb:=hofb hbm hbe
              obtain ⟨r8,hr8⟩:∃ r8:Nat,r8=π4 0:=⟨_,rfl⟩
              have hput:(Value.slice (some ⟨π4 0,0,none⟩) (b.ins.length+o.ins.length) (capOf 12))=rowVl 12 r8 (b.ins++o.ins):=by rw [hr8,rowVl_ne (by simp [hbe]),List.length_append]
              have hOs:(B4.kill b.r).m bb=some ⟨⟨(bw.map BV.c).flatten⟩,50⟩:=by
                show (if bb=b.r then none else B4.m bb)=_
                rw [if_neg (fun e=>hobb hbm hbe e.symm)];exact hO4
              have hOsn:=hO4n
              repeat (first|((with_reducible apply RS.indexAddrS);(iterate 5 exact rfl);omega)|((with_reducible apply RS.load1X);(iterate 3 exact rfl);exact hF4;exact hF4n;exact rfl)|((with_reducible apply RS.load1B);(iterate 3 exact rfl);first|exact hO4;exact hO4n;exact hcell hvb|exact hqo';exact hqon;exact rfl)|((with_reducible apply RS.growX);(iterate 6 exact rfl);exact hrow;exact hrown;exact hrowr;exact ins_len _;exact hro;exact hron;exact Nat.le_of_eq (by rw [ins_len,Nat.zero_add]);(rw [ins_all];exact ins_one _);omega;omega)|((with_reducible apply RS.nilX);exact mixed;(intro _;kernel_rfl);(intro _;exact sideOK_all (j:=b.r) (b:=fb) hrf (by repeat' (first|exact trivial|exact .inl rfl|exact .inr rfl|apply And.intro))))|((with_reducible apply RS.storeB);(iterate 3 exact rfl);exact hOs;exact hOsn;exact hJ4.ob.rw;(have:=(bv_block hb (off:=i * 9) rfl).2;omega);(iterate 2 exact rfl);exact bv_put0 (b':=⟨b.ins++o.ins,r8,b.term⟩) hb (by omega) hput rfl)|((with_reducible first|apply RS.nilCheck|apply RS.move|apply RS.fieldAddr);iterate 3 exact rfl)|((with_reducible apply W.reg);kernel_rfl))
              refine joinN_n rfl fun B' a=>?_
              have hlo:B4.n≤π4 0:=a.lo 0 (Nat.lt_succ_self 0)
              have hloc:B'.m (π4 0)=some ⟨⟨(b.ins.map insVC).flatten++takeV 0 (o.ins.length * 12) (o.ins.map insVC).flatten⟩,58⟩:=a.loc 0 (Nat.lt_succ_self 0)
              refine ⟨r8,?_,fin r8 B' (a.up _ _ ?_) a.le (fun j hj h1 h2=>?_) (fun _=>⟨by rw [hr8];exact Nat.le_trans a4.sat.rw hlo,?_⟩) (fun _=>.inr (by rw [hr8];exact hlo))⟩
              · (repeat' (first|exact trivial|exact rfl|apply And.intro));done
              · show (if bb=bb then _ else _)=_;rw [if_pos rfl]
              · rw [a.old j hj]
                show (if j=bb then _ else (if j=b.r then none else B4.m j))=_
                rw [if_neg h1,if_neg (h2 hbe hoe)]
              · rw [hr8,List.map_append,List.flatten_append]
                rw [ins_all] at hloc
                exact hloc
        · intro r8 B5 π5 sB5 hI5
          obtain ⟨ho5,hF5,hq5,ht5,hs5,hoff5,hfoot5⟩:=hI5
          have hO5:=ho5.m
          have hO5n:=sB5.dom _ _ hO5
          have hF5n:=sB5.dom _ _ hF5
          have hq5n:=sB5.dom _ _ hq5
          have ht5n:=sB5.dom _ _ ht5
          have hil:i < bw.length:=by omega
          have hgl:g < bw.length:=by omega
          have hb1:(bw.set i ⟨b.ins++o.ins,r8,b.term⟩)[i]?=some ⟨b.ins++o.ins,r8,b.term⟩:=by rw [List.getElem?_set,if_pos rfl,if_pos hil]
          ((with_reducible apply W.seq);repeat (first|((with_reducible apply RS.indexAddrS);(iterate 5 exact rfl);omega)|((with_reducible apply RS.load1B);(iterate 3 exact rfl);exact hF5;exact hF5n;exact rfl)|((with_reducible apply RS.loadNB);(iterate 3 exact rfl);exact ht5;exact ht5n;exact Nat.le_of_ble_eq_true rfl;exact rfl)|((with_reducible apply RS.storeB);(iterate 3 exact rfl);exact hO5;exact hO5n;exact ho5.rw;exact (bv_term hb1 (by omega)).2;(iterate 2 exact rfl);exact bv_write (o:=1) (b':=⟨b.ins++o.ins,r8,o.term⟩) hb1 (by omega) (Nat.le_of_ble_eq_true rfl) rfl)|((with_reducible first|apply RS.nilCheck|apply RS.move|apply RS.fieldAddr);iterate 3 exact rfl)|((with_reducible apply RS.nil);exact mixed;kernel_rfl)|((with_reducible apply W.reg);kernel_rfl)|(with_reducible apply thenK_n)))
          have ho6:=ho5.setT hb1 o.term
          have hs6:∀ {j:Nat} {x:Blk},B5.m j=some x→x.elem≠50→(B5.set bb ⟨⟨(((bw.set i ⟨b.ins++o.ins,r8,b.term⟩).set i ⟨b.ins++o.ins,r8,o.term⟩).map BV.c).flatten⟩,50⟩).m j=some x:=by
            intro j x hx he
            show (if j=bb then _ else _)=_
            rw [if_neg (ne_of_elem hx hO5 (by simpa using he))]
            exact hx
          have hF6:=hs6 hF5 (by simp)
          have hq6:=hs6 hq5 (by simp)
          have hO6:=ho6.m
          have hb6:((bw.set i ⟨b.ins++o.ins,r8,b.term⟩).set i ⟨b.ins++o.ins,r8,o.term⟩)[g]?=some o:=by
            rw [List.set_set,List.getElem?_set,if_neg (fun e=>hgi e.symm)];exact ho
          ((with_reducible apply W.seq);repeat (first|((with_reducible apply RS.indexAddrS);(iterate 4 exact rfl);exact hg;omega)|((with_reducible apply RS.load1B);(iterate 3 exact rfl);first|exact hF6;exact hF5n;exact rfl|exact hq6;exact hq5n;exact rfl)|((with_reducible apply RS.callP);(iterate 3 exact rfl);exact fun H=>(numN_tf _ H);exact Nm_free (by simp))|((with_reducible apply RS.storeB);(iterate 3 exact rfl);exact hO6;exact hO5n;exact ho5.rw;exact (bv_block hb6 (by omega)).2;(iterate 2 exact rfl);exact bv_write (o:=0) (b':=⟨[],0,retT⟩) hb6 (by omega) (Nat.le_of_ble_eq_true rfl) rfl)|((with_reducible first|apply RS.nilCheck|apply RS.move|apply RS.fieldAddr);iterate 3 exact rfl)|((with_reducible apply RS.build);iterate 4 exact rfl)|((with_reducible apply RS.nil);exact mixed;kernel_rfl)|((with_reducible apply W.reg);kernel_rfl)|(with_reducible apply thenK_n)))
          have hs7:∀ {j:Nat} {x y:Blk} {H:Hp},H.m j=some x→x.elem≠50→H.m bb=some y→y.elem=50→∀ z,(H.set bb z).m j=some x:=by
            intro j x y H hx he hy hye z
            show (if j=bb then _ else _)=_
            rw [if_neg (ne_of_elem hx hy (by rw [hye];exact he))]
            exact hx
          have hF7:=hs7 hF6 (by simp) hO6 rfl
          have hq7:=hs7 hq6 (by simp) hO6 rfl
          have hss6:SetAt (B5.set bb ⟨⟨(((bw.set i ⟨b.ins++o.ins,r8,b.term⟩).set i ⟨b.ins++o.ins,r8,o.term⟩).map BV.c).flatten⟩,50⟩) Ar r:=by
            cases hs5 with
            | none=>exact .none
            | some hm hr=>exact .some (hs6 hm (by simp)) hr
          have hss7:∀ z,SetAt ((B5.set bb ⟨⟨(((bw.set i ⟨b.ins++o.ins,r8,b.term⟩).set i ⟨b.ins++o.ins,r8,o.term⟩).map BV.c).flatten⟩,50⟩).set bb z) Ar r:=by
            intro z
            cases hss6 with
            | none=>exact .none
            | some hm hr=>exact .some (hs7 hm (by simp) hO6 rfl z) hr
          have hgf:fitI b.term.goto:=by unfold fitI;omega
          repeat (first|((with_reducible apply RS.load1B);(iterate 3 exact rfl);exact hq7 _;exact hq5n;exact rfl)|((with_reducible apply RS.callEx);(iterate 3 exact rfl);intro B8 hB8;refine ⟨_,TF.ex (out_tf r Ar cr b.term.goto hgf hrl3 B8 (setAt_up (hss7 _) hB8.up)),?_⟩;rintro v H8 π8 ⟨rfl,rfl⟩ sH8 hle8)|((with_reducible apply RS.nil);exact mixed;kernel_rfl)|(with_reducible apply blockK_n))
          have hg6:g < ((bw.set i ⟨b.ins++o.ins,r8,b.term⟩).set i ⟨b.ins++o.ins,r8,o.term⟩).length:=by simp;omega
          have ho7:=ho6.setI (i:=g) (b1:=⟨[],0,retT⟩) (H:=(B5.set bb ⟨⟨(((bw.set i ⟨b.ins++o.ins,r8,b.term⟩).set i ⟨b.ins++o.ins,r8,o.term⟩).map BV.c).flatten⟩,50⟩).set bb ⟨⟨((((bw.set i ⟨b.ins++o.ins,r8,b.term⟩).set i ⟨b.ins++o.ins,r8,o.term⟩).set g ⟨[],0,retT⟩).map BV.c).flatten⟩,50⟩)
            (by show (if bb=bb then _ else _)=_;rw [if_pos rfl]) (fun j x hx he=>hs7 hx (by rw [he];simp) hO6 rfl _) (fun j x hx hji hxn=>by
              have hrow:=(ho6.row x (List.mem_of_getElem? hx) hxn).2
              show (if x.r=bb then _ else _)=_
              rw [if_neg (ne_of_elem hrow hO6 (by simp))]) (fun hn=>absurd rfl hn) (fun x hx=>by cases hx) (fun j x hx hji hxn hbn=>absurd rfl hbn)
          have hss8:=setAt_up (hss7 ⟨⟨((((bw.set i ⟨b.ins++o.ins,r8,b.term⟩).set i ⟨b.ins++o.ins,r8,o.term⟩).set g ⟨[],0,retT⟩).map BV.c).flatten⟩,50⟩) hB8.up
          have ho8:=(ho7.up hB8.up).setH (s':=outS r b.term.goto) hss8
          have hF8:=setH_keep (s':=outS r b.term.goto) hss8 (hB8.up _ _ (hF7 ⟨⟨((((bw.set i ⟨b.ins++o.ins,r8,b.term⟩).set i ⟨b.ins++o.ins,r8,o.term⟩).set g ⟨[],0,retT⟩).map BV.c).flatten⟩,50⟩)) (by simp)
          have hoff8:OffS (Foot bb bv0) h (setH B8 Ar (outS r b.term.goto)):=by
            have o1:OffS (Foot bb bv0) B5 ((B5.set bb ⟨⟨(((bw.set i ⟨b.ins++o.ins,r8,b.term⟩).set i ⟨b.ins++o.ins,r8,o.term⟩).map BV.c).flatten⟩,50⟩).set bb ⟨⟨((((bw.set i ⟨b.ins++o.ins,r8,b.term⟩).set i ⟨b.ins++o.ins,r8,o.term⟩).set g ⟨[],0,retT⟩).map BV.c).flatten⟩,50⟩):=by
              rw [Hp.set_set]
              exact (OffS.set B5 bb _).mono fun j _ e=>.inl e
            refine ((hoff5.same o1).same hB8.oldH.off).trans (setH_off hss8) fun j hj hT=>?_
            have:=hArn _ hT
            simp only at this
            omega
          have hse:sL (((bw.set i ⟨b.ins++o.ins,r8,b.term⟩).set i ⟨b.ins++o.ins,r8,o.term⟩).set g ⟨[],0,retT⟩)=meltAt (sL bw) i b.term.goto:=by
            rw [melt_eq (sL_at hb) (by rw [hgt];exact sL_at ho),hgt,List.set_set,sL_set,sL_set]
            simp [BV.s]
          refine roundN_n rfl fun B' a=>⟨(q',((bw.set i ⟨b.ins++o.ins,r8,b.term⟩).set i ⟨b.ins++o.ins,r8,o.term⟩).set g ⟨[],0,retT⟩,outS r b.term.goto),?_,⟨⟨ho8.up a.up,⟨a.up _ _ hF8,hfn.rw⟩,hoff8.same a.oldH.off,?_,?_,?_,?_⟩,?_,?_,?_,?_⟩,Nat.lt_succ_self _⟩
          · (repeat' (first|exact trivial|exact rfl|apply And.intro));done
          · rintro j (e|⟨x,hx,hxn,hxr⟩)
            · exact .inl (.inl e)
            · rw [List.set_set] at hx
              rcases mem_set hx with h1|h1
              · rcases mem_set h1 with h2|h2
                · exact hJ.foot j (.inr ⟨x,h2,hxn,hxr⟩)
                · subst h2
                  rcases hfoot5 hxn with h3|h3
                  · rw [← hxr];exact hJ.foot _ h3
                  · exact .inr (by rw [← hxr];exact h3)
              · subst h1;exact absurd rfl hxn
          · simp;omega
          · rw [hse];exact melt_tgt hJ.tgt (sL_at hb) (by rw [hgt];exact sL_at ho)
          · have t1:=totB_set (c:=⟨b.ins++o.ins,r8,o.term⟩) hb
            have t2:=totB_set (bv:=bw.set i ⟨b.ins++o.ins,r8,o.term⟩) (i:=g) (b:=o) (c:=⟨[],0,retT⟩) (by rw [List.set_set] at hb6;exact hb6)
            rw [List.set_set]
            simp only [List.length_append,List.length_nil] at t1 t2
            show totB ((bw.set i ⟨b.ins++o.ins,r8,o.term⟩).set g ⟨[],0,retT⟩)≤1000000
            omega
          · exact setAt_up (setH_at hss8 (outS_length _ _)) a.up
          · exact outS_length _ _
          · rw [hse]
            have:=melt_jumps (i:=i) (k:=b.term.goto) (sL_at hb) (by rw [hgt];exact sL_at ho) (by rw [hgt];exact hgi) hc1
            show jumpsS (meltAt (sL bw) i b.term.goto) < q'
            omega
          · rw [hse];exact hgo2
  · have hz:bv0.length - i=0:=by omega
    rw [hz,meltUp] at hgo
    repeat (first|((with_reducible apply RS.cmpF);(iterate 4 exact rfl);(simp only [cmpN];omega))|((with_reducible apply RS.nil);exact mixed;kernel_rfl)|(with_reducible first|apply W.seq|apply W.exit|apply thenK_n|apply thenK_e|apply roundN_e)|((with_reducible apply W.reg);kernel_rfl)|((with_reducible apply W.condF);kernel_rfl;exact rfl)|((with_reducible apply blockK_hit);exact rfl))
    exact endsK_normal [] .nil (fun B' a=>⟨bv,hI.up sB.dom a.oldH,hgo⟩)
end Go.Proofs.YtjhloakacicdiaaDoor
namespace Go.Proofs.YtjhloakacicdiaaDoor
open Go.AH
attribute [local irreducible] W RS
def keptV (r:SetS):Nat→List BV→List BV
  | _,[]=>[]
  | i,b::bv=>if hasS r i=true then b::keptV r (i+1) bv else keptV r (i+1) bv
theorem sL_keptV (r:SetS):∀ (bv:List BV) (i:Nat),sL (keptV r i bv)=keptL r i (sL bv):=by
  intro bv
  induction bv with
  | nil=>intro i;rfl
  | cons b bv ih =>
    intro i
    have e:sL (b::bv)=b.s::sL bv:=rfl
    rw [e,keptV,keptL]
    split
    · show b.s::sL _=_;rw [ih]
    · exact ih _
theorem keptV_take (r:SetS):∀ (bv:List BV) (j i:Nat) (b:BV),bv[i]?=some b→keptV r j (bv.take (i+1))=keptV r j (bv.take i)++(if hasS r ((j+i:Nat):Int)=true then [b] else []):=by
  intro bv
  induction bv with
  | nil=>intro j i b h;simp at h
  | cons a bv ih =>
    intro j i b h
    cases i with
    | zero =>
      simp only [List.getElem?_cons_zero,Option.some.injEq] at h
      subst h
      simp only [List.take_succ_cons,List.take_zero,keptV,Nat.add_zero,List.nil_append]
    | succ i =>
      have:=ih (j+1) i b (by simpa using h)
      rw [List.take_succ_cons,List.take_succ_cons,keptV,keptV,this]
      have e:j+1+i=j+(i+1):=by omega
      rw [e]
      split<;>simp
theorem keptV_mem (r:SetS):∀ (bv:List BV) (i:Nat) (b:BV),b∈keptV r i bv→b∈bv:=by
  intro bv
  induction bv with
  | nil=>intro i b h;exact h
  | cons a bv ih =>
    intro i b h
    rw [keptV] at h
    split at h
    · rcases List.mem_cons.1 h with e|e
      · exact List.mem_cons.2 (.inl e)
      · exact List.mem_cons_of_mem _ (ih _ _ e)
    · exact List.mem_cons_of_mem _ (ih _ _ h)
theorem places_get (r:SetS):∀ (bv:List BV) (i n k:Nat),k < bv.length→(placesS r bv.length i n)[k]?=some ((n+(keptV r i (bv.take k)).length:Nat):Int):=by
  intro bv
  induction bv with
  | nil=>intro i n k h;simp at h
  | cons a bv ih =>
    intro i n k h
    cases k with
    | zero=>simp [placesS,keptV]
    | succ k =>
      have hk:k < bv.length:=by simpa using h
      rw [List.length_cons,placesS,List.getElem?_cons_succ,ih (i+1) _ k hk,List.take_succ_cons,keptV]
      split
      · simp only [List.length_cons];congr 2;omega
      · rfl
theorem places_len (r:SetS):∀ (m i n:Nat),(placesS r m i n).length=m:=by
  intro m
  induction m with
  | zero=>intro i n;rfl
  | succ m ih=>intro i n;rw [placesS,List.length_cons,ih]
theorem keptV_sep {r:SetS} {bv:List BV}:∀ {i:Nat},(∀ (a b:Nat) (x y:BV),bv[a]?=some x→bv[b]?=some y→x.ins≠[]→y.ins≠[]→x.r=y.r→a=b) →
    ∀ (a b:Nat) (x y:BV),(keptV r i bv)[a]?=some x→(keptV r i bv)[b]?=some y→x.ins≠[]→y.ins≠[]→x.r=y.r→a=b:=by
  induction bv with
  | nil=>intro i _ a b x y h;simp [keptV] at h
  | cons c bv ih =>
    intro i hs
    have hs':∀ (a b:Nat) (x y:BV),bv[a]?=some x→bv[b]?=some y→x.ins≠[]→y.ins≠[]→x.r=y.r→a=b:=fun a b x y h1 h2 h3 h4 h5=>by
      have:=hs (a+1) (b+1) x y (by simpa using h1) (by simpa using h2) h3 h4 h5
      omega
    rw [keptV]
    split
    · intro a b x y h1 h2 h3 h4 h5
      have far:∀ {k:Nat} {z:BV},(keptV r (i+1) bv)[k]?=some z→z.ins≠[]→c.ins≠[]→c.r≠z.r:=by
        intro k z hz hzn hcn e
        obtain ⟨j,hj⟩:=List.mem_iff_getElem?.1 (keptV_mem r bv _ _ (List.mem_of_getElem? hz))
        have:=hs 0 (j+1) c z (by simp) (by simpa using hj) hcn hzn e
        omega
      cases a with
      | zero =>
        simp only [List.getElem?_cons_zero,Option.some.injEq] at h1
        subst h1
        cases b with
        | zero=>rfl
        | succ b=>exact absurd h5 (far (by simpa using h2) h4 h3)
      | succ a =>
        cases b with
        | zero =>
          simp only [List.getElem?_cons_zero,Option.some.injEq] at h2
          subst h2
          exact absurd h5.symm (far (by simpa using h1) h3 h4)
        | succ b =>
          have:=ih hs' a b x y (by simpa using h1) (by simpa using h2) h3 h4 h5
          omega
    · exact ih hs'
theorem reachPush_has {k:Int}:∀ (l:List Int) (s:SetS) (w:List Int),hasS s k=true→hasS (reachPush s w l).1 k=true:=by
  intro l
  induction l with
  | nil=>intro s w h;exact h
  | cons a l ih =>
    intro s w h
    unfold reachPush
    split
    · exact ih _ _ h
    · exact ih _ _ (by rw [hasS_put,h];simp)
theorem reachGo_has {bl:List BlockS} {k:Int}:∀ (m:Nat) (s:SetS) (w:List Int),hasS s k=true→hasS (reachGo bl m s w) k=true:=by
  intro m
  induction m with
  | zero=>intro s w h;exact h
  | succ m ih =>
    intro s w h
    cases w with
    | nil=>exact h
    | cons n w=>rw [reachGo];exact ih _ _ (reachPush_has _ _ _ h)
theorem reached_zero {bl:List BlockS} (h:0 < bl.length):hasS (reachedS bl) 0=true:=by
  unfold reachedS
  rw [if_neg (by omega)]
  refine reachGo_has _ _ _ ?_
  rw [hasS_put,emptyS_length]
  simp
  exact .inr (by omega)
theorem ints_set (l:List Int) (i:Nat) (v:Int):setL (l.map (.int .i64)) (0+i * 1) [.int .i64 v]=(l.set i v).map (.int .i64):=by
  rw [setL_cons,setL_nil,List.map_set,Nat.zero_add,Nat.mul_one]
theorem rep_int (n:Nat):repL (cellsV (.int .i64 0)) n=(List.replicate n (0:Int)).map (.int .i64):=by
  induction n with
  | zero=>rfl
  | succ n ih=>rw [repL,ih,List.replicate_succ];rfl
theorem OwnB.up35 {h H:Hp} {bb:Nat} {bv:List BV} (o:OwnB h bb bv) (hu:∀ i b,h.m i=some b→b.elem≠37→H.m i=some b):OwnB H bb bv :=
  ⟨o.rw,hu _ _ o.m (by simp),fun b hb hn=>⟨(o.row b hb hn).1,hu _ _ (o.row b hb hn).2 (by simp)⟩,fun b hb x hx hn=>⟨(o.arg b hb x hx hn).1,hu _ _ (o.arg b hb x hx hn).2 (by simp)⟩,o.sep⟩
set_option maxRecDepth 100000 in
theorem drop_ex (h:Hp) (bb:Nat) (bv:List BV) (f:FuncS) (A1:Option Addr) (c1:Nat) (A2:Option Addr) (c2 c3:Nat) (hfl:f.blocks=sL bv) (hpos:0 < bv.length) (hlen:bv.length≤100000)
    (hob:OwnB h bb bv) (htg:tgtOK (sL bv)) :
    EX Tryd.prog 53 [.agg ⟨funcC f A1 c1 A2 c2 (some ⟨bb,0,none⟩) c3⟩] h (fun v h'=>∃ lb kv,v=.agg ⟨funcC { f with blocks:=dropS (sL bv) } A1 c1 A2 c2 (some ⟨lb,0,none⟩) (capOf 9)⟩∧OwnB h' lb kv∧sL kv=dropS (sL bv)∧Old h h'∧∀ i,Foot lb kv i→Foot bb bv i∨h.n≤i):=by
  refine EX.intro (fn:=Tryd.f53) (c:=(Tryd.f53.body.getD .skip)) Tryd.func53 (by kernel_rfl) Tryd.ntmps53 (by kernel_rfl) fun π s0=>?_
  conv=>arg 2;whnf
  have hd:=s0.dom
  have hfl':f.blocks.length=bv.length:=by rw [hfl,sL_length]
  have hne':sL bv≠[]:=by
    intro e
    have h0:(sL bv).length=0:=by rw [e];rfl
    rw [sL_length] at h0
    omega
  have hlen':(sL bv).length≤100000:=by rw [sL_length];omega
  ((with_reducible apply W.seq);repeat (first|((with_reducible apply RS.alloc);iterate 2 exact rfl)|((with_reducible apply RS.box);iterate 3 exact rfl)|((with_reducible apply RS.nil);exact mixed;kernel_rfl)|((with_reducible apply W.reg);kernel_rfl)|(with_reducible apply thenK_n)))
  refine W.absorbX fun B0 π0 a0=>?_
  have hF:B0.m (π 0)=some ⟨⟨funcC f A1 c1 A2 c2 (some ⟨bb,0,none⟩) c3⟩,37⟩:=a0.loc 0 (Nat.lt_of_lt_of_le Nat.zero_lt_one (Nat.le_succ 1))
  have hfb:h.n≤π 0:=a0.lo 0 (Nat.lt_of_lt_of_le Nat.zero_lt_one (Nat.le_succ 1))
  have hrb:h.n≤π 1:=a0.lo 1 (Nat.lt_succ_self 1)
  have hRb:B0.m (π 1)=some ⟨⟨cellsV (.agg ⟨funcC ⟨⟨#[]⟩,0,0,0,[],[]⟩ none 0 none 0 none 0⟩)⟩,37⟩:=a0.loc 1 (Nat.lt_succ_self 1)
  have hne01:π 0≠π 1:=fun e=>absurd (a0.inj 0 1 (Nat.lt_of_lt_of_le Nat.zero_lt_one (Nat.le_succ 1)) (Nat.lt_succ_self 1) e) (by decide)
  generalize π 0=fb at *
  generalize π 1=rb at *
  have hRw:rwM≤rb:=Nat.le_trans s0.rw hrb
  have hFw:rwM≤fb:=Nat.le_trans s0.rw hfb
  have hFn:=a0.dom _ _ hF
  have hRn:=a0.dom _ _ hRb
  have hfat:FAt B0 fb f.regs (some ⟨bb,0,none⟩) c3 (sL bv):=FunB.at ⟨hF,hFw⟩ (hob.up a0.up) hfl'
  ((with_reducible apply W.seq);repeat (first|((with_reducible apply RS.callEx);(iterate 3 exact rfl);intro B1 hB1;refine ⟨_,reached_ex fb f.regs (some ⟨bb,0,none⟩) c3 (sL bv) hne' hlen' htg B1 (hfat.up hB1.up),?_⟩;rintro v H1 π1 ⟨Ar,cr,rfl,hs1,ho1,hn1⟩ sH1 hle1)|((with_reducible apply RS.assign);iterate 3 exact rfl)|((with_reducible apply RS.nil);exact mixed;kernel_rfl)|((with_reducible apply W.reg);kernel_rfl)|(with_reducible apply thenK_n)))
  have hB1F:=(hB1.oldH.trans ho1).up a0.dom
  replace hF:=hB1F _ _ hF
  replace hRb:=hB1F _ _ hRb
  replace hFn:=sH1.dom _ _ hF
  replace hRn:=sH1.dom _ _ hRb
  have old1:Old h H1:=a0.oldH.trans (hB1.oldH.trans ho1)
  have hArn:∀ a,Ar=some a→h.n≤a.block:=fun a ha=>Nat.le_trans (Nat.le_trans a0.le hB1.le) (hn1 a ha)
  ((with_reducible apply W.seq);repeat (first|((with_reducible apply RS.load1B);(iterate 3 exact rfl);exact hF;exact hFn;exact rfl)|((with_reducible apply RS.makeSliceF);(iterate 6 exact rfl);omega;exact rep_int _;(intro u hu;obtain ⟨w,_,rfl⟩:=List.mem_map.1 hu;exact bnd_int _ _ _))|((with_reducible first|apply RS.assign|apply RS.lenSl|apply RS.fieldAddr);iterate 3 exact rfl)|((with_reducible apply RS.nil);exact mixed;kernel_rfl)|((with_reducible apply W.reg);kernel_rfl)|(with_reducible apply thenK_n)))
  ((with_reducible apply W.seq);repeat (first|((with_reducible apply RS.assign);iterate 3 exact rfl)|((with_reducible apply RS.nil);exact mixed;kernel_rfl)|((with_reducible apply W.reg);kernel_rfl)|(with_reducible apply thenK_n)))
  ((with_reducible apply W.seq);repeat (fail))
  refine W.absorbX fun B2 π2 a2=>?_
  have hP0:B2.m (π1 0)=some ⟨⟨(List.replicate f.blocks.length (0:Int)).map (.int .i64)⟩,3⟩:=a2.loc 0 (Nat.lt_succ_self 0)
  have hpb:H1.n≤π1 0:=a2.lo 0 (Nat.lt_succ_self 0)
  generalize π1 0=pb at *
  have hPw:rwM≤pb:=Nat.le_trans sH1.rw hpb
  replace hF:=a2.up _ _ hF
  replace hRb:=a2.up _ _ hRb
  have old2:Old h B2:=old1.trans a2.oldH
  replace hs1:=setAt_up hs1 a2.up
  generalize hr0:reachedS (sL bv)=r at *
  have hrl:r.length≤1000000000:=by rw [← hr0,reachedS_len,sL_length];omega
  have hFn2:=a2.dom _ _ hF
  replace hFn:=hFn2
  ((with_reducible apply W.seq);repeat (first|((with_reducible apply RS.load1B);(iterate 3 exact rfl);exact hF;exact hFn;exact rfl)|((with_reducible first|apply RS.move|apply RS.lenSl|apply RS.fieldAddr);iterate 3 exact rfl)|((with_reducible apply RS.nil);exact mixed;kernel_rfl)|((with_reducible apply W.reg);kernel_rfl)|(with_reducible first|apply W.block|apply thenK_n)))
  refine W.loopN (X:=Nat × List Int × Nat) (fun x=>[(1,.pointer (some ⟨fb,0,none⟩)),(2,.pointer (some ⟨rb,0,none⟩)),(3,.slice Ar r.length cr),(4,.slice (some ⟨pb,0,none⟩) f.blocks.length f.blocks.length),(5,rowVl 9 x.2.2 ((keptV r 0 (bv.take x.1)).map BV.c)),(16,.slice (some ⟨bb,0,none⟩) f.blocks.length c3),(17,.int .i64 (f.blocks.length:Int)),(18,.int .i64 (x.1:Int))])
    (fun x B=>x.1≤bv.length∧Old h B∧B.m fb=some ⟨⟨funcC f A1 c1 A2 c2 (some ⟨bb,0,none⟩) c3⟩,37⟩∧B.m rb=some ⟨⟨cellsV (.agg ⟨funcC ⟨⟨#[]⟩,0,0,0,[],[]⟩ none 0 none 0 none 0⟩)⟩,37⟩∧SetAt B Ar r∧(x.2.1.length=bv.length∧B.m pb=some ⟨⟨x.2.1.map (.int .i64)⟩,3⟩∧∀ k,k < x.1→x.2.1[k]?=some (((keptV r 0 (bv.take k)).length:Nat):Int))∧(keptV r 0 (bv.take x.1)≠[]→rwM≤x.2.2∧h.n≤x.2.2∧B.m x.2.2=some ⟨⟨((keptV r 0 (bv.take x.1)).map BV.c).flatten⟩,50⟩)) (fun x=>bv.length - x.1)
    (fun B' a=>⟨(0,List.replicate f.blocks.length 0,0),?_,⟨Nat.zero_le _,old2.trans a.oldH,a.up _ _ hF,a.up _ _ hRb,setAt_up hs1 a.up,⟨by simp [hfl'],a.up _ _ hP0,fun k hk=>by omega⟩,fun hn=>absurd (by rw [List.take_zero];rfl) hn⟩⟩) ?_
  · rw [List.take_zero]
    (repeat' (first|exact trivial|exact rfl|apply And.intro));done
  rintro ⟨i,p,lb⟩ B π3 sB ⟨hi,hold,hF,hRb,hs,⟨hpl,hP,hpk⟩,hK⟩
  dsimp only at hi hold hF hRb hs hpl hP hpk hK ⊢
  have hFn:=sB.dom _ _ hF
  have hPn:=sB.dom _ _ hP
  have ob:=hob.up (hold.up hd)
  have hO:=ob.m
  have hOn:=sB.dom _ _ hO
  by_cases hlt:i < bv.length
  · obtain ⟨b,hb⟩:∃ b,bv[i]?=some b:=⟨_,List.getElem?_eq_getElem hlt⟩
    have hif:fitI (i:Int):=by unfold fitI;omega
    have hkn:(keptV r 0 (bv.take (i+1)))=keptV r 0 (bv.take i)++(if hasS r (i:Int)=true then [b] else []):=by
      have:=keptV_take r bv 0 i b hb
      rwa [Nat.zero_add] at this
    generalize hKi:keptV r 0 (bv.take i)=Ki at *
    ((with_reducible apply W.seq);repeat (first|((with_reducible apply RS.cmpT);(iterate 4 exact rfl);(simp only [cmpP];omega))|((with_reducible apply RS.nil);exact mixed;kernel_rfl)|((with_reducible apply W.reg);kernel_rfl)|(with_reducible apply thenK_n)))
    ((with_reducible apply W.seq);repeat (first|(with_reducible first|apply W.skip|apply thenK_n)|((with_reducible apply W.condT);kernel_rfl;exact rfl)))
    ((with_reducible apply W.seq);repeat (first|(with_reducible apply W.block)))
    ((with_reducible apply W.seq);repeat (first|((with_reducible apply RS.indexAddrS);(iterate 5 exact rfl);omega)|((with_reducible apply RS.loadNB);(iterate 3 exact rfl);exact hO;exact hOn;exact (bv_block hb (by omega)).2;exact (bv_block hb (by omega)).1)|((with_reducible first|apply RS.move|apply RS.assign);iterate 3 exact rfl)|((with_reducible apply RS.store);(iterate 5 exact rfl);exact Nat.le_of_ble_eq_true rfl;iterate 3 exact rfl)|((with_reducible apply RS.alloc);iterate 2 exact rfl)|((with_reducible apply RS.nil);exact mixed;kernel_rfl)|((with_reducible apply W.reg);kernel_rfl)|(with_reducible apply thenK_n)))
    refine W.absorbX fun B3 π4 a3=>?_
    have hq:B3.m (π3 0)=some ⟨⟨blockC b.s b.A b.k⟩,50⟩:=a3.loc 0 (Nat.lt_succ_self 0)
    have hqlo:B.n≤π3 0:=a3.lo 0 (Nat.lt_succ_self 0)
    generalize π3 0=q at *
    have hP3:=a3.up _ _ hP
    have hP3n:=a3.dom _ _ hP3
    have hKlen:Ki.length≤bv.length:=by
      have:∀ (l:List BV) (j:Nat),(keptV r j l).length≤l.length:=by
        intro l
        induction l with
        | nil=>intro j;simp [keptV]
        | cons a l ih =>
          intro j
          have:=ih (j+1)
          rw [keptV]
          split<;>simp<;>omega
      have h1:=this (bv.take i) 0
      rw [hKi] at h1
      simp at h1
      omega
    ((with_reducible apply W.seq);repeat (first|((with_reducible apply RS.indexAddrS);(iterate 5 exact rfl);omega)|((with_reducible apply RS.lenRow);iterate 3 exact rfl)|((with_reducible apply RS.storeB);(iterate 3 exact rfl);exact hP3;exact hP3n;exact hPw;(simp only [List.length_map];omega);(iterate 2 exact rfl);exact ints_set p i _)|((with_reducible apply RS.move);iterate 3 exact rfl)|((with_reducible apply RS.nil);exact mixed;kernel_rfl)|((with_reducible apply W.reg);kernel_rfl)|(with_reducible apply thenK_n)))
    have keep:∀ {j:Nat} {x:Blk},B3.m j=some x→x.elem≠3→∀ z,(B3.set pb z).m j=some x:=by
      intro j x hx he z
      show (if j=pb then _ else _)=_
      rw [if_neg (ne_of_elem hx hP3 he)]
      exact hx
    have hs4:∀ z,SetAt (B3.set pb z) Ar r:=by
      intro z
      have:=setAt_up hs a3.up
      cases this with
      | none=>exact .none
      | some hm hr=>exact .some (keep hm (by simp) z) hr
    have hq4:=fun z=>keep hq (by simp) z
    have hq4n:q < B3.n:=a3.dom _ _ hq
    have hK3:Ki≠[]→rwM≤lb∧h.n≤lb∧B3.m lb=some ⟨⟨(Ki.map BV.c).flatten⟩,50⟩:=fun hn=>⟨(hK hn).1,(hK hn).2.1,a3.up _ _ (hK hn).2.2⟩
    have hKq:∀ (z:Blk) (Bq:Hp),(∀ j x,(B3.set pb z).m j=some x→Bq.m j=some x)→Ki.map BV.c≠[]→rwM≤lb∧Bq.m lb=some ⟨⟨(Ki.map BV.c).flatten⟩,50⟩:=by
      intro z Bq hu hn
      have hn:Ki≠[]:=fun e=>hn (by rw [e];rfl)
      exact ⟨(hK3 hn).1,hu _ _ (keep (hK3 hn).2.2 (by simp) z)⟩
    have hp':∀ k,k < i+1→(p.set i ((Ki.map BV.c).length:Int))[k]?=some (((keptV r 0 (bv.take k)).length:Nat):Int):=by
      intro k hk
      rw [List.getElem?_set]
      by_cases e:i=k
      · subst e
        rw [if_pos rfl,if_pos (by omega),hKi,List.length_map]
      · rw [if_neg e];exact hpk k (by omega)
    have hpl':(p.set i ((Ki.map BV.c).length:Int)).length=bv.length:=by rw [List.length_set];exact hpl
    have hF3:=a3.up _ _ hF
    have hRb3:=a3.up _ _ hRb
    have hpbn:h.n≤pb:=Nat.le_trans old1.1 hpb
    have oldz:∀ z,Old h (B3.set pb z):=by
      intro z
      exact ((hold.trans a3.oldH).off.same ((OffS.set B3 pb z).mono (T:=fun j=>h.n≤j) fun j _ e=>by rw [e];exact hpbn)).old fun j hj e=>by omega
    ((with_reducible apply W.seq);repeat (first|((with_reducible apply RS.callA);(iterate 3 exact rfl);exact fun B6 hB6=>has_tf r _ _ (i:Int) hif hrl B6 (setAt_up (hs4 _) hB6.up))|((with_reducible apply RS.move);iterate 3 exact rfl)|((with_reducible apply RS.nil);exact mixed;kernel_rfl)|((with_reducible apply W.reg);kernel_rfl)|(with_reducible apply thenK_n)))
    repeat' ((first|(((with_reducible apply RS.splitD);iterate 2 exact rfl)<;>intro _)|((((with_reducible apply RS.splitG);iterate 2 exact rfl)<;>intro _)<;>(fail_if_success cases ‹true=false›)<;>(fail_if_success cases ‹false=true›))|(((with_reducible apply W.condD);exact rfl)<;>intro _)|((((with_reducible apply W.cond);exact rfl)<;>intro _)<;>(fail_if_success cases ‹true=false›)<;>(fail_if_success cases ‹false=true›)))<;>repeat (first|((with_reducible apply RS.loadNB);(iterate 3 exact rfl);exact hq4 _;exact hq4n;exact Nat.le_of_ble_eq_true rfl;exact rfl)|((with_reducible apply RS.buildSlice);iterate 8 exact rfl)|((with_reducible apply RS.pushRow (v:=blockC b.s b.A b.k) (L:=Ki.map BV.c));(iterate 6 exact rfl);exact fun Bq hBq=>⟨hBq.loc 0 (Nat.lt_succ_self 0),fun hn=>hKq _ Bq hBq.up hn⟩;exact bv_wid Ki;(iterate 2 exact rfl);(rw [List.length_map];omega);(rw [List.length_map];omega);intro B7 hB7 r7 H7 π7 sH7 hr7 hm7 hle7 hoff7)|((with_reducible first|apply RS.move|apply RS.assign);iterate 3 exact rfl)|((with_reducible apply RS.add1);(iterate 4 exact rfl);omega)|((with_reducible apply RS.nil);exact mixed;kernel_rfl)|((with_reducible apply W.reg);kernel_rfl)|(with_reducible first|apply W.skip|apply thenK_n|apply blockK_n)))
    · have hh:hasS r (i:Int)=true:=‹hasS r (i:Int)=true›
      rw [if_pos hh] at hkn
      have e1:(Ki++[b]).map BV.c=Ki.map BV.c++[blockC b.s b.A b.k]:=by rw [List.map_append,← BVc_eq];rfl
      have tr:∀ {j:Nat} {x:Blk},B7.m j=some x→x.elem≠50→H7.m j=some x:=by
        intro j x hx he
        rw [hoff7 j (hB7.dom _ _ hx) fun hn e=>by
          have:=(hKq _ B7 hB7.up hn).2
          rw [← e,hx] at this
          injection this with this
          rw [this] at he
          exact he rfl]
        exact hx
      have old7:Old h H7:=by
        refine (((oldz _).trans hB7.oldH).off.same (S:=fun j=>h.n≤j) ⟨hle7,fun j hj hn=>hoff7 j hj fun hKn e=>hn ?_⟩).old fun j hj e=>by omega
        rw [e]
        exact (hK3 fun e=>hKn (by rw [e];rfl)).2.1
      have hr7n:h.n≤r7:=Nat.le_trans (Nat.le_trans (oldz ⟨⟨(p.set i ((Ki.map BV.c).length:Int)).map (.int .i64)⟩,3⟩).1 hB7.le) hr7
      refine roundN_n rfl fun B' a=>⟨(i+1,p.set i ((Ki.map BV.c).length:Int),r7),?_,⟨by omega,old7.trans a.oldH,a.up _ _ (tr (hB7.up _ _ (keep hF3 (by simp) _)) (by simp)),a.up _ _ (tr (hB7.up _ _ (keep hRb3 (by simp) _)) (by simp)),?_,⟨hpl',a.up _ _ (tr (hB7.up _ _ (by show (if pb=pb then _ else _)=_;rw [if_pos rfl])) (by simp)),hp'⟩,?_⟩,?_⟩
      · dsimp only
        rw [hkn,e1]
        (repeat' (first|exact trivial|exact rfl|apply And.intro));done
      · have:=setAt_up (hs4 ⟨⟨(p.set i ((Ki.map BV.c).length:Int)).map (.int .i64)⟩,3⟩) hB7.up
        cases this with
        | none=>exact .none
        | some hm hr=>exact .some (a.up _ _ (tr hm (by simp))) hr
      · dsimp only
        rw [hkn,e1]
        exact fun _=>⟨Nat.le_trans s0.rw hr7n,hr7n,a.up _ _ hm7⟩
      · show bv.length - (i+1) < bv.length - i
        omega
    · have hh:hasS r (i:Int)=false:=‹hasS r (i:Int)=false›
      rw [if_neg (by rw [hh];simp),List.append_nil] at hkn
      refine roundN_n rfl fun B' a=>⟨(i+1,p.set i ((Ki.map BV.c).length:Int),lb),?_,⟨by omega,(oldz _).trans a.oldH,a.up _ _ (keep hF3 (by simp) _),a.up _ _ (keep hRb3 (by simp) _),setAt_up (hs4 _) a.up,⟨hpl',a.up _ _ (by show (if pb=pb then _ else _)=_;rw [if_pos rfl]),hp'⟩,?_⟩,?_⟩
      · dsimp only
        rw [hkn]
        (repeat' (first|exact trivial|exact rfl|apply And.intro));done
      · dsimp only
        rw [hkn]
        exact fun hn=>⟨(hK3 hn).1,(hK3 hn).2.1,a.up _ _ (keep (hK3 hn).2.2 (by simp) _)⟩
      · show bv.length - (i+1) < bv.length - i
        omega
  · have hii:i=bv.length:=by omega
    subst hii
    rw [List.take_length] at *
    generalize hKd:keptV r 0 bv=Kv at *
    have hKne:Kv≠[]:=by
      rw [← hKd]
      cases bv with
      | nil=>simp at hpos
      | cons b bv =>
        have hz:hasS r 0=true:=by rw [← hr0];exact reached_zero (by rw [sL_length];exact hpos)
        have hz:hasS r ((0:Nat):Int)=true:=hz
        rw [keptV,if_pos hz]
        simp
    obtain ⟨hlr,hlh,hlm⟩:=hK hKne
    have hpe:p=placesS r bv.length 0 0:=by
      apply List.ext_getElem?
      intro k
      by_cases hk:k < bv.length
      · rw [hpk k hk,places_get r bv 0 0 k hk,Nat.zero_add]
      · rw [List.getElem?_eq_none_iff.2 (by omega),List.getElem?_eq_none_iff.2 (by rw [places_len];omega)]
    have hKsub:∀ b∈Kv,b∈bv:=fun b hb=>keptV_mem r bv 0 b (by rw [hKd];exact hb)
    have hKw:OwnB B lb Kv:=⟨hlr,hlm,fun b hb hn=>ob.row b (hKsub b hb) hn,fun b hb=>ob.arg b (hKsub b hb),by rw [← hKd];exact keptV_sep ob.sep⟩
    have hKl:Kv.length≤bv.length:=by
      have:∀ (l:List BV) (j:Nat),(keptV r j l).length≤l.length:=by
        intro l
        induction l with
        | nil=>intro j;simp [keptV]
        | cons a l ih =>
          intro j
          have:=ih (j+1)
          rw [keptV]
          split<;>simp<;>omega
      have h1:=this bv 0
      rwa [hKd] at h1
    obtain ⟨KV,hKV⟩:∃ KV:Nat→List BV,∀ k,KV k=(Kv.take k).map (fun b=>{ b with term:=placeT p b.term })++Kv.drop k:=⟨_,fun k=>rfl⟩
    have hKV0:KV 0=Kv:=by rw [hKV];simp
    have hKVl:∀ k,(KV k).length=Kv.length:=by intro k;rw [hKV];simp;omega
    have hKVk:∀ k b,Kv[k]?=some b→(KV k)[k]?=some b∧KV (k+1)=(KV k).set k { b with term:=placeT p b.term }:=by
      intro k b hb
      have hk:=(List.getElem?_eq_some_iff.1 hb).1
      have hlk:((Kv.take k).map (fun b=>{ b with term:=placeT p b.term })).length=k:=by simp;omega
      obtain ⟨_,hb2⟩:=List.getElem?_eq_some_iff.1 hb
      have hdr:Kv.drop k=b::Kv.drop (k+1):=by rw [List.drop_eq_getElem_cons hk,hb2]
      rw [hKV,hKV]
      constructor
      · rw [List.getElem?_append_right (by omega),hlk,Nat.sub_self,hdr];rfl
      · rw [List.set_append_right _ _ (by omega),hlk,Nat.sub_self,hdr,List.set_cons_zero,List.take_succ_eq_append_getElem hk,hb2]
        simp
    have hrv:=rowVl_ne (sz:=9) (r:=lb) (l:=Kv.map BV.c) (by simpa using hKne)
    ((with_reducible apply W.seq);repeat (first|((with_reducible apply RS.cmpF);(iterate 4 exact rfl);(simp only [cmpN];omega))|((with_reducible apply RS.nil);exact mixed;kernel_rfl)|((with_reducible apply W.reg);kernel_rfl)|(with_reducible apply thenK_n)))
    ((with_reducible apply W.seq);repeat (first|(with_reducible first|apply W.exit|apply thenK_n|apply thenK_e|apply roundN_e)|((with_reducible apply W.condF);kernel_rfl;exact rfl)|((with_reducible apply blockK_hit);exact rfl)))
    ((with_reducible apply W.seq);repeat (fail))
    ((with_reducible apply W.seq);repeat (first|((with_reducible apply RS.lenRow);iterate 3 exact rfl)|((with_reducible apply RS.move);iterate 3 exact rfl)|((with_reducible apply RS.nil);exact mixed;kernel_rfl)|((with_reducible apply W.reg);kernel_rfl)|(with_reducible first|apply W.block|apply thenK_n)))
    refine W.loopN (X:=Nat) (fun k=>[(1,.pointer (some ⟨fb,0,none⟩)),(2,.pointer (some ⟨rb,0,none⟩)),(4,.slice (some ⟨pb,0,none⟩) f.blocks.length f.blocks.length),(5,.slice (some ⟨lb,0,none⟩) (Kv.map BV.c).length (capOf 9)),(37,.int .i64 ((Kv.map BV.c).length:Int)),(38,.int .i64 (k:Int))])
      (fun k B=>k≤Kv.length∧Old h B∧B.m fb=some ⟨⟨funcC f A1 c1 A2 c2 (some ⟨bb,0,none⟩) c3⟩,37⟩∧B.m rb=some ⟨⟨cellsV (.agg ⟨funcC ⟨⟨#[]⟩,0,0,0,[],[]⟩ none 0 none 0 none 0⟩)⟩,37⟩∧B.m pb=some ⟨⟨p.map (.int .i64)⟩,3⟩∧OwnB B lb (KV k)) (fun k=>Kv.length - k)
      (fun B' a=>⟨0,?_,⟨Nat.zero_le _,hold.trans a.oldH,a.up _ _ hF,a.up _ _ hRb,a.up _ _ hP,by rw [hKV0];exact hKw.up a.up⟩⟩) ?_
    · rw [← hrv]
      (repeat' (first|exact trivial|exact rfl|apply And.intro));done
    intro k B9 π9 sB9 hI9
    obtain ⟨hk9,old9,hF9,hRb9,hP9,ow⟩:=hI9
    have hF9n:=sB9.dom _ _ hF9
    have hRb9n:=sB9.dom _ _ hRb9
    have hP9n:=sB9.dom _ _ hP9
    have hO9:=ow.m
    have hO9n:=sB9.dom _ _ hO9
    have hml:(Kv.map BV.c).length=Kv.length:=List.length_map _
    by_cases hlk:k < Kv.length
    · obtain ⟨b,hb⟩:∃ b,Kv[k]?=some b:=⟨_,List.getElem?_eq_getElem hlk⟩
      obtain ⟨hbk,hnx⟩:=hKVk k b hb
      have hbv:=hKsub b (List.mem_of_getElem? hb)
      have htb:=htg b.s (by unfold sL;exact List.mem_map_of_mem hbv)
      have hpm:∀ {t:Int} {g:Nat},t=(g:Int)→g < bv.length→∃ pg,p[t.toNat]?=some pg∧(p.map (Value.int .i64))[0+g * 1]?=some (.int .i64 pg):=by
        intro t g e hg
        have e2:t.toNat=g:=by omega
        refine ⟨p[g],?_,?_⟩
        · rw [e2];exact List.getElem?_eq_getElem (by omega)
        · simp
      by_cases hk1:b.term.kind=1
      · have ht1:=htb b.term.goto (by show _∈nextS b.term;rw [nextS_1 hk1];simp)
        rw [sL_length] at ht1
        obtain ⟨g,hg⟩:∃ g:Nat,b.term.goto=(g:Int):=⟨b.term.goto.toNat,by omega⟩
        obtain ⟨pg,hp1,hp2⟩:=hpm hg (by omega)
        have hpt:placeT p b.term={ b.term with goto:=pg }:=by unfold placeT;rw [if_pos hk1,hp1];rfl
        rw [hpt] at hnx
        have keep9:∀ {j:Nat} {x:Blk},B9.m j=some x→x.elem≠50→∀ z,(B9.set lb z).m j=some x:=by
          intro j x hx he z
          show (if j=lb then _ else _)=_
          rw [if_neg (ne_of_elem hx hO9 he)]
          exact hx
        have old9':∀ z,Old h (B9.set lb z):=fun z=>(old9.off.same ((OffS.set B9 lb z).mono (T:=fun j=>h.n≤j) fun j _ e=>by rw [e];exact hlh)).old fun j hj e=>by omega
        repeat (first|((with_reducible apply RS.indexAddrS);(iterate 5 exact rfl);omega)|((with_reducible apply RS.load1B);(iterate 3 exact rfl);first|exact hO9;exact hO9n;exact bv_cell (o:=1) hbk (by omega) (by decide) rfl|exact hO9;exact hO9n;exact bv_cell (o:=7) hbk (by omega) (by decide) rfl|exact hP9;exact hP9n;exact hp2)|((with_reducible apply RS.indexAddrS);(iterate 4 exact rfl);exact hg;omega)|((with_reducible apply RS.storeB);(iterate 3 exact rfl);exact hO9;exact hO9n;exact hlr;exact (bv_cells (o:=7) (n:=1) hbk (by omega) (by decide)).2;(iterate 2 exact rfl);exact bv_write (o:=7) (b':={ b with term:={ b.term with goto:=pg } }) hbk (by omega) (Nat.le_of_ble_eq_true rfl) rfl)|((with_reducible first|apply RS.nilCheck|apply RS.move|apply RS.assign|apply RS.fieldAddr);iterate 3 exact rfl)|((with_reducible apply RS.cmpT);(iterate 4 exact rfl);(simp only [cmpP];omega))|((with_reducible apply RS.add1);(iterate 4 exact rfl);omega)|((with_reducible apply RS.nil);exact mixed;kernel_rfl)|(with_reducible first|apply W.seq|apply W.block|apply W.skip|apply thenK_n|apply blockK_n)|((with_reducible apply W.reg);kernel_rfl)|((with_reducible apply W.condT);kernel_rfl;exact rfl))
        repeat' ((first|(((with_reducible apply RS.splitD);iterate 2 exact rfl)<;>intro _)|((((with_reducible apply RS.splitG);iterate 2 exact rfl)<;>intro _)<;>(fail_if_success cases ‹true=false›)<;>(fail_if_success cases ‹false=true›))|(((with_reducible apply W.condD);exact rfl)<;>intro _)|((((with_reducible apply W.cond);exact rfl)<;>intro _)<;>(fail_if_success cases ‹true=false›)<;>(fail_if_success cases ‹false=true›)))<;>repeat (fail))
        refine roundN_n rfl fun B' a=>⟨k+1,?_,⟨by omega,(old9' _).trans a.oldH,a.up _ _ (keep9 hF9 (by simp) _),a.up _ _ (keep9 hRb9 (by simp) _),a.up _ _ (keep9 hP9 (by simp) _),by rw [hnx];exact (ow.setT hbk _).up a.up⟩,?_⟩
        · (repeat' (first|exact trivial|exact rfl|apply And.intro));done
        · show Kv.length - (k+1) < Kv.length - k
          omega
      · by_cases hk2:b.term.kind=2
        · have ht1:=htb b.term.goto (by show _∈nextS b.term;rw [nextS_2 hk2];simp)
          have ht2:=htb b.term.els (by show _∈nextS b.term;rw [nextS_2 hk2];simp)
          rw [sL_length] at ht1 ht2
          obtain ⟨g,hg⟩:∃ g:Nat,b.term.goto=(g:Int):=⟨b.term.goto.toNat,by omega⟩
          obtain ⟨g2,hg2⟩:∃ g:Nat,b.term.els=(g:Int):=⟨b.term.els.toNat,by omega⟩
          obtain ⟨pg,hp1,hp2⟩:=hpm hg (by omega)
          obtain ⟨pg2,hp3,hp4⟩:=hpm hg2 (by omega)
          have hpt:placeT p b.term={ b.term with goto:=pg,els:=pg2 }:=by unfold placeT;rw [if_neg hk1,if_pos hk2,hp1,hp3];rfl
          rw [hpt] at hnx
          have ow1:=ow.setT hbk { b.term with goto:=pg }
          have hO9':=ow1.m
          have hb1:((KV k).set k { b with term:={ b.term with goto:=pg } })[k]?=some { b with term:={ b.term with goto:=pg } }:=by rw [List.getElem?_set,if_pos rfl,if_pos (by rw [hKVl];exact hlk)]
          have ow2:=ow1.setT hb1 { b.term with goto:=pg,els:=pg2 }
          rw [Hp.set_set] at ow2
          have keep9:∀ {j:Nat} {x:Blk},B9.m j=some x→x.elem≠50→∀ z,(B9.set lb z).m j=some x:=by
            intro j x hx he z
            show (if j=lb then _ else _)=_
            rw [if_neg (ne_of_elem hx hO9 he)]
            exact hx
          have old9':∀ z,Old h (B9.set lb z):=fun z=>(old9.off.same ((OffS.set B9 lb z).mono (T:=fun j=>h.n≤j) fun j _ e=>by rw [e];exact hlh)).old fun j hj e=>by omega
          repeat (first|((with_reducible apply RS.indexAddrS);(iterate 5 exact rfl);omega)|((with_reducible apply RS.load1B);(iterate 3 exact rfl);first|exact hO9;exact hO9n;exact bv_cell (o:=1) hbk (by omega) (by decide) rfl|exact hO9;exact hO9n;exact bv_cell (o:=7) hbk (by omega) (by decide) rfl|exact hO9;exact hO9n;exact bv_cell (o:=8) hbk (by omega) (by decide) rfl|exact hP9;exact hP9n;exact hp2|exact hP9;exact hP9n;exact hp4)|((with_reducible apply RS.indexAddrS);(iterate 4 exact rfl);first|exact hg;omega|exact hg2;omega)|((with_reducible apply RS.storeB);(iterate 3 exact rfl);first|exact hO9;exact hO9n;exact hlr;exact (bv_cells (o:=7) (n:=1) hbk (by omega) (by decide)).2;(iterate 2 exact rfl);exact bv_write (o:=7) (b':={ b with term:={ b.term with goto:=pg } }) hbk (by omega) (Nat.le_of_ble_eq_true rfl) rfl|exact hO9';exact hO9n;exact hlr;exact (bv_cells (o:=8) (n:=1) hb1 (by omega) (by decide)).2;(iterate 2 exact rfl);exact bv_write (o:=8) (b':={ b with term:={ b.term with goto:=pg,els:=pg2 } }) hb1 (by omega) (Nat.le_of_ble_eq_true rfl) rfl)|((with_reducible first|apply RS.nilCheck|apply RS.move|apply RS.assign|apply RS.fieldAddr);iterate 3 exact rfl)|((with_reducible apply RS.cmpT);(iterate 4 exact rfl);(simp only [cmpP];omega))|((with_reducible apply RS.cmpF);(iterate 4 exact rfl);(simp only [cmpN];omega))|((with_reducible apply RS.add1);(iterate 4 exact rfl);omega)|((with_reducible apply RS.nil);exact mixed;kernel_rfl)|(with_reducible first|apply W.seq|apply W.block|apply W.skip|apply thenK_n|apply blockK_n)|((with_reducible apply W.reg);kernel_rfl)|((with_reducible apply W.condT);kernel_rfl;exact rfl)|((with_reducible apply W.condF);kernel_rfl;exact rfl))
          repeat' ((first|(((with_reducible apply RS.splitD);iterate 2 exact rfl)<;>intro _)|((((with_reducible apply RS.splitG);iterate 2 exact rfl)<;>intro _)<;>(fail_if_success cases ‹true=false›)<;>(fail_if_success cases ‹false=true›))|(((with_reducible apply W.condD);exact rfl)<;>intro _)|((((with_reducible apply W.cond);exact rfl)<;>intro _)<;>(fail_if_success cases ‹true=false›)<;>(fail_if_success cases ‹false=true›)))<;>repeat (fail))
          rw [Hp.set_set]
          refine roundN_n rfl fun B' a=>⟨k+1,?_,⟨by omega,(old9' _).trans a.oldH,a.up _ _ (keep9 hF9 (by simp) _),a.up _ _ (keep9 hRb9 (by simp) _),a.up _ _ (keep9 hP9 (by simp) _),?_⟩,?_⟩
          · (repeat' (first|exact trivial|exact rfl|apply And.intro));done
          · have:=ow2.up a.up
            rw [List.set_set] at this
            rw [hnx];exact this
          · show Kv.length - (k+1) < Kv.length - k
            omega
        · have hpt:placeT p b.term=b.term:=by unfold placeT;rw [if_neg hk1,if_neg hk2]
          rw [hpt] at hnx
          have hsame:KV (k+1)=KV k:=by
            rw [hnx]
            apply List.ext_getElem?
            intro j
            rw [List.getElem?_set]
            by_cases e:k=j
            · subst e;rw [if_pos rfl,if_pos (by rw [hKVl];exact hlk),hbk]
            · rw [if_neg e]
          repeat (first|((with_reducible apply RS.indexAddrS);(iterate 5 exact rfl);omega)|((with_reducible apply RS.load1B);(iterate 3 exact rfl);exact hO9;exact hO9n;exact bv_cell (o:=1) hbk (by omega) (by decide) rfl)|((with_reducible first|apply RS.nilCheck|apply RS.move|apply RS.assign|apply RS.fieldAddr);iterate 3 exact rfl)|((with_reducible apply RS.cmpT);(iterate 4 exact rfl);(simp only [cmpP];omega))|((with_reducible apply RS.cmpF);(iterate 4 exact rfl);(simp only [cmpN];omega))|((with_reducible apply RS.add1);(iterate 4 exact rfl);omega)|((with_reducible apply RS.nil);exact mixed;kernel_rfl)|(with_reducible first|apply W.seq|apply W.block|apply W.skip|apply thenK_n|apply blockK_n)|((with_reducible apply W.reg);kernel_rfl)|((with_reducible apply W.condT);kernel_rfl;exact rfl)|((with_reducible apply W.condF);kernel_rfl;exact rfl))
          repeat' ((first|(((with_reducible apply RS.splitD);iterate 2 exact rfl)<;>intro _)|((((with_reducible apply RS.splitG);iterate 2 exact rfl)<;>intro _)<;>(fail_if_success cases ‹true=false›)<;>(fail_if_success cases ‹false=true›))|(((with_reducible apply W.condD);exact rfl)<;>intro _)|((((with_reducible apply W.cond);exact rfl)<;>intro _)<;>(fail_if_success cases ‹true=false›)<;>(fail_if_success cases ‹false=true›)))<;>repeat (fail))
          refine roundN_n rfl fun B' a=>⟨k+1,?_,⟨by omega,old9.trans a.oldH,a.up _ _ hF9,a.up _ _ hRb9,a.up _ _ hP9,by rw [hsame];exact ow.up a.up⟩,?_⟩
          · (repeat' (first|exact trivial|exact rfl|apply And.intro));done
          · show Kv.length - (k+1) < Kv.length - k
            omega
    · have hkk:k=Kv.length:=by omega
      have hKVe:KV k=Kv.map (fun b=>{ b with term:=placeT p b.term }):=by rw [hKV,hkk];simp
      have hdrop:sL (KV k)=dropS (sL bv):=by
        unfold dropS
        rw [hKVe,hr0,← sL_keptV,hKd,sL_length,← hpe]
        simp [sL,BV.s]
      have hlen3:(Kv.map BV.c).length=(dropS (sL bv)).length:=by rw [← hdrop,sL_length,hKVl,hml]
      rw [hlen3]
      have hfr:fb≠rb:=hne01
      have hFF:∀ X,(B9.set fb X).m fb=some X:=fun X=>by show (if fb=fb then _ else _)=_;rw [if_pos rfl]
      have hRR:∀ X,(B9.set fb X).m rb=some ⟨⟨cellsV (.agg ⟨funcC ⟨⟨#[]⟩,0,0,0,[],[]⟩ none 0 none 0 none 0⟩)⟩,37⟩:=fun X=>by
        show (if rb=fb then _ else B9.m rb)=_
        rw [if_neg (fun e=>hfr e.symm)];exact hRb9
      repeat (first|((with_reducible apply RS.storeB);(iterate 3 exact rfl);exact hF9;exact hF9n;exact hFw;exact Nat.le_of_ble_eq_true rfl;(iterate 2 exact rfl);exact (show setL (funcC f A1 c1 A2 c2 (some ⟨bb,0,none⟩) c3) (0+5) [.slice (some ⟨lb,0,none⟩) (dropS (sL bv)).length (capOf 9)]=funcC { f with blocks:=dropS (sL bv) } A1 c1 A2 c2 (some ⟨lb,0,none⟩) (capOf 9) from rfl))|((with_reducible apply RS.loadNB);(iterate 3 exact rfl);exact hFF _;exact hF9n;exact Nat.le_of_ble_eq_true rfl;exact rfl)|((with_reducible apply RS.storeB);(iterate 3 exact rfl);exact hRR _;exact hRb9n;exact hRw;exact Nat.le_of_ble_eq_true rfl;iterate 3 exact rfl)|((with_reducible first|apply RS.move|apply RS.fieldAddr);iterate 3 exact rfl)|((with_reducible apply RS.cmpF);(iterate 4 exact rfl);(simp only [cmpN];omega))|((with_reducible apply RS.nil);exact mixed;kernel_rfl)|(with_reducible first|apply W.seq|apply W.exit|apply W.ret|apply thenK_n|apply thenK_e|apply roundN_e)|((with_reducible apply W.reg);kernel_rfl)|((with_reducible apply W.condF);kernel_rfl;exact rfl)|((with_reducible apply blockK_hit);exact rfl))
      refine endsK_ret _ (.cons (.baseN (vs:=funcC { f with blocks:=dropS (sL bv) } A1 c1 A2 c2 (some ⟨lb,0,none⟩) (capOf 9)) rfl (by show (if rb=rb then _ else _)=_;rw [if_pos rfl]) (Nat.le_of_ble_eq_true rfl) rfl) .nil) fun B' a=>⟨lb,KV k,rfl,?_,hdrop,?_,?_⟩
      · refine ow.up35 fun j x hx he=>a.up _ _ ?_
        show (if j=rb then _ else (if j=fb then _ else B9.m j))=_
        rw [if_neg (ne_of_elem hx hRb9 he),if_neg (ne_of_elem hx hF9 he)]
        exact hx
      · refine ((old9.off.same (S:=fun j=>h.n≤j) ((OffS.set B9 fb _).mono fun j _ e=>by rw [e];exact hfb)).same ((OffS.set _ rb _).mono fun j _ e=>by rw [e];exact hrb)).same a.oldH.off |>.old fun j hj e=>by omega
      · rintro j (e|⟨x,hx,hxn,hxr⟩)
        · exact .inr (by rw [e];exact hlh)
        · rw [hKVe] at hx
          obtain ⟨y,hy,rfl⟩:=List.mem_map.1 hx
          exact .inl (.inr ⟨y,hKsub y hy,hxn,hxr⟩)
end Go.Proofs.YtjhloakacicdiaaDoor
namespace Go.Proofs.YtjhloakacicdiaaDoor
open Go.AH
attribute [local irreducible] W RS
theorem foot_trans {h B:Hp} {bb:Nat} {bv0 bv:List BV} (ho:OffS (Foot bb bv0) h B) (hf:∀ i,Foot bb bv i→Foot bb bv0 i∨h.n≤i) {i:Nat} (hi:i < h.n) (hx:Foot bb bv i):Foot bb bv0 i:=by
  rcases hf i hx with h1|h1
  · exact h1
  · omega
theorem meltI_setT {h:Hp} {bb:Nat} {bv0:List BV} {fb:Nat} {f:FuncS} {A1:Option Addr} {c1:Nat} {A2:Option Addr} {c2 c3:Nat} {bw:List BV} {B:Hp} (hI:MeltI h bb bv0 fb f A1 c1 A2 c2 c3 bw B) {i:Nat} {b:BV} (hb:bw[i]?=some b) (t:TermS) (ht:∀ k∈nextS t,0≤k∧k < (sL bw).length) :
    MeltI h bb bv0 fb f A1 c1 A2 c2 c3 (bw.set i { b with term:=t }) (B.set bb ⟨⟨((bw.set i { b with term:=t }).map BV.c).flatten⟩,50⟩):=by
  refine ⟨hI.ob.setT hb t,⟨?_,hI.fn.rw⟩,hI.off.trans (OffS.set B bb _) fun j _ e=>.inl e,fun j hj=>hI.foot j ((foot_setT hb t j).1 hj),by rw [List.length_set];exact hI.len,?_,?_⟩
  · show (if fb=bb then _ else B.m fb)=_
    rw [if_neg (ne_of_elem hI.fn.m hI.ob.m (by simp))]
    exact hI.fn.m
  · rw [sL_set]
    exact tgtOK_set hI.tgt ht
  · have:=totB_set (c:={ b with term:=t }) hb
    have h2:=hI.tot
    have h3:({ b with term:=t }:BV).ins.length=b.ins.length:=rfl
    omega
theorem set_same {α:Type} {l:List α} {i:Nat} {a:α} (h:l[i]?=some a):l.set i a=l:=by
  apply List.ext_getElem?
  intro j
  rw [List.getElem?_set]
  by_cases e:i=j
  · subst e;rw [if_pos rfl,if_pos (List.getElem?_eq_some_iff.1 h).1,h]
  · rw [if_neg e]
theorem nextS_turn' {bl:List BlockS} (ht:tgtOK bl) {i:Nat} {b:BlockS} (hb:bl[i]?=some b) {t:TermS} (e:turnT bl b.term=t):∀ k∈nextS t,0≤k∧k < bl.length:=by rw [← e];exact nextS_turn ht (List.mem_of_getElem? hb)
set_option maxRecDepth 100000 in
theorem ways_ex (h:Hp) (bb:Nat) (bv:List BV) (f:FuncS) (A1:Option Addr) (c1:Nat) (A2:Option Addr) (c2 c3:Nat) (hfl:f.blocks=sL bv) (hpos:0 < bv.length) (hlen:bv.length≤100000)
    (hob:OwnB h bb bv) (htg:tgtOK (sL bv)) (htot:totB bv≤1000000) :
    EX Tryd.prog 24 [.agg ⟨funcC f A1 c1 A2 c2 (some ⟨bb,0,none⟩) c3⟩] h (fun v h'=>∃ lb kv,v=.agg ⟨funcC { f with blocks:=waysS (sL bv) } A1 c1 A2 c2 (some ⟨lb,0,none⟩) (capOf 9)⟩∧OwnB h' lb kv∧sL kv=waysS (sL bv)∧OffS (Foot bb bv) h h'∧∀ i,Foot lb kv i→Foot bb bv i∨h.n≤i):=by
  refine EX.intro (fn:=Tryd.f24) (c:=(Tryd.f24.body.getD .skip)) Tryd.func24 (by kernel_rfl) Tryd.ntmps24 (by kernel_rfl) fun π s0=>?_
  conv=>arg 2;whnf
  have hd:=s0.dom
  have hfl':f.blocks.length=bv.length:=by rw [hfl,sL_length]
  ((with_reducible apply W.seq);repeat (first|((with_reducible apply RS.alloc);iterate 2 exact rfl)|((with_reducible apply RS.box);iterate 3 exact rfl)|((with_reducible apply RS.nil);exact mixed;kernel_rfl)|((with_reducible apply W.reg);kernel_rfl)|(with_reducible apply thenK_n)))
  refine W.absorbX fun B0 π0 a0=>?_
  have hF:B0.m (π 0)=some ⟨⟨funcC f A1 c1 A2 c2 (some ⟨bb,0,none⟩) c3⟩,37⟩:=a0.loc 0 (Nat.lt_of_lt_of_le Nat.zero_lt_one (Nat.le_succ 1))
  have hfb:h.n≤π 0:=a0.lo 0 (Nat.lt_of_lt_of_le Nat.zero_lt_one (Nat.le_succ 1))
  have hrb:h.n≤π 1:=a0.lo 1 (Nat.lt_succ_self 1)
  have hRb:B0.m (π 1)=some ⟨⟨cellsV (.agg ⟨funcC ⟨⟨#[]⟩,0,0,0,[],[]⟩ none 0 none 0 none 0⟩)⟩,37⟩:=a0.loc 1 (Nat.lt_succ_self 1)
  have hfr:π 0≠π 1:=fun e=>absurd (a0.inj 0 1 (Nat.lt_of_lt_of_le Nat.zero_lt_one (Nat.le_succ 1)) (Nat.lt_succ_self 1) e) (by decide)
  generalize π 0=fb at *
  generalize π 1=rb at *
  have hRw:rwM≤rb:=Nat.le_trans s0.rw hrb
  have hFw:rwM≤fb:=Nat.le_trans s0.rw hfb
  have hFn:=a0.dom _ _ hF
  have hRn:=a0.dom _ _ hRb
  have hM0:MeltI h bb bv fb f A1 c1 A2 c2 c3 bv B0:=⟨hob.up a0.up,⟨hF,hFw⟩,a0.oldH.off,fun i hi=>.inl hi,rfl,htg,htot⟩
  ((with_reducible apply W.seq);repeat (fail))
  ((with_reducible apply W.seq);repeat (first|((with_reducible apply RS.load1B);(iterate 3 exact rfl);exact hF;exact hFn;exact rfl)|((with_reducible first|apply RS.move|apply RS.lenSl|apply RS.fieldAddr);iterate 3 exact rfl)|((with_reducible apply RS.nil);exact mixed;kernel_rfl)|((with_reducible apply W.reg);kernel_rfl)|(with_reducible first|apply W.block|apply thenK_n)))
  refine W.loopN (X:=Nat × List BV) (fun x=>[(1,.pointer (some ⟨fb,0,none⟩)),(2,.pointer (some ⟨rb,0,none⟩)),(7,.int .i64 (f.blocks.length:Int)),(8,.int .i64 (x.1:Int))])
    (fun x B=>MeltI h bb bv fb f A1 c1 A2 c2 c3 x.2 B∧B.m rb=some ⟨⟨cellsV (.agg ⟨funcC ⟨⟨#[]⟩,0,0,0,[],[]⟩ none 0 none 0 none 0⟩)⟩,37⟩∧x.1≤bv.length∧turnUp bv.length (bv.length - x.1) (sL x.2)=turnS (sL bv)) (fun x=>bv.length - x.1)
    (fun B' a=>⟨(0,bv),?_,⟨hM0.up a0.dom a.oldH,a.up _ _ hRb,Nat.zero_le _,by show turnUp bv.length bv.length (sL bv)=_;unfold turnS;rw [sL_length]⟩⟩) ?_
  · (repeat' (first|exact trivial|exact rfl|apply And.intro));done
  rintro ⟨i,bw⟩ B π3 sB ⟨hI,hRb,hi,hgo⟩
  dsimp only at hI hRb hi hgo ⊢
  have hdB:=sB.dom
  have hF:=hI.fn.m
  have hFn:=hdB _ _ hF
  have hRn:=hdB _ _ hRb
  have hO:=hI.ob.m
  have hOn:=hdB _ _ hO
  have hwl:=hI.len
  have hfat:=hI.fn.at hI.ob (by rw [hI.len];exact hfl')
  have hwlen:(sL bw).length≤100000:=by rw [sL_length];omega
  have hwins:∀ b∈sL bw,b.ins.length≤1000000:=by
    intro b hb
    obtain ⟨x,hx,rfl⟩:=List.mem_map.1 hb
    have h1:=totB_le hx
    have h2:=hI.tot
    show (x.ins.map (·.1)).length≤1000000
    rw [List.length_map];omega
  by_cases hlt:i < bv.length
  · obtain ⟨b,hb⟩:∃ b,bw[i]?=some b:=⟨_,List.getElem?_eq_getElem (by omega)⟩
    obtain ⟨m,hm⟩:∃ m,bv.length - i=m+1:=⟨bv.length - i - 1,by omega⟩
    have him:bv.length - (m+1)=i:=by omega
    have hmm:bv.length - (i+1)=m:=by omega
    rw [hm,turnUp,him] at hgo
    have hta:turnAt (sL bw) i=(sL bw).set i { b.s with term:=turnT (sL bw) b.term }:=by unfold turnAt;rw [sL_at hb];rfl
    rw [hta] at hgo
    have htb:=hI.tgt b.s (List.mem_of_getElem? (sL_at hb))
    have hdS:∀ {t:TermS} (j:Nat) (x:Blk),(B.set bb ⟨⟨((bw.set i { b with term:=t }).map BV.c).flatten⟩,50⟩).m j=some x→j < (B.set bb ⟨⟨((bw.set i { b with term:=t }).map BV.c).flatten⟩,50⟩).n:=by
      intro t j x hx
      have hx:(if j=bb then _ else B.m j)=some x:=hx
      split at hx
      · rename_i e;rw [e];exact hOn
      · exact hdB j x hx
    by_cases hk1:b.term.kind=1
    · have ht1:=htb b.term.goto (by show _∈nextS b.term;rw [nextS_1 hk1];simp)
      repeat (first|((with_reducible apply RS.load1B);(iterate 3 exact rfl);exact hF;exact hFn;exact rfl)|((with_reducible apply RS.indexAddrS);(iterate 5 exact rfl);omega)|((with_reducible apply RS.load1B);(iterate 3 exact rfl);first|exact hO;exact hOn;exact bv_cell (o:=1) hb (by omega) (by decide) rfl|exact hO;exact hOn;exact bv_cell (o:=7) hb (by omega) (by decide) rfl)|((with_reducible apply RS.callR true []);(iterate 3 exact rfl);exact fun H hH=>through_tf fb f.regs _ c3 (sL bw) b.term.goto ht1 hwlen hwins hI.tgt H (hfat.up (sees_up hH hdB));exact Nm_free (by simp))|((with_reducible apply RS.storeB);(iterate 3 exact rfl);exact hO;exact hOn;exact hob.rw;exact (bv_cells (o:=7) (n:=1) hb (by omega) (by decide)).2;(iterate 2 exact rfl);exact bv_write (o:=7) (b':={ b with term:={ b.term with goto:=throughS (sL bw) b.term.goto } }) hb (by omega) (Nat.le_of_ble_eq_true rfl) rfl)|((with_reducible first|apply RS.nilCheck|apply RS.move|apply RS.assign|apply RS.fieldAddr);iterate 3 exact rfl)|((with_reducible apply RS.cmpT);(iterate 4 exact rfl);(simp only [cmpP];omega))|((with_reducible apply RS.add1);(iterate 4 exact rfl);omega)|((with_reducible apply RS.nil);exact mixed;kernel_rfl)|(with_reducible first|apply W.seq|apply W.block|apply W.skip|apply thenK_n|apply blockK_n)|((with_reducible apply W.reg);kernel_rfl)|((with_reducible apply W.condT);kernel_rfl;exact rfl))
      repeat' ((first|(((with_reducible apply RS.splitD);iterate 2 exact rfl)<;>intro _)|((((with_reducible apply RS.splitG);iterate 2 exact rfl)<;>intro _)<;>(fail_if_success cases ‹true=false›)<;>(fail_if_success cases ‹false=true›))|(((with_reducible apply W.condD);exact rfl)<;>intro _)|((((with_reducible apply W.cond);exact rfl)<;>intro _)<;>(fail_if_success cases ‹true=false›)<;>(fail_if_success cases ‹false=true›)))<;>repeat (fail))
      have hT:turnT (sL bw) b.term={ b.term with goto:=throughS (sL bw) b.term.goto }:=by unfold turnT;rw [if_pos hk1]
      refine roundN_n rfl fun B' a=>⟨(i+1,bw.set i { b with term:={ b.term with goto:=throughS (sL bw) b.term.goto } }),?_,⟨(meltI_setT hI hb _ (nextS_turn' hI.tgt (sL_at hb) hT)).up hdS a.oldH,a.up _ _ ?_,by omega,by rw [hmm,sL_set];rw [show turnT (sL bw) b.term=_ from hT] at hgo;exact hgo⟩,?_⟩
      · (repeat' (first|exact trivial|exact rfl|apply And.intro));done
      · show (if rb=bb then _ else B.m rb)=_
        rw [if_neg (ne_of_elem hRb hO (by simp))];exact hRb
      · show bv.length - (i+1) < bv.length - i
        omega
    · by_cases hk2:b.term.kind=2
      · have ht1:=htb b.term.goto (by show _∈nextS b.term;rw [nextS_2 hk2];simp)
        have ht2:=htb b.term.els (by show _∈nextS b.term;rw [nextS_2 hk2];simp)
        have ow1:=hI.ob.setT hb { b.term with goto:=throughS (sL bw) b.term.goto }
        have hO1:=ow1.m
        have hil:i < bw.length:=by omega
        have hb1:(bw.set i { b with term:={ b.term with goto:=throughS (sL bw) b.term.goto } })[i]?=some { b with term:={ b.term with goto:=throughS (sL bw) b.term.goto } }:=by rw [List.getElem?_set,if_pos rfl,if_pos hil]
        have ow2:=ow1.setT hb1 { b.term with goto:=throughS (sL bw) b.term.goto,els:=throughS (sL bw) b.term.els }
        have hO2:=ow2.m
        have hb2:((bw.set i { b with term:={ b.term with goto:=throughS (sL bw) b.term.goto } }).set i { b with term:={ b.term with goto:=throughS (sL bw) b.term.goto,els:=throughS (sL bw) b.term.els } })[i]?=some { b with term:={ b.term with goto:=throughS (sL bw) b.term.goto,els:=throughS (sL bw) b.term.els } }:=by rw [List.set_set,List.getElem?_set,if_pos rfl,if_pos hil]
        repeat' (first|((with_reducible apply RS.load1B);(iterate 3 exact rfl);exact hF;exact hFn;exact rfl)|((with_reducible apply RS.indexAddrS);(iterate 5 exact rfl);omega)|((with_reducible apply RS.load1B);(iterate 3 exact rfl);first|exact hO;exact hOn;exact bv_cell (o:=1) hb (by omega) (by decide) rfl|exact hO;exact hOn;exact bv_cell (o:=7) hb (by omega) (by decide) rfl|exact hO;exact hOn;exact bv_cell (o:=8) hb (by omega) (by decide) rfl)|((with_reducible apply RS.callR true []);(iterate 3 exact rfl);exact fun H hH=>through_tf fb f.regs _ c3 (sL bw) b.term.goto ht1 hwlen hwins hI.tgt H (hfat.up (sees_up hH hdB));exact Nm_free (by simp))|((with_reducible apply RS.callR true []);(iterate 3 exact rfl);exact fun H hH=>through_tf fb f.regs _ c3 (sL bw) b.term.els ht2 hwlen hwins hI.tgt H (hfat.up (sees_up hH hdB));exact Nm_free (by simp))|((with_reducible apply RS.storeB);(iterate 3 exact rfl);first|exact hO;exact hOn;exact hob.rw;exact (bv_cells (o:=7) (n:=1) hb (by omega) (by decide)).2;(iterate 2 exact rfl);exact bv_write (o:=7) (b':={ b with term:={ b.term with goto:=throughS (sL bw) b.term.goto } }) hb (by omega) (Nat.le_of_ble_eq_true rfl) rfl|exact hO1;exact hOn;exact hob.rw;exact (bv_cells (o:=8) (n:=1) hb1 (by omega) (by decide)).2;(iterate 2 exact rfl);exact bv_write (o:=8) (b':={ b with term:={ b.term with goto:=throughS (sL bw) b.term.goto,els:=throughS (sL bw) b.term.els } }) hb1 (by omega) (Nat.le_of_ble_eq_true rfl) rfl)|((with_reducible apply RS.load1B);(iterate 3 exact rfl);first|exact hO2;exact hOn;exact bv_cell (o:=7) hb2 (by omega) (by decide) rfl|exact hO2;exact hOn;exact bv_cell (o:=8) hb2 (by omega) (by decide) rfl)|((with_reducible apply RS.storeB);(iterate 3 exact rfl);exact hO2;exact hOn;exact hob.rw;exact (bv_term hb2 (by omega)).2;(iterate 2 exact rfl);exact bv_write (o:=1) (b':={ b with term:=jumpT (throughS (sL bw) b.term.goto) }) hb2 (by omega) (Nat.le_of_ble_eq_true rfl) rfl)|((with_reducible first|apply RS.nilCheck|apply RS.move|apply RS.assign|apply RS.fieldAddr);iterate 3 exact rfl)|((with_reducible apply RS.cmpT);(iterate 4 exact rfl);(simp only [cmpP];omega))|((with_reducible apply RS.cmpF);(iterate 4 exact rfl);(simp only [cmpN];omega))|((with_reducible apply RS.add1);(iterate 4 exact rfl);omega)|((with_reducible apply RS.bin);iterate 5 exact rfl)|((with_reducible apply RS.build);iterate 4 exact rfl)|((with_reducible apply RS.nil);exact mixed;kernel_rfl)|(with_reducible first|apply W.seq|apply W.block|apply W.skip|apply thenK_n|apply blockK_n)|((with_reducible apply W.reg);kernel_rfl)|((with_reducible apply W.condT);kernel_rfl;exact rfl)|((with_reducible apply W.condF);kernel_rfl;exact rfl)|(((with_reducible apply RS.splitD);iterate 2 exact rfl)<;>intro _)|((((with_reducible apply RS.splitG);iterate 2 exact rfl)<;>intro _)<;>(fail_if_success cases ‹true=false›)<;>(fail_if_success cases ‹false=true›))|(((with_reducible apply W.condD);exact rfl)<;>intro _)|((((with_reducible apply W.cond);exact rfl)<;>intro _)<;>(fail_if_success cases ‹true=false›)<;>(fail_if_success cases ‹false=true›)))
        · have hq:throughS (sL bw) b.term.goto=throughS (sL bw) b.term.els:=‹throughS (sL bw) b.term.goto=throughS (sL bw) b.term.els›
          have hT:turnT (sL bw) b.term=jumpT (throughS (sL bw) b.term.goto):=by unfold turnT;rw [if_neg hk1,if_pos hk2,if_pos hq]
          rw [Hp.set_set,Hp.set_set,List.set_set,List.set_set]
          refine roundN_n rfl fun B' a=>⟨(i+1,bw.set i { b with term:=jumpT (throughS (sL bw) b.term.goto) }),?_,⟨(meltI_setT hI hb _ (nextS_turn' hI.tgt (sL_at hb) hT)).up hdS a.oldH,a.up _ _ ?_,by omega,by rw [hmm,sL_set];rw [show turnT (sL bw) b.term=_ from hT] at hgo;exact hgo⟩,?_⟩
          · (repeat' (first|exact trivial|exact rfl|apply And.intro));done
          · show (if rb=bb then _ else B.m rb)=_
            rw [if_neg (ne_of_elem hRb hO (by simp))];exact hRb
          · show bv.length - (i+1) < bv.length - i
            omega
        · have hq:¬ throughS (sL bw) b.term.goto=throughS (sL bw) b.term.els:=‹¬ throughS (sL bw) b.term.goto=throughS (sL bw) b.term.els›
          have hT:turnT (sL bw) b.term={ b.term with goto:=throughS (sL bw) b.term.goto,els:=throughS (sL bw) b.term.els }:=by unfold turnT;rw [if_neg hk1,if_pos hk2,if_neg hq]
          rw [Hp.set_set,List.set_set]
          refine roundN_n rfl fun B' a=>⟨(i+1,bw.set i { b with term:={ b.term with goto:=throughS (sL bw) b.term.goto,els:=throughS (sL bw) b.term.els } }),?_,⟨(meltI_setT hI hb _ (nextS_turn' hI.tgt (sL_at hb) hT)).up hdS a.oldH,a.up _ _ ?_,by omega,by rw [hmm,sL_set];rw [show turnT (sL bw) b.term=_ from hT] at hgo;exact hgo⟩,?_⟩
          · (repeat' (first|exact trivial|exact rfl|apply And.intro));done
          · show (if rb=bb then _ else B.m rb)=_
            rw [if_neg (ne_of_elem hRb hO (by simp))];exact hRb
          · show bv.length - (i+1) < bv.length - i
            omega
      · repeat (first|((with_reducible apply RS.load1B);(iterate 3 exact rfl);exact hF;exact hFn;exact rfl)|((with_reducible apply RS.indexAddrS);(iterate 5 exact rfl);omega)|((with_reducible apply RS.load1B);(iterate 3 exact rfl);exact hO;exact hOn;exact bv_cell (o:=1) hb (by omega) (by decide) rfl)|((with_reducible first|apply RS.nilCheck|apply RS.move|apply RS.assign|apply RS.fieldAddr);iterate 3 exact rfl)|((with_reducible apply RS.cmpT);(iterate 4 exact rfl);(simp only [cmpP];omega))|((with_reducible apply RS.cmpF);(iterate 4 exact rfl);(simp only [cmpN];omega))|((with_reducible apply RS.add1);(iterate 4 exact rfl);omega)|((with_reducible apply RS.nil);exact mixed;kernel_rfl)|(with_reducible first|apply W.seq|apply W.block|apply W.skip|apply thenK_n|apply blockK_n)|((with_reducible apply W.reg);kernel_rfl)|((with_reducible apply W.condT);kernel_rfl;exact rfl)|((with_reducible apply W.condF);kernel_rfl;exact rfl))
        repeat' ((first|(((with_reducible apply RS.splitD);iterate 2 exact rfl)<;>intro _)|((((with_reducible apply RS.splitG);iterate 2 exact rfl)<;>intro _)<;>(fail_if_success cases ‹true=false›)<;>(fail_if_success cases ‹false=true›))|(((with_reducible apply W.condD);exact rfl)<;>intro _)|((((with_reducible apply W.cond);exact rfl)<;>intro _)<;>(fail_if_success cases ‹true=false›)<;>(fail_if_success cases ‹false=true›)))<;>repeat (fail))
        have hT:turnT (sL bw) b.term=b.term:=by unfold turnT;rw [if_neg hk1,if_neg hk2]
        rw [hT] at hgo
        have hgo:turnUp bv.length m ((sL bw).set i b.s)=turnS (sL bv):=hgo
        rw [set_same (sL_at hb)] at hgo
        refine roundN_n rfl fun B' a=>⟨(i+1,bw),?_,⟨hI.up hdB a.oldH,a.up _ _ hRb,by omega,by rw [hmm];exact hgo⟩,?_⟩
        · (repeat' (first|exact trivial|exact rfl|apply And.intro));done
        · show bv.length - (i+1) < bv.length - i
          omega
  · have hii:i=bv.length:=by omega
    subst hii
    rw [Nat.sub_self,turnUp] at hgo
    have hwpos:0 < bw.length:=by omega
    have hwl2:bw.length≤100000:=by omega
    have hflw:f.blocks.length=bw.length:=by omega
    have hrB:∀ {x:BV},x∈bw→x.ins≠[]→x.r≠rb:=fun hx hn=>hI.ob.row_ne hx hn hRb (by simp)
    ((with_reducible apply W.seq);repeat (first|((with_reducible apply RS.cmpF);(iterate 4 exact rfl);(simp only [cmpN];omega))|((with_reducible apply RS.nil);exact mixed;kernel_rfl)|((with_reducible apply W.reg);kernel_rfl)|(with_reducible apply thenK_n)))
    ((with_reducible apply W.seq);repeat (first|(with_reducible first|apply W.exit|apply thenK_n|apply thenK_e|apply roundN_e)|((with_reducible apply W.condF);kernel_rfl;exact rfl)|((with_reducible apply blockK_hit);exact rfl)))
    ((with_reducible apply W.seq);repeat (first|((with_reducible apply RS.callEx);(iterate 3 exact rfl);intro B1 hB1;refine ⟨_,join_ex B1 bb bw fb f A1 c1 A2 c2 c3 hflw hwpos hwl2 (hI.ob.up hB1.up) ⟨hB1.up _ _ hF,hFw⟩ hI.tgt hI.tot,?_⟩;rintro v H1 π1 ⟨bm,hM,hmelt⟩ sH1 hle1)|((with_reducible apply RS.nil);exact mixed;kernel_rfl)|((with_reducible apply W.reg);kernel_rfl)|(with_reducible apply thenK_n)))
    have hmf:f.blocks.length=(sL bm).length:=by rw [sL_length,hM.len];omega
    have hfc:funcC f A1 c1 A2 c2 (some ⟨bb,0,none⟩) c3=funcC { f with blocks:=sL bm } A1 c1 A2 c2 (some ⟨bb,0,none⟩) c3:=by unfold funcC;rw [hmf]
    have hF6:=hM.fn.m
    rw [hfc] at hF6
    have hF6n:=sH1.dom _ _ hF6
    have hmpos:0 < bm.length:=by rw [hM.len];omega
    have hmlen:bm.length≤100000:=by rw [hM.len];omega
    have hR6:H1.m rb=some ⟨⟨cellsV (.agg ⟨funcC ⟨⟨#[]⟩,0,0,0,[],[]⟩ none 0 none 0 none 0⟩)⟩,37⟩:=by
      rw [hM.off.2 rb (hB1.dom _ _ (hB1.up _ _ hRb)) (fun e=>by
        rcases e with e|⟨x,hx,hxn,hxr⟩
        · exact ne_of_elem hRb hO (by simp) e
        · exact hrB hx hxn hxr)]
      exact hB1.up _ _ hRb
    repeat (first|((with_reducible apply RS.loadNB);(iterate 3 exact rfl);exact hF6;exact hF6n;exact Nat.le_of_ble_eq_true rfl;exact (show takeV 0 6 (funcC { f with blocks:=sL bm } A1 c1 A2 c2 (some ⟨bb,0,none⟩) c3)=funcC { f with blocks:=sL bm } A1 c1 A2 c2 (some ⟨bb,0,none⟩) c3 from rfl))|((with_reducible apply RS.callEx);(iterate 3 exact rfl);intro B2 hB2;refine ⟨_,drop_ex B2 bb bm { f with blocks:=sL bm } A1 c1 A2 c2 c3 rfl hmpos hmlen (hM.ob.up hB2.up) hM.tgt,?_⟩;rintro v H2 π2 ⟨lb,kv,rfl,hkO,hkS,hkOld,hkF⟩ sH2 hle2;have hR7:=hkOld.up hB2.dom _ _ (hB2.up _ _ hR6);have hR7n:=sH2.dom _ _ hR7)|((with_reducible apply RS.storeB);(iterate 3 exact rfl);exact hR7;exact hR7n;exact hRw;exact Nat.le_of_ble_eq_true rfl;(iterate 2 exact rfl);exact (show setL (cellsV (.agg ⟨funcC ⟨⟨#[]⟩,0,0,0,[],[]⟩ none 0 none 0 none 0⟩)) 0 (funcC { f with blocks:=dropS (sL bm) } A1 c1 A2 c2 (some ⟨lb,0,none⟩) (capOf 9))=funcC { f with blocks:=dropS (sL bm) } A1 c1 A2 c2 (some ⟨lb,0,none⟩) (capOf 9) from rfl))|((with_reducible apply RS.nil);exact mixed;kernel_rfl)|(with_reducible first|apply W.seq|apply W.ret|apply thenK_n)|((with_reducible apply W.reg);kernel_rfl))
    have hws:dropS (sL bm)=waysS (sL bv):=by unfold waysS;rw [hmelt,hgo]
    have footM:∀ j,Foot bb bm j→Foot bb bv j∨h.n≤j:=by
      intro j hj
      rcases hM.foot j hj with h1|h1
      · exact hI.foot j h1
      · exact .inr (Nat.le_trans hI.off.1 (Nat.le_trans hB1.le h1))
    refine endsK_ret _ (.cons (.baseN (vs:=funcC { f with blocks:=dropS (sL bm) } A1 c1 A2 c2 (some ⟨lb,0,none⟩) (capOf 9)) rfl (by show (if rb=rb then _ else _)=_;rw [if_pos rfl]) (Nat.le_of_ble_eq_true rfl) rfl) .nil) fun B' a=>⟨lb,kv,by rw [← hws];rfl,?_,by rw [hkS,hws],?_,?_⟩
    · refine hkO.up35 fun j x hx he=>a.up _ _ ?_
      show (if j=rb then _ else H2.m j)=_
      rw [if_neg (ne_of_elem hx hR7 he)]
      exact hx
    · have o1:OffS (Foot bb bv) h H1:=(hI.off.same hB1.oldH.off).trans hM.off fun j hj hT=>foot_trans hI.off hI.foot hj hT
      have o2:OffS (Foot bb bv) h H2:=(o1.same hB2.oldH.off).same hkOld.off
      refine (o2.trans (OffS.set H2 rb _) fun j hj e=>?_).same a.oldH.off
      subst e
      omega
    · intro j hj
      rcases hkF j hj with h1|h1
      · exact footM j h1
      · exact .inr (Nat.le_trans hI.off.1 (Nat.le_trans hB1.le (Nat.le_trans hM.off.1 (Nat.le_trans hB2.le h1))))
end Go.Proofs.YtjhloakacicdiaaDoor
namespace Go.Proofs.YtjhloakacicdiaaDoor
open Go.AH
attribute [local irreducible] W RS
def chunks (w:Nat):Nat→List Value→List (List Value)
  | 0,_=>[]
  | n+1,l=>l.take w::chunks w n (l.drop w)
theorem chunks_ok (w:Nat):∀ (n:Nat) (l:List Value),l.length=n * w→(chunks w n l).flatten=l∧(chunks w n l).length=n∧(∀ c∈chunks w n l,c.length=w)∧∀ j,j < n→(chunks w n l)[j]?=some (takeV (j * w) w l):=by
  intro n
  induction n with
  | zero =>
    intro l hl
    have:l=[]:=List.length_eq_zero_iff.1 (by omega)
    subst this
    exact ⟨rfl,rfl,(fun c hc=>by cases hc),fun j hj=>absurd hj (Nat.not_lt_zero _)⟩
  | succ n ih =>
    intro l hl
    rw [Nat.succ_mul] at hl
    obtain ⟨h1,h2,h3,h4⟩:=ih (l.drop w) (by simp;omega)
    refine ⟨?_,by simp [chunks,h2],fun c hc=>?_,fun j hj=>?_⟩
    · rw [chunks,List.flatten_cons,h1,List.take_append_drop]
    · rw [chunks] at hc
      rcases List.mem_cons.1 hc with e|e
      · subst e;simp;omega
      · exact h3 c e
    · cases j with
      | zero=>simp [chunks,takeV_eq]
      | succ j =>
        rw [chunks,List.getElem?_cons_succ,h4 j (by omega),takeV_eq,takeV_eq,List.drop_drop]
        congr 3
        rw [Nat.succ_mul];omega
def boolR (cs:List Value) (b:Bool):Prop:=cs=[.bool b]
theorem slat_whole {α:Type} {h:Hp} {A:Option Addr} {w:Nat} {l:List α} {R:List Value→α→Prop} (s:SlAt h A w l R) (hl:l≠[]):∃ b off cs e,A=some ⟨b,off,none⟩∧h.m b=some ⟨⟨cs⟩,e⟩∧off+l.length * w≤cs.length∧∀ i x,l[i]?=some x→R (takeV (off+i * w) w cs) x:=by
  have hpos:=List.length_pos_iff.2 hl
  obtain ⟨x,hx⟩:∃ x,l[l.length - 1]?=some x:=⟨_,List.getElem?_eq_getElem (by omega)⟩
  obtain ⟨b,off,cs,e,h1,h2,h3,_⟩:=s.get _ x hx
  refine ⟨b,off,cs,e,h1,h2,?_,fun i y hy=>?_⟩
  · have:l.length * w=(l.length - 1) * w+w:=by rw [← Nat.succ_mul];congr 1;omega
    omega
  · obtain ⟨b',off',cs',e',g1,g2,g3,g4⟩:=s.get i y hy
    rw [h1] at g1
    injection g1 with g1
    injection g1 with g5 g6
    subst g5;subst g6
    rw [h2] at g2
    injection g2 with g2
    injection g2 with g7 g8
    injection g7 with g7
    subst g7
    exact g4
def RowE {α:Type} (h:Hp) (N:Nat) (e:TypeId) (A:Option Addr) (l:List α) (enc:α→Value):Prop:=l=[]∨∃ r,A=some ⟨r,0,none⟩∧N≤r∧h.m r=some ⟨⟨l.map enc⟩,e⟩
theorem RowE.up {α:Type} {h H:Hp} {N:Nat} {e:TypeId} {A:Option Addr} {l:List α} {enc:α→Value} (s:RowE h N e A l enc) (hu:∀ i b,h.m i=some b→b.elem=e→H.m i=some b):RowE H N e A l enc:=by
  rcases s with s|⟨r,h1,h2,h3⟩
  · exact .inl s
  · exact .inr ⟨r,h1,h2,hu _ _ h3 rfl⟩
theorem RowE.sl {α:Type} {h:Hp} {N:Nat} {e:TypeId} {A:Option Addr} {l:List α} {enc:α→Value} (s:RowE h N e A l enc) {R:List Value→α→Prop} (hR:∀ x,R [enc x] x):SlAt h A 1 l R:=by
  rcases s with rfl|⟨r,rfl,_,h3⟩
  · exact .nil
  · refine ⟨fun i x hx=>⟨r,0,_,e,rfl,h3,?_,?_⟩⟩
    · have:=(List.getElem?_eq_some_iff.1 hx).1
      rw [List.length_map];omega
    · have:takeV (0+i * 1) 1 (l.map enc)=[enc x]:=by
        rw [takeV_eq,Nat.zero_add,Nat.mul_one]
        obtain ⟨h1,h2⟩:=List.getElem?_eq_some_iff.1 hx
        rw [List.drop_eq_getElem_cons (by simpa using h1)]
        simp [h2]
      rw [this];exact hR x
theorem slat_map {α:Type} {h:Hp} {A:Option Addr} {l:List α} {R:List Value→α→Prop} {enc:α→Value} {vs:List Value} (s:SlAt h A 1 l R) (hv:l≠[]→∃ b off cs e,A=some ⟨b,off,none⟩∧h.m b=some ⟨⟨cs⟩,e⟩∧off+l.length * 1≤cs.length∧takeV off (l.length * 1) cs=vs) (hn:l≠[]) (hR:∀ cs x,R cs x→cs=[enc x]):vs=l.map enc:=by
  obtain ⟨b,off,cs,e,h1,h2,h3,h4⟩:=hv hn
  subst h4
  apply List.ext_getElem?
  intro i
  rw [takeV_eq,List.getElem?_map]
  by_cases hi:i < l.length
  · rw [List.getElem?_take_of_lt (by omega),List.getElem?_drop,List.getElem?_eq_getElem hi]
    obtain ⟨b',off',cs',e',g1,g2,g3,g4⟩:=s.get i l[i] (List.getElem?_eq_getElem hi)
    rw [h1] at g1
    injection g1 with g1
    injection g1 with g5 g6
    subst g5;subst g6
    rw [h2] at g2
    injection g2 with g2
    injection g2 with g7 _
    injection g7 with g7
    subst g7
    have:=take_nth (hR _ _ g4) (j:=0) rfl
    rw [Nat.mul_one,Nat.add_zero] at this
    rw [this];rfl
  · rw [List.getElem?_eq_none_iff.2 (by simp;omega),List.getElem?_eq_none_iff.2 (by omega)];rfl
structure OwnD (h:Hp) (N:Nat) (bv:List BV):Prop where
  row:∀ b∈bv,b.ins≠[]→N≤b.r∧h.m b.r=some ⟨⟨(b.ins.map insVC).flatten⟩,58⟩
  arg:∀ b∈bv,∀ x∈b.ins,x.1.args≠[]→N≤x.2∧h.m x.2=some ⟨⟨argsC x.1.args⟩,46⟩
  sep:bv.Pairwise fun x y=>x.ins≠[]→y.ins≠[]→x.r < y.r
  sepA:(bv.flatMap (·.ins)).Pairwise fun x y=>x.1.args≠[]→y.1.args≠[]→x.2 < y.2
theorem OwnD.up {h H:Hp} {N:Nat} {bv:List BV} (o:OwnD h N bv) (hu:∀ i b,h.m i=some b→H.m i=some b):OwnD H N bv :=
  ⟨fun b hb hn=>⟨(o.row b hb hn).1,hu _ _ (o.row b hb hn).2⟩,fun b hb x hx hn=>⟨(o.arg b hb x hx hn).1,hu _ _ (o.arg b hb x hx hn).2⟩,o.sep,o.sepA⟩
theorem OwnD.own {h:Hp} {N bb:Nat} {bv:List BV} (o:OwnD h N bv) (hN:rwM≤N) (hb:rwM≤bb) (hm:h.m bb=some ⟨⟨(bv.map BV.c).flatten⟩,50⟩):OwnB h bb bv:=by
  refine ⟨hb,hm,fun b hb hn=>⟨Nat.le_trans hN (o.row b hb hn).1,(o.row b hb hn).2⟩,fun b hb x hx hn=>⟨Nat.le_trans hN (o.arg b hb x hx hn).1,(o.arg b hb x hx hn).2⟩,fun i j x y hx hy hxn hyn he=>?_⟩
  obtain ⟨hi,hx'⟩:=List.getElem?_eq_some_iff.1 hx
  obtain ⟨hj,hy'⟩:=List.getElem?_eq_some_iff.1 hy
  rcases Nat.lt_trichotomy i j with h1|h1|h1
  · have:=List.pairwise_iff_getElem.1 o.sep i j hi hj h1
    rw [hx',hy'] at this
    have:=this hxn hyn
    omega
  · exact h1
  · have:=List.pairwise_iff_getElem.1 o.sep j i hj hi h1
    rw [hx',hy'] at this
    have:=this hyn hxn
    omega
theorem slat_vs {α:Type} {h:Hp} {A:Option Addr} {w:Nat} {l:List α} {R:List Value→α→Prop} (s:SlAt h A w l R):∃ vs:List Value,l≠[]→∃ b off cs e,A=some ⟨b,off,none⟩∧h.m b=some ⟨⟨cs⟩,e⟩∧off+l.length * w≤cs.length∧takeV off (l.length * w) cs=vs:=by
  by_cases hl:l=[]
  · exact ⟨[],fun h=>absurd hl h⟩
  · obtain ⟨b,off,cs,e,h1,h2,h3,_⟩:=slat_whole s hl
    exact ⟨_,fun _=>⟨b,off,cs,e,h1,h2,h3,rfl⟩⟩
theorem vs_up {h H:Hp} {A:Option Addr} {n w:Nat} {vs:List Value} (hv:n≠0→∃ b off cs e,A=some ⟨b,off,none⟩∧h.m b=some ⟨⟨cs⟩,e⟩∧off+n * w≤cs.length∧takeV off (n * w) cs=vs) (hu:∀ i b,h.m i=some b→H.m i=some b):n≠0→∃ b off cs e,A=some ⟨b,off,none⟩∧H.m b=some ⟨⟨cs⟩,e⟩∧off+n * w≤cs.length∧takeV off (n * w) cs=vs:=by
  intro hn
  obtain ⟨b,off,cs,e,h1,h2,h3⟩:=hv hn
  exact ⟨b,off,cs,e,h1,hu _ _ h2,h3⟩
theorem cell_le {w:Nat} {L:List (List Value)} (hw:∀ c∈L,c.length=w) {i:Nat} {x:List Value} (hx:L[i]?=some x) {o:Nat} (ho:o+1≤w):0+i * w+o+1≤L.flatten.length:=by
  have:=(flat_take hw hx).2
  omega
theorem cell_put {w:Nat} {L:List (List Value)} (hw:∀ c∈L,c.length=w) {i:Nat} {x y:List Value} (hx:L[i]?=some x) {o:Nat} {v:Value} (ho:o+1≤w) (hy:setL x o [v]=y):setL L.flatten (0+i * w+o) [v]=(L.set i y).flatten:=by
  rw [Nat.zero_add,flat_set hw hx (by simpa using ho),hy]
set_option maxRecDepth 100000 in
theorem copy_ex (h:Hp) (f:FuncS) (A1:Option Addr) (c1:Nat) (A2:Option Addr) (c2:Nat) (A3:Option Addr) (c3:Nat) (sec:List Bool) (hsec:sec.length=f.secret) (hS:SlAt h A1 1 sec boolR) (hL:SlAt h A2 1 f.slots intR) (hB:SlAt h A3 9 f.blocks (blockR h))
    (hpos:0 < f.blocks.length) (hb1:f.secret≤1000000) (hb2:f.slots.length≤1000000) (hb3:f.blocks.length≤100000) (hb4:∀ b∈f.blocks,b.ins.length≤1000000) (hb5:∀ b∈f.blocks,∀ x∈b.ins,x.args.length≤1000000) :
    EX Tryd.prog 12 [.agg ⟨funcC f A1 c1 A2 c2 A3 c3⟩] h (fun v h'=>∃ A1' c1' A2' c2' bb bv,v=.agg ⟨funcC f A1' c1' A2' c2' (some ⟨bb,0,none⟩) (capOf 9)⟩∧h'.m bb=some ⟨⟨(bv.map BV.c).flatten⟩,50⟩∧h.n≤bb∧OwnD h' h.n bv∧sL bv=f.blocks∧Old h h'∧RowE h' h.n 4 A1' sec .bool∧RowE h' h.n 3 A2' f.slots (.int .i64)):=by
  refine EX.intro (fn:=Tryd.f12) (c:=(Tryd.f12.body.getD .skip)) Tryd.func12 (by kernel_rfl) Tryd.ntmps12 (by kernel_rfl) fun π s0=>?_
  conv=>arg 2;whnf
  have hd:=s0.dom
  obtain ⟨vs1,hv1⟩:=slat_vs hS
  obtain ⟨vs2,hv2⟩:=slat_vs hL
  have hcp1:=hv1
  have hcp2:=hv2
  replace hv1:f.secret≠0→∃ b off cs e,A1=some ⟨b,off,none⟩∧h.m b=some ⟨⟨cs⟩,e⟩∧off+f.secret * 1≤cs.length∧takeV off (f.secret * 1) cs=vs1:=by
    rw [← hsec]
    exact fun hn=>hv1 (fun e=>hn (by rw [e];rfl))
  replace hv2:f.slots.length≠0→∃ b off cs e,A2=some ⟨b,off,none⟩∧h.m b=some ⟨⟨cs⟩,e⟩∧off+f.slots.length * 1≤cs.length∧takeV off (f.slots.length * 1) cs=vs2:=fun hn=>hv2 (fun e=>hn (by rw [e];rfl))
  obtain ⟨b3,o3,cs3,e3,rfl,hm3,hl3,hR3⟩:=slat_whole hB (List.length_pos_iff.1 hpos)
  ((with_reducible apply W.seq);repeat (first|((with_reducible apply RS.alloc);iterate 2 exact rfl)|((with_reducible apply RS.box);iterate 3 exact rfl)|((with_reducible apply RS.nil);exact mixed;kernel_rfl)|((with_reducible apply W.reg);kernel_rfl)|(with_reducible apply thenK_n)))
  refine W.absorbX fun B0 π0 a0=>?_
  have hF:B0.m (π 0)=some ⟨⟨funcC f A1 c1 A2 c2 (some ⟨b3,o3,none⟩) c3⟩,37⟩:=a0.loc 0 (Nat.lt_of_lt_of_le Nat.zero_lt_one (Nat.le_succ 1))
  have hfb:h.n≤π 0:=a0.lo 0 (Nat.lt_of_lt_of_le Nat.zero_lt_one (Nat.le_succ 1))
  have hrb:h.n≤π 1:=a0.lo 1 (Nat.lt_succ_self 1)
  have hRb:B0.m (π 1)=some ⟨⟨cellsV (.agg ⟨funcC ⟨⟨#[]⟩,0,0,0,[],[]⟩ none 0 none 0 none 0⟩)⟩,37⟩:=a0.loc 1 (Nat.lt_succ_self 1)
  have hfr:π 0≠π 1:=fun e=>absurd (a0.inj 0 1 (Nat.lt_of_lt_of_le Nat.zero_lt_one (Nat.le_succ 1)) (Nat.lt_succ_self 1) e) (by decide)
  generalize π 0=fb at *
  generalize π 1=rb at *
  have hRw:rwM≤rb:=Nat.le_trans s0.rw hrb
  have hFw:rwM≤fb:=Nat.le_trans s0.rw hfb
  have hFn:=a0.dom _ _ hF
  replace hv1:=vs_up hv1 a0.up
  have sets:∀ {H:Hp} {x:Blk},H.m fb=some x→Sat Tryd.prog H→∀ {h0:Hp},Old h0 H→h0.n≤fb→∀ z,Old h0 (H.set fb z):=fun hx sx h0 o hlt z=>(o.off.same ((OffS.set _ fb z).mono (T:=fun j=>h0.n≤j) fun j _ e=>by rw [e];exact hlt)).old fun j hj e=>by omega
  ((with_reducible apply W.seq);repeat (first|((with_reducible apply RS.load1B);(iterate 3 exact rfl);exact hF;exact hFn;exact rfl)|((with_reducible apply RS.copyNil (vs:=vs1));(iterate 6 exact rfl);exact fun B hB=>vs_up hv1 hB.up;omega;omega;intro B1 hB1 A1' c1' H1 π1 sH1 hz1 hn1 hle1 hoff1;have hF1:=(hoff1 fb (hB1.dom _ _ (hB1.up _ _ hF))).trans (hB1.up _ _ hF);have hF1n:=sH1.dom _ _ hF1)|((with_reducible apply RS.storeB);(iterate 3 exact rfl);exact hF1;exact hF1n;exact hFw;exact Nat.le_of_ble_eq_true rfl;(iterate 2 exact rfl);exact (show setL (funcC f A1 c1 A2 c2 (some ⟨b3,o3,none⟩) c3) (0+2) [.slice A1' f.secret c1']=funcC f A1' c1' A2 c2 (some ⟨b3,o3,none⟩) c3 from rfl))|((with_reducible apply RS.fieldAddr);iterate 3 exact rfl)|((with_reducible apply RS.nil);exact mixed;kernel_rfl)|((with_reducible apply W.reg);kernel_rfl)|(with_reducible apply thenK_n)))
  refine W.absorbX fun B2 π2 a2=>?_
  have old2:Old h B2:=(sets hF1 sH1 ((a0.oldH.trans hB1.oldH).trans ⟨hle1,hoff1⟩) hfb _).trans a2.oldH
  have kp1:∀ {j:Nat} {x:Blk},B0.m j=some x→j≠fb→B2.m j=some x:=by
    intro j x hx hne
    refine a2.up _ _ ?_
    show (if j=fb then _ else H1.m j)=_
    rw [if_neg hne,hoff1 j (hB1.dom _ _ (hB1.up _ _ hx))]
    exact hB1.up _ _ hx
  have hRb2:=kp1 hRb (fun e=>hfr e.symm)
  have hA1:f.secret≠0→∃ r,A1'=some ⟨r,0,none⟩∧h.n≤r∧B2.m r=some ⟨⟨vs1⟩,4⟩:=by
    intro hn
    obtain ⟨r,h1,_,h2,h3⟩:=hn1 hn
    have hb0:B0.n≤B1.n:=hB1.le
    refine ⟨r,h1,Nat.le_trans a0.le (Nat.le_trans hB1.le h2),a2.up _ _ ?_⟩
    show (if r=fb then _ else H1.m r)=_
    rw [if_neg (by have:=a0.dom _ _ hF;omega)]
    exact h3
  replace hF:B2.m fb=some ⟨⟨funcC f A1' c1' A2 c2 (some ⟨b3,o3,none⟩) c3⟩,37⟩:=a2.up _ _ (by show (if fb=fb then _ else _)=_;rw [if_pos rfl])
  replace hFn:=a2.dom _ _ hF
  replace hv2:=vs_up hv2 (old2.up hd)
  ((with_reducible apply W.seq);repeat (first|((with_reducible apply RS.load1B);(iterate 3 exact rfl);exact hF;exact hFn;exact rfl)|((with_reducible apply RS.copyNil (vs:=vs2));(iterate 6 exact rfl);exact fun B hB=>vs_up hv2 hB.up;omega;omega;intro B3 hB3 A2' c2' H3 π3 sH3 hz3 hn3 hle3 hoff3;have hF3:=(hoff3 fb (hB3.dom _ _ (hB3.up _ _ hF))).trans (hB3.up _ _ hF);have hF3n:=sH3.dom _ _ hF3)|((with_reducible apply RS.storeB);(iterate 3 exact rfl);exact hF3;exact hF3n;exact hFw;exact Nat.le_of_ble_eq_true rfl;(iterate 2 exact rfl);exact (show setL (funcC f A1' c1' A2 c2 (some ⟨b3,o3,none⟩) c3) (0+4) [.slice A2' f.slots.length c2']=funcC f A1' c1' A2' c2' (some ⟨b3,o3,none⟩) c3 from rfl))|((with_reducible apply RS.fieldAddr);iterate 3 exact rfl)|((with_reducible apply RS.nil);exact mixed;kernel_rfl)|((with_reducible apply W.reg);kernel_rfl)|(with_reducible apply thenK_n)))
  refine W.absorbX fun B4 π4 a4=>?_
  have kp2:∀ {j:Nat} {x:Blk},B2.m j=some x→j≠fb→B4.m j=some x:=by
    intro j x hx hne
    refine a4.up _ _ ?_
    show (if j=fb then _ else H3.m j)=_
    rw [if_neg hne,hoff3 j (hB3.dom _ _ (hB3.up _ _ hx))]
    exact hB3.up _ _ hx
  have old4:Old h B4:=(sets hF3 sH3 ((old2.trans hB3.oldH).trans ⟨hle3,hoff3⟩) hfb _).trans a4.oldH
  have hRb4:=kp2 hRb2 (fun e=>hfr e.symm)
  have hA2:f.slots.length≠0→∃ r,A2'=some ⟨r,0,none⟩∧h.n≤r∧B4.m r=some ⟨⟨vs2⟩,3⟩:=by
    intro hn
    obtain ⟨r,h1,_,h2,h3⟩:=hn3 hn
    have hlt:B2.n≤r:=Nat.le_trans hB3.le h2
    refine ⟨r,h1,Nat.le_trans old2.1 hlt,a4.up _ _ ?_⟩
    show (if r=fb then _ else H3.m r)=_
    rw [if_neg (by omega)]
    exact h3
  replace hA1:f.secret≠0→∃ r,A1'=some ⟨r,0,none⟩∧h.n≤r∧B4.m r=some ⟨⟨vs1⟩,4⟩:=by
    intro hn
    obtain ⟨r,h1,h2,h3⟩:=hA1 hn
    exact ⟨r,h1,h2,kp2 h3 (ne_of_elem h3 hF (by simp))⟩
  replace hF:B4.m fb=some ⟨⟨funcC f A1' c1' A2' c2' (some ⟨b3,o3,none⟩) c3⟩,37⟩:=a4.up _ _ (by show (if fb=fb then _ else _)=_;rw [if_pos rfl])
  replace hFn:=a4.dom _ _ hF
  obtain ⟨vs3,hvs3⟩:∃ vs3,takeV o3 (f.blocks.length * 9) cs3=vs3:=⟨_,rfl⟩
  have hv3:f.blocks.length≠0→∃ b off cs e,some (⟨b3,o3,none⟩:Addr)=some ⟨b,off,none⟩∧B4.m b=some ⟨⟨cs⟩,e⟩∧off+f.blocks.length * 9≤cs.length∧takeV off (f.blocks.length * 9) cs=vs3:=fun _=>⟨b3,o3,cs3,e3,rfl,old4.up hd _ _ hm3,hl3,hvs3⟩
  ((with_reducible apply W.seq);repeat (first|((with_reducible apply RS.load1B);(iterate 3 exact rfl);exact hF;exact hFn;exact rfl)|((with_reducible apply RS.copyNil (vs:=vs3));(iterate 6 exact rfl);exact fun B hB=>vs_up hv3 hB.up;omega;omega;intro B5 hB5 A3' c3' H5 π5 sH5 hz5 hn5 hle5 hoff5)|((with_reducible first|apply RS.assign|apply RS.fieldAddr);iterate 3 exact rfl)|((with_reducible apply RS.nil);exact mixed;kernel_rfl)|((with_reducible apply W.reg);kernel_rfl)|(with_reducible apply thenK_n)))
  obtain ⟨bb,rfl,rfl,hbb,hbm⟩:=hn5 (by omega)
  have hvl3:vs3.length=f.blocks.length * 9:=by rw [← hvs3,takeV_eq];simp;omega
  obtain ⟨g1,g2,g3,g4⟩:=chunks_ok 9 f.blocks.length vs3 hvl3
  generalize chunks 9 f.blocks.length vs3=R at *
  have hRb:∀ (i:Nat) (b:BlockS),f.blocks[i]?=some b→∃ A c,R[i]?=some (blockC b A c)∧SlAt h A 12 b.ins (insR h):=by
    intro i b hb
    have hi:=(List.getElem?_eq_some_iff.1 hb).1
    obtain ⟨A,c,h1,h2⟩:=hR3 i b hb
    refine ⟨A,c,?_,h2⟩
    rw [g4 i hi,← h1,← hvs3]
    congr 1
    have hle:i * 9+9≤f.blocks.length * 9:=by rw [← Nat.succ_mul];exact Nat.mul_le_mul_right _ hi
    rw [takeV_eq,takeV_eq,takeV_eq,List.drop_take,List.drop_drop,List.take_take,Nat.min_eq_left (by omega)]
  obtain ⟨FX,hFX⟩:∃ FX:Hp→Prop,∀ B,FX B↔(Old h B∧B.m fb=some ⟨⟨funcC f A1' c1' A2' c2' (some ⟨b3,o3,none⟩) c3⟩,37⟩∧B.m rb=some ⟨⟨cellsV (.agg ⟨funcC ⟨⟨#[]⟩,0,0,0,[],[]⟩ none 0 none 0 none 0⟩)⟩,37⟩∧(f.secret≠0→∃ r,A1'=some ⟨r,0,none⟩∧h.n≤r∧B.m r=some ⟨⟨vs1⟩,4⟩)∧(f.slots.length≠0→∃ r,A2'=some ⟨r,0,none⟩∧h.n≤r∧B.m r=some ⟨⟨vs2⟩,3⟩)):=⟨_,fun B=>Iff.rfl⟩
  have FXup:∀ {B B':Hp},FX B→Old h B'→(∀ j x,B.m j=some x→x.elem≠50→x.elem≠58→B'.m j=some x)→FX B':=by
    intro B B' hf ho hk
    rw [hFX] at hf ⊢
    obtain ⟨k1,k2,k3,k4,k5⟩:=hf
    refine ⟨ho,hk _ _ k2 (by simp) (by simp),hk _ _ k3 (by simp) (by simp),fun hn=>?_,fun hn=>?_⟩
    · obtain ⟨r,q1,q2,q3⟩:=k4 hn
      exact ⟨r,q1,q2,hk _ _ q3 (by simp) (by simp)⟩
    · obtain ⟨r,q1,q2,q3⟩:=k5 hn
      exact ⟨r,q1,q2,hk _ _ q3 (by simp) (by simp)⟩
  have FXold:∀ {B:Hp},FX B→Old h B:=fun hf=>((hFX _).1 hf).1
  have kp5:∀ {j:Nat} {x:Blk},B4.m j=some x→H5.m j=some x:=by
    intro j x hx
    rw [hoff5 j (hB5.dom _ _ (hB5.up _ _ hx))]
    exact hB5.up _ _ hx
  have old5:Old h H5:=(old4.trans hB5.oldH).trans ⟨hle5,hoff5⟩
  have hbbn:h.n≤bb:=Nat.le_trans old4.1 (Nat.le_trans hB5.le hbb)
  have hbbr:rwM≤bb:=Nat.le_trans s0.rw hbbn
  have hFX5:FX H5:=by
    rw [hFX]
    refine ⟨old5,kp5 hF,kp5 hRb4,fun hn=>?_,fun hn=>?_⟩
    · obtain ⟨r,q1,q2,q3⟩:=hA1 hn
      exact ⟨r,q1,q2,kp5 q3⟩
    · obtain ⟨r,q1,q2,q3⟩:=hA2 hn
      exact ⟨r,q1,q2,kp5 q3⟩
  clear hF hFn hRb2 hRb4 kp1 kp2 kp5 hA1 hA2 hn1 hn3 hn5 hoff1 hoff3 hoff5
  ((with_reducible apply W.seq);repeat (fail))
  ((with_reducible apply W.seq);repeat (first|((with_reducible first|apply RS.move|apply RS.lenSl);iterate 3 exact rfl)|((with_reducible apply RS.nil);exact mixed;kernel_rfl)|((with_reducible apply W.reg);kernel_rfl)|(with_reducible first|apply W.block|apply thenK_n)))
  refine W.loopN (X:=Nat × List BV) (fun x=>[(1,.pointer (some ⟨fb,0,none⟩)),(2,.pointer (some ⟨rb,0,none⟩)),(3,.slice (some ⟨bb,0,none⟩) f.blocks.length (capOf 9)),(18,.int .i64 (f.blocks.length:Int)),(19,.int .i64 (x.1:Int))])
    (fun x B=>x.1≤f.blocks.length∧x.2.length=x.1∧sL x.2=f.blocks.take x.1∧FX B∧B.m bb=some ⟨⟨(x.2.map BV.c++R.drop x.1).flatten⟩,50⟩∧OwnD B h.n x.2) (fun x=>f.blocks.length - x.1)
    (fun B' a=>⟨(0,[]),?_,⟨Nat.zero_le _,rfl,by rw [List.take_zero];rfl,FXup hFX5 (old5.trans a.oldH) fun j x hx _ _=>a.up _ _ hx,a.up _ _ (by rw [hbm,← g1];rfl),⟨(fun b hb=>by cases hb),(fun b hb=>by cases hb),List.Pairwise.nil,List.Pairwise.nil⟩⟩⟩) ?_
  · (repeat' (first|exact trivial|exact rfl|apply And.intro));done
  rintro ⟨i,dn⟩ B π6 sB ⟨hi,hdl,hds,hfx,hO,od⟩
  dsimp only at hi hdl hds hfx hO od ⊢
  have hOn:=sB.dom _ _ hO
  have hL9:∀ c∈dn.map BV.c++R.drop i,c.length=9:=by
    intro c hc
    rcases List.mem_append.1 hc with e|e
    · exact bv_wid dn c e
    · exact g3 c (List.mem_of_mem_drop e)
  have hLl:(dn.map BV.c++R.drop i).length=f.blocks.length:=by simp [hdl,g2];omega
  by_cases hlt:i < f.blocks.length
  · obtain ⟨b,hb⟩:∃ b,f.blocks[i]?=some b:=⟨_,List.getElem?_eq_getElem hlt⟩
    obtain ⟨A,c,hRi,hsl⟩:=hRb i b hb
    have hbi:=hb4 b (List.mem_of_getElem? hb)
    have hLi:(dn.map BV.c++R.drop i)[i]?=some (blockC b A c):=by
      rw [List.getElem?_append_right (by simp [hdl]),List.length_map,hdl,Nat.sub_self,List.getElem?_drop,Nat.add_zero]
      exact hRi
    have hO0:(dn.map BV.c++R.drop i).flatten[0+i * 9+0]?=some (.slice A b.ins.length c):=by
      rw [Nat.zero_add,flat_get hL9 i 0 (by decide),hLi];rfl
    obtain ⟨vs4,hv4⟩:=slat_vs hsl
    replace hv4:b.ins.length≠0→∃ q off cs e,A=some ⟨q,off,none⟩∧B.m q=some ⟨⟨cs⟩,e⟩∧off+b.ins.length * 12≤cs.length∧takeV off (b.ins.length * 12) cs=vs4:=vs_up (fun hn=>hv4 (fun e=>hn (by rw [e];rfl))) ((FXold hfx).up hd)
    ((with_reducible apply W.seq);repeat (first|((with_reducible apply RS.cmpT);(iterate 4 exact rfl);(simp only [cmpP];omega))|((with_reducible apply RS.nil);exact mixed;kernel_rfl)|((with_reducible apply W.reg);kernel_rfl)|(with_reducible apply thenK_n)))
    ((with_reducible apply W.seq);repeat (first|(with_reducible first|apply W.skip|apply thenK_n)|((with_reducible apply W.condT);kernel_rfl;exact rfl)))
    ((with_reducible apply W.seq);repeat (first|(with_reducible apply W.block)))
    ((with_reducible apply W.seq);repeat (first|((with_reducible first|apply RS.move|apply RS.assign);iterate 3 exact rfl)|((with_reducible apply RS.nil);exact mixed;kernel_rfl)|((with_reducible apply W.reg);kernel_rfl)|(with_reducible apply thenK_n)))
    ((with_reducible apply W.seq);repeat (first|((with_reducible apply RS.indexAddrS);(iterate 5 exact rfl);omega)|((with_reducible apply RS.load1B);(iterate 3 exact rfl);exact hO;exact hOn;exact hO0)|((with_reducible apply RS.copyNil (vs:=vs4));(iterate 6 exact rfl);exact fun B hB=>vs_up hv4 hB.up;omega;omega;intro B7 hB7 A4 c4 H7 π7 sH7 hz7 hn7 hle7 hoff7;have hO7:=(hoff7 bb (hB7.dom _ _ (hB7.up _ _ hO))).trans (hB7.up _ _ hO);have hO7n:=sH7.dom _ _ hO7)|((with_reducible apply RS.storeB);(iterate 3 exact rfl);exact hO7;exact hO7n;exact hbbr;exact cell_le hL9 hLi (o:=0) (by decide);(iterate 2 exact rfl);exact cell_put hL9 hLi (o:=0) (y:=blockC b A4 c4) (by decide) rfl)|((with_reducible first|apply RS.move|apply RS.fieldAddr);iterate 3 exact rfl)|((with_reducible apply RS.nil);exact mixed;kernel_rfl)|((with_reducible apply W.reg);kernel_rfl)|(with_reducible apply thenK_n)))
    refine W.absorbX fun B8 π8 a8=>?_
    have hO8:B8.m bb=some ⟨⟨((dn.map BV.c++R.drop i).set i (blockC b A4 c4)).flatten⟩,50⟩:=a8.up _ _ (by show (if bb=bb then _ else _)=_;rw [if_pos rfl])
    have hO8n:=a8.dom _ _ hO8
    have hLs9:∀ c∈(dn.map BV.c++R.drop i).set i (blockC b A4 c4),c.length=9:=by
      intro c hc
      rcases mem_set hc with e|e
      · exact hL9 c e
      · rw [e];rfl
    have hLsi:((dn.map BV.c++R.drop i).set i (blockC b A4 c4))[i]?=some (blockC b A4 c4):=by rw [List.getElem?_set,if_pos rfl,if_pos (by rw [hLl];exact hlt)]
    have hO80:((dn.map BV.c++R.drop i).set i (blockC b A4 c4)).flatten[0+i * 9+0]?=some (.slice A4 b.ins.length c4):=by
      rw [Nat.zero_add,flat_get hLs9 i 0 (by decide),hLsi];rfl
    have kp8:∀ {j:Nat} {x:Blk},B.m j=some x→j≠bb→B8.m j=some x:=by
      intro j x hx hne
      refine a8.up _ _ ?_
      show (if j=bb then _ else H7.m j)=_
      rw [if_neg hne,hoff7 j (hB7.dom _ _ (hB7.up _ _ hx))]
      exact hB7.up _ _ hx
    have o7:Old h H7:=((FXold hfx).trans hB7.oldH).trans ⟨hle7,hoff7⟩
    have old8:Old h B8:=((o7.off.same ((OffS.set _ bb _).mono (T:=fun j=>h.n≤j) fun j _ e=>by rw [e];exact hbbn)).old fun j hj e=>by omega).trans a8.oldH
    have hfx8:FX B8:=FXup hfx old8 fun j x hx h1 _=>kp8 hx (ne_of_elem hx hO (by simpa using h1))
    have od8:OwnD B8 h.n dn:=⟨fun x hx hn=>⟨(od.row x hx hn).1,kp8 (od.row x hx hn).2 (ne_of_elem (od.row x hx hn).2 hO (by simp))⟩,fun x hx y hy hn=>⟨(od.arg x hx y hy hn).1,kp8 (od.arg x hx y hy hn).2 (ne_of_elem (od.arg x hx y hy hn).2 hO (by simp))⟩,od.sep,od.sepA⟩
    have hBle:B.n≤B7.n:=hB7.le
    have hrow8:b.ins.length≠0→∃ r,A4=some ⟨r,0,none⟩∧c4=capOf 12∧B.n≤r∧B8.m r=some ⟨⟨vs4⟩,58⟩:=by
      intro hn
      obtain ⟨r,h1,h2,h3,h4⟩:=hn7 hn
      refine ⟨r,h1,h2,Nat.le_trans hBle h3,a8.up _ _ ?_⟩
      show (if r=bb then _ else H7.m r)=_
      rw [if_neg (by have:=sB.dom _ _ hO;omega)]
      exact h4
    have hbl:∀ {j:Nat} {x:Blk},B.m j=some x→j < B.n:=fun hx=>sB.dom _ _ hx
    clear hn7 hoff7 kp8
    obtain ⟨r,hr⟩:∃ r,b.ins.length≠0→A4=some ⟨r,0,none⟩∧c4=capOf 12∧B.n≤r∧B8.m r=some ⟨⟨vs4⟩,58⟩:=by
      by_cases hn:b.ins.length=0
      · exact ⟨0,fun h=>absurd hn h⟩
      · obtain ⟨r,h1⟩:=hrow8 hn
        exact ⟨r,fun _=>h1⟩
    obtain ⟨R2,hR2⟩:∃ R2:List (List Value),b.ins.length≠0→R2.flatten=vs4∧R2.length=b.ins.length∧(∀ c∈R2,c.length=12)∧∀ (k:Nat) (x:InsS),b.ins[k]?=some x→∃ A c,R2[k]?=some (insC x A c)∧SlAt h A 2 x.args argR:=by
      by_cases hn:b.ins.length=0
      · exact ⟨[],fun h=>absurd hn h⟩
      · have hne:b.ins≠[]:=fun e=>hn (by rw [e];rfl)
        obtain ⟨q,off,cs,e,q1,q2,q3,q4⟩:=slat_whole hsl hne
        obtain ⟨q',off',cs',e',p1,p2,p3,p4⟩:=hv4 hn
        rw [q1] at p1
        injection p1 with p1
        injection p1 with p5 p6
        subst p5;subst p6
        have q2':=(FXold hfx).up hd _ _ q2
        rw [q2'] at p2
        injection p2 with p2
        injection p2 with p7 _
        injection p7 with p7
        subst p7
        have hvl4:vs4.length=b.ins.length * 12:=by rw [← p4,takeV_eq];simp;omega
        obtain ⟨k1,k2,k3,k4⟩:=chunks_ok 12 b.ins.length vs4 hvl4
        refine ⟨_,fun _=>⟨k1,k2,k3,fun k x hx=>?_⟩⟩
        have hk:=(List.getElem?_eq_some_iff.1 hx).1
        obtain ⟨A9,c9,j1,j2⟩:=q4 k x hx
        refine ⟨A9,c9,?_,j2⟩
        rw [k4 k hk,← j1,← p4]
        congr 1
        have hle:k * 12+12≤b.ins.length * 12:=by rw [← Nat.succ_mul];exact Nat.mul_le_mul_right _ hk
        rw [takeV_eq,takeV_eq,takeV_eq,List.drop_take,List.drop_drop,List.take_take,Nat.min_eq_left (by omega)]
    ((with_reducible apply W.seq);repeat (first|((with_reducible apply RS.indexAddrS);(iterate 5 exact rfl);omega)|((with_reducible apply RS.load1B);(iterate 3 exact rfl);exact hO8;exact hO8n;exact hO80)|((with_reducible first|apply RS.move|apply RS.lenSl|apply RS.fieldAddr);iterate 3 exact rfl)|((with_reducible apply RS.nil);exact mixed;kernel_rfl)|((with_reducible apply W.reg);kernel_rfl)|(with_reducible first|apply W.block|apply thenK_n)))
    refine W.loopN (X:=Nat × List InsV) (fun x=>[(1,.pointer (some ⟨fb,0,none⟩)),(2,.pointer (some ⟨rb,0,none⟩)),(3,.slice (some ⟨bb,0,none⟩) f.blocks.length (capOf 9)),(18,.int .i64 (f.blocks.length:Int)),(19,.int .i64 (i:Int)),(4,.int .i64 (i:Int)),(37,.int .i64 (b.ins.length:Int)),(38,.int .i64 (x.1:Int))])
      (fun x B=>x.1≤b.ins.length∧x.2.length=x.1∧x.2.map (·.1)=b.ins.take x.1∧FX B∧B.m bb=some ⟨⟨((dn.map BV.c++R.drop i).set i (blockC b A4 c4)).flatten⟩,50⟩∧OwnD B h.n dn∧(b.ins.length≠0→B.m r=some ⟨⟨(x.2.map insVC++R2.drop x.1).flatten⟩,58⟩)∧(∀ y∈x.2,y.1.args≠[]→h.n≤y.2∧B.m y.2=some ⟨⟨argsC y.1.args⟩,46⟩)∧(dn.flatMap (·.ins)++x.2).Pairwise fun x y=>x.1.args≠[]→y.1.args≠[]→x.2 < y.2) (fun x=>b.ins.length - x.1)
      (fun B' a=>⟨(0,[]),?_,⟨Nat.zero_le _,rfl,by rw [List.take_zero];rfl,FXup hfx8 (old8.trans a.oldH) fun j x hx _ _=>a.up _ _ hx,a.up _ _ hO8,od8.up a.up,fun hn=>a.up _ _ (by rw [(hr hn).2.2.2,← (hR2 hn).1];rfl),(fun y hy=>by cases hy),by rw [List.append_nil];exact od8.sepA⟩⟩) ?_
    · (repeat' (first|exact trivial|exact rfl|apply And.intro));done
    rintro ⟨k,di⟩ B9 π9 sB9 ⟨hk,hdk,hdt,hfx9,hOa,od9,hRa,hdar,hsep⟩
    dsimp only at hk hdk hdt hfx9 hOa od9 hRa hdar hsep ⊢
    have hOan:=sB9.dom _ _ hOa
    by_cases hkl:k < b.ins.length
    · have hn0:b.ins.length≠0:=by omega
      obtain ⟨rfl,rfl,hrn,hr8⟩:=hr hn0
      obtain ⟨k1,k2,k3,k4⟩:=hR2 hn0
      replace hRa:=hRa hn0
      have hRan:=sB9.dom _ _ hRa
      obtain ⟨x,hx⟩:∃ x,b.ins[k]?=some x:=⟨_,List.getElem?_eq_getElem hkl⟩
      obtain ⟨Ax,cx,hR2k,hargs⟩:=k4 k x hx
      have hxa:=hb5 b (List.mem_of_getElem? hb) x (List.mem_of_getElem? hx)
      have hLR9:∀ c∈di.map insVC++R2.drop k,c.length=12:=by
        intro c hc
        rcases List.mem_append.1 hc with e|e
        · exact ins_wid di c e
        · exact k3 c (List.mem_of_mem_drop e)
      have hLRk:(di.map insVC++R2.drop k)[k]?=some (insC x Ax cx):=by
        rw [List.getElem?_append_right (by simp [hdk]),List.length_map,hdk,Nat.sub_self,List.getElem?_drop,Nat.add_zero]
        exact hR2k
      have hRc:(di.map insVC++R2.drop k).flatten[0+k * 12+11]?=some (.slice Ax x.args.length cx):=by
        rw [Nat.zero_add,flat_get hLR9 k 11 (by decide),hLRk];rfl
      have hrw:rwM≤r:=Nat.le_trans sB.rw hrn
      have hrh:h.n≤r:=Nat.le_trans (FXold hfx).1 hrn
      have hdr:R2.drop k=insC x Ax cx::R2.drop (k+1):=by
        obtain ⟨q1,q2⟩:=List.getElem?_eq_some_iff.1 hR2k
        rw [List.drop_eq_getElem_cons q1,q2]
      have fin:∀ (na:Nat) (B':Hp),B'.m r=some ⟨⟨((di.map insVC++R2.drop k).set k (insVC (x,na))).flatten⟩,58⟩→(∀ j y,B9.m j=some y→j≠r→B'.m j=some y)→Old h B'→(x.args≠[]→B9.n≤na∧B'.m na=some ⟨⟨argsC x.args⟩,46⟩) →
          k+1≤b.ins.length∧(di++[(x,na)]).length=k+1∧(di++[(x,na)]).map (·.1)=b.ins.take (k+1)∧FX B'∧B'.m bb=some ⟨⟨((dn.map BV.c++R.drop i).set i (blockC b (some ⟨r,0,none⟩) (capOf 12))).flatten⟩,50⟩∧OwnD B' h.n dn∧(b.ins.length≠0→B'.m r=some ⟨⟨((di++[(x,na)]).map insVC++R2.drop (k+1)).flatten⟩,58⟩)∧(∀ y∈di++[(x,na)],y.1.args≠[]→h.n≤y.2∧B'.m y.2=some ⟨⟨argsC y.1.args⟩,46⟩)∧(dn.flatMap (·.ins)++(di++[(x,na)])).Pairwise fun x y=>x.1.args≠[]→y.1.args≠[]→x.2 < y.2:=by
        intro na B' hBr hkeep hold hnew
        have hset:(di.map insVC++R2.drop k).set k (insVC (x,na))=(di++[(x,na)]).map insVC++R2.drop (k+1):=by
          rw [List.set_append_right _ _ (by simp [hdk]),List.length_map,hdk,Nat.sub_self,hdr,List.set_cons_zero,List.map_append,List.append_assoc];rfl
        refine ⟨by omega,by simp [hdk],?_,FXup hfx9 hold fun j y hy h1 h2=>hkeep j y hy (ne_of_elem hy hRa (by simpa using h2)),hkeep _ _ hOa (ne_of_elem hOa hRa (by simp)),⟨fun z hz hn=>⟨(od9.row z hz hn).1,hkeep _ _ (od9.row z hz hn).2 ?_⟩,fun z hz y hy hn=>⟨(od9.arg z hz y hy hn).1,hkeep _ _ (od9.arg z hz y hy hn).2 (ne_of_elem (od9.arg z hz y hy hn).2 hRa (by simp))⟩,od9.sep,od9.sepA⟩,fun _=>by rw [hBr,hset],?_,?_⟩
        · obtain ⟨q1,q2⟩:=List.getElem?_eq_some_iff.1 hx
          rw [List.map_append,hdt,List.take_succ_eq_append_getElem q1,q2];rfl
        · have:=hbl (od.row z hz hn).2
          omega
        · intro y hy hyn
          rcases List.mem_append.1 hy with e|e
          · exact ⟨(hdar y e hyn).1,hkeep _ _ (hdar y e hyn).2 (ne_of_elem (hdar y e hyn).2 hRa (by simp))⟩
          · simp only [List.mem_singleton] at e
            subst e
            exact ⟨Nat.le_trans (FXold hfx9).1 (hnew hyn).1,(hnew hyn).2⟩
        · rw [← List.append_assoc,List.pairwise_append]
          refine ⟨hsep,List.pairwise_singleton _ _,fun y hy z hz hyn hzn=>?_⟩
          simp only [List.mem_singleton] at hz
          subst hz
          have h1:=(hnew hzn).1
          have h2:y.2 < B9.n:=by
            rcases List.mem_append.1 hy with e|e
            · obtain ⟨w,hw,hyw⟩:=List.mem_flatMap.1 e
              exact sB9.dom _ _ (od9.arg w hw y hyw hyn).2
            · exact sB9.dom _ _ (hdar y e hyn).2
          show y.2 < na
          omega
      have setr:∀ z,Old h (B9.set r z):=fun z=>((FXold hfx9).off.same ((OffS.set B9 r z).mono (T:=fun j=>h.n≤j) fun j _ e=>by rw [e];exact hrh)).old fun j hj e=>by omega
      by_cases hae:x.args=[]
      · have hs0:x.args.length=0:=by rw [hae];rfl
        obtain ⟨na,hna⟩:∃ na:Nat,na=0:=⟨0,rfl⟩
        have hput:(Value.slice none 0 0)=rowVl 2 na x.args:=by rw [hae];rfl
        repeat (first|((with_reducible apply RS.indexAddrS);(iterate 5 exact rfl);omega)|((with_reducible apply RS.load1B);(iterate 3 exact rfl);first|exact hOa;exact hOan;exact hO80|exact hRa;exact hRan;exact hRc)|((with_reducible apply RS.appendNil0);(iterate 4 exact rfl);exact hs0;kernel_rfl)|((with_reducible apply RS.storeB);(iterate 3 exact rfl);exact hRa;exact hRan;exact hrw;exact cell_le hLR9 hLRk (o:=11) (by decide);(iterate 2 exact rfl);exact cell_put hLR9 hLRk (o:=11) (y:=insVC (x,na)) (by decide) (by unfold insVC;rw [← hput];rfl))|((with_reducible first|apply RS.move|apply RS.assign|apply RS.fieldAddr);iterate 3 exact rfl)|((with_reducible apply RS.cmpT);(iterate 4 exact rfl);(simp only [cmpP];omega))|((with_reducible apply RS.add1);(iterate 4 exact rfl);omega)|((with_reducible apply RS.nil);exact mixed;kernel_rfl)|(with_reducible first|apply W.seq|apply W.block|apply W.skip|apply thenK_n|apply blockK_n)|((with_reducible apply W.reg);kernel_rfl)|((with_reducible apply W.condT);kernel_rfl;exact rfl))
        refine roundN_n rfl fun B' a=>⟨(k+1,di++[(x,na)]),?_,fin na B' (a.up _ _ (by show (if r=r then _ else _)=_;rw [if_pos rfl])) (fun j y hy hne=>a.up _ _ (by show (if j=r then _ else B9.m j)=_;rw [if_neg hne];exact hy)) ((setr _).trans a.oldH) (fun hn=>absurd hae hn),?_⟩
        · (repeat' (first|exact trivial|exact rfl|apply And.intro));done
        · show b.ins.length - (k+1) < b.ins.length - k
          omega
      · obtain ⟨q,off,cs,e,rfl,hq2',hq3,hq5⟩:=slat_whole hargs hae
        have hq2:=(FXold hfx9).up hd _ _ hq2'
        have hq2n:=sB9.dom _ _ hq2
        have hq4:takeV off (x.args.length * 2) cs=argsC x.args:=rows_eq hq3 fun i a ha=>hq5 i a ha
        have hapos:0 < x.args.length:=List.length_pos_iff.2 hae
        obtain ⟨na,hna⟩:∃ na:Nat,na=π9 0:=⟨_,rfl⟩
        have hput:(Value.slice (some ⟨π9 0,0,none⟩) x.args.length (capOf 2))=rowVl 2 na x.args:=by rw [hna,rowVl_ne hae]
        repeat (first|((with_reducible apply RS.indexAddrS);(iterate 5 exact rfl);omega)|((with_reducible apply RS.load1B);(iterate 3 exact rfl);first|exact hOa;exact hOan;exact hO80|exact hRa;exact hRan;exact hRc)|((with_reducible apply RS.appendNilB);(iterate 6 exact rfl);exact hq2;exact hq2n;exact hq3;omega;omega;omega;exact hq4)|((with_reducible apply RS.storeB);(iterate 3 exact rfl);exact hRa;exact hRan;exact hrw;exact cell_le hLR9 hLRk (o:=11) (by decide);(iterate 2 exact rfl);exact cell_put hLR9 hLRk (o:=11) (y:=insVC (x,na)) (by decide) (by unfold insVC;rw [← hput];rfl))|((with_reducible first|apply RS.move|apply RS.assign|apply RS.fieldAddr);iterate 3 exact rfl)|((with_reducible apply RS.cmpT);(iterate 4 exact rfl);(simp only [cmpP];omega))|((with_reducible apply RS.add1);(iterate 4 exact rfl);omega)|((with_reducible apply RS.nil);exact mixed;kernel_rfl)|(with_reducible first|apply W.seq|apply W.block|apply W.skip|apply thenK_n|apply blockK_n)|((with_reducible apply W.reg);kernel_rfl)|((with_reducible apply W.condT);kernel_rfl;exact rfl))
        refine roundN_n rfl fun B' a=>?_
        have hlo:B9.n≤π9 0:=a.lo 0 (Nat.lt_succ_self 0)
        have hloc:B'.m (π9 0)=some ⟨⟨argsC x.args⟩,46⟩:=a.loc 0 (Nat.lt_succ_self 0)
        refine ⟨(k+1,di++[(x,na)]),?_,fin na B' (a.up _ _ (by show (if r=r then _ else _)=_;rw [if_pos rfl])) (fun j y hy hne=>a.up _ _ (by show (if j=r then _ else B9.m j)=_;rw [if_neg hne];exact hy)) ((setr _).trans a.oldH) (fun _=>by rw [hna];exact ⟨hlo,hloc⟩),?_⟩
        · (repeat' (first|exact trivial|exact rfl|apply And.intro));done
        · show b.ins.length - (k+1) < b.ins.length - k
          omega
    · have hkk:k=b.ins.length:=by omega
      rw [hkk,List.take_length] at hdt
      have hbs:(⟨di,r,b.term⟩:BV).s=b:=by unfold BV.s;rw [hdt]
      have hde:di=[]↔b.ins.length=0:=by
        rw [← List.length_eq_zero_iff];omega
      have hbc:(⟨di,r,b.term⟩:BV).c=blockC b A4 c4:=by
        rw [BVc_eq,hbs]
        unfold BV.A BV.k
        by_cases hn0:b.ins.length=0
        · obtain ⟨e1,e2⟩:=hz7 hn0
          have:di=[]:=hde.2 hn0
          subst this
          rw [e1,e2];rfl
        · obtain ⟨e1,e2,_,_⟩:=hr hn0
          have:di≠[]:=fun e=>hn0 (hde.1 e)
          rw [if_neg this,if_neg this,e1,e2]
      have hdrR:R.drop i=blockC b A c::R.drop (i+1):=by
        obtain ⟨q1,q2⟩:=List.getElem?_eq_some_iff.1 hRi
        rw [List.drop_eq_getElem_cons q1,q2]
      have hset:(dn.map BV.c++R.drop i).set i (blockC b A4 c4)=(dn++[(⟨di,r,b.term⟩:BV)]).map BV.c++R.drop (i+1):=by
        rw [List.set_append_right _ _ (by simp [hdl]),List.length_map,hdl,Nat.sub_self,hdrR,List.set_cons_zero,List.map_append,List.append_assoc,← hbc];rfl
      rw [hset] at hOa
      repeat (first|((with_reducible apply RS.move);iterate 3 exact rfl)|((with_reducible apply RS.cmpF);(iterate 4 exact rfl);(simp only [cmpN];omega))|((with_reducible apply RS.add1);(iterate 4 exact rfl);omega)|((with_reducible apply RS.nil);exact mixed;kernel_rfl)|(with_reducible first|apply W.seq|apply W.exit|apply thenK_n|apply thenK_e|apply blockK_n|apply roundN_e)|((with_reducible apply W.reg);kernel_rfl)|((with_reducible apply W.condF);kernel_rfl;exact rfl)|((with_reducible apply blockK_hit);exact rfl))
      refine roundN_n rfl fun B' a=>⟨(i+1,dn++[⟨di,r,b.term⟩]),?_,⟨by omega,by simp [hdl],?_,FXup hfx9 ((FXold hfx9).trans a.oldH) fun j x hx _ _=>a.up _ _ hx,a.up _ _ hOa,?_⟩,?_⟩
      · (repeat' (first|exact trivial|exact rfl|apply And.intro));done
      · show sL (dn++[⟨di,r,b.term⟩])=f.blocks.take (i+1)
        obtain ⟨q1,q2⟩:=List.getElem?_eq_some_iff.1 hb
        have e:sL (dn++[⟨di,r,b.term⟩])=sL dn++[(⟨di,r,b.term⟩:BV).s]:=by simp [sL]
        rw [e,hds,hbs,List.take_succ_eq_append_getElem q1,q2]
      · have od10:=od9.up a.up
        have hr10:di≠[]→h.n≤r∧B'.m r=some ⟨⟨(di.map insVC).flatten⟩,58⟩:=by
          intro hn
          have hn0:b.ins.length≠0:=fun e=>hn (hde.2 e)
          refine ⟨Nat.le_trans (FXold hfx).1 (hr hn0).2.2.1,a.up _ _ ?_⟩
          rw [hRa hn0,List.drop_eq_nil_of_le (by rw [(hR2 hn0).2.1];omega),List.append_nil]
        refine ⟨fun z hz hn=>?_,fun z hz y hy hn=>?_,?_,?_⟩
        · rcases List.mem_append.1 hz with e|e
          · exact od10.row z e hn
          · simp only [List.mem_singleton] at e
            subst e
            exact hr10 hn
        · rcases List.mem_append.1 hz with e|e
          · exact od10.arg z e y hy hn
          · simp only [List.mem_singleton] at e
            subst e
            exact ⟨(hdar y hy hn).1,a.up _ _ (hdar y hy hn).2⟩
        · rw [List.pairwise_append]
          refine ⟨od9.sep,List.pairwise_singleton _ _,fun y hy z hz hyn hzn=>?_⟩
          simp only [List.mem_singleton] at hz
          subst hz
          have hn0:b.ins.length≠0:=fun e=>hzn (hde.2 e)
          have h1:=hbl (od.row y hy hyn).2
          have h2:=(hr hn0).2.2.1
          show y.r < r
          omega
        · rw [List.flatMap_append]
          simpa using hsep
      · show f.blocks.length - (i+1) < f.blocks.length - i
        omega
  · have hii:i=f.blocks.length:=by omega
    have hds':sL dn=f.blocks:=by rw [hds,hii,List.take_length]
    have hRn:R.drop i=[]:=List.drop_eq_nil_of_le (by rw [g2];omega)
    rw [hRn,List.append_nil] at hO
    obtain ⟨oldB,hF9,hRb9,hA1,hA2⟩:=(hFX _).1 hfx
    have hF9n:=sB.dom _ _ hF9
    have hRb9n:=sB.dom _ _ hRb9
    have hFF:∀ X,(B.set fb X).m fb=some X:=fun X=>by show (if fb=fb then _ else _)=_;rw [if_pos rfl]
    have hRR:∀ X,(B.set fb X).m rb=some ⟨⟨cellsV (.agg ⟨funcC ⟨⟨#[]⟩,0,0,0,[],[]⟩ none 0 none 0 none 0⟩)⟩,37⟩:=fun X=>by
      show (if rb=fb then _ else B.m rb)=_
      rw [if_neg (fun e=>hfr e.symm)];exact hRb9
    repeat (first|((with_reducible apply RS.storeB);(iterate 3 exact rfl);exact hF9;exact hF9n;exact hFw;exact Nat.le_of_ble_eq_true rfl;(iterate 2 exact rfl);exact (show setL (funcC f A1' c1' A2' c2' (some ⟨b3,o3,none⟩) c3) (0+5) [.slice (some ⟨bb,0,none⟩) f.blocks.length (capOf 9)]=funcC f A1' c1' A2' c2' (some ⟨bb,0,none⟩) (capOf 9) from rfl))|((with_reducible apply RS.loadNB);(iterate 3 exact rfl);exact hFF _;exact hF9n;exact Nat.le_of_ble_eq_true rfl;exact rfl)|((with_reducible apply RS.storeB);(iterate 3 exact rfl);exact hRR _;exact hRb9n;exact hRw;exact Nat.le_of_ble_eq_true rfl;iterate 3 exact rfl)|((with_reducible first|apply RS.move|apply RS.fieldAddr);iterate 3 exact rfl)|((with_reducible apply RS.cmpF);(iterate 4 exact rfl);(simp only [cmpN];omega))|((with_reducible apply RS.nil);exact mixed;kernel_rfl)|(with_reducible first|apply W.seq|apply W.exit|apply W.ret|apply thenK_n|apply thenK_e|apply roundN_e)|((with_reducible apply W.reg);kernel_rfl)|((with_reducible apply W.condF);kernel_rfl;exact rfl)|((with_reducible apply blockK_hit);exact rfl))
    have keepZ:∀ (X Y:Blk) {j:Nat} {x:Blk},B.m j=some x→x.elem≠37→((B.set fb X).set rb Y).m j=some x:=by
      intro X Y j x hx he
      show (if j=rb then _ else (if j=fb then _ else B.m j))=_
      rw [if_neg (ne_of_elem hx hRb9 he),if_neg (ne_of_elem hx hF9 he)]
      exact hx
    refine endsK_ret _ (.cons (.baseN (vs:=funcC f A1' c1' A2' c2' (some ⟨bb,0,none⟩) (capOf 9)) rfl (by show (if rb=rb then _ else _)=_;rw [if_pos rfl]) (Nat.le_of_ble_eq_true rfl) rfl) .nil) fun B' a=>⟨A1',c1',A2',c2',bb,dn,rfl,a.up _ _ (keepZ _ _ hO (by simp)),hbbn,?_,hds',?_,?_,?_⟩
    · exact ⟨fun z hz hn=>⟨(od.row z hz hn).1,a.up _ _ (keepZ _ _ (od.row z hz hn).2 (by simp))⟩,fun z hz y hy hn=>⟨(od.arg z hz y hy hn).1,a.up _ _ (keepZ _ _ (od.arg z hz y hy hn).2 (by simp))⟩,od.sep,od.sepA⟩
    · exact ((oldB.off.same (S:=fun j=>h.n≤j) ((OffS.set B fb _).mono fun j _ e=>by rw [e];exact hfb)).same ((OffS.set _ rb _).mono fun j _ e=>by rw [e];exact hrb)).same a.oldH.off |>.old fun j hj e=>by omega
    · by_cases hn:sec=[]
      · exact .inl hn
      obtain ⟨r,q1,q2,q3⟩:=hA1 (by rw [← hsec];exact fun e=>hn (List.length_eq_zero_iff.1 e))
      exact .inr ⟨r,q1,q2,a.up _ _ (keepZ _ _ (by rw [q3,slat_map hS hcp1 hn fun _ _ h=>h]) (by simp))⟩
    · by_cases hn:f.slots=[]
      · exact .inl hn
      obtain ⟨r,q1,q2,q3⟩:=hA2 (fun e=>hn (List.length_eq_zero_iff.1 e))
      exact .inr ⟨r,q1,q2,a.up _ _ (keepZ _ _ (by rw [q3,slat_map hL hcp2 hn fun _ _ h=>h]) (by simp))⟩
end Go.Proofs.YtjhloakacicdiaaDoor
namespace Go.Proofs.YtjhloakacicdiaaDoor
open Go.AH
attribute [local irreducible] W RS
def setV (L:Nat) (a:Nat):Value:=.slice (some ⟨a,0,none⟩) L L
structure SetsAt (h:Hp) (N ib:Nat) (al:List Nat) (ss:List SetS) (L:Nat):Prop where
  m:h.m ib=some ⟨⟨al.map (setV L)⟩,52⟩
  len:al.length=ss.length
  pt:∀ (i a:Nat) (s:SetS),al[i]?=some a→ss[i]?=some s→h.m a=some ⟨⟨setC s⟩,90⟩∧s.length=L∧N≤a
theorem SetsAt.up {h H:Hp} {N ib:Nat} {al:List Nat} {ss:List SetS} {L:Nat} (s:SetsAt h N ib al ss L) (hu:∀ i b,h.m i=some b→H.m i=some b):SetsAt H N ib al ss L :=
  ⟨hu _ _ s.m,s.len,fun i a x h1 h2=>⟨hu _ _ (s.pt i a x h1 h2).1,(s.pt i a x h1 h2).2⟩⟩
theorem SetsAt.set {h:Hp} {N ib:Nat} {al:List Nat} {ss:List SetS} {L:Nat} (s:SetsAt h N ib al ss L) (hd:al.Nodup) {i a:Nat} (ha:al[i]?=some a) {x:SetS} (hx:x.length=L):SetsAt (h.set a ⟨⟨setC x⟩,90⟩) N ib al (ss.set i x) L:=by
  have hi:=(List.getElem?_eq_some_iff.1 ha).1
  obtain ⟨y,hy⟩:∃ y,ss[i]?=some y:=⟨_,List.getElem?_eq_getElem (by rw [← s.len];exact hi)⟩
  have hm:=(s.pt i a y ha hy).1
  refine ⟨?_,by rw [List.length_set];exact s.len,fun j b z h1 h2=>?_⟩
  · show (if ib=a then _ else h.m ib)=_
    rw [if_neg (ne_of_elem s.m hm (by simp))]
    exact s.m
  · rw [List.getElem?_set] at h2
    by_cases e:i=j
    · subst e
      rw [if_pos rfl,if_pos (by rw [← s.len];exact hi)] at h2
      injection h2 with h2
      subst h2
      rw [ha] at h1
      injection h1 with h1
      subst h1
      exact ⟨by show (if a=a then _ else _)=_;rw [if_pos rfl],hx,(s.pt i a y ha hy).2.2⟩
    · rw [if_neg e] at h2
      have hne:b≠a:=by
        intro e2
        subst e2
        exact e ((List.getElem?_inj hi hd).1 (by rw [ha,h1]))
      exact ⟨by show (if b=a then _ else h.m b)=_;rw [if_neg hne];exact (s.pt j b z h1 h2).1,(s.pt j b z h1 h2).2⟩
theorem SetsAt.other {h:Hp} {N ib:Nat} {al:List Nat} {ss:List SetS} {L:Nat} (s:SetsAt h N ib al ss L) {a:Nat} {b:Blk} (hb:h.m a=some b) (he:b.elem=90) (ha:a ∉ al) (z:Blk):SetsAt (h.set a z) N ib al ss L:=by
  refine ⟨?_,s.len,fun j c x h1 h2=>?_⟩
  · show (if ib=a then _ else h.m ib)=_
    rw [if_neg (ne_of_elem s.m hb (by rw [he];simp))]
    exact s.m
  · have hne:c≠a:=fun e=>ha (by rw [← e];exact List.mem_of_getElem? h1)
    exact ⟨by show (if c=a then _ else h.m c)=_;rw [if_neg hne];exact (s.pt j c x h1 h2).1,(s.pt j c x h1 h2).2⟩
theorem empty_at {h:SH} {n:Int} (h0:0≤n) (h1:n≤1000000) (H:Hp) (hH:Sees h true [] H):TF Tryd.prog 45 ⟨[.int .i64 n]⟩ H (.slice (some ⟨h.π h.k,0,none⟩) (emptyS n).length (emptyS n).length) (H.push ⟨⟨setC (emptyS n)⟩,90⟩):=by
  have:=empty_tf n h0 h1 H
  rw [hH.n] at this;exact this
theorem rep_nil (n:Nat):repL (cellsV (.slice none 0 0)) n=List.replicate n (.slice none 0 0):=by
  induction n with
  | zero=>rfl
  | succ n ih=>rw [repL,ih,List.replicate_succ];rfl
theorem cells_set1 (l:List Value) (i:Nat) (v:Value):setL l (0+i * 1) [v]=l.set i v:=by
  rw [setL_cons,setL_nil,Nat.zero_add,Nat.mul_one]
def partV (L n:Nat) (al:List Nat):List Value:=al.map (setV L)++List.replicate (n - al.length) (.slice none 0 0)
theorem partV_set {L n:Nat} {al:List Nat} {a:Nat} (h:al.length < n):(partV L n al).set al.length (setV L a)=partV L n (al++[a]):=by
  unfold partV
  obtain ⟨m,hm⟩:∃ m,n - al.length=m+1:=⟨n - al.length - 1,by omega⟩
  rw [hm,List.set_append_right _ _ (by simp),List.length_map,Nat.sub_self,List.replicate_succ,List.set_cons_zero,List.map_append,List.length_append]
  have:n - (al.length+[a].length)=m:=by simp;omega
  rw [this];simp
theorem partV_len {L n:Nat} {al:List Nat} (h:al.length≤n):(partV L n al).length=n:=by unfold partV;simp;omega
structure Fill (h:Hp) (N ib ob n L:Nat) (E:SetS) (ai ao:List Nat) (B:Hp):Prop where
  old:Old h B
  mi:B.m ib=some ⟨⟨partV L n ai⟩,52⟩
  mo:B.m ob=some ⟨⟨partV L n ao⟩,52⟩
  pt:∀ a∈ai++ao,B.m a=some ⟨⟨setC E⟩,90⟩∧N≤a
  nd:(ai++ao).Nodup
def muS (s:SetS):Nat:=(s.map fun w=>2 ^ 64 - w.toNat).sum
def muL (l:List SetS):Nat:=(l.map muS).sum
theorem or_ge (a b:BitVec 64):a.toNat≤(a ||| b).toNat:=by
  rw [BitVec.toNat_or];exact Nat.left_le_or
theorem muS_join:∀ (s t:SetS),muS (joinS s t)≤muS s∧(joinS s t≠s→muS (joinS s t) < muS s)
  | [],[]=>⟨Nat.le_refl _,fun h=>absurd rfl h⟩
  | [],_::_=>⟨Nat.le_refl _,fun h=>absurd rfl h⟩
  | w::s,[]=>⟨Nat.le_refl _,fun h=>absurd rfl h⟩
  | w::s,o::t=>by
    obtain ⟨h1,h2⟩:=muS_join s t
    have h3:=or_ge w o
    have h4:=(w ||| o).isLt
    have e1:muS (joinS (w::s) (o::t))=(2 ^ 64 - (w ||| o).toNat)+muS (joinS s t):=by simp [joinS,muS]
    have e2:muS (w::s)=(2 ^ 64 - w.toNat)+muS s:=by simp [muS]
    refine ⟨by rw [e1,e2];omega,fun hne=>?_⟩
    rw [e1,e2]
    by_cases hw:(w ||| o)=w
    · have:joinS s t≠s:=fun e=>hne (by rw [joinS,hw,e])
      have:=h2 this
      omega
    · have:w.toNat≠(w ||| o).toNat:=fun e=>hw (BitVec.eq_of_toNat_eq e.symm)
      omega
theorem muL_set {l:List SetS} {i:Nat} {a b:SetS} (h:l[i]?=some a):muL (l.set i b)+muS a=muL l+muS b:=by
  unfold muL
  rw [List.map_set]
  exact sum_set (by rw [List.getElem?_map,h];rfl)
theorem liveStep_mu (bl:List BlockS) (st:LiveS) (i:Nat) (hi:i < st.ins.length):muL (liveStep bl st i).ins≤muL st.ins∧((liveStep bl st i).again=true→st.again=true∨muL (liveStep bl st i).ins < muL st.ins)∧(liveStep bl st i).ins.length=st.ins.length:=by
  unfold liveStep
  split
  · rename_i b hb
    obtain ⟨a,ha⟩:∃ a,st.ins[i]?=some a:=⟨_,List.getElem?_eq_getElem hi⟩
    have e:st.ins[i]?.getD []=a:=by rw [ha];rfl
    simp only [e]
    obtain ⟨h1,h2⟩:=muS_join a (liveIn b (liveOut st.ins (st.outs[i]?.getD []) (nextS b.term)))
    have h3:=muL_set (b:=joinS a (liveIn b (liveOut st.ins (st.outs[i]?.getD []) (nextS b.term)))) ha
    refine ⟨by omega,fun h=>?_,List.length_set⟩
    rw [Bool.or_eq_true] at h
    rcases h with h|h
    · exact .inl h
    · have:=h2 (by simpa using h)
      exact .inr (by omega)
  · exact ⟨Nat.le_refl _,fun h=>.inl h,rfl⟩
theorem liveDown_mu (bl:List BlockS):∀ (i:Nat) (st:LiveS),i≤st.ins.length→muL (liveDown bl i st).ins≤muL st.ins∧((liveDown bl i st).again=true→st.again=true∨muL (liveDown bl i st).ins < muL st.ins)∧(liveDown bl i st).ins.length=st.ins.length:=by
  intro i
  induction i with
  | zero=>intro st _;exact ⟨Nat.le_refl _,fun h=>.inl h,rfl⟩
  | succ i ih =>
    intro st hi
    obtain ⟨h1,h2,h3⟩:=liveStep_mu bl st i (by omega)
    obtain ⟨g1,g2,g3⟩:=ih (liveStep bl st i) (by omega)
    rw [liveDown]
    refine ⟨by omega,fun h=>?_,by omega⟩
    rcases g2 h with g|g
    · rcases h2 g with k|k
      · exact .inl k
      · exact .inr (by omega)
    · exact .inr (by omega)
theorem liveRound_mu (bl:List BlockS) (st:LiveS) (hl:st.ins.length=bl.length):muL (liveRound bl st).ins≤muL st.ins∧((liveRound bl st).again=true→muL (liveRound bl st).ins < muL st.ins)∧(liveRound bl st).ins.length=bl.length:=by
  obtain ⟨h1,h2,h3⟩:=liveDown_mu bl bl.length { st with again:=false } (by simp [hl])
  refine ⟨h1,fun h=>?_,by rw [← hl];exact h3⟩
  rcases h2 h with k|k
  · cases k
  · exact k
theorem live_total (bl:List BlockS):∀ (n:Nat) (st:LiveS),st.ins.length=bl.length→muL st.ins≤n→∃ st',LiveRun bl st st':=by
  intro n
  induction n with
  | zero =>
    intro st hl hm
    obtain ⟨h1,h2,h3⟩:=liveRound_mu bl st hl
    cases ha:(liveRound bl st).again with
    | false=>exact ⟨_,.stop ha⟩
    | true=>have:=h2 ha;omega
  | succ n ih =>
    intro st hl hm
    obtain ⟨h1,h2,h3⟩:=liveRound_mu bl st hl
    cases ha:(liveRound bl st).again with
    | false=>exact ⟨_,.stop ha⟩
    | true =>
      obtain ⟨st',h⟩:=ih (liveRound bl st) h3 (by have:=h2 ha;omega)
      exact ⟨st',.go ha h⟩
end Go.Proofs.YtjhloakacicdiaaDoor
namespace Go.Proofs.YtjhloakacicdiaaDoor
open Go.AH
attribute [local irreducible] W RS
structure LiveAt (h:Hp) (ib ob:Nat) (ai ao:List Nat) (L:Nat) (ins outs:List SetS) (B:Hp):Prop where
  old:Old h B
  i:SetsAt B h.n ib ai ins L
  o:SetsAt B h.n ob ao outs L
theorem LiveAt.up {h:Hp} {ib ob:Nat} {ai ao:List Nat} {L:Nat} {ins outs:List SetS} {B B':Hp} (s:LiveAt h ib ob ai ao L ins outs B) (hd:∀ i x,B.m i=some x→i < B.n) (o:Old B B'):LiveAt h ib ob ai ao L ins outs B' :=
  ⟨s.old.trans o,s.i.up (o.up hd),s.o.up (o.up hd)⟩
theorem setcopy_exL {L:Nat} (s:SetS) (hL:s.length=L) (A:Option Addr) (c:Nat) (hl:L≤1000000000) (h:Hp) (hs:SetAt h A s):EX Tryd.prog 16 [.slice A L c] h (fun v h'=>∃ A' c',v=.slice A' L c'∧SetAt h' A' s∧Old h h'∧∀ a,A'=some a→h.n≤a.block):=by
  subst hL;exact setcopy_ex s A c hl h hs
theorem use_exL {L:Nat} (s:SetS) (hL:s.length=L) (A:Option Addr) (c:Nat) (l:List ArgS) (R:Option Addr) (cL:Nat) (hsl:L≤1000000000) (hll:l.length≤1000000001) (hfit:∀ a∈l,fitI a.reg) (h:Hp) (hs:SetAt h A s) (hl:SlAt h R 2 l argR) :
    EX Tryd.prog 48 [.slice A L c,.slice R l.length cL] h (fun _ h'=>SetAt h' A (useS s l)∧OffS (SN A) h h'):=by
  subst hL;exact use_ex s A c l R cL hsl hll hfit h hs hl
theorem back_exL {L:Nat} (s:SetS) (hL:s.length=L) (A:Option Addr) (c:Nat) (x:InsS) (A2:Option Addr) (c2:Nat) (hsl:L≤1000000000) (hxl:x.args.length≤1000000000) (hfd:fitI x.dst) (hfit:∀ a∈readsS x,fitI a.reg) (h:Hp) (hs:SetAt h A s) (hl:SlAt h A2 2 x.args argR) :
    EX Tryd.prog 22 [.slice A L c,.agg ⟨insC x A2 c2⟩] h (fun _ h'=>SetAt h' A (backS s x)∧OffS (SN A) h h'):=by
  subst hL;exact back_ex s A c x A2 c2 hsl hxl hfd hfit h hs hl
theorem join_tfL {L:Nat} (s o:SetS) (h1:s.length=L) (h2:o.length=L) (A A':Option Addr) (c c':Nat) (hl:L≤1000000000) (h:Hp) (hs:SetAt h A s) (ho:SetAt h A' o) (hne:A≠A'∨A=none):TF Tryd.prog 47 ⟨[.slice A L c,.slice A' L c']⟩ h (.bool (joinS s o != s)) (setH h A (joinS s o)):=by
  subst h1
  have:=join_tf s o A A' c c' hl (by omega) h hs ho hne
  rw [h2] at this
  exact this
theorem SetsAt.offA {h H:Hp} {N ib:Nat} {al:List Nat} {ss:List SetS} {L:Nat} (s:SetsAt h N ib al ss L) (hd:∀ i b,h.m i=some b→i < h.n) {A:Option Addr} {t:SetS} (hA:SetAt h A t) (ho:OffS (SN A) h H) (hne:∀ x∈al,¬ SN A x):SetsAt H N ib al ss L:=by
  refine ⟨?_,s.len,fun i a x h1 h2=>?_⟩
  · rw [ho.2 ib (hd _ _ s.m) fun e=>?_]
    · exact s.m
    · cases hA with
      | none=>cases e
      | some hm hr =>
        have e:some _=some _:=e
        injection e with e
        injection e with e
        subst e
        exact absurd rfl (ne_of_elem s.m hm (by simp))
  · have h3:=s.pt i a x h1 h2
    rw [ho.2 a (hd _ _ h3.1) (hne a (List.mem_of_getElem? h1))]
    exact h3
theorem backS_len (s:SetS) (x:InsS):(backS s x).length=s.length:=by unfold backS;rw [useS_length,outS_length]
theorem foldBack_len:∀ (l:List InsS) (s:SetS),(l.foldl backS s).length=s.length:=by
  intro l
  induction l with
  | nil=>intro s;rfl
  | cons x l ih=>intro s;rw [List.foldl_cons,ih,backS_len]
theorem LiveAt.offA {h:Hp} {ib ob:Nat} {ai ao:List Nat} {L:Nat} {ins outs:List SetS} {B H:Hp} (s:LiveAt h ib ob ai ao L ins outs B) (hd:∀ i b,B.m i=some b→i < B.n) {A:Option Addr} {t:SetS} (hA:SetAt B A t) (ho:OffS (SN A) B H) (hne:∀ x∈ai++ao,¬ SN A x) (hh:∀ i,SN A i→h.n≤i):LiveAt h ib ob ai ao L ins outs H :=
  ⟨(s.old.off.same (S:=fun j=>h.n≤j) (ho.mono fun j _ e=>hh j e)).old fun j hj e=>by omega,s.i.offA hd hA ho fun x hx=>hne x (List.mem_append.2 (.inl hx)),s.o.offA hd hA ho fun x hx=>hne x (List.mem_append.2 (.inr hx))⟩
theorem offA_keep {B H:Hp} (hd:∀ i b,B.m i=some b→i < B.n) {A:Option Addr} {t:SetS} (hA:SetAt B A t) (ho:OffS (SN A) B H) {j:Nat} {x:Blk} (hx:B.m j=some x) (he:x.elem≠90):H.m j=some x:=by
  rw [ho.2 j (hd _ _ hx) fun e=>?_]
  · exact hx
  · cases hA with
    | none=>cases e
    | some hm hr =>
      have e:some _=some _:=e
      injection e with e
      injection e with e
      subst e
      exact absurd rfl (ne_of_elem hx hm (by simpa using he))
theorem treads_len (t:TermS):(treadsS t).length≤1000000001:=by
  unfold treadsS
  repeat' split
  all_goals simp
theorem setAt_at {B H:Hp} {A:Option Addr} {s:SetS} (hs:SetAt B A s) (hd:∀ i b,B.m i=some b→i < B.n) (hb:∀ i,i < B.n→H.m i=B.m i):SetAt H A s:=by
  cases hs with
  | none=>exact .none
  | some hm hr=>exact .some (by rw [hb _ (hd _ _ hm)];exact hm) hr
set_option maxRecDepth 100000 in
theorem live_ex (fb:Nat) (regs:Int) (A:Option Addr) (c:Nat) (bl:List BlockS) (hpos:0 < bl.length) (hlen:bl.length≤100000) (hr0:0≤regs) (hr1:regs≤1000000) (htg:tgtOK bl) (hb4:∀ b∈bl,b.ins.length≤1000000) (hb5:∀ b∈bl,∀ x∈b.ins,x.args.length≤1000000∧fitI x.dst∧∀ a∈readsS x,fitI a.reg) (hb6:∀ b∈bl,∀ a∈treadsS b.term,fitI a.reg) (h:Hp) (hf:FAt h fb regs A c bl) :
    EX Tryd.prog 15 [.pointer (some ⟨fb,0,none⟩)] h (fun v h'=>∃ ib ob ai ao ins outs,v=.tuple ⟨[.slice (some ⟨ib,0,none⟩) bl.length bl.length,.slice (some ⟨ob,0,none⟩) bl.length bl.length]⟩∧LiveAt h ib ob ai ao (emptyS regs).length ins outs h'∧LiveRun bl (live0 bl regs) ⟨ins,outs,false⟩):=by
  refine EX.intro (fn:=Tryd.f15) (c:=(Tryd.f15.body.getD .skip)) Tryd.func15 (by kernel_rfl) Tryd.ntmps15 (by kernel_rfl) fun π s0=>?_
  conv=>arg 2;whnf
  have hd:=s0.dom
  obtain ⟨fcs,hF,h3,h5⟩:=hf.hf
  have hFn:=s0.dom _ _ hF
  ((with_reducible apply W.seq);repeat (first|((with_reducible apply RS.assign);iterate 3 exact rfl)|((with_reducible apply RS.nil);exact mixed;kernel_rfl)|((with_reducible apply W.reg);kernel_rfl)|(with_reducible apply thenK_n)))
  ((with_reducible apply W.seq);repeat (first|((with_reducible apply RS.moveX);(iterate 3 exact rfl);first|exact bnd_int _ _ _|exact (bnd_ptr _ _).2 hFn|exact (bnd_slice _ _ _ _).2 hMin|exact (bnd_slice _ _ _ _).2 hMon)|((with_reducible apply RS.nilCheckX);(iterate 3 exact rfl);exact hFn)|((with_reducible apply RS.fieldAddrX);(iterate 3 exact rfl);exact hFn)|((with_reducible apply RS.load1B);(iterate 3 exact rfl);exact hF;exact hFn;first|exact h5|exact h3)|((with_reducible first|apply RS.assign|apply RS.lenSl);iterate 3 exact rfl)|((with_reducible apply RS.nil);exact mixed;kernel_rfl)|((with_reducible apply W.reg);kernel_rfl)|(with_reducible apply thenK_n)))
  ((with_reducible apply W.seq);repeat (first|((with_reducible apply RS.moveX);(iterate 3 exact rfl);first|exact bnd_int _ _ _|exact (bnd_ptr _ _).2 hFn|exact (bnd_slice _ _ _ _).2 hMin|exact (bnd_slice _ _ _ _).2 hMon)|((with_reducible apply RS.assignL);iterate 3 exact rfl)|((with_reducible apply RS.makeSliceF);(iterate 6 exact rfl);omega;exact rep_nil _;(intro u hu;rw [List.eq_of_mem_replicate hu];exact bnd_slice_none _ _ _))|((with_reducible apply RS.nil);exact mixed;kernel_rfl)|((with_reducible apply W.reg);kernel_rfl)|(with_reducible apply thenK_n)))
  refine W.absorbX fun B0 π0 a0=>?_
  have hI0:B0.m (π 0)=some ⟨⟨List.replicate bl.length (.slice none 0 0)⟩,52⟩:=a0.loc 0 (Nat.lt_of_lt_of_le Nat.zero_lt_one (Nat.le_succ 1))
  have hO0:B0.m (π 1)=some ⟨⟨List.replicate bl.length (.slice none 0 0)⟩,52⟩:=a0.loc 1 (Nat.lt_succ_self 1)
  have hib:h.n≤π 0:=a0.lo 0 (Nat.lt_of_lt_of_le Nat.zero_lt_one (Nat.le_succ 1))
  have hob:h.n≤π 1:=a0.lo 1 (Nat.lt_succ_self 1)
  have hio:π 0≠π 1:=fun e=>absurd (a0.inj 0 1 (Nat.lt_of_lt_of_le Nat.zero_lt_one (Nat.le_succ 1)) (Nat.lt_succ_self 1) e) (by decide)
  generalize π 0=ib at *
  generalize π 1=ob at *
  have hibr:rwM≤ib:=Nat.le_trans s0.rw hib
  have hobr:rwM≤ob:=Nat.le_trans s0.rw hob
  obtain ⟨L,hL⟩:∃ L,L=(emptyS regs).length:=⟨_,rfl⟩
  have hL1:L≤1000000000:=by rw [hL,emptyS_length];omega
  ((with_reducible apply W.seq);repeat (fail))
  ((with_reducible apply W.seq);repeat (first|((with_reducible apply RS.moveX);(iterate 3 exact rfl);first|exact bnd_int _ _ _|exact (bnd_ptr _ _).2 hFn|exact (bnd_slice _ _ _ _).2 hMin|exact (bnd_slice _ _ _ _).2 hMon)|((with_reducible apply RS.nil);exact mixed;kernel_rfl)|((with_reducible apply W.reg);kernel_rfl)|(with_reducible first|apply W.block|apply thenK_n)))
  refine W.loopN (X:=Nat × List Nat × List Nat) (fun x=>[(0,.pointer (some ⟨fb,0,none⟩)),(4,.int .i64 (bl.length:Int)),(5,.slice (some ⟨ib,0,none⟩) bl.length bl.length),(6,.slice (some ⟨ob,0,none⟩) bl.length bl.length),(24,.int .i64 (bl.length:Int)),(25,.int .i64 (x.1:Int))])
    (fun x B=>x.1≤bl.length∧x.2.1.length=x.1∧x.2.2.length=x.1∧Fill h h.n ib ob bl.length L (emptyS regs) x.2.1 x.2.2 B) (fun x=>bl.length - x.1)
    (fun B' a=>⟨(0,[],[]),?_,⟨Nat.zero_le _,rfl,rfl,⟨a0.oldH.trans a.oldH,a.up _ _ hI0,a.up _ _ hO0,(fun a ha=>by cases ha),List.nodup_nil⟩⟩⟩) ?_
  · (repeat' (first|exact trivial|exact rfl|apply And.intro));done
  rintro ⟨i,ai,ao⟩ B π3 sB ⟨hi,hai,hao,hfill⟩
  dsimp only at hi hai hao hfill ⊢
  have hF4:=hfill.old.up hd _ _ hF
  have hMi:=hfill.mi
  have hMin:=sB.dom _ _ hMi
  have hMon:=sB.dom _ _ hfill.mo
  by_cases hlt:i < bl.length
  · have hail:ai.length≤bl.length:=by omega
    have haol:ao.length≤bl.length:=by omega
    have hMo:∀ z,(B.set ib z).m ob=some ⟨⟨partV L bl.length ao⟩,52⟩:=fun z=>by
      show (if ob=ib then _ else B.m ob)=_
      rw [if_neg (fun e=>hio e.symm)];exact hfill.mo
    have hF:=hF4
    have hFn:=sB.dom _ _ hF
    repeat (first|((with_reducible apply RS.moveX);(iterate 3 exact rfl);first|exact bnd_int _ _ _|exact (bnd_ptr _ _).2 hFn|exact (bnd_slice _ _ _ _).2 hMin|exact (bnd_slice _ _ _ _).2 hMon)|((with_reducible apply RS.nilCheckX);(iterate 3 exact rfl);exact hFn)|((with_reducible apply RS.fieldAddrX);(iterate 3 exact rfl);exact hFn)|((with_reducible apply RS.load1BX);(iterate 3 exact rfl);exact hF;exact hFn;exact h3;exact bnd_int _ _ _)|((with_reducible apply RS.indexAddrS);(iterate 5 exact rfl);omega)|((with_reducible apply RS.callN true []);(iterate 3 exact rfl);exact empty_at hr0 hr1)|((with_reducible apply RS.storeB);(iterate 3 exact rfl);first|exact hMi;exact hMin;exact hibr;(rw [partV_len hail];omega);(iterate 2 exact rfl);exact cells_set1 _ _ _|exact hMo _;exact hMon;exact hobr;(rw [partV_len haol];omega);(iterate 2 exact rfl);exact cells_set1 _ _ _)|((with_reducible apply RS.assign);iterate 3 exact rfl)|((with_reducible apply RS.cmpT);(iterate 4 exact rfl);(simp only [cmpP];omega))|((with_reducible apply RS.add1);(iterate 4 exact rfl);omega)|((with_reducible apply RS.nil);exact mixed;kernel_rfl)|(with_reducible first|apply W.seq|apply W.block|apply W.skip|apply thenK_n|apply blockK_n)|((with_reducible apply W.reg);kernel_rfl)|((with_reducible apply W.condT);kernel_rfl;exact rfl))
    refine roundN_n rfl fun B' a=>?_
    have hlo0:B.n≤π3 0:=a.lo 0 (Nat.lt_of_lt_of_le Nat.zero_lt_one (Nat.le_succ 1))
    have hlo1:B.n≤π3 1:=a.lo 1 (Nat.lt_succ_self 1)
    have hm0:B'.m (π3 0)=some ⟨⟨setC (emptyS regs)⟩,90⟩:=a.loc 0 (Nat.lt_of_lt_of_le Nat.zero_lt_one (Nat.le_succ 1))
    have hm1:B'.m (π3 1)=some ⟨⟨setC (emptyS regs)⟩,90⟩:=a.loc 1 (Nat.lt_succ_self 1)
    have h01:π3 0≠π3 1:=fun e=>absurd (a.inj 0 1 (Nat.lt_of_lt_of_le Nat.zero_lt_one (Nat.le_succ 1)) (Nat.lt_succ_self 1) e) (by decide)
    have hps0:(partV L bl.length ai).set i (.slice (some ⟨π3 0,0,none⟩) (emptyS regs).length (emptyS regs).length)=partV L bl.length (ai++[π3 0]):=by
      rw [← hL,← partV_set (by omega),hai];rfl
    have hps1:(partV L bl.length ao).set i (.slice (some ⟨π3 1,0,none⟩) (emptyS regs).length (emptyS regs).length)=partV L bl.length (ao++[π3 1]):=by
      rw [← hL,← partV_set (by omega),hao];rfl
    have keep:∀ {j:Nat} {x:Blk},B.m j=some x→x.elem≠52→B'.m j=some x:=by
      intro j x hx he
      refine a.up _ _ ?_
      show (if j=ob then _ else (if j=ib then _ else B.m j))=_
      rw [if_neg (ne_of_elem hx hfill.mo he),if_neg (ne_of_elem hx hMi he)]
      exact hx
    refine ⟨(i+1,ai++[π3 0],ao++[π3 1]),?_,⟨by omega,by simp [hai],by simp [hao],⟨?_,?_,?_,?_,?_⟩⟩,?_⟩
    · (repeat' (first|exact trivial|exact rfl|apply And.intro));done
    · exact ((hfill.old.off.same (S:=fun j=>h.n≤j) ((OffS.set B ib _).mono fun j _ e=>by rw [e];exact hib)).same ((OffS.set _ ob _).mono fun j _ e=>by rw [e];exact hob)).same a.oldH.off |>.old fun j hj e=>by omega
    · rw [← hps0]
      refine a.up _ _ ?_
      show (if ib=ob then _ else (if ib=ib then _ else _))=_
      rw [if_neg hio,if_pos rfl]
    · rw [← hps1]
      refine a.up _ _ ?_
      show (if ob=ob then _ else _)=_
      rw [if_pos rfl]
    · intro x hx
      have hn:=hfill.old.1
      simp only [List.mem_append,List.mem_singleton] at hx
      rcases hx with (hx|hx)|(hx|hx)
      · have:=hfill.pt x (List.mem_append.2 (.inl hx))
        exact ⟨keep this.1 (by simp),this.2⟩
      · rw [hx];exact ⟨hm0,by omega⟩
      · have:=hfill.pt x (List.mem_append.2 (.inr hx))
        exact ⟨keep this.1 (by simp),this.2⟩
      · rw [hx];exact ⟨hm1,by omega⟩
    · have hb:∀ x∈ai++ao,x < B.n:=fun x hx=>sB.dom _ _ (hfill.pt x hx).1
      have hnd:=hfill.nd
      rw [List.nodup_append] at hnd ⊢
      obtain ⟨n1,n2,n3⟩:=hnd
      refine ⟨?_,?_,?_⟩
      · rw [List.nodup_append]
        refine ⟨n1,by simp,fun x hx y hy=>?_⟩
        simp only [List.mem_singleton] at hy
        have:=hb x (by simp [hx])
        omega
      · rw [List.nodup_append]
        refine ⟨n2,by simp,fun x hx y hy=>?_⟩
        simp only [List.mem_singleton] at hy
        have:=hb x (by simp [hx])
        omega
      · intro x hx y hy
        simp only [List.mem_append,List.mem_singleton] at hx hy
        rcases hx with hx|hx<;>rcases hy with hy|hy
        · exact n3 x hx y hy
        · have:=hb x (by simp [hx]);omega
        · have:=hb y (by simp [hy]);omega
        · rw [hx,hy];exact h01
    · show bl.length - (i+1) < bl.length - i
      omega
  · have hii:i=bl.length:=by omega
    have hli:SetsAt B h.n ib ai (List.replicate bl.length (emptyS regs)) L:=by
      refine ⟨by rw [hMi];unfold partV;rw [hai,hii,Nat.sub_self];simp,by rw [hai,hii,List.length_replicate],fun j x s h1 h2=>?_⟩
      have hs:s=emptyS regs:=List.eq_of_mem_replicate (List.mem_of_getElem? h2)
      have:=hfill.pt x (List.mem_append.2 (.inl (List.mem_of_getElem? h1)))
      rw [hs]
      exact ⟨this.1,hL.symm,this.2⟩
    have hlo:SetsAt B h.n ob ao (List.replicate bl.length (emptyS regs)) L:=by
      refine ⟨by rw [hfill.mo];unfold partV;rw [hao,hii,Nat.sub_self];simp,by rw [hao,hii,List.length_replicate],fun j x s h1 h2=>?_⟩
      have hs:s=emptyS regs:=List.eq_of_mem_replicate (List.mem_of_getElem? h2)
      have:=hfill.pt x (List.mem_append.2 (.inr (List.mem_of_getElem? h1)))
      rw [hs]
      exact ⟨this.1,hL.symm,this.2⟩
    have hla:LiveAt h ib ob ai ao L (List.replicate bl.length (emptyS regs)) (List.replicate bl.length (emptyS regs)) B:=⟨hfill.old,hli,hlo⟩
    have hnd:=hfill.nd
    obtain ⟨tgt,hrun⟩:=live_total bl _ (live0 bl regs) (by simp [live0]) (Nat.le_refl _)
    clear hfill hli hlo hMi hMin hMon hF4
    repeat (first|((with_reducible apply RS.assign);iterate 3 exact rfl)|((with_reducible apply RS.cmpF);(iterate 4 exact rfl);(simp only [cmpN];omega))|((with_reducible apply RS.nil);exact mixed;kernel_rfl)|(with_reducible first|apply W.seq|apply W.block|apply W.exit|apply thenK_n|apply thenK_e|apply roundN_e)|((with_reducible apply W.reg);kernel_rfl)|((with_reducible apply W.condF);kernel_rfl;exact rfl)|((with_reducible apply blockK_hit);exact rfl))
    have hF9:=hF
    have hN:∀ {B:Hp} {x:Nat},x∈ai++ao→∀ {ins outs:List SetS},LiveAt h ib ob ai ao L ins outs B→h.n≤x:=by
      intro B x hx ins outs hla
      rcases List.mem_append.1 hx with e|e
      · obtain ⟨j,hj⟩:=List.mem_iff_getElem?.1 e
        have hjl:=(List.getElem?_eq_some_iff.1 hj).1
        obtain ⟨y,hy⟩:∃ y,ins[j]?=some y:=⟨_,List.getElem?_eq_getElem (by rw [← hla.i.len];exact hjl)⟩
        exact (hla.i.pt j x y hj hy).2.2
      · obtain ⟨j,hj⟩:=List.mem_iff_getElem?.1 e
        have hjl:=(List.getElem?_eq_some_iff.1 hj).1
        obtain ⟨y,hy⟩:∃ y,outs[j]?=some y:=⟨_,List.getElem?_eq_getElem (by rw [← hla.o.len];exact hjl)⟩
        exact (hla.o.pt j x y hj hy).2.2
    refine W.loopN (X:=LiveS) (fun x=>[(0,.pointer (some ⟨fb,0,none⟩)),(4,.int .i64 (bl.length:Int)),(5,.slice (some ⟨ib,0,none⟩) bl.length bl.length),(6,.slice (some ⟨ob,0,none⟩) bl.length bl.length),(8,.bool x.again)])
      (fun x B=>LiveAt h ib ob ai ao L x.ins x.outs B∧x.ins.length=bl.length∧x.outs.length=bl.length∧((x.again=true∧LiveRun bl x tgt)∨(x.again=false∧x=tgt))) (fun x=>muL x.ins * 2+(if x.again=true then 1 else 0))
      (fun B' a=>⟨live0 bl regs,?_,⟨hla.up sB.dom a.oldH,by simp [live0],by simp [live0],.inl ⟨rfl,hrun⟩⟩⟩) ?_
    · (repeat' (first|exact trivial|exact rfl|apply And.intro));done
    rintro st1 B1 π4 sB1 ⟨hla1,hl1,hl2,hst⟩
    have hF1:=hla1.old.up hd _ _ hF9
    rcases hst with ⟨hag,hrun1⟩|⟨hag,htg1⟩
    · rw [hag]
      have hsub:(bl.length:Int) - 1=((bl.length:Int) - 1):=rfl
      repeat (first|((with_reducible apply RS.moveX);(iterate 3 exact rfl);first|exact bnd_int _ _ _|exact (bnd_ptr _ _).2 hFn|exact (bnd_slice _ _ _ _).2 hMin|exact (bnd_slice _ _ _ _).2 hMon)|((with_reducible first|apply RS.move|apply RS.assign);iterate 3 exact rfl)|((with_reducible apply RS.sub1);(iterate 4 exact rfl);omega)|((with_reducible apply RS.nil);exact mixed;kernel_rfl)|(with_reducible first|apply W.seq|apply W.block|apply W.skip|apply thenK_n)|((with_reducible apply W.reg);kernel_rfl)|((with_reducible apply W.condT);kernel_rfl;exact rfl))
      obtain ⟨R,hR⟩:∃ R,liveRound bl st1=R:=⟨_,rfl⟩
      refine W.loopN (X:=Nat × LiveS) (fun x=>[(0,.pointer (some ⟨fb,0,none⟩)),(4,.int .i64 (bl.length:Int)),(5,.slice (some ⟨ib,0,none⟩) bl.length bl.length),(6,.slice (some ⟨ob,0,none⟩) bl.length bl.length),(8,.bool x.2.again),(9,.int .i64 ((x.1:Int) - 1))])
        (fun x B=>x.1≤bl.length∧LiveAt h ib ob ai ao L x.2.ins x.2.outs B∧x.2.ins.length=bl.length∧x.2.outs.length=bl.length∧liveDown bl x.1 x.2=R) (fun x=>x.1)
        (fun B' a=>⟨(bl.length,{ st1 with again:=false }),?_,⟨Nat.le_refl _,hla1.up sB1.dom a.oldH,hl1,hl2,hR⟩⟩) ?_
      · have e9:((bl.length:Nat):Int) - 1=((bl.length - 1:Nat):Int):=by omega
        dsimp only
        rw [e9]
        (repeat' (first|exact trivial|exact rfl|apply And.intro));done
      rintro ⟨i,st⟩ B2 π5 sB2 ⟨hi2,hla2,hl3,hl4,hgo⟩
      dsimp only at hi2 hla2 hl3 hl4 hgo ⊢
      have hF2:=hla2.old.up hd _ _ hF9
      cases i with
      | zero =>
        rw [liveDown] at hgo
        subst hgo
        obtain ⟨m1,m2,m3⟩:=liveRound_mu bl st1 hl1
        rw [hR] at m1 m2 m3
        repeat (first|((with_reducible apply RS.moveX);(iterate 3 exact rfl);first|exact bnd_int _ _ _|exact (bnd_ptr _ _).2 hFn|exact (bnd_slice _ _ _ _).2 hMin|exact (bnd_slice _ _ _ _).2 hMon)|((with_reducible apply RS.cmpF);(iterate 4 exact rfl);(simp only [cmpN];omega))|((with_reducible apply RS.nil);exact mixed;kernel_rfl)|(with_reducible first|apply W.seq|apply W.exit|apply thenK_n|apply thenK_e|apply blockK_n|apply roundN_e)|((with_reducible apply W.reg);kernel_rfl)|((with_reducible apply W.condF);kernel_rfl;exact rfl)|((with_reducible apply blockK_hit);exact rfl))
        refine roundN_n rfl fun B' a=>⟨st,?_,⟨hla2.up sB2.dom a.oldH,hl3,hl4,?_⟩,?_⟩
        · (repeat' (first|exact trivial|exact rfl|apply And.intro));done
        · cases hrun1 with
          | stop hs =>
            rw [hR] at hs
            exact .inr ⟨hs,hR.symm⟩
          | go hs hr =>
            rw [hR] at hs hr
            exact .inl ⟨hs,hr⟩
        · show muL st.ins * 2+(if st.again=true then 1 else 0) < muL st1.ins * 2+(if st1.again=true then 1 else 0)
          rw [hag]
          cases hsa:st.again with
          | false=>simp;omega
          | true=>have:=m2 hsa;simp;omega
      | succ i =>
        have e9:((i+1:Nat):Int) - 1=(i:Int):=by omega
        rw [e9]
        rw [liveDown] at hgo
        have hil:i < bl.length:=by omega
        obtain ⟨b,hb⟩:∃ b,bl[i]?=some b:=⟨_,List.getElem?_eq_getElem hil⟩
        obtain ⟨o0,ho0⟩:∃ o0,st.outs[i]?=some o0:=⟨_,List.getElem?_eq_getElem (by omega)⟩
        obtain ⟨n0,hn0⟩:∃ n0,st.ins[i]?=some n0:=⟨_,List.getElem?_eq_getElem (by omega)⟩
        have hail:=hla2.i.len
        have haol:=hla2.o.len
        obtain ⟨xi,hxi⟩:∃ xi,ai[i]?=some xi:=⟨_,List.getElem?_eq_getElem (by omega)⟩
        obtain ⟨xo,hxo⟩:∃ xo,ao[i]?=some xo:=⟨_,List.getElem?_eq_getElem (by omega)⟩
        have hstep:liveStep bl st i=⟨st.ins.set i (joinS n0 (liveIn b (liveOut st.ins o0 (nextS b.term)))),st.outs.set i (liveOut st.ins o0 (nextS b.term)),st.again || joinS n0 (liveIn b (liveOut st.ins o0 (nextS b.term))) != n0⟩:=by
          unfold liveStep
          rw [hb,ho0,hn0];rfl
        rw [hstep] at hgo
        have hf2:=hf.up (hla2.old.up hd)
        obtain ⟨bb,off,cs,e,hA,hG0,hGl,hGb⟩:=hf.sl.get _ b hb
        have hG:=hla2.old.up hd _ _ hG0
        have hGn:=sB2.dom _ _ hG
        obtain ⟨Ai,ci,hGb,hins⟩:=hGb
        have hF:=hF2
        have hFn:=sB2.dom _ _ hF
        rw [hA] at h5
        ((with_reducible apply W.seq);repeat (fail))
        ((with_reducible apply W.seq);repeat (first|((with_reducible apply RS.moveX);(iterate 3 exact rfl);first|exact bnd_int _ _ _|exact (bnd_ptr _ _).2 hFn|exact (bnd_slice _ _ _ _).2 hMin|exact (bnd_slice _ _ _ _).2 hMon)|((with_reducible apply RS.cmpT);(iterate 4 exact rfl);(simp only [cmpP];omega))|((with_reducible apply RS.nil);exact mixed;kernel_rfl)|((with_reducible apply W.reg);kernel_rfl)|(with_reducible first|apply W.skip|apply thenK_n)|((with_reducible apply W.condT);kernel_rfl;exact rfl)))
        ((with_reducible apply W.seq);repeat (first|(with_reducible apply W.block)))
        ((with_reducible apply W.seq);repeat (first|((with_reducible apply RS.moveX);(iterate 3 exact rfl);first|exact bnd_int _ _ _|exact (bnd_ptr _ _).2 hFn|exact (bnd_slice _ _ _ _).2 hMin|exact (bnd_slice _ _ _ _).2 hMon)|((with_reducible apply RS.nilCheckX);(iterate 3 exact rfl);exact hFn)|((with_reducible apply RS.fieldAddrX);(iterate 3 exact rfl);exact hFn)|((with_reducible apply RS.loadNB);(iterate 3 exact rfl);exact hG;exact hGn;exact hGl;exact hGb)|((with_reducible apply RS.load1B);(iterate 3 exact rfl);exact hF;exact hFn;first|exact h5|exact h3)|((with_reducible apply RS.indexAddrS);(iterate 5 exact rfl);omega)|((with_reducible apply RS.store);(iterate 5 exact rfl);exact Nat.le_of_ble_eq_true rfl;iterate 3 exact rfl)|((with_reducible apply RS.alloc);iterate 2 exact rfl)|((with_reducible apply RS.nil);exact mixed;kernel_rfl)|((with_reducible apply W.reg);kernel_rfl)|(with_reducible apply thenK_n)))
        refine W.absorbX fun B3 π6 a3=>?_
        have hq:B3.m (π5 0)=some ⟨⟨blockC b Ai ci⟩,50⟩:=a3.loc 0 (Nat.lt_succ_self 0)
        generalize π5 0=q at *
        have hqn:=a3.dom _ _ hq
        have hla3:=hla2.up sB2.dom a3.oldH
        ((with_reducible apply W.seq);repeat (fail))
        ((with_reducible apply W.seq);repeat (first|((with_reducible apply RS.moveX);(iterate 3 exact rfl);first|exact bnd_int _ _ _|exact (bnd_ptr _ _).2 hFn|exact (bnd_slice _ _ _ _).2 hMin|exact (bnd_slice _ _ _ _).2 hMon)|((with_reducible apply RS.loadNB);(iterate 3 exact rfl);exact hq;exact hqn;exact Nat.le_of_ble_eq_true rfl;exact rfl)|((with_reducible apply RS.callEx);(iterate 3 exact rfl);intro B5 hB5;refine ⟨_,next_ex b.term B5,?_⟩;rintro v H5 π7 ⟨AL,cL,rfl,hrow,ho5,hnewL⟩ sH5 hle5)|((with_reducible first|apply RS.lenSl|apply RS.fieldAddr);iterate 3 exact rfl)|((with_reducible apply RS.nil);exact mixed;kernel_rfl)|((with_reducible apply W.reg);kernel_rfl)|(with_reducible first|apply W.block|apply thenK_n)))
        generalize hl:nextS b.term=l at *
        have hlk:∀ k∈l,0≤k∧k < bl.length:=fun k hk=>htg b (List.mem_of_getElem? hb) k (by rw [hl];exact hk)
        have hll:l.length≤2:=by rw [← hl];exact nextS_len _
        have hq5:=(hB5.oldH.trans ho5).up a3.dom _ _ hq
        have hla5:=hla3.up a3.dom (hB5.oldH.trans ho5)
        have hndi:ai.Nodup:=(List.nodup_append.1 hnd).1
        have hndo:ao.Nodup:=(List.nodup_append.1 hnd).2.1
        have hdis:∀ x∈ai,∀ y∈ao,x≠y:=(List.nodup_append.1 hnd).2.2
        have hxom:=List.mem_of_getElem? hxo
        have hxim:=List.mem_of_getElem? hxi
        have hxon:xo ∉ ai:=fun e=>hdis xo e xo hxom rfl
        have hxin:xi ∉ ao:=fun e=>hdis xi hxim xi e rfl
        have hwr:∀ {x:Nat},x∈ai++ao→rwM≤x:=fun hx=>Nat.le_trans s0.rw (hN hx hla2)
        refine W.loopN (X:=Nat × SetS) (fun x=>[(0,.pointer (some ⟨fb,0,none⟩)),(4,.int .i64 (bl.length:Int)),(5,.slice (some ⟨ib,0,none⟩) bl.length bl.length),(6,.slice (some ⟨ob,0,none⟩) bl.length bl.length),(8,.bool st.again),(9,.int .i64 (i:Int)),(10,.pointer (some ⟨q,0,none⟩)),(61,.slice AL l.length cL),(62,.int .i64 (l.length:Int)),(63,.int .i64 (x.1:Int))])
          (fun x B=>x.1≤l.length∧LiveAt h ib ob ai ao L st.ins (st.outs.set i x.2) B∧B.m q=some ⟨⟨blockC b Ai ci⟩,50⟩∧IntAt B AL l∧x.2=liveOut st.ins o0 (l.take x.1)) (fun x=>l.length - x.1)
          (fun B' a=>⟨(0,o0),?_,⟨Nat.zero_le _,by rw [set_same ho0];exact hla5.up sH5.dom a.oldH,a.up _ _ hq5,hrow.up a.up,by rw [List.take_zero];rfl⟩⟩) ?_
        · (repeat' (first|exact trivial|exact rfl|apply And.intro));done
        rintro ⟨j,o⟩ B8 π8 sB8 ⟨hj,hla8,hq8,hIn,ho⟩
        dsimp only at hj hla8 hq8 hIn ho ⊢
        have hMo8:=hla8.o.m
        have hMo8n:=sB8.dom _ _ hMo8
        have hMi8:=hla8.i.m
        have hMi8n:=sB8.dom _ _ hMi8
        have hos:(st.outs.set i o)[i]?=some o:=by rw [List.getElem?_set,if_pos rfl,if_pos (by omega)]
        have hoc:(ao.map (setV L))[0+i * 1]?=some (.slice (some ⟨xo,0,none⟩) L L):=by rw [Nat.zero_add,Nat.mul_one,List.getElem?_map,hxo];rfl
        obtain ⟨hxm,hxL,_⟩:=hla8.o.pt i xo o hxo hos
        have hxmn:=sB8.dom _ _ hxm
        by_cases hjl:j < l.length
        · obtain ⟨k,hk⟩:∃ k,l[j]?=some k:=⟨_,List.getElem?_eq_getElem hjl⟩
          rcases hIn with hIn|⟨nr,rfl,hR⟩
          · rw [hIn] at hjl;exact absurd hjl (Nat.not_lt_zero _)
          have hRn:=sB8.dom _ _ hR
          have hRv:(l.map (Value.int .i64))[0+j * 1]?=some (.int .i64 k):=by simp [hk]
          obtain ⟨hk0,hk1⟩:=hlk k (List.mem_of_getElem? hk)
          obtain ⟨g,hg⟩:∃ g:Nat,k=(g:Int):=⟨k.toNat,by omega⟩
          have hgt:k.toNat=g:=by omega
          obtain ⟨xk,hxk⟩:∃ xk,ai[g]?=some xk:=⟨_,List.getElem?_eq_getElem (by omega)⟩
          obtain ⟨sk,hsk⟩:∃ sk,st.ins[g]?=some sk:=⟨_,List.getElem?_eq_getElem (by omega)⟩
          have hic:(ai.map (setV L))[0+g * 1]?=some (.slice (some ⟨xk,0,none⟩) L L):=by rw [Nat.zero_add,Nat.mul_one,List.getElem?_map,hxk];rfl
          obtain ⟨hkm,hkL,_⟩:=hla8.i.pt g xk sk hxk hsk
          have hkmn:=sB8.dom _ _ hkm
          have hkx:xo≠xk:=fun e=>hdis xk (List.mem_of_getElem? hxk) xo hxom e.symm
          repeat (first|((with_reducible apply RS.moveX);(iterate 3 exact rfl);first|exact bnd_int _ _ _|exact (bnd_ptr _ _).2 hFn|exact (bnd_slice _ _ _ _).2 hMin|exact (bnd_slice _ _ _ _).2 hMon)|((with_reducible apply RS.load1B);(iterate 3 exact rfl);first|exact hR;exact hRn;exact hRv|exact hMo8;exact hMo8n;exact hoc|exact hMi8;exact hMi8n;exact hic)|((with_reducible apply RS.indexAddrS);(iterate 4 exact rfl);exact hg;omega)|((with_reducible apply (RS.callWB (blk:=xo) (b':=⟨⟨setC (joinS o sk)⟩,90⟩) []));(iterate 3 exact rfl);exact hxm;exact hxmn;exact fun H hH=>join_tfL o sk hxL hkL (some ⟨xo,0,none⟩) (some ⟨xk,0,none⟩) L L hL1 H (SetAt.some (by rw [hH.b rfl xo hxmn];exact hxm) (hwr (List.mem_append.2 (.inr hxom)))) (SetAt.some (by rw [hH.b rfl xk hkmn];exact hkm) (hwr (List.mem_append.2 (.inl (List.mem_of_getElem? hxk))))) (.inl (fun e=>hkx (by injection e with e;injection e))))|((with_reducible apply RS.indexAddrS);(iterate 5 exact rfl);omega)|((with_reducible first|apply RS.move|apply RS.assign);iterate 3 exact rfl)|((with_reducible apply RS.cmpT);(iterate 4 exact rfl);(simp only [cmpP];omega))|((with_reducible apply RS.add1);(iterate 4 exact rfl);omega)|((with_reducible apply RS.nil);exact mixed;kernel_rfl)|(with_reducible first|apply W.seq|apply W.block|apply W.skip|apply thenK_n|apply blockK_n)|((with_reducible apply W.reg);kernel_rfl)|((with_reducible apply W.condT);kernel_rfl;exact rfl))
          refine roundN_n rfl fun B' a=>⟨(j+1,joinS o sk),?_,⟨by omega,LiveAt.up ⟨?_,?_,?_⟩ ?_ a.oldH,a.up _ _ ?_,.inr ⟨nr,rfl,a.up _ _ ?_⟩,?_⟩,?_⟩
          · (repeat' (first|exact trivial|exact rfl|apply And.intro));done
          · exact (hla8.old.off.same ((OffS.set B8 xo _).mono (T:=fun j=>h.n≤j) fun j _ e=>by rw [e];exact hN (List.mem_append.2 (.inr hxom)) hla8)).old fun j hj e=>by omega
          · exact hla8.i.other hxm rfl hxon _
          · have:=hla8.o.set hndo hxo (x:=joinS o sk) (by rw [joinS_length];exact hxL)
            rw [List.set_set] at this
            exact this
          · intro j x hx
            have hx:(if j=xo then _ else B8.m j)=some x:=hx
            split at hx
            · rename_i e;rw [e];exact hxmn
            · exact sB8.dom j x hx
          · show (if q=xo then _ else B8.m q)=_
            rw [if_neg (ne_of_elem hq8 hxm (by simp))];exact hq8
          · show (if nr=xo then _ else B8.m nr)=_
            rw [if_neg (ne_of_elem hR hxm (by simp))];exact hR
          · show joinS o sk=liveOut st.ins o0 (l.take (j+1))
            obtain ⟨q1,q2⟩:=List.getElem?_eq_some_iff.1 hk
            rw [List.take_succ_eq_append_getElem q1,q2]
            unfold liveOut
            rw [List.foldl_append]
            have:st.ins[k.toNat]?.getD []=sk:=by rw [hgt,hsk];rfl
            show joinS o sk=joinS ((l.take j).foldl (fun o k=>joinS o (st.ins[k.toNat]?.getD [])) o0) (st.ins[k.toNat]?.getD [])
            rw [this,ho];rfl
          · show l.length - (j+1) < l.length - j
            omega
        · have hjj:j=l.length:=by omega
          rw [hjj,List.take_length] at ho
          have hbm:=List.mem_of_getElem? hb
          have hset8:SetAt B8 (some ⟨xo,0,none⟩) o:=.some hxm (hwr (List.mem_append.2 (.inr hxom)))
          have hq8n:=sB8.dom _ _ hq8
          ((with_reducible apply W.seq);repeat (first|((with_reducible apply RS.cmpF);(iterate 4 exact rfl);(simp only [cmpN];omega))|((with_reducible apply RS.nil);exact mixed;kernel_rfl)|((with_reducible apply W.reg);kernel_rfl)|(with_reducible apply thenK_n)))
          ((with_reducible apply W.seq);repeat (first|(with_reducible first|apply W.exit|apply thenK_n|apply thenK_e|apply roundN_e)|((with_reducible apply W.condF);kernel_rfl;exact rfl)|((with_reducible apply blockK_hit);exact rfl)))
          ((with_reducible apply W.seq);repeat (first|((with_reducible apply RS.moveX);(iterate 3 exact rfl);first|exact bnd_int _ _ _|exact (bnd_ptr _ _).2 hFn|exact (bnd_slice _ _ _ _).2 hMin|exact (bnd_slice _ _ _ _).2 hMon)|((with_reducible apply RS.load1B);(iterate 3 exact rfl);exact hMo8;exact hMo8n;exact hoc)|((with_reducible apply RS.callEx);(iterate 3 exact rfl);intro B9 hB9;refine ⟨_,setcopy_exL o hxL (some ⟨xo,0,none⟩) L hL1 B9 (setAt_up hset8 hB9.up),?_⟩;rintro v H9 π9 ⟨A9,c9,rfl,hs9,ho9,hn9⟩ sH9 hle9)|((with_reducible apply RS.indexAddrS);(iterate 5 exact rfl);omega)|((with_reducible first|apply RS.move|apply RS.assign);iterate 3 exact rfl)|((with_reducible apply RS.nil);exact mixed;kernel_rfl)|((with_reducible apply W.reg);kernel_rfl)|(with_reducible apply thenK_n)))
          have o89:Old B8 H9:=hB9.oldH.trans ho9
          have hla9:=hla8.up sB8.dom o89
          have hq9:=o89.up sB8.dom _ _ hq8
          have hq9n:=sH9.dom _ _ hq9
          have hA9:∀ {ins outs:List SetS} {B:Hp},B=B8→LiveAt h ib ob ai ao L ins outs B→∀ x∈ai++ao,¬ SN A9 x:=by
            intro ins outs B hBe hla x hx e
            subst hBe
            have h1:=hn9 _ e
            have h2:B.n≤B9.n:=hB9.le
            have h3:x < B.n:=by
              rcases List.mem_append.1 hx with e|e
              · obtain ⟨j,hj⟩:=List.mem_iff_getElem?.1 e
                have hjl:=(List.getElem?_eq_some_iff.1 hj).1
                obtain ⟨y,hy⟩:∃ y,ins[j]?=some y:=⟨_,List.getElem?_eq_getElem (by rw [← hla.i.len];exact hjl)⟩
                exact sB8.dom _ _ (hla.i.pt j x y hj hy).1
              · obtain ⟨j,hj⟩:=List.mem_iff_getElem?.1 e
                have hjl:=(List.getElem?_eq_some_iff.1 hj).1
                obtain ⟨y,hy⟩:∃ y,outs[j]?=some y:=⟨_,List.getElem?_eq_getElem (by rw [← hla.o.len];exact hjl)⟩
                exact sB8.dom _ _ (hla.o.pt j x y hj hy).1
            simp only at h1
            omega
          replace hA9:=hA9 rfl hla8
          have hA9h:∀ i,SN A9 i→h.n≤i:=by
            intro x e
            have h1:=hn9 _ e
            have h2:B8.n≤B9.n:=hB9.le
            have h3:=hla8.old.1
            simp only at h1
            omega
          ((with_reducible apply W.seq);repeat (first|((with_reducible apply RS.loadNB);(iterate 3 exact rfl);exact hq9;exact hq9n;exact Nat.le_of_ble_eq_true rfl;exact (show takeV (0+1) 8 (blockC b Ai ci)=termC b.term from rfl))|((with_reducible apply RS.callEx);(iterate 3 exact rfl);first|intro B10 hB10;refine ⟨_,treads_ex b.term B10,?_⟩;rintro v H10 π10 ⟨A10,c10,rfl,hr10,ho10⟩ sH10 hle10|intro B11 hB11;refine ⟨_,use_exL o hxL A9 c9 (treadsS b.term) A10 c10 hL1 (treads_len _) (hb6 b hbm) B11 (setAt_up (setAt_up (setAt_up hs9 hB10.up) (ho10.up hB10.dom)) hB11.up) (hr10.mono hB11.up fun _ _ h=>h),?_⟩;rintro v H11 π11 ⟨hs11,ho11⟩ sH11 hle11)|((with_reducible first|apply RS.move|apply RS.fieldAddr);iterate 3 exact rfl)|((with_reducible apply RS.nil);exact mixed;kernel_rfl)|((with_reducible apply W.reg);kernel_rfl)|(with_reducible apply thenK_n)))
          have o911:OffS (SN A9) H9 H11:=((hB10.oldH.trans ho10).trans hB11.oldH).off.same ho11
          have hla11:=hla9.offA sH9.dom hs9 o911 hA9 hA9h
          have hq11:=offA_keep sH9.dom hs9 o911 hq9 (by simp)
          have hq11n:=sH11.dom _ _ hq11
          have hbil:=hb4 b hbm
          have hso:(useS o (treadsS b.term)).length=L:=by rw [useS_length];exact hxL
          ((with_reducible apply W.seq);repeat (fail))
          ((with_reducible apply W.seq);repeat (first|((with_reducible apply RS.load1B);(iterate 3 exact rfl);exact hq11;exact hq11n;exact rfl)|((with_reducible first|apply RS.assign|apply RS.lenSl|apply RS.fieldAddr);iterate 3 exact rfl)|((with_reducible apply RS.binFit);(iterate 5 exact rfl);omega)|((with_reducible apply RS.nil);exact mixed;kernel_rfl)|((with_reducible apply W.reg);kernel_rfl)|(with_reducible first|apply W.block|apply thenK_n)))
          refine W.loopN (X:=Nat × SetS) (fun x=>[(0,.pointer (some ⟨fb,0,none⟩)),(4,.int .i64 (bl.length:Int)),(5,.slice (some ⟨ib,0,none⟩) bl.length bl.length),(6,.slice (some ⟨ob,0,none⟩) bl.length bl.length),(8,.bool st.again),(9,.int .i64 (i:Int)),(10,.pointer (some ⟨q,0,none⟩)),(13,.slice A9 L c9),(14,.int .i64 ((x.1:Int) - 1))])
            (fun x B=>x.1≤b.ins.length∧LiveAt h ib ob ai ao L st.ins (st.outs.set i o) B∧B.m q=some ⟨⟨blockC b Ai ci⟩,50⟩∧SetAt B A9 x.2∧x.2=(b.ins.drop x.1).reverse.foldl backS (useS o (treadsS b.term))) (fun x=>x.1)
            (fun B' a=>⟨(b.ins.length,useS o (treadsS b.term)),?_,⟨Nat.le_refl _,hla11.up sH11.dom a.oldH,a.up _ _ hq11,setAt_up hs11 a.up,by rw [List.drop_length];rfl⟩⟩) ?_
          · dsimp only
            (repeat' (first|exact trivial|exact rfl|apply And.intro));done
          rintro ⟨k,s⟩ B12 π12 sB12 ⟨hk,hla12,hq12,hs12,hsk⟩
          dsimp only at hk hla12 hq12 hs12 hsk ⊢
          have hq12n:=sB12.dom _ _ hq12
          have hsl:s.length=L:=by rw [hsk,foldBack_len];exact hso
          cases k with
          | zero =>
            rw [List.drop_zero] at hsk
            have hss:s=liveIn b o:=by rw [hsk];rfl
            rw [← ho,← hss] at hgo
            have hMi12:=hla12.i.m
            have hMi12n:=sB12.dom _ _ hMi12
            have hic0:(ai.map (setV L))[0+i * 1]?=some (.slice (some ⟨xi,0,none⟩) L L):=by rw [Nat.zero_add,Nat.mul_one,List.getElem?_map,hxi];rfl
            obtain ⟨him,hiL,hiN⟩:=hla12.i.pt i xi n0 hxi hn0
            have himn:=sB12.dom _ _ him
            have hA9x:(some ⟨xi,0,none⟩:Option Addr)≠A9:=fun e=>hA9 xi (List.mem_append.2 (.inl hxim)) (by rw [← e];rfl)
            obtain ⟨jb,hjb⟩:∃ jb,(joinS n0 s != n0)=jb:=⟨_,rfl⟩
            rw [hjb] at hgo
            cases jb with
            | false =>
              repeat (first|((with_reducible apply RS.moveX);(iterate 3 exact rfl);first|exact bnd_int _ _ _|exact (bnd_ptr _ _).2 hFn|exact (bnd_slice _ _ _ _).2 hMin|exact (bnd_slice _ _ _ _).2 hMon)|((with_reducible apply RS.load1B);(iterate 3 exact rfl);exact hMi12;exact hMi12n;exact hic0)|((with_reducible apply (RS.callWB (blk:=xi) (b':=⟨⟨setC (joinS n0 s)⟩,90⟩) []));(iterate 3 exact rfl);exact him;exact himn;exact fun H hH=>hjb ▸ join_tfL n0 s hiL hsl (some ⟨xi,0,none⟩) A9 L c9 hL1 H (SetAt.some (by rw [hH.b rfl xi himn];exact him) (hwr (List.mem_append.2 (.inl hxim)))) (setAt_at hs12 sB12.dom fun x hx=>hH.b rfl x hx) (.inl hA9x))|((with_reducible apply RS.indexAddrS);(iterate 5 exact rfl);omega)|((with_reducible first|apply RS.move|apply RS.assign);iterate 3 exact rfl)|((with_reducible apply RS.cmpF);(iterate 4 exact rfl);(simp only [cmpN];omega))|((with_reducible apply RS.binFit);(iterate 5 exact rfl);omega)|((with_reducible apply RS.nil);exact mixed;kernel_rfl)|(with_reducible first|apply W.seq|apply W.exit|apply W.skip|apply thenK_n|apply thenK_e|apply blockK_n|apply roundN_e)|((with_reducible apply W.reg);kernel_rfl)|((with_reducible apply W.condF);kernel_rfl;exact rfl)|((with_reducible apply blockK_hit);exact rfl))
              refine roundN_n rfl fun B' a=>⟨(i,⟨st.ins.set i (joinS n0 s),st.outs.set i o,st.again⟩),?_,⟨by omega,LiveAt.up ⟨?_,?_,?_⟩ ?_ a.oldH,by simp [hl3],by simp [hl4],by rw [Bool.or_false] at hgo;exact hgo⟩,Nat.lt_succ_self _⟩
              · (repeat' (first|exact trivial|exact rfl|apply And.intro));done
              · exact (hla12.old.off.same ((OffS.set B12 xi _).mono (T:=fun j=>h.n≤j) fun j _ e=>by rw [e];exact hiN)).old fun j hj e=>by omega
              · exact hla12.i.set hndi hxi (x:=joinS n0 s) (by rw [joinS_length];exact hiL)
              · exact hla12.o.other him rfl hxin _
              · intro j x hx
                have hx:(if j=xi then _ else B12.m j)=some x:=hx
                split at hx
                · rename_i e;rw [e];exact himn
                · exact sB12.dom j x hx
            | true =>
              repeat (first|((with_reducible apply RS.moveX);(iterate 3 exact rfl);first|exact bnd_int _ _ _|exact (bnd_ptr _ _).2 hFn|exact (bnd_slice _ _ _ _).2 hMin|exact (bnd_slice _ _ _ _).2 hMon)|((with_reducible apply RS.load1B);(iterate 3 exact rfl);exact hMi12;exact hMi12n;exact hic0)|((with_reducible apply (RS.callWB (blk:=xi) (b':=⟨⟨setC (joinS n0 s)⟩,90⟩) []));(iterate 3 exact rfl);exact him;exact himn;exact fun H hH=>hjb ▸ join_tfL n0 s hiL hsl (some ⟨xi,0,none⟩) A9 L c9 hL1 H (SetAt.some (by rw [hH.b rfl xi himn];exact him) (hwr (List.mem_append.2 (.inl hxim)))) (setAt_at hs12 sB12.dom fun x hx=>hH.b rfl x hx) (.inl hA9x))|((with_reducible apply RS.indexAddrS);(iterate 5 exact rfl);omega)|((with_reducible first|apply RS.move|apply RS.assign);iterate 3 exact rfl)|((with_reducible apply RS.cmpF);(iterate 4 exact rfl);(simp only [cmpN];omega))|((with_reducible apply RS.binFit);(iterate 5 exact rfl);omega)|((with_reducible apply RS.nil);exact mixed;kernel_rfl)|(with_reducible first|apply W.seq|apply W.exit|apply thenK_n|apply thenK_e|apply blockK_n|apply roundN_e)|((with_reducible apply W.reg);kernel_rfl)|((with_reducible apply W.condT);kernel_rfl;exact rfl)|((with_reducible apply W.condF);kernel_rfl;exact rfl)|((with_reducible apply blockK_hit);exact rfl))
              refine roundN_n rfl fun B' a=>⟨(i,⟨st.ins.set i (joinS n0 s),st.outs.set i o,true⟩),?_,⟨by omega,LiveAt.up ⟨?_,?_,?_⟩ ?_ a.oldH,by simp [hl3],by simp [hl4],by rw [Bool.or_true] at hgo;exact hgo⟩,Nat.lt_succ_self _⟩
              · (repeat' (first|exact trivial|exact rfl|apply And.intro));done
              · exact (hla12.old.off.same ((OffS.set B12 xi _).mono (T:=fun j=>h.n≤j) fun j _ e=>by rw [e];exact hiN)).old fun j hj e=>by omega
              · exact hla12.i.set hndi hxi (x:=joinS n0 s) (by rw [joinS_length];exact hiL)
              · exact hla12.o.other him rfl hxin _
              · intro j x hx
                have hx:(if j=xi then _ else B12.m j)=some x:=hx
                split at hx
                · rename_i e;rw [e];exact himn
                · exact sB12.dom j x hx
          | succ k =>
            have e14:((k+1:Nat):Int) - 1=(k:Int):=by omega
            rw [e14]
            obtain ⟨x,hx⟩:∃ x,b.ins[k]?=some x:=⟨_,List.getElem?_eq_getElem (by omega)⟩
            obtain ⟨xb,xo2,xcs,xe,rfl,hX0,hXl,hXv⟩:=hins.get k x hx
            have hX:=hla12.old.up hd _ _ hX0
            have hXn:=sB12.dom _ _ hX
            obtain ⟨A2,c2,hXv,hargs⟩:=hXv
            replace hargs:=hargs.mono (hla12.old.up hd) fun _ _ h=>h
            obtain ⟨hx5,hx6,hx7⟩:=hb5 b hbm x (List.mem_of_getElem? hx)
            repeat (first|((with_reducible apply RS.moveX);(iterate 3 exact rfl);first|exact bnd_int _ _ _|exact (bnd_ptr _ _).2 hFn|exact (bnd_slice _ _ _ _).2 hMin|exact (bnd_slice _ _ _ _).2 hMon)|((with_reducible apply RS.load1B);(iterate 3 exact rfl);exact hq12;exact hq12n;exact rfl)|((with_reducible apply RS.loadNB);(iterate 3 exact rfl);exact hX;exact hXn;exact hXl;exact hXv)|((with_reducible apply RS.callEx);(iterate 3 exact rfl);intro B13 hB13;refine ⟨_,back_exL s hsl A9 c9 x A2 c2 hL1 (by omega) hx6 hx7 B13 (setAt_up hs12 hB13.up) (hargs.mono hB13.up fun _ _ h=>h),?_⟩;rintro v H13 π13 ⟨hs13,ho13⟩ sH13 hle13)|((with_reducible apply RS.indexAddrS);(iterate 5 exact rfl);omega)|((with_reducible first|apply RS.move|apply RS.assign|apply RS.fieldAddr);iterate 3 exact rfl)|((with_reducible apply RS.cmpT);(iterate 4 exact rfl);(simp only [cmpP];omega))|((with_reducible apply RS.binFit);(iterate 5 exact rfl);omega)|((with_reducible apply RS.nil);exact mixed;kernel_rfl)|(with_reducible first|apply W.seq|apply W.block|apply W.skip|apply thenK_n|apply blockK_n)|((with_reducible apply W.reg);kernel_rfl)|((with_reducible apply W.condT);kernel_rfl;exact rfl))
            have o1213:OffS (SN A9) B12 H13:=hB13.oldH.off.same ho13
            refine roundN_n rfl fun B' a=>⟨(k,backS s x),?_,⟨by omega,(hla12.offA sB12.dom hs12 o1213 hA9 hA9h).up sH13.dom a.oldH,a.up _ _ (offA_keep sB12.dom hs12 o1213 hq12 (by simp)),setAt_up hs13 a.up,?_⟩,Nat.lt_succ_self _⟩
            · (repeat' (first|exact trivial|exact rfl|apply And.intro));done
            · obtain ⟨q1,q2⟩:=List.getElem?_eq_some_iff.1 hx
              show backS s x=_
              rw [List.drop_eq_getElem_cons q1,q2,List.reverse_cons,List.foldl_append,← hsk]
              rfl
    · rw [hag]
      subst htg1
      repeat (first|((with_reducible first|apply RS.move|apply RS.assign);iterate 3 exact rfl)|((with_reducible apply RS.nil);exact mixed;kernel_rfl)|(with_reducible first|apply W.seq|apply W.exit|apply W.ret|apply thenK_n|apply thenK_e|apply roundN_e)|((with_reducible apply W.reg);kernel_rfl)|((with_reducible apply W.condF);kernel_rfl;exact rfl)|((with_reducible apply blockK_hit);exact rfl))
      refine endsK_ret _ (.cons (.tmp rfl) (.cons (.tmp rfl) .nil)) fun B' a=>⟨ib,ob,ai,ao,st1.ins,st1.outs,rfl,by rw [← hL];exact hla1.up sB1.dom a.oldH,?_⟩
      have e:(⟨st1.ins,st1.outs,false⟩:LiveS)=st1:=by rw [← hag]
      rw [e];exact hrun
end Go.Proofs.YtjhloakacicdiaaDoor
namespace Go.Proofs.YtjhloakacicdiaaDoor
open Go.AH
attribute [local irreducible] W RS
set_option maxRecDepth 100000 in
theorem wanted_tf (x:InsS) (A:Option Addr) (c:Nat) (h:Hp):TF Tryd.prog 70 ⟨[.agg ⟨insC x A c⟩]⟩ h (.bool (wantedS x)) h:=by
  refine TF.still (fn:=Tryd.f70) (c:=(Tryd.f70.body.getD .skip)) Tryd.func70 (by kernel_rfl) Tryd.ntmps70 (by kernel_rfl) (by simp) ?_
  conv=>arg 2;whnf
  repeat' (first|((with_reducible apply RS.callP);(iterate 3 exact rfl);first|exact fun H=>(traps_tf _ H);exact Nm_free (by simp)|exact fun H=>(pure_tf _ H);exact Nm_free (by simp))|((with_reducible first|apply RS.move|apply RS.assign|apply RS.not|apply RS.fieldAddr|apply RS.box);iterate 3 exact rfl)|((with_reducible apply RS.pickT);iterate 4 exact rfl)|((with_reducible apply RS.pickF);iterate 4 exact rfl)|((with_reducible apply RS.cmpC);iterate 5 exact rfl)|((with_reducible apply RS.load1);iterate 6 exact rfl)|((with_reducible apply RS.skip);iterate 2 exact rfl)|((with_reducible apply RS.nil);exact mixed;kernel_rfl)|(with_reducible first|apply W.seq|apply W.block|apply W.ret|apply W.skip|apply thenK_n|apply thenK_r|apply blockK_n|apply blockK_r)|((with_reducible apply W.reg);kernel_rfl)|(((with_reducible apply RS.splitD);iterate 2 exact rfl)<;>intro _)|((((with_reducible apply RS.splitG);iterate 2 exact rfl)<;>intro _)<;>(fail_if_success cases ‹true=false›)<;>(fail_if_success cases ‹false=true›))|(((with_reducible apply W.condD);exact rfl)<;>intro _)|((((with_reducible apply W.cond);exact rfl)<;>intro _)<;>(fail_if_success cases ‹true=false›)<;>(fail_if_success cases ‹false=true›)))
  all_goals refine endsK_ret _ (.cons (.tmp rfl) .nil) ⟨rfl,?_⟩
  all_goals simp only [resultOf,Value.bool.injEq,wantedS]
  all_goals (rw [Bool.eq_iff_iff];simp_all;try omega)
theorem sizeS_take {bl:List BlockS} {i:Nat} {b:BlockS} (hb:bl[i]?=some b):sizeS (bl.take (i+1))=sizeS (bl.take i)+b.ins.length:=by
  obtain ⟨q1,q2⟩:=List.getElem?_eq_some_iff.1 hb
  unfold sizeS
  rw [List.take_succ_eq_append_getElem q1,q2]
  simp
theorem sizeS_take_le (bl:List BlockS) (i:Nat):sizeS (bl.take i)≤sizeS bl:=by
  have:sizeS bl=sizeS (bl.take i)+sizeS (bl.drop i):=by
    unfold sizeS
    rw [← List.sum_append,← List.map_append,List.take_append_drop]
  omega
set_option maxRecDepth 100000 in
theorem size_tf (fb:Nat) (regs:Int) (A:Option Addr) (c:Nat) (bl:List BlockS) (hlen:bl.length≤100000) (hsz:sizeS bl≤1000000) (h:Hp) (hf:FAt h fb regs A c bl) :
    TF Tryd.prog 43 ⟨[.pointer (some ⟨fb,0,none⟩)]⟩ h (.int .i64 (sizeS bl:Int)) h:=by
  refine TF.exact (fn:=Tryd.f43) (c:=(Tryd.f43.body.getD .skip)) Tryd.func43 (by kernel_rfl) Tryd.ntmps43 (by kernel_rfl) (fun s0=>⟨Nat.le_refl _,by simp,fun i b hb=>⟨s0.dom i b hb,s0.bd i b hb⟩⟩) fun π s0=>?_
  conv=>arg 2;whnf
  have hd:=s0.dom
  obtain ⟨fcs,hF,_,h5⟩:=hf.hf
  have hFn:=s0.dom _ _ hF
  repeat (first|((with_reducible apply RS.load1B);(iterate 3 exact rfl);exact hF;exact hFn;exact h5)|((with_reducible first|apply RS.nilCheck|apply RS.move|apply RS.assign|apply RS.lenSl|apply RS.fieldAddr);iterate 3 exact rfl)|((with_reducible apply RS.nil);exact mixed;kernel_rfl)|(with_reducible first|apply W.seq|apply W.block|apply thenK_n)|((with_reducible apply W.reg);kernel_rfl))
  refine W.loopN (X:=Nat × Nat) (fun x=>[(3,.int .i64 (x.2:Int)),(9,.slice A bl.length c),(10,.int .i64 (bl.length:Int)),(11,.int .i64 (x.1:Int))])
    (fun x B=>Old h B∧x.1≤bl.length∧x.2=sizeS (bl.take x.1)) (fun x=>bl.length - x.1) (fun B' a=>⟨(0,0),?_,a.oldH,by simp,by simp [sizeS]⟩) ?_
  · (repeat' (first|exact trivial|exact rfl|apply And.intro));done
  · rintro ⟨i,n⟩ B π sB ⟨hold,hi,hn⟩
    dsimp only at hold hi hn ⊢
    have hf4:=hf.up (hold.up hd)
    by_cases hlt:i < bl.length
    · obtain ⟨b,hb⟩:∃ b,bl[i]?=some b:=⟨_,List.getElem?_eq_getElem hlt⟩
      obtain ⟨bb,off,cs,e,rfl,hG,hGl,hGb⟩:=hf4.sl.get _ b hb
      have hGn:=sB.dom _ _ hG
      obtain ⟨Ai,ci,hGb,_⟩:=hGb
      have h1:=sizeS_take hb
      have h2:=sizeS_take_le bl (i+1)
      repeat (first|((with_reducible apply RS.indexAddrS);(iterate 5 exact rfl);omega)|((with_reducible apply RS.loadNB);(iterate 3 exact rfl);exact hG;exact hGn;exact hGl;exact hGb)|((with_reducible first|apply RS.move|apply RS.assign|apply RS.lenSl|apply RS.fieldAddr);iterate 3 exact rfl)|((with_reducible apply RS.cmpT);(iterate 4 exact rfl);(simp only [cmpP];omega))|((with_reducible apply RS.add1);(iterate 4 exact rfl);omega)|((with_reducible apply RS.addNat);(iterate 4 exact rfl);omega)|((with_reducible apply RS.load1);iterate 6 exact rfl)|((with_reducible apply RS.store);(iterate 5 exact rfl);exact Nat.le_of_ble_eq_true rfl;iterate 3 exact rfl)|((with_reducible apply RS.alloc);iterate 2 exact rfl)|((with_reducible apply RS.nil);exact mixed;kernel_rfl)|(with_reducible first|apply W.seq|apply W.block|apply W.skip|apply thenK_n|apply blockK_n)|((with_reducible apply W.reg);kernel_rfl)|((with_reducible apply W.condT);kernel_rfl;exact rfl))
      refine roundN_n rfl fun B' a=>⟨(i+1,n+b.ins.length),?_,⟨hold.trans a.oldH,by omega,?_⟩,?_⟩
      · (repeat' (first|exact trivial|exact rfl|apply And.intro));done
      · show n+b.ins.length=sizeS (bl.take (i+1))
        omega
      · show bl.length - (i+1) < bl.length - i
        omega
    · have hii:i=bl.length:=by omega
      subst hii
      rw [List.take_length] at hn
      repeat (first|((with_reducible first|apply RS.move|apply RS.assign);iterate 3 exact rfl)|((with_reducible apply RS.cmpF);(iterate 4 exact rfl);(simp only [cmpN];omega))|((with_reducible apply RS.nil);exact mixed;kernel_rfl)|(with_reducible first|apply W.seq|apply W.exit|apply W.ret|apply thenK_n|apply thenK_e|apply roundN_e)|((with_reducible apply W.reg);kernel_rfl)|((with_reducible apply W.condF);kernel_rfl;exact rfl)|((with_reducible apply blockK_hit);exact rfl))
      exact endsK_ret _ (.cons (.tmp rfl) .nil) fun B' a=>⟨by rw [hn];rfl,fun j x hj=>a.up _ _ (hold.up hd _ _ hj)⟩
end Go.Proofs.YtjhloakacicdiaaDoor
namespace Go.AH
variable {P:Program}
section
variable {ops:Array Oper} {draw:Bool} {rs:List Rk} {l:List Oper} {fl:List (Nat × Value)} {nt:Nat} {h:SH} {K:Fr→SH→Prop} {d:Tmp} {ty:TypeId} {pos:String} {af:Array Edge} {gd:Option (Nat × Bool)}
theorem RS.quo2 {t yt:TypeId} {x:Operand} {a:Nat} (hw:wantB ops ⟨some d,.binOp .quo t x (.const (.int .i64 2)) yt,ty,pos,af,gd⟩ ⟨fl,nt⟩=some true) (hd:Nat.blt d nt=true)
    (hx:Fr.ev ⟨fl,nt⟩ x=some (.int .i64 (a:Int))) (ha:a≤9223372036854775807)
    (hk:RS P ops draw (recP h.k false [] (some [])::rs) l ⟨(d,.int .i64 ((a / 2:Nat):Int))::fl,nt⟩ h K):RS P ops draw rs (⟨some d,.binOp .quo t x (.const (.int .i64 2)) yt,ty,pos,af,gd⟩::l) ⟨fl,nt⟩ h K:=by
  refine RS.quo hw hd hx (b:=2) rfl (by decide) ?_
  have e:IntKind.i64.wrap ((a:Int).tdiv 2)=((a / 2:Nat):Int):=by
    rw [Int.tdiv_eq_ediv_of_nonneg (by omega),wrap64_fit (by omega) (by omega)];omega
  rw [e];exact hk
end
end Go.AH
namespace Go.Proofs.YtjhloakacicdiaaDoor
open Go.AH
attribute [local irreducible] W RS
def swapL {α:Type} (l:List α) (i j:Nat):List α:=match l[i]?,l[j]? with
  | some a,some b=>(l.set i b).set j a
  | _,_=>l
def revK {α:Type} (l:List α):Nat→List α
  | 0=>l
  | k+1=>swapL (revK l k) k (l.length - 1 - k)
theorem revK_len {α:Type} (l:List α):∀ k,(revK l k).length=l.length:=by
  intro k
  induction k with
  | zero=>rfl
  | succ k ih =>
    unfold revK swapL
    split
    · simp [ih]
    · exact ih
theorem revK_get {α:Type} (l:List α):∀ k,2 * k≤l.length→∀ j,j < l.length→(revK l k)[j]?=if j < k∨l.length≤j+k then l[l.length - 1 - j]? else l[j]?:=by
  intro k
  induction k with
  | zero =>
    intro _ j hj
    rw [if_neg (by omega)];rfl
  | succ k ih =>
    intro hk j hj
    have h1:=ih (by omega) k (by omega)
    have h2:=ih (by omega) (l.length - 1 - k) (by omega)
    rw [if_neg (by omega)] at h1
    rw [if_neg (by omega)] at h2
    have hl1:k < l.length:=by omega
    have hl2:l.length - 1 - k < l.length:=by omega
    rw [List.getElem?_eq_getElem hl1] at h1
    rw [List.getElem?_eq_getElem hl2] at h2
    have hlen:=revK_len l k
    rw [revK,swapL,h1,h2]
    dsimp only
    rw [List.getElem?_set]
    by_cases e1:l.length - 1 - k=j
    · rw [if_pos e1,if_pos (by rw [List.length_set,hlen];exact hl2),if_pos (by omega)]
      have:l.length - 1 - j=k:=by omega
      rw [this,List.getElem?_eq_getElem hl1]
    · rw [if_neg e1,List.getElem?_set]
      by_cases e2:k=j
      · rw [if_pos e2,if_pos (by omega),if_pos (by omega)]
        subst e2
        rw [List.getElem?_eq_getElem hl2]
      · rw [if_neg e2,ih (by omega) j hj]
        by_cases e3:j < k∨l.length≤j+k
        · rw [if_pos e3,if_pos (by omega)]
        · rw [if_neg e3,if_neg (by omega)]
theorem revK_all {α:Type} (l:List α):revK l (l.length / 2)=l.reverse:=by
  apply List.ext_getElem?
  intro j
  by_cases hj:j < l.length
  · rw [revK_get l _ (by omega) j hj,List.getElem?_reverse hj]
    by_cases e:j < l.length / 2∨l.length≤j+l.length / 2
    · rw [if_pos e]
    · rw [if_neg e]
      congr 1
      omega
  · rw [List.getElem?_eq_none_iff.2 (by rw [revK_len];omega),List.getElem?_eq_none_iff.2 (by rw [List.length_reverse];omega)]
theorem revK_step {α:Type} (l:List α) {k:Nat} (hk:k < l.length / 2):∃ a b,(revK l k)[k]?=some a∧(revK l k)[l.length - 1 - k]?=some b∧revK l (k+1)=((revK l k).set k b).set (l.length - 1 - k) a:=by
  have hlen:=revK_len l k
  refine ⟨(revK l k)[k]'(by omega),(revK l k)[l.length - 1 - k]'(by omega),List.getElem?_eq_getElem _,List.getElem?_eq_getElem _,?_⟩
  rw [revK,swapL,List.getElem?_eq_getElem (by omega),List.getElem?_eq_getElem (by omega)]
theorem insrow_take {l:List InsV} {i off:Nat} {x:InsV} (hx:l[i]?=some x) (ho:off=i * 12):takeV off 12 (l.map insVC).flatten=insVC x∧off+12≤(l.map insVC).flatten.length:=by
  subst ho
  exact flat_take (ins_wid l) (by rw [List.getElem?_map,hx];rfl)
theorem insrow_put {l:List InsV} {i off:Nat} {x y:InsV} (hx:l[i]?=some x) (ho:off=i * 12):setL (l.map insVC).flatten off (insVC y)=((l.set i y).map insVC).flatten:=by
  have hw:=ins_wid l
  have:=flat_set hw (i:=i) (o:=0) (x:=insVC x) (vs:=insVC y) (by rw [List.getElem?_map,hx];rfl) (by rw [insVC_length];decide)
  rw [ho,List.map_set]
  have e:setL (insVC x) 0 (insVC y)=insVC y:=rfl
  rw [e] at this
  simpa using this
theorem insA_sl {h:Hp} {x:InsV} (ha:x.1.args≠[]→h.m x.2=some ⟨⟨argsC x.1.args⟩,46⟩):SlAt h (insA x) 2 x.1.args argR:=by
  unfold insA
  by_cases e:x.1.args=[]
  · rw [e];exact .nil
  · rw [if_neg e];exact argR_row (ha e)
theorem rowVl_map {α β:Type} (sz r:Nat) (g:α→β) (l:List α):rowVl sz r (l.map g)=rowVl sz r l:=by cases l<;>simp [rowVl]
theorem Old.offS {a b c:Hp} {S:Nat→Prop} (h1:Old a b) (h2:OffS S b c) (hs:∀ j,S j→a.n≤j):Old a c :=
  ⟨Nat.le_trans h1.1 h2.1,fun i hi=>by rw [h2.2 i (Nat.lt_of_lt_of_le hi h1.1) fun e=>by have:=hs i e;omega,h1.2 i hi]⟩
theorem put_tfL {L:Nat} (s:SetS) (hL:s.length=L) (A:Option Addr) (c:Nat) (i:Int) (hi:fitI i) (hl:L≤1000000000) (h:Hp) (hs:SetAt h A s):TF Tryd.prog 18 ⟨[.slice A L c,.int .i64 i]⟩ h (.tuple #[]) (setH h A (putS s i)):=by
  subst hL;exact put_tf s A c i hi hl h hs
theorem has_tfL {L:Nat} (s:SetS) (hL:s.length=L) (A:Option Addr) (c:Nat) (i:Int) (hi:fitI i) (hl:L≤1000000000) (h:Hp) (hs:SetAt h A s):TF Tryd.prog 21 ⟨[.slice A L c,.int .i64 i]⟩ h (.bool (hasS s i)) h:=by
  subst hL;exact has_tf s A c i hi hl h hs
theorem onceL_len:∀ (bl:List BlockS) (os:List SetS),(onceL bl os).length=bl.length
  | [],[]=>rfl
  | [],_::_=>rfl
  | _::_,[]=>rfl
  | b::bl,o::os=>by rw [onceL,List.length_cons,List.length_cons,onceL_len bl os]
theorem onceL_get:∀ (bl:List BlockS) (os:List SetS) (i:Nat) (b:BlockS) (o:SetS),bl[i]?=some b→os[i]?=some o→(onceL bl os)[i]?=some (onceB b o)
  | [],_,_,_,_,h,_=>by simp at h
  | _::_,[],_,_,_,_,h=>by simp at h
  | b::bl,o::os,0,_,_,h1,h2=>by
    simp at h1 h2
    subst h1;subst h2;rfl
  | b::bl,o::os,i+1,b',o',h1,h2=>by
    rw [onceL,List.getElem?_cons_succ]
    exact onceL_get bl os i b' o' (by simpa using h1) (by simpa using h2)
structure OnI (h:Hp) (bb:Nat) (bv:List BV) (fb:Nat) (f:FuncS) (A1:Option Addr) (c1:Nat) (A2:Option Addr) (c2 c3 rb ob:Nat) (ao:List Nat) (L N:Nat) (outs:List SetS) (i:Nat) (bw:List BV) (B:Hp):Prop where
  own:OwnB B bb bw
  fm:B.m fb=some ⟨⟨funcC f A1 c1 A2 c2 (some ⟨bb,0,none⟩) c3⟩,37⟩
  rm:B.m rb=some ⟨⟨cellsV (.agg ⟨funcC ⟨⟨#[]⟩,0,0,0,[],[]⟩ none 0 none 0 none 0⟩)⟩,37⟩
  off:OffS (fun j=>j=bb) h B
  so:SetsAt B N ob ao outs L
  len:bw.length=bv.length
  rest:∀ j,i≤j→bw[j]?=bv[j]?
  new:∀ b∈bw.take i,b.ins≠[]→h.n≤b.r
  pl:(sL bw).take i=(onceL (sL bv) outs).take i
  sub:∀ b'∈bw,∀ x∈b'.ins,∃ b∈bv,x∈b.ins
theorem OnI.up {h:Hp} {bb:Nat} {bv:List BV} {fb:Nat} {f:FuncS} {A1:Option Addr} {c1:Nat} {A2:Option Addr} {c2 c3 rb ob:Nat} {ao:List Nat} {L N:Nat} {outs:List SetS} {i:Nat} {bw:List BV} {B B':Hp} (s:OnI h bb bv fb f A1 c1 A2 c2 c3 rb ob ao L N outs i bw B) (hd:∀ i x,B.m i=some x→i < B.n) (o:Old B B'):OnI h bb bv fb f A1 c1 A2 c2 c3 rb ob ao L N outs i bw B' :=
  ⟨s.own.up (o.up hd),o.up hd _ _ s.fm,o.up hd _ _ s.rm,s.off.same o.off,s.so.up (o.up hd),s.len,s.rest,s.new,s.pl,s.sub⟩
theorem OnI.next {h:Hp} {bb:Nat} {bv:List BV} {fb:Nat} {f:FuncS} {A1:Option Addr} {c1:Nat} {A2:Option Addr} {c2 c3 rb ob:Nat} {ao:List Nat} {L N:Nat} {outs:List SetS} {i:Nat} {bw:List BV} {B H:Hp} (s:OnI h bb bv fb f A1 c1 A2 c2 c3 rb ob ao L N outs i bw B) (hd:∀ i x,B.m i=some x→i < B.n) (hH:rwM≤h.n)
    {b:BV} (hb:bv[i]?=some b) {o:SetS} (ho:outs[i]?=some o) {acc:List InsV} {r:Nat} (hT:acc.map (·.1)=(onceB b.s o).ins) (hsub:∀ x∈acc,x∈b.ins) (hold:Old B H)
    (hrow:acc≠[]→B.n≤r∧H.m r=some ⟨⟨(acc.map insVC).flatten⟩,58⟩) :
    OnI h bb bv fb f A1 c1 A2 c2 c3 rb ob ao L N outs (i+1) (bw.set i ⟨acc,r,b.term⟩) (H.set bb ⟨⟨((bw.set i ⟨acc,r,b.term⟩).map BV.c).flatten⟩,50⟩):=by
  have hi:i < bv.length:=(List.getElem?_eq_some_iff.1 hb).1
  have hil:i < bw.length:=by rw [s.len];exact hi
  have hbw:bw[i]?=some b:=by rw [s.rest i (Nat.le_refl _)];exact hb
  have s':=s.up hd hold
  have hO:=s'.own.m
  have keep:∀ {j:Nat} {x:Blk},H.m j=some x→x.elem≠50→∀ z,(H.set bb z).m j=some x:=by
    intro j x hx he z
    show (if j=bb then _ else _)=_
    rw [if_neg (ne_of_elem hx hO he)]
    exact hx
  have hbn:h.n≤B.n:=s.off.1
  have hrows:∀ x∈bw,x.ins≠[]→x.r < B.n:=fun x hx hn=>hd _ _ (s.own.row x hx hn).2
  refine ⟨s'.own.setI (by show (if bb=bb then _ else _)=_;rw [if_pos rfl]) (fun j x hx he=>keep hx (by rw [he];decide) _) (fun j x hx hj hn=>?_) (fun hn=>⟨Nat.le_trans (Nat.le_trans hH hbn) (hrow hn).1,keep (hrow hn).2 (by simp) _⟩) (fun x hx hn=>?_) (fun j x hx hj hn hn' e=>?_),keep s'.fm (by simp) _,keep s'.rm (by simp) _,s'.off.same (OffS.set _ _ _),?_,by simp [s.len],fun j hj=>?_,fun x hx hn=>?_,?_,fun x hx y hy=>?_⟩
  · have:=(s'.own.row x (List.mem_of_getElem? hx) hn).2
    rw [keep this (by simp),this]
  · exact s'.own.arg b (List.mem_of_getElem? hbw) x (hsub x hx) hn
  · have h1:=hrows x (List.mem_of_getElem? hx) hn
    have h2:=(hrow hn').1
    have e:x.r=r:=e
    omega
  · have hob':ob≠bb:=ne_of_elem s'.so.m hO (by simp)
    refine ⟨keep s'.so.m (by simp) _,s'.so.len,fun j a x h1 h2=>⟨keep (s'.so.pt j a x h1 h2).1 (by simp) _,(s'.so.pt j a x h1 h2).2⟩⟩
  · rw [List.getElem?_set,if_neg (by omega)]
    exact s.rest j (by omega)
  · rw [List.take_set] at hx
    obtain ⟨j,hj⟩:=List.mem_iff_getElem?.1 hx
    rw [List.getElem?_set] at hj
    split at hj
    · split at hj
      · have hj:=Option.some.inj hj
        subst hj
        exact Nat.le_trans hbn (hrow hn).1
      · exact absurd hj (by simp)
    · rename_i hne
      have hjl:j < i+1:=by
        have:=(List.getElem?_eq_some_iff.1 hj).1
        simp at this
        omega
      rw [List.getElem?_take_of_lt hjl] at hj
      exact s.new x (List.mem_of_getElem? (i:=j) (by rw [List.getElem?_take_of_lt (show j < i by omega)];exact hj)) hn
  · rw [sL_set]
    have hbs:(⟨acc,r,b.term⟩:BV).s=onceB b.s o:=by
      unfold BV.s
      show (⟨acc.map (·.1),b.term⟩:BlockS)=_
      rw [hT];rfl
    have h1:=onceL_get (sL bv) outs i b.s o (sL_at hb) ho
    apply List.ext_getElem?
    intro j
    by_cases hj:j < i+1
    · rw [List.getElem?_take_of_lt hj,List.getElem?_take_of_lt hj,List.getElem?_set]
      by_cases e:i=j
      · subst e
        rw [if_pos rfl,if_pos (by rw [sL_length];exact hil),hbs,h1]
      · rw [if_neg e]
        have:=congrArg (fun l=>l[j]?) s.pl
        simp only [List.getElem?_take_of_lt (show j < i by omega)] at this
        exact this
    · rw [List.getElem?_eq_none_iff.2 (by simp;omega),List.getElem?_eq_none_iff.2 (by simp;omega)]
  · rcases mem_set hx with h1|h1
    · exact s.sub x h1 y hy
    · subst h1
      exact ⟨b,List.mem_of_getElem? hb,hsub y hy⟩
end Go.Proofs.YtjhloakacicdiaaDoor
